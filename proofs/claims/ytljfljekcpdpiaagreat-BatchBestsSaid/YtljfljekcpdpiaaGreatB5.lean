import Derived.Test.YtljfljekcpdpiaaGreatB4
import Derived.KernelRfl
import Derived.Shelf.Abstract
import Derived.Laws.EntriesVeiled
set_option linter.unusedVariables false
set_option linter.unusedSimpArgs false
set_option maxHeartbeats 8000000
set_option maxRecDepth 1000000
namespace Go.Proofs.YtljfljekcpdpiaaGreat.PB
open Go.RowKit Go.Proofs.YtljfljekcpdpiaaGreatW.PrintWords Go.Proofs.YtljfljekcpdpiaaGreatW.PrintLast Go.Proofs.YtljfljekcpdpiaaGreatW.PrintMore
section
def lw_Example.f  : Option (List ByteArray × (List (S70)) × (List (S27)) × (List (S89)) × Int × Int × Int) := some ((([(⟨#[115, 105]⟩ : ByteArray), (⟨#[110, 97]⟩ : ByteArray)] : List ByteArray)), (([(⟨(⟨#[115, 97, 110, 100]⟩ : ByteArray), 1, 0, 0, 200, 20, (([(⟨980, 1000⟩ : S27), (⟨0, 0⟩ : S27)] : List (S27)))⟩ : S70), (⟨(⟨#[115, 111, 100, 97]⟩ : ByteArray), 4, 0, 0, 100, 20, (([(⟨0, 0⟩ : S27), (⟨570, 580⟩ : S27)] : List (S27)))⟩ : S70)] : List (S70))), (([(⟨700, 800⟩ : S27), (⟨200, 300⟩ : S27)] : List (S27))), ([] : List (S89)), (-9999), 9999, 100)
theorem lw_Example.calls  (r1 : List ByteArray) (r2 : List (S70)) (r3 : List (S27)) (r4 : List (S89)) (r5 : Int) (r6 : Int) (r7 : Int) (w : World) (h : lw_Example.f  = some (r1, r2, r3, r4, r5, r6, r7)) :
  Calls Tryz.prog 45 #[] w fun e w' => ∃ v0_ v1_ v2_ v3_ : Value, e = .returned (.agg #[v0_, v1_, v2_, v3_, .int .i64 r5, .int .i64 r6, .int .i64 r7]) ∧ Kd.R Kd.string 9 w' w.heap.size (fun k_ => (w.heap.size ≤ k_)) v0_ r1 ∧ Kd.N k70 70 w' w.heap.size (fun k_ => (w.heap.size ≤ k_) ∧ some k_ ≠ (v0_ : Value).ownBlock ∧ some k_ ≠ (v2_ : Value).ownBlock ∧ some k_ ≠ (v3_ : Value).ownBlock) v1_ r2 ∧ Kd.R k27 27 w' w.heap.size (fun k_ => (w.heap.size ≤ k_)) v2_ r3 ∧ Kd.N k89 89 w' w.heap.size (fun k_ => (w.heap.size ≤ k_) ∧ some k_ ≠ (v0_ : Value).ownBlock ∧ some k_ ≠ (v1_ : Value).ownBlock ∧ some k_ ≠ (v2_ : Value).ownBlock) v3_ r4 ∧ Below w.heap.size w w' := by
 have hu29 := Tryz.underlying29; have hu27 := Tryz.underlying27; have hu70 := Tryz.underlying70; have HB := Sd.mk (Below.refl w.heap.size w)
 have H : (some ((([(⟨#[115, 105]⟩ : ByteArray), (⟨#[110, 97]⟩ : ByteArray)] : List ByteArray)), (([(⟨(⟨#[115, 97, 110, 100]⟩ : ByteArray), 1, 0, 0, 200, 20, (([(⟨980, 1000⟩ : S27), (⟨0, 0⟩ : S27)] : List (S27)))⟩ : S70), (⟨(⟨#[115, 111, 100, 97]⟩ : ByteArray), 4, 0, 0, 100, 20, (([(⟨0, 0⟩ : S27), (⟨570, 580⟩ : S27)] : List (S27)))⟩ : S70)] : List (S70))), (([(⟨700, 800⟩ : S27), (⟨200, 300⟩ : S27)] : List (S27))), ([] : List (S89)), (-9999), 9999, 100)) = some (r1, r2, r3, r4, r5, r6, r7) := h
 clear h
 obtain ⟨y177, hy177⟩ : ∃ y_ : List ByteArray, y_ = (([(⟨#[115, 105]⟩ : ByteArray), (⟨#[110, 97]⟩ : ByteArray)] : List ByteArray)) := ⟨_, rfl⟩
 replace H : (some (y177, (([(⟨(⟨#[115, 97, 110, 100]⟩ : ByteArray), 1, 0, 0, 200, 20, (([(⟨980, 1000⟩ : S27), (⟨0, 0⟩ : S27)] : List (S27)))⟩ : S70), (⟨(⟨#[115, 111, 100, 97]⟩ : ByteArray), 4, 0, 0, 100, 20, (([(⟨0, 0⟩ : S27), (⟨570, 580⟩ : S27)] : List (S27)))⟩ : S70)] : List (S70))), (([(⟨700, 800⟩ : S27), (⟨200, 300⟩ : S27)] : List (S27))), ([] : List (S89)), (-9999), 9999, 100)) = some (r1, r2, r3, r4, r5, r6, r7) := by first | (rw [hy177]; with_reducible exact H) | (have H2_ := (Option.bind_some _ _).symm.trans H; rw [hy177]; with_reducible exact H2_) | (have H2_ := (Option.bind_some _ _).symm.trans H; with_reducible exact H2_) | with_reducible exact H | (rw [hy177]; exact H) | exact H
 have Ny177 := Sd.mk hy177; clear hy177
 obtain ⟨y180, hy180⟩ : ∃ y_ : List (S27), y_ = (([(⟨700, 800⟩ : S27), (⟨200, 300⟩ : S27)] : List (S27))) := ⟨_, rfl⟩
 replace H : (some (y177, (([(⟨(⟨#[115, 97, 110, 100]⟩ : ByteArray), 1, 0, 0, 200, 20, (([(⟨980, 1000⟩ : S27), (⟨0, 0⟩ : S27)] : List (S27)))⟩ : S70), (⟨(⟨#[115, 111, 100, 97]⟩ : ByteArray), 4, 0, 0, 100, 20, (([(⟨0, 0⟩ : S27), (⟨570, 580⟩ : S27)] : List (S27)))⟩ : S70)] : List (S70))), y180, ([] : List (S89)), (-9999), 9999, 100)) = some (r1, r2, r3, r4, r5, r6, r7) := by first | (rw [hy180]; with_reducible exact H) | (have H2_ := (Option.bind_some _ _).symm.trans H; rw [hy180]; with_reducible exact H2_) | (have H2_ := (Option.bind_some _ _).symm.trans H; with_reducible exact H2_) | with_reducible exact H | (rw [hy180]; exact H) | exact H
 have Ny180 := Sd.mk hy180; clear hy180
 obtain ⟨y183, hy183⟩ : ∃ y_ : List (S27), y_ = (([(⟨980, 1000⟩ : S27), (⟨0, 0⟩ : S27)] : List (S27))) := ⟨_, rfl⟩
 replace H : (some (y177, (([(⟨(⟨#[115, 97, 110, 100]⟩ : ByteArray), 1, 0, 0, 200, 20, y183⟩ : S70), (⟨(⟨#[115, 111, 100, 97]⟩ : ByteArray), 4, 0, 0, 100, 20, (([(⟨0, 0⟩ : S27), (⟨570, 580⟩ : S27)] : List (S27)))⟩ : S70)] : List (S70))), y180, ([] : List (S89)), (-9999), 9999, 100)) = some (r1, r2, r3, r4, r5, r6, r7) := by first | (rw [hy183]; with_reducible exact H) | (have H2_ := (Option.bind_some _ _).symm.trans H; rw [hy183]; with_reducible exact H2_) | (have H2_ := (Option.bind_some _ _).symm.trans H; with_reducible exact H2_) | with_reducible exact H | (rw [hy183]; exact H) | exact H
 have Ny183 := Sd.mk hy183; clear hy183
 obtain ⟨y186, hy186⟩ : ∃ y_ : List (S27), y_ = (([(⟨0, 0⟩ : S27), (⟨570, 580⟩ : S27)] : List (S27))) := ⟨_, rfl⟩
 replace H : (some (y177, (([(⟨(⟨#[115, 97, 110, 100]⟩ : ByteArray), 1, 0, 0, 200, 20, y183⟩ : S70), (⟨(⟨#[115, 111, 100, 97]⟩ : ByteArray), 4, 0, 0, 100, 20, y186⟩ : S70)] : List (S70))), y180, ([] : List (S89)), (-9999), 9999, 100)) = some (r1, r2, r3, r4, r5, r6, r7) := by first | (rw [hy186]; with_reducible exact H) | (have H2_ := (Option.bind_some _ _).symm.trans H; rw [hy186]; with_reducible exact H2_) | (have H2_ := (Option.bind_some _ _).symm.trans H; with_reducible exact H2_) | with_reducible exact H | (rw [hy186]; exact H) | exact H
 have Ny186 := Sd.mk hy186; clear hy186
 obtain ⟨y189, hy189⟩ : ∃ y_ : List (S70), y_ = (([(⟨(⟨#[115, 97, 110, 100]⟩ : ByteArray), 1, 0, 0, 200, 20, y183⟩ : S70), (⟨(⟨#[115, 111, 100, 97]⟩ : ByteArray), 4, 0, 0, 100, 20, y186⟩ : S70)] : List (S70))) := ⟨_, rfl⟩
 replace H : (some (y177, y189, y180, ([] : List (S89)), (-9999), 9999, 100)) = some (r1, r2, r3, r4, r5, r6, r7) := by first | (rw [hy189]; with_reducible exact H) | (have H2_ := (Option.bind_some _ _).symm.trans H; rw [hy189]; with_reducible exact H2_) | (have H2_ := (Option.bind_some _ _).symm.trans H; with_reducible exact H2_) | with_reducible exact H | (rw [hy189]; exact H) | exact H
 have Ny189 := Sd.mk hy189; clear hy189
 simp only [Option.some.injEq, Prod.mk.injEq] at H
 obtain ⟨rfl, rfl, rfl, rfl, rfl, rfl, rfl⟩ := H
 go_enter Tryz.func45, Tryz.ntmps45
 go_wp2_with (first | ((with_reducible refine gate_dst (N := 0) rfl ?_); refine box_event ?hg (N := 0) ?hd (cs := #[.slice none 0 0, .slice none 0 0, .slice none 0 0, .slice none 0 0, .int .i64 0, .int .i64 0, .int .i64 0]) (t := 29) ?hr ?_; (case hd => rfl); (case hg => rfl); (case hr => exact tG); intro gb176 hg w1 hbox hb; have BK176 := Sd.mk (hbox); have GW176 := Sd.mk (bSz hg (bBl HB.out)); have GE176 := Sd.mk (bSz hg (bBl HB.out)); replace HB := Sd.mk (below_step (bBl HB.out) hb); clear hb hbox hg) | ((with_reducible refine gate_dst (N := 1) rfl ?_); refine Kd.R_lit Kd.string _ 9 ?hg (N := 1) ?hd (xs := ([(⟨#[115, 105]⟩ : ByteArray), (⟨#[110, 97]⟩ : ByteArray)] : List ByteArray)) (inner := [.string (⟨#[115, 105]⟩ : ByteArray), .string (⟨#[110, 97]⟩ : ByteArray)]) (ok := fun _ => True) (okp := fun _ => True) ?hr ?hp (fun _ hk => hk) trivial (Below.refl _ _) (Nat.le_refl _) (by simp) ?_; (case hd => rfl); (case hg => rfl); (case hr => exact tG); (case hp => exact (Reps.one (show Kd.M Kd.string _ _ _ (⟨#[115, 105]⟩ : ByteArray) [.string (⟨#[115, 105]⟩ : ByteArray)] from rfl) (Reps.one (show Kd.M Kd.string _ _ _ (⟨#[110, 97]⟩ : ByteArray) [.string (⟨#[110, 97]⟩ : ByteArray)] from rfl) (Reps.none _ _)))); intro v178 w2 ho3 hb hg_ hnew_; clear hg_ hnew_; (first | rw [← Ny177.out] at ho3 | (simp only [Int.reduceToNat] at ho3; rw [← Ny177.out] at ho3)); have HO179 := Sd.mk (Kd.R_lower (Kd.R_newM (M := fun k_ => (w.heap.size ≤ k_)) ho3 (below_size (bBl HB.out)) (fun k_ h_ => h_)) (below_size (bBl HB.out))); replace BK176 := Sd.mk (blk_below (bkA BK176.out) hb); replace HB := Sd.mk (below_step (bBl HB.out) hb); clear hb ho3) | ((with_reducible refine gate_dst (N := 4) rfl ?_); refine Kd.R_lit k27 _ 27 ?hg (N := 4) ?hd (xs := ([(⟨700, 800⟩ : S27), (⟨200, 300⟩ : S27)] : List (S27))) (inner := [.int .i64 700, .int .i64 800, .int .i64 200, .int .i64 300]) (ok := fun _ => True) (okp := fun _ => True) ?hr ?hp (fun _ hk => hk) trivial (Below.refl _ _) (Nat.le_refl _) (by simp) ?_; (case hd => rfl); (case hg => rfl); (case hr => exact tG); (case hp => exact (Reps.c2 (show Kd.M k27 _ _ _ (⟨700, 800⟩ : S27) [.int .i64 700, .int .i64 800] from (k27_mkM _ _ _ (⟨700, 800⟩ : S27) )) (Reps.c2 (show Kd.M k27 _ _ _ (⟨200, 300⟩ : S27) [.int .i64 200, .int .i64 300] from (k27_mkM _ _ _ (⟨200, 300⟩ : S27) )) (Reps.none _ _)))); intro v181 w4 ho5 hb hg_ hnew_; clear hg_ hnew_; (first | rw [← Ny180.out] at ho5 | (simp only [Int.reduceToNat] at ho5; rw [← Ny180.out] at ho5)); replace HO179 := Sd.mk (Kd.R_below (by (with_reducible repeat (first | apply Kd.R_alloc | apply Kd.R_drewN | apply Kd.R_drew)); exact HO179.out) hb); have HO182 := Sd.mk (Kd.R_lower (Kd.R_newM (M := fun k_ => (w.heap.size ≤ k_)) ho5 (below_size (bBl HB.out)) (fun k_ h_ => h_)) (below_size (bBl HB.out))); replace BK176 := Sd.mk (blk_below (bkA BK176.out) hb); replace HB := Sd.mk (below_step (bBl HB.out) hb); clear hb ho5) | ((with_reducible refine gate_dst (N := 8) rfl ?_); refine Kd.R_lit k27 _ 27 ?hg (N := 8) ?hd (xs := ([(⟨980, 1000⟩ : S27), (⟨0, 0⟩ : S27)] : List (S27))) (inner := [.int .i64 980, .int .i64 1000, .int .i64 0, .int .i64 0]) (ok := fun _ => True) (okp := fun _ => True) ?hr ?hp (fun _ hk => hk) trivial (Below.refl _ _) (Nat.le_refl _) (by simp) ?_; (case hd => rfl); (case hg => rfl); (case hr => exact tG); (case hp => exact (Reps.c2 (show Kd.M k27 _ _ _ (⟨980, 1000⟩ : S27) [.int .i64 980, .int .i64 1000] from (k27_mkM _ _ _ (⟨980, 1000⟩ : S27) )) (Reps.c2 (show Kd.M k27 _ _ _ (⟨0, 0⟩ : S27) [.int .i64 0, .int .i64 0] from (k27_mkM _ _ _ (⟨0, 0⟩ : S27) )) (Reps.none _ _)))); intro v184 w6 ho7 hb hg_ hnew_; clear hg_ hnew_; (first | rw [← Ny183.out] at ho7 | (simp only [Int.reduceToNat] at ho7; rw [← Ny183.out] at ho7)); replace HO179 := Sd.mk (Kd.R_below (by (with_reducible repeat (first | apply Kd.R_alloc | apply Kd.R_drewN | apply Kd.R_drew)); exact HO179.out) hb); have HO185 := Sd.mk (Kd.R_lower (Kd.R_new' (Kd.R_newM (M := fun k_ => (w.heap.size ≤ k_)) ho7 (below_size (bBl HB.out)) (fun k_ h_ => h_)) (Kd.R_lt (by (with_reducible repeat (first | apply Kd.R_alloc | apply Kd.R_drewN | apply Kd.R_drew)); exact HO182.out))) (below_size (bBl HB.out))); replace HO182 := Sd.mk (Kd.R_elder' (by (with_reducible repeat (first | apply Kd.R_alloc | apply Kd.R_drewN | apply Kd.R_drew)); exact HO182.out) (Kd.R_base ho7) hb); replace BK176 := Sd.mk (blk_below (bkA BK176.out) hb); replace HB := Sd.mk (below_step (bBl HB.out) hb); clear hb ho7; obtain ⟨Ao8, co8, eo8⟩ := Kd.R_slice HO185.out; subst eo8) | ((with_reducible refine gate_dst (N := 12) rfl ?_); refine Kd.R_lit k27 _ 27 ?hg (N := 12) ?hd (xs := ([(⟨0, 0⟩ : S27), (⟨570, 580⟩ : S27)] : List (S27))) (inner := [.int .i64 0, .int .i64 0, .int .i64 570, .int .i64 580]) (ok := fun _ => True) (okp := fun _ => True) ?hr ?hp (fun _ hk => hk) trivial (Below.refl _ _) (Nat.le_refl _) (by simp) ?_; (case hd => rfl); (case hg => rfl); (case hr => exact tG); (case hp => exact (Reps.c2 (show Kd.M k27 _ _ _ (⟨0, 0⟩ : S27) [.int .i64 0, .int .i64 0] from (k27_mkM _ _ _ (⟨0, 0⟩ : S27) )) (Reps.c2 (show Kd.M k27 _ _ _ (⟨570, 580⟩ : S27) [.int .i64 570, .int .i64 580] from (k27_mkM _ _ _ (⟨570, 580⟩ : S27) )) (Reps.none _ _)))); intro v187 w9 ho10 hb hg_ hnew_; clear hg_ hnew_; (first | rw [← Ny186.out] at ho10 | (simp only [Int.reduceToNat] at ho10; rw [← Ny186.out] at ho10)); replace HO179 := Sd.mk (Kd.R_below (by (with_reducible repeat (first | apply Kd.R_alloc | apply Kd.R_drewN | apply Kd.R_drew)); exact HO179.out) hb); have HO188 := Sd.mk (Kd.R_lower (Kd.R_new' (Kd.R_new' (Kd.R_newM (M := fun k_ => (w.heap.size ≤ k_)) ho10 (below_size (bBl HB.out)) (fun k_ h_ => h_)) (Kd.R_lt (by (with_reducible repeat (first | apply Kd.R_alloc | apply Kd.R_drewN | apply Kd.R_drew)); exact HO182.out))) (Kd.R_lt (by (with_reducible repeat (first | apply Kd.R_alloc | apply Kd.R_drewN | apply Kd.R_drew)); exact HO185.out))) (below_size (bBl HB.out))); replace HO182 := Sd.mk (Kd.R_elder' (by (with_reducible repeat (first | apply Kd.R_alloc | apply Kd.R_drewN | apply Kd.R_drew)); exact HO182.out) (Kd.R_base ho10) hb); replace HO185 := Sd.mk (Kd.R_elder' (by (with_reducible repeat (first | apply Kd.R_alloc | apply Kd.R_drewN | apply Kd.R_drew)); exact HO185.out) (Kd.R_base ho10) hb); replace BK176 := Sd.mk (blk_below (bkA BK176.out) hb); replace HB := Sd.mk (below_step (bBl HB.out) hb); clear hb ho10; obtain ⟨Ao11, co11, eo11⟩ := Kd.R_slice HO188.out; subst eo11) | ((with_reducible refine gate_dst (N := 14) rfl ?_); refine Kd.N_lit k70 _ 70 ?hg (N' := 14) ?hd (xs := ([(⟨(⟨#[115, 97, 110, 100]⟩ : ByteArray), 1, 0, 0, 200, 20, y183⟩ : S70), (⟨(⟨#[115, 111, 100, 97]⟩ : ByteArray), 4, 0, 0, 100, 20, y186⟩ : S70)] : List (S70))) (inner := [.string (⟨#[115, 97, 110, 100]⟩ : ByteArray), .int .i64 1, .int .i64 0, .int .i64 0, .int .i64 200, .int .i64 20, .slice Ao8 y183.length co8, .string (⟨#[115, 111, 100, 97]⟩ : ByteArray), .int .i64 4, .int .i64 0, .int .i64 0, .int .i64 100, .int .i64 20, .slice Ao11 y186.length co11]) (ok := (fun k_ => (w.heap.size ≤ k_) ∧ some k_ ≠ (v178 : Value).ownBlock ∧ some k_ ≠ (v181 : Value).ownBlock ∧ k_ ≠ gb176)) (okp := (fun k_ => (w.heap.size ≤ k_) ∧ some k_ ≠ (v178 : Value).ownBlock ∧ some k_ ≠ (v181 : Value).ownBlock ∧ k_ ≠ gb176)) ?hr ?hp (fun _ hk => hk) ((show ∀ k_, w9.heap.size ≤ k_ → (fun k_ => (w.heap.size ≤ k_) ∧ some k_ ≠ (v178 : Value).ownBlock ∧ some k_ ≠ (v181 : Value).ownBlock ∧ k_ ≠ gb176) k_ from fun k_ hk => ⟨(Nat.le_trans (below_size (bBl HB.out)) hk), Kd.fresh' (Kd.R_lt (by (with_reducible repeat (first | apply Kd.R_alloc | apply Kd.R_drewN | apply Kd.R_drew)); exact HO179.out)) k_ hk, Kd.fresh' (Kd.R_lt (by (with_reducible repeat (first | apply Kd.R_alloc | apply Kd.R_drewN | apply Kd.R_drew)); exact HO182.out)) k_ hk, Kd.freshB (bkA BK176.out) k_ hk⟩) _ (Nat.le_refl _)) (Below.refl _ _) (Nat.le_refl _) (by simp) ?_; (case hd => rfl); (case hg => rfl); (case hr => exact tG); (case hp => exact (Reps.c7 (show Kd.FK k70 _ _ (⟨(⟨#[115, 97, 110, 100]⟩ : ByteArray), 1, 0, 0, 200, 20, y183⟩ : S70) [.string (⟨#[115, 97, 110, 100]⟩ : ByteArray), .int .i64 1, .int .i64 0, .int .i64 0, .int .i64 200, .int .i64 20, .slice Ao8 y183.length co8] from (k70_mkF _ _ (⟨(⟨#[115, 97, 110, 100]⟩ : ByteArray), 1, 0, 0, 200, 20, y183⟩ : S70) (Kd.R_reads' (Kd.R_mono (ok' := (fun k_ => (w.heap.size ≤ k_) ∧ some k_ ≠ (v178 : Value).ownBlock ∧ some k_ ≠ (v181 : Value).ownBlock ∧ k_ ≠ gb176)) (Kd.R_types (Kd.R_apart' (HO185.out) (Kd.R_typed HO179.out) (by decide)) BK176.out (by decide)) (fun k_ hk => ⟨hk.1.1.1.1.1, ⟨hk.1.2, ⟨hk.1.1.1.2, hk.2⟩⟩⟩))).2.1 (Kd.R_F (Kd.R_mono (ok' := (fun k_ => (w.heap.size ≤ k_) ∧ some k_ ≠ (v178 : Value).ownBlock ∧ some k_ ≠ (v181 : Value).ownBlock ∧ k_ ≠ gb176)) (Kd.R_types (Kd.R_apart' (HO185.out) (Kd.R_typed HO179.out) (by decide)) BK176.out (by decide)) (fun k_ hk => ⟨hk.1.1.1.1.1, ⟨hk.1.2, ⟨hk.1.1.1.2, hk.2⟩⟩⟩))))) (Reps.c7 (show Kd.FK k70 _ _ (⟨(⟨#[115, 111, 100, 97]⟩ : ByteArray), 4, 0, 0, 100, 20, y186⟩ : S70) [.string (⟨#[115, 111, 100, 97]⟩ : ByteArray), .int .i64 4, .int .i64 0, .int .i64 0, .int .i64 100, .int .i64 20, .slice Ao11 y186.length co11] from (k70_mkF _ _ (⟨(⟨#[115, 111, 100, 97]⟩ : ByteArray), 4, 0, 0, 100, 20, y186⟩ : S70) (Kd.R_reads' (Kd.R_mono (ok' := (fun k_ => (w.heap.size ≤ k_) ∧ some k_ ≠ (v178 : Value).ownBlock ∧ some k_ ≠ (v181 : Value).ownBlock ∧ k_ ≠ gb176)) (Kd.R_types (Kd.R_apart' (HO188.out) (Kd.R_typed HO179.out) (by decide)) BK176.out (by decide)) (fun k_ hk => ⟨hk.1.1.1.1.1, ⟨hk.1.2, ⟨hk.1.1.1.2, hk.2⟩⟩⟩))).2.1 (Kd.R_F (Kd.R_mono (ok' := (fun k_ => (w.heap.size ≤ k_) ∧ some k_ ≠ (v178 : Value).ownBlock ∧ some k_ ≠ (v181 : Value).ownBlock ∧ k_ ≠ gb176)) (Kd.R_types (Kd.R_apart' (HO188.out) (Kd.R_typed HO179.out) (by decide)) BK176.out (by decide)) (fun k_ hk => ⟨hk.1.1.1.1.1, ⟨hk.1.2, ⟨hk.1.1.1.2, hk.2⟩⟩⟩))))) (Reps.none _ _)))); intro v190 w12 ho13 hb hg_ hnew_; clear hg_ hnew_; (first | rw [← Ny189.out] at ho13 | (simp only [Int.reduceToNat] at ho13; rw [← Ny189.out] at ho13)); replace HO179 := Sd.mk (Kd.R_below (by (with_reducible repeat (first | apply Kd.R_alloc | apply Kd.R_drewN | apply Kd.R_drew)); exact HO179.out) hb); replace HO182 := Sd.mk (Kd.R_below (by (with_reducible repeat (first | apply Kd.R_alloc | apply Kd.R_drewN | apply Kd.R_drew)); exact HO182.out) hb); have HO191 := Sd.mk (Kd.N_lower ho13 (below_size (bBl HB.out))); replace BK176 := Sd.mk (blk_below (bkA BK176.out) hb); replace HB := Sd.mk (below_step (bBl HB.out) hb); clear HO185 HO188; clear hb ho13; obtain ⟨Ao14, co14, eo14⟩ := Kd.R_slice HO182.out; subst eo14; obtain ⟨Ao15, co15, eo15⟩ := Kd.N_slice HO191.out; subst eo15; obtain ⟨Ao16, co16, eo16⟩ := Kd.R_slice HO179.out; subst eo16; obtain ⟨u17_0, u17_1, u17_2, u17_3, u17_4, u17_5, u17_6, o170, o171, o172, o173, o174, o175, o176⟩ := bc7 (w := w12) BK176.out))
 refine bodyPost_ret (results_cell_row rfl _ _ gb176 29 #[.slice Ao16 y177.length co16, .slice Ao15 y189.length co15, .slice Ao14 y180.length co14, .slice none 0 0, .int .i64 (-9999), .int .i64 9999, .int .i64 100] (0, 0) _ rfl (by refine bkZ ?_; refine blk_put (cs := #[.slice Ao16 y177.length co16, .slice Ao15 y189.length co15, .slice Ao14 y180.length co14, .slice none 0 0, .int .i64 (-9999), .int .i64 9999, .int .i64 0]) ?_ 6 _ rfl; refine bkZ ?_; refine blk_put (cs := #[.slice Ao16 y177.length co16, .slice Ao15 y189.length co15, .slice Ao14 y180.length co14, .slice none 0 0, .int .i64 (-9999), .int .i64 0, .int .i64 0]) ?_ 5 _ rfl; refine bkZ ?_; refine blk_put (cs := #[.slice Ao16 y177.length co16, .slice Ao15 y189.length co15, .slice Ao14 y180.length co14, .slice none 0 0, .int .i64 0, .int .i64 0, .int .i64 0]) ?_ 4 _ rfl; refine bkZ ?_; refine blk_put (cs := #[.slice Ao16 y177.length co16, .slice Ao15 y189.length co15, .slice Ao14 y180.length co14, .slice none 0 0, .int .i64 0, .int .i64 0, .int .i64 0]) ?_ 3 _ rfl; refine bkZ ?_; refine blk_put (cs := #[.slice Ao16 y177.length co16, .slice Ao15 y189.length co15, .slice none 0 0, .slice none 0 0, .int .i64 0, .int .i64 0, .int .i64 0]) ?_ 2 _ rfl; refine bkZ ?_; refine blk_put (cs := #[.slice Ao16 y177.length co16, .slice none 0 0, .slice none 0 0, .slice none 0 0, .int .i64 0, .int .i64 0, .int .i64 0]) ?_ 1 _ rfl; refine bkZ ?_; refine blk_put (cs := #[.slice none 0 0, .slice none 0 0, .slice none 0 0, .slice none 0 0, .int .i64 0, .int .i64 0, .int .i64 0]) ?_ 0 _ rfl; refine bkZ ?_; exact BK176.out) Tryz.underlying29 rfl (by kernel_rfl)) rfl ?_
 exact ⟨_, _, _, _, tE, by (with_reducible repeat (first | apply Kd.R_alloc | apply Kd.R_drewN | apply Kd.R_drew)); exact Kd.R_mono (Kd.R_far (p := ⟨gb176, 6, none⟩) (Kd.R_far (p := ⟨gb176, 5, none⟩) (Kd.R_far (p := ⟨gb176, 4, none⟩) (Kd.R_far (p := ⟨gb176, 3, none⟩) (Kd.R_far (p := ⟨gb176, 2, none⟩) (Kd.R_far (p := ⟨gb176, 1, none⟩) (Kd.R_far (p := ⟨gb176, 0, none⟩) (Kd.R_types HO179.out BK176.out (by decide)) (fun _ hk => hk.2) (.slice Ao16 y177.length co16)) (fun _ hk => hk.2) (.slice Ao15 y189.length co15)) (fun _ hk => hk.2) (.slice Ao14 y180.length co14)) (fun _ hk => hk.2) (.slice none 0 0)) (fun _ hk => hk.2) (.int .i64 (-9999))) (fun _ hk => hk.2) (.int .i64 9999)) (fun _ hk => hk.2) (.int .i64 100)) (fun _ hk => hk.1.1), by (with_reducible repeat (first | apply Kd.N_alloc | apply Kd.N_drewN | apply Kd.N_drew)); exact Kd.N_mono (Kd.N_far (p := ⟨gb176, 6, none⟩) (Kd.N_far (p := ⟨gb176, 5, none⟩) (Kd.N_far (p := ⟨gb176, 4, none⟩) (Kd.N_far (p := ⟨gb176, 3, none⟩) (Kd.N_far (p := ⟨gb176, 2, none⟩) (Kd.N_far (p := ⟨gb176, 1, none⟩) (Kd.N_far (p := ⟨gb176, 0, none⟩) (Kd.N_mono HO191.out (fun k_ hk => (⟨hk, hk.2.2.2⟩ : _ ∧ k_ ≠ gb176))) (fun _ hk => hk.2) (.slice Ao16 y177.length co16)) (fun _ hk => hk.2) (.slice Ao15 y189.length co15)) (fun _ hk => hk.2) (.slice Ao14 y180.length co14)) (fun _ hk => hk.2) (.slice none 0 0)) (fun _ hk => hk.2) (.int .i64 (-9999))) (fun _ hk => hk.2) (.int .i64 9999)) (fun _ hk => hk.2) (.int .i64 100)) (fun _ hk => ⟨hk.1.1, ⟨hk.1.2.1, ⟨hk.1.2.2.1, (by simp [Value.ownBlock])⟩⟩⟩), by (with_reducible repeat (first | apply Kd.R_alloc | apply Kd.R_drewN | apply Kd.R_drew)); exact Kd.R_mono (Kd.R_far (p := ⟨gb176, 6, none⟩) (Kd.R_far (p := ⟨gb176, 5, none⟩) (Kd.R_far (p := ⟨gb176, 4, none⟩) (Kd.R_far (p := ⟨gb176, 3, none⟩) (Kd.R_far (p := ⟨gb176, 2, none⟩) (Kd.R_far (p := ⟨gb176, 1, none⟩) (Kd.R_far (p := ⟨gb176, 0, none⟩) (Kd.R_types HO182.out BK176.out (by decide)) (fun _ hk => hk.2) (.slice Ao16 y177.length co16)) (fun _ hk => hk.2) (.slice Ao15 y189.length co15)) (fun _ hk => hk.2) (.slice Ao14 y180.length co14)) (fun _ hk => hk.2) (.slice none 0 0)) (fun _ hk => hk.2) (.int .i64 (-9999))) (fun _ hk => hk.2) (.int .i64 9999)) (fun _ hk => hk.2) (.int .i64 100)) (fun _ hk => hk.1.1.1.1), by first | exact Kd.R_nil _ _ _ _ _ | exact Kd.N_nil _ _ _ _ _ | exact Kd.V_nil _ _ _ _ _ | exact Kd.Q_nil _ _ _ _ _ | exact Kd.S_nil _ _ _ _ _, bBl HB.out⟩
end
section
def lw_lives.f (k : Nat)  : Option (Bool) := (lw_Example.f).bind fun bt194 => ((x_Glass.f k bt194.1 bt194.2.1 bt194.2.2.1 bt194.2.2.2.1 bt194.2.2.2.2.1 bt194.2.2.2.2.2.1 bt194.2.2.2.2.2.2 (([80, 60] : List Int))).bind fun bt212 => (if bt212.2 = 0 then ((lw_SameSpans.f k bt212.1 (([(⟨692, 701⟩ : S27), (⟨299, 308⟩ : S27)] : List (S27)))).bind fun t219 => (some t219)) else (some false)))
theorem lw_lives.mono : ∀ k, LeO (lw_lives.f k ) (lw_lives.f (k + 1) ) := by
 intro  k
 unfold lw_lives.f
 repeat' first
   | (with_reducible exact lw_SameSpans.mono _ _ _)
   | (with_reducible exact x_Glass.mono _ _ _ _ _ _ _ _ _)
   | (with_reducible exact LeO.refl _)
   | (with_reducible exact LeO.none _)
   | (with_reducible refine LeO.ite ?_ ?_)
   | (with_reducible refine LeO.bind ?_ (fun _ => ?_))
   | exact LeO.none _
   | refine LeO.ite ?_ ?_
   | refine LeO.bind ?_ (fun _ => ?_)
theorem lw_lives.calls (k : Nat)  (r : Bool) (w : World) (h : lw_lives.f k  = some r) :
  Calls Tryz.prog 12 #[] w fun e w' => e = .returned (.bool r) ∧ Below w.heap.size w w' := by
 have hu27 := Tryz.underlying27; have HB := Sd.mk (Below.refl w.heap.size w)
 have H : ((lw_Example.f).bind fun bt194 => ((x_Glass.f k bt194.1 bt194.2.1 bt194.2.2.1 bt194.2.2.2.1 bt194.2.2.2.2.1 bt194.2.2.2.2.2.1 bt194.2.2.2.2.2.2 (([80, 60] : List Int))).bind fun bt212 => (if bt212.2 = 0 then ((lw_SameSpans.f k bt212.1 (([(⟨692, 701⟩ : S27), (⟨299, 308⟩ : S27)] : List (S27)))).bind fun t219 => (some t219)) else (some false)))) = some r := h
 clear h; replace H := Option.bind_eq_some_iff.mp H
 obtain ⟨⟨t194, t197, t200, t203, t206, t207, t208⟩, A10, H⟩ := H
 try dsimp only at H
 have A1 := Sd.mk A10; clear A10
 obtain ⟨y209, hy209⟩ : ∃ y_ : List Int, y_ = (([80, 60] : List Int)) := ⟨_, rfl⟩
 replace H : ((x_Glass.f k t194 t197 t200 t203 t206 t207 t208 y209).bind fun bt212 => (if bt212.2 = 0 then ((lw_SameSpans.f k bt212.1 (([(⟨692, 701⟩ : S27), (⟨299, 308⟩ : S27)] : List (S27)))).bind fun t219 => (some t219)) else (some false))) = some r := by first | (rw [hy209]; with_reducible exact H) | (have H2_ := (Option.bind_some _ _).symm.trans H; rw [hy209]; with_reducible exact H2_) | (have H2_ := (Option.bind_some _ _).symm.trans H; with_reducible exact H2_) | with_reducible exact H | (rw [hy209]; exact H) | exact H
 have Ny209 := Sd.mk hy209; clear hy209; replace H := Option.bind_eq_some_iff.mp H
 obtain ⟨⟨t212, t215⟩, A20, H⟩ := H
 try dsimp only at H
 have A2 := Sd.mk A20; clear A20
 by_cases c3 : t215 = 0
 ·rw [if_pos c3] at H
  have c3b0 : (t215 == 0) = true := beq_iff_eq.mpr c3
  have c3b1 : (t215 != 0) = false := bne_eq_false_iff_eq.mpr c3
  clear c3
  obtain ⟨y216, hy216⟩ : ∃ y_ : List (S27), y_ = (([(⟨692, 701⟩ : S27), (⟨299, 308⟩ : S27)] : List (S27))) := ⟨_, rfl⟩
  replace H : ((lw_SameSpans.f k t212 y216).bind fun t219 => (some t219)) = some r := by first | (rw [hy216]; with_reducible exact H) | (have H2_ := (Option.bind_some _ _).symm.trans H; rw [hy216]; with_reducible exact H2_) | (have H2_ := (Option.bind_some _ _).symm.trans H; with_reducible exact H2_) | with_reducible exact H | (rw [hy216]; exact H) | exact H
  have Ny216 := Sd.mk hy216; clear hy216; replace H := Option.bind_eq_some_iff.mp H; obtain ⟨t219, A40, H⟩ := H
  try dsimp only at H
  have A4 := Sd.mk A40; clear A40; obtain rfl := Option.some.inj H
  go_enter Tryz.func12, Tryz.ntmps12
  go_wp2_with (first | ((with_reducible refine gate_callee (f := 45) rfl ?_); refine goesL_ (some 4) rfl rfl Tryz.func45 (by kernel_rfl) rfl #[] rfl tM ?_; (with_reducible refine (lw_Example.calls  t194 t197 t200 t203 t206 t207 t208 _ A1.out).mono ?_); rintro e w5 ⟨v195, v198, v201, v204, rfl, ho0, ho1, ho2, ho3, hb⟩; refine ⟨_, rfl, ?_⟩; have HO196 := Sd.mk (Kd.R_lower (Kd.R_mono (ok' := fun k_ => True) ho0 (fun _ hk_ => trivial)) (below_size (bBl HB.out))); have HO199 := Sd.mk (Kd.N_lower (Kd.N_mono (ok' := fun k_ => some k_ ≠ (v195 : Value).ownBlock ∧ some k_ ≠ (v201 : Value).ownBlock ∧ some k_ ≠ (v204 : Value).ownBlock) ho1 (fun k_ hk_ => ⟨hk_.2.1, hk_.2.2.1, hk_.2.2.2⟩)) (below_size (bBl HB.out))); have HO202 := Sd.mk (Kd.R_lower (Kd.R_mono (ok' := fun k_ => True) ho2 (fun _ hk_ => trivial)) (below_size (bBl HB.out))); have HO205 := Sd.mk (Kd.N_lower (Kd.N_mono (ok' := fun k_ => some k_ ≠ (v195 : Value).ownBlock ∧ some k_ ≠ (v198 : Value).ownBlock ∧ some k_ ≠ (v201 : Value).ownBlock) ho3 (fun k_ hk_ => ⟨hk_.2.1, hk_.2.2.1, hk_.2.2.2⟩)) (below_size (bBl HB.out))); replace HB := Sd.mk (below_step (bBl HB.out) hb); (try clear hb); (try clear hb2); (try clear hk); (try clear hi); (try clear ho0); (try clear ho1); (try clear ho2); (try clear ho3)) | ((with_reducible refine gate_dst (N := 5) rfl ?_); (try (refine gate_guard (by rfl) ?_; dsimp only)); refine Kd.R_lit (Kd.int .i64) _ 3 ?hg (N := 5) ?hd (xs := ([80, 60] : List Int)) (inner := [.int .i64 80, .int .i64 60]) (ok := fun _ => True) (okp := fun _ => True) ?hr ?hp (fun _ hk => hk) trivial (Below.refl _ _) (Nat.le_refl _) (by simp) ?_; (case hd => rfl); (case hg => rfl); (case hr => exact tG); (case hp => exact (Reps.one (show Kd.M (Kd.int .i64) _ _ _ 80 [.int .i64 80] from rfl) (Reps.one (show Kd.M (Kd.int .i64) _ _ _ 60 [.int .i64 60] from rfl) (Reps.none _ _)))); intro v210 w6 ho7 hb hg_ hnew_; clear hg_ hnew_; (first | rw [← Ny209.out] at ho7 | (simp only [Int.reduceToNat] at ho7; rw [← Ny209.out] at ho7)); replace HO196 := Sd.mk (Kd.R_below (by (with_reducible repeat (first | apply Kd.R_alloc | apply Kd.R_drewN | apply Kd.R_drew)); exact HO196.out) hb); replace HO199 := Sd.mk (Kd.N_elder' (by (with_reducible repeat (first | apply Kd.N_alloc | apply Kd.N_drewN | apply Kd.N_drew)); exact HO199.out) (Kd.R_base ho7) hb); replace HO202 := Sd.mk (Kd.R_below (by (with_reducible repeat (first | apply Kd.R_alloc | apply Kd.R_drewN | apply Kd.R_drew)); exact HO202.out) hb); replace HO205 := Sd.mk (Kd.N_elder' (by (with_reducible repeat (first | apply Kd.N_alloc | apply Kd.N_drewN | apply Kd.N_drew)); exact HO205.out) (Kd.R_base ho7) hb); have HO211 := Sd.mk (Kd.R_lower ho7 (below_size (bBl HB.out))); replace HB := Sd.mk (below_step (bBl HB.out) hb); clear hb ho7; obtain ⟨Ao8, co8, eo8⟩ := Kd.R_slice HO196.out; subst eo8; obtain ⟨Ao9, co9, eo9⟩ := Kd.N_slice HO199.out; subst eo9; obtain ⟨Ao10, co10, eo10⟩ := Kd.R_slice HO202.out; subst eo10; obtain ⟨Ao11, co11, eo11⟩ := Kd.N_slice HO205.out; subst eo11; obtain ⟨Ao12, co12, eo12⟩ := Kd.R_slice HO211.out; subst eo12) | ((with_reducible refine gate_callee (f := 26) rfl ?_); refine goesL_ (some 6) rfl rfl Tryz.func26 (by kernel_rfl) rfl #[.agg #[.slice Ao8 t194.length co8, .slice Ao9 t197.length co9, .slice Ao10 t200.length co10, .slice Ao11 t203.length co11, .int .i64 t206, .int .i64 t207, .int .i64 t208], .slice Ao12 y209.length co12] rfl tM ?_; (with_reducible refine (x_Glass.calls k _ _ t194 _ _ t197 _ _ t200 _ _ t203 t206 t207 t208 _ _ y209 t212 t215 _ (cS ((Kd.R_reads' HO196.out).2.2)) ((Kd.R_reads' HO196.out).2.1) (cS ((Kd.N_reads' HO199.out).2.2)) ((Kd.N_reads' HO199.out).2.1) (cS ((Kd.R_reads' HO202.out).2.2)) ((Kd.R_reads' HO202.out).2.1) (cS ((Kd.N_reads' HO205.out).2.2)) ((Kd.N_reads' HO205.out).2.1) (cS ((Kd.R_reads' HO211.out).2.2)) ((Kd.R_reads' HO211.out).2.1) A2.out).mono ?_); rintro e w13 ⟨v213, rfl, ho0, hb⟩; refine ⟨_, rfl, ?_⟩; replace HO196 := Sd.mk (Kd.R_below (by (with_reducible repeat (first | apply Kd.R_alloc | apply Kd.R_drewN | apply Kd.R_drew)); exact HO196.out) hb); replace HO199 := Sd.mk (Kd.N_elder' (by (with_reducible repeat (first | apply Kd.N_alloc | apply Kd.N_drewN | apply Kd.N_drew)); exact HO199.out) (Kd.R_base ho0) hb); replace HO205 := Sd.mk (Kd.N_elder' (by (with_reducible repeat (first | apply Kd.N_alloc | apply Kd.N_drewN | apply Kd.N_drew)); exact HO205.out) (Kd.R_base ho0) hb); replace HO211 := Sd.mk (Kd.R_below (by (with_reducible repeat (first | apply Kd.R_alloc | apply Kd.R_drewN | apply Kd.R_drew)); exact HO211.out) hb); have HO214 := Sd.mk (Kd.R_lower (Kd.R_new' ho0 (Kd.R_lt (by (with_reducible repeat (first | apply Kd.R_alloc | apply Kd.R_drewN | apply Kd.R_drew)); exact HO202.out))) (below_size (bBl HB.out))); replace HO202 := Sd.mk (Kd.R_elder' (by (with_reducible repeat (first | apply Kd.R_alloc | apply Kd.R_drewN | apply Kd.R_drew)); exact HO202.out) (Kd.R_base ho0) hb); replace HB := Sd.mk (below_step (bBl HB.out) hb); (try clear hb); (try clear hb2); (try clear hk); (try clear hi); (try clear ho0)) | ((with_reducible refine gate_dst (N := 15) rfl ?_); (try (refine gate_guard (by rfl) ?_; dsimp only)); refine Kd.R_lit k27 _ 27 ?hg (N := 15) ?hd (xs := ([(⟨692, 701⟩ : S27), (⟨299, 308⟩ : S27)] : List (S27))) (inner := [.int .i64 692, .int .i64 701, .int .i64 299, .int .i64 308]) (ok := fun _ => True) (okp := fun _ => True) ?hr ?hp (fun _ hk => hk) trivial (Below.refl _ _) (Nat.le_refl _) (by simp) ?_; (case hd => rfl); (case hg => rfl); (case hr => exact tG); (case hp => exact (Reps.c2 (show Kd.M k27 _ _ _ (⟨692, 701⟩ : S27) [.int .i64 692, .int .i64 701] from (k27_mkM _ _ _ (⟨692, 701⟩ : S27) )) (Reps.c2 (show Kd.M k27 _ _ _ (⟨299, 308⟩ : S27) [.int .i64 299, .int .i64 308] from (k27_mkM _ _ _ (⟨299, 308⟩ : S27) )) (Reps.none _ _)))); intro v217 w14 ho15 hb hg_ hnew_; clear hg_ hnew_; (first | rw [← Ny216.out] at ho15 | (simp only [Int.reduceToNat] at ho15; rw [← Ny216.out] at ho15)); replace HO196 := Sd.mk (Kd.R_below (by (with_reducible repeat (first | apply Kd.R_alloc | apply Kd.R_drewN | apply Kd.R_drew)); exact HO196.out) hb); replace HO199 := Sd.mk (Kd.N_elder' (by (with_reducible repeat (first | apply Kd.N_alloc | apply Kd.N_drewN | apply Kd.N_drew)); exact HO199.out) (Kd.R_base ho15) hb); replace HO205 := Sd.mk (Kd.N_elder' (by (with_reducible repeat (first | apply Kd.N_alloc | apply Kd.N_drewN | apply Kd.N_drew)); exact HO205.out) (Kd.R_base ho15) hb); replace HO211 := Sd.mk (Kd.R_below (by (with_reducible repeat (first | apply Kd.R_alloc | apply Kd.R_drewN | apply Kd.R_drew)); exact HO211.out) hb); have HO218 := Sd.mk (Kd.R_lower (Kd.R_new' (Kd.R_new' ho15 (Kd.R_lt (by (with_reducible repeat (first | apply Kd.R_alloc | apply Kd.R_drewN | apply Kd.R_drew)); exact HO202.out))) (Kd.R_lt (by (with_reducible repeat (first | apply Kd.R_alloc | apply Kd.R_drewN | apply Kd.R_drew)); exact HO214.out))) (below_size (bBl HB.out))); replace HO202 := Sd.mk (Kd.R_elder' (by (with_reducible repeat (first | apply Kd.R_alloc | apply Kd.R_drewN | apply Kd.R_drew)); exact HO202.out) (Kd.R_base ho15) hb); replace HO214 := Sd.mk (Kd.R_elder' (by (with_reducible repeat (first | apply Kd.R_alloc | apply Kd.R_drewN | apply Kd.R_drew)); exact HO214.out) (Kd.R_base ho15) hb); replace HB := Sd.mk (below_step (bBl HB.out) hb); clear hb ho15; obtain ⟨Ao16, co16, eo16⟩ := Kd.R_slice HO214.out; subst eo16; obtain ⟨Ao17, co17, eo17⟩ := Kd.R_slice HO218.out; subst eo17) | (go_at_call 49; (with_reducible refine (lw_SameSpans.calls k _ _ t212 _ _ y216 t219 _ (cS ((Kd.R_reads' HO214.out).2.2)) ((Kd.R_reads' HO214.out).2.1) (cS ((Kd.R_reads' HO218.out).2.2)) ((Kd.R_reads' HO218.out).2.1) A4.out).mono ?_); rintro e w' ⟨rfl, ⟨nd, rfl⟩⟩))
  go_ret
  exact ⟨tE, bBl HB.out⟩
 ·rw [if_neg c3] at H
  have c3b0 : (t215 == 0) = false := beq_eq_false_iff_ne.mpr c3
  have c3b1 : (t215 != 0) = true := bne_iff_ne.mpr c3
  obtain rfl := Option.some.inj H
  go_enter Tryz.func12, Tryz.ntmps12
  go_wp2_with (first | ((with_reducible refine gate_callee (f := 45) rfl ?_); refine goesL_ (some 4) rfl rfl Tryz.func45 (by kernel_rfl) rfl #[] rfl tM ?_; (with_reducible refine (lw_Example.calls  t194 t197 t200 t203 t206 t207 t208 _ A1.out).mono ?_); rintro e w18 ⟨v195, v198, v201, v204, rfl, ho0, ho1, ho2, ho3, hb⟩; refine ⟨_, rfl, ?_⟩; have HO196 := Sd.mk (Kd.R_lower (Kd.R_mono (ok' := fun k_ => True) ho0 (fun _ hk_ => trivial)) (below_size (bBl HB.out))); have HO199 := Sd.mk (Kd.N_lower (Kd.N_mono (ok' := fun k_ => some k_ ≠ (v195 : Value).ownBlock ∧ some k_ ≠ (v201 : Value).ownBlock ∧ some k_ ≠ (v204 : Value).ownBlock) ho1 (fun k_ hk_ => ⟨hk_.2.1, hk_.2.2.1, hk_.2.2.2⟩)) (below_size (bBl HB.out))); have HO202 := Sd.mk (Kd.R_lower (Kd.R_mono (ok' := fun k_ => True) ho2 (fun _ hk_ => trivial)) (below_size (bBl HB.out))); have HO205 := Sd.mk (Kd.N_lower (Kd.N_mono (ok' := fun k_ => some k_ ≠ (v195 : Value).ownBlock ∧ some k_ ≠ (v198 : Value).ownBlock ∧ some k_ ≠ (v201 : Value).ownBlock) ho3 (fun k_ hk_ => ⟨hk_.2.1, hk_.2.2.1, hk_.2.2.2⟩)) (below_size (bBl HB.out))); replace HB := Sd.mk (below_step (bBl HB.out) hb); (try clear hb); (try clear hb2); (try clear hk); (try clear hi); (try clear ho0); (try clear ho1); (try clear ho2); (try clear ho3)) | ((with_reducible refine gate_dst (N := 5) rfl ?_); (try (refine gate_guard (by rfl) ?_; dsimp only)); refine Kd.R_lit (Kd.int .i64) _ 3 ?hg (N := 5) ?hd (xs := ([80, 60] : List Int)) (inner := [.int .i64 80, .int .i64 60]) (ok := fun _ => True) (okp := fun _ => True) ?hr ?hp (fun _ hk => hk) trivial (Below.refl _ _) (Nat.le_refl _) (by simp) ?_; (case hd => rfl); (case hg => rfl); (case hr => exact tG); (case hp => exact (Reps.one (show Kd.M (Kd.int .i64) _ _ _ 80 [.int .i64 80] from rfl) (Reps.one (show Kd.M (Kd.int .i64) _ _ _ 60 [.int .i64 60] from rfl) (Reps.none _ _)))); intro v210 w19 ho20 hb hg_ hnew_; clear hg_ hnew_; (first | rw [← Ny209.out] at ho20 | (simp only [Int.reduceToNat] at ho20; rw [← Ny209.out] at ho20)); replace HO196 := Sd.mk (Kd.R_below (by (with_reducible repeat (first | apply Kd.R_alloc | apply Kd.R_drewN | apply Kd.R_drew)); exact HO196.out) hb); replace HO199 := Sd.mk (Kd.N_elder' (by (with_reducible repeat (first | apply Kd.N_alloc | apply Kd.N_drewN | apply Kd.N_drew)); exact HO199.out) (Kd.R_base ho20) hb); replace HO202 := Sd.mk (Kd.R_below (by (with_reducible repeat (first | apply Kd.R_alloc | apply Kd.R_drewN | apply Kd.R_drew)); exact HO202.out) hb); replace HO205 := Sd.mk (Kd.N_elder' (by (with_reducible repeat (first | apply Kd.N_alloc | apply Kd.N_drewN | apply Kd.N_drew)); exact HO205.out) (Kd.R_base ho20) hb); have HO211 := Sd.mk (Kd.R_lower ho20 (below_size (bBl HB.out))); replace HB := Sd.mk (below_step (bBl HB.out) hb); clear hb ho20; obtain ⟨Ao21, co21, eo21⟩ := Kd.R_slice HO196.out; subst eo21; obtain ⟨Ao22, co22, eo22⟩ := Kd.N_slice HO199.out; subst eo22; obtain ⟨Ao23, co23, eo23⟩ := Kd.R_slice HO202.out; subst eo23; obtain ⟨Ao24, co24, eo24⟩ := Kd.N_slice HO205.out; subst eo24; obtain ⟨Ao25, co25, eo25⟩ := Kd.R_slice HO211.out; subst eo25) | ((with_reducible refine gate_callee (f := 26) rfl ?_); refine goesL_ (some 6) rfl rfl Tryz.func26 (by kernel_rfl) rfl #[.agg #[.slice Ao21 t194.length co21, .slice Ao22 t197.length co22, .slice Ao23 t200.length co23, .slice Ao24 t203.length co24, .int .i64 t206, .int .i64 t207, .int .i64 t208], .slice Ao25 y209.length co25] rfl tM ?_; (with_reducible refine (x_Glass.calls k _ _ t194 _ _ t197 _ _ t200 _ _ t203 t206 t207 t208 _ _ y209 t212 t215 _ (cS ((Kd.R_reads' HO196.out).2.2)) ((Kd.R_reads' HO196.out).2.1) (cS ((Kd.N_reads' HO199.out).2.2)) ((Kd.N_reads' HO199.out).2.1) (cS ((Kd.R_reads' HO202.out).2.2)) ((Kd.R_reads' HO202.out).2.1) (cS ((Kd.N_reads' HO205.out).2.2)) ((Kd.N_reads' HO205.out).2.1) (cS ((Kd.R_reads' HO211.out).2.2)) ((Kd.R_reads' HO211.out).2.1) A2.out).mono ?_); rintro e w26 ⟨v213, rfl, ho0, hb⟩; refine ⟨_, rfl, ?_⟩; replace HO196 := Sd.mk (Kd.R_below (by (with_reducible repeat (first | apply Kd.R_alloc | apply Kd.R_drewN | apply Kd.R_drew)); exact HO196.out) hb); replace HO199 := Sd.mk (Kd.N_elder' (by (with_reducible repeat (first | apply Kd.N_alloc | apply Kd.N_drewN | apply Kd.N_drew)); exact HO199.out) (Kd.R_base ho0) hb); replace HO205 := Sd.mk (Kd.N_elder' (by (with_reducible repeat (first | apply Kd.N_alloc | apply Kd.N_drewN | apply Kd.N_drew)); exact HO205.out) (Kd.R_base ho0) hb); replace HO211 := Sd.mk (Kd.R_below (by (with_reducible repeat (first | apply Kd.R_alloc | apply Kd.R_drewN | apply Kd.R_drew)); exact HO211.out) hb); have HO214 := Sd.mk (Kd.R_lower (Kd.R_new' ho0 (Kd.R_lt (by (with_reducible repeat (first | apply Kd.R_alloc | apply Kd.R_drewN | apply Kd.R_drew)); exact HO202.out))) (below_size (bBl HB.out))); replace HO202 := Sd.mk (Kd.R_elder' (by (with_reducible repeat (first | apply Kd.R_alloc | apply Kd.R_drewN | apply Kd.R_drew)); exact HO202.out) (Kd.R_base ho0) hb); replace HB := Sd.mk (below_step (bBl HB.out) hb); (try clear hb); (try clear hb2); (try clear hk); (try clear hi); (try clear ho0)))
  go_ret
  exact ⟨tE, bBl HB.out⟩
end
section
def lw_wide.f (l00 : List Int) (l01 : List Int) (a02 : Int) (a03 : Int) (a04 : Int) (l05 : List Int) : Option (Bool) := if (l00.length : Int) > 100 then (some true) else (if (l01.length : Int) > 100 then (some true) else (some (decide ((l05.length : Int) > 100))))
theorem lw_wide.calls (A00 : Option Addr) (c00 : Nat) (l00 : List Int) (A01 : Option Addr) (c01 : Nat) (l01 : List Int) (a02 : Int) (a03 : Int) (a04 : Int) (A05 : Option Addr) (c05 : Nat) (l05 : List Int) (r : Bool) (w : World) (hr00 : Kd.C (Kd.int .i64) w A00 l00.length l00) (hc00 : l00.length ≤ c00) (hr01 : Kd.C (Kd.int .i64) w A01 l01.length l01) (hc01 : l01.length ≤ c01) (hr05 : Kd.C (Kd.int .i64) w A05 l05.length l05) (hc05 : l05.length ≤ c05) (h : lw_wide.f l00 l01 a02 a03 a04 l05 = some r) :
  Calls Tryz.prog 11 #[.agg #[.slice A00 l00.length c00, .slice A01 l01.length c01, .int .i64 a02, .int .i64 a03, .int .i64 a04, .slice A05 l05.length c05]] w fun e w' => e = .returned (.bool r) ∧ Below w.heap.size w w' := by
 have hu34 := Tryz.underlying34; have HR00 := Sd.mk hr00; have HC00 := Sd.mk hc00; clear hr00 hc00; have HR01 := Sd.mk hr01; have HC01 := Sd.mk hc01; clear hr01 hc01; have HR05 := Sd.mk hr05; have HC05 := Sd.mk hc05; clear hr05 hc05; have HB := Sd.mk (Below.refl w.heap.size w)
 have H : (if (l00.length : Int) > 100 then (some true) else (if (l01.length : Int) > 100 then (some true) else (some (decide ((l05.length : Int) > 100))))) = some r := h
 clear h
 by_cases c2 : (l00.length : Int) > 100
 ·rw [if_pos c2] at H
  have c2b0 : decide (100 < (l00.length : Int)) = true := decide_eq_true c2
  have c2b1 : decide (100 < l00.length) = true := decide_eq_true (by omega)
  clear c2; obtain rfl := Option.some.inj H
  go_enter Tryz.func11, Tryz.ntmps11
  go_wp2_with (first | ((with_reducible refine gate_dst (N := 1) rfl ?_); (try (refine gate_guard (by rfl) ?_; dsimp only)); refine box_event ?hg (N := 1) ?hd (cs := #[.slice A00 l00.length c00, .slice A01 l01.length c01, .int .i64 a02, .int .i64 a03, .int .i64 a04, .slice A05 l05.length c05]) (t := 34) ?hr ?_; (case hd => rfl); (case hg => rfl); (case hr => exact tG); intro gb107 hg w3 hbox hb; have BK107 := Sd.mk (hbox); have GW107 := Sd.mk (bSz hg (bBl HB.out)); have GE107 := Sd.mk (bSz hg (bBl HB.out)); replace HB := Sd.mk (below_step (bBl HB.out) hb); clear hb hbox hg; obtain ⟨u4_0, u4_1, u4_2, u4_3, u4_4, u4_5, o40, o41, o42, o43, o44, o45⟩ := bc6 (w := w3) BK107.out))
  go_ret
  exact ⟨tE, bBl HB.out⟩
 ·rw [if_neg c2] at H
  have c2b0 : decide (100 < (l00.length : Int)) = false := decide_eq_false c2
  have c2b1 : decide (100 < l00.length) = false := decide_eq_false (by omega)
  clear c2
  by_cases c5 : (l01.length : Int) > 100
  ·rw [if_pos c5] at H
   have c5b0 : decide (100 < (l01.length : Int)) = true := decide_eq_true c5
   have c5b1 : decide (100 < l01.length) = true := decide_eq_true (by omega)
   clear c5; obtain rfl := Option.some.inj H
   go_enter Tryz.func11, Tryz.ntmps11
   go_wp2_with (first | ((with_reducible refine gate_dst (N := 1) rfl ?_); (try (refine gate_guard (by rfl) ?_; dsimp only)); refine box_event ?hg (N := 1) ?hd (cs := #[.slice A00 l00.length c00, .slice A01 l01.length c01, .int .i64 a02, .int .i64 a03, .int .i64 a04, .slice A05 l05.length c05]) (t := 34) ?hr ?_; (case hd => rfl); (case hg => rfl); (case hr => exact tG); intro gb107 hg w6 hbox hb; have BK107 := Sd.mk (hbox); have GW107 := Sd.mk (bSz hg (bBl HB.out)); have GE107 := Sd.mk (bSz hg (bBl HB.out)); replace HB := Sd.mk (below_step (bBl HB.out) hb); clear hb hbox hg; obtain ⟨u7_0, u7_1, u7_2, u7_3, u7_4, u7_5, o70, o71, o72, o73, o74, o75⟩ := bc6 (w := w6) BK107.out))
   go_ret
   exact ⟨tE, bBl HB.out⟩
  ·rw [if_neg c5] at H
   have c5b0 : decide (100 < (l01.length : Int)) = false := decide_eq_false c5
   have c5b1 : decide (100 < l01.length) = false := decide_eq_false (by omega)
   clear c5; obtain rfl := Option.some.inj H
   go_enter Tryz.func11, Tryz.ntmps11
   go_wp2_with (first | ((with_reducible refine gate_dst (N := 1) rfl ?_); (try (refine gate_guard (by rfl) ?_; dsimp only)); refine box_event ?hg (N := 1) ?hd (cs := #[.slice A00 l00.length c00, .slice A01 l01.length c01, .int .i64 a02, .int .i64 a03, .int .i64 a04, .slice A05 l05.length c05]) (t := 34) ?hr ?_; (case hd => rfl); (case hg => rfl); (case hr => exact tG); intro gb107 hg w8 hbox hb; have BK107 := Sd.mk (hbox); have GW107 := Sd.mk (bSz hg (bBl HB.out)); have GE107 := Sd.mk (bSz hg (bBl HB.out)); replace HB := Sd.mk (below_step (bBl HB.out) hb); clear hb hbox hg; obtain ⟨u9_0, u9_1, u9_2, u9_3, u9_4, u9_5, o90, o91, o92, o93, o94, o95⟩ := bc6 (w := w8) BK107.out))
   go_ret
   exact ⟨tE, bBl HB.out⟩
end
section
section
variable {o : List ByteArray} {mt : List S70} {s : List S27} {p : List S89} {a4 a5 a6 : Int} {r : List Int}
end
section
variable (o : List ByteArray) (mt : List S70) (s : List S27) (p : List S89) (a4 a5 a6 : Int) (r : List Int)
end
section
variable (o : List ByteArray) (mt : List S70) (s : List S27) (p : List S89) (a4 a5 a6 : Int)
theorem great_l2 (hp : p.length ≤ 20) : ∀ (m i : Nat) (x : Int), i + m = p.length → ∃ b, Ev (fun k => lw_Great.l2 k x (i : Int) o mt s p a4 a5 a6) b
  | 0, i, x, hi => by
    refine ⟨decide (x > 2000), ?_⟩
    apply Ev.step
    simp only [lw_Great.l2, if_neg (show ¬ (i : Int) < (p.length : Int) by omega)]
    exact Ev.const _
  | m + 1, i, x, hi => by
    obtain ⟨b, ih⟩ := great_l2 hp m (i + 1) (wrap64 (x + ((rd_T89 p (i : Int)).f0.size : Int))) (by omega)
    by_cases h : (((rd_T89 p (i : Int)).f1).length : Int) > 20
    · refine ⟨true, ?_⟩
      apply Ev.step
      simp only [lw_Great.l2, if_pos (show (i : Int) < (p.length : Int) by omega), if_pos (i_pos i), if_pos h]
      exact Ev.const _
    · refine ⟨b, ?_⟩
      apply Ev.step
      simp only [lw_Great.l2, if_pos (show (i : Int) < (p.length : Int) by omega), if_pos (i_pos i), if_neg h, wrap_succ (i_pos i) (show (i : Int) ≤ 1000000000 by omega)]
      exact ih
theorem great_l1 (hm : mt.length ≤ 20) (hp : p.length ≤ 20) : ∀ (m i : Nat) (x : Int), i + m = mt.length → ∃ b, Ev (fun k => lw_Great.l1 k x (i : Int) o mt s p a4 a5 a6) b
  | 0, i, x, hi => by
    obtain ⟨b, hb⟩ := great_l2 o mt s p a4 a5 a6 hp p.length 0 x (by omega)
    refine ⟨b, ?_⟩
    apply Ev.step
    simp only [lw_Great.l1, if_neg (show ¬ (i : Int) < (mt.length : Int) by omega)]
    exact hb
  | m + 1, i, x, hi => by
    obtain ⟨b, ih⟩ := great_l1 hm hp m (i + 1) (wrap64 (x + ((rd_T70 mt (i : Int)).f0.size : Int))) (by omega)
    by_cases h : (((rd_T70 mt (i : Int)).f6).length : Int) > 20
    · refine ⟨true, ?_⟩
      apply Ev.step
      simp only [lw_Great.l1, if_pos (show (i : Int) < (mt.length : Int) by omega), if_pos (i_pos i), if_pos h]
      exact Ev.const _
    · refine ⟨b, ?_⟩
      apply Ev.step
      simp only [lw_Great.l1, if_pos (show (i : Int) < (mt.length : Int) by omega), if_pos (i_pos i), if_neg h, wrap_succ (i_pos i) (show (i : Int) ≤ 1000000000 by omega)]
      exact ih
theorem great_l0 (ho : o.length ≤ 20) (hm : mt.length ≤ 20) (hp : p.length ≤ 20) : ∀ (m i : Nat) (x : Int), i + m = o.length → ∃ b, Ev (fun k => lw_Great.l0 k x (i : Int) o mt s p a4 a5 a6) b
  | 0, i, x, hi => by
    obtain ⟨b, hb⟩ := great_l1 o mt s p a4 a5 a6 hm hp mt.length 0 x (by omega)
    refine ⟨b, ?_⟩
    apply Ev.step
    simp only [lw_Great.l0, if_neg (show ¬ (i : Int) < (o.length : Int) by omega)]
    exact hb
  | m + 1, i, x, hi => by
    obtain ⟨b, ih⟩ := great_l0 ho hm hp m (i + 1) (wrap64 (x + ((rdOf ByteArray.empty o (i : Int)).size : Int))) (by omega)
    refine ⟨b, ?_⟩
    apply Ev.step
    simp only [lw_Great.l0, if_pos (show (i : Int) < (o.length : Int) by omega), if_pos (i_pos i), wrap_succ (i_pos i) (show (i : Int) ≤ 1000000000 by omega)]
    exact ih
theorem great : ∃ b, Ev (fun k => lw_Great.f k o mt s p a4 a5 a6) b := by
  have ht : Ev (fun k => lw_Great.j0 k true o mt s p a4 a5 a6) true := by
    apply Ev.step
    simp only [lw_Great.j0, if_true]
    exact Ev.const _
  unfold lw_Great.f
  by_cases h1 : (o.length : Int) > 20
  · simp only [if_pos h1]; exact ⟨_, ht⟩
  by_cases h2 : (mt.length : Int) > 20
  · simp only [if_neg h1, if_pos h2]; exact ⟨_, ht⟩
  by_cases h3 : (s.length : Int) > 20
  · simp only [if_neg h1, if_neg h2, if_pos h3]; exact ⟨_, ht⟩
  simp only [if_neg h1, if_neg h2, if_neg h3]
  by_cases h4 : (p.length : Int) > 20
  · rw [show decide ((p.length : Int) > 20) = true by simpa using h4]; exact ⟨_, ht⟩
  · rw [show decide ((p.length : Int) > 20) = false by simpa using h4]
    obtain ⟨b, hb⟩ := great_l0 o mt s p a4 a5 a6 (by omega) (by omega) (by omega) o.length 0 0 (by omega)
    refine ⟨b, ?_⟩
    apply Ev.step
    simp only [lw_Great.j0, Bool.false_eq_true, if_false]
    exact hb
theorem wide_ev (l0 l1 : List Int) (a2 a3 a4 : Int) (l5 : List Int) : ∃ b, lw_wide.f l0 l1 a2 a3 a4 l5 = some b := by
  unfold lw_wide.f
  split
  · exact ⟨_, rfl⟩
  · split <;> exact ⟨_, rfl⟩
end
theorem lives_ev : Ev (fun k => lw_lives.f k) true := by
  refine Ev.of_mono (f := fun k => lw_lives.f k) (K := 60) (fun k => lw_lives.mono k) ?_
  kernel_rfl
section
variable (o : List ByteArray) (mt : List S70) (s : List S27) (p : List S89) (a4 a5 a6 : Int) (r l1 : List Int) (n b3 b4 : Int) (l5 : List Int)
end
end
section
def b_ends.l0 : Nat → Int → Int → List (S27) → Int → Int → Option (Int × Int)
 | 0, _, _, _, _, _ => none
 | k + 1, x2, x3, x7, x8, x9 => if x9 < x8 then (if 0 ≤ x9 then (if x9 < (x7.length : Int) then (b_ends.l0 k (wrap64 (x2 + ((rd_T27 x7 x9).f0))) (wrap64 (x3 + ((rd_T27 x7 x9).f1))) x7 x8 (wrap64 (x9 + 1))) else (none)) else (none)) else (some (x2, x3))
def b_ends.f (k : Nat) (a00 : ByteArray) (a01 : Int) (a02 : Int) (a03 : Int) (a04 : Int) (a05 : Int) (l06 : List (S27)) : Option (Int × Int) := b_ends.l0 k 0 0 l06 (l06.length : Int) 0
theorem b_ends.calls (k : Nat) (a00 : ByteArray) (a01 : Int) (a02 : Int) (a03 : Int) (a04 : Int) (a05 : Int) (A06 : Option Addr) (c06 : Nat) (l06 : List (S27)) (r1 : Int) (r2 : Int) (w : World) (hr06 : Kd.C k27 w A06 l06.length l06) (hc06 : l06.length ≤ c06) (h : b_ends.f k a00 a01 a02 a03 a04 a05 l06 = some (r1, r2)) :
  Calls Tryz.prog 140 #[.agg #[.string a00, .int .i64 a01, .int .i64 a02, .int .i64 a03, .int .i64 a04, .int .i64 a05, .slice A06 l06.length c06]] w fun e w' => e = .returned (.tuple #[.int .i64 r1, .int .i64 r2]) ∧ Below w.heap.size w w' := by
 have hu70 := Tryz.underlying70; have hu27 := Tryz.underlying27; have HR06 := Sd.mk hr06; have HC06 := Sd.mk hc06; clear hr06 hc06; have HB := Sd.mk (Below.refl w.heap.size w)
 have H : (b_ends.l0 k 0 0 l06 (l06.length : Int) 0) = some (r1, r2) := h
 clear h; have H' := Sd.mk H; clear H
 go_enter Tryz.func140, Tryz.ntmps140
 go_wp2_with (first | ((with_reducible refine gate_dst (N := 1) rfl ?_); refine box_event ?hg (N := 1) ?hd (cs := #[.string a00, .int .i64 a01, .int .i64 a02, .int .i64 a03, .int .i64 a04, .int .i64 a05, .slice A06 l06.length c06]) (t := 70) ?hr ?_; (case hd => rfl); (case hg => rfl); (case hr => exact tG); intro gb1006 hg w2 hbox hb; have BK1006 := Sd.mk (hbox); have GW1006 := Sd.mk (bSz hg (bBl HB.out)); have GE1006 := Sd.mk (bSz hg (bBl HB.out)); replace HB := Sd.mk (below_step (bBl HB.out) hb); clear hb hbox hg; obtain ⟨u3_0, u3_1, u3_2, u3_3, u3_4, u3_5, u3_6, o30, o31, o32, o33, o34, o35, o36⟩ := bc7 (w := w2) BK1006.out))
 go_loopg [2, 3, 9] k (fun kq v2 v3 v9 w' => ∃ (x21 : Int) (x31 : Int) (x91 : Int), v2 = .int .i64 x21 ∧ v3 = .int .i64 x31 ∧ v9 = .int .i64 x91 ∧ Sd (b_ends.l0 kq x21 x31 l06 (l06.length : Int) x91 = some (r1, r2)) ∧ Sd (kq ≤ k) ∧ Sd (w'.heap[gb1006]? = some (.cells #[.string a00, .int .i64 a01, .int .i64 a02, .int .i64 a03, .int .i64 a04, .int .i64 a05, (.slice A06 l06.length c06)] 70 (0, 0))) ∧ Sd (Below w.heap.size w w'))
 case atStart => exact ⟨(0), (0), (0), tS, tS, tS, H', ⟨Nat.le_refl _⟩, ⟨bkA BK1006.out⟩, ⟨bBl HB.out⟩⟩
 case round =>
  clear H'; (try clear c1); (try clear p2); (try clear u3_0 u3_1 u3_2 u3_3 u3_4 u3_5 u3_6); (try clear o30 o31 o32 o33 o34 o35 o36); obtain ⟨x21, x31, x91, rfl, rfl, rfl, HA, HK1, BK1006, HB⟩ := hrel
  cases gk with
  | zero => exact absurd HA.out (by simp [b_ends.l0])
  | succ k1 =>
   have H := HA.out; clear HA
   simp only [b_ends.l0] at H
   by_cases c4 : x91 < (l06.length : Int)
   ·rw [if_pos c4] at H
    have c4b0 : decide (x91 < (l06.length : Int)) = true := decide_eq_true c4
    clear c4
    by_cases c5 : 0 ≤ x91
    ·rw [if_pos c5] at H
     have c5b0 : decide (0 ≤ x91) = true := decide_eq_true c5
     clear c5
     by_cases c6 : x91 < (l06.length : Int)
     ·rw [if_pos c6] at H
      have c6b0 : decide (x91 < (l06.length : Int)) = true := decide_eq_true c6
      clear c6; have H' := Sd.mk H; clear H
      have p1007 : 0 ≤ (x91 : Int) := tB
      have q1007 : x91 < (l06.length : Int) := tB
      obtain ⟨ad1007, e1007, hx10070, hx10071⟩ := at_T27 HR06.out x91 p1007 q1007; cases e1007; replace hx10070 := cU HB hx10070; replace hx10071 := cU HB hx10071; replace p1007 := eq_true p1007; replace q1007 := eq_true q1007
      go_wp2_with (first | ((with_reducible refine gate_dst (N := 5) rfl ?_); refine box_event ?hg (N := 5) ?hd (cs := #[.int .i64 0, .int .i64 0]) (t := 27) ?hr ?_; (case hd => rfl); (case hg => rfl); (case hr => exact tG); intro gb1008 hg w7 hbox hb; have BK1008 := Sd.mk (hbox); have GW1008 := Sd.mk (bSz hg (bBl HB.out)); have GE1008 := Sd.mk (bSz hg (bBl HB.out)); replace HB := Sd.mk (below_step (bBl HB.out) hb); have NB10061008 := Sd.mk (bNl hg (bkA BK1006.out)); have NB10081006 := Sd.mk (bNg hg (bkA BK1006.out)); replace BK1006 := Sd.mk (blk_below (bkA BK1006.out) hb); clear hb hbox hg; have hnb8 := NB10081006.out; have hnc8 := NB10061008.out; obtain ⟨u9_0, u9_1, o90, o91⟩ := bc2 (w := w7) BK1008.out))
      go_roundg k1
      case measure => have := HK1.out; omega
      case rel => exact ⟨(wrap64 (x21 + ((rd_T27 l06 x91).f0))), (wrap64 (x31 + ((rd_T27 l06 x91).f1))), (wrap64 (x91 + 1)), tS, tS, tS, H', ⟨by have := HK1.out; omega⟩, ⟨by refine bkZ ?_; refine blk_far ?_ NB10061008.out _; refine bkZ ?_; refine blk_far ?_ NB10061008.out _; refine bkZ ?_; exact BK1006.out⟩, ⟨bBl HB.out⟩⟩
     ·rw [if_neg c6] at H
      exact absurd H (by simp)
    ·rw [if_neg c5] at H
     exact absurd H (by simp)
   ·rw [if_neg c4] at H
    have c4b0 : decide (x91 < (l06.length : Int)) = false := decide_eq_false c4
    clear c4
    simp only [Option.some.injEq, Prod.mk.injEq] at H
    obtain ⟨rfl, rfl⟩ := H
    go_wp2
    go_ret2
    exact ⟨tE, bBl HB.out⟩
end
section
attribute [local go_sem] max2_int min2_int max_two min_two
theorem l122_calls (F g : Nat) (lb : Array Value) (cf : Int → Int) (N t0 t1 : Int) (w W : World) (eg : ∀ args w, (callFunc g args).run Tryz.prog w = .ok (.enter g args) w)
  (hq : CoefQ g lb cf N w) (hb : Below w.heap.size w W) (hF : W.heap[F]? = some (.cells #[.func (.func g) #[] lb, .int .i64 t0, .int .i64 t1] 128 (0, 0))) (x : Int) (hx0 : 0 ≤ x) (hx1 : x < N)
  (hw : wrap64 (cf x - t1) = cf x - t1) :
  Calls Tryz.prog 143 #[.int .i64 x, .pointer (some ⟨F, 0, none⟩)] W fun e w' => e = .returned (.int .i64 (cf x - t1)) ∧ ∃ q, w' = W.drewN q := by
 have h1 : ∀ n, Calls Tryz.prog g (#[.int .i64 x] ++ lb) (W.drewN n) fun e w' => e = .returned (.int .i64 (cf x)) ∧ ∃ q, w' = (W.drewN n).drewN q := fun n => hq _ (pw_below_drewN hb n) x hx0 hx1
 have H1 : Sd _ := ⟨h1⟩
 have HW := Sd.mk hw
 have c0 : W.cell? ⟨F, 0, none⟩ = some (.func (.func g) #[] lb) := (blk_cell hF 0).trans rfl
 have c2 : W.cell? ⟨F, 0 + 1 + 1, none⟩ = some (.int .i64 t1) := (blk_cell hF 2).trans rfl
 clear h1 hq hb hw hF
 generalize cf x = cx at *
 go_enter Tryz.func143, Tryz.ntmps143
 go_wp2_with fail
 go_quiet (first | (go_at_fn g; exact Calls.quiet_of (H1.out _)))
 go_wp2
 go_ret
 exact ⟨by show Ending.returned (.int .i64 (wrap64 (cx - t1))) = _; rw [HW.out], _, rfl⟩
theorem l124_calls (F g : Nat) (lb : Array Value) (cf : Int → Int) (N t0 t1 : Int) (w W : World) (eg : ∀ args w, (callFunc g args).run Tryz.prog w = .ok (.enter g args) w)
  (hq : CoefQ g lb cf N w) (hb : Below w.heap.size w W) (hF : W.heap[F]? = some (.cells #[.func (.func g) #[] lb, .int .i64 t0, .int .i64 t1] 128 (0, 0))) (x : Int) (hx0 : 0 ≤ x) (hx1 : x < N)
  (hw : wrap64 (t0 - cf x) = t0 - cf x) :
  Calls Tryz.prog 145 #[.int .i64 x, .pointer (some ⟨F, 0, none⟩)] W fun e w' => e = .returned (.int .i64 (t0 - cf x)) ∧ ∃ q, w' = W.drewN q := by
 have h1 : ∀ n, Calls Tryz.prog g (#[.int .i64 x] ++ lb) (W.drewN n) fun e w' => e = .returned (.int .i64 (cf x)) ∧ ∃ q, w' = (W.drewN n).drewN q := fun n => hq _ (pw_below_drewN hb n) x hx0 hx1
 have H1 : Sd _ := ⟨h1⟩
 have HW := Sd.mk hw
 have c0 : W.cell? ⟨F, 0, none⟩ = some (.func (.func g) #[] lb) := (blk_cell hF 0).trans rfl
 have c2 : W.cell? ⟨F, 0 + 1, none⟩ = some (.int .i64 t0) := (blk_cell hF 1).trans rfl
 clear h1 hq hb hw hF
 generalize cf x = cx at *
 go_enter Tryz.func145, Tryz.ntmps145
 go_wp2_with fail
 go_quiet (first | (go_at_fn g; exact Calls.quiet_of (H1.out _)))
 go_wp2
 go_ret
 exact ⟨by show Ending.returned (.int .i64 (wrap64 (t0 - cx))) = _; rw [HW.out], _, rfl⟩
def gT (df : Int → Int) (l : List S27) (j : Nat) : Int := max (df (j : Int) * (rd_T27 l (j : Int)).f0) (df (j : Int) * (rd_T27 l (j : Int)).f1)
def gTS (df : Int → Int) (l : List S27) (n : Nat) : Int := sumTo (gT df l) n
structure DfOk (df : Int → Int) (n : Nat) : Prop where
 at_ : ∀ j : Nat, j < n → -20000 ≤ df (j : Int) ∧ df (j : Int) ≤ 20000
theorem gT_bound {df : Int → Int} {l : List S27} (H : GOk l) (C : DfOk df l.length) : ∀ j, j < l.length → -3600000000000 ≤ gT df l j ∧ gT df l j ≤ 3600000000000 := by
 intro j hj
 have a1 := H.at_ j hj
 have a2 := C.at_ j hj
 have b1 := mulb (c := df j) (x := (rd_T27 l (j : Int)).f0) (by omega) (by omega) (by omega) (by omega)
 have b2 := mulb (c := df j) (x := (rd_T27 l (j : Int)).f1) (by omega) (by omega) (by omega) (by omega)
 unfold gT
 omega
theorem gTS_step {df : Int → Int} {l : List S27} (H : GOk l) (C : DfOk df l.length) {k : Nat} (hk : k < l.length) :
  wrap64 (gTS df l k + mx (wrap64 (df (k : Int) * (rd_T27 l (k : Int)).f0)) (wrap64 (df (k : Int) * (rd_T27 l (k : Int)).f1))) = gTS df l (k + 1) := by
 have hn := H.n12
 have a1 := H.at_ k hk
 have a2 := C.at_ k hk
 have b1 := mulb (c := df k) (x := (rd_T27 l (k : Int)).f0) (by omega) (by omega) (by omega) (by omega)
 have b2 := mulb (c := df k) (x := (rd_T27 l (k : Int)).f1) (by omega) (by omega) (by omega) (by omega)
 have b3 := gT_bound H C k hk
 have b4 := sumTo_bound (f := gT df l) (M := 3600000000000) (n := l.length) (gT_bound H C) k (by omega)
 rw [wrap_id (x := df k * (rd_T27 l (k : Int)).f0) (by omega) (by omega), wrap_id (x := df k * (rd_T27 l (k : Int)).f1) (by omega) (by omega), mx_max]
 show wrap64 (gTS df l k + gT df l k) = _
 unfold gTS
 rw [wrap_id (by omega) (by omega)]
 rfl
theorem greatest_calls (x : S70) (A : Option Addr) (c g : Nat) (lb : Array Value) (df : Int → Int) (w : World) (eg : ∀ args w, (callFunc g args).run Tryz.prog w = .ok (.enter g args) w)
  (hq : CoefQ g lb df x.f6.length w) (hC : Kd.C k27 w A x.f6.length x.f6) (hc : x.f6.length ≤ c) (hG : GOk x.f6) (hd : DfOk df x.f6.length) :
  Calls Tryz.prog 142 #[.agg #[.string x.f0, .int .i64 x.f1, .int .i64 x.f2, .int .i64 x.f3, .int .i64 x.f4, .int .i64 x.f5, .slice A x.f6.length c], .func (.func g) #[] lb] w fun e w' => e = .returned (.int .i64 (gTS df x.f6 x.f6.length)) ∧ Below w.heap.size w w' := by
 have hb0 : Below w.heap.size w (w.alloc (.cells #[.string x.f0, .int .i64 x.f1, .int .i64 x.f2, .int .i64 x.f3, .int .i64 x.f4, .int .i64 x.f5, .slice A x.f6.length c] 70)) := below_alloc (Below.refl _ _) _
 have HB := Sd.mk hb0
 have hbk := blk_new w (.cells #[.string x.f0, .int .i64 x.f1, .int .i64 x.f2, .int .i64 x.f3, .int .i64 x.f4, .int .i64 x.f5, .slice A x.f6.length c] 70)
 have HBK := Sd.mk hbk
 have HQ := Sd.mk hq
 have HC := Sd.mk hC
 have HG := Sd.mk hG
 have HD := Sd.mk hd
 clear hq hC hc hG hd hb0
 go_enter Tryz.func142, Tryz.ntmps142
 have hc6 : (w.alloc (.cells #[.string x.f0, .int .i64 x.f1, .int .i64 x.f2, .int .i64 x.f3, .int .i64 x.f4, .int .i64 x.f5, .slice A x.f6.length c] 70)).cell? ⟨w.heap.size, 0 + 6, none⟩ = some (.slice A x.f6.length c) := (blk_cell hbk 6).trans rfl
 go_wp2
 have hl12 : x.f6.length ≤ 12 := HG.out.n12
 have HL12 := Sd.mk hl12
 clear hc6 hbk hl12
 generalize w.alloc (.cells #[.string x.f0, .int .i64 x.f1, .int .i64 x.f2, .int .i64 x.f3, .int .i64 x.f4, .int .i64 x.f5, .slice A x.f6.length c] 70) = w0 at HB HBK ⊢
 go_loopg [11, 5] x.f6.length (fun gq v11 v5 wr => ∃ k : Nat, v11 = .int .i64 k ∧ v5 = .int .i64 (gTS df x.f6 k) ∧ k ≤ x.f6.length ∧ x.f6.length - k ≤ gq ∧ Sd (Below w.heap.size w wr))
 case atStart => exact ⟨0, rfl, rfl, Nat.zero_le _, by omega, HB⟩
 case round =>
  clear HB HBK
  obtain ⟨k, rfl, rfl, hk, hgk, HB⟩ := hrel
  have hl12 := HL12.out
  by_cases hlt : k < x.f6.length
  ·have hltz : (k : Int) < (x.f6.length : Int) := by omega
   obtain ⟨ad, rfl, hx0, hx1⟩ := at_T27 (Kd.C_below HC.out HB.out) (k : Int) (by omega) hltz
   simp only [Int.toNat_natCast] at hx0 hx1
   have HB2 := Sd.mk (below_alloc HB.out (.cells #[.int .i64 (rd_T27 x.f6 (k : Int)).f0, .int .i64 (rd_T27 x.f6 (k : Int)).f1] 27))
   have hbk := blk_new wr (.cells #[.int .i64 (rd_T27 x.f6 (k : Int)).f0, .int .i64 (rd_T27 x.f6 (k : Int)).f1] 27)
   have HSTEP := Sd.mk (gTS_step HG.out HD.out hlt)
   have h0 : (wr.alloc (.cells #[.int .i64 (rd_T27 x.f6 (k : Int)).f0, .int .i64 (rd_T27 x.f6 (k : Int)).f1] 27)).cell? ⟨wr.heap.size, 0, none⟩ = some (.int .i64 (rd_T27 x.f6 (k : Int)).f0) := (blk_cell hbk 0).trans rfl
   have h1 : (wr.alloc (.cells #[.int .i64 (rd_T27 x.f6 (k : Int)).f0, .int .i64 (rd_T27 x.f6 (k : Int)).f1] 27)).cell? ⟨wr.heap.size, 0 + 1, none⟩ = some (.int .i64 (rd_T27 x.f6 (k : Int)).f1) := (blk_cell hbk 1).trans rfl
   have HH0 := Sd.mk h0
   have HH1 := Sd.mk h1
   have hcoef : ∀ W, Below wr.heap.size wr W → Calls Tryz.prog g (#[.int .i64 (k : Int)] ++ lb) W fun e w' => e = .returned (.int .i64 (df k)) ∧ ∃ q, w' = W.drewN q := fun W hW => HQ.out W (below_then HB.out HB.out.size hW) _ (by omega) hltz
   have HCF := Sd.mk hcoef
   clear hbk h0 h1 hcoef
   go_upto_region 5 with (fail)
   generalize gTS df x.f6 k = acc at *
   have H1 : Sd (∀ n, Calls Tryz.prog g (#[.int .i64 (k : Int)] ++ lb) ((wr.alloc (.cells #[.int .i64 (rd_T27 x.f6 (k : Int)).f0, .int .i64 (rd_T27 x.f6 (k : Int)).f1] 27)).drewN n) fun e w' => e = .returned (.int .i64 (df k)) ∧ ∃ q, w' = ((wr.alloc (.cells #[.int .i64 (rd_T27 x.f6 (k : Int)).f0, .int .i64 (rd_T27 x.f6 (k : Int)).f1] 27)).drewN n).drewN q) := ⟨fun n => HCF.out _ (pw_below_drewN (below_alloc (Below.refl _ _) _) n)⟩
   generalize wr.alloc (.cells #[.int .i64 (rd_T27 x.f6 (k : Int)).f0, .int .i64 (rd_T27 x.f6 (k : Int)).f1] 27) = wa at *
   have h0 := HH0.out
   have h1 := HH1.out
   go_quiet (first | (go_at_fn g; exact Calls.quiet_of (H1.out _)))
   clear h0 h1 HH0 HH1 H1
   go_wp2
   all_goals
    go_roundg (x.f6.length - (k + 1))
    case measure => omega
    case rel => exact ⟨k + 1, rfl, by rw [← HSTEP.out]; unfold mx; first | rw [if_pos (by assumption)] | rw [if_neg (Int.not_lt.2 (by assumption))], by omega, by omega, ⟨by repeat (first | (with_reducible first | exact HB2.out | apply pw_below_drewN | apply below_drew1) | exact HB2.out)⟩⟩
  ·have hltz : ¬ (k : Int) < (x.f6.length : Int) := by omega
   obtain rfl : k = x.f6.length := by omega
   go_wp2
   go_ret
   exact ⟨rfl, HB.out⟩
def lowM (x : S70) : Int := wS S27.f0 x.f6 x.f6.length
def highM (x : S70) : Int := wS S27.f1 x.f6 x.f6.length
theorem ends_l0 {l : List S27} (H : GOk l) : ∀ (m i : Nat), i + m = l.length → Ev (fun k => b_ends.l0 k (wS S27.f0 l i) (wS S27.f1 l i) l (l.length : Int) (i : Int)) (wS S27.f0 l l.length, wS S27.f1 l l.length)
 | 0, i, hi => by
  apply Ev.step
  simp only [b_ends.l0, if_neg (show ¬ (i : Int) < (l.length : Int) by omega)]
  rw [show i = l.length by omega]
  exact Ev.const _
 | m + 1, i, hi => by
  have ih := ends_l0 H m (i + 1) (by omega)
  have hn := H.n12
  have hb := wS_bounds H i (by omega)
  have hc := H.at_ i (by omega)
  apply Ev.step
  simp only [b_ends.l0, if_pos (show (i : Int) < (l.length : Int) by omega), if_pos (i_pos i), wrap_succ (i_pos i) (show (i : Int) ≤ 1000000000 by omega)]
  rw [wrap_id (x := wS S27.f0 l i + (rd_T27 l (i : Int)).f0) (by omega) (by omega), wrap_id (x := wS S27.f1 l i + (rd_T27 l (i : Int)).f1) (by omega) (by omega)]
  exact ih
theorem ends_calls (x : S70) (A : Option Addr) (c : Nat) (w : World) (hC : Kd.C k27 w A x.f6.length x.f6) (hc : x.f6.length ≤ c) (hG : GOk x.f6) :
  Calls Tryz.prog 140 #[.agg #[.string x.f0, .int .i64 x.f1, .int .i64 x.f2, .int .i64 x.f3, .int .i64 x.f4, .int .i64 x.f5, .slice A x.f6.length c]] w fun e w' => e = .returned (.tuple #[.int .i64 (lowM x), .int .i64 (highM x)]) ∧ Below w.heap.size w w' := by
 obtain ⟨K, hK⟩ := ends_l0 hG x.f6.length 0 (by omega)
 exact b_ends.calls K x.f0 x.f1 x.f2 x.f3 x.f4 x.f5 A c x.f6 (lowM x) (highM x) w hC hc (hK K (Nat.le_refl _))
theorem lowM_bound {x : S70} (H : GOk x.f6) : 0 ≤ lowM x ∧ lowM x ≤ highM x ∧ highM x ≤ 1440000000 := by
 have h := wS_bounds H x.f6.length (Nat.le_refl _)
 have hn := H.n12
 unfold lowM highM
 omega
theorem l118_calls (x : S70) (A : Option Addr) (c : Nat) (w : World) (hC : Kd.C k27 w A x.f6.length x.f6) (hc : x.f6.length ≤ c) (hG : GOk x.f6) :
  Calls Tryz.prog 139 #[.agg #[.string x.f0, .int .i64 x.f1, .int .i64 x.f2, .int .i64 x.f3, .int .i64 x.f4, .int .i64 x.f5, .slice A x.f6.length c]] w fun e w' => e = .returned (.int .i64 (-lowM x)) ∧ Below w.heap.size w w' := by
 have hb0 : Below w.heap.size w (w.alloc (.cells #[.string x.f0, .int .i64 x.f1, .int .i64 x.f2, .int .i64 x.f3, .int .i64 x.f4, .int .i64 x.f5, .slice A x.f6.length c] 70)) := below_alloc (Below.refl _ _) _
 have hgo := ends_calls x A c (w.alloc (.cells #[.string x.f0, .int .i64 x.f1, .int .i64 x.f2, .int .i64 x.f3, .int .i64 x.f4, .int .i64 x.f5, .slice A x.f6.length c] 70)) (Kd.C_below hC hb0) hc hG
 have HLB := Sd.mk (lowM_bound hG)
 have HB := Sd.mk hb0
 clear hC hc hG hb0
 go_enter Tryz.func139, Tryz.ntmps139
 go_wp2_with fail
 generalize w.alloc (.cells #[.string x.f0, .int .i64 x.f1, .int .i64 x.f2, .int .i64 x.f3, .int .i64 x.f4, .int .i64 x.f5, .slice A x.f6.length c] 70) = w0 at *
 refine hgo.mono ?_
 clear hgo
 rintro e w1 ⟨rfl, hb⟩
 have hlb := HLB.out
 go_wp2
 go_ret
 exact ⟨rfl, below_trans' HB.out hb⟩
theorem l120_calls (x : S70) (A : Option Addr) (c F g : Nat) (lb : Array Value) (cf : Int → Int) (t0 t1 : Int) (w W : World) (eg : ∀ args w, (callFunc g args).run Tryz.prog w = .ok (.enter g args) w)
  (hq : CoefQ g lb cf x.f6.length w) (hb : Below w.heap.size w W) (hF : W.heap[F]? = some (.cells #[.func (.func g) #[] lb, .int .i64 t0, .int .i64 t1] 128 (0, 0)))
  (hC : Kd.C k27 W A x.f6.length x.f6) (hc : x.f6.length ≤ c) (hG : GOk x.f6) (hcf : CfOk cf x.f6.length) (ht : (-10000 ≤ t0 ∧ t0 ≤ 10000) ∧ -10000 ≤ t1 ∧ t1 ≤ 10000) :
  Calls Tryz.prog 141 (#[.agg #[.string x.f0, .int .i64 x.f1, .int .i64 x.f2, .int .i64 x.f3, .int .i64 x.f4, .int .i64 x.f5, .slice A x.f6.length c]] ++ #[.pointer (some ⟨F, 0, none⟩)]) W fun e w' => e = .returned (.int .i64 (gTS (fun k => cf k - t1) x.f6 x.f6.length)) ∧ Below W.heap.size W w' := by
 have hb0 : Below W.heap.size W (W.alloc (.cells #[.string x.f0, .int .i64 x.f1, .int .i64 x.f2, .int .i64 x.f3, .int .i64 x.f4, .int .i64 x.f5, .slice A x.f6.length c] 70)) := below_alloc (Below.refl _ _) _
 have hq2 : CoefQ 143 #[.pointer (some ⟨F, 0, none⟩)] (fun k => cf k - t1) x.f6.length (W.alloc (.cells #[.string x.f0, .int .i64 x.f1, .int .i64 x.f2, .int .i64 x.f3, .int .i64 x.f4, .int .i64 x.f5, .slice A x.f6.length c] 70)) := by
  intro W' hW' y hy0 hy1
  obtain ⟨j, hj, rfl⟩ : ∃ j : Nat, j < x.f6.length ∧ y = j := ⟨y.toNat, by omega, by omega⟩
  have h1 := hcf.at_ j hj
  exact l122_calls F g lb cf x.f6.length t0 t1 w W' eg hq (below_trans' hb (below_trans' hb0 hW')) (blk_below hF (below_trans' hb0 hW')) (j : Int) hy0 hy1 (wrap_id (by omega) (by omega))
 have hgo := greatest_calls x A c 143 #[.pointer (some ⟨F, 0, none⟩)] (fun k => cf k - t1) (W.alloc (.cells #[.string x.f0, .int .i64 x.f1, .int .i64 x.f2, .int .i64 x.f3, .int .i64 x.f4, .int .i64 x.f5, .slice A x.f6.length c] 70)) (enters_of Tryz.func143 (by kernel_rfl) rfl) hq2 (Kd.C_below hC hb0) hc hG ⟨fun j hj => by have h1 := hcf.at_ j hj; omega⟩
 have HB := Sd.mk hb0
 clear hC hc hG hb0 hq2 hq hb hF
 show Calls Tryz.prog 141 #[.agg #[.string x.f0, .int .i64 x.f1, .int .i64 x.f2, .int .i64 x.f3, .int .i64 x.f4, .int .i64 x.f5, .slice A x.f6.length c], .pointer (some ⟨F, 0, none⟩)] W _
 go_enter Tryz.func141, Tryz.ntmps141
 go_wp2_with fail
 generalize W.alloc (.cells #[.string x.f0, .int .i64 x.f1, .int .i64 x.f2, .int .i64 x.f3, .int .i64 x.f4, .int .i64 x.f5, .slice A x.f6.length c] 70) = w0 at *
 refine hgo.mono ?_
 clear hgo
 rintro e w1 ⟨rfl, hb⟩
 go_wp2
 go_ret
 exact ⟨rfl, below_trans' HB.out hb⟩
theorem l123_calls (x : S70) (A : Option Addr) (c F g : Nat) (lb : Array Value) (cf : Int → Int) (t0 t1 : Int) (w W : World) (eg : ∀ args w, (callFunc g args).run Tryz.prog w = .ok (.enter g args) w)
  (hq : CoefQ g lb cf x.f6.length w) (hb : Below w.heap.size w W) (hF : W.heap[F]? = some (.cells #[.func (.func g) #[] lb, .int .i64 t0, .int .i64 t1] 128 (0, 0)))
  (hC : Kd.C k27 W A x.f6.length x.f6) (hc : x.f6.length ≤ c) (hG : GOk x.f6) (hcf : CfOk cf x.f6.length) (ht : (-10000 ≤ t0 ∧ t0 ≤ 10000) ∧ -10000 ≤ t1 ∧ t1 ≤ 10000) :
  Calls Tryz.prog 144 (#[.agg #[.string x.f0, .int .i64 x.f1, .int .i64 x.f2, .int .i64 x.f3, .int .i64 x.f4, .int .i64 x.f5, .slice A x.f6.length c]] ++ #[.pointer (some ⟨F, 0, none⟩)]) W fun e w' => e = .returned (.int .i64 (gTS (fun k => t0 - cf k) x.f6 x.f6.length)) ∧ Below W.heap.size W w' := by
 have hb0 : Below W.heap.size W (W.alloc (.cells #[.string x.f0, .int .i64 x.f1, .int .i64 x.f2, .int .i64 x.f3, .int .i64 x.f4, .int .i64 x.f5, .slice A x.f6.length c] 70)) := below_alloc (Below.refl _ _) _
 have hq2 : CoefQ 145 #[.pointer (some ⟨F, 0, none⟩)] (fun k => t0 - cf k) x.f6.length (W.alloc (.cells #[.string x.f0, .int .i64 x.f1, .int .i64 x.f2, .int .i64 x.f3, .int .i64 x.f4, .int .i64 x.f5, .slice A x.f6.length c] 70)) := by
  intro W' hW' y hy0 hy1
  obtain ⟨j, hj, rfl⟩ : ∃ j : Nat, j < x.f6.length ∧ y = j := ⟨y.toNat, by omega, by omega⟩
  have h1 := hcf.at_ j hj
  exact l124_calls F g lb cf x.f6.length t0 t1 w W' eg hq (below_trans' hb (below_trans' hb0 hW')) (blk_below hF (below_trans' hb0 hW')) (j : Int) hy0 hy1 (wrap_id (by omega) (by omega))
 have hgo := greatest_calls x A c 145 #[.pointer (some ⟨F, 0, none⟩)] (fun k => t0 - cf k) (W.alloc (.cells #[.string x.f0, .int .i64 x.f1, .int .i64 x.f2, .int .i64 x.f3, .int .i64 x.f4, .int .i64 x.f5, .slice A x.f6.length c] 70)) (enters_of Tryz.func145 (by kernel_rfl) rfl) hq2 (Kd.C_below hC hb0) hc hG ⟨fun j hj => by have h1 := hcf.at_ j hj; omega⟩
 have HB := Sd.mk hb0
 clear hC hc hG hb0 hq2 hq hb hF
 show Calls Tryz.prog 144 #[.agg #[.string x.f0, .int .i64 x.f1, .int .i64 x.f2, .int .i64 x.f3, .int .i64 x.f4, .int .i64 x.f5, .slice A x.f6.length c], .pointer (some ⟨F, 0, none⟩)] W _
 go_enter Tryz.func144, Tryz.ntmps144
 go_wp2_with fail
 generalize W.alloc (.cells #[.string x.f0, .int .i64 x.f1, .int .i64 x.f2, .int .i64 x.f3, .int .i64 x.f4, .int .i64 x.f5, .slice A x.f6.length c] 70) = w0 at *
 refine hgo.mono ?_
 clear hgo
 rintro e w1 ⟨rfl, hb⟩
 go_wp2
 go_ret
 exact ⟨rfl, below_trans' HB.out hb⟩
def rUp (u : Int) (x : S70) : Int := 1000000 * x.f2 - mn (u * lowM x) (u * highM x)
def rDn (t : Int) (x : S70) : Int := mx (t * lowM x) (t * highM x) - 1000000 * x.f2
theorem mulr {c x : Int} (h1 : -10000 ≤ c) (h2 : c ≤ 10000) (h3 : 0 ≤ x) (h4 : x ≤ 1440000000) : -14400000000000 ≤ c * x ∧ c * x ≤ 14400000000000 := by
 have e1 := Int.mul_le_mul_of_nonneg_right h1 h3
 have e2 := Int.mul_le_mul_of_nonneg_right h2 h3
 omega
theorem l125_calls (x : S70) (A : Option Addr) (c U : Nat) (u : Int) (W : World) (hU : W.heap[U]? = some (.cells #[.int .i64 u] 3 (0, 0)))
  (hC : Kd.C k27 W A x.f6.length x.f6) (hc : x.f6.length ≤ c) (hG : GOk x.f6) (hu : -10000 ≤ u ∧ u ≤ 10000) (hr : -1000 ≤ x.f2 ∧ x.f2 ≤ 1000) :
  Calls Tryz.prog 146 (#[.agg #[.string x.f0, .int .i64 x.f1, .int .i64 x.f2, .int .i64 x.f3, .int .i64 x.f4, .int .i64 x.f5, .slice A x.f6.length c]] ++ #[.pointer (some ⟨U, 0, none⟩)]) W fun e w' => e = .returned (.int .i64 (rUp u x)) ∧ Below W.heap.size W w' := by
 have hb0 : Below W.heap.size W (W.alloc (.cells #[.string x.f0, .int .i64 x.f1, .int .i64 x.f2, .int .i64 x.f3, .int .i64 x.f4, .int .i64 x.f5, .slice A x.f6.length c] 70)) := below_alloc (Below.refl _ _) _
 have hgo := ends_calls x A c (W.alloc (.cells #[.string x.f0, .int .i64 x.f1, .int .i64 x.f2, .int .i64 x.f3, .int .i64 x.f4, .int .i64 x.f5, .slice A x.f6.length c] 70)) (Kd.C_below hC hb0) hc hG
 have hlb := lowM_bound hG
 have hp1 := mulr hu.1 hu.2 hlb.1 (Int.le_trans hlb.2.1 hlb.2.2)
 have hp2 := mulr hu.1 hu.2 (Int.le_trans hlb.1 hlb.2.1) hlb.2.2
 have HP1 := Sd.mk hp1
 have HP2 := Sd.mk hp2
 have HR := Sd.mk hr
 have HB := Sd.mk hb0
 have BU := Sd.mk (blk_below hU hb0)
 have BM := Sd.mk (blk_new W (.cells #[.string x.f0, .int .i64 x.f1, .int .i64 x.f2, .int .i64 x.f3, .int .i64 x.f4, .int .i64 x.f5, .slice A x.f6.length c] 70))
 clear hC hc hG hb0 hu hr hlb hp1 hp2 hU
 show Calls Tryz.prog 146 #[.agg #[.string x.f0, .int .i64 x.f1, .int .i64 x.f2, .int .i64 x.f3, .int .i64 x.f4, .int .i64 x.f5, .slice A x.f6.length c], .pointer (some ⟨U, 0, none⟩)] W _
 go_enter Tryz.func146, Tryz.ntmps146
 go_wp2_with fail
 generalize W.alloc (.cells #[.string x.f0, .int .i64 x.f1, .int .i64 x.f2, .int .i64 x.f3, .int .i64 x.f4, .int .i64 x.f5, .slice A x.f6.length c] 70) = w0 at *
 refine hgo.mono ?_
 clear hgo
 rintro e w1 ⟨rfl, hb⟩
 have HB1 := Sd.mk hb
 have hm2 : w1.cell? ⟨W.heap.size, 0 + 2, none⟩ = some (.int .i64 x.f2) := (blk_cell (blk_below BM.out hb) 2).trans rfl
 have hu0 : w1.cell? ⟨U, 0, none⟩ = some (.int .i64 u) := (blk_cell (blk_below BU.out hb) 0).trans rfl
 obtain ⟨hp1, hp1'⟩ := HP1.out
 obtain ⟨hp2, hp2'⟩ := HP2.out
 obtain ⟨hr1, hr2⟩ := HR.out
 clear hb
 go_wp2
 all_goals
  go_ret
  refine ⟨?_, below_trans' HB.out HB1.out⟩
  unfold rUp mn
  first | rw [if_pos (by assumption)] | rw [if_neg (Int.not_lt.2 (by assumption))]
  try rfl
theorem l126_calls (x : S70) (A : Option Addr) (c U : Nat) (u : Int) (W : World) (hU : W.heap[U]? = some (.cells #[.int .i64 u] 3 (0, 0)))
  (hC : Kd.C k27 W A x.f6.length x.f6) (hc : x.f6.length ≤ c) (hG : GOk x.f6) (hu : -10000 ≤ u ∧ u ≤ 10000) (hr : -1000 ≤ x.f2 ∧ x.f2 ≤ 1000) :
  Calls Tryz.prog 147 (#[.agg #[.string x.f0, .int .i64 x.f1, .int .i64 x.f2, .int .i64 x.f3, .int .i64 x.f4, .int .i64 x.f5, .slice A x.f6.length c]] ++ #[.pointer (some ⟨U, 0, none⟩)]) W fun e w' => e = .returned (.int .i64 (rDn u x)) ∧ Below W.heap.size W w' := by
 have hb0 : Below W.heap.size W (W.alloc (.cells #[.string x.f0, .int .i64 x.f1, .int .i64 x.f2, .int .i64 x.f3, .int .i64 x.f4, .int .i64 x.f5, .slice A x.f6.length c] 70)) := below_alloc (Below.refl _ _) _
 have hgo := ends_calls x A c (W.alloc (.cells #[.string x.f0, .int .i64 x.f1, .int .i64 x.f2, .int .i64 x.f3, .int .i64 x.f4, .int .i64 x.f5, .slice A x.f6.length c] 70)) (Kd.C_below hC hb0) hc hG
 have hlb := lowM_bound hG
 have hp1 := mulr hu.1 hu.2 hlb.1 (Int.le_trans hlb.2.1 hlb.2.2)
 have hp2 := mulr hu.1 hu.2 (Int.le_trans hlb.1 hlb.2.1) hlb.2.2
 have HP1 := Sd.mk hp1
 have HP2 := Sd.mk hp2
 have HR := Sd.mk hr
 have HB := Sd.mk hb0
 have BU := Sd.mk (blk_below hU hb0)
 have BM := Sd.mk (blk_new W (.cells #[.string x.f0, .int .i64 x.f1, .int .i64 x.f2, .int .i64 x.f3, .int .i64 x.f4, .int .i64 x.f5, .slice A x.f6.length c] 70))
 clear hC hc hG hb0 hu hr hlb hp1 hp2 hU
 show Calls Tryz.prog 147 #[.agg #[.string x.f0, .int .i64 x.f1, .int .i64 x.f2, .int .i64 x.f3, .int .i64 x.f4, .int .i64 x.f5, .slice A x.f6.length c], .pointer (some ⟨U, 0, none⟩)] W _
 go_enter Tryz.func147, Tryz.ntmps147
 go_wp2_with fail
 generalize W.alloc (.cells #[.string x.f0, .int .i64 x.f1, .int .i64 x.f2, .int .i64 x.f3, .int .i64 x.f4, .int .i64 x.f5, .slice A x.f6.length c] 70) = w0 at *
 refine hgo.mono ?_
 clear hgo
 rintro e w1 ⟨rfl, hb⟩
 have HB1 := Sd.mk hb
 have hm2 : w1.cell? ⟨W.heap.size, 0 + 2, none⟩ = some (.int .i64 x.f2) := (blk_cell (blk_below BM.out hb) 2).trans rfl
 have hu0 : w1.cell? ⟨U, 0, none⟩ = some (.int .i64 u) := (blk_cell (blk_below BU.out hb) 0).trans rfl
 obtain ⟨hp1, hp1'⟩ := HP1.out
 obtain ⟨hp2, hp2'⟩ := HP2.out
 obtain ⟨hr1, hr2⟩ := HR.out
 clear hb
 go_wp2
 all_goals
  go_ret
  refine ⟨?_, below_trans' HB.out HB1.out⟩
  unfold rDn mx
  first | rw [if_pos (by assumption)] | rw [if_neg (Int.not_lt.2 (by assumption))]
  try rfl
end
section
attribute [local go_sem] max2_int min2_int max_two min_two
theorem goesV_ {P : Program} {ops : Array Oper} {Q : Exit → Act → World → Prop} {oi : Oper} {N : Option Tmp} {a : Act} {w : World} {K : Act → World → Prop} (f : FuncId) (lb : Array Value) (eg : ∀ args w, (callFunc f args).run P w = .ok (.enter f args) w)
  {t : Tmp} {as_ : Array Operand} {ts : Array TypeId} (args : Array Value) (hw : Region.wanted oi (yielded ops a.tmps) = true) (hN : oi.dst = N) (hop : oi.op = .call { callee := .value (.tmp t), args := as_, argTypes := ts })
  (ht : a.eval (.tmp t) = .func (.func f) #[] lb) (hargs : as_.map a.eval = args) (h : Calls P f (args ++ lb) w fun e w' => ∃ v, e = .returned v ∧ K (a.put N v) w') : if Region.wanted oi (yielded ops a.tmps) = true then Oper.wp P oi a w K Q else K (a.put N undef) w := by
 refine call_ f (args ++ lb) hw hN ?_ h
 have he := eg (args ++ lb) w
 have ht' : a.tmps.getD t undef = .func (.func f) #[] lb := ht
 unfold execOp
 simp [hop, resolve, Deferred.ofValue, invoke, Act.eval, ht', ht, hargs, he]
def FacQ (g : Nat) (lb : Array Value) (fc : S70 → Int) (mt : List S70) (w : World) : Prop :=
 ∀ W, Below w.heap.size w W → ∀ i : Nat, i < mt.length → ∀ A c, Kd.C k27 W A (rd_T70 mt (i : Int)).f6.length (rd_T70 mt (i : Int)).f6 → (rd_T70 mt (i : Int)).f6.length ≤ c →
  Calls Tryz.prog g (#[.agg #[.string (rd_T70 mt (i : Int)).f0, .int .i64 (rd_T70 mt (i : Int)).f1, .int .i64 (rd_T70 mt (i : Int)).f2, .int .i64 (rd_T70 mt (i : Int)).f3, .int .i64 (rd_T70 mt (i : Int)).f4, .int .i64 (rd_T70 mt (i : Int)).f5, .slice A (rd_T70 mt (i : Int)).f6.length c]] ++ lb) W fun e w' => e = .returned (.int .i64 (fc (rd_T70 mt (i : Int)))) ∧ Below W.heap.size W w'
def lineT : Bool × List (List Nat × List Nat) := (true, [([], []), ([0], [0]), ([], []), ([], []), ([2, 3], [2, 3]), ([4], [4]), ([1, 5, 4], [1, 5]), ([0, 1, 2, 3, 4, 5, 6], []), ([7, 6, 6, 0, 1, 2, 3, 4, 5, 6], [6, 7])])
def lineB : List Nat := [0, 1, 0, 0, 12, 28, 63, 127, 255]
theorem line_tab : rtab .any (opsOf Tryz.f138 5) = lineT := by kernel_rfl
theorem line_bits : waitsOk lineT.2 lineB = true := by kernel_rfl
structure LineW (w W : World) (b : Int) (fl : List Int) : Prop where
 below : Below w.heap.size w W
 res : W.heap[w.heap.size + 1]? = some (.cells #[.slice none 0 0, .int .i64 0] 168 (0, 0))
 out : ∃ A c, W.heap[w.heap.size + 2]? = some (.cells #[.slice A fl.length c, .int .i64 b] 168 (0, 0)) ∧ Kd.R (Kd.int .i64) 3 W w.heap.size (fun _ => True) (.slice A fl.length c) fl
theorem line_calls (A0 A1 A2 A3 : Option Addr) (n0 c0 c1 n2 c2 n3 c3 : Nat) (mt : List S70) (a4 a5 a6 b : Int) (g : Nat) (lb : Array Value) (fc : S70 → Int) (w : World)
  (eg : ∀ args w, (callFunc g args).run Tryz.prog w = .ok (.enter g args) w) (hq : FacQ g lb fc mt w) (hC : Kd.C k70 w A1 mt.length mt) (hm : mt.length ≤ 12) :
  Calls Tryz.prog 138 #[.agg #[.slice A0 n0 c0, .slice A1 mt.length c1, .slice A2 n2 c2, .slice A3 n3 c3, .int .i64 a4, .int .i64 a5, .int .i64 a6], .int .i64 b, .func (.func g) #[] lb] w fun e w' =>
   ∃ v, e = .returned (.agg #[v, .int .i64 b]) ∧ Kd.R (Kd.int .i64) 3 w' w.heap.size (fun _ => True) v (mt.map fc) ∧ Below w.heap.size w w' := by
 have hlw : LineW w (((w.alloc (.cells #[.slice A0 n0 c0, .slice A1 mt.length c1, .slice A2 n2 c2, .slice A3 n3 c3, .int .i64 a4, .int .i64 a5, .int .i64 a6] 29)).alloc (.cells #[.slice none 0 0, .int .i64 0] 168)).alloc (.cells #[.slice none 0 0, .int .i64 b] 168)) b (List.map fc (mt.take 0)) := by
  refine ⟨below_alloc (below_alloc (below_alloc (Below.refl _ _) _) _) _, ?_, none, 0, ?_, ?_⟩
  ·have := blk_alloc (blk_new (w.alloc (.cells #[.slice A0 n0 c0, .slice A1 mt.length c1, .slice A2 n2 c2, .slice A3 n3 c3, .int .i64 a4, .int .i64 a5, .int .i64 a6] 29)) (.cells #[.slice none 0 0, .int .i64 0] 168)) (.cells #[.slice none 0 0, .int .i64 b] 168)
   simpa using this
  ·have := blk_new ((w.alloc (.cells #[.slice A0 n0 c0, .slice A1 mt.length c1, .slice A2 n2 c2, .slice A3 n3 c3, .int .i64 a4, .int .i64 a5, .int .i64 a6] 29)).alloc (.cells #[.slice none 0 0, .int .i64 0] 168)) (.cells #[.slice none 0 0, .int .i64 b] 168)
   simpa using this
  ·exact Kd.R_nil _ _ _ _ _
 have HQ := Sd.mk hq
 have HC := Sd.mk hC
 have HM := Sd.mk hm
 have HLW := Sd.mk hlw
 have hc1 : (((w.alloc (.cells #[.slice A0 n0 c0, .slice A1 mt.length c1, .slice A2 n2 c2, .slice A3 n3 c3, .int .i64 a4, .int .i64 a5, .int .i64 a6] 29)).alloc (.cells #[.slice none 0 0, .int .i64 0] 168)).alloc (.cells #[.slice none 0 0, .int .i64 b] 168)).cell? ⟨w.heap.size, 0 + 1, none⟩ = some (.slice A1 mt.length c1) := (blk_cell (blk_alloc (blk_alloc (blk_new w _) _) _) 1).trans rfl
 clear hq hC hlw
 go_enter Tryz.func138, Tryz.ntmps138
 go_wp2
 clear hc1
 generalize ((w.alloc (.cells #[.slice A0 n0 c0, .slice A1 mt.length c1, .slice A2 n2 c2, .slice A3 n3 c3, .int .i64 a4, .int .i64 a5, .int .i64 a6] 29)).alloc (.cells #[.slice none 0 0, .int .i64 0] 168)).alloc (.cells #[.slice none 0 0, .int .i64 b] 168) = w0 at HLW ⊢
 go_loopg [15] mt.length (fun gq v15 wr => ∃ k : Nat, v15 = .int .i64 k ∧ k ≤ mt.length ∧ mt.length - k ≤ gq ∧ Sd (LineW w wr b (List.map fc (mt.take k))))
 case atStart => exact ⟨0, rfl, Nat.zero_le _, by omega, HLW⟩
 case round =>
  clear HLW
  obtain ⟨k, rfl, hk, hgk, HW⟩ := hrel
  have hm12 := HM.out
  by_cases hlt : k < mt.length
  ·have hltz : (k : Int) < (mt.length : Int) := by omega
   obtain ⟨A, c, hO, hR⟩ := HW.out.out
   obtain ⟨ad, A6, c6, rfl, hx0, hx1, hx2, hx3, hx4, hx5, hx6, hl6, hi6⟩ := at_T70 (Kd.C_below HC.out HW.out.below) (k : Int) (by omega) hltz
   simp only [Int.toNat_natCast] at hx0 hx1 hx2 hx3 hx4 hx5 hx6
   have BM := Sd.mk (blk_new wr (.cells #[.string (rd_T70 mt (k : Int)).f0, .int .i64 (rd_T70 mt (k : Int)).f1, .int .i64 (rd_T70 mt (k : Int)).f2, .int .i64 (rd_T70 mt (k : Int)).f3, .int .i64 (rd_T70 mt (k : Int)).f4, .int .i64 (rd_T70 mt (k : Int)).f5, .slice A6 (rd_T70 mt (k : Int)).f6.length c6] 70))
   have BO := Sd.mk (blk_alloc hO (.cells #[.string (rd_T70 mt (k : Int)).f0, .int .i64 (rd_T70 mt (k : Int)).f1, .int .i64 (rd_T70 mt (k : Int)).f2, .int .i64 (rd_T70 mt (k : Int)).f3, .int .i64 (rd_T70 mt (k : Int)).f4, .int .i64 (rd_T70 mt (k : Int)).f5, .slice A6 (rd_T70 mt (k : Int)).f6.length c6] 70))
   have BR := Sd.mk (blk_alloc HW.out.res (.cells #[.string (rd_T70 mt (k : Int)).f0, .int .i64 (rd_T70 mt (k : Int)).f1, .int .i64 (rd_T70 mt (k : Int)).f2, .int .i64 (rd_T70 mt (k : Int)).f3, .int .i64 (rd_T70 mt (k : Int)).f4, .int .i64 (rd_T70 mt (k : Int)).f5, .slice A6 (rd_T70 mt (k : Int)).f6.length c6] 70))
   have HB := Sd.mk (below_alloc HW.out.below (.cells #[.string (rd_T70 mt (k : Int)).f0, .int .i64 (rd_T70 mt (k : Int)).f1, .int .i64 (rd_T70 mt (k : Int)).f2, .int .i64 (rd_T70 mt (k : Int)).f3, .int .i64 (rd_T70 mt (k : Int)).f4, .int .i64 (rd_T70 mt (k : Int)).f5, .slice A6 (rd_T70 mt (k : Int)).f6.length c6] 70))
   have HR := Sd.mk (Kd.R_alloc hR (.cells #[.string (rd_T70 mt (k : Int)).f0, .int .i64 (rd_T70 mt (k : Int)).f1, .int .i64 (rd_T70 mt (k : Int)).f2, .int .i64 (rd_T70 mt (k : Int)).f3, .int .i64 (rd_T70 mt (k : Int)).f4, .int .i64 (rd_T70 mt (k : Int)).f5, .slice A6 (rd_T70 mt (k : Int)).f6.length c6] 70))
   have NXO := Sd.mk (show w.heap.size + 2 ≠ wr.heap.size from Nat.ne_of_lt (blk_lt hO))
   have hfl : (List.map fc (mt.take k)).length = k := by simp; omega
   have HFL := Sd.mk hfl
   have HSTEP : Sd (List.map fc (mt.take k) ++ [fc (rd_T70 mt (k : Int))] = List.map fc (mt.take (k + 1))) := ⟨by rw [List.take_succ_eq_append_getElem hlt, List.map_append]; simp [rd_T70, hlt]⟩
   have HCALL := Sd.mk (fun W hW => HQ.out W hW k hlt A6 c6)
   have HL6 := Sd.mk hl6
   have HI6 := Sd.mk (Kd.C_alloc hi6 (.cells #[.string (rd_T70 mt (k : Int)).f0, .int .i64 (rd_T70 mt (k : Int)).f1, .int .i64 (rd_T70 mt (k : Int)).f2, .int .i64 (rd_T70 mt (k : Int)).f3, .int .i64 (rd_T70 mt (k : Int)).f4, .int .i64 (rd_T70 mt (k : Int)).f5, .slice A6 (rd_T70 mt (k : Int)).f6.length c6] 70))
   clear hO hR HW hfl hl6 hi6
   go_upto_region 5 with (fail)
   clear hx0 hx1 hx2 hx3 hx4 hx5 hx6
   generalize hfv : List.map fc (mt.take k) = fl at *
   clear hfv
   generalize hWX : wr.alloc (.cells #[.string (rd_T70 mt (k : Int)).f0, .int .i64 (rd_T70 mt (k : Int)).f1, .int .i64 (rd_T70 mt (k : Int)).f2, .int .i64 (rd_T70 mt (k : Int)).f3, .int .i64 (rd_T70 mt (k : Int)).f4, .int .i64 (rd_T70 mt (k : Int)).f5, .slice A6 (rd_T70 mt (k : Int)).f6.length c6] 70) = WX at *
   clear hWX
   generalize hXX : wr.heap.size = X at *
   generalize hOO : w.heap.size + 2 = O at *
   refine start_ (n := 9) (S := fun w' => w'.cell? ⟨O, 0, none⟩ = some (.slice A fl.length c) ∧ w'.cell? ⟨X, 0, none⟩ = some (.string (rd_T70 mt (k : Int)).f0) ∧ w'.cell? ⟨X, 1, none⟩ = some (.int .i64 (rd_T70 mt (k : Int)).f1) ∧ w'.cell? ⟨X, 2, none⟩ = some (.int .i64 (rd_T70 mt (k : Int)).f2) ∧ w'.cell? ⟨X, 3, none⟩ = some (.int .i64 (rd_T70 mt (k : Int)).f3) ∧ w'.cell? ⟨X, 4, none⟩ = some (.int .i64 (rd_T70 mt (k : Int)).f4) ∧ w'.cell? ⟨X, 5, none⟩ = some (.int .i64 (rd_T70 mt (k : Int)).f5) ∧ w'.cell? ⟨X, 6, none⟩ = some (.slice A6 (rd_T70 mt (k : Int)).f6.length c6)) (ds := [8]) (bA 9 0) (by kernel_rfl) rfl rfl ⟨(blk_cell BO.out 0).trans rfl, (blk_cell BM.out 0).trans rfl, (blk_cell BM.out 1).trans rfl, (blk_cell BM.out 2).trans rfl, (blk_cell BM.out 3).trans rfl, (blk_cell BM.out 4).trans rfl, (blk_cell BM.out 5).trans rfl, (blk_cell BM.out 6).trans rfl⟩ (fun hHeld => ?_); refine with_tabW line_tab line_bits (fun HT_ HW_ => ?_)
   replace BM := Sd.mk (blk_drew BM.out)
   replace BO := Sd.mk (blk_drew BO.out)
   replace BR := Sd.mk (blk_drew BR.out)
   replace HB := Sd.mk (below_drew1 HB.out)
   replace HI6 := Sd.mk (Kd.C_drew HI6.out)
   replace HR := Sd.mk (Kd.R_drew HR.out)
   generalize WX.drew = W0 at BM BO BR HB HI6 HR hHeld ⊢
   refine pQ 0 (some 19) (bA 9 1) ?_
   refine tQ 1 (some 20) (bA 9 3) ?_
   refine pQ 2 (some 21) (bA 9 7) ?_
   refine tQ 3 (some 22) (bA 9 15) ?_
   refine one_ (i := 4) (N := some 23) (bA 9 31) rfl rfl (one_of HT_.out (by kernel_rfl)) (by decide) (fun K hK => ?_)
   refine goesV_ g lb eg #[.agg #[.string (rd_T70 mt (k : Int)).f0, .int .i64 (rd_T70 mt (k : Int)).f1, .int .i64 (rd_T70 mt (k : Int)).f2, .int .i64 (rd_T70 mt (k : Int)).f3, .int .i64 (rd_T70 mt (k : Int)).f4, .int .i64 (rd_T70 mt (k : Int)).f5, .slice A6 (rd_T70 mt (k : Int)).f6.length c6]] (by rfl) rfl rfl (by rfl) (by (try simp only [List.map_toArray, List.map_cons, List.map_nil]); first | done | rfl) ?_
   refine (HCALL.out W0 HB.out HI6.out HL6.out).mono ?_
   rintro e w4 ⟨rfl, hb⟩
   refine ⟨_, rfl, ?_⟩
   replace BM := Sd.mk (blk_below BM.out hb)
   replace BO := Sd.mk (blk_below BO.out hb)
   replace BR := Sd.mk (blk_below BR.out hb)
   replace HB := Sd.mk (below_step HB.out hb)
   replace HR := Sd.mk (Kd.R_below HR.out hb)
   clear hb HI6 HCALL
   refine hK.out _ _ ⟨(blk_cell BO.out 0).trans rfl, (blk_cell BM.out 0).trans rfl, (blk_cell BM.out 1).trans rfl, (blk_cell BM.out 2).trans rfl, (blk_cell BM.out 3).trans rfl, (blk_cell BM.out 4).trans rfl, (blk_cell BM.out 5).trans rfl, (blk_cell BM.out 6).trans rfl⟩ (fun hHeld => ?_)
   clear hK K
   refine norm_ (a' := ?_) ?_ ?_
   rotate_left
   ·show Act.put _ (some 23) _ = _
    exact tP
   refine one_ (i := 5) (N := some 24) (bA 9 63) rfl rfl (one_of HT_.out (by kernel_rfl)) (by decide) (fun K hK => ?_)
   refine value_ (w1 := ?_) (v := ?_) (by rfl) rfl ?_ ?_
   rotate_left 2
   ·go_simp
    constructor
    ·rfl
    ·rfl
   refine hK.out _ _ ⟨(blk_cell (blk_alloc BO.out _) 0).trans rfl, (blk_cell (blk_alloc BM.out _) 0).trans rfl, (blk_cell (blk_alloc BM.out _) 1).trans rfl, (blk_cell (blk_alloc BM.out _) 2).trans rfl, (blk_cell (blk_alloc BM.out _) 3).trans rfl, (blk_cell (blk_alloc BM.out _) 4).trans rfl, (blk_cell (blk_alloc BM.out _) 5).trans rfl, (blk_cell (blk_alloc BM.out _) 6).trans rfl⟩ (fun hHeld => ?_)
   clear hK K
   refine norm_ (a' := ?_) ?_ ?_
   rotate_left
   ·show Act.put _ (some 24) _ = _
    exact tP
   refine one_ (i := 6) (N := some 25) (bA 9 127) rfl rfl (one_of HT_.out (by kernel_rfl)) (by decide) (fun K hK => ?_)
   refine Kd.R_append_step (Kd.int .i64) (w0 := w) w.heap.size (by rfl) (.tmp 20) (.tmp 24) 30 3 (.int .i64 0) 8 rfl Tryz.underlying30 info3 rfl (by decide) (by omega) (.slice A fl.length c) fl (fc (rd_T70 mt (k : Int))) [.int .i64 (fc (rd_T70 mt (k : Int)))] (fun _ => True) (fun _ => False) rfl rfl ?aP (fun _ hk => hk.elim) ?aF ?aO ?aB ?aS ?aL ?_
   (case aP => exact rfl)
   (case aB => exact (by repeat (first | (with_reducible first | exact HB.out | apply below_alloc | apply pw_below_drewN | apply below_drew1) | exact HB.out)))
   (case aF => exact (fun _ _ => trivial))
   (case aO => exact (by (with_reducible repeat (first | apply Kd.R_alloc | apply Kd.R_drewN | apply Kd.R_drew)); exact HR.out))
   (case aS => exact below_size HB.out)
   (case aL => exact (by rw [HFL.out]; exact Nat.le_trans (Nat.mul_le_mul_right 8 (show k + 1 ≤ 13 by omega)) (by decide)))
   intro v1 w5 ho hb hg hat
   have HB2 := Sd.mk hb
   have HO := Sd.mk ho
   have BO2 := Sd.mk (blk_grown BO.out hg (Kd.R_ne HR.out BO.out (by decide)))
   have BM2 := Sd.mk (blk_grown BM.out hg (Kd.R_ne HR.out BM.out (by decide)))
   have BR2 := Sd.mk (blk_grown BR.out hg (Kd.R_ne HR.out BR.out (by decide)))
   clear HB HR BO BM BR hb ho hat hg
   refine hK.out _ _ ⟨(blk_cell BO2.out 0).trans rfl, (blk_cell BM2.out 0).trans rfl, (blk_cell BM2.out 1).trans rfl, (blk_cell BM2.out 2).trans rfl, (blk_cell BM2.out 3).trans rfl, (blk_cell BM2.out 4).trans rfl, (blk_cell BM2.out 5).trans rfl, (blk_cell BM2.out 6).trans rfl⟩ (fun hHeld => ?_)
   clear hK K
   refine norm_ (a' := ?_) ?_ ?_
   rotate_left
   ·show Act.put _ (some 25) _ = _
    exact tP
   refine pQ 7 (some 26) (bA 9 255) ?_
   have HO' := Sd.mk (Kd.R_types (t := 168) HO.out BO2.out (by decide))
   clear HO
   obtain ⟨A1', c1', rfl⟩ := Kd.R_slice HO'.out
   have hw0 : w5.cell? ⟨O, 0, none⟩ = some (.slice A fl.length c) := (blk_cell BO2.out 0).trans rfl
   have hwf := blk_frozen BO2.out 0
   refine last_ (i := 8) (N := none) (bA 9 511) rfl rfl (one_of HT_.out (by kernel_rfl)) (by decide) (fun K hK => ?_)
   refine skip_ (w1 := ?_) (by rfl) rfl ?_ ?_
   rotate_left
   ·go_simp
    rfl
   refine hK.out _ _ ?_
   clear hK K
   refine done_ (done_of HT_.out (by kernel_rfl)) ?_
   clear hw0 hwf
   go_wp2
   go_roundg (mt.length - (k + 1))
   case measure => omega
   case rel =>
    subst hOO
    refine ⟨k + 1, rfl, by omega, by omega, ⟨?_⟩⟩
    rw [← HSTEP.out]
    refine ⟨below_set HB2.out (by omega), blk_far BR2.out (p := ⟨w.heap.size + 2, 0, none⟩) (by simp) _, A1', c1', ?_, ?_⟩
    ·have h_ := blk_put (cs := #[.slice A fl.length c, .int .i64 b]) BO2.out 0 (.slice A1' (fl.length + 1) c1') rfl
     simpa using h_
    ·have h_ := Kd.R_mono (ok' := fun _ => True) (Kd.R_far HO'.out (fun _ hk => hk.2) (.slice A1' (fl.length + 1) c1') (p := ⟨w.heap.size + 2, 0, none⟩)) (fun _ _ => trivial)
     simpa using h_
  ·have hltz : ¬ (k : Int) < (mt.length : Int) := by omega
   obtain rfl : k = mt.length := by omega
   obtain ⟨A, c, hO, hR⟩ := HW.out.out
   have hT : List.map fc (mt.take mt.length) = List.map fc mt := by rw [List.take_length]
   rw [hT] at hO hR
   rw [List.length_map] at hO hR
   have HR := Sd.mk (Kd.R_types (t := 168) hR hO (by decide))
   have HR2 := Sd.mk (Kd.R_types (t := 168) hR HW.out.res (by decide))
   have c0 : wr.cell? ⟨w.heap.size + 2, 0, none⟩ = some (.slice A mt.length c) := (blk_cell hO 0).trans rfl
   have c1 : wr.cell? ⟨w.heap.size + 2, 1, none⟩ = some (.int .i64 b) := (blk_cell hO 1).trans rfl
   have r0 : wr.cell? ⟨w.heap.size + 1, 0, none⟩ = some (.slice none 0 0) := (blk_cell HW.out.res 0).trans rfl
   have r1 : wr.cell? ⟨w.heap.size + 1, 1, none⟩ = some (.int .i64 0) := (blk_cell HW.out.res 1).trans rfl
   have f0 := blk_frozen HW.out.res 0
   have f1 := blk_frozen HW.out.res 1
   clear hO hR hT
   go_wp2
   refine bodyPost_ret (results_cell_row rfl _ _ (w.heap.size + 1) 168 #[.slice A mt.length c, .int .i64 b] (0, 0) _ rfl (blk_put (cs := #[.slice A mt.length c, .int .i64 0]) (blk_put (cs := #[.slice none 0 0, .int .i64 0]) HW.out.res 0 _ rfl) 1 _ rfl) Tryz.underlying168 (by decide) (by kernel_rfl)) rfl ?_
   refine ⟨_, rfl, ?_, below_set (below_set HW.out.below (by omega)) (by omega)⟩
   exact Kd.R_mono (Kd.R_far (Kd.R_far HR2.out (fun _ hk => hk.2) _) (fun _ hk => hk.2) _) (fun _ _ => trivial)
end
section
attribute [local go_sem] max2_int min2_int max_two min_two
def tgOf (s : List S27) (p : List S89) (j : Nat) : S27 := if j < s.length then rd_T27 s (j : Int) else (rd_T89 p ((j - s.length : Nat) : Int)).f2
def upF (s : List S27) (p : List S89) (j : Nat) (x : S70) : Int := gTS (fun k => coefOf s p j k - (tgOf s p j).f1) x.f6 x.f6.length
def dnF (s : List S27) (p : List S89) (j : Nat) (x : S70) : Int := gTS (fun k => (tgOf s p j).f0 - coefOf s p j k) x.f6 x.f6.length
def pairL (mt : List S70) (s : List S27) (p : List S89) (j : Nat) : List S168 := [⟨mt.map (upF s p j), 0⟩, ⟨mt.map (dnF s p j), 0⟩]
def headL (mt : List S70) (s : List S27) (p : List S89) (a6 : Int) : Nat → List S168
 | 0 => [⟨mt.map (fun x => -lowM x), -1000 * a6⟩]
 | n + 1 => headL mt s p a6 n ++ pairL mt s p n
def linesV (mt : List S70) (s : List S27) (p : List S89) (a4 a5 a6 : Int) : List S168 := headL mt s p a6 (s.length + p.length) ++ [⟨mt.map (rUp a5), 0⟩, ⟨mt.map (rDn a4), 0⟩]
theorem headL_len (mt : List S70) (s : List S27) (p : List S89) (a6 : Int) : ∀ n, (headL mt s p a6 n).length = 1 + 2 * n
 | 0 => rfl
 | n + 1 => by simp only [headL, List.length_append, headL_len mt s p a6 n, pairL, List.length_cons, List.length_nil]; omega
section
variable {o : List ByteArray} {mt : List S70} {s : List S27} {p : List S89} {a4 a5 a6 : Int}
theorem mat_gok (H : BatchOk o mt s p a4 a5 a6) {i : Nat} (hi : i < mt.length) : GOk (rd_T70 mt (i : Int)).f6 := by
 have M := H.mats i hi
 refine ⟨by rw [M.len]; exact H.o12, fun j hj => ?_⟩
 have := M.con j (by rw [← M.len]; exact hj)
 omega
theorem coef_cfok (H : BatchOk o mt s p a4 a5 a6) {j : Nat} (hj : j < s.length + p.length) : CfOk (coefOf s p j) o.length := by
 refine ⟨fun i hi => ?_⟩
 unfold coefOf
 by_cases h : j < s.length
 ·rw [if_pos h]; split <;> omega
 ·rw [if_neg h]
  exact (H.pros (j - s.length) (by omega)).coef i hi
theorem tg_ok (H : BatchOk o mt s p a4 a5 a6) {j : Nat} (hj : j < s.length + p.length) : (-10000 ≤ (tgOf s p j).f0 ∧ (tgOf s p j).f0 ≤ 10000) ∧ -10000 ≤ (tgOf s p j).f1 ∧ (tgOf s p j).f1 ≤ 10000 := by
 unfold tgOf
 by_cases h : j < s.length
 ·rw [if_pos h]
  have := H.shares j h
  omega
 ·rw [if_neg h]
  have := (H.pros (j - s.length) (by omega)).target
  omega
theorem form_tg {w W : World} {j : Nat} {f : F128} (h : FormAt w W s p j f) : f.tg = tgOf s p j := by
 unfold tgOf
 by_cases hj : j < s.length
 ·obtain ⟨I, e, _⟩ := h.1 hj
  rw [if_pos hj, e]
 ·obtain ⟨P, A, c, e, _⟩ := h.2 (by omega)
  rw [if_neg hj, e]
theorem form_enters {w W : World} {j : Nat} {f : F128} (h : FormAt w W s p j f) : ∀ args w, (callFunc f.fn args).run Tryz.prog w = .ok (.enter f.fn args) w := by
 by_cases hj : j < s.length
 ·obtain ⟨I, e, _⟩ := h.1 hj
  rw [e]
  exact enters_of Tryz.func165 (by kernel_rfl) rfl
 ·obtain ⟨P, A, c, e, _⟩ := h.2 (by omega)
  rw [e]
  exact enters_of Tryz.func166 (by kernel_rfl) rfl
theorem facQ118 (H : BatchOk o mt s p a4 a5 a6) (w : World) : FacQ 139 #[] (fun x => -lowM x) mt w := by
 intro W hW i hi A c hC hc
 have h := l118_calls (rd_T70 mt (i : Int)) A c W hC hc (mat_gok H hi)
 simpa using h
theorem facQ_form (H : BatchOk o mt s p a4 a5 a6) {w W0 W1 : World} {j F : Nat} {f : F128} (hF : FormAt w W0 s p j f) (hj : j < s.length + p.length) (hb : Below w.heap.size w W0)
  (hFc : W1.heap[F]? = some (.cells #[.func (.func f.fn) #[] f.lb, .int .i64 f.tg.f0, .int .i64 f.tg.f1] 128 (0, 0))) (hb1 : Below W0.heap.size W0 W1) :
  FacQ 141 #[.pointer (some ⟨F, 0, none⟩)] (upF s p j) mt W1 ∧ FacQ 144 #[.pointer (some ⟨F, 0, none⟩)] (dnF s p j) mt W1 := by
 have T := tg_ok H hj
 have hco : ∀ i : Nat, i < mt.length → CoefQ f.fn f.lb (coefOf s p j) (rd_T70 mt (i : Int)).f6.length W0 ∧ CfOk (coefOf s p j) (rd_T70 mt (i : Int)).f6.length := by
  intro i hi
  have M := H.mats i hi
  refine ⟨hF.coef hb _ (fun hh => ?_), by rw [M.len]; exact coef_cfok H hj⟩
  have := (H.pros (j - s.length) (by omega)).len
  rw [M.len, this]
  exact Int.le_refl _
 constructor
 ·intro W hW i hi A c hC hc
  have h := l120_calls (rd_T70 mt (i : Int)) A c F f.fn f.lb (coefOf s p j) f.tg.f0 f.tg.f1 W0 W (form_enters hF) (hco i hi).1 (below_trans' hb1 hW) (blk_below hFc hW) hC hc (mat_gok H hi) (hco i hi).2 (by rw [form_tg hF]; exact T)
  rw [form_tg hF] at h
  exact h
 ·intro W hW i hi A c hC hc
  have h := l123_calls (rd_T70 mt (i : Int)) A c F f.fn f.lb (coefOf s p j) f.tg.f0 f.tg.f1 W0 W (form_enters hF) (hco i hi).1 (below_trans' hb1 hW) (blk_below hFc hW) hC hc (mat_gok H hi) (hco i hi).2 (by rw [form_tg hF]; exact T)
  rw [form_tg hF] at h
  exact h
theorem facQ125 (H : BatchOk o mt s p a4 a5 a6) {W1 : World} {U : Nat} {u : Int} (hu : -10000 ≤ u ∧ u ≤ 10000) (hU : W1.heap[U]? = some (.cells #[.int .i64 u] 3 (0, 0))) :
  FacQ 146 #[.pointer (some ⟨U, 0, none⟩)] (rUp u) mt W1 ∧ FacQ 147 #[.pointer (some ⟨U, 0, none⟩)] (rDn u) mt W1 :=
 ⟨fun W hW i hi A c hC hc => l125_calls (rd_T70 mt (i : Int)) A c U u W (blk_below hU hW) hC hc (mat_gok H hi) hu (H.mats i hi).redox,
  fun W hW i hi A c hC hc => l126_calls (rd_T70 mt (i : Int)) A c U u W (blk_below hU hW) hC hc (mat_gok H hi) hu (H.mats i hi).redox⟩
end
theorem R_litW {α : Type} (d : Kd α) (base e : Nat) {W : World} {xs : List α} {inner : List Value} {ok okp : Nat → Prop} (hrep : Reps (d.M W base okp) d.sz xs inner) (hok : ∀ k, okp k → ok k) (hfresh : ok W.heap.size) (hbase : base ≤ W.heap.size) (hm : xs.length ≤ 9223372036854775807) :
  d.R e (W.alloc (.cells inner.toArray e)) base ok (.slice (some ⟨W.heap.size, 0, none⟩) xs.length xs.length) xs := by
 refine ⟨fun k hk => ?_, inner, ?_, ?_⟩
 ·have : W.heap.size = k := by simpa [Value.ownBlock] using hk
  subst this
  exact hfresh
 ·have h2 := World.ownsRow_lit (base := base) (e := e) (size := d.sz) W inner.toArray xs.length hbase (by simpa [maxLen] using hm) (by simpa using hrep.1)
  simpa using h2
 ·refine hrep.imp_ (fun p c hp => d.M_mono (fun k hk => ⟨hok k hk.1, fun he => ?_⟩) (Kd.M_below (d.M_bound hp) (below_alloc (Below.refl _ _) _)))
  have h3 : k = W.heap.size := by simpa [Value.ownBlock] using he
  have := hk.2.2.1
  omega
theorem R_one51 {W : World} {base : Nat} {v : Value} {x : S168} (h : (Kd.int .i64).R 3 W base (fun _ => True) v x.f0) (hbase : base ≤ W.heap.size) :
  k168.R 168 (W.alloc (.cells #[v, .int .i64 x.f1] 168)) base (fun _ => True) (.slice (some ⟨W.heap.size, 0, none⟩) 1 1) [x] := by
 have hr : Reps (k168.M W base (fun _ => True)) k168.sz [x] [v, .int .i64 x.f1] := Reps.snoc (Reps.none _ _) (k168_mkM W base _ x h) rfl
 exact R_litW k168 base 168 hr (fun _ h => h) trivial hbase (by simp)
theorem pair_reads {W : World} {base : Nat} {v3 v1 v2 : Value} {xs : List S168} {x x' : S168} (HL : k168.R 168 W base (fun _ => True) v3 xs) (hx : 0 < xs.length) (h1 : (Kd.int .i64).R 3 W base (fun _ => True) v1 x.f0) (h2 : (Kd.int .i64).R 3 W base (fun _ => True) v2 x'.f0) (hbase : base ≤ W.heap.size) :
  ReadsRow (k168.M (W.alloc (.cells #[v1, .int .i64 x.f1, v2, .int .i64 x'.f1] 168)) base (fun j => some j ≠ v3.ownBlock)) k168.sz (W.alloc (.cells #[v1, .int .i64 x.f1, v2, .int .i64 x'.f1] 168)) (some ⟨W.heap.size, 0, none⟩) 2 [x, x'] := by
 obtain ⟨g, cap, rfl, _, hlt, cells, hg⟩ := Kd.R_form HL hx
 have e : ∀ j, j ≠ g → some j ≠ (Value.slice (some ⟨g, 0, none⟩) xs.length cap).ownBlock := by
  intro j hj he
  have : g = j := by simpa [Value.ownBlock] using he.symm
  exact hj this.symm
 have r1 := Kd.R_mono (Kd.R_types (t := 168) h1 hg (by decide)) (fun j hj => e j hj.2)
 have r2 := Kd.R_mono (Kd.R_types (t := 168) h2 hg (by decide)) (fun j hj => e j hj.2)
 have hr : Reps (k168.M W base (fun j => some j ≠ (Value.slice (some ⟨g, 0, none⟩) xs.length cap).ownBlock)) k168.sz [x, x'] [v1, .int .i64 x.f1, v2, .int .i64 x'.f1] := Reps.snoc (Reps.snoc (Reps.none _ _) (k168_mkM W base _ x r1) rfl) (k168_mkM W base _ x' r2) rfl
 have r := R_litW k168 base 168 hr (fun _ h => h) (e _ (Nat.ne_of_gt hlt)) hbase (by simp)
 obtain ⟨A, c, he, _, hrd⟩ := OwnRow.reads r.2
 cases he
 exact ReadsRow.imp_ hrd (Below.refl _ _) (fun _ _ hp => k168.M_mono (fun _ hk => hk.1) hp)
theorem info168 : (Tryz.prog.info? 168).map (fun i => (i.zero, i.size, i.bytes)) = some (some (.agg #[.slice none 0 0, .int .i64 0]), 2, 32) := by kernel_rfl
structure LinesW (w W : World) (cs : Array Value) (xs : List S168) (v : Value) : Prop where
 below : Below w.heap.size w W
 box : W.heap[w.heap.size]? = some (.cells cs 29 (0, 0))
 list : k168.R 168 W w.heap.size (fun _ => True) v xs
theorem LinesW.later {w W W' : World} {cs : Array Value} {xs : List S168} {v : Value} (h : LinesW w W cs xs v) (hb : Below W.heap.size W W') : LinesW w W' cs xs v :=
 ⟨below_step h.below hb, blk_below h.box hb, Kd.R_below h.list hb⟩
structure FormsOk (w W : World) (s : List S27) (p : List S89) (A : Option Addr) (c : Nat) (fs : List F128) : Prop where
 row : k128.R 128 W w.heap.size (fun _ => True) (.slice A fs.length c) fs
 at_ : ∀ j (hj : j < fs.length), FormAt w W s p j fs[j]
theorem FormsOk.reads {w W : World} {s : List S27} {p : List S89} {A : Option Addr} {c : Nat} {fs : List F128} (h : FormsOk w W s p A c fs) : Kd.C k128 W A fs.length fs := by
 obtain ⟨A', c', he, _, hC⟩ := Kd.R_reads h.row
 cases he
 exact hC
theorem FormsOk.later {w W W' : World} {s : List S27} {p : List S89} {A : Option Addr} {c : Nat} {fs : List F128} (h : FormsOk w W s p A c fs) (hb : Below W.heap.size W W') : FormsOk w W' s p A c fs :=
 ⟨Kd.R_below h.row hb, fun j hj => (h.at_ j hj).below hb⟩
theorem FormsOk.grown {w W W' : World} {s : List S27} {p : List S89} {A : Option Addr} {c : Nat} {fs : List F128} {base : Nat} {v3 : Value} {xs : List S168} (h : FormsOk w W s p A c fs) (HL : k168.R 168 W base (fun _ => True) v3 xs) (hx : 0 < xs.length) (hg : W.grownBy W' v3.ownBlock) : FormsOk w W' s p A c fs := by
 refine ⟨?_, fun j hj => ⟨fun hh => ?_, fun hh => ?_⟩⟩
 ·obtain ⟨g, cap, rfl, _, hlt, cells, hgb⟩ := Kd.R_form HL hx
  refine Kd.R_mono (Kd.R_grown (Kd.R_types (t := 168) h.row hgb (by decide)) hg (fun k hk he => hk.2 ?_)) (fun _ _ => trivial)
  have : g = k := by simpa [Value.ownBlock] using he.symm
  exact this.symm
 ·obtain ⟨I, e, hI⟩ := (h.at_ j hj).1 hh
  exact ⟨I, e, blk_grown hI hg (Kd.R_ne HL hI (by decide))⟩
 ·obtain ⟨P, A1, c1, e, hP, hC⟩ := (h.at_ j hj).2 hh
  exact ⟨P, A1, c1, e, blk_grown hP hg (Kd.R_ne HL hP (by decide)), hC⟩
def linesT : Bool × List (List Nat × List Nat) := (true, [([], []), ([], []), ([], []), ([1, 2], [1, 2]), ([], []), ([], []), ([4, 5, 3], [4, 5]), ([3, 6], [3, 6]), ([0, 7, 6], [0, 7]), ([8, 8, 0, 1, 2, 3, 4, 5, 6, 7, 8], [0, 8])])
def linesB : List Nat := [0, 0, 0, 6, 0, 0, 62, 126, 255, 511]
theorem lines_tab : rtab .any (opsOf Tryz.f52 5) = linesT := by kernel_rfl
theorem lines_bits : waitsOk linesT.2 linesB = true := by kernel_rfl
def lines7T : Bool × List (List Nat × List Nat) := (true, [([], []), ([0], [0]), ([1], [1]), ([], []), ([3], [3]), ([4], [4]), ([], []), ([], []), ([6, 2, 0, 1, 2, 6, 7], [2, 6]), ([7, 5, 8, 0, 1, 2, 3, 4, 5, 6, 7, 8], [5, 7])])
def lines7B : List Nat := [0, 1, 3, 0, 8, 24, 0, 0, 199, 511]
theorem lines7_tab : rtab .any (opsOf Tryz.f52 7) = lines7T := by kernel_rfl
theorem lines7_bits : waitsOk lines7T.2 lines7B = true := by kernel_rfl
def lines8T : Bool × List (List Nat × List Nat) := (true, [([], []), ([], []), ([], []), ([1, 2], [1, 2]), ([], []), ([], []), ([4, 5, 3], [4, 5]), ([3, 6], [3, 6]), ([0, 7, 6], [0, 7]), ([8, 8, 0, 1, 2, 3, 4, 5, 6, 7, 8], [8])])
theorem lines8_tab : rtab .any (opsOf Tryz.f52 8) = lines8T := by kernel_rfl
theorem lines8_bits : waitsOk lines8T.2 linesB = true := by kernel_rfl
theorem lines_calls (A00 : Option Addr) (c00 : Nat) (l00 : List ByteArray) (A01 : Option Addr) (c01 : Nat) (l01 : List (S70)) (A02 : Option Addr) (c02 : Nat) (l02 : List (S27)) (A03 : Option Addr) (c03 : Nat) (l03 : List (S89)) (a04 : Int) (a05 : Int) (a06 : Int) (w : World) (hr00 : Kd.C Kd.string w A00 l00.length l00) (hc00 : l00.length ≤ c00) (hr01 : Kd.C k70 w A01 l01.length l01) (hc01 : l01.length ≤ c01) (hr02 : Kd.C k27 w A02 l02.length l02) (hc02 : l02.length ≤ c02) (hr03 : Kd.C k89 w A03 l03.length l03) (hc03 : l03.length ≤ c03)
  (H : BatchOk l00 l01 l02 l03 a04 a05 a06) :
  Calls Tryz.prog 52 #[.agg #[.slice A00 l00.length c00, .slice A01 l01.length c01, .slice A02 l02.length c02, .slice A03 l03.length c03, .int .i64 a04, .int .i64 a05, .int .i64 a06]] w fun e w' => ∃ v0_ : Value, e = .returned v0_ ∧ Kd.R k168 168 w' w.heap.size (fun _ => True) v0_ (linesV l01 l02 l03 a04 a05 a06) ∧ Below w.heap.size w w' := by
 have hb0 : Below w.heap.size w (w.alloc (.cells #[.slice A00 l00.length c00, .slice A01 l01.length c01, .slice A02 l02.length c02, .slice A03 l03.length c03, .int .i64 a04, .int .i64 a05, .int .i64 a06] 29)) := below_alloc (Below.refl _ _) _
 have hbk := blk_new w (.cells #[.slice A00 l00.length c00, .slice A01 l01.length c01, .slice A02 l02.length c02, .slice A03 l03.length c03, .int .i64 a04, .int .i64 a05, .int .i64 a06] 29)
 have hgo := line_calls A00 A01 A02 A03 l00.length c00 c01 l02.length c02 l03.length c03 l01 a04 a05 a06 (-1000 * a06) 139 #[] (fun x => -lowM x) (w.alloc (.cells #[.slice A00 l00.length c00, .slice A01 l01.length c01, .slice A02 l02.length c02, .slice A03 l03.length c03, .int .i64 a04, .int .i64 a05, .int .i64 a06] 29)) (enters_of Tryz.func139 (by kernel_rfl) rfl) (facQ118 H _) (Kd.C_below hr01 hb0) H.m12
 have HR0 := Sd.mk hr00
 have HC0 := Sd.mk hc00
 have HR1 := Sd.mk hr01
 have HC1 := Sd.mk hc01
 have HR2 := Sd.mk hr02
 have HC2 := Sd.mk hc02
 have HR3 := Sd.mk hr03
 have HC3 := Sd.mk hc03
 have HH := Sd.mk H
 have HB := Sd.mk hb0
 have BK := Sd.mk hbk
 have hw6 := H.wanted
 obtain ⟨hw6a, hw6b⟩ := hw6
 have k0 : (w.alloc (.cells #[.slice A00 l00.length c00, .slice A01 l01.length c01, .slice A02 l02.length c02, .slice A03 l03.length c03, .int .i64 a04, .int .i64 a05, .int .i64 a06] 29)).cell? ⟨w.heap.size, 0, none⟩ = some (.slice A00 l00.length c00) := (blk_cell hbk 0).trans rfl
 have k1 : (w.alloc (.cells #[.slice A00 l00.length c00, .slice A01 l01.length c01, .slice A02 l02.length c02, .slice A03 l03.length c03, .int .i64 a04, .int .i64 a05, .int .i64 a06] 29)).cell? ⟨w.heap.size, 1, none⟩ = some (.slice A01 l01.length c01) := (blk_cell hbk 1).trans rfl
 have k2 : (w.alloc (.cells #[.slice A00 l00.length c00, .slice A01 l01.length c01, .slice A02 l02.length c02, .slice A03 l03.length c03, .int .i64 a04, .int .i64 a05, .int .i64 a06] 29)).cell? ⟨w.heap.size, 2, none⟩ = some (.slice A02 l02.length c02) := (blk_cell hbk 2).trans rfl
 have k3 : (w.alloc (.cells #[.slice A00 l00.length c00, .slice A01 l01.length c01, .slice A02 l02.length c02, .slice A03 l03.length c03, .int .i64 a04, .int .i64 a05, .int .i64 a06] 29)).cell? ⟨w.heap.size, 3, none⟩ = some (.slice A03 l03.length c03) := (blk_cell hbk 3).trans rfl
 have k4 : (w.alloc (.cells #[.slice A00 l00.length c00, .slice A01 l01.length c01, .slice A02 l02.length c02, .slice A03 l03.length c03, .int .i64 a04, .int .i64 a05, .int .i64 a06] 29)).cell? ⟨w.heap.size, 4, none⟩ = some (.int .i64 a04) := (blk_cell hbk 4).trans rfl
 have k5 : (w.alloc (.cells #[.slice A00 l00.length c00, .slice A01 l01.length c01, .slice A02 l02.length c02, .slice A03 l03.length c03, .int .i64 a04, .int .i64 a05, .int .i64 a06] 29)).cell? ⟨w.heap.size, 5, none⟩ = some (.int .i64 a05) := (blk_cell hbk 5).trans rfl
 have k6 : (w.alloc (.cells #[.slice A00 l00.length c00, .slice A01 l01.length c01, .slice A02 l02.length c02, .slice A03 l03.length c03, .int .i64 a04, .int .i64 a05, .int .i64 a06] 29)).cell? ⟨w.heap.size, 6, none⟩ = some (.int .i64 a06) := (blk_cell hbk 6).trans rfl
 have k6' : (w.alloc (.cells #[.slice A00 l00.length c00, .slice A01 l01.length c01, .slice A02 l02.length c02, .slice A03 l03.length c03, .int .i64 a04, .int .i64 a05, .int .i64 a06] 29)).cell? ⟨w.heap.size, 0 + 6, none⟩ = some (.int .i64 a06) := (blk_cell hbk 6).trans rfl
 clear hr00 hc00 hr01 hc01 hr02 hc02 hr03 hc03 H hb0 hbk
 go_enter Tryz.func52, Tryz.ntmps52
 go_wp2_with fail
 clear k0 k1 k2 k3 k4 k5 k6 k6' hw6a hw6b
 generalize w.alloc (.cells #[.slice A00 l00.length c00, .slice A01 l01.length c01, .slice A02 l02.length c02, .slice A03 l03.length c03, .int .i64 a04, .int .i64 a05, .int .i64 a06] 29) = w0 at *
 refine hgo.mono ?_
 clear hgo
 rintro e w1 ⟨v, rfl, hR, hb⟩
 have hlw : LinesW w (w1.alloc (.cells #[v, .int .i64 (-1000 * a06)] 168)) #[.slice A00 l00.length c00, .slice A01 l01.length c01, .slice A02 l02.length c02, .slice A03 l03.length c03, .int .i64 a04, .int .i64 a05, .int .i64 a06] (headL l01 l02 l03 a06 0) (.slice (some ⟨w1.heap.size, 0, none⟩) 1 1) :=
  ⟨below_alloc (below_step HB.out hb) _, blk_alloc (blk_below BK.out hb) _, R_one51 (x := ⟨List.map (fun x => -lowM x) l01, -1000 * a06⟩) (Kd.R_lower hR (below_size HB.out)) (below_size (below_step HB.out hb))⟩
 have HLW := Sd.mk hlw
 have hbA : Below w.heap.size w (w1.alloc (.cells #[v, .int .i64 (-1000 * a06)] 168)) := hlw.below
 have H := HH.out
 have hsz : (l02.length + l03.length + 1) * 24 ≤ 140737488355328 := Nat.le_trans (Nat.mul_le_mul_right 24 (show l02.length + l03.length + 1 ≤ 19 by have := H.slen; have := H.o12; have := H.p6; omega)) (by decide)
 have hgo := forms_calls A00 c00 l00 A01 c01 l01 A02 c02 l02 A03 c03 l03 a04 a05 a06 w (w1.alloc (.cells #[v, .int .i64 (-1000 * a06)] 168)) hbA (Kd.C_below HR0.out hbA) HC0.out (Kd.C_below HR1.out hbA) HC1.out (Kd.C_below HR2.out hbA) HC2.out HR3.out HC3.out hsz
 have k0 : (w1.alloc (.cells #[v, .int .i64 (-1000 * a06)] 168)).cell? ⟨w.heap.size, 0, none⟩ = some (.slice A00 l00.length c00) := (blk_cell hlw.box 0).trans rfl
 have k1 : (w1.alloc (.cells #[v, .int .i64 (-1000 * a06)] 168)).cell? ⟨w.heap.size, 1, none⟩ = some (.slice A01 l01.length c01) := (blk_cell hlw.box 1).trans rfl
 have k2 : (w1.alloc (.cells #[v, .int .i64 (-1000 * a06)] 168)).cell? ⟨w.heap.size, 2, none⟩ = some (.slice A02 l02.length c02) := (blk_cell hlw.box 2).trans rfl
 have k3 : (w1.alloc (.cells #[v, .int .i64 (-1000 * a06)] 168)).cell? ⟨w.heap.size, 3, none⟩ = some (.slice A03 l03.length c03) := (blk_cell hlw.box 3).trans rfl
 have k4 : (w1.alloc (.cells #[v, .int .i64 (-1000 * a06)] 168)).cell? ⟨w.heap.size, 4, none⟩ = some (.int .i64 a04) := (blk_cell hlw.box 4).trans rfl
 have k5 : (w1.alloc (.cells #[v, .int .i64 (-1000 * a06)] 168)).cell? ⟨w.heap.size, 5, none⟩ = some (.int .i64 a05) := (blk_cell hlw.box 5).trans rfl
 have k6 : (w1.alloc (.cells #[v, .int .i64 (-1000 * a06)] 168)).cell? ⟨w.heap.size, 6, none⟩ = some (.int .i64 a06) := (blk_cell hlw.box 6).trans rfl
 clear hlw hbA H hsz hR hb HB BK
 go_wp2_with fail
 clear k0 k1 k2 k3 k4 k5 k6
 generalize w1.alloc (.cells #[v, .int .i64 (-1000 * a06)] 168) = wA at *
 refine hgo.mono ?_
 clear hgo
 rintro e w2 ⟨Af, cf, fs, rfl, hfc, hfC, hfl, hF, hb2, hfR⟩
 have HLW2 := Sd.mk (HLW.out.later hb2)
 have HFO := Sd.mk (FormsOk.mk (Kd.R_lower hfR (below_size HLW.out.below)) hF)
 have HFL := Sd.mk hfl
 have hfz : (fs.length : Int) < 9223372036854775807 := by have H := HH.out; have := H.slen; have := H.o12; have := H.p6; omega
 have HFZ := Sd.mk hfz
 clear HLW hb2 hfC hfl hF hfR
 go_wp2
 clear hfc hfz
 go_loopg [3, 17] fs.length (fun gq v3 v17 wr => ∃ k : Nat, v17 = .int .i64 k ∧ k ≤ fs.length ∧ fs.length - k ≤ gq ∧ Sd (LinesW w wr #[.slice A00 l00.length c00, .slice A01 l01.length c01, .slice A02 l02.length c02, .slice A03 l03.length c03, .int .i64 a04, .int .i64 a05, .int .i64 a06] (headL l01 l02 l03 a06 k) v3) ∧ Sd (FormsOk w wr l02 l03 Af cf fs))
 case atStart => exact ⟨0, rfl, Nat.zero_le _, by omega, HLW2, HFO⟩
 case round =>
  clear HLW2 HFO
  obtain ⟨k, rfl, hk, hgk, HW, HFO⟩ := hrel
  have hfz := HFZ.out
  by_cases hlt : k < fs.length
  ·have hltz : (k : Int) < (fs.length : Int) := by omega
   obtain ⟨ad, rfl, hx0, hx1, hx2⟩ := at_T128 HFO.out.reads k hlt
   have HFK := Sd.mk (HFO.out.at_ k hlt)
   generalize hff : fs[k] = f at *
   clear hff
   have HLX := Sd.mk (HW.out.later (below_alloc (Below.refl _ _) (.cells #[.func (.func f.fn) #[] f.lb, .int .i64 f.tg.f0, .int .i64 f.tg.f1] 128)))
   have BF := Sd.mk (blk_new wr (.cells #[.func (.func f.fn) #[] f.lb, .int .i64 f.tg.f0, .int .i64 f.tg.f1] 128))
   have H := HH.out
   have hkl : k < l02.length + l03.length := by have := HFL.out; omega
   have hfq := facQ_form H (F := wr.heap.size) (W1 := wr.alloc (.cells #[.func (.func f.fn) #[] f.lb, .int .i64 f.tg.f0, .int .i64 f.tg.f1] 128)) HFK.out hkl HW.out.below (blk_new wr (.cells #[.func (.func f.fn) #[] f.lb, .int .i64 f.tg.f0, .int .i64 f.tg.f1] 128)) (below_alloc (Below.refl _ _) _)
   have HQ := Sd.mk hfq
   have HFY := Sd.mk (HFO.out.later (below_alloc (Below.refl _ _) (.cells #[.func (.func f.fn) #[] f.lb, .int .i64 f.tg.f0, .int .i64 f.tg.f1] 128)))
   have HKL := Sd.mk hkl
   have HK := Sd.mk hgk
   have HLT := Sd.mk hlt
   have HM12 := Sd.mk H.m12
   clear HW HFO H hkl hfq hgk hlt
   go_upto_region 5 with (fail)
   clear hx0 hx1 hx2
   generalize wr.alloc (.cells #[.func (.func f.fn) #[] f.lb, .int .i64 f.tg.f0, .int .i64 f.tg.f1] 128) = WX at *
   generalize hXX : wr.heap.size = X at *
   clear hXX
   have HB := Sd.mk HLX.out.below
   have BK := Sd.mk HLX.out.box
   have HL := Sd.mk HLX.out.list
   have HBZ := Sd.mk (Below.refl WX.heap.size WX)
   clear HLX BF
   refine start_ (n := 10) (S := fun w' => w'.cell? ⟨w.heap.size, 0, none⟩ = some (.slice A00 l00.length c00) ∧ w'.cell? ⟨w.heap.size, 1, none⟩ = some (.slice A01 l01.length c01) ∧ w'.cell? ⟨w.heap.size, 2, none⟩ = some (.slice A02 l02.length c02) ∧ w'.cell? ⟨w.heap.size, 3, none⟩ = some (.slice A03 l03.length c03) ∧ w'.cell? ⟨w.heap.size, 4, none⟩ = some (.int .i64 a04) ∧ w'.cell? ⟨w.heap.size, 5, none⟩ = some (.int .i64 a05) ∧ w'.cell? ⟨w.heap.size, 6, none⟩ = some (.int .i64 a06)) (ds := []) (bA 10 0) (by kernel_rfl) rfl rfl ⟨(blk_cell BK.out 0).trans rfl, (blk_cell BK.out 1).trans rfl, (blk_cell BK.out 2).trans rfl, (blk_cell BK.out 3).trans rfl, (blk_cell BK.out 4).trans rfl, (blk_cell BK.out 5).trans rfl, (blk_cell BK.out 6).trans rfl⟩ (fun hHeld => ?_); refine with_tabW lines_tab lines_bits (fun HT_ HW_ => ?_)
   replace BK := Sd.mk (blk_drew BK.out)
   replace HL := Sd.mk (Kd.R_drew HL.out)
   replace HB := Sd.mk (below_drew1 HB.out)
   replace HBZ := Sd.mk (below_drew1 HBZ.out)
   replace HFY := Sd.mk (HFY.out.later (below_drew1 (Below.refl WX.heap.size WX)))
   generalize WX.drew = W0 at BK HL HB HBZ HFY hHeld ⊢
   refine pQ 0 (some 21) (bA 10 1) ?_
   refine tQ 1 (some 22) (bA 10 3) ?_
   refine pQ 2 (some 23) (bA 10 7) ?_
   refine tQ 4 (some 25) (bA 10 23) ?_
   refine pQ 5 (some 26) (bA 10 55) ?_
   refine one_ (i := 3) (N := some 24) (bA 10 63) rfl rfl (one_of HT_.out (by kernel_rfl)) (by decide) (fun K hK => ?_)
   refine goes_ Tryz.func138 (by kernel_rfl) rfl #[.agg #[.slice A00 l00.length c00, .slice A01 l01.length c01, .slice A02 l02.length c02, .slice A03 l03.length c03, .int .i64 a04, .int .i64 a05, .int .i64 a06], .int .i64 0, .func (.func 141) #[] #[.pointer (some ⟨X, 0, none⟩)]] (by rfl) rfl rfl (by (try simp only [List.map_toArray, List.map_cons, List.map_nil]); first | done | rfl) ?_
   refine (line_calls A00 A01 A02 A03 l00.length c00 c01 l02.length c02 l03.length c03 l01 a04 a05 a06 0 141 #[.pointer (some ⟨X, 0, none⟩)] (upF l02 l03 k) _ (enters_of Tryz.func141 (by kernel_rfl) rfl) (fun W hW => HQ.out.1 W (below_trans' HBZ.out hW)) (Kd.C_below HR1.out HB.out) HM12.out).mono ?_
   rintro e w4 ⟨v1, rfl, hR, hb⟩
   refine ⟨_, rfl, ?_⟩
   have Hv1 := Sd.mk (Kd.R_lower hR (below_size HB.out))
   replace BK := Sd.mk (blk_below BK.out hb)
   replace HL := Sd.mk (Kd.R_below HL.out hb)
   replace HBZ := Sd.mk (below_step HBZ.out hb)
   replace HFY := Sd.mk (HFY.out.later hb)
   replace HB := Sd.mk (below_step HB.out hb)
   clear hb hR
   refine hK.out _ _ ⟨(blk_cell BK.out 0).trans rfl, (blk_cell BK.out 1).trans rfl, (blk_cell BK.out 2).trans rfl, (blk_cell BK.out 3).trans rfl, (blk_cell BK.out 4).trans rfl, (blk_cell BK.out 5).trans rfl, (blk_cell BK.out 6).trans rfl⟩ (fun hHeld => ?_)
   clear hK K
   refine norm_ (a' := ?_) ?_ ?_
   rotate_left
   ·show Act.put _ (some 24) _ = _
    exact tP
   refine one_ (i := 6) (N := some 27) (bA 10 127) rfl rfl (one_of HT_.out (by kernel_rfl)) (by decide) (fun K hK => ?_)
   refine goes_ Tryz.func138 (by kernel_rfl) rfl #[.agg #[.slice A00 l00.length c00, .slice A01 l01.length c01, .slice A02 l02.length c02, .slice A03 l03.length c03, .int .i64 a04, .int .i64 a05, .int .i64 a06], .int .i64 0, .func (.func 144) #[] #[.pointer (some ⟨X, 0, none⟩)]] (by rfl) rfl rfl (by (try simp only [List.map_toArray, List.map_cons, List.map_nil]); first | done | rfl) ?_
   refine (line_calls A00 A01 A02 A03 l00.length c00 c01 l02.length c02 l03.length c03 l01 a04 a05 a06 0 144 #[.pointer (some ⟨X, 0, none⟩)] (dnF l02 l03 k) _ (enters_of Tryz.func144 (by kernel_rfl) rfl) (fun W hW => HQ.out.2 W (below_trans' HBZ.out hW)) (Kd.C_below HR1.out HB.out) HM12.out).mono ?_
   rintro e w4 ⟨v2, rfl, hR, hb⟩
   refine ⟨_, rfl, ?_⟩
   have Hv2 := Sd.mk (Kd.R_lower hR (below_size HB.out))
   replace Hv1 := Sd.mk (Kd.R_below Hv1.out hb)
   replace BK := Sd.mk (blk_below BK.out hb)
   replace HL := Sd.mk (Kd.R_below HL.out hb)
   replace HBZ := Sd.mk (below_step HBZ.out hb)
   replace HFY := Sd.mk (HFY.out.later hb)
   replace HB := Sd.mk (below_step HB.out hb)
   clear hb hR
   refine hK.out _ _ ⟨(blk_cell BK.out 0).trans rfl, (blk_cell BK.out 1).trans rfl, (blk_cell BK.out 2).trans rfl, (blk_cell BK.out 3).trans rfl, (blk_cell BK.out 4).trans rfl, (blk_cell BK.out 5).trans rfl, (blk_cell BK.out 6).trans rfl⟩ (fun hHeld => ?_)
   clear hK K
   refine norm_ (a' := ?_) ?_ ?_
   rotate_left
   ·show Act.put _ (some 27) _ = _
    exact tP
   refine one_ (i := 7) (N := some 28) (bA 10 255) rfl rfl (one_of HT_.out (by kernel_rfl)) (by decide) (fun K hK => ?_)
   refine value_ (w1 := ?_) (v := ?_) (by rfl) rfl ?_ ?_
   rotate_left 2
   ·go_simp
    constructor
    ·rfl
    ·rfl
   refine hK.out _ _ ⟨(blk_cell (blk_alloc BK.out _) 0).trans rfl, (blk_cell (blk_alloc BK.out _) 1).trans rfl, (blk_cell (blk_alloc BK.out _) 2).trans rfl, (blk_cell (blk_alloc BK.out _) 3).trans rfl, (blk_cell (blk_alloc BK.out _) 4).trans rfl, (blk_cell (blk_alloc BK.out _) 5).trans rfl, (blk_cell (blk_alloc BK.out _) 6).trans rfl⟩ (fun hHeld => ?_)
   clear hK K
   refine norm_ (a' := ?_) ?_ ?_
   rotate_left
   ·show Act.put _ (some 28) _ = _
    exact tP
   refine one_ (i := 8) (N := some 29) (bA 10 511) rfl rfl (one_of HT_.out (by kernel_rfl)) (by decide) (fun K hK => ?_)
   refine Kd.R_append_rows_step k168 (w0 := w) w.heap.size (by rfl) (.tmp 21) (.tmp 28) 100 168 (.agg #[.slice none 0 0, .int .i64 0]) 32 rfl Tryz.underlying100 info168 rfl (by decide) (by omega) u3 (headL l01 l02 l03 a06 k) (pairL l01 l02 l03 k) (some ⟨_, 0, none⟩) 2 2 (fun _ => True) (fun j => some j ≠ u3.ownBlock) rfl rfl (Kd.R_alloc HL.out _) (pair_reads HL.out (by rw [headL_len]; omega) Hv1.out Hv2.out (below_size HB.out)) (fun _ _ hp => hp) (fun _ hk => ⟨trivial, hk⟩) (fun _ _ => trivial) (below_alloc HB.out _) ?aS ?aL ?_
   (case aS => exact below_size (below_alloc HB.out _))
   (case aL => exact (by rw [headL_len]; exact Nat.le_trans (Nat.mul_le_mul_right 32 (show 1 + 2 * k + 2 ≤ 100 by have := HKL.out; have H := HH.out; have := H.slen; have := H.o12; have := H.p6; omega)) (by decide)))
   intro v5 w5 ho hb hg hat
   have BK2 := Sd.mk (blk_grown (blk_alloc BK.out _) hg (Kd.R_ne HL.out BK.out (by decide)))
   have HLW := Sd.mk (LinesW.mk hb BK2.out ho)
   have HFX := Sd.mk ((HFY.out.later (below_alloc (Below.refl _ _) _)).grown (Kd.R_alloc HL.out _) (by rw [headL_len]; omega) hg)
   clear BK HL HB Hv1 Hv2 HFY hb ho hat hg
   refine hK.out _ _ ⟨(blk_cell BK2.out 0).trans rfl, (blk_cell BK2.out 1).trans rfl, (blk_cell BK2.out 2).trans rfl, (blk_cell BK2.out 3).trans rfl, (blk_cell BK2.out 4).trans rfl, (blk_cell BK2.out 5).trans rfl, (blk_cell BK2.out 6).trans rfl⟩ (fun hHeld => ?_)
   clear hK K
   refine norm_ (a' := ?_) ?_ ?_
   rotate_left
   ·show Act.put _ (some 29) _ = _
    exact tP
   refine pQ 9 (some 3) (bA 10 1023) ?_
   refine done_ (done_of HT_.out (by kernel_rfl)) ?_
   have hfz := HFZ.out
   have hlt := HLT.out
   have hgk := HK.out
   go_wp2
   go_roundg (fs.length - (k + 1))
   case measure => omega
   case rel => exact ⟨k + 1, by first | rfl | (rw [wrap_id (by omega) (by omega)]; rfl), by omega, by omega, HLW, HFX⟩
  ·have H := HH.out
   have hkn : k = l02.length + l03.length := by have := HFL.out; omega
   have hltz : ¬ (k : Int) < (fs.length : Int) := by omega
   have HB := Sd.mk HW.out.below
   have BK := Sd.mk HW.out.box
   have HL := Sd.mk HW.out.list
   have HM12 := Sd.mk H.m12
   have HRX := Sd.mk H.redox
   have HKN := Sd.mk hkn
   have HSZ := Sd.mk (show 1 + 2 * k + 2 ≤ 100 by have := H.slen; have := H.o12; have := H.p6; omega)
   clear HW HFO H hkn hgk
   go_upto_region 7 with (fail)
   refine start_ (n := 10) (S := fun w' => w'.cell? ⟨w.heap.size, 0, none⟩ = some (.slice A00 l00.length c00) ∧ w'.cell? ⟨w.heap.size, 1, none⟩ = some (.slice A01 l01.length c01) ∧ w'.cell? ⟨w.heap.size, 2, none⟩ = some (.slice A02 l02.length c02) ∧ w'.cell? ⟨w.heap.size, 3, none⟩ = some (.slice A03 l03.length c03) ∧ w'.cell? ⟨w.heap.size, 4, none⟩ = some (.int .i64 a04) ∧ w'.cell? ⟨w.heap.size, 5, none⟩ = some (.int .i64 a05) ∧ w'.cell? ⟨w.heap.size, 6, none⟩ = some (.int .i64 a06)) (ds := []) (bA 10 0) (by kernel_rfl) rfl rfl ⟨(blk_cell BK.out 0).trans rfl, (blk_cell BK.out 1).trans rfl, (blk_cell BK.out 2).trans rfl, (blk_cell BK.out 3).trans rfl, (blk_cell BK.out 4).trans rfl, (blk_cell BK.out 5).trans rfl, (blk_cell BK.out 6).trans rfl⟩ (fun hHeld => ?_); refine with_tabW lines7_tab lines7_bits (fun HT_ HW_ => ?_)
   replace BK := Sd.mk (blk_drew BK.out)
   replace HL := Sd.mk (Kd.R_drew HL.out)
   replace HB := Sd.mk (below_drew1 HB.out)
   generalize wr.drew = W0 at BK HL HB hHeld ⊢
   refine pQ 0 (some 31) (bA 10 1) ?_
   refine pQ 1 (some 32) (bA 10 3) ?_
   refine tQ 2 (some 33) (bA 10 7) ?_
   refine pQ 3 (some 34) (bA 10 15) ?_
   refine pQ 4 (some 35) (bA 10 31) ?_
   refine tQ 5 (some 36) (bA 10 63) ?_
   refine join_ (σ := Nat × Nat) 2 (bA 10 255) (fun s_ => [(6, .pointer (some ⟨s_.1, 0, none⟩)), (7, .pointer (some ⟨s_.2, 0, none⟩))]) (fun s_ w' => (w'.cell? ⟨w.heap.size, 0, none⟩ = some (.slice A00 l00.length c00) ∧ w'.cell? ⟨w.heap.size, 1, none⟩ = some (.slice A01 l01.length c01) ∧ w'.cell? ⟨w.heap.size, 2, none⟩ = some (.slice A02 l02.length c02) ∧ w'.cell? ⟨w.heap.size, 3, none⟩ = some (.slice A03 l03.length c03) ∧ w'.cell? ⟨w.heap.size, 4, none⟩ = some (.int .i64 a04) ∧ w'.cell? ⟨w.heap.size, 5, none⟩ = some (.int .i64 a05) ∧ w'.cell? ⟨w.heap.size, 6, none⟩ = some (.int .i64 a06)) ∧ Below w.heap.size w w' ∧ w'.heap[w.heap.size]? = some (.cells #[.slice A00 l00.length c00, .slice A01 l01.length c01, .slice A02 l02.length c02, .slice A03 l03.length c03, .int .i64 a04, .int .i64 a05, .int .i64 a06] 29 (0, 0)) ∧ k168.R 168 w' w.heap.size (fun j => j ≠ s_.1 ∧ j ≠ s_.2) u3 (headL l01 l02 l03 a06 k) ∧ w'.heap[s_.1]? = some (.cells #[.int .i64 0] 3 (0, 0)) ∧ w'.heap[s_.2]? = some (.cells #[.int .i64 0] 3 (0, 0)) ∧ s_.1 ≠ s_.2 ∧ w.heap.size < s_.1 ∧ w.heap.size < s_.2) ?_ ?_
   rotate_left
   ·skip
    intro hCont
    refine two_ (i := 6) (j := 7) (Ni := some 6) (Nj := some 7) (bA 10 127) (bA 10 191) rfl rfl rfl rfl (two_of HT_.out (by kernel_rfl)) (by decide) (by decide) (fun K hK => ?_) (fun K hK => ?_)
    ·skip
     refine box_step ?hg (N := 6) ?hd (cs := #[.int .i64 0]) (t := 3) ?hr ?_; (case hd => rfl); (case hg => rfl); (case hr => first | (go_simp; done) | (go_simp; rfl))
     intro U6 hg6 w6 hbox6 hb6
     have BK6 := Sd.mk (blk_below BK.out hb6)
     refine hK.out _ _ ⟨(blk_cell BK6.out 0).trans rfl, (blk_cell BK6.out 1).trans rfl, (blk_cell BK6.out 2).trans rfl, (blk_cell BK6.out 3).trans rfl, (blk_cell BK6.out 4).trans rfl, (blk_cell BK6.out 5).trans rfl, (blk_cell BK6.out 6).trans rfl⟩ (fun hHeld => ?_)
     clear hK K
     refine norm_ (a' := ?_) ?_ ?_
     rotate_left
     ·show Act.put _ (some 6) _ = _
      exact tP
     refine one_ (i := 7) (N := some 7) (bA 10 255) rfl rfl (one_of HT_.out (by kernel_rfl)) (by decide) (fun K hK => ?_)
     refine box_step ?hg (N := 7) ?hd (cs := #[.int .i64 0]) (t := 3) ?hr ?_; (case hd => rfl); (case hg => rfl); (case hr => first | (go_simp; done) | (go_simp; rfl))
     intro U7 hg7 w7 hbox7 hb7
     have BK7 := Sd.mk (blk_below BK6.out hb7)
     refine hK.out _ _ ⟨(blk_cell BK7.out 0).trans rfl, (blk_cell BK7.out 1).trans rfl, (blk_cell BK7.out 2).trans rfl, (blk_cell BK7.out 3).trans rfl, (blk_cell BK7.out 4).trans rfl, (blk_cell BK7.out 5).trans rfl, (blk_cell BK7.out 6).trans rfl⟩ (fun hHeld => ?_)
     clear hK K
     refine norm_ (a' := ?_) ?_ ?_
     rotate_left
     ·show Act.put _ (some 7) _ = _
      exact tP
     have hl1 := blk_lt BK.out
     have hl2 := blk_lt hbox6
     have hokk : ∀ j, (True ∧ w.heap.size ≤ j ∧ j < W0.heap.size ∧ ∃ q, q ∈ 168 :: k168.E ∧ ∃ cells, W0.heap[j]? = some (.cells cells q (0, 0))) → j ≠ U6 ∧ j ≠ U7 := fun j hj => ⟨by have := hj.2.2.1; omega, by have := hj.2.2.1; omega⟩
     exact norm_ (by simp only [putAll, Act.put, List.setIfInBounds_toArray, List.set_cons_zero, List.set_cons_succ]) (hCont (U6, U7) _ ⟨⟨(blk_cell BK7.out 0).trans rfl, (blk_cell BK7.out 1).trans rfl, (blk_cell BK7.out 2).trans rfl, (blk_cell BK7.out 3).trans rfl, (blk_cell BK7.out 4).trans rfl, (blk_cell BK7.out 5).trans rfl, (blk_cell BK7.out 6).trans rfl⟩, below_step (below_step HB.out hb6) hb7, BK7.out, Kd.R_below (Kd.R_below (Kd.R_mono (Kd.R_bound HL.out) hokk) hb6) hb7, blk_below hbox6 hb7, hbox7, by omega, by have := hb6.size; omega, by have := hb6.size; omega⟩)
    ·skip
     refine box_step ?hg (N := 7) ?hd (cs := #[.int .i64 0]) (t := 3) ?hr ?_; (case hd => rfl); (case hg => rfl); (case hr => first | (go_simp; done) | (go_simp; rfl))
     intro U7 hg7 w7 hbox7 hb7
     have BK7 := Sd.mk (blk_below BK.out hb7)
     refine hK.out _ _ ⟨(blk_cell BK7.out 0).trans rfl, (blk_cell BK7.out 1).trans rfl, (blk_cell BK7.out 2).trans rfl, (blk_cell BK7.out 3).trans rfl, (blk_cell BK7.out 4).trans rfl, (blk_cell BK7.out 5).trans rfl, (blk_cell BK7.out 6).trans rfl⟩ (fun hHeld => ?_)
     clear hK K
     refine norm_ (a' := ?_) ?_ ?_
     rotate_left
     ·show Act.put _ (some 7) _ = _
      exact tP
     refine one_ (i := 6) (N := some 6) (bA 10 255) rfl rfl (one_of HT_.out (by kernel_rfl)) (by decide) (fun K hK => ?_)
     refine box_step ?hg (N := 6) ?hd (cs := #[.int .i64 0]) (t := 3) ?hr ?_; (case hd => rfl); (case hg => rfl); (case hr => first | (go_simp; done) | (go_simp; rfl))
     intro U6 hg6 w6 hbox6 hb6
     have BK6 := Sd.mk (blk_below BK7.out hb6)
     refine hK.out _ _ ⟨(blk_cell BK6.out 0).trans rfl, (blk_cell BK6.out 1).trans rfl, (blk_cell BK6.out 2).trans rfl, (blk_cell BK6.out 3).trans rfl, (blk_cell BK6.out 4).trans rfl, (blk_cell BK6.out 5).trans rfl, (blk_cell BK6.out 6).trans rfl⟩ (fun hHeld => ?_)
     clear hK K
     refine norm_ (a' := ?_) ?_ ?_
     rotate_left
     ·show Act.put _ (some 6) _ = _
      exact tP
     have hl1 := blk_lt BK.out
     have hl2 := blk_lt hbox7
     have hokk : ∀ j, (True ∧ w.heap.size ≤ j ∧ j < W0.heap.size ∧ ∃ q, q ∈ 168 :: k168.E ∧ ∃ cells, W0.heap[j]? = some (.cells cells q (0, 0))) → j ≠ U6 ∧ j ≠ U7 := fun j hj => ⟨by have := hj.2.2.1; omega, by have := hj.2.2.1; omega⟩
     exact norm_ (by simp only [putAll, Act.put, List.setIfInBounds_toArray, List.set_cons_zero, List.set_cons_succ]) (hCont (U6, U7) _ ⟨⟨(blk_cell BK6.out 0).trans rfl, (blk_cell BK6.out 1).trans rfl, (blk_cell BK6.out 2).trans rfl, (blk_cell BK6.out 3).trans rfl, (blk_cell BK6.out 4).trans rfl, (blk_cell BK6.out 5).trans rfl, (blk_cell BK6.out 6).trans rfl⟩, below_step (below_step HB.out hb7) hb6, BK6.out, Kd.R_below (Kd.R_below (Kd.R_mono (Kd.R_bound HL.out) hokk) hb7) hb6, hbox6, blk_below hbox7 hb6, by omega, by have := hb7.size; omega, by have := hb7.size; omega⟩)
   rintro ⟨U6, U7⟩ w7 ⟨hS_, hB, hBK, hL, h6, h7, hne, hg6, hg7⟩
   dsimp only at hB hBK hL h6 h7 hne hg6 hg7
   clear HB BK HL
   refine norm_ (a' := ?_) ?_ ?_
   rotate_left
   ·simp only [putAll, Act.put, List.setIfInBounds_toArray, List.set_cons_zero, List.set_cons_succ]
    rfl
   have h60 : w7.cell? ⟨U6, 0, none⟩ = some (.int .i64 0) := (blk_cell h6 0).trans rfl
   have f60 := blk_frozen h6 0
   refine one_ (i := 8) (N := none) (bA 10 511) rfl rfl (one_of HT_.out (by kernel_rfl)) (by decide) (fun K hK => ?_)
   refine skip_ (w1 := ?_) (by rfl) rfl ?_ ?_
   rotate_left
   ·go_simp
    rfl
   have hBK8 := blk_far hBK (p := ⟨U6, 0, none⟩) (show w.heap.size ≠ U6 by omega) (.int .i64 a04)
   have hL8 := Kd.R_far hL (p := ⟨U6, 0, none⟩) (fun j hj => hj.1) (.int .i64 a04)
   have hB8 := below_set (j := 0) (v := .int .i64 a04) hB (show w.heap.size ≤ U6 by omega)
   have h68 := blk_put (cs := #[.int .i64 0]) h6 0 (.int .i64 a04) rfl
   have h78 := blk_far h7 (p := ⟨U6, 0, none⟩) (Ne.symm hne) (.int .i64 a04)
   refine hK.out _ _ ⟨(blk_cell hBK8 0).trans rfl, (blk_cell hBK8 1).trans rfl, (blk_cell hBK8 2).trans rfl, (blk_cell hBK8 3).trans rfl, (blk_cell hBK8 4).trans rfl, (blk_cell hBK8 5).trans rfl, (blk_cell hBK8 6).trans rfl⟩ (fun hHeld => ?_)
   clear hK K h60 f60
   have h70 : (w7.setCell ⟨U6, 0, none⟩ (.int .i64 a04)).cell? ⟨U7, 0, none⟩ = some (.int .i64 0) := (blk_cell h78 0).trans rfl
   have f70 := blk_frozen h78 0
   refine one_ (i := 9) (N := none) (bA 10 1023) rfl rfl (one_of HT_.out (by kernel_rfl)) (by decide) (fun K hK => ?_)
   refine skip_ (w1 := ?_) (by rfl) rfl ?_ ?_
   rotate_left
   ·go_simp
    rfl
   have BK := Sd.mk (blk_far hBK8 (p := ⟨U7, 0, none⟩) (show w.heap.size ≠ U7 by omega) (.int .i64 a05))
   have HL := Sd.mk (Kd.R_mono (ok' := fun _ => True) (Kd.R_far hL8 (p := ⟨U7, 0, none⟩) (fun j hj => hj.2) (.int .i64 a05)) (fun _ _ => trivial))
   have HB := Sd.mk (below_set (j := 0) (v := .int .i64 a05) hB8 (show w.heap.size ≤ U7 by omega))
   have B6 := Sd.mk (blk_far h68 (p := ⟨U7, 0, none⟩) hne (.int .i64 a05))
   have B7 := Sd.mk (blk_put (cs := #[.int .i64 0]) h78 0 (.int .i64 a05) rfl)
   refine hK.out _ _ ⟨(blk_cell BK.out 0).trans rfl, (blk_cell BK.out 1).trans rfl, (blk_cell BK.out 2).trans rfl, (blk_cell BK.out 3).trans rfl, (blk_cell BK.out 4).trans rfl, (blk_cell BK.out 5).trans rfl, (blk_cell BK.out 6).trans rfl⟩ (fun hHeld => ?_)
   clear hK K h70 f70 hBK8 hL8 hB8 h68 h78 hB hBK hL h6 h7 hne hg6 hg7 hS_
   refine done_ (done_of HT_.out (by kernel_rfl)) ?_
   go_upto_region 8 with (fail)
   generalize ((w7.setCell ⟨U6, 0, none⟩ (.int .i64 a04)).setCell ⟨U7, 0, none⟩ (.int .i64 a05)) = WX at *
   have H := HH.out
   have hr := HRX.out
   have HQ5 := Sd.mk (facQ125 H (u := a05) (by omega) B7.out).1
   have HQ6 := Sd.mk (facQ125 H (u := a04) (by omega) B6.out).2
   have HBZ := Sd.mk (Below.refl WX.heap.size WX)
   clear B6 B7 H hr
   refine start_ (n := 10) (S := fun w' => w'.cell? ⟨w.heap.size, 0, none⟩ = some (.slice A00 l00.length c00) ∧ w'.cell? ⟨w.heap.size, 1, none⟩ = some (.slice A01 l01.length c01) ∧ w'.cell? ⟨w.heap.size, 2, none⟩ = some (.slice A02 l02.length c02) ∧ w'.cell? ⟨w.heap.size, 3, none⟩ = some (.slice A03 l03.length c03) ∧ w'.cell? ⟨w.heap.size, 4, none⟩ = some (.int .i64 a04) ∧ w'.cell? ⟨w.heap.size, 5, none⟩ = some (.int .i64 a05) ∧ w'.cell? ⟨w.heap.size, 6, none⟩ = some (.int .i64 a06)) (ds := []) (bA 10 0) (by kernel_rfl) rfl rfl ⟨(blk_cell BK.out 0).trans rfl, (blk_cell BK.out 1).trans rfl, (blk_cell BK.out 2).trans rfl, (blk_cell BK.out 3).trans rfl, (blk_cell BK.out 4).trans rfl, (blk_cell BK.out 5).trans rfl, (blk_cell BK.out 6).trans rfl⟩ (fun hHeld => ?_); refine with_tabW lines8_tab lines8_bits (fun HT_ HW_ => ?_)
   replace BK := Sd.mk (blk_drew BK.out)
   replace HL := Sd.mk (Kd.R_drew HL.out)
   replace HB := Sd.mk (below_drew1 HB.out)
   replace HBZ := Sd.mk (below_drew1 HBZ.out)
   generalize WX.drew = W9 at BK HL HB HBZ hHeld ⊢
   refine pQ 0 (some 37) (bA 10 1) ?_
   refine tQ 1 (some 38) (bA 10 3) ?_
   refine pQ 2 (some 39) (bA 10 7) ?_
   refine tQ 4 (some 41) (bA 10 23) ?_
   refine pQ 5 (some 42) (bA 10 55) ?_
   refine one_ (i := 3) (N := some 40) (bA 10 63) rfl rfl (one_of HT_.out (by kernel_rfl)) (by decide) (fun K hK => ?_)
   refine goes_ Tryz.func138 (by kernel_rfl) rfl #[.agg #[.slice A00 l00.length c00, .slice A01 l01.length c01, .slice A02 l02.length c02, .slice A03 l03.length c03, .int .i64 a04, .int .i64 a05, .int .i64 a06], .int .i64 0, .func (.func 146) #[] #[.pointer (some ⟨U7, 0, none⟩)]] (by rfl) rfl rfl (by (try simp only [List.map_toArray, List.map_cons, List.map_nil]); first | done | rfl) ?_
   refine (line_calls A00 A01 A02 A03 l00.length c00 c01 l02.length c02 l03.length c03 l01 a04 a05 a06 0 146 #[.pointer (some ⟨U7, 0, none⟩)] (rUp a05) _ (enters_of Tryz.func146 (by kernel_rfl) rfl) (fun W hW => HQ5.out W (below_trans' HBZ.out hW)) (Kd.C_below HR1.out HB.out) HM12.out).mono ?_
   rintro e w4 ⟨v1, rfl, hR, hb⟩
   refine ⟨_, rfl, ?_⟩
   have Hv1 := Sd.mk (Kd.R_lower hR (below_size HB.out))
   replace BK := Sd.mk (blk_below BK.out hb)
   replace HL := Sd.mk (Kd.R_below HL.out hb)
   replace HBZ := Sd.mk (below_step HBZ.out hb)
   replace HB := Sd.mk (below_step HB.out hb)
   clear hb hR
   refine hK.out _ _ ⟨(blk_cell BK.out 0).trans rfl, (blk_cell BK.out 1).trans rfl, (blk_cell BK.out 2).trans rfl, (blk_cell BK.out 3).trans rfl, (blk_cell BK.out 4).trans rfl, (blk_cell BK.out 5).trans rfl, (blk_cell BK.out 6).trans rfl⟩ (fun hHeld => ?_)
   clear hK K
   refine norm_ (a' := ?_) ?_ ?_
   rotate_left
   ·show Act.put _ (some 40) _ = _
    exact tP
   refine one_ (i := 6) (N := some 43) (bA 10 127) rfl rfl (one_of HT_.out (by kernel_rfl)) (by decide) (fun K hK => ?_)
   refine goes_ Tryz.func138 (by kernel_rfl) rfl #[.agg #[.slice A00 l00.length c00, .slice A01 l01.length c01, .slice A02 l02.length c02, .slice A03 l03.length c03, .int .i64 a04, .int .i64 a05, .int .i64 a06], .int .i64 0, .func (.func 147) #[] #[.pointer (some ⟨U6, 0, none⟩)]] (by rfl) rfl rfl (by (try simp only [List.map_toArray, List.map_cons, List.map_nil]); first | done | rfl) ?_
   refine (line_calls A00 A01 A02 A03 l00.length c00 c01 l02.length c02 l03.length c03 l01 a04 a05 a06 0 147 #[.pointer (some ⟨U6, 0, none⟩)] (rDn a04) _ (enters_of Tryz.func147 (by kernel_rfl) rfl) (fun W hW => HQ6.out W (below_trans' HBZ.out hW)) (Kd.C_below HR1.out HB.out) HM12.out).mono ?_
   rintro e w4 ⟨v2, rfl, hR, hb⟩
   refine ⟨_, rfl, ?_⟩
   have Hv2 := Sd.mk (Kd.R_lower hR (below_size HB.out))
   replace Hv1 := Sd.mk (Kd.R_below Hv1.out hb)
   replace BK := Sd.mk (blk_below BK.out hb)
   replace HL := Sd.mk (Kd.R_below HL.out hb)
   replace HBZ := Sd.mk (below_step HBZ.out hb)
   replace HB := Sd.mk (below_step HB.out hb)
   clear hb hR
   refine hK.out _ _ ⟨(blk_cell BK.out 0).trans rfl, (blk_cell BK.out 1).trans rfl, (blk_cell BK.out 2).trans rfl, (blk_cell BK.out 3).trans rfl, (blk_cell BK.out 4).trans rfl, (blk_cell BK.out 5).trans rfl, (blk_cell BK.out 6).trans rfl⟩ (fun hHeld => ?_)
   clear hK K
   refine norm_ (a' := ?_) ?_ ?_
   rotate_left
   ·show Act.put _ (some 43) _ = _
    exact tP
   refine one_ (i := 7) (N := some 44) (bA 10 255) rfl rfl (one_of HT_.out (by kernel_rfl)) (by decide) (fun K hK => ?_)
   refine value_ (w1 := ?_) (v := ?_) (by rfl) rfl ?_ ?_
   rotate_left 2
   ·go_simp
    constructor
    ·rfl
    ·rfl
   refine hK.out _ _ ⟨(blk_cell (blk_alloc BK.out _) 0).trans rfl, (blk_cell (blk_alloc BK.out _) 1).trans rfl, (blk_cell (blk_alloc BK.out _) 2).trans rfl, (blk_cell (blk_alloc BK.out _) 3).trans rfl, (blk_cell (blk_alloc BK.out _) 4).trans rfl, (blk_cell (blk_alloc BK.out _) 5).trans rfl, (blk_cell (blk_alloc BK.out _) 6).trans rfl⟩ (fun hHeld => ?_)
   clear hK K
   refine norm_ (a' := ?_) ?_ ?_
   rotate_left
   ·show Act.put _ (some 44) _ = _
    exact tP
   refine one_ (i := 8) (N := some 45) (bA 10 511) rfl rfl (one_of HT_.out (by kernel_rfl)) (by decide) (fun K hK => ?_)
   refine Kd.R_append_rows_step k168 (w0 := w) w.heap.size (by rfl) (.tmp 37) (.tmp 44) 100 168 (.agg #[.slice none 0 0, .int .i64 0]) 32 rfl Tryz.underlying100 info168 rfl (by decide) (by omega) u3 (headL l01 l02 l03 a06 k) [⟨l01.map (rUp a05), 0⟩, ⟨l01.map (rDn a04), 0⟩] (some ⟨_, 0, none⟩) 2 2 (fun _ => True) (fun j => some j ≠ u3.ownBlock) rfl rfl (Kd.R_alloc HL.out _) (pair_reads (x := ⟨l01.map (rUp a05), 0⟩) (x' := ⟨l01.map (rDn a04), 0⟩) HL.out (by rw [headL_len]; omega) Hv1.out Hv2.out (below_size HB.out)) (fun _ _ hp => hp) (fun _ hk => ⟨trivial, hk⟩) (fun _ _ => trivial) (below_alloc HB.out _) ?aS ?aL ?_
   (case aS => exact below_size (below_alloc HB.out _))
   (case aL => exact (by rw [headL_len]; exact Nat.le_trans (Nat.mul_le_mul_right 32 HSZ.out) (by decide)))
   intro v5 w5 ho hb hg hat
   have BK2 := Sd.mk (blk_grown (blk_alloc BK.out _) hg (Kd.R_ne HL.out BK.out (by decide)))
   have HO := Sd.mk ho
   have HB2 := Sd.mk hb
   clear BK HL HB Hv1 Hv2 hb ho hat hg
   refine hK.out _ _ ⟨(blk_cell BK2.out 0).trans rfl, (blk_cell BK2.out 1).trans rfl, (blk_cell BK2.out 2).trans rfl, (blk_cell BK2.out 3).trans rfl, (blk_cell BK2.out 4).trans rfl, (blk_cell BK2.out 5).trans rfl, (blk_cell BK2.out 6).trans rfl⟩ (fun hHeld => ?_)
   clear hK K
   refine norm_ (a' := ?_) ?_ ?_
   rotate_left
   ·show Act.put _ (some 45) _ = _
    exact tP
   refine pQ 9 (some 2) (bA 10 1023) ?_
   refine done_ (done_of HT_.out (by kernel_rfl)) ?_
   go_wp2
   go_ret
   have hkn := HKN.out
   subst hkn
   exact ⟨v5, rfl, HO.out, HB2.out⟩
end
section
def x_lines.f (l00 : List ByteArray) (l01 : List (S70)) (l02 : List (S27)) (l03 : List (S89)) (a04 : Int) (a05 : Int) (a06 : Int) : Option (List S168) :=
  if checkV l00 l01 l02 l03 a04 a05 a06 = 0 then some (linesV l01 l02 l03 a04 a05 a06) else none
theorem x_lines.calls (A00 : Option Addr) (c00 : Nat) (l00 : List ByteArray) (A01 : Option Addr) (c01 : Nat) (l01 : List (S70)) (A02 : Option Addr) (c02 : Nat) (l02 : List (S27)) (A03 : Option Addr) (c03 : Nat) (l03 : List (S89)) (a04 : Int) (a05 : Int) (a06 : Int) (r : List S168) (w : World) (hr00 : Kd.C Kd.string w A00 l00.length l00) (hc00 : l00.length ≤ c00) (hr01 : Kd.C k70 w A01 l01.length l01) (hc01 : l01.length ≤ c01) (hr02 : Kd.C k27 w A02 l02.length l02) (hc02 : l02.length ≤ c02) (hr03 : Kd.C k89 w A03 l03.length l03) (hc03 : l03.length ≤ c03) (h : x_lines.f l00 l01 l02 l03 a04 a05 a06 = some r) :
    Calls Tryz.prog 52 #[.agg #[.slice A00 l00.length c00, .slice A01 l01.length c01, .slice A02 l02.length c02, .slice A03 l03.length c03, .int .i64 a04, .int .i64 a05, .int .i64 a06]] w fun e w' => ∃ v0_ : Value, e = .returned v0_ ∧ Kd.R k168 168 w' w.heap.size (fun _ => True) v0_ r ∧ Below w.heap.size w w' := by
  unfold x_lines.f at h
  by_cases hc : checkV l00 l01 l02 l03 a04 a05 a06 = 0
  · rw [if_pos hc] at h
    obtain rfl := Option.some.inj h
    exact lines_calls A00 c00 l00 A01 c01 l01 A02 c02 l02 A03 c03 l03 a04 a05 a06 w hr00 hc00 hr01 hc01 hr02 hc02 hr03 hc03 (check_ok hc)
  · rw [if_neg hc] at h; cases h
end
section
def b_value.l0 : Nat → List Int → Int → List Int → Int → Int → Option (Int)
 | 0, _, _, _, _, _ => none
 | k + 1, x1, x5, x9, x10, x11 => if x11 < x10 then (if 0 ≤ x11 then (if x11 < (x9.length : Int) then (if x11 < (x1.length : Int) then (b_value.l0 k x1 (wrap64 (x5 + (wrap64 ((rd x1 x11) * (rd x9 x11))))) x9 x10 (wrap64 (x11 + 1))) else (none)) else (none)) else (none)) else (some x5)
def b_value.f (k : Nat) (l00 : List Int) (a01 : Int) (l1 : List Int) : Option (Int) := b_value.l0 k l1 0 l00 (l00.length : Int) 0
theorem b_value.calls (k : Nat) (A00 : Option Addr) (c00 : Nat) (l00 : List Int) (a01 : Int) (A1 : Option Addr) (c1 : Nat) (l1 : List Int) (r : Int) (w : World) (hr00 : Kd.C (Kd.int .i64) w A00 l00.length l00) (hc00 : l00.length ≤ c00) (hr1 : Kd.C (Kd.int .i64) w A1 l1.length l1) (hc1 : l1.length ≤ c1) (h : b_value.f k l00 a01 l1 = some r) :
  Calls Tryz.prog 137 #[.agg #[.slice A00 l00.length c00, .int .i64 a01], .slice A1 l1.length c1] w fun e w' => e = .returned (.int .i64 r) ∧ Below w.heap.size w w' := by
 have hu168 := Tryz.underlying168; have HR00 := Sd.mk hr00; have HC00 := Sd.mk hc00; clear hr00 hc00; have HR1 := Sd.mk hr1; have HC1 := Sd.mk hc1; clear hr1 hc1; have HB := Sd.mk (Below.refl w.heap.size w)
 have H : (b_value.l0 k l1 0 l00 (l00.length : Int) 0) = some r := h
 clear h; have H' := Sd.mk H; clear H
 go_enter Tryz.func137, Tryz.ntmps137
 go_wp2_with (first | ((with_reducible refine gate_dst (N := 2) rfl ?_); refine box_event ?hg (N := 2) ?hd (cs := #[.slice A00 l00.length c00, .int .i64 a01]) (t := 168) ?hr ?_; (case hd => rfl); (case hg => rfl); (case hr => exact tG); intro gb1009 hg w3 hbox hb; have BK1009 := Sd.mk (hbox); have GW1009 := Sd.mk (bSz hg (bBl HB.out)); have GE1009 := Sd.mk (bSz hg (bBl HB.out)); replace HB := Sd.mk (below_step (bBl HB.out) hb); clear hb hbox hg; obtain ⟨u4_0, u4_1, o40, o41⟩ := bc2 (w := w3) BK1009.out))
 go_loopg [5, 11] k (fun kq v5 v11 w' => ∃ (x51 : Int) (x111 : Int), v5 = .int .i64 x51 ∧ v11 = .int .i64 x111 ∧ Sd (b_value.l0 kq l1 x51 l00 (l00.length : Int) x111 = some r) ∧ Sd (kq ≤ k) ∧ Sd (w'.heap[gb1009]? = some (.cells #[(.slice A00 l00.length c00), .int .i64 a01] 168 (0, 0))) ∧ Sd (Below w.heap.size w w'))
 case atStart => exact ⟨(0), (0), tS, tS, H', ⟨Nat.le_refl _⟩, ⟨bkA BK1009.out⟩, ⟨bBl HB.out⟩⟩
 case round =>
  clear H'; (try clear c1); (try clear p2); (try clear u4_0 u4_1); (try clear o40 o41); obtain ⟨x51, x111, rfl, rfl, HA, HK1, BK1009, HB⟩ := hrel
  cases gk with
  | zero => exact absurd HA.out (by simp [b_value.l0])
  | succ k1 =>
   have H := HA.out; clear HA
   simp only [b_value.l0] at H
   by_cases c5 : x111 < (l00.length : Int)
   ·rw [if_pos c5] at H
    have c5b0 : decide (x111 < (l00.length : Int)) = true := decide_eq_true c5
    clear c5
    by_cases c6 : 0 ≤ x111
    ·rw [if_pos c6] at H
     have c6b0 : decide (0 ≤ x111) = true := decide_eq_true c6
     clear c6
     by_cases c7 : x111 < (l00.length : Int)
     ·rw [if_pos c7] at H
      have c7b0 : decide (x111 < (l00.length : Int)) = true := decide_eq_true c7
      clear c7
      by_cases c8 : x111 < (l1.length : Int)
      ·rw [if_pos c8] at H
       have c8b0 : decide (x111 < (l1.length : Int)) = true := decide_eq_true c8
       clear c8; have H' := Sd.mk H; clear H
       have p1010 : 0 ≤ (x111 : Int) := tB
       have q1010 : x111 < (l00.length : Int) := tB
       obtain ⟨ad1010, e1010, hx10100⟩ := Kd.at_int HR00.out x111 p1010 q1010; cases e1010; replace hx10100 := cU HB hx10100; replace p1010 := eq_true p1010; replace q1010 := eq_true q1010
       have p1011 : 0 ≤ (x111 : Int) := tB
       have q1011 : x111 < (l1.length : Int) := tB
       obtain ⟨ad1011, e1011, hx10110⟩ := Kd.at_int HR1.out x111 p1011 q1011; cases e1011; replace hx10110 := cU HB hx10110; replace p1011 := eq_true p1011; replace q1011 := eq_true q1011
       go_wp2
       go_roundg k1
       case measure => have := HK1.out; omega
       case rel => exact ⟨(wrap64 (x51 + (wrap64 ((rd l1 x111) * (rd l00 x111))))), (wrap64 (x111 + 1)), tS, tS, H', ⟨by have := HK1.out; omega⟩, ⟨bkA BK1009.out⟩, ⟨bBl HB.out⟩⟩
      ·rw [if_neg c8] at H
       exact absurd H (by simp)
     ·rw [if_neg c7] at H
      exact absurd H (by simp)
    ·rw [if_neg c6] at H
     exact absurd H (by simp)
   ·rw [if_neg c5] at H
    have c5b0 : decide (x111 < (l00.length : Int)) = false := decide_eq_false c5
    clear c5; obtain rfl := Option.some.inj H
    go_wp2
    go_ret
    exact ⟨tE, bBl HB.out⟩
end
section
def vW (r fs : List Int) : Nat → Int
 | 0 => 0
 | i + 1 => wrap64 (vW r fs i + wrap64 (rd r (i : Int) * rd fs (i : Int)))
theorem value_l0 (r fs : List Int) (h1 : fs.length ≤ r.length) (h2 : fs.length ≤ 1000000) : ∀ (m i : Nat), i + m = fs.length → Ev (fun k => b_value.l0 k r (vW r fs i) fs (fs.length : Int) (i : Int)) (vW r fs fs.length)
 | 0, i, hi => by
  apply Ev.step
  simp only [b_value.l0, if_neg (show ¬ (i : Int) < (fs.length : Int) by omega)]
  rw [show i = fs.length by omega]
  exact Ev.const _
 | m + 1, i, hi => by
  have ih := value_l0 r fs h1 h2 m (i + 1) (by omega)
  apply Ev.step
  simp only [b_value.l0, if_pos (show (i : Int) < (fs.length : Int) by omega), if_pos (i_pos i), if_pos (show (i : Int) < (r.length : Int) by omega), wrap_succ (i_pos i) (show (i : Int) ≤ 1000000000 by omega)]
  exact ih
theorem value_calls (x : S168) (r : List Int) (Ax A1 : Option Addr) (cx c1 : Nat) (w : World) (hx : Kd.C (Kd.int .i64) w Ax x.f0.length x.f0) (hcx : x.f0.length ≤ cx) (hr : Kd.C (Kd.int .i64) w A1 r.length r) (hc1 : r.length ≤ c1) (h1 : x.f0.length ≤ r.length) (h2 : x.f0.length ≤ 1000000) :
  Calls Tryz.prog 137 (#[.agg #[.slice Ax x.f0.length cx, .int .i64 x.f1]] ++ #[.slice A1 r.length c1]) w fun e w' => e = .returned (.int .i64 (vW r x.f0 x.f0.length)) ∧ Below w.heap.size w w' := by
 obtain ⟨K, hK⟩ := value_l0 r x.f0 h1 h2 x.f0.length 0 (by omega)
 exact b_value.calls K Ax cx x.f0 x.f1 A1 c1 r _ w hx hcx hr hc1 (hK K (Nat.le_refl _))
def keepT : Bool × List (List Nat × List Nat) := (true, [([], []), ([], []), ([0, 1], [0, 1]), ([], []), ([], []), ([4], [4]), ([3, 5], [3, 5]), ([2, 6], [2, 6]), ([7, 2, 0, 1, 2, 3, 4, 5, 6, 7], [7])])
def keepB : List Nat := [0, 0, 3, 0, 0, 16, 56, 127, 255]
theorem keep_tab : rtab .any (opsOf Tryz.f136 1) = keepT := by kernel_rfl
theorem keep_bits : waitsOk keepT.2 keepB = true := by kernel_rfl
theorem k110_calls (x : S168) (r : List Int) (Ax A1 : Option Addr) (cx c1 R T_ : Nat) (t : Int) (w : World) (hx : Kd.C (Kd.int .i64) w Ax x.f0.length x.f0) (hcx : x.f0.length ≤ cx) (hr : Kd.C (Kd.int .i64) w A1 r.length r) (hc1 : r.length ≤ c1) (h1 : x.f0.length ≤ r.length) (h2 : x.f0.length ≤ 1000000)
  (hR : w.heap[R]? = some (.cells #[.slice A1 r.length c1] 30 (0, 0))) (hT : w.heap[T_]? = some (.cells #[.int .i64 t] 3 (0, 0))) :
  Calls Tryz.prog 136 #[.agg #[.slice Ax x.f0.length cx, .int .i64 x.f1], .pointer (some ⟨R, 0, none⟩), .pointer (some ⟨T_, 0, none⟩)] w fun e w' => e = .returned (.bool (decide (wrap64 (t * x.f1) < vW r x.f0 x.f0.length))) ∧ Below w.heap.size w w' := by
 have hb0 : Below w.heap.size w (w.alloc (.cells #[.slice Ax x.f0.length cx, .int .i64 x.f1] 168)) := below_alloc (Below.refl _ _) _
 have HB := Sd.mk hb0
 have BX := Sd.mk (blk_new w (.cells #[.slice Ax x.f0.length cx, .int .i64 x.f1] 168))
 have BR := Sd.mk (blk_below hR hb0)
 have BT := Sd.mk (blk_below hT hb0)
 have HX := Sd.mk (Kd.C_below hx hb0)
 have HR := Sd.mk (Kd.C_below hr hb0)
 have HCX := Sd.mk hcx
 have HC1 := Sd.mk hc1
 have H1 := Sd.mk h1
 have H2 := Sd.mk h2
 clear hx hcx hr hc1 h1 h2 hR hT hb0
 go_enter Tryz.func136, Tryz.ntmps136
 go_upto_region 1 with (fail)
 generalize w.alloc (.cells #[.slice Ax x.f0.length cx, .int .i64 x.f1] 168) = WX at *
 generalize hXX : w.heap.size = X at BX ⊢
 generalize hv : vW r x.f0 x.f0.length = v at *
 refine start_ (n := 9) (S := fun w' => w'.cell? ⟨X, 0, none⟩ = some (.slice Ax x.f0.length cx) ∧ w'.cell? ⟨X, 1, none⟩ = some (.int .i64 x.f1) ∧ w'.cell? ⟨R, 0, none⟩ = some (.slice A1 r.length c1) ∧ w'.cell? ⟨T_, 0, none⟩ = some (.int .i64 t)) (ds := []) (bA 9 0) (by kernel_rfl) rfl rfl ⟨(blk_cell BX.out 0).trans rfl, (blk_cell BX.out 1).trans rfl, (blk_cell BR.out 0).trans rfl, (blk_cell BT.out 0).trans rfl⟩ (fun hHeld => ?_); refine with_tabW keep_tab keep_bits (fun HT_ HW_ => ?_)
 replace BX := Sd.mk (blk_drew BX.out)
 replace BR := Sd.mk (blk_drew BR.out)
 replace BT := Sd.mk (blk_drew BT.out)
 replace HX := Sd.mk (Kd.C_drew HX.out)
 replace HR := Sd.mk (Kd.C_drew HR.out)
 replace HB := Sd.mk (below_drew1 HB.out)
 generalize WX.drew = W0 at BX BR BT HX HR HB hHeld ⊢
 refine tQ 0 (some 5) (bA 9 1) ?_
 refine tQ 1 (some 6) (bA 9 3) ?_
 refine tQ 3 (some 8) (bA 9 11) ?_
 refine pQ 4 (some 9) (bA 9 27) ?_
 refine tQ 5 (some 10) (bA 9 59) ?_
 refine pQ 6 (some 11) (bA 9 123) ?_
 refine one_ (i := 2) (N := some 7) (bA 9 127) rfl rfl (one_of HT_.out (by kernel_rfl)) (by decide) (fun K hK => ?_)
 refine goes_ Tryz.func137 (by kernel_rfl) rfl (#[.agg #[.slice Ax x.f0.length cx, .int .i64 x.f1]] ++ #[.slice A1 r.length c1]) (by rfl) rfl rfl (by (try simp only [List.map_toArray, List.map_cons, List.map_nil]); first | done | rfl) ?_
 refine (value_calls x r Ax A1 cx c1 W0 HX.out HCX.out HR.out HC1.out H1.out H2.out).mono ?_
 rintro e w4 ⟨rfl, hb⟩
 refine ⟨_, rfl, ?_⟩
 replace BX := Sd.mk (blk_below BX.out hb)
 replace BR := Sd.mk (blk_below BR.out hb)
 replace BT := Sd.mk (blk_below BT.out hb)
 replace HB := Sd.mk (below_step HB.out hb)
 clear hb HX HR
 refine hK.out _ _ ⟨(blk_cell BX.out 0).trans rfl, (blk_cell BX.out 1).trans rfl, (blk_cell BR.out 0).trans rfl, (blk_cell BT.out 0).trans rfl⟩ (fun hHeld => ?_)
 clear hK K
 refine norm_ (a' := ?_) ?_ ?_
 rotate_left
 ·show Act.put _ (some 7) _ = _
  exact tP
 refine pQ 7 (some 12) (bA 9 255) ?_
 refine pQ 8 (some 4) (bA 9 511) ?_
 refine done_ (done_of HT_.out (by kernel_rfl)) ?_
 go_wp2
 go_ret
 subst hv
 exact ⟨by first | rfl | simp, HB.out⟩
def TellsL (g : Nat) (lb : Array Value) (x : S168) (b : Bool) (w : World) : Prop :=
 ∀ W, Below w.heap.size w W → ∀ (Ax : Option Addr) (cx : Nat), Kd.C (Kd.int .i64) W Ax x.f0.length x.f0 → x.f0.length ≤ cx →
  Calls Tryz.prog g (#[.agg #[.slice Ax x.f0.length cx, .int .i64 x.f1]] ++ lb) W fun e W' => e = .returned (.bool b) ∧ Below W.heap.size W W'
theorem indexFunc_line (p : S168 → Bool) (g : Nat) (lb : Array Value) (eg : ∀ args w, (callFunc g args).run Tryz.prog w = .ok (.enter g args) w)
  (A : Option Addr) (c : Nat) (l : List S168) (w : World) (hr : Kd.C k168 w A l.length l) (hg : ∀ x ∈ l, TellsL g lb x (p x) w) :
  Calls Tryz.prog 197 #[.slice A l.length c, .func (.func g) #[] lb] w fun e w' => e = .returned (.int .i64 (idxFrom p l 0)) ∧ Below w.heap.size w w' := by
 have HR := Sd.mk hr
 have HG := Sd.mk hg
 have hmax := Kd.C_max hr
 clear hr hg
 go_enter Tryz.func197, Tryz.ntmps197
 go_wp2
 go_loopg [5, 8] l.length (fun kq _ v8 w' => ∃ k : Nat, v8 = .int .i64 k ∧ k ≤ l.length ∧ Sd (l.length - k ≤ kq) ∧ Sd (idxFrom p l 0 = idxFrom p (l.drop k) k) ∧ Sd (Below w.heap.size w w'))
 case atStart => exact ⟨0, rfl, Nat.zero_le _, ⟨by omega⟩, ⟨rfl⟩, ⟨Below.refl _ _⟩⟩
 case round =>
  obtain ⟨k, rfl, hk, HM, HI, HB⟩ := hrel
  by_cases hlt : k < l.length
  ·have hltz : (k : Int) < (l.length : Int) := by omega
   obtain ⟨ad, Ax, cx, e, hc0, hc1, hlx, hix⟩ := at_T168 (Kd.C_below HR.out HB.out) (k : Int) (by omega) hltz
   cases e
   have HD := idxFrom_drop p z168 l k hlt k
   have hx : rd_T168 l (k : Int) = l.getD k z168 := by simp [rd_T168]
   have hmem : l.getD k z168 ∈ l := by
    rw [List.getD_eq_getElem?_getD, List.getElem?_eq_getElem hlt]; exact List.getElem_mem hlt
   rw [hx] at hc0 hc1 hlx hix
   have hcall := HG.out _ hmem _ HB.out Ax cx hix hlx
   generalize hxx : l.getD k z168 = x at hc0 hc1 hcall HD
   have HX := Sd.mk hxx
   have HD' := Sd.mk HD
   clear hxx HD hx hmem hlx hix
   simp only [Int.toNat_natCast] at hc0 hc1
   cases hp : p x with
   | true =>
    rw [hp] at hcall
    have HP := Sd.mk hp
    clear hp
    go_wp2_with (go_at_fn g; refine (hcall).mono ?_; rintro e w1 ⟨rfl, hb1⟩)
    go_ret
    exact ⟨by rw [HI.out, HD'.out, if_pos HP.out]; rfl, below_trans' HB.out hb1⟩
   | false =>
    rw [hp] at hcall
    have HP := Sd.mk hp
    clear hp
    go_wp2_with (go_at_fn g; refine (hcall).mono ?_; rintro e w1 ⟨rfl, hb1⟩)
    go_roundg (l.length - (k + 1))
    case measure => have := HM.out; omega
    case rel =>
     exact ⟨k + 1, by go_num, by omega, ⟨by omega⟩, ⟨by rw [HI.out, HD'.out, if_neg (by rw [HP.out]; simp)]; simp⟩, ⟨below_trans' HB.out hb1⟩⟩
  ·have hltz : ¬ (k : Int) < (l.length : Int) := by omega
   go_wp2
   go_ret
   exact ⟨by rw [HI.out, List.drop_eq_nil_of_le (by omega)]; rfl, HB.out⟩
theorem containsFunc_line (p : S168 → Bool) (g : Nat) (lb : Array Value) (eg : ∀ args w, (callFunc g args).run Tryz.prog w = .ok (.enter g args) w)
  (A : Option Addr) (c : Nat) (l : List S168) (w : World) (hr : Kd.C k168 w A l.length l) (hg : ∀ x ∈ l, TellsL g lb x (p x) w) :
  Calls Tryz.prog 135 #[.slice A l.length c, .func (.func g) #[] lb] w fun e w' => e = .returned (.bool (l.any p)) ∧ Below w.heap.size w w' := by
 have H := indexFunc_line p g lb eg A c l w hr hg
 have HA := Sd.mk (idxFrom_any p l 0 (Int.le_refl 0))
 clear hr hg eg
 go_enter Tryz.func135, Tryz.ntmps135
 go_wp2_with (go_at_call 197; refine H.mono ?_; rintro e w1 ⟨rfl, hb1⟩)
 go_ret
 exact ⟨by rw [← HA.out]; rfl, hb1⟩
def x_keeps.f (l : List S168) (r : List Int) (t : Int) : Option Bool :=
 if (l.all fun x => decide (x.f0.length ≤ r.length) && decide (x.f0.length ≤ 1000000)) = true then some (!(l.any fun x => decide (wrap64 (t * x.f1) < vW r x.f0 x.f0.length))) else none
theorem x_keeps.calls (A0 : Option Addr) (c0 : Nat) (l0 : List S168) (A1 : Option Addr) (c1 : Nat) (l1 : List Int) (a2 : Int) (r : Bool) (w : World) (hr0 : Kd.C k168 w A0 l0.length l0) (hc0 : l0.length ≤ c0) (hr1 : Kd.C (Kd.int .i64) w A1 l1.length l1) (hc1 : l1.length ≤ c1) (h : x_keeps.f l0 l1 a2 = some r) :
  Calls Tryz.prog 51 #[.slice A0 l0.length c0, .slice A1 l1.length c1, .int .i64 a2] w fun e w' => e = .returned (.bool r) ∧ Below w.heap.size w w' := by
 unfold x_keeps.f at h
 by_cases hall : (l0.all fun x => decide (x.f0.length ≤ l1.length) && decide (x.f0.length ≤ 1000000)) = true
 ·rw [if_pos hall] at h
  obtain rfl := Option.some.inj h
  have hb0 : Below w.heap.size w ((w.alloc (.cells #[.slice A1 l1.length c1] 30)).alloc (.cells #[.int .i64 a2] 3)) := below_alloc (below_alloc (Below.refl _ _) _) _
  have hR : ((w.alloc (.cells #[.slice A1 l1.length c1] 30)).alloc (.cells #[.int .i64 a2] 3)).heap[w.heap.size]? = some (.cells #[.slice A1 l1.length c1] 30 (0, 0)) := blk_alloc (blk_new w _) _
  have hT : ((w.alloc (.cells #[.slice A1 l1.length c1] 30)).alloc (.cells #[.int .i64 a2] 3)).heap[w.heap.size + 1]? = some (.cells #[.int .i64 a2] 3 (0, 0)) := by
   have := blk_new (w.alloc (.cells #[.slice A1 l1.length c1] 30)) (.cells #[.int .i64 a2] 3)
   simpa using this
  have hgo := containsFunc_line (fun x => decide (wrap64 (a2 * x.f1) < vW l1 x.f0 x.f0.length)) 136 #[.pointer (some ⟨w.heap.size, 0, none⟩), .pointer (some ⟨w.heap.size + 1, 0, none⟩)] (enters_of Tryz.func136 (by kernel_rfl) rfl) A0 c0 l0 _ (Kd.C_below hr0 hb0) (fun x hx W hW Ax cx hix hlx => by
   have hh := List.all_eq_true.1 hall x hx
   simp only [Bool.and_eq_true, decide_eq_true_eq] at hh
   exact k110_calls x l1 Ax A1 cx c1 w.heap.size (w.heap.size + 1) a2 W hix hlx (Kd.C_below (Kd.C_below hr1 hb0) hW) hc1 hh.1 hh.2 (blk_below hR hW) (blk_below hT hW))
  have HB := Sd.mk hb0
  clear hb0 hR hT hr0 hr1 hc0 hc1 h hall
  go_enter Tryz.func51, Tryz.ntmps51
  go_wp2_with (go_at_call 135; refine hgo.mono ?_; rintro e w1 ⟨rfl, hb1⟩)
  go_ret
  exact ⟨by first | rfl | simp, below_trans' HB.out hb1⟩
 ·rw [if_neg hall] at h; cases h
end
section
end
section
theorem rd_map (mt : List S70) (fc : S70 → Int) (j : Nat) (h : j < mt.length) : rd (mt.map fc) (j : Int) = fc (rd_T70 mt (j : Int)) := by
  simp [rd, rd_T70, List.getD, h]
structure LineOk (n : Nat) (x : S168) : Prop where
  len : x.f0.length = n
  at_ : ∀ j : Nat, j < n → -50000000000000 ≤ rd x.f0 (j : Int) ∧ rd x.f0 (j : Int) ≤ 50000000000000
  b0 : x.f1 ≤ 0
  b1 : -10000000 ≤ x.f1
theorem line_ok {mt : List S70} {fc : S70 → Int} {b : Int} (h : ∀ i : Nat, i < mt.length → -50000000000000 ≤ fc (rd_T70 mt (i : Int)) ∧ fc (rd_T70 mt (i : Int)) ≤ 50000000000000) (h0 : b ≤ 0) (h1 : -10000000 ≤ b) : LineOk mt.length ⟨mt.map fc, b⟩ := by
  refine ⟨List.length_map _, fun j hj => ?_, h0, h1⟩
  show -50000000000000 ≤ rd (mt.map fc) (j : Int) ∧ rd (mt.map fc) (j : Int) ≤ 50000000000000
  rw [rd_map mt fc j hj]
  exact h j hj
theorem gTS_bound {df : Int → Int} {l : List S27} (H : GOk l) (C : DfOk df l.length) : -50000000000000 ≤ gTS df l l.length ∧ gTS df l l.length ≤ 50000000000000 := by
  have h := sumTo_bound (f := gT df l) (M := 3600000000000) (n := l.length) (gT_bound H C) l.length (Nat.le_refl _)
  have hn := H.n12
  unfold gTS
  omega
section
variable {o : List ByteArray} {mt : List S70} {s : List S27} {p : List S89} {a4 a5 a6 : Int}
theorem pair_ok (H : BatchOk o mt s p a4 a5 a6) {j : Nat} (hj : j < s.length + p.length) : ∀ x ∈ pairL mt s p j, LineOk mt.length x := by
  have T := tg_ok H hj
  have C := coef_cfok H hj
  intro x hx
  simp only [pairL, List.mem_cons, List.not_mem_nil, or_false] at hx
  rcases hx with rfl | rfl
  · refine line_ok (fun i hi => ?_) (by omega) (by omega)
    refine gTS_bound (mat_gok H hi) ⟨fun j' hj' => ?_⟩
    rw [(H.mats i hi).len] at hj'
    have := C.at_ j' hj'
    omega
  · refine line_ok (fun i hi => ?_) (by omega) (by omega)
    refine gTS_bound (mat_gok H hi) ⟨fun j' hj' => ?_⟩
    rw [(H.mats i hi).len] at hj'
    have := C.at_ j' hj'
    omega
theorem head_ok (H : BatchOk o mt s p a4 a5 a6) : ∀ n, n ≤ s.length + p.length → ∀ x ∈ headL mt s p a6 n, LineOk mt.length x := by
  intro n
  induction n with
  | zero =>
    intro _ x hx
    simp only [headL, List.mem_cons, List.not_mem_nil, or_false] at hx
    subst hx
    have hw := H.wanted
    refine line_ok (fun i hi => ?_) (by omega) (by omega)
    have := lowM_bound (mat_gok H hi)
    omega
  | succ n ih =>
    intro hn x hx
    simp only [headL, List.mem_append] at hx
    rcases hx with hx | hx
    · exact ih (by omega) x hx
    · exact pair_ok H (by omega) x hx
theorem red_ok (H : BatchOk o mt s p a4 a5 a6) {u : Int} (hu : -10000 ≤ u ∧ u ≤ 10000) {i : Nat} (hi : i < mt.length) :
    (-50000000000000 ≤ rUp u (rd_T70 mt (i : Int)) ∧ rUp u (rd_T70 mt (i : Int)) ≤ 50000000000000) ∧ -50000000000000 ≤ rDn u (rd_T70 mt (i : Int)) ∧ rDn u (rd_T70 mt (i : Int)) ≤ 50000000000000 := by
  have hl := lowM_bound (mat_gok H hi)
  have hr := (H.mats i hi).redox
  have h1 := mulr hu.1 hu.2 hl.1 (Int.le_trans hl.2.1 hl.2.2)
  have h2 := mulr hu.1 hu.2 (Int.le_trans hl.1 hl.2.1) hl.2.2
  unfold rUp rDn mn mx
  constructor <;> split <;> omega
theorem lines_ok (H : BatchOk o mt s p a4 a5 a6) : ∀ x ∈ linesV mt s p a4 a5 a6, LineOk mt.length x := by
  have hr := H.redox
  intro x hx
  simp only [linesV, List.mem_append, List.mem_cons, List.not_mem_nil, or_false] at hx
  rcases hx with hx | rfl | rfl
  · exact head_ok H _ (Nat.le_refl _) x hx
  · exact line_ok (fun i hi => (red_ok H (by omega) hi).1) (by omega) (by omega)
  · exact line_ok (fun i hi => (red_ok H (by omega) hi).2) (by omega) (by omega)
end
def tot (r fs : List Int) (i : Nat) : Int := sumTo (fun j => rd r (j : Int) * rd fs (j : Int)) i
theorem prod_bound {a b : Int} (h0 : 0 ≤ a) (h1 : a ≤ 10000) (h2 : -50000000000000 ≤ b) (h3 : b ≤ 50000000000000) : -500000000000000000 ≤ a * b ∧ a * b ≤ 500000000000000000 := by
  have e1 := Int.mul_le_mul_of_nonneg_left h2 h0
  have e2 := Int.mul_le_mul_of_nonneg_left h3 h0
  omega
theorem vW_tot {mt : List S70} {r : List Int} {x : S168} (hm : mt.length ≤ 12) (hr : RecOk mt r) (hx : LineOk mt.length x) : ∀ i, i ≤ mt.length → vW r x.f0 i = tot r x.f0 i := by
  have hb : ∀ j, j < mt.length → -500000000000000000 ≤ rd r (j : Int) * rd x.f0 (j : Int) ∧ rd r (j : Int) * rd x.f0 (j : Int) ≤ 500000000000000000 := fun j hj => prod_bound (hr.kilos j hj).1 (hr.kilos j hj).2 (hx.at_ j hj).1 (hx.at_ j hj).2
  intro i
  induction i with
  | zero => intro _; rfl
  | succ i ih =>
    intro hi
    have h1 := hb i (by omega)
    have h2 := sumTo_bound (f := fun j => rd r (j : Int) * rd x.f0 (j : Int)) (M := 500000000000000000) (n := mt.length) hb i (by omega)
    have h3 := ih (by omega)
    unfold tot at *
    simp only [vW, sumTo, h3]
    rw [wrap_id (x := rd r (i : Int) * rd x.f0 (i : Int)) (by omega) (by omega), wrap_id (by omega) (by omega)]
theorem not_any_all {α : Type} {l : List α} {f g : α → Bool} (h : ∀ x ∈ l, f x = !(g x)) : (!(l.any f)) = l.all g := by
  induction l with
  | nil => rfl
  | cons x l ih =>
    rw [List.any_cons, List.all_cons, ← ih fun y hy => h y (List.mem_cons_of_mem _ hy), h x List.mem_cons_self]
    cases g x <;> simp
section
variable (o : List ByteArray) (mt : List S70) (s : List S27) (p : List S89) (a4 a5 a6 : Int) (r : List Int)
def passB : Bool := (linesV mt s p a4 a5 a6).all fun x => decide (tot r x.f0 mt.length ≤ x.f1)
theorem keeps_f (H : BatchOk o mt s p a4 a5 a6) (hr : RecOk mt r) : x_keeps.f (linesV mt s p a4 a5 a6) r 1 = some (passB mt s p a4 a5 a6 r) := by
  have L := lines_ok H
  have hm := H.m12
  have hrl := hr.len
  unfold x_keeps.f passB
  rw [if_pos (List.all_eq_true.2 fun x hx => by have h := (L x hx).len; simp only [Bool.and_eq_true, decide_eq_true_eq]; omega)]
  congr 1
  refine not_any_all fun x hx => ?_
  have h := L x hx
  rw [h.len, vW_tot hm hr h mt.length (Nat.le_refl _), wrap_id (x := 1 * x.f1) (by have := h.b0; have := h.b1; omega) (by have := h.b0; omega), Int.one_mul]
  by_cases hc : tot r x.f0 mt.length ≤ x.f1
  · rw [decide_eq_true hc, decide_eq_false (by omega)]; rfl
  · rw [decide_eq_false hc, decide_eq_true (by omega)]; rfl
theorem ask_check (h : askV o mt s p a4 a5 a6 r = 0) : checkV o mt s p a4 a5 a6 = 0 := by
  unfold askV at h
  by_cases hc : checkV o mt s p a4 a5 a6 = 0
  · exact hc
  · rw [if_neg hc] at h; exact absurd h hc
end
end
section
section
variable {o : List ByteArray} {mt : List S70} {s : List S27} {p : List S89} {a4 a5 a6 : Int}
def refForms (n : Nat) (s : List S27) (p : List S89) : List S89 := formL n s n ++ p
theorem refForms_len (H : BatchOk o mt s p a4 a5 a6) : (refForms o.length s p).length = s.length + p.length := by
 simp only [refForms, List.length_append, formL_len, H.slen]
theorem refForms_lo (H : BatchOk o mt s p a4 a5 a6) {j : Nat} (hj : j < s.length) : rd_T89 (refForms o.length s p) (j : Int) = ⟨(⟨#[]⟩ : ByteArray), (List.replicate o.length 0).set j 1000, ⟨(rd_T27 s (j : Int)).f0, (rd_T27 s (j : Int)).f1⟩⟩ := by
 have h : j < o.length := by rw [← H.slen]; exact hj
 simp [rd_T89, List.getD, refForms, formL, List.getElem?_append, h]
theorem refForms_hi (H : BatchOk o mt s p a4 a5 a6) {j : Nat} (hj : s.length ≤ j) : rd_T89 (refForms o.length s p) (j : Int) = rd_T89 p ((j - s.length : Nat) : Int) := by
 have h : ¬ j < o.length := by rw [← H.slen]; omega
 simp [rd_T89, List.getD, refForms, List.getElem?_append, formL_len, h, H.slen]
theorem refForms_tg (H : BatchOk o mt s p a4 a5 a6) {j : Nat} (hj : j < s.length + p.length) : (rd_T89 (refForms o.length s p) (j : Int)).f2 = tgOf s p j := by
 unfold tgOf
 by_cases h : j < s.length
 ·rw [if_pos h, refForms_lo H h]
 ·rw [if_neg h, refForms_hi H (by omega)]
theorem refForms_clen (H : BatchOk o mt s p a4 a5 a6) {j : Nat} (hj : j < s.length + p.length) : (rd_T89 (refForms o.length s p) (j : Int)).f1.length = o.length := by
 by_cases h : j < s.length
 ·rw [refForms_lo H h]; simp
 ·rw [refForms_hi H (by omega)]; exact (H.pros (j - s.length) (by omega)).len
theorem refForms_cf (H : BatchOk o mt s p a4 a5 a6) {j : Nat} (hj : j < s.length + p.length) {i : Nat} (hi : i < o.length) : rd (rd_T89 (refForms o.length s p) (j : Int)).f1 (i : Int) = coefOf s p j (i : Int) := by
 unfold coefOf
 by_cases h : j < s.length
 ·rw [if_pos h, refForms_lo H h, unit_rd _ _ _ hi]; rfl
 ·rw [if_neg h, refForms_hi H (by omega)]
theorem aboveF (H : BatchOk o mt s p a4 a5 a6) {j : Nat} (hj : j < s.length + p.length) {i : Nat} (hi : i < mt.length) :
  ∃ K, rf_above.f K (rd_T89 (refForms o.length s p) (j : Int)).f1 (rd_T70 mt (i : Int)).f6 (rd_T89 (refForms o.length s p) (j : Int)).f2.f1 = some (upF s p j (rd_T70 mt (i : Int))) := by
 have M := (H.mats i hi).len
 have T := tg_ok H hj
 have C := coef_cfok H hj
 rw [refForms_tg H hj]
 obtain ⟨K, hK⟩ := rabove_l0 (cf := coefOf s p j) (m := (tgOf s p j).f1) (mat_gok H hi) (by rw [M]; exact C) (by rw [M, refForms_clen H hj]; exact Nat.le_refl _) (fun j' hj' => refForms_cf H hj (by rw [← M]; exact hj')) (by omega) (by omega) (rd_T70 mt (i : Int)).f6.length 0 (by omega)
 refine ⟨K, (hK K (Nat.le_refl _)).trans ?_⟩
 rw [aboveS_sum]
 rfl
theorem belowF (H : BatchOk o mt s p a4 a5 a6) {j : Nat} (hj : j < s.length + p.length) {i : Nat} (hi : i < mt.length) :
  ∃ K, rf_below.f K (rd_T89 (refForms o.length s p) (j : Int)).f1 (rd_T70 mt (i : Int)).f6 (rd_T89 (refForms o.length s p) (j : Int)).f2.f0 = some (dnF s p j (rd_T70 mt (i : Int))) := by
 have M := (H.mats i hi).len
 have T := tg_ok H hj
 have C := coef_cfok H hj
 rw [refForms_tg H hj]
 obtain ⟨K, hK⟩ := rbelow_l0 (cf := coefOf s p j) (m := (tgOf s p j).f0) (mat_gok H hi) (by rw [M]; exact C) (by rw [M, refForms_clen H hj]; exact Nat.le_refl _) (fun j' hj' => refForms_cf H hj (by rw [← M]; exact hj')) (by omega) (by omega) (rd_T70 mt (i : Int)).f6.length 0 (by omega)
 refine ⟨K, (hK K (Nat.le_refl _)).trans ?_⟩
 rw [belowS_sum]
 rfl
theorem sumsF (H : BatchOk o mt s p a4 a5 a6) {i : Nat} (hi : i < mt.length) : ∃ K, rf_sums.f K (rd_T70 mt (i : Int)).f6 = some (lowM (rd_T70 mt (i : Int)), highM (rd_T70 mt (i : Int))) := by
 obtain ⟨K, hK⟩ := rsums (mat_gok H hi)
 exact ⟨K, hK K (Nat.le_refl _)⟩
theorem formsF (H : BatchOk o mt s p a4 a5 a6) : ∃ K, rf_Forms.f K o mt s p a4 a5 a6 = some (refForms o.length s p) := by
 obtain ⟨K, hK⟩ := rforms H
 exact ⟨K, hK K (Nat.le_refl _)⟩
end
structure RowAt (w W : World) (g : Nat) (b : Int) (fl : List Int) : Prop where
 ge : w.heap.size ≤ g
 row : ∃ A c, W.heap[g]? = some (.cells #[.slice A fl.length c, .int .i64 b] 168 (0, 0)) ∧ (Kd.int .i64).R 3 W w.heap.size (fun _ => True) (.slice A fl.length c) fl
theorem RowAt.below {w W W' : World} {g : Nat} {b : Int} {fl : List Int} (h : RowAt w W g b fl) (hb : Below W.heap.size W W') : RowAt w W' g b fl := by
 obtain ⟨A, c, h1, h2⟩ := h.row
 exact ⟨h.ge, A, c, blk_below h1 hb, Kd.R_below h2 hb⟩
theorem R_int_own {W : World} {base : Nat} {ok : Nat → Prop} {v : Value} {xs : List Int} (h : (Kd.int .i64).R 3 W base ok v xs) : (Kd.int .i64).R 3 W base (fun k => v.ownBlock = some k) v xs :=
 ⟨fun _ hk => hk, h.2.imp_ (fun _ _ hp => hp)⟩
structure AllW (w Wc Wf W : World) (cs : Array Value) (okN okL : Nat → Prop) (vF : Value) (forms : List S89) (v7 : Value) (xs : List S168) : Prop where
 below : Below w.heap.size w W
 size : Wf.heap.size ≤ W.heap.size
 box : W.heap[w.heap.size]? = some (.cells cs 29 (0, 0))
 forms : k89.N 89 W Wc.heap.size okN vF forms
 list : k168.R 168 W w.heap.size okL v7 xs
theorem AllW.later {w Wc Wf W W' : World} {cs : Array Value} {okN okL : Nat → Prop} {vF v7 : Value} {forms : List S89} {xs : List S168} (h : AllW w Wc Wf W cs okN okL vF forms v7 xs) (hb : Below W.heap.size W W') : AllW w Wc Wf W' cs okN okL vF forms v7 xs :=
 ⟨below_step h.below hb, Nat.le_trans h.size hb.size, blk_below h.box hb, Kd.N_below h.forms hb, Kd.R_below h.list hb⟩
theorem AllW.set {w Wc Wf W : World} {cs : Array Value} {okN okL : Nat → Prop} {vF v7 : Value} {forms : List S89} {xs : List S168} (h : AllW w Wc Wf W cs okN okL vF forms v7 xs) {g : Nat} (u : Value) (h1 : w.heap.size < g) (h2 : ∀ k, okN k → k ≠ g) (h3 : ∀ k, okL k → k ≠ g) : AllW w Wc Wf (W.setCell ⟨g, 0, none⟩ u) cs okN okL vF forms v7 xs :=
 ⟨below_set h.below (Nat.le_of_lt h1), Nat.le_trans h.size (by simp only [World.size_setCell]; exact Nat.le_refl _), blk_far (p := ⟨g, 0, none⟩) h.box (Nat.ne_of_lt h1) u, Kd.N_far (p := ⟨g, 0, none⟩) h.forms h2 u, Kd.R_far (p := ⟨g, 0, none⟩) h.list h3 u⟩
theorem AllW.grown {w Wc Wf W W' : World} {cs : Array Value} {okN okL : Nat → Prop} {vF v7 : Value} {forms : List S89} {xs : List S168} (h : AllW w Wc Wf W cs okN okL vF forms v7 xs) {row : Option Nat} (hb : Below w.heap.size w W') (hg : W.grownBy W' row) (h1 : some w.heap.size ≠ row) (h2 : ∀ k, okN k → some k ≠ row) (h3 : ∀ k, okL k → some k ≠ row) : AllW w Wc Wf W' cs okN okL vF forms v7 xs :=
 ⟨hb, Nat.le_trans h.size hg.size, blk_grown h.box hg h1, Kd.N_grown h.forms hg h2, Kd.R_grown h.list hg h3⟩
structure RowAt3 (w WB W : World) (g : Nat) (v : Value) (fl : List Int) : Prop where
 ge : WB.heap.size ≤ g
 cell : W.heap[g]? = some (.cells #[v, .int .i64 0] 168 (0, 0))
 row : (Kd.int .i64).R 3 W w.heap.size (fun k => v.ownBlock = some k) v fl
 own : ∀ k, v.ownBlock = some k → WB.heap.size ≤ k
theorem RowAt3.later {w WB W W' : World} {g : Nat} {v : Value} {fl : List Int} (h : RowAt3 w WB W g v fl) (hb : Below W.heap.size W W') : RowAt3 w WB W' g v fl :=
 ⟨h.ge, blk_below h.cell hb, Kd.R_below h.row hb, h.own⟩
theorem RowAt3.grown {w WB W W' : World} {g : Nat} {v : Value} {fl : List Int} (h : RowAt3 w WB W g v fl) {row : Option Nat} (hg : W.grownBy W' row) (h1 : some g ≠ row) (h2 : ∀ k, v.ownBlock = some k → some k ≠ row) : RowAt3 w WB W' g v fl :=
 ⟨h.ge, blk_grown h.cell hg h1, Kd.R_grown h.row hg h2, h.own⟩
theorem RowAt3.set {w WB W : World} {g : Nat} {v : Value} {fl : List Int} (h : RowAt3 w WB W g v fl) {g' : Nat} {cs : Array Value} (u : Value) (h1 : g ≠ g') (h2 : W.heap[g']? = some (.cells cs 168 (0, 0))) : RowAt3 w WB (W.setCell ⟨g', 0, none⟩ u) g v fl :=
 ⟨h.ge, blk_far (p := ⟨g', 0, none⟩) h.cell h1 u, Kd.R_mono (Kd.R_far (p := ⟨g', 0, none⟩) (Kd.R_types (t := 168) h.row h2 (by decide)) (fun _ hk => hk.2) u) (fun _ hk => hk.1), h.own⟩
end
section
theorem k27_heap : Kd.Heap k27 := Kd.heap_iso _ (Kd.heap_pair (Kd.heap_int .i64) (Kd.heap_int .i64))
theorem k89_heap : Kd.Heap k89 := Kd.heap_iso _ (Kd.heap_pair Kd.heap_string (Kd.heap_pair (Kd.heap_slice 3 (Kd.heap_int .i64)) k27_heap))
end
section
theorem max2_mx (k k' : IntKind) (x y : Int) : Builtin.max2 (.int k x) (.int k' y) = pure (.int k (mx x y)) := max2_int k k' x y
theorem min2_mn (k k' : IntKind) (x y : Int) : Builtin.min2 (.int k x) (.int k' y) = pure (.int k (mn x y)) := min2_int k k' x y
theorem mn_in {a b l u : Int} (h1 : l ≤ a ∧ a ≤ u) (h2 : l ≤ b ∧ b ≤ u) : l ≤ mn a b ∧ mn a b ≤ u := by unfold mn; split <;> assumption
theorem mx_in {a b l u : Int} (h1 : l ≤ a ∧ a ≤ u) (h2 : l ≤ b ∧ b ≤ u) : l ≤ mx a b ∧ mx a b ≤ u := by unfold mx; split <;> assumption
attribute [local go_sem] max2_mx min2_mn max_two min_two
def allLT : Bool × List (List Nat × List Nat) := (true, [([], []), ([0], [0]), ([], []), ([], []), ([2, 3], [2, 3]), ([4], [4]), ([5], [5]), ([], []), ([7], [7]), ([], []), ([8, 9], [8, 9]), ([10], [10]), ([11], [11]), ([], []), ([], []), ([13, 14], [13, 14]), ([15], [15]), ([16], [16]), ([17], [17]), ([6, 12, 18], [6, 12, 18]), ([19], [19]), ([1, 20, 19], [1, 20]), ([0, 1, 2, 3, 4, 5, 6, 7, 8, 9, 10, 11, 12, 13, 14, 15, 16, 17, 18, 19, 20, 21], []), ([22, 21, 21, 0, 1, 2, 3, 4, 5, 6, 7, 8, 9, 10, 11, 12, 13, 14, 15, 16, 17, 18, 19, 20, 21], [21, 22])])
def allLB : List Nat := [0, 1, 0, 0, 12, 28, 60, 0, 128, 0, 896, 1920, 3968, 0, 0, 24576, 57344, 122880, 253952, 524284, 1048572, 2097151, 4194303, 8388607]
theorem allL16_tab : rtab .any (opsOf Tryz.f55 16) = allLT := by kernel_rfl
theorem allL17_tab : rtab .any (opsOf Tryz.f55 17) = allLT := by kernel_rfl
theorem allL_bits : waitsOk allLT.2 allLB = true := by kernel_rfl
theorem World.cell?_drew_ {w : World} {a : Addr} {v : Value} (h : w.cell? a = some v) : w.drew.cell? a = some v := h
theorem cellB {W W' : World} (hb : Below W.heap.size W W') {a : Addr} {v : Value} (h : W.cell? a = some v) : W'.cell? a = some v := (hb.cell (World.block_lt_of_cell? W a h)).trans h
theorem cellG {W W' : World} {row : Option Nat} (hg : W.grownBy W' row) {a : Addr} {v : Value} (h : W.cell? a = some v) (hne : some a.block ≠ row) : W'.cell? a = some v := (World.cell?_of_block (hg.block a.block (World.block_lt_of_cell? W a h) hne)).trans h
theorem addB {g k : Nat} : (Addr.add ⟨g, 0, none⟩ k).block = g := by first | rfl | (unfold Addr.add; split <;> rfl)
theorem pair_reads2 {W : World} {base : Nat} {ok : Nat → Prop} {v3 v1 v2 : Value} {xs : List S168} {x x' : S168} (HL : k168.R 168 W base ok v3 xs) (hx : 0 < xs.length) (h1 : (Kd.int .i64).R 3 W base ok v1 x.f0) (h2 : (Kd.int .i64).R 3 W base ok v2 x'.f0) (hok : ok W.heap.size) (hbase : base ≤ W.heap.size) :
  ReadsRow (k168.M (W.alloc (.cells #[v1, .int .i64 x.f1, v2, .int .i64 x'.f1] 168)) base (fun j => ok j ∧ some j ≠ v3.ownBlock)) k168.sz (W.alloc (.cells #[v1, .int .i64 x.f1, v2, .int .i64 x'.f1] 168)) (some ⟨W.heap.size, 0, none⟩) 2 [x, x'] := by
 obtain ⟨g, cap, rfl, _, hlt, cells, hg⟩ := Kd.R_form HL hx
 have e : ∀ j, j ≠ g → some j ≠ (Value.slice (some ⟨g, 0, none⟩) xs.length cap).ownBlock := by
  intro j hj he
  have : g = j := by simpa [Value.ownBlock] using he.symm
  exact hj this.symm
 have r1 := Kd.R_mono (Kd.R_types (t := 168) h1 hg (by decide)) (ok' := fun j => ok j ∧ some j ≠ (Value.slice (some ⟨g, 0, none⟩) xs.length cap).ownBlock) (fun j hj => ⟨hj.1, e j hj.2⟩)
 have r2 := Kd.R_mono (Kd.R_types (t := 168) h2 hg (by decide)) (ok' := fun j => ok j ∧ some j ≠ (Value.slice (some ⟨g, 0, none⟩) xs.length cap).ownBlock) (fun j hj => ⟨hj.1, e j hj.2⟩)
 have hr : Reps (k168.M W base (fun j => ok j ∧ some j ≠ (Value.slice (some ⟨g, 0, none⟩) xs.length cap).ownBlock)) k168.sz [x, x'] [v1, .int .i64 x.f1, v2, .int .i64 x'.f1] := Reps.snoc (Reps.snoc (Reps.none _ _) (k168_mkM W base _ x r1) rfl) (k168_mkM W base _ x' r2) rfl
 have r := R_litW k168 base 168 hr (fun _ h => h) ⟨hok, e _ (Nat.ne_of_gt hlt)⟩ hbase (by simp)
 obtain ⟨A, c, he, _, hrd⟩ := OwnRow.reads r.2
 cases he
 exact ReadsRow.imp_ hrd (Below.refl _ _) (fun _ _ hp => k168.M_mono (fun _ hk => hk.1) hp)
theorem allLines_calls (A00 : Option Addr) (c00 : Nat) (l00 : List ByteArray) (A01 : Option Addr) (c01 : Nat) (l01 : List (S70)) (A02 : Option Addr) (c02 : Nat) (l02 : List (S27)) (A03 : Option Addr) (c03 : Nat) (l03 : List (S89)) (a04 : Int) (a05 : Int) (a06 : Int) (w : World) (hr00 : Kd.C Kd.string w A00 l00.length l00) (hc00 : l00.length ≤ c00) (hr01 : Kd.C k70 w A01 l01.length l01) (hc01 : l01.length ≤ c01) (hr02 : Kd.C k27 w A02 l02.length l02) (hc02 : l02.length ≤ c02) (hr03 : Kd.C k89 w A03 l03.length l03) (hc03 : l03.length ≤ c03)
  (H : BatchOk l00 l01 l02 l03 a04 a05 a06) :
  Calls Tryz.prog 55 #[.agg #[.slice A00 l00.length c00, .slice A01 l01.length c01, .slice A02 l02.length c02, .slice A03 l03.length c03, .int .i64 a04, .int .i64 a05, .int .i64 a06]] w fun e w' => ∃ v0_ : Value, e = .returned v0_ ∧ Kd.R k168 168 w' w.heap.size (fun _ => True) v0_ (linesV l01 l02 l03 a04 a05 a06) ∧ Below w.heap.size w w' := by
 have hb0 : Below w.heap.size w (w.alloc (.cells #[.slice A00 l00.length c00, .slice A01 l01.length c01, .slice A02 l02.length c02, .slice A03 l03.length c03, .int .i64 a04, .int .i64 a05, .int .i64 a06] 29)) := below_alloc (Below.refl _ _) _
 have hbk := blk_new w (.cells #[.slice A00 l00.length c00, .slice A01 l01.length c01, .slice A02 l02.length c02, .slice A03 l03.length c03, .int .i64 a04, .int .i64 a05, .int .i64 a06] 29)
 have HR0 := Sd.mk hr00
 have HC0 := Sd.mk hc00
 have HR1 := Sd.mk hr01
 have HC1 := Sd.mk hc01
 have HR2 := Sd.mk hr02
 have HC2 := Sd.mk hc02
 have HR3 := Sd.mk hr03
 have HC3 := Sd.mk hc03
 have HH := Sd.mk H
 have hw6 := H.wanted
 have HM12 := Sd.mk H.m12
 obtain ⟨hw6a, hw6b⟩ := hw6
 have k6' : (w.alloc (.cells #[.slice A00 l00.length c00, .slice A01 l01.length c01, .slice A02 l02.length c02, .slice A03 l03.length c03, .int .i64 a04, .int .i64 a05, .int .i64 a06] 29)).cell? ⟨w.heap.size, 0 + 6, none⟩ = some (.int .i64 a06) := (blk_cell hbk 6).trans rfl
 have hf := blk_new (w.alloc (.cells #[.slice A00 l00.length c00, .slice A01 l01.length c01, .slice A02 l02.length c02, .slice A03 l03.length c03, .int .i64 a04, .int .i64 a05, .int .i64 a06] 29)) (.cells #[.slice none 0 0, .int .i64 (-1000 * a06)] 168)
 have HB := Sd.mk (below_alloc hb0 (.cells #[.slice none 0 0, .int .i64 (-1000 * a06)] 168))
 have BK := Sd.mk (blk_alloc hbk (.cells #[.slice none 0 0, .int .i64 (-1000 * a06)] 168))
 have HF : Sd (RowAt w ((w.alloc (.cells #[.slice A00 l00.length c00, .slice A01 l01.length c01, .slice A02 l02.length c02, .slice A03 l03.length c03, .int .i64 a04, .int .i64 a05, .int .i64 a06] 29)).alloc (.cells #[.slice none 0 0, .int .i64 (-1000 * a06)] 168)) (w.heap.size + 1) (-1000 * a06) (List.map (fun x => -lowM x) (l01.take 0))) :=
  ⟨⟨Nat.le_succ _, none, 0, by simpa using hf, Kd.R_nil _ _ _ _ _⟩⟩
 clear hr00 hc00 hr01 hc01 hr02 hc02 hr03 hc03 H hb0 hbk hf
 go_enter Tryz.func55, Tryz.ntmps55
 go_wp2
 clear k6' hw6a hw6b
 generalize (w.alloc (.cells #[.slice A00 l00.length c00, .slice A01 l01.length c01, .slice A02 l02.length c02, .slice A03 l03.length c03, .int .i64 a04, .int .i64 a05, .int .i64 a06] 29)).alloc (.cells #[.slice none 0 0, .int .i64 (-1000 * a06)] 168) = w0 at *
 go_loopg [4] l01.length (fun gq v4 wr => ∃ k : Nat, v4 = .int .i64 k ∧ k ≤ l01.length ∧ l01.length - k ≤ gq ∧ Sd (Below w.heap.size w wr) ∧ Sd (wr.heap[w.heap.size]? = some (.cells #[.slice A00 l00.length c00, .slice A01 l01.length c01, .slice A02 l02.length c02, .slice A03 l03.length c03, .int .i64 a04, .int .i64 a05, .int .i64 a06] 29 (0, 0))) ∧ Sd (RowAt w wr (w.heap.size + 1) (-1000 * a06) (List.map (fun x => -lowM x) (l01.take k))))
 case atStart => exact ⟨0, rfl, Nat.zero_le _, by omega, HB, BK, HF⟩
 case round =>
  clear HB BK HF
  obtain ⟨k, rfl, hk, hgk, HB, BK, HF⟩ := hrel
  have hm12 := HM12.out
  have kz1 : wr.cell? ⟨w.heap.size, 0 + 1, none⟩ = some (.slice A01 l01.length c01) := (blk_cell BK.out 1).trans rfl
  by_cases hlt : k < l01.length
  ·have hltz : (k : Int) < (l01.length : Int) := by omega
   obtain ⟨ad, A6, c6, rfl, hx0, hx1, hx2, hx3, hx4, hx5, hx6, hl6, hi6⟩ := at_T70 (Kd.C_below HR1.out HB.out) (k : Int) (by omega) hltz
   simp only [Int.toNat_natCast] at hx6
   clear hx0 hx1 hx2 hx3 hx4 hx5
   obtain ⟨K, hK⟩ := sumsF HH.out hlt
   have hgo := rf_sums.calls K A6 c6 (rd_T70 l01 (k : Int)).f6 (lowM (rd_T70 l01 (k : Int))) (highM (rd_T70 l01 (k : Int))) wr hi6 hl6 hK
   have hlb := lowM_bound (mat_gok HH.out hlt)
   have HLB := Sd.mk hlb
   clear hK hl6 hi6 hlb
   go_wp2_with fail
   refine hgo.mono ?_
   clear hgo
   rintro e w1 ⟨rfl, ⟨nd, rfl⟩⟩
   obtain ⟨A, c, hO, hR⟩ := HF.out.row
   have hlb := HLB.out
   have hfl : (List.map (fun x => -lowM x) (l01.take k)).length = k := by simp; omega
   have hstep : List.map (fun x => -lowM x) (l01.take k) ++ [-lowM (rd_T70 l01 (k : Int))] = List.map (fun x => -lowM x) (l01.take (k + 1)) := by rw [List.take_succ_eq_append_getElem hlt, List.map_append]; simp [rd_T70, hlt]
   have HSTEP := Sd.mk hstep
   have HFL := Sd.mk hfl
   clear hstep
   have c0 : (wr.drewN nd).cell? ⟨w.heap.size + 1, 0, none⟩ = some (.slice A (List.map (fun x => -lowM x) (l01.take k)).length c) := (blk_cell hO 0).trans rfl
   generalize hflv : List.map (fun x => -lowM x) (l01.take k) = fl at *
   clear hflv
   have hlm : (fl.length + 1) * 8 ≤ 140737488355328 := by rw [HFL.out]; exact Nat.le_trans (Nat.mul_le_mul_right 8 (show k + 1 ≤ 13 by omega)) (by decide)
   have HOO := Sd.mk hO
   have HRR := Sd.mk (Kd.R_drewN hR nd)
   have HBD := Sd.mk (pw_below_drewN HB.out nd)
   have HNE := Sd.mk (Kd.R_ne hR hO (by decide))
   have HNB := Sd.mk (Kd.R_ne hR BK.out (by decide))
   clear hO hR HF hfl
   go_wp2_with ((with_reducible refine gate_builtin (b := .append) (xs := #[.tmp 41, .tmp 44]) rfl ?_); at_builtin; refine Kd.R_append (Kd.int .i64) (w0 := w) w.heap.size rfl (.tmp 41) (.tmp 44) 30 3 (.int .i64 0) 8 rfl Tryz.underlying30 info3 rfl (by decide) (by omega) (.slice A fl.length c) (fl) (-lowM (rd_T70 l01 (k : Int))) [.int .i64 (-lowM (rd_T70 l01 (k : Int)))] (fun _ => True) (fun _ => False) rfl rfl ?aP (fun _ hk => hk.elim) ?aF ?aO ?aB ?aS ?aL ?_; (case aP => exact rfl); (case aB => exact (by repeat (first | (with_reducible first | exact HBD.out | apply below_alloc | apply pw_below_drewN | apply below_drew1) | exact HBD.out))); (case aF => exact (fun _ _ => trivial)); (case aO => exact (by (with_reducible repeat (first | apply Kd.R_alloc | apply Kd.R_drewN | apply Kd.R_drew)); exact HRR.out)); (case aS => exact below_size (by repeat (first | (with_reducible first | exact HBD.out | apply below_alloc | apply pw_below_drewN | apply below_drew1) | exact HBD.out))); (case aL => exact hlm); intro v5 w5 ho hb hg hat; obtain ⟨A1', c1', rfl⟩ := Kd.R_slice ho; have bo := blk_grown (blk_drewN HOO.out nd) hg HNE.out; have hw0 : w5.cell? ⟨w.heap.size + 1, 0, none⟩ = some (.slice A fl.length c) := (blk_cell bo 0).trans rfl; have hwf := blk_frozen bo 0)
   have HB5 := Sd.mk (below_set (j := 0) (v := .slice A1' (fl.length + 1) c1') hb (Nat.le_succ w.heap.size))
   have BK5 := Sd.mk (blk_far (p := ⟨w.heap.size + 1, 0, none⟩) (blk_grown (blk_drewN BK.out nd) hg HNB.out) (by simp) (.slice A1' (fl.length + 1) c1'))
   have HO' := Sd.mk (Kd.R_types (t := 168) ho bo (by decide))
   have bo' := Sd.mk bo
   clear ho hb hg hat bo hw0 hwf hlm c0 kz1
   go_roundg (l01.length - (k + 1))
   case measure => omega
   case rel =>
    refine ⟨k + 1, by first | rfl | (rw [wrap_id (by omega) (by omega)]; rfl), by omega, by omega, HB5, BK5, ⟨?_⟩⟩
    rw [← HSTEP.out]
    refine ⟨Nat.le_succ _, A1', c1', ?_, ?_⟩
    ·have h_ := blk_put (cs := #[.slice A fl.length c, .int .i64 (-1000 * a06)]) bo'.out 0 (.slice A1' (fl.length + 1) c1') rfl
     simpa using h_
    ·have h_ := Kd.R_mono (ok' := fun _ => True) (Kd.R_far HO'.out (fun _ hk => hk.2) (.slice A1' (fl.length + 1) c1') (p := ⟨w.heap.size + 1, 0, none⟩)) (fun _ _ => trivial)
     simpa using h_
  ·skip
   have hltz : ¬ (k : Int) < (l01.length : Int) := by omega
   obtain rfl : k = l01.length := by omega
   obtain ⟨A, c, hO, hR⟩ := HF.out.row
   have hT : List.map (fun x => -lowM x) (l01.take l01.length) = List.map (fun x => -lowM x) l01 := by rw [List.take_length]
   rw [hT] at hO hR
   have hlen : (List.map (fun x => -lowM x) l01).length = l01.length := List.length_map _
   rw [hlen] at hO hR
   have c0 : wr.cell? ⟨w.heap.size + 1, 0, none⟩ = some (.slice A l01.length c) := (blk_cell hO 0).trans rfl
   have c1 : wr.cell? ⟨w.heap.size + 1, 1, none⟩ = some (.int .i64 (-1000 * a06)) := (blk_cell hO 1).trans rfl
   have hLC := R_one51 (x := ⟨List.map (fun x => -lowM x) l01, -1000 * a06⟩) hR (below_size HB.out)
   have hbC := below_alloc HB.out (.cells #[.slice A l01.length c, .int .i64 (-1000 * a06)] 168)
   have hkC := blk_alloc BK.out (.cells #[.slice A l01.length c, .int .i64 (-1000 * a06)] 168)
   obtain ⟨K, hK⟩ := formsF HH.out
   have hs3 : Kd.V k89 89 (wr.alloc (.cells #[.slice A l01.length c, .int .i64 (-1000 * a06)] 168)) (wr.alloc (.cells #[.slice A l01.length c, .int .i64 (-1000 * a06)] 168)).heap.size (fun k_ => k_ < w.heap.size) (.slice A03 l03.length c03) l03 :=
    ⟨A03, c03, rfl, HC3.out, Kd.F_below (Kd.C_F k89_heap HR3.out) hbC⟩
   have hgo := rf_Forms.calls K A00 c00 l00 A01 c01 l01 A02 c02 l02 (fun k_ => k_ < w.heap.size) A03 c03 l03 a04 a05 a06 (refForms l00.length l02 l03) (wr.alloc (.cells #[.slice A l01.length c, .int .i64 (-1000 * a06)] 168)) (Kd.C_below HR0.out hbC) HC0.out (Kd.C_below HR1.out hbC) HC1.out (Kd.C_below HR2.out hbC) HC2.out hs3 hK
   have k0 : (wr.alloc (.cells #[.slice A l01.length c, .int .i64 (-1000 * a06)] 168)).cell? ⟨w.heap.size, 0, none⟩ = some (.slice A00 l00.length c00) := (blk_cell hkC 0).trans rfl
   have k1 : (wr.alloc (.cells #[.slice A l01.length c, .int .i64 (-1000 * a06)] 168)).cell? ⟨w.heap.size, 1, none⟩ = some (.slice A01 l01.length c01) := (blk_cell hkC 1).trans rfl
   have k2 : (wr.alloc (.cells #[.slice A l01.length c, .int .i64 (-1000 * a06)] 168)).cell? ⟨w.heap.size, 2, none⟩ = some (.slice A02 l02.length c02) := (blk_cell hkC 2).trans rfl
   have k3 : (wr.alloc (.cells #[.slice A l01.length c, .int .i64 (-1000 * a06)] 168)).cell? ⟨w.heap.size, 3, none⟩ = some (.slice A03 l03.length c03) := (blk_cell hkC 3).trans rfl
   have k4 : (wr.alloc (.cells #[.slice A l01.length c, .int .i64 (-1000 * a06)] 168)).cell? ⟨w.heap.size, 4, none⟩ = some (.int .i64 a04) := (blk_cell hkC 4).trans rfl
   have k5 : (wr.alloc (.cells #[.slice A l01.length c, .int .i64 (-1000 * a06)] 168)).cell? ⟨w.heap.size, 5, none⟩ = some (.int .i64 a05) := (blk_cell hkC 5).trans rfl
   have k6 : (wr.alloc (.cells #[.slice A l01.length c, .int .i64 (-1000 * a06)] 168)).cell? ⟨w.heap.size, 6, none⟩ = some (.int .i64 a06) := (blk_cell hkC 6).trans rfl
   have HLC := Sd.mk hLC
   have HBC := Sd.mk hbC
   have HKC := Sd.mk hkC
   clear hO hR hT hlen hLC hbC hkC hK hs3 HB BK HF
   go_wp2_with fail
   clear k0 k1 k2 k3 k4 k5 k6 c0 c1 kz1
   generalize (wr.alloc (.cells #[.slice A l01.length c, .int .i64 (-1000 * a06)] 168)) = Wc at *
   refine hgo.mono ?_
   clear hgo
   rintro e Wf ⟨vF, rfl, hN, hb⟩
   obtain ⟨Af, cf, rfl⟩ := Kd.N_slice hN
   have hAW : AllW w Wc Wf Wf #[.slice A00 l00.length c00, .slice A01 l01.length c01, .slice A02 l02.length c02, .slice A03 l03.length c03, .int .i64 a04, .int .i64 a05, .int .i64 a06] (fun j => (j < w.heap.size ∨ Wc.heap.size ≤ j) ∧ j < Wf.heap.size) (fun j => (w.heap.size ≤ j ∧ j < Wc.heap.size) ∨ Wf.heap.size ≤ j) (.slice Af (refForms l00.length l02 l03).length cf) (refForms l00.length l02 l03) (.slice (some ⟨wr.heap.size, 0, none⟩) 1 1) (headL l01 l02 l03 a06 0) :=
    ⟨below_step HBC.out hb, Nat.le_refl _, blk_below HKC.out hb, Kd.N_bound hN, Kd.R_below (Kd.R_mono (Kd.R_bound HLC.out) (fun j hj => Or.inl ⟨hj.2.1, hj.2.2.1⟩)) hb⟩
   have HAW := Sd.mk hAW
   have HBF := Sd.mk hb
   have HLF := Sd.mk (refForms_len HH.out)
   have HWC := Sd.mk (below_size HBC.out)
   have hfz : ((refForms l00.length l02 l03).length : Int) < 9223372036854775807 := by have H := HH.out; have := HLF.out; have := H.slen; have := H.o12; have := H.p6; omega
   have HFZ := Sd.mk hfz
   clear hAW hb hN HBC HKC HLC hfz
   generalize hfm : refForms l00.length l02 l03 = fm at *
   have HFM := Sd.mk hfm
   clear hfm
   go_wp2
   go_loopg [9, 7] fm.length (fun gq v9 v7 wr => ∃ j : Nat, v9 = .int .i64 j ∧ j ≤ fm.length ∧ fm.length - j ≤ gq ∧ Sd (AllW w Wc Wf wr #[.slice A00 l00.length c00, .slice A01 l01.length c01, .slice A02 l02.length c02, .slice A03 l03.length c03, .int .i64 a04, .int .i64 a05, .int .i64 a06] (fun j => (j < w.heap.size ∨ Wc.heap.size ≤ j) ∧ j < Wf.heap.size) (fun j => (w.heap.size ≤ j ∧ j < Wc.heap.size) ∨ Wf.heap.size ≤ j) (.slice Af fm.length cf) fm v7 (headL l01 l02 l03 a06 j)))
   case atStart => exact ⟨0, rfl, Nat.zero_le _, by omega, HAW⟩
   case round =>
    clear HAW
    obtain ⟨j, rfl, hj, hgj, HAW⟩ := hrel
    have hfz := HFZ.out
    by_cases hjt : j < fm.length
    ·have hjz : (j : Int) < (fm.length : Int) := by omega
     obtain ⟨wo, rfl⟩ : ∃ wo : World, wo = wr := ⟨_, rfl⟩
     have hU2 : (wo.alloc (.cells #[.slice none 0 0, .int .i64 0] 168)).heap.size = wo.heap.size + 1 := by simp
     have hA0 : AllW w Wc Wf wo #[.slice A00 l00.length c00, .slice A01 l01.length c01, .slice A02 l02.length c02, .slice A03 l03.length c03, .int .i64 a04, .int .i64 a05, .int .i64 a06] (fun j => (j < w.heap.size ∨ Wc.heap.size ≤ j) ∧ j < Wf.heap.size) (fun j => ((w.heap.size ≤ j ∧ j < Wc.heap.size) ∨ Wf.heap.size ≤ j) ∧ j < wo.heap.size) (.slice Af fm.length cf) fm u7 (headL l01 l02 l03 a06 j) := by
      have h_ := HAW.out
      exact ⟨h_.below, h_.size, h_.box, h_.forms, Kd.R_mono (Kd.R_bound h_.list) (fun j hj => ⟨hj.1, hj.2.2.1⟩)⟩
     have HA := Sd.mk (hA0.later (below_alloc (below_alloc (Below.refl _ _) (.cells #[.slice none 0 0, .int .i64 0] 168)) (.cells #[.slice none 0 0, .int .i64 0] 168)))
     have HU1 : Sd (RowAt3 w wo ((wo.alloc (.cells #[.slice none 0 0, .int .i64 0] 168)).alloc (.cells #[.slice none 0 0, .int .i64 0] 168)) wo.heap.size (.slice none 0 0) (List.map (upF l02 l03 j) (l01.take 0))) :=
      ⟨⟨Nat.le_refl _, blk_alloc (blk_new wo _) _, R_int_own (Kd.R_nil _ _ _ _ (fun _ => True)), fun k hk => by simp [Value.ownBlock] at hk⟩⟩
     have HU2 : Sd (RowAt3 w wo ((wo.alloc (.cells #[.slice none 0 0, .int .i64 0] 168)).alloc (.cells #[.slice none 0 0, .int .i64 0] 168)) (wo.heap.size + 1) (.slice none 0 0) (List.map (dnF l02 l03 j) (l01.take 0))) :=
      ⟨⟨Nat.le_succ _, by have h_ := blk_new (wo.alloc (.cells #[.slice none 0 0, .int .i64 0] 168)) (.cells #[.slice none 0 0, .int .i64 0] 168); rw [hU2] at h_; exact h_, R_int_own (Kd.R_nil _ _ _ _ (fun _ => True)), fun k hk => by simp [Value.ownBlock] at hk⟩⟩
     have HDI : Sd (∀ k, (Value.slice none 0 0).ownBlock = some k → (Value.slice none 0 0).ownBlock = some k → False) := ⟨fun k hk => by simp [Value.ownBlock] at hk⟩
     have HGJ := Sd.mk hgj
     have HJT := Sd.mk hjt
     have HSO := Sd.mk hA0.size
     have HWO := Sd.mk (show w.heap.size < wo.heap.size from blk_lt hA0.box)
     clear hU2 hA0 HAW hgj
     go_wp2
     generalize (wo.alloc (.cells #[.slice none 0 0, .int .i64 0] 168)).alloc (.cells #[.slice none 0 0, .int .i64 0] 168) = w1 at *
     go_loopg [12] l01.length (fun gq v12 wr => ∃ i : Nat, ∃ vu vd : Value, v12 = .int .i64 i ∧ i ≤ l01.length ∧ l01.length - i ≤ gq ∧ Sd (AllW w Wc Wf wr #[.slice A00 l00.length c00, .slice A01 l01.length c01, .slice A02 l02.length c02, .slice A03 l03.length c03, .int .i64 a04, .int .i64 a05, .int .i64 a06] (fun j => (j < w.heap.size ∨ Wc.heap.size ≤ j) ∧ j < Wf.heap.size) (fun j => ((w.heap.size ≤ j ∧ j < Wc.heap.size) ∨ Wf.heap.size ≤ j) ∧ j < wo.heap.size) (.slice Af fm.length cf) fm u7 (headL l01 l02 l03 a06 j)) ∧ Sd (RowAt3 w wo wr wo.heap.size vu (List.map (upF l02 l03 j) (l01.take i))) ∧ Sd (RowAt3 w wo wr (wo.heap.size + 1) vd (List.map (dnF l02 l03 j) (l01.take i))) ∧ Sd (∀ k, vu.ownBlock = some k → vd.ownBlock = some k → False))
     case atStart => exact ⟨0, _, _, rfl, Nat.zero_le _, by omega, HA, HU1, HU2, HDI⟩
     case round =>
      clear HA HU1 HU2 HDI
      obtain ⟨i, vu, vd, rfl, hi, hgi, HA, HU1, HU2, HDI⟩ := hrel
      have hm12 := HM12.out
      have kz1 : wr.cell? ⟨w.heap.size, 0 + 1, none⟩ = some (.slice A01 l01.length c01) := (blk_cell HA.out.box 1).trans rfl
      by_cases hit : i < l01.length
      ·have hiz : (i : Int) < (l01.length : Int) := by omega
       obtain ⟨adM, A6, c6, rfl, hx0, hx1, hx2, hx3, hx4, hx5, hx6, hl6, hi6⟩ := at_T70 (Kd.C_below HR1.out HA.out.below) (i : Int) (by omega) hiz
       simp only [Int.toNat_natCast] at hx6
       clear hx0 hx1 hx2 hx3 hx4 hx5
       obtain ⟨Af', cf', he, _, hCF⟩ := Kd.N_reads HA.out.forms
       cases he
       obtain ⟨adF, Ac, cc, rfl, hy0, hy1, hy2, hy3, hlc, hic⟩ := at_T89 hCF (j : Int) (by omega) hjz
       simp only [Int.toNat_natCast] at hy0 hy1 hy2 hy3
       go_upto_region 16 with (fail)
       have hbF : (adF.add (j * 4)).block < wo.heap.size := by
        obtain ⟨g_, cap_, e_, _, _, _⟩ := Kd.N_form HA.out.forms (by have := HJT.out; omega)
        have hok := HA.out.forms.1 g_ (by rw [e_]; rfl)
        injection e_ with e1_ e2_ e3_
        injection e1_ with e1_
        subst e1_
        rw [addB]
        exact Nat.lt_of_lt_of_le hok.2 HSO.out
       have hbM : (adM.add (i * 7)).block < wo.heap.size := by
        obtain ⟨ad_, A_, c_, e_, _, _, _, _, _, _, hz6, _, _⟩ := at_T70 HR1.out (i : Int) (by omega) hiz
        cases e_
        have h_ := World.block_lt_of_cell? w _ hz6
        have := HWO.out
        simp only [Int.toNat_natCast] at h_
        exact Nat.lt_trans h_ this
       have HBF := Sd.mk hbF
       have HBM := Sd.mk hbM
       clear hbF hbM
       obtain ⟨Ax, cx, rfl⟩ := Kd.R_slice HU1.out.row
       have hfl : (List.map (upF l02 l03 j) (l01.take i)).length = i := by simp; omega
       have HFL := Sd.mk hfl
       have HSTEP : Sd (List.map (upF l02 l03 j) (l01.take i) ++ [upF l02 l03 j (rd_T70 l01 (i : Int))] = List.map (upF l02 l03 j) (l01.take (i + 1))) := ⟨by rw [List.take_succ_eq_append_getElem hit, List.map_append]; simp [rd_T70, hit]⟩
       have hjl : j < l02.length + l03.length := by have := HJT.out; have := HLF.out; omega
       obtain ⟨Kf, hKf⟩ := aboveF HH.out hjl hit
       rw [HFM.out] at hKf
       have HKF := Sd.mk hKf
       have HS0 := Sd.mk (show wr.cell? ⟨wo.heap.size, 0, none⟩ = some (.slice Ax (List.map (upF l02 l03 j) (l01.take i)).length cx) from (blk_cell HU1.out.cell 0).trans rfl)
       have HS1 := Sd.mk (show wr.cell? ⟨w.heap.size, 1, none⟩ = some (.slice (some adM) l01.length c01) from (blk_cell HA.out.box 1).trans rfl)
       have HS2 := Sd.mk hy1
       have HS3 := Sd.mk hy2
       have HS4 := Sd.mk hy3
       have HS6 := Sd.mk hx6
       have HIC := Sd.mk hic
       have HLCC := Sd.mk hlc
       have HI6 := Sd.mk hi6
       have HL6 := Sd.mk hl6
       have HNE1 := Sd.mk (Kd.R_ne HU1.out.row HU1.out.cell (by decide))
       have HNE2 := Sd.mk (Kd.R_ne HU1.out.row HU2.out.cell (by decide))
       have HNE3 := Sd.mk (Kd.R_ne HU1.out.row HA.out.box (by decide))
       have HNEB : Sd (∀ b, b < wo.heap.size → some b ≠ (Value.slice Ax (List.map (upF l02 l03 j) (l01.take i)).length cx).ownBlock) := ⟨fun b hb he => Nat.not_le_of_lt hb (HU1.out.own b he.symm)⟩
       clear hfl hjl hKf hic hlc hi6 hl6 hy0 hy1 hy2 hy3 hx6
       generalize hflv : List.map (upF l02 l03 j) (l01.take i) = flu at *
       clear hflv
       refine start_ (n := 24) (S := fun w' => w'.cell? ⟨wo.heap.size, 0, none⟩ = some (.slice Ax flu.length cx) ∧ w'.cell? ⟨w.heap.size, 1, none⟩ = some (.slice (some adM) l01.length c01) ∧ w'.cell? ⟨(adF.add (j * 4)).block, (adF.add (j * 4)).off + 1, none⟩ = some (.slice Ac (rd_T89 fm (j : Int)).f1.length cc) ∧ w'.cell? ⟨(adF.add (j * 4)).block, (adF.add (j * 4)).off + 2, none⟩ = some (.int .i64 (rd_T89 fm (j : Int)).f2.f0) ∧ w'.cell? ⟨(adF.add (j * 4)).block, (adF.add (j * 4)).off + 3, none⟩ = some (.int .i64 (rd_T89 fm (j : Int)).f2.f1) ∧ w'.cell? ⟨(adF.add (j * 4)).block, (adF.add (j * 4)).off + 2 + 1, none⟩ = some (.int .i64 (rd_T89 fm (j : Int)).f2.f1) ∧ w'.cell? ⟨(adM.add (i * 7)).block, (adM.add (i * 7)).off + 6, none⟩ = some (.slice A6 (rd_T70 l01 (i : Int)).f6.length c6)) (ds := [23]) (bA 24 0) (by kernel_rfl) rfl rfl ⟨HS0.out, HS1.out, HS2.out, HS3.out, HS4.out, HS4.out, HS6.out⟩ (fun hHeld => ?_); refine with_tabW allL16_tab allL_bits (fun HT_ HW_ => ?_)
       replace HA := Sd.mk (HA.out.later (below_drew1 (Below.refl _ _)))
       replace HU1 := Sd.mk (HU1.out.later (below_drew1 (Below.refl _ _)))
       replace HU2 := Sd.mk (HU2.out.later (below_drew1 (Below.refl _ _)))
       replace HIC := Sd.mk (Kd.C_drew HIC.out)
       replace HI6 := Sd.mk (Kd.C_drew HI6.out)
       replace HS0 := Sd.mk (World.cell?_drew_ HS0.out)
       replace HS1 := Sd.mk (World.cell?_drew_ HS1.out)
       replace HS2 := Sd.mk (World.cell?_drew_ HS2.out)
       replace HS3 := Sd.mk (World.cell?_drew_ HS3.out)
       replace HS4 := Sd.mk (World.cell?_drew_ HS4.out)
       replace HS6 := Sd.mk (World.cell?_drew_ HS6.out)
       generalize wr.drew = W0 at HA HU1 HU2 HIC HI6 HS0 HS1 HS2 HS3 HS4 HS6 hHeld ⊢
       refine pQ 0 (some 64) (bA 24 1) ?_
       refine tQ 1 (some 65) (bA 24 3) ?_
       refine pQ 2 (some 66) (bA 24 7) ?_
       refine pQ 3 (some 67) (bA 24 15) ?_
       refine pQ 4 (some 68) (bA 24 31) ?_
       refine pQ 5 (some 69) (bA 24 63) ?_
       refine tQ 6 (some 70) (bA 24 127) ?_
       refine pQ 7 (some 71) (bA 24 255) ?_
       refine tQ 8 (some 72) (bA 24 511) ?_
       refine pQ 9 (some 73) (bA 24 1023) ?_
       refine pQ 10 (some 74) (bA 24 2047) ?_
       refine pQ 11 (some 75) (bA 24 4095) ?_
       refine tQ 12 (some 76) (bA 24 8191) ?_
       refine pQ 13 (some 77) (bA 24 16383) ?_
       refine pQ 14 (some 78) (bA 24 32767) ?_
       refine pQ 15 (some 79) (bA 24 65535) ?_
       refine pQ 16 (some 80) (bA 24 131071) ?_
       refine pQ 17 (some 81) (bA 24 262143) ?_
       refine tQ 18 (some 82) (bA 24 524287) ?_
       refine one_ (i := 19) (N := some 83) (bA 24 1048575) rfl rfl (one_of HT_.out (by kernel_rfl)) (by decide) (fun K hK => ?_)
       refine goes_ Tryz.func152 (by kernel_rfl) rfl #[.slice Ac (rd_T89 fm (j : Int)).f1.length cc, .slice A6 (rd_T70 l01 (i : Int)).f6.length c6, .int .i64 (rd_T89 fm (j : Int)).f2.f1] (by rfl) rfl rfl (by (try simp only [List.map_toArray, List.map_cons, List.map_nil]); first | done | rfl) ?_
       refine (rf_above.calls Kf Ac cc (rd_T89 fm (j : Int)).f1 A6 c6 (rd_T70 l01 (i : Int)).f6 (rd_T89 fm (j : Int)).f2.f1 (upF l02 l03 j (rd_T70 l01 (i : Int))) W0 HIC.out HLCC.out HI6.out HL6.out HKF.out).mono ?_
       rintro e w4 ⟨rfl, hb⟩
       refine ⟨_, rfl, ?_⟩
       replace HA := Sd.mk (HA.out.later hb)
       replace HU1 := Sd.mk (HU1.out.later hb)
       replace HU2 := Sd.mk (HU2.out.later hb)
       replace HS0 := Sd.mk (cellB hb HS0.out)
       replace HS1 := Sd.mk (cellB hb HS1.out)
       replace HS2 := Sd.mk (cellB hb HS2.out)
       replace HS3 := Sd.mk (cellB hb HS3.out)
       replace HS4 := Sd.mk (cellB hb HS4.out)
       replace HS6 := Sd.mk (cellB hb HS6.out)
       clear hb HIC HI6 HKF HLCC HL6
       refine hK.out _ _ ⟨HS0.out, HS1.out, HS2.out, HS3.out, HS4.out, HS4.out, HS6.out⟩ (fun hHeld => ?_)
       clear hK K
       refine norm_ (a' := ?_) ?_ ?_
       rotate_left
       ·show Act.put _ (some 83) _ = _
        exact tP
       refine one_ (i := 20) (N := some 84) (bA 24 2097151) rfl rfl (one_of HT_.out (by kernel_rfl)) (by decide) (fun K hK => ?_)
       refine value_ (w1 := ?_) (v := ?_) (by rfl) rfl ?_ ?_
       rotate_left 2
       ·go_simp
        constructor
        ·rfl
        ·rfl
       have hba := below_alloc (Below.refl w4.heap.size w4) (.cells #[.int .i64 (upF l02 l03 j (rd_T70 l01 (i : Int)))] 3)
       refine hK.out _ _ ⟨cellB hba HS0.out, cellB hba HS1.out, cellB hba HS2.out, cellB hba HS3.out, cellB hba HS4.out, cellB hba HS4.out, cellB hba HS6.out⟩ (fun hHeld => ?_)
       clear hba
       clear hK K
       refine norm_ (a' := ?_) ?_ ?_
       rotate_left
       ·show Act.put _ (some 84) _ = _
        exact tP
       refine one_ (i := 21) (N := some 85) (bA 24 4194303) rfl rfl (one_of HT_.out (by kernel_rfl)) (by decide) (fun K hK => ?_)
       refine Kd.R_append_step (Kd.int .i64) (w0 := w) w.heap.size (by rfl) (.tmp 65) (.tmp 84) 30 3 (.int .i64 0) 8 rfl Tryz.underlying30 info3 rfl (by decide) (by omega) (.slice Ax flu.length cx) flu (upF l02 l03 j (rd_T70 l01 (i : Int))) [.int .i64 (upF l02 l03 j (rd_T70 l01 (i : Int)))] (fun q => wo.heap.size ≤ q) (fun _ => False) rfl rfl ?aP (fun _ hk => hk.elim) ?aF ?aO ?aB ?aS ?aL ?_
       (case aP => exact rfl)
       (case aB => exact HA.out.below)
       (case aF => exact (fun q hq => Nat.le_trans (by have h1 := HU1.out.cell; have h2 := blk_lt h1; have h3 := HU1.out.ge; omega) hq))
       (case aO => exact Kd.R_mono HU1.out.row (fun q hq => HU1.out.own q hq))
       (case aS => exact below_size HA.out.below)
       (case aL => exact (by rw [HFL.out]; exact Nat.le_trans (Nat.mul_le_mul_right 8 (show i + 1 ≤ 13 by omega)) (by decide)))
       intro v1 w5 ho hb hg hat
       have HDJ : Sd (∀ q, v1.ownBlock = some q → vd.ownBlock = some q → False) := ⟨fun q hq hk => by
        have hlt := ((Kd.R_bound HU2.out.row).1 q hk).2.2.1
        rcases hat with hat | ⟨b, hat, hb_⟩
        ·rw [hat] at hq; exact HDI.out q hq hk
        ·rw [hat] at hq; injection hq with hq; omega⟩
       have HV' := Sd.mk (HU2.out.grown hg HNE2.out (fun q hk hq => by first | exact HDI.out q hq.symm hk | exact HDI.out q hk hq.symm))
       replace HA := Sd.mk (HA.out.grown hb hg HNE3.out (fun q hk => HNEB.out q (Nat.lt_of_lt_of_le hk.2 HSO.out)) (fun q hk => HNEB.out q hk.2))
       have HBU := Sd.mk (blk_grown HU1.out.cell hg HNE1.out)
       have HGE := Sd.mk HU1.out.ge
       replace HS0 := Sd.mk (cellG hg HS0.out HNE1.out)
       replace HS1 := Sd.mk (cellG hg HS1.out HNE3.out)
       replace HS2 := Sd.mk (cellG hg HS2.out (HNEB.out _ HBF.out))
       replace HS3 := Sd.mk (cellG hg HS3.out (HNEB.out _ HBF.out))
       replace HS4 := Sd.mk (cellG hg HS4.out (HNEB.out _ HBF.out))
       replace HS6 := Sd.mk (cellG hg HS6.out (HNEB.out _ HBM.out))
       have HO := Sd.mk (Kd.R_types (t := 168) ho HBU.out (by decide))
       have HOW := Sd.mk ho.1
       clear hb ho hg hat HNE1 HNE2 HNE3 HNEB HU1 HU2 HDI
       refine hK.out _ _ ⟨HS0.out, HS1.out, HS2.out, HS3.out, HS4.out, HS4.out, HS6.out⟩ (fun hHeld => ?_)
       clear hK K
       refine norm_ (a' := ?_) ?_ ?_
       rotate_left
       ·show Act.put _ (some 85) _ = _
        exact tP
       refine pQ 22 (some 86) (bA 24 8388607) ?_
       obtain ⟨A1', c1', rfl⟩ := Kd.R_slice HO.out
       have hw0 : w5.cell? ⟨wo.heap.size, 0, none⟩ = some (.slice Ax flu.length cx) := HS0.out
       have hwf := blk_frozen HBU.out 0
       refine last_ (i := 23) (N := none) (bA 24 16777215) rfl rfl (one_of HT_.out (by kernel_rfl)) (by decide) (fun K hK => ?_)
       refine skip_ (w1 := ?_) (by rfl) rfl ?_ ?_
       rotate_left
       ·go_simp
        rfl
       refine hK.out _ _ ?_
       clear hK K hw0 hwf
       refine done_ (done_of HT_.out (by kernel_rfl)) ?_
       clear HT_ HW_ hHeld HS0 HS1 HS2 HS3 HS4 HS6
       have HU2 := Sd.mk (HV'.out.set (.slice A1' (flu.length + 1) c1') (by omega) HBU.out)
       have HBK := Sd.mk (blk_put (cs' := #[.slice A1' (flu.length + 1) c1', .int .i64 0]) HBU.out 0 (.slice A1' (flu.length + 1) c1') (by rfl))
       replace HA := Sd.mk (HA.out.set (g := wo.heap.size) (.slice A1' (flu.length + 1) c1') (by have := HWO.out; omega) (fun q hk => by have := hk.2; have := HSO.out; omega) (fun q hk => by have := hk.2; omega))
       have HU1 : Sd (RowAt3 w wo (w5.setCell ⟨wo.heap.size, 0, none⟩ (.slice A1' (flu.length + 1) c1')) wo.heap.size (.slice A1' (flu.length + 1) c1') (List.map (upF l02 l03 j) (l01.take (i + 1)))) :=
        ⟨⟨HGE.out, HBK.out, by
         have h_ := Kd.R_far (p := ⟨wo.heap.size, 0, none⟩) HO.out (fun _ hk => hk.2) (.slice A1' (flu.length + 1) c1')
         rw [← HSTEP.out]
         simpa using R_int_own h_, fun k hk => HOW.out k (by simpa using hk)⟩⟩
       have HDI : Sd (∀ k, (Value.slice A1' (flu.length + 1) c1').ownBlock = some k → vd.ownBlock = some k → False) := ⟨fun k h1 h2 => HDJ.out k (by simpa using h1) h2⟩
       clear HV' HBK HBU HGE HO HOW HDJ HFL HSTEP
       generalize w5.setCell ⟨wo.heap.size, 0, none⟩ (.slice A1' (flu.length + 1) c1') = Wu at *
       generalize Value.slice A1' (flu.length + 1) c1' = vu2 at *
       obtain ⟨adM2, A6, c6, ea_, hx0, hx1, hx2, hx3, hx4, hx5, hx6, hl6, hi6⟩ := at_T70 (Kd.C_below HR1.out HA.out.below) (i : Int) (by omega) hiz
       injection ea_ with ea_; subst ea_
       simp only [Int.toNat_natCast] at hx6
       clear hx0 hx1 hx2 hx3 hx4 hx5
       obtain ⟨Af', cf', he, _, hCF⟩ := Kd.N_reads HA.out.forms
       cases he
       obtain ⟨adF2, Ac, cc, ea_, hy0, hy1, hy2, hy3, hlc, hic⟩ := at_T89 hCF (j : Int) (by omega) hjz
       injection ea_ with ea_; subst ea_
       simp only [Int.toNat_natCast] at hy0 hy1 hy2 hy3
       clear hCF
       go_upto_region 17 with (fail)
       have hbF : (adF.add (j * 4)).block < wo.heap.size := by
        obtain ⟨g_, cap_, e_, _, _, _⟩ := Kd.N_form HA.out.forms (by have := HJT.out; omega)
        have hok := HA.out.forms.1 g_ (by rw [e_]; rfl)
        injection e_ with e1_ e2_ e3_
        injection e1_ with e1_
        subst e1_
        rw [addB]
        exact Nat.lt_of_lt_of_le hok.2 HSO.out
       have hbM : (adM.add (i * 7)).block < wo.heap.size := by
        obtain ⟨ad_, A_, c_, e_, _, _, _, _, _, _, hz6, _, _⟩ := at_T70 HR1.out (i : Int) (by omega) hiz
        cases e_
        have h_ := World.block_lt_of_cell? w _ hz6
        have := HWO.out
        simp only [Int.toNat_natCast] at h_
        exact Nat.lt_trans h_ this
       have HBF := Sd.mk hbF
       have HBM := Sd.mk hbM
       clear hbF hbM
       obtain ⟨Ax, cx, rfl⟩ := Kd.R_slice HU2.out.row
       have hfl : (List.map (dnF l02 l03 j) (l01.take i)).length = i := by simp; omega
       have HFL := Sd.mk hfl
       have HSTEP : Sd (List.map (dnF l02 l03 j) (l01.take i) ++ [dnF l02 l03 j (rd_T70 l01 (i : Int))] = List.map (dnF l02 l03 j) (l01.take (i + 1))) := ⟨by rw [List.take_succ_eq_append_getElem hit, List.map_append]; simp [rd_T70, hit]⟩
       have hjl : j < l02.length + l03.length := by have := HJT.out; have := HLF.out; omega
       obtain ⟨Kf, hKf⟩ := belowF HH.out hjl hit
       rw [HFM.out] at hKf
       have HKF := Sd.mk hKf
       have HS0 := Sd.mk (show Wu.cell? ⟨(wo.heap.size + 1), 0, none⟩ = some (.slice Ax (List.map (dnF l02 l03 j) (l01.take i)).length cx) from (blk_cell HU2.out.cell 0).trans rfl)
       have HS1 := Sd.mk (show Wu.cell? ⟨w.heap.size, 1, none⟩ = some (.slice (some adM) l01.length c01) from (blk_cell HA.out.box 1).trans rfl)
       have HS2 := Sd.mk hy1
       have HS3 := Sd.mk hy2
       have HS4 := Sd.mk hy3
       have HS6 := Sd.mk hx6
       have HIC := Sd.mk hic
       have HLCC := Sd.mk hlc
       have HI6 := Sd.mk hi6
       have HL6 := Sd.mk hl6
       have HNE1 := Sd.mk (Kd.R_ne HU2.out.row HU2.out.cell (by decide))
       have HNE2 := Sd.mk (Kd.R_ne HU2.out.row HU1.out.cell (by decide))
       have HNE3 := Sd.mk (Kd.R_ne HU2.out.row HA.out.box (by decide))
       have HNEB : Sd (∀ b, b < wo.heap.size → some b ≠ (Value.slice Ax (List.map (dnF l02 l03 j) (l01.take i)).length cx).ownBlock) := ⟨fun b hb he => Nat.not_le_of_lt hb (HU2.out.own b he.symm)⟩
       clear hfl hjl hKf hic hlc hi6 hl6 hy0 hy1 hy2 hy3 hx6
       generalize hflv : List.map (dnF l02 l03 j) (l01.take i) = fld at *
       clear hflv
       refine start_ (n := 24) (S := fun w' => w'.cell? ⟨(wo.heap.size + 1), 0, none⟩ = some (.slice Ax fld.length cx) ∧ w'.cell? ⟨w.heap.size, 1, none⟩ = some (.slice (some adM) l01.length c01) ∧ w'.cell? ⟨(adF.add (j * 4)).block, (adF.add (j * 4)).off + 1, none⟩ = some (.slice Ac (rd_T89 fm (j : Int)).f1.length cc) ∧ w'.cell? ⟨(adF.add (j * 4)).block, (adF.add (j * 4)).off + 2, none⟩ = some (.int .i64 (rd_T89 fm (j : Int)).f2.f0) ∧ w'.cell? ⟨(adF.add (j * 4)).block, (adF.add (j * 4)).off + 3, none⟩ = some (.int .i64 (rd_T89 fm (j : Int)).f2.f1) ∧ w'.cell? ⟨(adF.add (j * 4)).block, (adF.add (j * 4)).off + 2 + 1, none⟩ = some (.int .i64 (rd_T89 fm (j : Int)).f2.f1) ∧ w'.cell? ⟨(adM.add (i * 7)).block, (adM.add (i * 7)).off + 6, none⟩ = some (.slice A6 (rd_T70 l01 (i : Int)).f6.length c6)) (ds := [23]) (bA 24 0) (by kernel_rfl) rfl rfl ⟨HS0.out, HS1.out, HS2.out, HS3.out, HS4.out, HS4.out, HS6.out⟩ (fun hHeld => ?_); refine with_tabW allL17_tab allL_bits (fun HT_ HW_ => ?_)
       replace HA := Sd.mk (HA.out.later (below_drew1 (Below.refl _ _)))
       replace HU1 := Sd.mk (HU1.out.later (below_drew1 (Below.refl _ _)))
       replace HU2 := Sd.mk (HU2.out.later (below_drew1 (Below.refl _ _)))
       replace HIC := Sd.mk (Kd.C_drew HIC.out)
       replace HI6 := Sd.mk (Kd.C_drew HI6.out)
       replace HS0 := Sd.mk (World.cell?_drew_ HS0.out)
       replace HS1 := Sd.mk (World.cell?_drew_ HS1.out)
       replace HS2 := Sd.mk (World.cell?_drew_ HS2.out)
       replace HS3 := Sd.mk (World.cell?_drew_ HS3.out)
       replace HS4 := Sd.mk (World.cell?_drew_ HS4.out)
       replace HS6 := Sd.mk (World.cell?_drew_ HS6.out)
       generalize Wu.drew = W0 at HA HU1 HU2 HIC HI6 HS0 HS1 HS2 HS3 HS4 HS6 hHeld ⊢
       refine pQ 0 (some 87) (bA 24 1) ?_
       refine tQ 1 (some 88) (bA 24 3) ?_
       refine pQ 2 (some 89) (bA 24 7) ?_
       refine pQ 3 (some 90) (bA 24 15) ?_
       refine pQ 4 (some 91) (bA 24 31) ?_
       refine pQ 5 (some 92) (bA 24 63) ?_
       refine tQ 6 (some 93) (bA 24 127) ?_
       refine pQ 7 (some 94) (bA 24 255) ?_
       refine tQ 8 (some 95) (bA 24 511) ?_
       refine pQ 9 (some 96) (bA 24 1023) ?_
       refine pQ 10 (some 97) (bA 24 2047) ?_
       refine pQ 11 (some 98) (bA 24 4095) ?_
       refine tQ 12 (some 99) (bA 24 8191) ?_
       refine pQ 13 (some 100) (bA 24 16383) ?_
       refine pQ 14 (some 101) (bA 24 32767) ?_
       refine pQ 15 (some 102) (bA 24 65535) ?_
       refine pQ 16 (some 103) (bA 24 131071) ?_
       refine pQ 17 (some 104) (bA 24 262143) ?_
       refine tQ 18 (some 105) (bA 24 524287) ?_
       refine one_ (i := 19) (N := some 106) (bA 24 1048575) rfl rfl (one_of HT_.out (by kernel_rfl)) (by decide) (fun K hK => ?_)
       refine goes_ Tryz.func153 (by kernel_rfl) rfl #[.slice Ac (rd_T89 fm (j : Int)).f1.length cc, .slice A6 (rd_T70 l01 (i : Int)).f6.length c6, .int .i64 (rd_T89 fm (j : Int)).f2.f0] (by rfl) rfl rfl (by (try simp only [List.map_toArray, List.map_cons, List.map_nil]); first | done | rfl) ?_
       refine (rf_below.calls Kf Ac cc (rd_T89 fm (j : Int)).f1 A6 c6 (rd_T70 l01 (i : Int)).f6 (rd_T89 fm (j : Int)).f2.f0 (dnF l02 l03 j (rd_T70 l01 (i : Int))) W0 HIC.out HLCC.out HI6.out HL6.out HKF.out).mono ?_
       rintro e w4 ⟨rfl, hb⟩
       refine ⟨_, rfl, ?_⟩
       replace HA := Sd.mk (HA.out.later hb)
       replace HU1 := Sd.mk (HU1.out.later hb)
       replace HU2 := Sd.mk (HU2.out.later hb)
       replace HS0 := Sd.mk (cellB hb HS0.out)
       replace HS1 := Sd.mk (cellB hb HS1.out)
       replace HS2 := Sd.mk (cellB hb HS2.out)
       replace HS3 := Sd.mk (cellB hb HS3.out)
       replace HS4 := Sd.mk (cellB hb HS4.out)
       replace HS6 := Sd.mk (cellB hb HS6.out)
       clear hb HIC HI6 HKF HLCC HL6
       refine hK.out _ _ ⟨HS0.out, HS1.out, HS2.out, HS3.out, HS4.out, HS4.out, HS6.out⟩ (fun hHeld => ?_)
       clear hK K
       refine norm_ (a' := ?_) ?_ ?_
       rotate_left
       ·show Act.put _ (some 106) _ = _
        exact tP
       refine one_ (i := 20) (N := some 107) (bA 24 2097151) rfl rfl (one_of HT_.out (by kernel_rfl)) (by decide) (fun K hK => ?_)
       refine value_ (w1 := ?_) (v := ?_) (by rfl) rfl ?_ ?_
       rotate_left 2
       ·go_simp
        constructor
        ·rfl
        ·rfl
       have hba := below_alloc (Below.refl w4.heap.size w4) (.cells #[.int .i64 (dnF l02 l03 j (rd_T70 l01 (i : Int)))] 3)
       refine hK.out _ _ ⟨cellB hba HS0.out, cellB hba HS1.out, cellB hba HS2.out, cellB hba HS3.out, cellB hba HS4.out, cellB hba HS4.out, cellB hba HS6.out⟩ (fun hHeld => ?_)
       clear hba
       clear hK K
       refine norm_ (a' := ?_) ?_ ?_
       rotate_left
       ·show Act.put _ (some 107) _ = _
        exact tP
       refine one_ (i := 21) (N := some 108) (bA 24 4194303) rfl rfl (one_of HT_.out (by kernel_rfl)) (by decide) (fun K hK => ?_)
       refine Kd.R_append_step (Kd.int .i64) (w0 := w) w.heap.size (by rfl) (.tmp 88) (.tmp 107) 30 3 (.int .i64 0) 8 rfl Tryz.underlying30 info3 rfl (by decide) (by omega) (.slice Ax fld.length cx) fld (dnF l02 l03 j (rd_T70 l01 (i : Int))) [.int .i64 (dnF l02 l03 j (rd_T70 l01 (i : Int)))] (fun q => wo.heap.size ≤ q) (fun _ => False) rfl rfl ?aP (fun _ hk => hk.elim) ?aF ?aO ?aB ?aS ?aL ?_
       (case aP => exact rfl)
       (case aB => exact HA.out.below)
       (case aF => exact (fun q hq => Nat.le_trans (by have h1 := HU1.out.cell; have h2 := blk_lt h1; have h3 := HU1.out.ge; omega) hq))
       (case aO => exact Kd.R_mono HU2.out.row (fun q hq => HU2.out.own q hq))
       (case aS => exact below_size HA.out.below)
       (case aL => exact (by rw [HFL.out]; exact Nat.le_trans (Nat.mul_le_mul_right 8 (show i + 1 ≤ 13 by omega)) (by decide)))
       intro v1 w5 ho hb hg hat
       have HDJ : Sd (∀ q, v1.ownBlock = some q → vu2.ownBlock = some q → False) := ⟨fun q hq hk => by
        have hlt := ((Kd.R_bound HU1.out.row).1 q hk).2.2.1
        rcases hat with hat | ⟨b, hat, hb_⟩
        ·rw [hat] at hq; exact HDI.out q hk hq
        ·rw [hat] at hq; injection hq with hq; omega⟩
       have HV' := Sd.mk (HU1.out.grown hg HNE2.out (fun q hk hq => by first | exact HDI.out q hq.symm hk | exact HDI.out q hk hq.symm))
       replace HA := Sd.mk (HA.out.grown hb hg HNE3.out (fun q hk => HNEB.out q (Nat.lt_of_lt_of_le hk.2 HSO.out)) (fun q hk => HNEB.out q hk.2))
       have HBU := Sd.mk (blk_grown HU2.out.cell hg HNE1.out)
       have HGE := Sd.mk HU2.out.ge
       replace HS0 := Sd.mk (cellG hg HS0.out HNE1.out)
       replace HS1 := Sd.mk (cellG hg HS1.out HNE3.out)
       replace HS2 := Sd.mk (cellG hg HS2.out (HNEB.out _ HBF.out))
       replace HS3 := Sd.mk (cellG hg HS3.out (HNEB.out _ HBF.out))
       replace HS4 := Sd.mk (cellG hg HS4.out (HNEB.out _ HBF.out))
       replace HS6 := Sd.mk (cellG hg HS6.out (HNEB.out _ HBM.out))
       have HO := Sd.mk (Kd.R_types (t := 168) ho HBU.out (by decide))
       have HOW := Sd.mk ho.1
       clear hb ho hg hat HNE1 HNE2 HNE3 HNEB HU1 HU2 HDI
       refine hK.out _ _ ⟨HS0.out, HS1.out, HS2.out, HS3.out, HS4.out, HS4.out, HS6.out⟩ (fun hHeld => ?_)
       clear hK K
       refine norm_ (a' := ?_) ?_ ?_
       rotate_left
       ·show Act.put _ (some 108) _ = _
        exact tP
       refine pQ 22 (some 109) (bA 24 8388607) ?_
       obtain ⟨A1', c1', rfl⟩ := Kd.R_slice HO.out
       have hw0 : w5.cell? ⟨(wo.heap.size + 1), 0, none⟩ = some (.slice Ax fld.length cx) := HS0.out
       have hwf := blk_frozen HBU.out 0
       refine last_ (i := 23) (N := none) (bA 24 16777215) rfl rfl (one_of HT_.out (by kernel_rfl)) (by decide) (fun K hK => ?_)
       refine skip_ (w1 := ?_) (by rfl) rfl ?_ ?_
       rotate_left
       ·go_simp
        rfl
       refine hK.out _ _ ?_
       clear hK K hw0 hwf
       refine done_ (done_of HT_.out (by kernel_rfl)) ?_
       clear HT_ HW_ hHeld HS0 HS1 HS2 HS3 HS4 HS6
       have HU1 := Sd.mk (HV'.out.set (.slice A1' (fld.length + 1) c1') (by omega) HBU.out)
       have HBK := Sd.mk (blk_put (cs' := #[.slice A1' (fld.length + 1) c1', .int .i64 0]) HBU.out 0 (.slice A1' (fld.length + 1) c1') (by rfl))
       replace HA := Sd.mk (HA.out.set (g := (wo.heap.size + 1)) (.slice A1' (fld.length + 1) c1') (by have := HWO.out; omega) (fun q hk => by have := hk.2; have := HSO.out; omega) (fun q hk => by have := hk.2; omega))
       have HU2 : Sd (RowAt3 w wo (w5.setCell ⟨(wo.heap.size + 1), 0, none⟩ (.slice A1' (fld.length + 1) c1')) (wo.heap.size + 1) (.slice A1' (fld.length + 1) c1') (List.map (dnF l02 l03 j) (l01.take (i + 1)))) :=
        ⟨⟨HGE.out, HBK.out, by
         have h_ := Kd.R_far (p := ⟨(wo.heap.size + 1), 0, none⟩) HO.out (fun _ hk => hk.2) (.slice A1' (fld.length + 1) c1')
         rw [← HSTEP.out]
         simpa using R_int_own h_, fun k hk => HOW.out k (by simpa using hk)⟩⟩
       have HDI : Sd (∀ k, vu2.ownBlock = some k → (Value.slice A1' (fld.length + 1) c1').ownBlock = some k → False) := ⟨fun k h1 h2 => HDJ.out k (by simpa using h2) h1⟩
       clear HV' HBK HBU HGE HO HOW HDJ HFL HSTEP
       generalize w5.setCell ⟨(wo.heap.size + 1), 0, none⟩ (.slice A1' (fld.length + 1) c1') = Wd at *
       generalize Value.slice A1' (fld.length + 1) c1' = vd2 at *
       clear kz1 hm12
       go_wp2
       go_roundg (l01.length - (i + 1))
       case measure => omega
       case rel => exact ⟨i + 1, _, _, by first | rfl | (rw [wrap_id (by omega) (by omega)]; rfl), by omega, by omega, HA, HU1, HU2, HDI⟩
      ·skip
       have hiz : ¬ (i : Int) < (l01.length : Int) := by omega
       obtain rfl : i = l01.length := by omega
       rw [List.take_length] at HU1 HU2
       have cu0 : wr.cell? ⟨wo.heap.size, 0, none⟩ = some vu := (blk_cell HU1.out.cell 0).trans rfl
       have cu1 : wr.cell? ⟨wo.heap.size, 1, none⟩ = some (.int .i64 0) := (blk_cell HU1.out.cell 1).trans rfl
       have cd0 : wr.cell? ⟨wo.heap.size + 1, 0, none⟩ = some vd := (blk_cell HU2.out.cell 0).trans rfl
       have cd1 : wr.cell? ⟨wo.heap.size + 1, 1, none⟩ = some (.int .i64 0) := (blk_cell HU2.out.cell 1).trans rfl
       have HL1 : Sd (k168.R 168 wr w.heap.size (fun j => (w.heap.size ≤ j ∧ j < Wc.heap.size) ∨ Wf.heap.size ≤ j) u7 (headL l01 l02 l03 a06 j)) := ⟨Kd.R_mono HA.out.list (fun k hk => hk.1)⟩
       have Hv1 : Sd ((Kd.int .i64).R 3 wr w.heap.size (fun j => (w.heap.size ≤ j ∧ j < Wc.heap.size) ∨ Wf.heap.size ≤ j) vu (List.map (upF l02 l03 j) l01)) := ⟨Kd.R_mono HU1.out.row (fun k hk => Or.inr (Nat.le_trans HSO.out (HU1.out.own k hk)))⟩
       have Hv2 : Sd ((Kd.int .i64).R 3 wr w.heap.size (fun j => (w.heap.size ≤ j ∧ j < Wc.heap.size) ∨ Wf.heap.size ≤ j) vd (List.map (dnF l02 l03 j) l01)) := ⟨Kd.R_mono HU2.out.row (fun k hk => Or.inr (Nat.le_trans HSO.out (HU2.out.own k hk)))⟩
       have HSZ := Sd.mk (show 1 + 2 * j + 2 ≤ 100 by have H := HH.out; have := H.slen; have := H.o12; have := H.p6; have := HLF.out; have := HJT.out; omega)
       go_upto_region 18 with (fail)
       clear kz1 hm12
       go_wp2_with ((with_reducible refine gate_builtin (b := .append) (xs := #[.tmp 110, .tmp 113]) rfl ?_); at_builtin; refine Kd.R_append_rows k168 (w0 := w) w.heap.size rfl (.tmp 110) (.tmp 113) 100 168 (.agg #[.slice none 0 0, .int .i64 0]) 32 rfl Tryz.underlying100 info168 rfl (by decide) (by omega) u7 (headL l01 l02 l03 a06 j) (pairL l01 l02 l03 j) (some ⟨_, 0, none⟩) 2 2 (fun j => (w.heap.size ≤ j ∧ j < Wc.heap.size) ∨ Wf.heap.size ≤ j) (fun k => (fun j => (w.heap.size ≤ j ∧ j < Wc.heap.size) ∨ Wf.heap.size ≤ j) k ∧ some k ≠ u7.ownBlock) rfl rfl ?aO ?aR (fun _ _ hp => hp) (fun _ hk => hk) ?aF ?aB ?aS ?aL ?_; (case aO => exact (by (with_reducible repeat (first | apply Kd.R_alloc | apply Kd.R_drewN | apply Kd.R_drew)); exact HL1.out)); (case aR => exact pair_reads2 (x := ⟨List.map (upF l02 l03 j) l01, 0⟩) (x' := ⟨List.map (dnF l02 l03 j) l01, 0⟩) HL1.out (by rw [headL_len]; omega) Hv1.out Hv2.out (Or.inr HA.out.size) (below_size HA.out.below)); (case aB => exact (by repeat (first | (with_reducible first | exact HA.out.below | apply below_alloc | apply pw_below_drewN | apply below_drew1) | exact HA.out.below))); (case aF => exact (fun _ hk => Or.inr (Nat.le_trans (Nat.le_trans HA.out.size (by simp)) hk))); (case aS => exact below_size (by repeat (first | (with_reducible first | exact HA.out.below | apply below_alloc | apply pw_below_drewN | apply below_drew1) | exact HA.out.below))); (case aL => exact (by rw [headL_len]; exact Nat.le_trans (Nat.mul_le_mul_right 32 HSZ.out) (by decide))); intro v5 w5 ho hb hg hat; have BOX5 := blk_grown (blk_alloc HA.out.box _) hg (Kd.R_ne HA.out.list HA.out.box (by decide)); have HAX := Sd.mk (AllW.mk (okN := (fun j => (j < w.heap.size ∨ Wc.heap.size ≤ j) ∧ j < Wf.heap.size)) (okL := (fun j => (w.heap.size ≤ j ∧ j < Wc.heap.size) ∨ Wf.heap.size ≤ j)) hb (Nat.le_trans HA.out.size (Nat.le_trans (below_alloc (Below.refl _ _) _).size hg.size)) BOX5 (Kd.N_grown (Kd.N_below HA.out.forms (below_alloc (Below.refl _ _) _)) hg (fun k hk he => by have h1 : (k < w.heap.size ∨ Wc.heap.size ≤ k) ∧ k < Wf.heap.size := hk; have h2 : (w.heap.size ≤ k ∧ k < Wc.heap.size) ∨ Wf.heap.size ≤ k := HL1.out.1 k he.symm; omega)) ho); clear cu0 cu1 cd0 cd1 ho hb hg hat BOX5)
       have hfz := HFZ.out
       have hjt := HJT.out
       have hgj := HGJ.out
       try go_wp2
       go_roundg (fm.length - (j + 1))
       case measure => omega
       case rel => exact ⟨j + 1, by first | rfl | (rw [wrap_id (by omega) (by omega)]; rfl), by omega, by omega, HAX⟩
    ·skip
     have hjz : ¬ (j : Int) < (fm.length : Int) := by omega
     obtain rfl : j = fm.length := by omega
     obtain ⟨wo, rfl⟩ : ∃ wo : World, wo = wr := ⟨_, rfl⟩
     have hU2 : (wo.alloc (.cells #[.slice none 0 0, .int .i64 0] 168)).heap.size = wo.heap.size + 1 := by simp
     have hA0 : AllW w Wc Wf wo #[.slice A00 l00.length c00, .slice A01 l01.length c01, .slice A02 l02.length c02, .slice A03 l03.length c03, .int .i64 a04, .int .i64 a05, .int .i64 a06] (fun j => (j < w.heap.size ∨ Wc.heap.size ≤ j) ∧ j < Wf.heap.size) (fun j => ((w.heap.size ≤ j ∧ j < Wc.heap.size) ∨ Wf.heap.size ≤ j) ∧ j < wo.heap.size) (.slice Af fm.length cf) fm u7 (headL l01 l02 l03 a06 fm.length) := by
      have h_ := HAW.out
      exact ⟨h_.below, h_.size, h_.box, h_.forms, Kd.R_mono (Kd.R_bound h_.list) (fun j hj => ⟨hj.1, hj.2.2.1⟩)⟩
     have HA := Sd.mk (hA0.later (below_alloc (below_alloc (Below.refl _ _) (.cells #[.slice none 0 0, .int .i64 0] 168)) (.cells #[.slice none 0 0, .int .i64 0] 168)))
     have HU1 : Sd (RowAt3 w wo ((wo.alloc (.cells #[.slice none 0 0, .int .i64 0] 168)).alloc (.cells #[.slice none 0 0, .int .i64 0] 168)) wo.heap.size (.slice none 0 0) (List.map (rUp a05) (l01.take 0))) :=
      ⟨⟨Nat.le_refl _, blk_alloc (blk_new wo _) _, R_int_own (Kd.R_nil _ _ _ _ (fun _ => True)), fun k hk => by simp [Value.ownBlock] at hk⟩⟩
     have HU2 : Sd (RowAt3 w wo ((wo.alloc (.cells #[.slice none 0 0, .int .i64 0] 168)).alloc (.cells #[.slice none 0 0, .int .i64 0] 168)) (wo.heap.size + 1) (.slice none 0 0) (List.map (rDn a04) (l01.take 0))) :=
      ⟨⟨Nat.le_succ _, by have h_ := blk_new (wo.alloc (.cells #[.slice none 0 0, .int .i64 0] 168)) (.cells #[.slice none 0 0, .int .i64 0] 168); rw [hU2] at h_; exact h_, R_int_own (Kd.R_nil _ _ _ _ (fun _ => True)), fun k hk => by simp [Value.ownBlock] at hk⟩⟩
     have HDI : Sd (∀ k, (Value.slice none 0 0).ownBlock = some k → (Value.slice none 0 0).ownBlock = some k → False) := ⟨fun k hk => by simp [Value.ownBlock] at hk⟩
     have HSO := Sd.mk hA0.size
     have HWO := Sd.mk (show w.heap.size < wo.heap.size from blk_lt hA0.box)
     have hrx := HH.out.redox
     have HRX := Sd.mk hrx
     clear hU2 hA0 HAW hgj hrx
     go_wp2
     generalize (wo.alloc (.cells #[.slice none 0 0, .int .i64 0] 168)).alloc (.cells #[.slice none 0 0, .int .i64 0] 168) = w1 at *
     go_loopg [15] l01.length (fun gq v15 wr => ∃ i : Nat, ∃ vu vd : Value, v15 = .int .i64 i ∧ i ≤ l01.length ∧ l01.length - i ≤ gq ∧ Sd (AllW w Wc Wf wr #[.slice A00 l00.length c00, .slice A01 l01.length c01, .slice A02 l02.length c02, .slice A03 l03.length c03, .int .i64 a04, .int .i64 a05, .int .i64 a06] (fun j => (j < w.heap.size ∨ Wc.heap.size ≤ j) ∧ j < Wf.heap.size) (fun j => ((w.heap.size ≤ j ∧ j < Wc.heap.size) ∨ Wf.heap.size ≤ j) ∧ j < wo.heap.size) (.slice Af fm.length cf) fm u7 (headL l01 l02 l03 a06 fm.length)) ∧ Sd (RowAt3 w wo wr wo.heap.size vu (List.map (rUp a05) (l01.take i))) ∧ Sd (RowAt3 w wo wr (wo.heap.size + 1) vd (List.map (rDn a04) (l01.take i))) ∧ Sd (∀ k, vu.ownBlock = some k → vd.ownBlock = some k → False))
     case atStart => exact ⟨0, _, _, rfl, Nat.zero_le _, by omega, HA, HU1, HU2, HDI⟩
     case round =>
      clear HA HU1 HU2 HDI
      obtain ⟨i, vu, vd, rfl, hi, hgi, HA, HU1, HU2, HDI⟩ := hrel
      have hm12 := HM12.out
      have kz1 : wr.cell? ⟨w.heap.size, 0 + 1, none⟩ = some (.slice A01 l01.length c01) := (blk_cell HA.out.box 1).trans rfl
      by_cases hit : i < l01.length
      ·have hiz : (i : Int) < (l01.length : Int) := by omega
       obtain ⟨adM, A6, c6, rfl, hx0, hx1, hx2, hx3, hx4, hx5, hx6, hl6, hi6⟩ := at_T70 (Kd.C_below HR1.out HA.out.below) (i : Int) (by omega) hiz
       simp only [Int.toNat_natCast] at hx0 hx1 hx2 hx3 hx4 hx5 hx6
       go_upto_region 24 with (fail)
       clear hx0 hx1 hx2 hx3 hx4 hx5 hx6 kz1 hm12
       obtain ⟨M, hM⟩ : ∃ M : Nat, M = wr.heap.size := ⟨_, rfl⟩
       have hb1 := below_alloc (Below.refl wr.heap.size wr) (.cells #[.string (rd_T70 l01 (i : Int)).f0, .int .i64 (rd_T70 l01 (i : Int)).f1, .int .i64 (rd_T70 l01 (i : Int)).f2, .int .i64 (rd_T70 l01 (i : Int)).f3, .int .i64 (rd_T70 l01 (i : Int)).f4, .int .i64 (rd_T70 l01 (i : Int)).f5, .slice A6 (rd_T70 l01 (i : Int)).f6.length c6] 70)
       have bm := blk_new wr (.cells #[.string (rd_T70 l01 (i : Int)).f0, .int .i64 (rd_T70 l01 (i : Int)).f1, .int .i64 (rd_T70 l01 (i : Int)).f2, .int .i64 (rd_T70 l01 (i : Int)).f3, .int .i64 (rd_T70 l01 (i : Int)).f4, .int .i64 (rd_T70 l01 (i : Int)).f5, .slice A6 (rd_T70 l01 (i : Int)).f6.length c6] 70)
       have hu1 := blk_lt HU1.out.cell
       have hu2 := blk_lt HU2.out.cell
       have HMU1 := Sd.mk (show M ≠ wo.heap.size by omega)
       have HMU2 := Sd.mk (show M ≠ wo.heap.size + 1 by omega)
       clear hu1 hu2
       have hlb := lowM_bound (mat_gok HH.out hit)
       have hrr := (HH.out.mats i hit).redox
       have hrx := HRX.out
       have hp1 := mulr (c := a05) (by omega) (by omega) hlb.1 (Int.le_trans hlb.2.1 hlb.2.2)
       have hp2 := mulr (c := a05) (by omega) (by omega) (Int.le_trans hlb.1 hlb.2.1) hlb.2.2
       have hp3 := mulr (c := a04) (by omega) (by omega) hlb.1 (Int.le_trans hlb.2.1 hlb.2.2)
       have hp4 := mulr (c := a04) (by omega) (by omega) (Int.le_trans hlb.1 hlb.2.1) hlb.2.2
       have HP1 := Sd.mk (And.intro hp1 (And.intro hp2 (mn_in hp1 hp2)))
       have HP2 := Sd.mk (And.intro hp3 (And.intro hp4 (mx_in hp3 hp4)))
       have HRR := Sd.mk hrr
       clear hlb hrr hrx hp1 hp2 hp3 hp4
       obtain ⟨Kf, hKf⟩ := sumsF HH.out hit
       have hgo := rf_sums.calls Kf A6 c6 (rd_T70 l01 (i : Int)).f6 (lowM (rd_T70 l01 (i : Int))) (highM (rd_T70 l01 (i : Int))) (wr.alloc (.cells #[.string (rd_T70 l01 (i : Int)).f0, .int .i64 (rd_T70 l01 (i : Int)).f1, .int .i64 (rd_T70 l01 (i : Int)).f2, .int .i64 (rd_T70 l01 (i : Int)).f3, .int .i64 (rd_T70 l01 (i : Int)).f4, .int .i64 (rd_T70 l01 (i : Int)).f5, .slice A6 (rd_T70 l01 (i : Int)).f6.length c6] 70)) (Kd.C_below hi6 hb1) hl6 hKf
       have hm6 : (wr.alloc (.cells #[.string (rd_T70 l01 (i : Int)).f0, .int .i64 (rd_T70 l01 (i : Int)).f1, .int .i64 (rd_T70 l01 (i : Int)).f2, .int .i64 (rd_T70 l01 (i : Int)).f3, .int .i64 (rd_T70 l01 (i : Int)).f4, .int .i64 (rd_T70 l01 (i : Int)).f5, .slice A6 (rd_T70 l01 (i : Int)).f6.length c6] 70)).cell? ⟨wr.heap.size, 6, none⟩ = some (.slice A6 (rd_T70 l01 (i : Int)).f6.length c6) := (blk_cell bm 6).trans rfl
       replace HA := Sd.mk (HA.out.later hb1)
       replace HU1 := Sd.mk (HU1.out.later hb1)
       replace HU2 := Sd.mk (HU2.out.later hb1)
       have HM := Sd.mk bm
       clear hKf hi6 hl6 hb1 bm
       go_wp2_with fail
       clear hm6
       generalize wr.alloc (.cells #[.string (rd_T70 l01 (i : Int)).f0, .int .i64 (rd_T70 l01 (i : Int)).f1, .int .i64 (rd_T70 l01 (i : Int)).f2, .int .i64 (rd_T70 l01 (i : Int)).f3, .int .i64 (rd_T70 l01 (i : Int)).f4, .int .i64 (rd_T70 l01 (i : Int)).f5, .slice A6 (rd_T70 l01 (i : Int)).f6.length c6] 70) = W1 at *
       rw [← hM] at HM
       refine hgo.mono ?_
       clear hgo
       rintro e W2 ⟨rfl, ⟨nd, rfl⟩⟩
       have hb1 := pw_below_drewN (Below.refl W1.heap.size W1) nd
       replace HA := Sd.mk (HA.out.later hb1)
       replace HU1 := Sd.mk (HU1.out.later hb1)
       replace HU2 := Sd.mk (HU2.out.later hb1)
       replace HM := Sd.mk (blk_below HM.out hb1)
       clear hb1
       generalize W1.drewN nd = W2 at *
       rw [← hM]
       clear hM
       go_upto_region 25 with (fail)
       obtain ⟨Ax, cx, rfl⟩ := Kd.R_slice HU1.out.row
       have hfl : (List.map (rUp a05) (l01.take i)).length = i := by simp; omega
       have HFL := Sd.mk hfl
       have HSTEP : Sd (List.map (rUp a05) (l01.take i) ++ [1000000 * (rd_T70 l01 (i : Int)).f2 - mn (a05 * lowM (rd_T70 l01 (i : Int))) (a05 * highM (rd_T70 l01 (i : Int)))] = List.map (rUp a05) (l01.take (i + 1))) := ⟨by rw [List.take_succ_eq_append_getElem hit, List.map_append]; simp [rd_T70, hit]; rfl⟩
       have HNE1 := Sd.mk (Kd.R_ne HU1.out.row HU1.out.cell (by decide))
       have HNE2 := Sd.mk (Kd.R_ne HU1.out.row HU2.out.cell (by decide))
       have HNE3 := Sd.mk (Kd.R_ne HU1.out.row HA.out.box (by decide))
       have HNE4 := Sd.mk (Kd.R_ne HU1.out.row HM.out (by decide))
       have HNEB : Sd (∀ b, b < wo.heap.size → some b ≠ (Value.slice Ax (List.map (rUp a05) (l01.take i)).length cx).ownBlock) := ⟨fun b hb he => Nat.not_le_of_lt hb (HU1.out.own b he.symm)⟩
       have cu : W2.cell? ⟨wo.heap.size, 0, none⟩ = some (.slice Ax (List.map (rUp a05) (l01.take i)).length cx) := (blk_cell HU1.out.cell 0).trans rfl
       have cm : W2.cell? ⟨M, 2, none⟩ = some (.int .i64 (rd_T70 l01 (i : Int)).f2) := (blk_cell HM.out 2).trans rfl
       have cb : W2.cell? ⟨w.heap.size, 4 + 1, none⟩ = some (.int .i64 a05) := (blk_cell HA.out.box 5).trans rfl
       have cb2 : W2.cell? ⟨w.heap.size, 5, none⟩ = some (.int .i64 a05) := (blk_cell HA.out.box 5).trans rfl
       obtain ⟨⟨hq1, hq2⟩, ⟨hq3, hq4⟩, hq5, hq6⟩ := HP1.out
       obtain ⟨hq7, hq8⟩ := HRR.out
       clear hfl
       generalize hflv : List.map (rUp a05) (l01.take i) = flu at *
       clear hflv
       go_upto_region 26 with ((with_reducible refine gate_builtin (b := .append) (xs := #[.tmp 134, .tmp 150]) rfl ?_); at_builtin; refine Kd.R_append (Kd.int .i64) (w0 := w) w.heap.size rfl (.tmp 134) (.tmp 150) 30 3 (.int .i64 0) 8 rfl Tryz.underlying30 info3 rfl (by decide) (by omega) (.slice Ax flu.length cx) flu (1000000 * (rd_T70 l01 (i : Int)).f2 - mn (a05 * lowM (rd_T70 l01 (i : Int))) (a05 * highM (rd_T70 l01 (i : Int)))) [.int .i64 (1000000 * (rd_T70 l01 (i : Int)).f2 - mn (a05 * lowM (rd_T70 l01 (i : Int))) (a05 * highM (rd_T70 l01 (i : Int))))] (fun q => wo.heap.size ≤ q) (fun _ => False) rfl rfl ?aP (fun _ hk => hk.elim) ?aF ?aO ?aB ?aS ?aL ?_; (case aP => exact rfl); (case aB => exact HA.out.below); (case aF => exact (fun q hq => Nat.le_trans (by have h1 := HU1.out.cell; have h2 := blk_lt h1; have h3 := HU1.out.ge; omega) hq)); (case aO => exact Kd.R_mono HU1.out.row (fun q hq => HU1.out.own q hq)); (case aS => exact below_size HA.out.below); (case aL => exact (by rw [HFL.out]; exact Nat.le_trans (Nat.mul_le_mul_right 8 (show i + 1 ≤ 13 by have := HM12.out; omega)) (by decide))); intro v1 w5 ho hb hg hat; have HDJ : Sd (∀ q, v1.ownBlock = some q → vd.ownBlock = some q → False) := ⟨fun q hq hk => by (have hlt := ((Kd.R_bound HU2.out.row).1 q hk).2.2.1); (rcases hat with hat | ⟨b, hat, hb_⟩; exact (by (rw [hat] at hq); exact HDI.out q hq hk); (rw [hat] at hq); injection hq with hq; omega)⟩; have HV' := Sd.mk (HU2.out.grown hg HNE2.out (fun q hk hq => by first | exact HDI.out q hq.symm hk | exact HDI.out q hk hq.symm)); have HA' := Sd.mk (HA.out.grown hb hg HNE3.out (fun q hk => HNEB.out q (Nat.lt_of_lt_of_le hk.2 HSO.out)) (fun q hk => HNEB.out q hk.2)); have HM' := Sd.mk (blk_grown HM.out hg HNE4.out); have HBU := Sd.mk (blk_grown HU1.out.cell hg HNE1.out); have HGE := Sd.mk HU1.out.ge; have HO := Sd.mk (Kd.R_types (t := 168) ho HBU.out (by decide)); have HOW := Sd.mk ho.1; obtain ⟨A1', c1', rfl⟩ := Kd.R_slice ho; have hw0 : w5.cell? ⟨wo.heap.size, 0, none⟩ = some (.slice Ax flu.length cx) := (blk_cell HBU.out 0).trans rfl; have hwf := blk_frozen HBU.out 0; clear hb ho hg hat HNE1 HNE2 HNE3 HNE4 HNEB HU1 HU2 HDI HA HM cu cm cb cb2)
       clear hw0 hwf hq1 hq2 hq3 hq4 hq5 hq6 hq7 hq8
       have HU2 := Sd.mk (HV'.out.set (.slice A1' (flu.length + 1) c1') (by omega) HBU.out)
       have HBK := Sd.mk (blk_put (cs' := #[.slice A1' (flu.length + 1) c1', .int .i64 0]) HBU.out 0 (.slice A1' (flu.length + 1) c1') (by rfl))
       have HM := Sd.mk (blk_far (p := ⟨wo.heap.size, 0, none⟩) HM'.out HMU1.out (.slice A1' (flu.length + 1) c1'))
       have HA := Sd.mk (HA'.out.set (g := wo.heap.size) (.slice A1' (flu.length + 1) c1') (by have := HWO.out; omega) (fun q hk => by have := hk.2; have := HSO.out; omega) (fun q hk => by have := hk.2; omega))
       have HU1 : Sd (RowAt3 w wo (w5.setCell ⟨wo.heap.size, 0, none⟩ (.slice A1' (flu.length + 1) c1')) wo.heap.size (.slice A1' (flu.length + 1) c1') (List.map (rUp a05) (l01.take (i + 1)))) :=
        ⟨⟨HGE.out, HBK.out, by
         have h_ := Kd.R_far (p := ⟨wo.heap.size, 0, none⟩) HO.out (fun _ hk => hk.2) (.slice A1' (flu.length + 1) c1')
         rw [← HSTEP.out]
         simpa using R_int_own h_, fun k hk => HOW.out k (by simpa using hk)⟩⟩
       have HDI : Sd (∀ k, (Value.slice A1' (flu.length + 1) c1').ownBlock = some k → vd.ownBlock = some k → False) := ⟨fun k h1 h2 => HDJ.out k (by simpa using h1) h2⟩
       clear HV' HBK HBU HGE HO HOW HDJ HFL HSTEP HA' HM'
       generalize w5.setCell ⟨wo.heap.size, 0, none⟩ (.slice A1' (flu.length + 1) c1') = Wu at *
       generalize Value.slice A1' (flu.length + 1) c1' = vu2 at *
       obtain ⟨Ax, cx, rfl⟩ := Kd.R_slice HU2.out.row
       have hfl : (List.map (rDn a04) (l01.take i)).length = i := by simp; omega
       have HFL := Sd.mk hfl
       have HSTEP : Sd (List.map (rDn a04) (l01.take i) ++ [mx (a04 * lowM (rd_T70 l01 (i : Int))) (a04 * highM (rd_T70 l01 (i : Int))) - 1000000 * (rd_T70 l01 (i : Int)).f2] = List.map (rDn a04) (l01.take (i + 1))) := ⟨by rw [List.take_succ_eq_append_getElem hit, List.map_append]; simp [rd_T70, hit]; rfl⟩
       have HNE1 := Sd.mk (Kd.R_ne HU2.out.row HU2.out.cell (by decide))
       have HNE2 := Sd.mk (Kd.R_ne HU2.out.row HU1.out.cell (by decide))
       have HNE3 := Sd.mk (Kd.R_ne HU2.out.row HA.out.box (by decide))
       have HNE4 := Sd.mk (Kd.R_ne HU2.out.row HM.out (by decide))
       have HNEB : Sd (∀ b, b < wo.heap.size → some b ≠ (Value.slice Ax (List.map (rDn a04) (l01.take i)).length cx).ownBlock) := ⟨fun b hb he => Nat.not_le_of_lt hb (HU2.out.own b he.symm)⟩
       have cu : Wu.cell? ⟨(wo.heap.size + 1), 0, none⟩ = some (.slice Ax (List.map (rDn a04) (l01.take i)).length cx) := (blk_cell HU2.out.cell 0).trans rfl
       have cm : Wu.cell? ⟨M, 2, none⟩ = some (.int .i64 (rd_T70 l01 (i : Int)).f2) := (blk_cell HM.out 2).trans rfl
       have cb : Wu.cell? ⟨w.heap.size, 4 + 0, none⟩ = some (.int .i64 a04) := (blk_cell HA.out.box 4).trans rfl
       have cb2 : Wu.cell? ⟨w.heap.size, 4, none⟩ = some (.int .i64 a04) := (blk_cell HA.out.box 4).trans rfl
       obtain ⟨⟨hq1, hq2⟩, ⟨hq3, hq4⟩, hq5, hq6⟩ := HP2.out
       obtain ⟨hq7, hq8⟩ := HRR.out
       clear hfl
       generalize hflv : List.map (rDn a04) (l01.take i) = fld at *
       clear hflv
       go_upto_region 22 with ((with_reducible refine gate_builtin (b := .append) (xs := #[.tmp 154, .tmp 170]) rfl ?_); at_builtin; refine Kd.R_append (Kd.int .i64) (w0 := w) w.heap.size rfl (.tmp 154) (.tmp 170) 30 3 (.int .i64 0) 8 rfl Tryz.underlying30 info3 rfl (by decide) (by omega) (.slice Ax fld.length cx) fld (mx (a04 * lowM (rd_T70 l01 (i : Int))) (a04 * highM (rd_T70 l01 (i : Int))) - 1000000 * (rd_T70 l01 (i : Int)).f2) [.int .i64 (mx (a04 * lowM (rd_T70 l01 (i : Int))) (a04 * highM (rd_T70 l01 (i : Int))) - 1000000 * (rd_T70 l01 (i : Int)).f2)] (fun q => wo.heap.size ≤ q) (fun _ => False) rfl rfl ?aP (fun _ hk => hk.elim) ?aF ?aO ?aB ?aS ?aL ?_; (case aP => exact rfl); (case aB => exact HA.out.below); (case aF => exact (fun q hq => Nat.le_trans (by have h1 := HU1.out.cell; have h2 := blk_lt h1; have h3 := HU1.out.ge; omega) hq)); (case aO => exact Kd.R_mono HU2.out.row (fun q hq => HU2.out.own q hq)); (case aS => exact below_size HA.out.below); (case aL => exact (by rw [HFL.out]; exact Nat.le_trans (Nat.mul_le_mul_right 8 (show i + 1 ≤ 13 by have := HM12.out; omega)) (by decide))); intro v1 w5 ho hb hg hat; have HDJ : Sd (∀ q, v1.ownBlock = some q → vu2.ownBlock = some q → False) := ⟨fun q hq hk => by (have hlt := ((Kd.R_bound HU1.out.row).1 q hk).2.2.1); (rcases hat with hat | ⟨b, hat, hb_⟩; exact (by (rw [hat] at hq); exact HDI.out q hk hq); (rw [hat] at hq); injection hq with hq; omega)⟩; have HV' := Sd.mk (HU1.out.grown hg HNE2.out (fun q hk hq => by first | exact HDI.out q hq.symm hk | exact HDI.out q hk hq.symm)); have HA' := Sd.mk (HA.out.grown hb hg HNE3.out (fun q hk => HNEB.out q (Nat.lt_of_lt_of_le hk.2 HSO.out)) (fun q hk => HNEB.out q hk.2)); have HM' := Sd.mk (blk_grown HM.out hg HNE4.out); have HBU := Sd.mk (blk_grown HU2.out.cell hg HNE1.out); have HGE := Sd.mk HU2.out.ge; have HO := Sd.mk (Kd.R_types (t := 168) ho HBU.out (by decide)); have HOW := Sd.mk ho.1; obtain ⟨A1', c1', rfl⟩ := Kd.R_slice ho; have hw0 : w5.cell? ⟨(wo.heap.size + 1), 0, none⟩ = some (.slice Ax fld.length cx) := (blk_cell HBU.out 0).trans rfl; have hwf := blk_frozen HBU.out 0; clear hb ho hg hat HNE1 HNE2 HNE3 HNE4 HNEB HU1 HU2 HDI HA HM cu cm cb cb2)
       clear hw0 hwf hq1 hq2 hq3 hq4 hq5 hq6 hq7 hq8
       have HU1 := Sd.mk (HV'.out.set (.slice A1' (fld.length + 1) c1') (by omega) HBU.out)
       have HBK := Sd.mk (blk_put (cs' := #[.slice A1' (fld.length + 1) c1', .int .i64 0]) HBU.out 0 (.slice A1' (fld.length + 1) c1') (by rfl))
       have HM := Sd.mk (blk_far (p := ⟨(wo.heap.size + 1), 0, none⟩) HM'.out HMU2.out (.slice A1' (fld.length + 1) c1'))
       have HA := Sd.mk (HA'.out.set (g := (wo.heap.size + 1)) (.slice A1' (fld.length + 1) c1') (by have := HWO.out; omega) (fun q hk => by have := hk.2; have := HSO.out; omega) (fun q hk => by have := hk.2; omega))
       have HU2 : Sd (RowAt3 w wo (w5.setCell ⟨(wo.heap.size + 1), 0, none⟩ (.slice A1' (fld.length + 1) c1')) (wo.heap.size + 1) (.slice A1' (fld.length + 1) c1') (List.map (rDn a04) (l01.take (i + 1)))) :=
        ⟨⟨HGE.out, HBK.out, by
         have h_ := Kd.R_far (p := ⟨(wo.heap.size + 1), 0, none⟩) HO.out (fun _ hk => hk.2) (.slice A1' (fld.length + 1) c1')
         rw [← HSTEP.out]
         simpa using R_int_own h_, fun k hk => HOW.out k (by simpa using hk)⟩⟩
       have HDI : Sd (∀ k, vu2.ownBlock = some k → (Value.slice A1' (fld.length + 1) c1').ownBlock = some k → False) := ⟨fun k h1 h2 => HDJ.out k (by simpa using h2) h1⟩
       clear HV' HBK HBU HGE HO HOW HDJ HFL HSTEP HA' HM'
       generalize w5.setCell ⟨(wo.heap.size + 1), 0, none⟩ (.slice A1' (fld.length + 1) c1') = Wd at *
       generalize Value.slice A1' (fld.length + 1) c1' = vd2 at *
       go_wp2
       go_roundg (l01.length - (i + 1))
       case measure => omega
       case rel => exact ⟨i + 1, _, _, by first | rfl | (rw [wrap_id (by omega) (by omega)]; rfl), by omega, by omega, HA, HU1, HU2, HDI⟩
      ·skip
       have hiz : ¬ (i : Int) < (l01.length : Int) := by omega
       obtain rfl : i = l01.length := by omega
       rw [List.take_length] at HU1 HU2
       have cu0 : wr.cell? ⟨wo.heap.size, 0, none⟩ = some vu := (blk_cell HU1.out.cell 0).trans rfl
       have cu1 : wr.cell? ⟨wo.heap.size, 1, none⟩ = some (.int .i64 0) := (blk_cell HU1.out.cell 1).trans rfl
       have cd0 : wr.cell? ⟨wo.heap.size + 1, 0, none⟩ = some vd := (blk_cell HU2.out.cell 0).trans rfl
       have cd1 : wr.cell? ⟨wo.heap.size + 1, 1, none⟩ = some (.int .i64 0) := (blk_cell HU2.out.cell 1).trans rfl
       have HL1 : Sd (k168.R 168 wr w.heap.size (fun _ => True) u7 (headL l01 l02 l03 a06 fm.length)) := ⟨Kd.R_mono HA.out.list (fun _ _ => trivial)⟩
       have Hv1 : Sd ((Kd.int .i64).R 3 wr w.heap.size (fun _ => True) vu (List.map (rUp a05) l01)) := ⟨Kd.R_mono HU1.out.row (fun _ _ => trivial)⟩
       have Hv2 : Sd ((Kd.int .i64).R 3 wr w.heap.size (fun _ => True) vd (List.map (rDn a04) l01)) := ⟨Kd.R_mono HU2.out.row (fun _ _ => trivial)⟩
       have HSZ := Sd.mk (show 1 + 2 * fm.length + 2 ≤ 100 by have H := HH.out; have := H.slen; have := H.o12; have := H.p6; have := HLF.out; omega)
       go_upto_region 27 with (fail)
       clear kz1 hm12
       go_wp2_with ((with_reducible refine gate_builtin (b := .append) (xs := #[.tmp 173, .tmp 176]) rfl ?_); at_builtin; refine Kd.R_append_rows k168 (w0 := w) w.heap.size rfl (.tmp 173) (.tmp 176) 100 168 (.agg #[.slice none 0 0, .int .i64 0]) 32 rfl Tryz.underlying100 info168 rfl (by decide) (by omega) u7 (headL l01 l02 l03 a06 fm.length) [⟨l01.map (rUp a05), 0⟩, ⟨l01.map (rDn a04), 0⟩] (some ⟨_, 0, none⟩) 2 2 (fun _ => True) (fun k => some k ≠ u7.ownBlock) rfl rfl ?aO ?aR (fun _ _ hp => hp) (fun _ hk => ⟨trivial, hk⟩) ?aF ?aB ?aS ?aL ?_; (case aO => exact Kd.R_alloc HL1.out _); (case aR => exact pair_reads (x := ⟨l01.map (rUp a05), 0⟩) (x' := ⟨l01.map (rDn a04), 0⟩) HL1.out (by rw [headL_len]; omega) Hv1.out Hv2.out (below_size HA.out.below)); (case aB => exact below_alloc HA.out.below _); (case aF => exact (fun _ _ => trivial)); (case aS => exact below_size (below_alloc HA.out.below _)); (case aL => exact (by rw [headL_len]; exact Nat.le_trans (Nat.mul_le_mul_right 32 HSZ.out) (by decide))); intro v5 w5 ho hb hg hat; have HO := Sd.mk ho; have HB5 := Sd.mk hb; clear cu0 cu1 cd0 cd1 ho hb hg hat)
       go_ret
       exact ⟨v5, rfl, by rw [linesV, ← HLF.out]; exact HO.out, HB5.out⟩
end
section
def x_AllLines.f (l00 : List ByteArray) (l01 : List (S70)) (l02 : List (S27)) (l03 : List (S89)) (a04 : Int) (a05 : Int) (a06 : Int) : Option (List S168) :=
  if checkV l00 l01 l02 l03 a04 a05 a06 = 0 then some (linesV l01 l02 l03 a04 a05 a06) else none
theorem x_AllLines.calls (A00 : Option Addr) (c00 : Nat) (l00 : List ByteArray) (A01 : Option Addr) (c01 : Nat) (l01 : List (S70)) (A02 : Option Addr) (c02 : Nat) (l02 : List (S27)) (A03 : Option Addr) (c03 : Nat) (l03 : List (S89)) (a04 : Int) (a05 : Int) (a06 : Int) (r : List S168) (w : World) (hr00 : Kd.C Kd.string w A00 l00.length l00) (hc00 : l00.length ≤ c00) (hr01 : Kd.C k70 w A01 l01.length l01) (hc01 : l01.length ≤ c01) (hr02 : Kd.C k27 w A02 l02.length l02) (hc02 : l02.length ≤ c02) (hr03 : Kd.C k89 w A03 l03.length l03) (hc03 : l03.length ≤ c03) (h : x_AllLines.f l00 l01 l02 l03 a04 a05 a06 = some r) :
    Calls Tryz.prog 55 #[.agg #[.slice A00 l00.length c00, .slice A01 l01.length c01, .slice A02 l02.length c02, .slice A03 l03.length c03, .int .i64 a04, .int .i64 a05, .int .i64 a06]] w fun e w' => ∃ v0_ : Value, e = .returned v0_ ∧ Kd.R k168 168 w' w.heap.size (fun _ => True) v0_ r ∧ Below w.heap.size w w' := by
  unfold x_AllLines.f at h
  by_cases hc : checkV l00 l01 l02 l03 a04 a05 a06 = 0
  · rw [if_pos hc] at h
    obtain rfl := Option.some.inj h
    exact allLines_calls A00 c00 l00 A01 c01 l01 A02 c02 l02 A03 c03 l03 a04 a05 a06 w hr00 hc00 hr01 hc01 hr02 hc02 hr03 hc03 (check_ok hc)
  · rw [if_neg hc] at h; cases h
end
section
def rf_Total.l0 : Nat → List Int → Int → Int → List Int → Int → Option (Int)
 | 0, _, _, _, _, _ => none
 | k + 1, x1, x5, x6, x274q0, x274q1 => if x6 < (x1.length : Int) then (if 0 ≤ x6 then (if x6 < (x274q0.length : Int) then (rf_Total.l0 k x1 (wrap64 (x5 + (wrap64 ((rd x1 x6) * (rd x274q0 x6))))) (wrap64 (x6 + 1)) x274q0 x274q1) else (none)) else (none)) else (some x5)
def rf_Total.f (k : Nat) (l00 : List Int) (a01 : Int) (l1 : List Int) : Option (Int) := rf_Total.l0 k l1 0 0 l00 a01
theorem rf_Total.calls (k : Nat) (A00 : Option Addr) (c00 : Nat) (l00 : List Int) (a01 : Int) (A1 : Option Addr) (c1 : Nat) (l1 : List Int) (r : Int) (w : World) (hr00 : Kd.C (Kd.int .i64) w A00 l00.length l00) (hc00 : l00.length ≤ c00) (hr1 : Kd.C (Kd.int .i64) w A1 l1.length l1) (hc1 : l1.length ≤ c1) (h : rf_Total.f k l00 a01 l1 = some r) :
  Calls Tryz.prog 149 #[.agg #[.slice A00 l00.length c00, .int .i64 a01], .slice A1 l1.length c1] w fun e w' => e = .returned (.int .i64 r) ∧ Below w.heap.size w w' := by
 have hu168 := Tryz.underlying168; have HR00 := Sd.mk hr00; have HC00 := Sd.mk hc00; clear hr00 hc00; have HR1 := Sd.mk hr1; have HC1 := Sd.mk hc1; clear hr1 hc1; have HB := Sd.mk (Below.refl w.heap.size w)
 have H : (rf_Total.l0 k l1 0 0 l00 a01) = some r := h
 clear h; have H' := Sd.mk H; clear H
 go_enter Tryz.func149, Tryz.ntmps149
 go_wp2_with (first | ((with_reducible refine gate_dst (N := 2) rfl ?_); refine box_event ?hg (N := 2) ?hd (cs := #[.slice A00 l00.length c00, .int .i64 a01]) (t := 168) ?hr ?_; (case hd => rfl); (case hg => rfl); (case hr => exact tG); intro gb273 hg w3 hbox hb; have BK273 := Sd.mk (hbox); have GW273 := Sd.mk (bSz hg (bBl HB.out)); have GE273 := Sd.mk (bSz hg (bBl HB.out)); replace HB := Sd.mk (below_step (bBl HB.out) hb); clear hb hbox hg))
 repeat (go_quiet (first | ((with_reducible refine gate_dst (N := 2) rfl ?_); refine box_event ?hg (N := 2) ?hd (cs := #[.slice A00 l00.length c00, .int .i64 a01]) (t := 168) ?hr ?_; (case hd => rfl); (case hg => rfl); (case hr => exact tG); intro gb273 hg w3 hbox hb; have BK273 := Sd.mk (hbox); have GW273 := Sd.mk (bSz hg (bBl HB.out)); have GE273 := Sd.mk (bSz hg (bBl HB.out)); replace HB := Sd.mk (below_step (bBl HB.out) hb); clear hb hbox hg)); try go_wp2_with (first | ((with_reducible refine gate_dst (N := 2) rfl ?_); refine box_event ?hg (N := 2) ?hd (cs := #[.slice A00 l00.length c00, .int .i64 a01]) (t := 168) ?hr ?_; (case hd => rfl); (case hg => rfl); (case hr => exact tG); intro gb273 hg w3 hbox hb; have BK273 := Sd.mk (hbox); have GW273 := Sd.mk (bSz hg (bBl HB.out)); have GE273 := Sd.mk (bSz hg (bBl HB.out)); replace HB := Sd.mk (below_step (bBl HB.out) hb); clear hb hbox hg)))
 go_loopg [5, 6] k (fun kq v5 v6 w' => ∃ (x51 : Int) (x61 : Int), v5 = .int .i64 x51 ∧ v6 = .int .i64 x61 ∧ Sd (rf_Total.l0 kq l1 x51 x61 l00 a01 = some r) ∧ Sd (kq ≤ k) ∧ Sd (w'.heap[gb273]? = some (.cells #[(.slice A00 l00.length c00), .int .i64 a01] 168 (0, 0))) ∧ Sd (Below w.heap.size w w'))
 case atStart => exact ⟨(0), (0), tS, tS, H', ⟨Nat.le_refl _⟩, ⟨bkA BK273.out⟩, ⟨bBl HB.out⟩⟩
 case round =>
  clear H'; (try clear c1); (try clear p2); obtain ⟨x51, x61, rfl, rfl, HA, HK1, BK273, HB⟩ := hrel
  cases gk with
  | zero => exact absurd HA.out (by simp [rf_Total.l0])
  | succ k1 =>
   have H := HA.out; clear HA
   simp only [rf_Total.l0] at H
   by_cases c4 : x61 < (l1.length : Int)
   ·rw [if_pos c4] at H
    have c4b0 : decide (x61 < (l1.length : Int)) = true := decide_eq_true c4
    clear c4
    by_cases c5 : 0 ≤ x61
    ·rw [if_pos c5] at H
     have c5b0 : decide (0 ≤ x61) = true := decide_eq_true c5
     clear c5
     by_cases c6 : x61 < (l00.length : Int)
     ·rw [if_pos c6] at H
      have c6b0 : decide (x61 < (l00.length : Int)) = true := decide_eq_true c6
      clear c6; have H' := Sd.mk H; clear H
      have p274 : 0 ≤ (x61 : Int) := tB
      have q274 : x61 < (l1.length : Int) := tB
      obtain ⟨ad274, e274, hx2740⟩ := Kd.at_int HR1.out x61 p274 q274; cases e274; replace hx2740 := cU HB hx2740; replace p274 := eq_true p274; replace q274 := eq_true q274; obtain ⟨u7_0, u7_1, o70, o71⟩ := bc2 (w := wr) BK273.out
      have p275 : 0 ≤ (x61 : Int) := tB
      have q275 : x61 < (l00.length : Int) := tB
      obtain ⟨ad275, e275, hx2750⟩ := Kd.at_int HR00.out x61 p275 q275; cases e275; replace hx2750 := cU HB hx2750; replace p275 := eq_true p275; replace q275 := eq_true q275
      go_wp2
      repeat (go_quiet (fail); try go_wp2)
      go_roundg k1
      case measure => have := HK1.out; omega
      case rel => exact ⟨(wrap64 (x51 + (wrap64 ((rd l1 x61) * (rd l00 x61))))), (wrap64 (x61 + 1)), tS, tS, H', ⟨by have := HK1.out; omega⟩, ⟨bkA BK273.out⟩, ⟨bBl HB.out⟩⟩
     ·rw [if_neg c6] at H
      exact absurd H (by simp)
    ·rw [if_neg c5] at H
     exact absurd H (by simp)
   ·rw [if_neg c4] at H
    have c4b0 : decide (x61 < (l1.length : Int)) = false := decide_eq_false c4
    clear c4; obtain rfl := Option.some.inj H
    go_wp2
    repeat (go_quiet (fail); try go_wp2)
    go_ret
    exact ⟨tE, bBl HB.out⟩
end
section
def rf_Keeps.l0 : Nat → List (S168) → List Int → Int → Int → Option (Bool)
 | 0, _, _, _, _ => none
 | k + 1, x0, x1, x2, x7 => if x7 < (x0.length : Int) then (if 0 ≤ x7 then ((rf_Total.f k ((rd_T168 x0 x7).f0) ((rd_T168 x0 x7).f1) x1).bind fun t277 => (if t277 > (wrap64 (x2 * ((rd_T168 x0 x7).f1))) then (some false) else (rf_Keeps.l0 k x0 x1 x2 (wrap64 (x7 + 1))))) else (none)) else (some true)
def rf_Keeps.f (k : Nat) (l0 : List (S168)) (l1 : List Int) (a2 : Int) : Option (Bool) := rf_Keeps.l0 k l0 l1 a2 0
def rf_Keeps.T4 : Bool × List (List Nat × List Nat) := (true, [([], []), ([], []), ([0, 1], [0, 1]), ([2], [2]), ([], []), ([3, 4], [3, 4]), ([], []), ([], []), ([], []), ([7, 8], [7, 8]), ([9], [9]), ([10], [10]), ([6, 11], [6, 11]), ([5, 12], [5, 12])])
def rf_Keeps.B4 : List Nat := [0, 0, 3, 7, 0, 31, 0, 0, 0, 384, 896, 1920, 4032, 8191]
theorem rf_Keeps.tab4 : rtab .any (opsOf Tryz.f54 4) = rf_Keeps.T4 := by kernel_rfl
theorem rf_Keeps.bits4 : waitsOk rf_Keeps.T4.2 rf_Keeps.B4 = true := by kernel_rfl
theorem rf_Keeps.calls (k : Nat) (A0 : Option Addr) (c0 : Nat) (l0 : List (S168)) (A1 : Option Addr) (c1 : Nat) (l1 : List Int) (a2 : Int) (r : Bool) (w : World) (hr0 : Kd.C k168 w A0 l0.length l0) (hc0 : l0.length ≤ c0) (hr1 : Kd.C (Kd.int .i64) w A1 l1.length l1) (hc1 : l1.length ≤ c1) (h : rf_Keeps.f k l0 l1 a2 = some r) :
  Calls Tryz.prog 54 #[.slice A0 l0.length c0, .slice A1 l1.length c1, .int .i64 a2] w fun e w' => e = .returned (.bool r) ∧ Below w.heap.size w w' := by
 have hu168 := Tryz.underlying168; have HR0 := Sd.mk hr0; have HC0 := Sd.mk hc0; clear hr0 hc0; have HR1 := Sd.mk hr1; have HC1 := Sd.mk hc1; clear hr1 hc1; have HB := Sd.mk (Below.refl w.heap.size w)
 have H : (rf_Keeps.l0 k l0 l1 a2 0) = some r := h
 clear h; have H' := Sd.mk H; clear H
 go_enter Tryz.func54, Tryz.ntmps54
 go_wp2
 go_loopg [7] k (fun kq v7 w' => ∃ (x71 : Int), v7 = .int .i64 x71 ∧ Sd (rf_Keeps.l0 kq l0 l1 a2 x71 = some r) ∧ Sd (kq ≤ k) ∧ Sd (Below w.heap.size w w'))
 case atStart => exact ⟨(0), tS, H', ⟨Nat.le_refl _⟩, ⟨bBl HB.out⟩⟩
 case round =>
  clear H'; (try clear c1); (try clear p2); obtain ⟨x71, rfl, HA, HK1, HB⟩ := hrel
  cases gk with
  | zero => exact absurd HA.out (by simp [rf_Keeps.l0])
  | succ k1 =>
   have H := HA.out; clear HA
   simp only [rf_Keeps.l0] at H
   by_cases c4 : x71 < (l0.length : Int)
   ·rw [if_pos c4] at H
    have c4b0 : decide (x71 < (l0.length : Int)) = true := decide_eq_true c4
    clear c4
    by_cases c5 : 0 ≤ x71
    ·rw [if_pos c5] at H
     have c5b0 : decide (0 ≤ x71) = true := decide_eq_true c5
     clear c5; replace H := Option.bind_eq_some_iff.mp H; obtain ⟨t277, A60, H⟩ := H
     try dsimp only at H
     have A6 := Sd.mk A60; clear A60
     by_cases c7 : t277 > (wrap64 (a2 * ((rd_T168 l0 x71).f1)))
     ·rw [if_pos c7] at H
      have c7b0 : decide ((wrap64 (a2 * ((rd_T168 l0 x71).f1))) < t277) = true := decide_eq_true c7
      clear c7; obtain rfl := Option.some.inj H
      try go_wp2
      replace HB := Sd.mk (below_drew1 HB.out)
      have p276 : 0 ≤ (x71 : Int) := tB
      have q276 : x71 < (l0.length : Int) := tB
      obtain ⟨ad276, A2760, c2760, e276, hx2760, hx2761, hl2760, hi2760⟩ := at_T168 HR0.out x71 p276 q276; have hw2761 := hx2761; have hw2760 := hx2760; cases e276; replace hx2760 := cU HB hx2760; replace hx2761 := cU HB hx2761; have HR2760 := Sd.mk hi2760; have HC2760 := Sd.mk hl2760; clear hi2760 hl2760; replace p276 := eq_true p276; replace q276 := eq_true q276
      have p278 : 0 ≤ (x71 : Int) := tB
      have q278 : x71 < (l0.length : Int) := tB
      obtain ⟨ad278, A2780, c2780, e278, hx2780, hx2781, hl2780, hi2780⟩ := at_T168 HR0.out x71 p278 q278; have hw2781 := hx2781; have hw2780 := hx2780
      obtain rfl : ad276 = ad278 := (by injection e278)
      replace hx2780 := cU HB hx2780; replace hx2781 := cU HB hx2781; have HR2780 := Sd.mk hi2780; have HC2780 := Sd.mk hl2780; clear hi2780 hl2780; replace p278 := eq_true p278; replace q278 := eq_true q278; have ea_ := Option.some.inj (hx2760.symm.trans hx2780)
      injection ea_ with ea_ en_ ec_
      subst ea_; subst ec_; clear en_
      refine start_ (n := 14) (S := fun w' => w'.cell? (ad276.add ((x71).toNat * 2)) = some (.slice A2760 ((rd_T168 l0 x71).f0).length c2760) ∧ w'.cell? ⟨(ad276.add ((x71).toNat * 2)).block, (ad276.add ((x71).toNat * 2)).off + 1, none⟩ = some (.int .i64 ((rd_T168 l0 x71).f1)) ∧ w'.cell? (ad276.add ((x71).toNat * 2)) = some (.slice A2760 ((rd_T168 l0 x71).f0).length c2760) ∧ w'.cell? ⟨(ad276.add ((x71).toNat * 2)).block, (ad276.add ((x71).toNat * 2)).off + 1, none⟩ = some (.int .i64 ((rd_T168 l0 x71).f1))) (ds := []) (bA 14 0) (by kernel_rfl) rfl rfl ⟨(cU HB hw2760), (cU HB hw2761), (cU HB hw2780), (cU HB hw2781)⟩ (fun hHeld => ?_); refine with_tabW rf_Keeps.tab4 rf_Keeps.bits4 (fun HT_ HW_ => ?_)
      generalize wr.drew = w8 at HB HR2760 HR2780 hx2760 hx2761 hx2780 hx2781 hHeld ⊢
      refine pQ 0 (some 14) (bA 14 1) ?_
      refine pQ 1 (some 15) (bA 14 3) ?_
      refine pQ 2 (some 16) (bA 14 7) ?_
      refine pQ 4 (some 18) (bA 14 23) ?_
      refine pQ 6 (some 20) (bA 14 87) ?_
      refine pQ 7 (some 21) (bA 14 215) ?_
      refine pQ 8 (some 22) (bA 14 471) ?_
      refine pQ 9 (some 23) (bA 14 983) ?_
      refine pQ 10 (some 24) (bA 14 2007) ?_
      refine tQ 3 (some 17) (bA 14 2015) ?_
      refine tQ 11 (some 25) (bA 14 4063) ?_
      refine pQ 12 (some 26) (bA 14 8159) ?_
      refine one_ (i := 5) (N := some 19) (bA 14 8191) rfl rfl (one_of HT_.out (by kernel_rfl)) (by decide) (fun K hK => ?_)
      refine goes_ Tryz.func149 (by kernel_rfl) rfl #[.agg #[.slice A2760 ((rd_T168 l0 x71).f0).length c2760, .int .i64 ((rd_T168 l0 x71).f1)], .slice A1 l1.length c1] (by rfl) rfl rfl tM ?_
      with_reducible refine (rf_Total.calls k1 _ _ ((rd_T168 l0 x71).f0) ((rd_T168 l0 x71).f1) _ _ l1 t277 _ ?side1 ?side2 ?side3 ?side4 A6.out).mono ?_
      (case side1 => exact cS (Kd.C_below HR2760.out HB.out))
      (case side2 => exact HC2760.out)
      (case side3 => exact cS (Kd.C_below HR1.out HB.out))
      (case side4 => exact HC1.out)
      rintro e w9 ⟨rfl, hb⟩
      refine ⟨_, rfl, ?_⟩
      replace HB := Sd.mk (below_step (bBl HB.out) hb)
      (try clear hb)
      (try clear hb2)
      (try clear hk)
      (try clear hi)
      refine hK.out _ _ ⟨(cU HB hw2760), (cU HB hw2761), (cU HB hw2780), (cU HB hw2781)⟩ (fun hHeld => ?_)
      clear hK K
      refine norm_ (a' := ?_) ?_ ?_
      rotate_left
      ·show Act.put _ (some 19) _ = _
       exact tP
      refine pQ 13 (some 27) (bA 14 16383) ?_
      refine done_ (done_of HT_.out (by kernel_rfl)) ?_
      try go_wp2
      go_ret
      exact ⟨tE, bBl HB.out⟩
     ·rw [if_neg c7] at H
      have c7b0 : decide ((wrap64 (a2 * ((rd_T168 l0 x71).f1))) < t277) = false := decide_eq_false c7
      clear c7; have H' := Sd.mk H; clear H
      try go_wp2
      replace HB := Sd.mk (below_drew1 HB.out)
      have p276 : 0 ≤ (x71 : Int) := tB
      have q276 : x71 < (l0.length : Int) := tB
      obtain ⟨ad276, A2760, c2760, e276, hx2760, hx2761, hl2760, hi2760⟩ := at_T168 HR0.out x71 p276 q276; have hw2761 := hx2761; have hw2760 := hx2760; cases e276; replace hx2760 := cU HB hx2760; replace hx2761 := cU HB hx2761; have HR2760 := Sd.mk hi2760; have HC2760 := Sd.mk hl2760; clear hi2760 hl2760; replace p276 := eq_true p276; replace q276 := eq_true q276
      have p278 : 0 ≤ (x71 : Int) := tB
      have q278 : x71 < (l0.length : Int) := tB
      obtain ⟨ad278, A2780, c2780, e278, hx2780, hx2781, hl2780, hi2780⟩ := at_T168 HR0.out x71 p278 q278; have hw2781 := hx2781; have hw2780 := hx2780
      obtain rfl : ad276 = ad278 := (by injection e278)
      replace hx2780 := cU HB hx2780; replace hx2781 := cU HB hx2781; have HR2780 := Sd.mk hi2780; have HC2780 := Sd.mk hl2780; clear hi2780 hl2780; replace p278 := eq_true p278; replace q278 := eq_true q278; have ea_ := Option.some.inj (hx2760.symm.trans hx2780)
      injection ea_ with ea_ en_ ec_
      subst ea_; subst ec_; clear en_
      refine start_ (n := 14) (S := fun w' => w'.cell? (ad276.add ((x71).toNat * 2)) = some (.slice A2760 ((rd_T168 l0 x71).f0).length c2760) ∧ w'.cell? ⟨(ad276.add ((x71).toNat * 2)).block, (ad276.add ((x71).toNat * 2)).off + 1, none⟩ = some (.int .i64 ((rd_T168 l0 x71).f1)) ∧ w'.cell? (ad276.add ((x71).toNat * 2)) = some (.slice A2760 ((rd_T168 l0 x71).f0).length c2760) ∧ w'.cell? ⟨(ad276.add ((x71).toNat * 2)).block, (ad276.add ((x71).toNat * 2)).off + 1, none⟩ = some (.int .i64 ((rd_T168 l0 x71).f1))) (ds := []) (bA 14 0) (by kernel_rfl) rfl rfl ⟨(cU HB hw2760), (cU HB hw2761), (cU HB hw2780), (cU HB hw2781)⟩ (fun hHeld => ?_); refine with_tabW rf_Keeps.tab4 rf_Keeps.bits4 (fun HT_ HW_ => ?_)
      generalize wr.drew = w10 at HB HR2760 HR2780 hx2760 hx2761 hx2780 hx2781 hHeld ⊢
      refine pQ 0 (some 14) (bA 14 1) ?_
      refine pQ 1 (some 15) (bA 14 3) ?_
      refine pQ 2 (some 16) (bA 14 7) ?_
      refine pQ 4 (some 18) (bA 14 23) ?_
      refine pQ 6 (some 20) (bA 14 87) ?_
      refine pQ 7 (some 21) (bA 14 215) ?_
      refine pQ 8 (some 22) (bA 14 471) ?_
      refine pQ 9 (some 23) (bA 14 983) ?_
      refine pQ 10 (some 24) (bA 14 2007) ?_
      refine tQ 3 (some 17) (bA 14 2015) ?_
      refine tQ 11 (some 25) (bA 14 4063) ?_
      refine pQ 12 (some 26) (bA 14 8159) ?_
      refine one_ (i := 5) (N := some 19) (bA 14 8191) rfl rfl (one_of HT_.out (by kernel_rfl)) (by decide) (fun K hK => ?_)
      refine goes_ Tryz.func149 (by kernel_rfl) rfl #[.agg #[.slice A2760 ((rd_T168 l0 x71).f0).length c2760, .int .i64 ((rd_T168 l0 x71).f1)], .slice A1 l1.length c1] (by rfl) rfl rfl tM ?_
      with_reducible refine (rf_Total.calls k1 _ _ ((rd_T168 l0 x71).f0) ((rd_T168 l0 x71).f1) _ _ l1 t277 _ ?side1 ?side2 ?side3 ?side4 A6.out).mono ?_
      (case side1 => exact cS (Kd.C_below HR2760.out HB.out))
      (case side2 => exact HC2760.out)
      (case side3 => exact cS (Kd.C_below HR1.out HB.out))
      (case side4 => exact HC1.out)
      rintro e w11 ⟨rfl, hb⟩
      refine ⟨_, rfl, ?_⟩
      replace HB := Sd.mk (below_step (bBl HB.out) hb)
      (try clear hb)
      (try clear hb2)
      (try clear hk)
      (try clear hi)
      refine hK.out _ _ ⟨(cU HB hw2760), (cU HB hw2761), (cU HB hw2780), (cU HB hw2781)⟩ (fun hHeld => ?_)
      clear hK K
      refine norm_ (a' := ?_) ?_ ?_
      rotate_left
      ·show Act.put _ (some 19) _ = _
       exact tP
      refine pQ 13 (some 27) (bA 14 16383) ?_
      refine done_ (done_of HT_.out (by kernel_rfl)) ?_
      try go_wp2
      go_roundg k1
      case measure => have := HK1.out; omega
      case rel => exact ⟨(wrap64 (x71 + 1)), tS, H', ⟨by have := HK1.out; omega⟩, ⟨bBl HB.out⟩⟩
    ·rw [if_neg c5] at H
     exact absurd H (by simp)
   ·rw [if_neg c4] at H
    have c4b0 : decide (x71 < (l0.length : Int)) = false := decide_eq_false c4
    clear c4; obtain rfl := Option.some.inj H
    go_wp2
    go_ret
    exact ⟨tE, bBl HB.out⟩
end
section
end
section
end
section
end
section
end
section
def rf_cost.l0 : Nat → List Int → Int → Int → List ByteArray → List (S70) → List (S27) → List (S89) → Int → Int → Int → Option (Int)
 | 0, _, _, _, _, _, _, _, _, _, _ => none
 | k + 1, x1, x5, x6, x316q0, x316q1, x316q2, x316q3, x316q4, x316q5, x316q6 => if x6 < (x1.length : Int) then (if 0 ≤ x6 then (if x6 < (x316q1.length : Int) then (rf_cost.l0 k x1 (wrap64 (x5 + (wrap64 ((rd x1 x6) * ((rd_T70 x316q1 x6).f1))))) (wrap64 (x6 + 1)) x316q0 x316q1 x316q2 x316q3 x316q4 x316q5 x316q6) else (none)) else (none)) else (some x5)
def rf_cost.f (k : Nat) (l00 : List ByteArray) (l01 : List (S70)) (l02 : List (S27)) (l03 : List (S89)) (a04 : Int) (a05 : Int) (a06 : Int) (l1 : List Int) : Option (Int) := rf_cost.l0 k l1 0 0 l00 l01 l02 l03 a04 a05 a06
theorem rf_cost.calls (k : Nat) (A00 : Option Addr) (c00 : Nat) (l00 : List ByteArray) (A01 : Option Addr) (c01 : Nat) (l01 : List (S70)) (A02 : Option Addr) (c02 : Nat) (l02 : List (S27)) (A03 : Option Addr) (c03 : Nat) (l03 : List (S89)) (a04 : Int) (a05 : Int) (a06 : Int) (A1 : Option Addr) (c1 : Nat) (l1 : List Int) (r : Int) (w : World) (hr00 : Kd.C Kd.string w A00 l00.length l00) (hc00 : l00.length ≤ c00) (hr01 : Kd.C k70 w A01 l01.length l01) (hc01 : l01.length ≤ c01) (hr02 : Kd.C k27 w A02 l02.length l02) (hc02 : l02.length ≤ c02) (hr03 : Kd.C k89 w A03 l03.length l03) (hc03 : l03.length ≤ c03) (hr1 : Kd.C (Kd.int .i64) w A1 l1.length l1) (hc1 : l1.length ≤ c1) (h : rf_cost.f k l00 l01 l02 l03 a04 a05 a06 l1 = some r) :
  Calls Tryz.prog 59 #[.agg #[.slice A00 l00.length c00, .slice A01 l01.length c01, .slice A02 l02.length c02, .slice A03 l03.length c03, .int .i64 a04, .int .i64 a05, .int .i64 a06], .slice A1 l1.length c1] w fun e w' => e = .returned (.int .i64 r) ∧ Below w.heap.size w w' := by
 have hu29 := Tryz.underlying29; have HR00 := Sd.mk hr00; have HC00 := Sd.mk hc00; clear hr00 hc00; have HR01 := Sd.mk hr01; have HC01 := Sd.mk hc01; clear hr01 hc01; have HR02 := Sd.mk hr02; have HC02 := Sd.mk hc02; clear hr02 hc02; have HR03 := Sd.mk hr03; have HC03 := Sd.mk hc03; clear hr03 hc03; have HR1 := Sd.mk hr1; have HC1 := Sd.mk hc1; clear hr1 hc1; have HB := Sd.mk (Below.refl w.heap.size w)
 have H : (rf_cost.l0 k l1 0 0 l00 l01 l02 l03 a04 a05 a06) = some r := h
 clear h; have H' := Sd.mk H; clear H
 go_enter Tryz.func59, Tryz.ntmps59
 go_wp2_with (first | ((with_reducible refine gate_dst (N := 2) rfl ?_); refine box_event ?hg (N := 2) ?hd (cs := #[.slice A00 l00.length c00, .slice A01 l01.length c01, .slice A02 l02.length c02, .slice A03 l03.length c03, .int .i64 a04, .int .i64 a05, .int .i64 a06]) (t := 29) ?hr ?_; (case hd => rfl); (case hg => rfl); (case hr => exact tG); intro gb315 hg w3 hbox hb; have BK315 := Sd.mk (hbox); have GW315 := Sd.mk (bSz hg (bBl HB.out)); have GE315 := Sd.mk (bSz hg (bBl HB.out)); replace HB := Sd.mk (below_step (bBl HB.out) hb); clear hb hbox hg))
 repeat (go_quiet (first | ((with_reducible refine gate_dst (N := 2) rfl ?_); refine box_event ?hg (N := 2) ?hd (cs := #[.slice A00 l00.length c00, .slice A01 l01.length c01, .slice A02 l02.length c02, .slice A03 l03.length c03, .int .i64 a04, .int .i64 a05, .int .i64 a06]) (t := 29) ?hr ?_; (case hd => rfl); (case hg => rfl); (case hr => exact tG); intro gb315 hg w3 hbox hb; have BK315 := Sd.mk (hbox); have GW315 := Sd.mk (bSz hg (bBl HB.out)); have GE315 := Sd.mk (bSz hg (bBl HB.out)); replace HB := Sd.mk (below_step (bBl HB.out) hb); clear hb hbox hg)); try go_wp2_with (first | ((with_reducible refine gate_dst (N := 2) rfl ?_); refine box_event ?hg (N := 2) ?hd (cs := #[.slice A00 l00.length c00, .slice A01 l01.length c01, .slice A02 l02.length c02, .slice A03 l03.length c03, .int .i64 a04, .int .i64 a05, .int .i64 a06]) (t := 29) ?hr ?_; (case hd => rfl); (case hg => rfl); (case hr => exact tG); intro gb315 hg w3 hbox hb; have BK315 := Sd.mk (hbox); have GW315 := Sd.mk (bSz hg (bBl HB.out)); have GE315 := Sd.mk (bSz hg (bBl HB.out)); replace HB := Sd.mk (below_step (bBl HB.out) hb); clear hb hbox hg)))
 go_loopg [5, 6] k (fun kq v5 v6 w' => ∃ (x51 : Int) (x61 : Int), v5 = .int .i64 x51 ∧ v6 = .int .i64 x61 ∧ Sd (rf_cost.l0 kq l1 x51 x61 l00 l01 l02 l03 a04 a05 a06 = some r) ∧ Sd (kq ≤ k) ∧ Sd (w'.heap[gb315]? = some (.cells #[(.slice A00 l00.length c00), (.slice A01 l01.length c01), (.slice A02 l02.length c02), (.slice A03 l03.length c03), .int .i64 a04, .int .i64 a05, .int .i64 a06] 29 (0, 0))) ∧ Sd (Below w.heap.size w w'))
 case atStart => exact ⟨(0), (0), tS, tS, H', ⟨Nat.le_refl _⟩, ⟨bkA BK315.out⟩, ⟨bBl HB.out⟩⟩
 case round =>
  clear H'; (try clear c1); (try clear p2); obtain ⟨x51, x61, rfl, rfl, HA, HK1, BK315, HB⟩ := hrel
  cases gk with
  | zero => exact absurd HA.out (by simp [rf_cost.l0])
  | succ k1 =>
   have H := HA.out; clear HA
   simp only [rf_cost.l0] at H
   by_cases c4 : x61 < (l1.length : Int)
   ·rw [if_pos c4] at H
    have c4b0 : decide (x61 < (l1.length : Int)) = true := decide_eq_true c4
    clear c4
    by_cases c5 : 0 ≤ x61
    ·rw [if_pos c5] at H
     have c5b0 : decide (0 ≤ x61) = true := decide_eq_true c5
     clear c5
     by_cases c6 : x61 < (l01.length : Int)
     ·rw [if_pos c6] at H
      have c6b0 : decide (x61 < (l01.length : Int)) = true := decide_eq_true c6
      clear c6; have H' := Sd.mk H; clear H
      have p316 : 0 ≤ (x61 : Int) := tB
      have q316 : x61 < (l1.length : Int) := tB
      obtain ⟨ad316, e316, hx3160⟩ := Kd.at_int HR1.out x61 p316 q316; cases e316; replace hx3160 := cU HB hx3160; replace p316 := eq_true p316; replace q316 := eq_true q316; obtain ⟨u7_0, u7_1, u7_2, u7_3, u7_4, u7_5, u7_6, o70, o71, o72, o73, o74, o75, o76⟩ := bc7 (w := wr) BK315.out
      have p317 : 0 ≤ (x61 : Int) := tB
      have q317 : x61 < (l01.length : Int) := tB
      obtain ⟨ad317, A3176, c3176, e317, hx3170, hx3171, hx3172, hx3173, hx3174, hx3175, hx3176, hl3176, hi3176⟩ := at_T70 HR01.out x61 p317 q317; cases e317; replace hx3170 := cU HB hx3170; replace hx3171 := cU HB hx3171; replace hx3172 := cU HB hx3172; replace hx3173 := cU HB hx3173; replace hx3174 := cU HB hx3174; replace hx3175 := cU HB hx3175; replace hx3176 := cU HB hx3176; have HR3176 := Sd.mk hi3176; have HC3176 := Sd.mk hl3176; clear hi3176 hl3176; replace p317 := eq_true p317; replace q317 := eq_true q317
      go_wp2
      repeat (go_quiet (fail); try go_wp2)
      go_roundg k1
      case measure => have := HK1.out; omega
      case rel => exact ⟨(wrap64 (x51 + (wrap64 ((rd l1 x61) * ((rd_T70 l01 x61).f1))))), (wrap64 (x61 + 1)), tS, tS, H', ⟨by have := HK1.out; omega⟩, ⟨bkA BK315.out⟩, ⟨bBl HB.out⟩⟩
     ·rw [if_neg c6] at H
      exact absurd H (by simp)
    ·rw [if_neg c5] at H
     exact absurd H (by simp)
   ·rw [if_neg c4] at H
    have c4b0 : decide (x61 < (l1.length : Int)) = false := decide_eq_false c4
    clear c4; obtain rfl := Option.some.inj H
    go_wp2
    repeat (go_quiet (fail); try go_wp2)
    go_ret
    exact ⟨tE, bBl HB.out⟩
end
section
end
section
end
section
def lw_SameInts.l0 : Nat → List Int → List Int → Int → Option (Bool)
 | 0, _, _, _ => none
 | k + 1, x0, x1, x5 => if x5 < (x0.length : Int) then (if 0 ≤ x5 then (if x5 < (x1.length : Int) then (if (rd x0 x5) = (rd x1 x5) then (lw_SameInts.l0 k x0 x1 (wrap64 (x5 + 1))) else (some false)) else (none)) else (none)) else (some true)
def lw_SameInts.f (k : Nat) (l0 : List Int) (l1 : List Int) : Option (Bool) := if (l0.length : Int) = (l1.length : Int) then (lw_SameInts.l0 k l0 l1 0) else (some false)
theorem lw_SameInts.calls (k : Nat) (A0 : Option Addr) (c0 : Nat) (l0 : List Int) (A1 : Option Addr) (c1 : Nat) (l1 : List Int) (r : Bool) (w : World) (hr0 : Kd.C (Kd.int .i64) w A0 l0.length l0) (hc0 : l0.length ≤ c0) (hr1 : Kd.C (Kd.int .i64) w A1 l1.length l1) (hc1 : l1.length ≤ c1) (h : lw_SameInts.f k l0 l1 = some r) :
  Calls Tryz.prog 30 #[.slice A0 l0.length c0, .slice A1 l1.length c1] w fun e w' => e = .returned (.bool r) ∧ Drawn0 w w' := by
 have HR0 := Sd.mk hr0; have HC0 := Sd.mk hc0; clear hr0 hc0; have HR1 := Sd.mk hr1; have HC1 := Sd.mk hc1; clear hr1 hc1
 have H : (if (l0.length : Int) = (l1.length : Int) then (lw_SameInts.l0 k l0 l1 0) else (some false)) = some r := h
 clear h
 by_cases c3 : (l0.length : Int) = (l1.length : Int)
 ·rw [if_pos c3] at H
  have c3b0 : ((l0.length : Int) == (l1.length : Int)) = true := beq_iff_eq.mpr c3
  have c3b1 : ((l0.length : Int) != (l1.length : Int)) = false := bne_eq_false_iff_eq.mpr c3
  have c3b2 : (l0.length == l1.length) = true := by first | simpa using c3 | (simp at c3 ⊢; omega)
  clear c3; have H' := Sd.mk H; clear H
  go_enter Tryz.func30, Tryz.ntmps30
  go_wp2
  repeat (go_quiet (fail); try go_wp2)
  go_loopg [5] k (fun kq v5 w' => ∃ (x51 : Int), v5 = .int .i64 x51 ∧ Sd (lw_SameInts.l0 kq l0 l1 x51 = some r) ∧ Sd (kq ≤ k) ∧ Drawn0 w w')
  case atStart => exact ⟨(0), tS, H', ⟨Nat.le_refl _⟩, by repeat (first | exact Drawn0.refl _ | apply Drawn0.step)⟩
  case round =>
   clear H'; (try clear c1); (try clear p2); (try clear c3); (try clear c3b0); (try clear c3b1); (try clear c3b2)
   obtain ⟨x51, rfl, HA, HK1, ⟨m1, rfl⟩⟩ := hrel
   cases gk with
   | zero => exact absurd HA.out (by simp [lw_SameInts.l0])
   | succ k1 =>
    have H := HA.out; clear HA
    simp only [lw_SameInts.l0] at H
    by_cases c4 : x51 < (l0.length : Int)
    ·rw [if_pos c4] at H
     have c4b0 : decide (x51 < (l0.length : Int)) = true := decide_eq_true c4
     clear c4
     by_cases c5 : 0 ≤ x51
     ·rw [if_pos c5] at H
      have c5b0 : decide (0 ≤ x51) = true := decide_eq_true c5
      clear c5
      by_cases c6 : x51 < (l1.length : Int)
      ·rw [if_pos c6] at H
       have c6b0 : decide (x51 < (l1.length : Int)) = true := decide_eq_true c6
       clear c6
       by_cases c7 : (rd l0 x51) = (rd l1 x51)
       ·rw [if_pos c7] at H
        have c7b0 : ((rd l0 x51) == (rd l1 x51)) = true := beq_iff_eq.mpr c7
        have c7b1 : ((rd l0 x51) != (rd l1 x51)) = false := bne_eq_false_iff_eq.mpr c7
        clear c7; have H' := Sd.mk H; clear H
        have p900 : 0 ≤ (x51 : Int) := tB
        have q900 : x51 < (l0.length : Int) := tB
        obtain ⟨ad900, e900, hx9000⟩ := Kd.at_int HR0.out x51 p900 q900; cases e900; replace p900 := eq_true p900; replace q900 := eq_true q900
        have p901 : 0 ≤ (x51 : Int) := tB
        have q901 : x51 < (l1.length : Int) := tB
        obtain ⟨ad901, e901, hx9010⟩ := Kd.at_int HR1.out x51 p901 q901; cases e901; replace p901 := eq_true p901; replace q901 := eq_true q901
        go_wp2
        repeat (go_quiet (fail); try go_wp2)
        go_roundg k1
        case measure => have := HK1.out; omega
        case rel => exact ⟨(wrap64 (x51 + 1)), tS, H', ⟨by have := HK1.out; omega⟩, by repeat (first | exact Drawn0.refl _ | apply Drawn0.step)⟩
       ·rw [if_neg c7] at H
        have c7b0 : ((rd l0 x51) == (rd l1 x51)) = false := beq_eq_false_iff_ne.mpr c7
        have c7b1 : ((rd l0 x51) != (rd l1 x51)) = true := bne_iff_ne.mpr c7
        obtain rfl := Option.some.inj H
        have p900 : 0 ≤ (x51 : Int) := tB
        have q900 : x51 < (l0.length : Int) := tB
        obtain ⟨ad900, e900, hx9000⟩ := Kd.at_int HR0.out x51 p900 q900; cases e900; replace p900 := eq_true p900; replace q900 := eq_true q900
        have p901 : 0 ≤ (x51 : Int) := tB
        have q901 : x51 < (l1.length : Int) := tB
        obtain ⟨ad901, e901, hx9010⟩ := Kd.at_int HR1.out x51 p901 q901; cases e901; replace p901 := eq_true p901; replace q901 := eq_true q901
        go_wp2
        repeat (go_quiet (fail); try go_wp2)
        go_ret
        exact ⟨by first | rfl | (simp; done) | (simp [*]; done), by repeat (first | exact Drawn0.refl _ | apply Drawn0.step)⟩
      ·rw [if_neg c6] at H
       exact absurd H (by simp)
     ·rw [if_neg c5] at H
      exact absurd H (by simp)
    ·rw [if_neg c4] at H
     have c4b0 : decide (x51 < (l0.length : Int)) = false := decide_eq_false c4
     clear c4; obtain rfl := Option.some.inj H
     go_wp2
     repeat (go_quiet (fail); try go_wp2)
     go_ret
     exact ⟨by first | rfl | (simp; done) | (simp [*]; done), by repeat (first | exact Drawn0.refl _ | apply Drawn0.step)⟩
 ·rw [if_neg c3] at H
  have c3b0 : ((l0.length : Int) == (l1.length : Int)) = false := beq_eq_false_iff_ne.mpr c3
  have c3b1 : ((l0.length : Int) != (l1.length : Int)) = true := bne_iff_ne.mpr c3
  have c3b2 : (l0.length == l1.length) = false := by first | simpa using c3 | (simp at c3 ⊢; omega)
  obtain rfl := Option.some.inj H
  go_enter Tryz.func30, Tryz.ntmps30
  go_wp2
  repeat (go_quiet (fail); try go_wp2)
  go_ret
  exact ⟨by first | rfl | (simp; done) | (simp [*]; done), by repeat (first | exact Drawn0.refl _ | apply Drawn0.step)⟩
end
section
theorem ints_l0 (l : List Int) (hl : l.length ≤ 1000) : ∀ (m i : Nat), i + m = l.length → Ev (fun k => lw_SameInts.l0 k l l (i : Int)) true
  | 0, i, hi => by
    apply Ev.step
    simp only [lw_SameInts.l0, if_neg (show ¬ (i : Int) < (l.length : Int) by omega)]
    exact Ev.const _
  | m + 1, i, hi => by
    have ih := ints_l0 l hl m (i + 1) (by omega)
    apply Ev.step
    simp only [lw_SameInts.l0, if_pos (show (i : Int) < (l.length : Int) by omega), if_pos (i_pos i), wrap_succ (i_pos i) (show (i : Int) ≤ 1000000000 by omega), if_true]
    exact ih
theorem ints_refl (l : List Int) (hl : l.length ≤ 1000) : Ev (fun k => lw_SameInts.f k l l) true := by
  unfold lw_SameInts.f
  simp only [if_true]
  exact ints_l0 l hl l.length 0 (by omega)
section
variable {o : List ByteArray} {mt : List S70} {s : List S27} {p : List S89} {a4 a5 a6 : Int}
theorem linesV_len : (linesV mt s p a4 a5 a6).length = 1 + 2 * (s.length + p.length) + 2 := by
  simp [linesV, headL_len]
end
section
variable (o : List ByteArray) (mt : List S70) (s : List S27) (p : List S89) (a4 a5 a6 : Int)
end
end
end Go.Proofs.YtljfljekcpdpiaaGreat.PB
