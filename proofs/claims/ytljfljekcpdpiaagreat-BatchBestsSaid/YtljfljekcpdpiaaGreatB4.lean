import Derived.Test.YtljfljekcpdpiaaGreatB3
import Derived.Deep.RegionWith
import Derived.Deep.DeepCutAuto
import Derived.Shelf.Abstract
import Derived.Laws.EntriesVeiled
set_option linter.unusedVariables false
set_option linter.unusedSimpArgs false
set_option maxHeartbeats 8000000
set_option maxRecDepth 1000000
namespace Go.Proofs.YtljfljekcpdpiaaGreat.PB
open Go.RowKit Go.Proofs.YtljfljekcpdpiaaGreatW.PrintWords Go.Proofs.YtljfljekcpdpiaaGreatW.PrintLast Go.Proofs.YtljfljekcpdpiaaGreatW.PrintMore
open Go.Sort (putRow Holds)
section
attribute [local go_sem] max2_int min2_int max_two min_two
theorem swo_cf (cf : Int → Int) : Go.Sort.SWO (ltC fun a b => cf a - cf b) where
  irrefl x := by simp [ltC]
  trans x y z h1 h2 := by simp only [ltC, decide_eq_true_eq] at *; omega
  ntrans x y z h1 h2 := by simp only [ltC, decide_eq_false_iff_not] at *; omega
def iotaA (n : Nat) : Array Int := Array.ofFn fun j : Fin n => (j.val : Int)
theorem iotaA_size (n : Nat) : (iotaA n).size = n := by simp [iotaA]
theorem order_facts (cf : Int → Int) (n : Nat) : Go.Sort.PermIn 0 n (iotaA n) (orderOf cf n) ∧ Go.Sort.SortedIn (ltC fun a b => cf a - cf b) 0 n (orderOf cf n) := by
  have h := Go.Sort.insertionSort_holds (lt := ltC fun a b => cf a - cf b) (swo_cf cf) (iotaA n) 0 n (Nat.zero_le _) (by rw [iotaA_size]; exact Nat.le_refl _)
  exact h
theorem order_size (cf : Int → Int) (n : Nat) : (orderOf cf n).size = n := by rw [(order_facts cf n).1.1, iotaA_size]
theorem order_perm (cf : Int → Int) (n : Nat) : (orderOf cf n).toList.Perm (iotaA n).toList := by
  have h := (order_facts cf n).1.2.2
  have e1 : (orderOf cf n).extract 0 n = orderOf cf n := by
    have := Array.extract_size (xs := orderOf cf n); rwa [order_size] at this
  have e2 : (iotaA n).extract 0 n = iotaA n := by
    have := Array.extract_size (xs := iotaA n); rwa [iotaA_size] at this
  rwa [e1, e2] at h
theorem order_in (cf : Int → Int) (n : Nat) : AllIn n (orderOf cf n) := by
  intro j hj
  have hm : (orderOf cf n)[j]! ∈ (orderOf cf n).toList := by
    rw [getElem!_pos _ j hj]
    exact Array.getElem_mem_toList hj
  have hm2 := (order_perm cf n).mem_iff.1 hm
  generalize (orderOf cf n)[j]! = x at hm2
  simp only [iotaA, Array.toList_ofFn, List.mem_ofFn] at hm2
  obtain ⟨i, rfl⟩ := hm2
  have := i.isLt
  omega
def fillTo (n k : Nat) : Array Int := Array.ofFn fun j : Fin n => if j.val < k then (j.val : Int) else 0
theorem fillTo_size (n k : Nat) : (fillTo n k).size = n := by simp [fillTo]
theorem fillTo_all (n : Nat) : fillTo n n = iotaA n := by
  unfold fillTo iotaA
  congr 1
  funext j
  rw [if_pos j.isLt]
theorem fillTo_get (n k i : Nat) (h : i < (fillTo n k).size) : (fillTo n k)[i] = if i < k then (i : Int) else 0 := by simp [fillTo]
theorem fillTo_step (n k : Nat) (hk : k < n) : (fillTo n k).setIfInBounds k (k : Int) = fillTo n (k + 1) := by
  apply Array.ext
  · rw [Array.size_setIfInBounds, fillTo_size, fillTo_size]
  · intro i h1 h2
    have h3 : i < (fillTo n k).size := by rwa [Array.size_setIfInBounds] at h1
    rw [Array.getElem_setIfInBounds h3, fillTo_get _ _ _ h2, fillTo_get _ _ _ h3]
    by_cases h : k = i
    · rw [if_pos h, if_pos (by omega), h]
    · rw [if_neg h]
      by_cases h4 : i < k
      · rw [if_pos h4, if_pos (by omega)]
      · rw [if_neg h4, if_neg (by omega)]
structure MeanW (w0 W : World) (B9 B10 : Nat) (a b c d : Int) : Prop where
  below : Below w0.heap.size w0 W
  b9 : W.heap[B9]? = some (.cells #[.int .i64 a, .int .i64 b] 190 (0, 0))
  b10 : W.heap[B10]? = some (.cells #[.int .i64 c, .int .i64 d] 190 (0, 0))
theorem MeanW.drewN {w0 W : World} {B9 B10 : Nat} {a b c d : Int} (h : MeanW w0 W B9 B10 a b c d) (n : Nat) : MeanW w0 (W.drewN n) B9 B10 a b c d := ⟨pw_below_drewN h.below n, h.b9, h.b10⟩
theorem MeanW.put9 {w0 W : World} {B9 B10 : Nat} {a b c d : Int} (h : MeanW w0 W B9 B10 a b c d) (h9 : w0.heap.size ≤ B9) (hne : B10 ≠ B9) (a' b' : Int) :
    MeanW w0 ((W.setCell ⟨B9, 0, none⟩ (.int .i64 a')).setCell ⟨B9, 1, none⟩ (.int .i64 b')) B9 B10 a' b' c d :=
  ⟨below_set (below_set h.below h9) h9, blk_put (blk_put h.b9 0 _ rfl) 1 _ rfl, blk_far (p := ⟨B9, 1, none⟩) (blk_far (p := ⟨B9, 0, none⟩) h.b10 hne _) hne _⟩
theorem MeanW.put10 {w0 W : World} {B9 B10 : Nat} {a b c d : Int} (h : MeanW w0 W B9 B10 a b c d) (h9 : w0.heap.size ≤ B10) (hne : B9 ≠ B10) (c' d' : Int) :
    MeanW w0 ((W.setCell ⟨B10, 0, none⟩ (.int .i64 c')).setCell ⟨B10, 1, none⟩ (.int .i64 d')) B9 B10 a b c' d' :=
  ⟨below_set (below_set h.below h9) h9, blk_far (p := ⟨B10, 1, none⟩) (blk_far (p := ⟨B10, 0, none⟩) h.b9 hne _) hne _, blk_put (blk_put h.b10 0 _ rfl) 1 _ rfl⟩
theorem mean_ranges {cf : Int → Int} {l : List S27} (H : MeanOk cf l) (D : Array Int) (hD : AllIn l.length D) (hs : D.size = l.length) (cut j : Nat) (hj : j < l.length) :
    (0 ≤ wX l D cut j ∧ wX l D cut j ≤ 1000000000) ∧ (0 ≤ wY l D cut j ∧ wY l D cut j ≤ 1000000000) ∧
    (-100000000000000 ≤ cf D[j]! * wX l D cut j ∧ cf D[j]! * wX l D cut j ≤ 100000000000000) ∧ (-100000000000000 ≤ cf D[j]! * wY l D cut j ∧ cf D[j]! * wY l D cut j ≤ 100000000000000) := by
  have hk := hD j (by omega)
  have a1 := H.lo _ hk.1 hk.2
  have a2 := H.le _ hk.1 hk.2
  have a3 := H.hi _ hk.1 hk.2
  have a4 := H.c1 _ hk.1 hk.2
  have a5 := H.c2 _ hk.1 hk.2
  have hX : 0 ≤ wX l D cut j ∧ wX l D cut j ≤ 1000000000 := by unfold wX; split <;> omega
  have hY : 0 ≤ wY l D cut j ∧ wY l D cut j ≤ 1000000000 := by unfold wY; split <;> omega
  have mulb : ∀ c x : Int, -100000 ≤ c → c ≤ 100000 → 0 ≤ x → x ≤ 1000000000 → -100000000000000 ≤ c * x ∧ c * x ≤ 100000000000000 := by
    intro c x h1 h2 h3 h4
    have e1 := Int.mul_le_mul_of_nonneg_right h1 h3
    have e2 := Int.mul_le_mul_of_nonneg_right h2 h3
    omega
  exact ⟨hX, hY, mulb _ _ a4 a5 hX.1 hX.2, mulb _ _ a4 a5 hY.1 hY.2⟩
structure OutW (w : World) (B3 B4 B5 Bo g : Nat) (lb : Array Value) (D : Array Int) (W : World) (x y : Int) : Prop where
  below : Below w.heap.size w W
  fn : W.heap[B3]? = some (.cells #[.func (.func g) #[] lb] 126 (0, 0))
  res : W.heap[B4]? = some (.cells #[.int .i64 0, .int .i64 0] 27 (0, 0))
  row : ∀ j, j < D.size → W.cell? ⟨B5, j, none⟩ = some (.int .i64 D[j]!)
  out : W.heap[Bo]? = some (.cells #[.int .i64 x, .int .i64 y] 27 (0, 0))
theorem OutW.later {w : World} {B3 B4 B5 Bo g : Nat} {lb : Array Value} {D : Array Int} {W W' : World} {x y : Int} (h : OutW w B3 B4 B5 Bo g lb D W x y) (hb : Below W.heap.size W W') : OutW w B3 B4 B5 Bo g lb D W' x y :=
  ⟨below_trans' h.below hb, blk_below h.fn hb, blk_below h.res hb, fun j hj => pw_cell_below hb (h.row j hj), blk_below h.out hb⟩
theorem OutW.put {w : World} {B3 B4 B5 Bo g : Nat} {lb : Array Value} {D : Array Int} {W : World} {x y : Int} (h : OutW w B3 B4 B5 Bo g lb D W x y) (h0 : w.heap.size ≤ Bo) (h3 : B3 ≠ Bo) (h4 : B4 ≠ Bo) (h5 : B5 ≠ Bo) (x' y' : Int) :
    OutW w B3 B4 B5 Bo g lb D ((W.setCell ⟨Bo, 0, none⟩ (.int .i64 x')).setCell ⟨Bo, 1, none⟩ (.int .i64 y')) x' y' :=
  ⟨below_set (below_set h.below h0) h0, blk_far (p := ⟨Bo, 1, none⟩) (blk_far (p := ⟨Bo, 0, none⟩) h.fn h3 _) h3 _, blk_far (p := ⟨Bo, 1, none⟩) (blk_far (p := ⟨Bo, 0, none⟩) h.res h4 _) h4 _,
   fun j hj => (World.cell?_setCell_other _ _ _ _ (by simp only [ne_eq, Addr.mk.injEq]; omega)).trans ((World.cell?_setCell_other _ _ _ _ (by simp only [ne_eq, Addr.mk.injEq]; omega)).trans (h.row j hj)), blk_put (blk_put h.out 0 _ rfl) 1 _ rfl⟩
theorem OutW.drewN {w : World} {B3 B4 B5 Bo g : Nat} {lb : Array Value} {D : Array Int} {W : World} {x y : Int} (h : OutW w B3 B4 B5 Bo g lb D W x y) (n : Nat) : OutW w B3 B4 B5 Bo g lb D (W.drewN n) x y :=
  ⟨pw_below_drewN h.below n, h.fn, h.res, h.row, h.out⟩
theorem mean_sums {cf : Int → Int} {l : List S27} (H : MeanOk cf l) (D : Array Int) (hD : AllIn l.length D) (hs : D.size = l.length) (cut k : Nat) (hk : k ≤ l.length) :
    (-1200000000000000 ≤ lowN cf l D cut k ∧ lowN cf l D cut k ≤ 1200000000000000) ∧ (0 ≤ lowD l D cut k ∧ lowD l D cut k ≤ 12000000000) ∧
    (-1200000000000000 ≤ highN cf l D cut k ∧ highN cf l D cut k ≤ 1200000000000000) ∧ (0 ≤ highD l D cut k ∧ highD l D cut k ≤ 12000000000) := by
  have h12 := H.n12
  have b1 := sumTo_bound (f := fun j => cf D[j]! * wX l D cut j) (M := 100000000000000) (n := l.length) (fun j hj => (mean_ranges H D hD hs cut j hj).2.2.1) k hk
  have b2 := sumTo_bound (f := wX l D cut) (M := 1000000000) (n := l.length) (fun j hj => by have := (mean_ranges H D hD hs cut j hj).1; omega) k hk
  have b3 := sumTo_bound (f := fun j => cf D[j]! * wY l D cut j) (M := 100000000000000) (n := l.length) (fun j hj => (mean_ranges H D hD hs cut j hj).2.2.2) k hk
  have b4 := sumTo_bound (f := wY l D cut) (M := 1000000000) (n := l.length) (fun j hj => by have := (mean_ranges H D hD hs cut j hj).2.1; omega) k hk
  have p2 := sumTo_pos (f := wX l D cut) (n := l.length) (fun j hj => (mean_ranges H D hD hs cut j hj).1.1) k hk
  have p4 := sumTo_pos (f := wY l D cut) (n := l.length) (fun j hj => (mean_ranges H D hD hs cut j hj).2.1.1) k hk
  unfold lowN lowD highN highD
  omega
theorem wrap_two {a m s : Int} (h : s = a + m) (h1 : -1200000000000000 ≤ a) (h2 : a ≤ 1200000000000000) (h3 : -100000000000000 ≤ m) (h4 : m ≤ 100000000000000) : IntKind.i64.wrap (a + IntKind.i64.wrap m) = s := by
  simp only [IntKind.wrap_i64]; omega
theorem wrap_one {a m s : Int} (h : s = a + m) (h1 : 0 ≤ a) (h2 : a ≤ 12000000000) (h3 : 0 ≤ m) (h4 : m ≤ 1000000000) : IntKind.i64.wrap (a + m) = s := by
  simp only [IntKind.wrap_i64]; omega
theorem sumTo_lsum (f : Int → Int) (D : Array Int) : ∀ k, k ≤ D.size → sumTo (fun j => f D[j]!) k = MeanMath.lsum f (D.toList.take k) := by
  intro k
  induction k with
  | zero => intro _; simp [sumTo]
  | succ k ih =>
    intro hk
    have hk' : k < D.toList.length := by rw [Array.length_toList]; omega
    rw [List.take_succ_eq_append_getElem hk', MeanMath.lsum_append]
    simp only [sumTo, MeanMath.lsum_cons, MeanMath.lsum_nil]
    rw [ih (by omega), getElem!_pos _ k (by omega)]
    simp
theorem lsum_iota (f : Int → Int) (l : List S27) (h : ∀ k : Nat, k < l.length → f k = (rd_T27 l k).f0) : MeanMath.lsum f (iotaA l.length).toList = MeanMath.lsum S27.f0 l := by
  have e : (iotaA l.length).toList = (List.range l.length).map (fun n : Nat => (n : Int)) := by
    apply List.ext_getElem
    · simp [iotaA]
    · intro i h1 h2; simp [iotaA]
  rw [e]
  have : ∀ (m : List S27) (pre : List S27), pre ++ m = l → MeanMath.lsum f ((List.range' pre.length m.length).map (fun n : Nat => (n : Int))) = MeanMath.lsum S27.f0 m := by
    intro m
    induction m with
    | nil => intro pre _; simp
    | cons x m ih =>
      intro pre hp
      have h1 := ih (pre ++ [x]) (by simpa using hp)
      simp only [List.length_append, List.length_singleton] at h1
      simp only [List.length_cons, List.range'_succ, List.map_cons, MeanMath.lsum_cons, h1]
      rw [h pre.length (by rw [← hp]; simp)]
      congr 1
      simp [rd_T27, ← hp]
  have h2 := this l [] rfl
  simpa [List.range_eq_range'] using h2
theorem mean_pos {cf : Int → Int} {l : List S27} (H : MeanOk cf l) (D : Array Int) (hD : AllIn l.length D) (hs : D.size = l.length) (hp : D.toList.Perm (iotaA l.length).toList) (cut : Nat) :
    0 < lowD l D cut l.length ∧ 0 < highD l D cut l.length := by
  have base : sumTo (fun j => (rd_T27 l D[j]!).f0) l.length = MeanMath.lsum S27.f0 l := by
    have := sumTo_lsum (fun k => (rd_T27 l k).f0) D l.length (by omega)
    rw [this, List.take_of_length_le (by simp; omega), MeanMath.lsum_perm _ hp]
    exact lsum_iota _ l (fun k _ => rfl)
  have mono : ∀ f : Nat → Int, (∀ j, j < l.length → (rd_T27 l D[j]!).f0 ≤ f j) → ∀ k, k ≤ l.length → sumTo (fun j => (rd_T27 l D[j]!).f0) k ≤ sumTo f k := by
    intro f hf k
    induction k with
    | zero => intro _; simp [sumTo]
    | succ k ih => intro hk; have := ih (by omega); have := hf k (by omega); simp only [sumTo]; omega
  have hpos := H.pos
  have h1 := mono (wX l D cut) (fun j hj => by
    have hk := hD j (by omega)
    have := H.le _ hk.1 hk.2
    unfold wX; split <;> omega) l.length (Nat.le_refl _)
  have h2 := mono (wY l D cut) (fun j hj => by
    have hk := hD j (by omega)
    have := H.le _ hk.1 hk.2
    unfold wY; split <;> omega) l.length (Nat.le_refl _)
  unfold lowD highD
  omega
end
section
open Go.RowKit Go.Proofs.YtljfljekcpdpiaaGreatW.PrintWords Go.Proofs.YtljfljekcpdpiaaGreatW.PrintLast Go.Proofs.YtljfljekcpdpiaaGreatW.PrintMore
def loF (l : List S27) (k : Int) : Int := (rd_T27 l k).f0
def hiF (l : List S27) (k : Int) : Int := (rd_T27 l k).f1
def belowS (cf : Int → Int) (l : List S27) (m : Int) : Int := MeanMath.below cf (loF l) (hiF l) m (iotaA l.length).toList
def aboveS (cf : Int → Int) (l : List S27) (m : Int) : Int := MeanMath.below (fun k => -cf k) (loF l) (hiF l) (-m) (iotaA l.length).toList
end
section
open Go.RowKit Go.Proofs.YtljfljekcpdpiaaGreatW.PrintWords Go.Proofs.YtljfljekcpdpiaaGreatW.PrintLast Go.Proofs.YtljfljekcpdpiaaGreatW.PrintMore
def b_checkRecipe.f (l00 : List ByteArray) (l01 : List (S70)) (l02 : List (S27)) (l03 : List (S89)) (a04 : Int) (a05 : Int) (a06 : Int) (l1 : List Int) : Option (Int) := if (l1.length : Int) = (l01.length : Int) then ((x_kilos.f l1).bind fun t148 => (if t148 = true then (some 1) else (some 0))) else (some 1)
theorem b_checkRecipe.calls (A00 : Option Addr) (c00 : Nat) (l00 : List ByteArray) (A01 : Option Addr) (c01 : Nat) (l01 : List (S70)) (A02 : Option Addr) (c02 : Nat) (l02 : List (S27)) (A03 : Option Addr) (c03 : Nat) (l03 : List (S89)) (a04 : Int) (a05 : Int) (a06 : Int) (A1 : Option Addr) (c1 : Nat) (l1 : List Int) (r : Int) (w : World) (hr00 : Kd.C Kd.string w A00 l00.length l00) (hc00 : l00.length ≤ c00) (hr01 : Kd.C k70 w A01 l01.length l01) (hc01 : l01.length ≤ c01) (hr02 : Kd.C k27 w A02 l02.length l02) (hc02 : l02.length ≤ c02) (hr03 : Kd.C k89 w A03 l03.length l03) (hc03 : l03.length ≤ c03) (hr1 : Kd.C (Kd.int .i64) w A1 l1.length l1) (hc1 : l1.length ≤ c1) (h : b_checkRecipe.f l00 l01 l02 l03 a04 a05 a06 l1 = some r) :
  Calls Tryz.prog 134 #[.agg #[.slice A00 l00.length c00, .slice A01 l01.length c01, .slice A02 l02.length c02, .slice A03 l03.length c03, .int .i64 a04, .int .i64 a05, .int .i64 a06], .slice A1 l1.length c1] w fun e w' => e = .returned (.int .i64 r) ∧ Below w.heap.size w w' := by
 have hu29 := Tryz.underlying29; have HR00 := Sd.mk hr00; have HC00 := Sd.mk hc00; clear hr00 hc00; have HR01 := Sd.mk hr01; have HC01 := Sd.mk hc01; clear hr01 hc01; have HR02 := Sd.mk hr02; have HC02 := Sd.mk hc02; clear hr02 hc02; have HR03 := Sd.mk hr03; have HC03 := Sd.mk hc03; clear hr03 hc03; have HR1 := Sd.mk hr1; have HC1 := Sd.mk hc1; clear hr1 hc1; have HB := Sd.mk (Below.refl w.heap.size w)
 have H : (if (l1.length : Int) = (l01.length : Int) then ((x_kilos.f l1).bind fun t148 => (if t148 = true then (some 1) else (some 0))) else (some 1)) = some r := h
 clear h
 by_cases c3 : (l1.length : Int) = (l01.length : Int)
 ·rw [if_pos c3] at H
  have c3b0 : ((l1.length : Int) == (l01.length : Int)) = true := beq_iff_eq.mpr c3
  have c3b1 : ((l1.length : Int) != (l01.length : Int)) = false := bne_eq_false_iff_eq.mpr c3
  have c3b2 : (l1.length == l01.length) = true := by first | simpa using c3 | (simp at c3 ⊢; omega)
  clear c3; replace H := Option.bind_eq_some_iff.mp H; obtain ⟨t148, A40, H⟩ := H
  try dsimp only at H
  have A4 := Sd.mk A40; clear A40
  by_cases c5 : t148 = true
  ·subst c5
   have H1 : (some 1) = some r := by rw [if_pos rfl] at H; exact H
   clear H; have H := H1; clear H1; obtain rfl := Option.some.inj H
   go_enter Tryz.func134, Tryz.ntmps134
   go_wp2_with (first | ((with_reducible refine gate_dst (N := 2) rfl ?_); refine box_event ?hg (N := 2) ?hd (cs := #[.slice A00 l00.length c00, .slice A01 l01.length c01, .slice A02 l02.length c02, .slice A03 l03.length c03, .int .i64 a04, .int .i64 a05, .int .i64 a06]) (t := 29) ?hr ?_; (case hd => rfl); (case hg => rfl); (case hr => exact tG); intro gb147 hg w6 hbox hb; have BK147 := Sd.mk (hbox); have GW147 := Sd.mk (bSz hg (bBl HB.out)); have GE147 := Sd.mk (bSz hg (bBl HB.out)); replace HB := Sd.mk (below_step (bBl HB.out) hb); clear hb hbox hg; obtain ⟨u7_0, u7_1, u7_2, u7_3, u7_4, u7_5, u7_6, o70, o71, o72, o73, o74, o75, o76⟩ := bc7 (w := w6) BK147.out) | (go_at_call 106; (with_reducible refine (x_kilos.calls _ _ l1 true _ (cS (Kd.C_below HR1.out HB.out)) HC1.out A4.out).mono ?_); rintro e w8 ⟨rfl, hb⟩; replace BK147 := Sd.mk (blk_below (bkA BK147.out) hb); replace HB := Sd.mk (below_step (bBl HB.out) hb); (try clear hb); (try clear hb2); (try clear hk); (try clear hi)))
   go_ret
   exact ⟨tE, bBl HB.out⟩
  ·replace c5 := Bool.eq_false_iff.mpr c5
   subst c5
   have H1 : (some 0) = some r := by rw [if_neg (show ¬ (false = true) by decide)] at H; exact H
   clear H; have H := H1; clear H1; obtain rfl := Option.some.inj H
   go_enter Tryz.func134, Tryz.ntmps134
   go_wp2_with (first | ((with_reducible refine gate_dst (N := 2) rfl ?_); refine box_event ?hg (N := 2) ?hd (cs := #[.slice A00 l00.length c00, .slice A01 l01.length c01, .slice A02 l02.length c02, .slice A03 l03.length c03, .int .i64 a04, .int .i64 a05, .int .i64 a06]) (t := 29) ?hr ?_; (case hd => rfl); (case hg => rfl); (case hr => exact tG); intro gb147 hg w9 hbox hb; have BK147 := Sd.mk (hbox); have GW147 := Sd.mk (bSz hg (bBl HB.out)); have GE147 := Sd.mk (bSz hg (bBl HB.out)); replace HB := Sd.mk (below_step (bBl HB.out) hb); clear hb hbox hg; obtain ⟨u10_0, u10_1, u10_2, u10_3, u10_4, u10_5, u10_6, o100, o101, o102, o103, o104, o105, o106⟩ := bc7 (w := w9) BK147.out) | (go_at_call 106; (with_reducible refine (x_kilos.calls _ _ l1 false _ (cS (Kd.C_below HR1.out HB.out)) HC1.out A4.out).mono ?_); rintro e w11 ⟨rfl, hb⟩; replace BK147 := Sd.mk (blk_below (bkA BK147.out) hb); replace HB := Sd.mk (below_step (bBl HB.out) hb); (try clear hb); (try clear hb2); (try clear hk); (try clear hi)))
   go_ret
   exact ⟨tE, bBl HB.out⟩
 ·rw [if_neg c3] at H
  have c3b0 : ((l1.length : Int) == (l01.length : Int)) = false := beq_eq_false_iff_ne.mpr c3
  have c3b1 : ((l1.length : Int) != (l01.length : Int)) = true := bne_iff_ne.mpr c3
  have c3b2 : (l1.length == l01.length) = false := by first | simpa using c3 | (simp at c3 ⊢; omega)
  obtain rfl := Option.some.inj H
  go_enter Tryz.func134, Tryz.ntmps134
  go_wp2_with (first | ((with_reducible refine gate_dst (N := 2) rfl ?_); refine box_event ?hg (N := 2) ?hd (cs := #[.slice A00 l00.length c00, .slice A01 l01.length c01, .slice A02 l02.length c02, .slice A03 l03.length c03, .int .i64 a04, .int .i64 a05, .int .i64 a06]) (t := 29) ?hr ?_; (case hd => rfl); (case hg => rfl); (case hr => exact tG); intro gb147 hg w12 hbox hb; have BK147 := Sd.mk (hbox); have GW147 := Sd.mk (bSz hg (bBl HB.out)); have GE147 := Sd.mk (bSz hg (bBl HB.out)); replace HB := Sd.mk (below_step (bBl HB.out) hb); clear hb hbox hg; obtain ⟨u13_0, u13_1, u13_2, u13_3, u13_4, u13_5, u13_6, o130, o131, o132, o133, o134, o135, o136⟩ := bc7 (w := w12) BK147.out))
  go_ret
  exact ⟨tE, bBl HB.out⟩
end
section
open Go.RowKit Go.Proofs.YtljfljekcpdpiaaGreatW.PrintWords Go.Proofs.YtljfljekcpdpiaaGreatW.PrintLast Go.Proofs.YtljfljekcpdpiaaGreatW.PrintMore
def b_asked.f (k : Nat) (l00 : List ByteArray) (l01 : List (S70)) (l02 : List (S27)) (l03 : List (S89)) (a04 : Int) (a05 : Int) (a06 : Int) (l1 : List Int) : Option (Int) := (b_Check.f k l00 l01 l02 l03 a04 a05 a06).bind fun t150 => (if t150 = 0 then ((b_checkRecipe.f l00 l01 l02 l03 a04 a05 a06 l1).bind fun t151 => (some t151)) else (some t150))
theorem b_asked.mono : ∀ a0 a1 a2 a3 a4 a5 a6 a7 k, LeO (b_asked.f k a0 a1 a2 a3 a4 a5 a6 a7) (b_asked.f (k + 1) a0 a1 a2 a3 a4 a5 a6 a7) := by
 intro a0 a1 a2 a3 a4 a5 a6 a7 k
 unfold b_asked.f
 repeat' first
   | (with_reducible exact b_Check.mono _ _ _ _ _ _ _ _)
   | (with_reducible exact LeO.refl _)
   | (with_reducible exact LeO.none _)
   | (with_reducible refine LeO.ite ?_ ?_)
   | (with_reducible refine LeO.bind ?_ (fun _ => ?_))
   | exact LeO.none _
   | refine LeO.ite ?_ ?_
   | refine LeO.bind ?_ (fun _ => ?_)
theorem b_asked.calls (k : Nat) (A00 : Option Addr) (c00 : Nat) (l00 : List ByteArray) (A01 : Option Addr) (c01 : Nat) (l01 : List (S70)) (A02 : Option Addr) (c02 : Nat) (l02 : List (S27)) (A03 : Option Addr) (c03 : Nat) (l03 : List (S89)) (a04 : Int) (a05 : Int) (a06 : Int) (A1 : Option Addr) (c1 : Nat) (l1 : List Int) (r : Int) (w : World) (hr00 : Kd.C Kd.string w A00 l00.length l00) (hc00 : l00.length ≤ c00) (hr01 : Kd.C k70 w A01 l01.length l01) (hc01 : l01.length ≤ c01) (hr02 : Kd.C k27 w A02 l02.length l02) (hc02 : l02.length ≤ c02) (hr03 : Kd.C k89 w A03 l03.length l03) (hc03 : l03.length ≤ c03) (hr1 : Kd.C (Kd.int .i64) w A1 l1.length l1) (hc1 : l1.length ≤ c1) (h : b_asked.f k l00 l01 l02 l03 a04 a05 a06 l1 = some r) :
  Calls Tryz.prog 50 #[.agg #[.slice A00 l00.length c00, .slice A01 l01.length c01, .slice A02 l02.length c02, .slice A03 l03.length c03, .int .i64 a04, .int .i64 a05, .int .i64 a06], .slice A1 l1.length c1] w fun e w' => e = .returned (.int .i64 r) ∧ Below w.heap.size w w' := by
 have hu29 := Tryz.underlying29; have HR00 := Sd.mk hr00; have HC00 := Sd.mk hc00; clear hr00 hc00; have HR01 := Sd.mk hr01; have HC01 := Sd.mk hc01; clear hr01 hc01; have HR02 := Sd.mk hr02; have HC02 := Sd.mk hc02; clear hr02 hc02; have HR03 := Sd.mk hr03; have HC03 := Sd.mk hc03; clear hr03 hc03; have HR1 := Sd.mk hr1; have HC1 := Sd.mk hc1; clear hr1 hc1; have HB := Sd.mk (Below.refl w.heap.size w)
 have H : ((b_Check.f k l00 l01 l02 l03 a04 a05 a06).bind fun t150 => (if t150 = 0 then ((b_checkRecipe.f l00 l01 l02 l03 a04 a05 a06 l1).bind fun t151 => (some t151)) else (some t150))) = some r := h
 clear h; replace H := Option.bind_eq_some_iff.mp H; obtain ⟨t150, A30, H⟩ := H
 try dsimp only at H
 have A3 := Sd.mk A30; clear A30
 by_cases c4 : t150 = 0
 ·rw [if_pos c4] at H
  have c4b0 : (t150 == 0) = true := beq_iff_eq.mpr c4
  have c4b1 : (t150 != 0) = false := bne_eq_false_iff_eq.mpr c4
  clear c4; replace H := Option.bind_eq_some_iff.mp H; obtain ⟨t151, A50, H⟩ := H
  try dsimp only at H
  have A5 := Sd.mk A50; clear A50; obtain rfl := Option.some.inj H
  go_enter Tryz.func50, Tryz.ntmps50
  go_wp2_with (first | ((with_reducible refine gate_dst (N := 2) rfl ?_); refine box_event ?hg (N := 2) ?hd (cs := #[.slice A00 l00.length c00, .slice A01 l01.length c01, .slice A02 l02.length c02, .slice A03 l03.length c03, .int .i64 a04, .int .i64 a05, .int .i64 a06]) (t := 29) ?hr ?_; (case hd => rfl); (case hg => rfl); (case hr => exact tG); intro gb149 hg w6 hbox hb; have BK149 := Sd.mk (hbox); have GW149 := Sd.mk (bSz hg (bBl HB.out)); have GE149 := Sd.mk (bSz hg (bBl HB.out)); replace HB := Sd.mk (below_step (bBl HB.out) hb); clear hb hbox hg; obtain ⟨u7_0, u7_1, u7_2, u7_3, u7_4, u7_5, u7_6, o70, o71, o72, o73, o74, o75, o76⟩ := bc7 (w := w6) BK149.out) | ((with_reducible refine gate_callee (f := 34) rfl ?_); refine goesL_ (some 7) rfl rfl Tryz.func34 (by kernel_rfl) rfl #[.agg #[.slice A00 l00.length c00, .slice A01 l01.length c01, .slice A02 l02.length c02, .slice A03 l03.length c03, .int .i64 a04, .int .i64 a05, .int .i64 a06]] rfl tM ?_; (with_reducible refine (b_Check.calls k _ _ l00 _ _ l01 _ _ l02 _ _ l03 a04 a05 a06 t150 _ (cS (Kd.C_below HR00.out HB.out)) HC00.out (cS (Kd.C_below HR01.out HB.out)) HC01.out (cS (Kd.C_below HR02.out HB.out)) HC02.out (cS (Kd.C_below HR03.out HB.out)) HC03.out A3.out).mono ?_); rintro e w8 ⟨rfl, hb⟩; refine ⟨_, rfl, ?_⟩; replace BK149 := Sd.mk (blk_below (bkA BK149.out) hb); replace HB := Sd.mk (below_step (bBl HB.out) hb); (try clear hb); (try clear hb2); (try clear hk); (try clear hi); obtain ⟨u9_0, u9_1, u9_2, u9_3, u9_4, u9_5, u9_6, o90, o91, o92, o93, o94, o95, o96⟩ := bc7 (w := w8) BK149.out) | ((with_reducible refine gate_callee (f := 134) rfl ?_); refine goesL_ (some 13) rfl rfl Tryz.func134 (by kernel_rfl) rfl #[.agg #[.slice A00 l00.length c00, .slice A01 l01.length c01, .slice A02 l02.length c02, .slice A03 l03.length c03, .int .i64 a04, .int .i64 a05, .int .i64 a06], .slice A1 l1.length c1] rfl tM ?_; (with_reducible refine (b_checkRecipe.calls _ _ l00 _ _ l01 _ _ l02 _ _ l03 a04 a05 a06 _ _ l1 t151 _ (cS (Kd.C_below HR00.out HB.out)) HC00.out (cS (Kd.C_below HR01.out HB.out)) HC01.out (cS (Kd.C_below HR02.out HB.out)) HC02.out (cS (Kd.C_below HR03.out HB.out)) HC03.out (cS (Kd.C_below HR1.out HB.out)) HC1.out A5.out).mono ?_); rintro e w10 ⟨rfl, hb⟩; refine ⟨_, rfl, ?_⟩; replace BK149 := Sd.mk (blk_below (bkA BK149.out) hb); replace HB := Sd.mk (below_step (bBl HB.out) hb); (try clear hb); (try clear hb2); (try clear hk); (try clear hi)))
  go_ret
  exact ⟨tE, bBl HB.out⟩
 ·rw [if_neg c4] at H
  have c4b0 : (t150 == 0) = false := beq_eq_false_iff_ne.mpr c4
  have c4b1 : (t150 != 0) = true := bne_iff_ne.mpr c4
  obtain rfl := Option.some.inj H
  go_enter Tryz.func50, Tryz.ntmps50
  go_wp2_with (first | ((with_reducible refine gate_dst (N := 2) rfl ?_); refine box_event ?hg (N := 2) ?hd (cs := #[.slice A00 l00.length c00, .slice A01 l01.length c01, .slice A02 l02.length c02, .slice A03 l03.length c03, .int .i64 a04, .int .i64 a05, .int .i64 a06]) (t := 29) ?hr ?_; (case hd => rfl); (case hg => rfl); (case hr => exact tG); intro gb149 hg w11 hbox hb; have BK149 := Sd.mk (hbox); have GW149 := Sd.mk (bSz hg (bBl HB.out)); have GE149 := Sd.mk (bSz hg (bBl HB.out)); replace HB := Sd.mk (below_step (bBl HB.out) hb); clear hb hbox hg; obtain ⟨u12_0, u12_1, u12_2, u12_3, u12_4, u12_5, u12_6, o120, o121, o122, o123, o124, o125, o126⟩ := bc7 (w := w11) BK149.out) | ((with_reducible refine gate_callee (f := 34) rfl ?_); refine goesL_ (some 7) rfl rfl Tryz.func34 (by kernel_rfl) rfl #[.agg #[.slice A00 l00.length c00, .slice A01 l01.length c01, .slice A02 l02.length c02, .slice A03 l03.length c03, .int .i64 a04, .int .i64 a05, .int .i64 a06]] rfl tM ?_; (with_reducible refine (b_Check.calls k _ _ l00 _ _ l01 _ _ l02 _ _ l03 a04 a05 a06 t150 _ (cS (Kd.C_below HR00.out HB.out)) HC00.out (cS (Kd.C_below HR01.out HB.out)) HC01.out (cS (Kd.C_below HR02.out HB.out)) HC02.out (cS (Kd.C_below HR03.out HB.out)) HC03.out A3.out).mono ?_); rintro e w13 ⟨rfl, hb⟩; refine ⟨_, rfl, ?_⟩; replace BK149 := Sd.mk (blk_below (bkA BK149.out) hb); replace HB := Sd.mk (below_step (bBl HB.out) hb); (try clear hb); (try clear hb2); (try clear hk); (try clear hi)))
  go_ret
  exact ⟨tE, bBl HB.out⟩
end
section
open Go.RowKit Go.Proofs.YtljfljekcpdpiaaGreatW.PrintWords Go.Proofs.YtljfljekcpdpiaaGreatW.PrintLast Go.Proofs.YtljfljekcpdpiaaGreatW.PrintMore
mutual
def b_grams.l0 : Nat → List Int → List (S27) → List (S70) → Int → Int → Option ((List (S27)))
 | 0, _, _, _, _, _ => none
 | k + 1, x1, x5, x15, x16, x17 => if x17 < x16 then (if 0 ≤ x17 then (if x17 < (x15.length : Int) then (b_grams.l1 k x1 x5 x17 x15 x16 x17 ((rd_T70 x15 x17).f6) (((rd_T70 x15 x17).f6).length : Int) 0) else (none)) else (none)) else (some x5)
def b_grams.l1 : Nat → List Int → List (S27) → Int → List (S70) → Int → Int → List (S27) → Int → Int → Option ((List (S27)))
 | 0, _, _, _, _, _, _, _, _, _ => none
 | k + 1, x1, x5, x6, x15, x16, x17, x23, x24, x25 => if x25 < x24 then (if 0 ≤ x25 then (if x25 < (x23.length : Int) then (if x25 < (x5.length : Int) then (if 0 ≤ x6 then (if x6 < (x1.length : Int) then ((some (x5.set (x25 : Int).toNat (⟨wrap64 (((rd_T27 x5 x25).f0) + (wrap64 ((rd x1 x6) * ((rd_T27 x23 x25).f0)))), (rd_T27 x5 x25).f1⟩ : S27) : List (S27))).bind fun y162 => (b_grams.l1 k x1 (y162.set (x25 : Int).toNat (⟨(rd_T27 y162 x25).f0, wrap64 (((rd_T27 y162 x25).f1) + (wrap64 ((rd x1 x6) * ((rd_T27 x23 x25).f1))))⟩ : S27)) x6 x15 x16 x17 x23 x24 (wrap64 (x25 + 1)))) else (none)) else (none)) else (none)) else (none)) else (none)) else (b_grams.l0 k x1 x5 x15 x16 (wrap64 (x17 + 1)))
end
def b_grams.f (k : Nat) (l00 : List ByteArray) (l01 : List (S70)) (l02 : List (S27)) (l03 : List (S89)) (a04 : Int) (a05 : Int) (a06 : Int) (l1 : List Int) : Option ((List (S27))) := if 0 ≤ (l00.length : Int) then (if ((l00.length : Int) : Int).toNat ≤ 17592186044416 then (b_grams.l0 k l1 (List.replicate ((l00.length : Int) : Int).toNat z27) l01 (l01.length : Int) 0) else (none)) else (none)
theorem b_grams.mono_l : ∀ k, (∀ y0 y1 y2 y3 y4, LeO (b_grams.l0 k y0 y1 y2 y3 y4) (b_grams.l0 (k + 1) y0 y1 y2 y3 y4)) ∧ (∀ y0 y1 y2 y3 y4 y5 y6 y7 y8, LeO (b_grams.l1 k y0 y1 y2 y3 y4 y5 y6 y7 y8) (b_grams.l1 (k + 1) y0 y1 y2 y3 y4 y5 y6 y7 y8))
 | 0 => ⟨fun _ _ _ _ _ r h => by simp [b_grams.l0] at h, fun _ _ _ _ _ _ _ _ _ r h => by simp [b_grams.l1] at h⟩
 | k + 1 => by
  obtain ⟨ih0, ih1⟩ := b_grams.mono_l k
  refine ⟨?_, ?_⟩
  ·intro y0 y1 y2 y3 y4
   unfold b_grams.l0
   repeat' first
   | (with_reducible exact ih0 _ _ _ _ _)
   | (with_reducible exact ih1 _ _ _ _ _ _ _ _ _)
   | (with_reducible exact LeO.refl _)
   | (with_reducible exact LeO.none _)
   | (with_reducible refine LeO.ite ?_ ?_)
   | (with_reducible refine LeO.bind ?_ (fun _ => ?_))
   | exact LeO.none _
   | refine LeO.ite ?_ ?_
   | refine LeO.bind ?_ (fun _ => ?_)
  ·intro y0 y1 y2 y3 y4 y5 y6 y7 y8
   unfold b_grams.l1
   repeat' first
   | (with_reducible exact ih0 _ _ _ _ _)
   | (with_reducible exact ih1 _ _ _ _ _ _ _ _ _)
   | (with_reducible exact LeO.refl _)
   | (with_reducible exact LeO.none _)
   | (with_reducible refine LeO.ite ?_ ?_)
   | (with_reducible refine LeO.bind ?_ (fun _ => ?_))
   | exact LeO.none _
   | refine LeO.ite ?_ ?_
   | refine LeO.bind ?_ (fun _ => ?_)
theorem b_grams.mono : ∀ a0 a1 a2 a3 a4 a5 a6 a7 k, LeO (b_grams.f k a0 a1 a2 a3 a4 a5 a6 a7) (b_grams.f (k + 1) a0 a1 a2 a3 a4 a5 a6 a7) := by
 intro a0 a1 a2 a3 a4 a5 a6 a7 k
 obtain ⟨ih0, ih1⟩ := b_grams.mono_l k
 unfold b_grams.f
 repeat' first
   | (with_reducible exact ih0 _ _ _ _ _)
   | (with_reducible exact ih1 _ _ _ _ _ _ _ _ _)
   | (with_reducible exact LeO.refl _)
   | (with_reducible exact LeO.none _)
   | (with_reducible refine LeO.ite ?_ ?_)
   | (with_reducible refine LeO.bind ?_ (fun _ => ?_))
   | exact LeO.none _
   | refine LeO.ite ?_ ?_
   | refine LeO.bind ?_ (fun _ => ?_)
def b_grams.T8 : Bool × List (List Nat × List Nat) := (true, [([], []), ([], []), ([0, 1], [0, 1]), ([2], [2]), ([3], [3]), ([], []), ([], []), ([5, 6], [5, 6]), ([7], [7]), ([], []), ([9], [9]), ([8, 10], [8, 10]), ([4, 11], [4, 11]), ([0, 1, 0, 1, 2, 3, 4, 5, 6, 7, 8, 9, 10, 11, 12], [0, 1]), ([13, 0, 1, 2, 3, 4, 5, 6, 7, 8, 9, 10, 11, 12], [13]), ([14, 12, 0, 1, 2, 3, 4, 5, 6, 7, 8, 9, 10, 11, 12], [12, 14])])
def b_grams.B8 : List Nat := [0, 0, 3, 7, 15, 0, 0, 96, 224, 0, 512, 2016, 4095, 8191, 16383, 32767]
theorem b_grams.tab8 : rtab .any (opsOf Tryz.f204 8) = b_grams.T8 := by kernel_rfl
theorem b_grams.bits8 : waitsOk b_grams.T8.2 b_grams.B8 = true := by kernel_rfl
def b_grams.T9 : Bool × List (List Nat × List Nat) := (true, [([], []), ([], []), ([0, 1], [0, 1]), ([2], [2]), ([3], [3]), ([], []), ([], []), ([5, 6], [5, 6]), ([7], [7]), ([], []), ([9], [9]), ([8, 10], [8, 10]), ([4, 11], [4, 11]), ([0, 1, 0, 1, 2, 3, 4, 5, 6, 7, 8, 9, 10, 11, 12], [0, 1]), ([13, 0, 1, 2, 3, 4, 5, 6, 7, 8, 9, 10, 11, 12], [13]), ([14, 12, 0, 1, 2, 3, 4, 5, 6, 7, 8, 9, 10, 11, 12], [12, 14])])
def b_grams.B9 : List Nat := [0, 0, 3, 7, 15, 0, 0, 96, 224, 0, 512, 2016, 4095, 8191, 16383, 32767]
theorem b_grams.tab9 : rtab .any (opsOf Tryz.f204 9) = b_grams.T9 := by kernel_rfl
theorem b_grams.bits9 : waitsOk b_grams.T9.2 b_grams.B9 = true := by kernel_rfl
theorem b_grams.calls (k : Nat) (A00 : Option Addr) (c00 : Nat) (l00 : List ByteArray) (A01 : Option Addr) (c01 : Nat) (l01 : List (S70)) (A02 : Option Addr) (c02 : Nat) (l02 : List (S27)) (A03 : Option Addr) (c03 : Nat) (l03 : List (S89)) (a04 : Int) (a05 : Int) (a06 : Int) (A1 : Option Addr) (c1 : Nat) (l1 : List Int) (r : List (S27)) (w : World) (hr00 : Kd.C Kd.string w A00 l00.length l00) (hc00 : l00.length ≤ c00) (hr01 : Kd.C k70 w A01 l01.length l01) (hc01 : l01.length ≤ c01) (hr02 : Kd.C k27 w A02 l02.length l02) (hc02 : l02.length ≤ c02) (hr03 : Kd.C k89 w A03 l03.length l03) (hc03 : l03.length ≤ c03) (hr1 : Kd.C (Kd.int .i64) w A1 l1.length l1) (hc1 : l1.length ≤ c1) (h : b_grams.f k l00 l01 l02 l03 a04 a05 a06 l1 = some r) :
  Calls Tryz.prog 204 #[.agg #[.slice A00 l00.length c00, .slice A01 l01.length c01, .slice A02 l02.length c02, .slice A03 l03.length c03, .int .i64 a04, .int .i64 a05, .int .i64 a06], .slice A1 l1.length c1] w fun e w' => ∃ v0_ : Value, e = .returned (v0_) ∧ Kd.R k27 27 w' w.heap.size (fun _ => True) v0_ r ∧ Below w.heap.size w w' := by
 have hu29 := Tryz.underlying29; have hu70 := Tryz.underlying70; have hu27 := Tryz.underlying27; have HR00 := Sd.mk hr00; have HC00 := Sd.mk hc00; clear hr00 hc00; have HR01 := Sd.mk hr01; have HC01 := Sd.mk hc01; clear hr01 hc01; have HR02 := Sd.mk hr02; have HC02 := Sd.mk hc02; clear hr02 hc02; have HR03 := Sd.mk hr03; have HC03 := Sd.mk hc03; clear hr03 hc03; have HR1 := Sd.mk hr1; have HC1 := Sd.mk hc1; clear hr1 hc1; have HB := Sd.mk (Below.refl w.heap.size w)
 have H : (if 0 ≤ (l00.length : Int) then (if ((l00.length : Int) : Int).toNat ≤ 17592186044416 then (b_grams.l0 k l1 (List.replicate ((l00.length : Int) : Int).toNat z27) l01 (l01.length : Int) 0) else (none)) else (none)) = some r := h
 clear h
 by_cases c3 : 0 ≤ (l00.length : Int)
 ·rw [if_pos c3] at H
  have c3b0 := eq_true c3
  have c3b1 : decide (0 ≤ (l00.length : Int)) = true := decide_eq_true c3
  clear c3
  by_cases c4 : ((l00.length : Int) : Int).toNat ≤ 17592186044416
  ·rw [if_pos c4] at H
   have c4b0 := eq_true c4
   have c4b1 : decide (((l00.length : Int) : Int).toNat ≤ 17592186044416) = true := decide_eq_true c4
   clear c4
   obtain ⟨y153, hy153⟩ : ∃ y_ : List (S27), y_ = (List.replicate ((l00.length : Int) : Int).toNat z27) := ⟨_, rfl⟩
   replace H : (b_grams.l0 k l1 y153 l01 (l01.length : Int) 0) = some r := by first | (rw [hy153]; with_reducible exact H) | (have H2_ := (Option.bind_some _ _).symm.trans H; rw [hy153]; with_reducible exact H2_) | (have H2_ := (Option.bind_some _ _).symm.trans H; with_reducible exact H2_) | with_reducible exact H | (rw [hy153]; exact H) | exact H
   have Ny153 := Sd.mk hy153; clear hy153; have H' := Sd.mk H; clear H
   go_enter Tryz.func204, Tryz.ntmps204
   go_wp2_with (first | ((with_reducible refine gate_dst (N := 2) rfl ?_); refine box_event ?hg (N := 2) ?hd (cs := #[.slice A00 l00.length c00, .slice A01 l01.length c01, .slice A02 l02.length c02, .slice A03 l03.length c03, .int .i64 a04, .int .i64 a05, .int .i64 a06]) (t := 29) ?hr ?_; (case hd => rfl); (case hg => rfl); (case hr => exact tG); intro gb152 hg w5 hbox hb; have BK152 := Sd.mk (hbox); have GW152 := Sd.mk (bSz hg (bBl HB.out)); have GE152 := Sd.mk (bSz hg (bBl HB.out)); replace HB := Sd.mk (below_step (bBl HB.out) hb); clear hb hbox hg; obtain ⟨u6_0, u6_1, u6_2, u6_3, u6_4, u6_5, u6_6, o60, o61, o62, o63, o64, o65, o66⟩ := bc7 (w := w5) BK152.out) | ((with_reducible refine gate_dst (N := 13) rfl ?_); refine Kd.R_make k27 _ 27 rfl (N := 13) rfl 24 _ _ rfl (l00.length : Int) rfl rfl Tryz.underlying24 (.agg #[(.int .i64 0), (.int .i64 0)]) 16 info27 rfl (by decide) (by omega) z27 (ok := fun _ => True) (okp := fun _ => True) (k27_mkM _ _ _ z27 ) (fun _ hk => hk) trivial (tB) (Nat.le_trans (Nat.mul_le_mul_right _ (tB : (l00.length : Int).toNat ≤ 17592186044416)) (by omega)) (Below.refl _ _) (Nat.le_refl _) ?_; intro v154 w7 ho8 hb hg_ hnew_; clear hg_ hnew_; (first | rw [← Ny153.out] at ho8 | (simp only [Int.reduceToNat] at ho8; rw [← Ny153.out] at ho8)); have HO155 := Sd.mk (Kd.R_lower ho8 (below_size (bBl HB.out))); replace BK152 := Sd.mk (blk_below (bkA BK152.out) hb); replace HB := Sd.mk (below_step (bBl HB.out) hb); clear hb ho8; obtain ⟨u9_0, u9_1, u9_2, u9_3, u9_4, u9_5, u9_6, o90, o91, o92, o93, o94, o95, o96⟩ := bc7 (w := w7) BK152.out))
   go_loopg [17] k (fun kq v17 w' => ∃ (x51 : List (S27)) (x171 : Int), v17 = .int .i64 x171 ∧ Sd (b_grams.l0 kq l1 x51 l01 (l01.length : Int) x171 = some r) ∧ Sd (kq ≤ k) ∧ Sd (Kd.R k27 27 w' w.heap.size (fun _ => True) v154 x51) ∧ Sd (w'.heap[gb152]? = some (.cells #[(.slice A00 l00.length c00), (.slice A01 l01.length c01), (.slice A02 l02.length c02), (.slice A03 l03.length c03), .int .i64 a04, .int .i64 a05, .int .i64 a06] 29 (0, 0))) ∧ Sd (Below w.heap.size w w'))
   case atStart => exact ⟨(y153), (0), tS, H', ⟨Nat.le_refl _⟩, ⟨by (with_reducible repeat (first | apply Kd.R_alloc | apply Kd.R_drewN | apply Kd.R_drew)); exact HO155.out⟩, ⟨bkA BK152.out⟩, ⟨bBl HB.out⟩⟩
   case round =>
    clear H'; (try clear c1); (try clear c2); (try clear p2); (try clear c3); (try clear c3b0); (try clear c3b1); (try clear c4); (try clear c4b0); (try clear c4b1); (try clear u6_0 u6_1 u6_2 u6_3 u6_4 u6_5 u6_6); (try clear u9_0 u9_1 u9_2 u9_3 u9_4 u9_5 u9_6); (try clear o60 o61 o62 o63 o64 o65 o66); (try clear o90 o91 o92 o93 o94 o95 o96); obtain ⟨x51, x171, rfl, HA, HK1, HO_5, BK152, HB⟩ := hrel
    cases gk with
    | zero => exact absurd HA.out (by simp [b_grams.l0])
    | succ k1 =>
     have H := HA.out; clear HA
     simp only [b_grams.l0] at H
     by_cases c10 : x171 < (l01.length : Int)
     ·rw [if_pos c10] at H
      have c10b0 : decide (x171 < (l01.length : Int)) = true := decide_eq_true c10
      clear c10
      by_cases c11 : 0 ≤ x171
      ·rw [if_pos c11] at H
       have c11b0 : decide (0 ≤ x171) = true := decide_eq_true c11
       clear c11
       by_cases c12 : x171 < (l01.length : Int)
       ·rw [if_pos c12] at H
        have c12b0 : decide (x171 < (l01.length : Int)) = true := decide_eq_true c12
        clear c12; have H' := Sd.mk H; clear H
        have p156 : 0 ≤ (x171 : Int) := tB
        have q156 : x171 < (l01.length : Int) := tB
        obtain ⟨ad156, A1566, c1566, e156, hx1560, hx1561, hx1562, hx1563, hx1564, hx1565, hx1566, hl1566, hi1566⟩ := at_T70 HR01.out x171 p156 q156; cases e156; replace hx1560 := cU HB hx1560; replace hx1561 := cU HB hx1561; replace hx1562 := cU HB hx1562; replace hx1563 := cU HB hx1563; replace hx1564 := cU HB hx1564; replace hx1565 := cU HB hx1565; replace hx1566 := cU HB hx1566; have HR1566 := Sd.mk hi1566; have HC1566 := Sd.mk hl1566; clear hi1566 hl1566; replace p156 := eq_true p156; replace q156 := eq_true q156
        go_wp2_with (first | ((with_reducible refine gate_dst (N := 7) rfl ?_); refine box_event ?hg (N := 7) ?hd (cs := #[.string (⟨#[]⟩ : ByteArray), .int .i64 0, .int .i64 0, .int .i64 0, .int .i64 0, .int .i64 0, .slice none 0 0]) (t := 70) ?hr ?_; (case hd => rfl); (case hg => rfl); (case hr => exact tG); intro gb157 hg w13 hbox hb; replace HO_5 := Sd.mk (Kd.R_below (by (with_reducible repeat (first | apply Kd.R_alloc | apply Kd.R_drewN | apply Kd.R_drew)); exact HO_5.out) hb); have BK157 := Sd.mk (hbox); have GW157 := Sd.mk (bSz hg (bBl HB.out)); have GE157 := Sd.mk (bSz hg (bBl HB.out)); replace HB := Sd.mk (below_step (bBl HB.out) hb); have NB152157 := Sd.mk (bNl hg (bkA BK152.out)); have NB157152 := Sd.mk (bNg hg (bkA BK152.out)); replace BK152 := Sd.mk (blk_below (bkA BK152.out) hb); clear hb hbox hg; have hnb14 := NB157152.out; have hnc14 := NB152157.out; obtain ⟨u15_0, u15_1, u15_2, u15_3, u15_4, u15_5, u15_6, o150, o151, o152, o153, o154, o155, o156⟩ := bc7 (w := w13) BK157.out))
        go_loopg [25] k1 (fun kq v25 w' => ∃ (x52 : List (S27)) (x252 : Int), v25 = .int .i64 x252 ∧ Sd (b_grams.l1 kq l1 x52 x171 l01 (l01.length : Int) x171 ((rd_T70 l01 x171).f6) (((rd_T70 l01 x171).f6).length : Int) x252 = some r) ∧ Sd (kq ≤ k1) ∧ Sd (Kd.R k27 27 w' w.heap.size (fun _ => True) v154 x52) ∧ Sd (w'.heap[gb152]? = some (.cells #[(.slice A00 l00.length c00), (.slice (some ad156) l01.length c01), (.slice A02 l02.length c02), (.slice A03 l03.length c03), .int .i64 a04, .int .i64 a05, .int .i64 a06] 29 (0, 0))) ∧ Sd (w'.heap[gb157]? = some (.cells #[.string ((rd_T70 l01 x171).f0), .int .i64 ((rd_T70 l01 x171).f1), .int .i64 ((rd_T70 l01 x171).f2), .int .i64 ((rd_T70 l01 x171).f3), .int .i64 ((rd_T70 l01 x171).f4), .int .i64 ((rd_T70 l01 x171).f5), (.slice A1566 ((rd_T70 l01 x171).f6).length c1566)] 70 (0, 0))) ∧ Sd (Below w.heap.size w w'))
        case atStart => exact ⟨(x51), (0), tS, H', ⟨Nat.le_refl _⟩, ⟨by (with_reducible repeat (first | apply Kd.R_alloc | apply Kd.R_drewN | apply Kd.R_drew)); exact Kd.R_mono (Kd.R_far (p := ⟨gb157, 6, none⟩) (Kd.R_far (p := ⟨gb157, 5, none⟩) (Kd.R_far (p := ⟨gb157, 4, none⟩) (Kd.R_far (p := ⟨gb157, 3, none⟩) (Kd.R_far (p := ⟨gb157, 2, none⟩) (Kd.R_far (p := ⟨gb157, 1, none⟩) (Kd.R_far (p := ⟨gb157, 0, none⟩) (Kd.R_types HO_5.out BK157.out (by decide)) (fun _ hk => hk.2) (.string ((rd_T70 l01 x171).f0))) (fun _ hk => hk.2) (.int .i64 ((rd_T70 l01 x171).f1))) (fun _ hk => hk.2) (.int .i64 ((rd_T70 l01 x171).f2))) (fun _ hk => hk.2) (.int .i64 ((rd_T70 l01 x171).f3))) (fun _ hk => hk.2) (.int .i64 ((rd_T70 l01 x171).f4))) (fun _ hk => hk.2) (.int .i64 ((rd_T70 l01 x171).f5))) (fun _ hk => hk.2) (.slice A1566 ((rd_T70 l01 x171).f6).length c1566)) (fun _ hk => trivial)⟩, ⟨by refine bkZ ?_; refine blk_far ?_ NB152157.out _; refine bkZ ?_; refine blk_far ?_ NB152157.out _; refine bkZ ?_; refine blk_far ?_ NB152157.out _; refine bkZ ?_; refine blk_far ?_ NB152157.out _; refine bkZ ?_; refine blk_far ?_ NB152157.out _; refine bkZ ?_; refine blk_far ?_ NB152157.out _; refine bkZ ?_; refine blk_far ?_ NB152157.out _; refine bkZ ?_; exact BK152.out⟩, ⟨by refine bkZ ?_; refine blk_put (cs := #[.string ((rd_T70 l01 x171).f0), .int .i64 ((rd_T70 l01 x171).f1), .int .i64 ((rd_T70 l01 x171).f2), .int .i64 ((rd_T70 l01 x171).f3), .int .i64 ((rd_T70 l01 x171).f4), .int .i64 ((rd_T70 l01 x171).f5), .slice none 0 0]) ?_ 6 _ rfl; refine bkZ ?_; refine blk_put (cs := #[.string ((rd_T70 l01 x171).f0), .int .i64 ((rd_T70 l01 x171).f1), .int .i64 ((rd_T70 l01 x171).f2), .int .i64 ((rd_T70 l01 x171).f3), .int .i64 ((rd_T70 l01 x171).f4), .int .i64 0, .slice none 0 0]) ?_ 5 _ rfl; refine bkZ ?_; refine blk_put (cs := #[.string ((rd_T70 l01 x171).f0), .int .i64 ((rd_T70 l01 x171).f1), .int .i64 ((rd_T70 l01 x171).f2), .int .i64 ((rd_T70 l01 x171).f3), .int .i64 0, .int .i64 0, .slice none 0 0]) ?_ 4 _ rfl; refine bkZ ?_; refine blk_put (cs := #[.string ((rd_T70 l01 x171).f0), .int .i64 ((rd_T70 l01 x171).f1), .int .i64 ((rd_T70 l01 x171).f2), .int .i64 0, .int .i64 0, .int .i64 0, .slice none 0 0]) ?_ 3 _ rfl; refine bkZ ?_; refine blk_put (cs := #[.string ((rd_T70 l01 x171).f0), .int .i64 ((rd_T70 l01 x171).f1), .int .i64 0, .int .i64 0, .int .i64 0, .int .i64 0, .slice none 0 0]) ?_ 2 _ rfl; refine bkZ ?_; refine blk_put (cs := #[.string ((rd_T70 l01 x171).f0), .int .i64 0, .int .i64 0, .int .i64 0, .int .i64 0, .int .i64 0, .slice none 0 0]) ?_ 1 _ rfl; refine bkZ ?_; refine blk_put (cs := #[.string (⟨#[]⟩ : ByteArray), .int .i64 0, .int .i64 0, .int .i64 0, .int .i64 0, .int .i64 0, .slice none 0 0]) ?_ 0 _ rfl; refine bkZ ?_; exact BK157.out⟩, ⟨bBl HB.out⟩⟩
        case round =>
         clear H'; (try clear c1); (try clear p1); (try clear q1); (try clear hx1); (try clear c2); (try clear p2 p2); (try clear c3); (try clear c3b0); (try clear c3b1); (try clear c4); (try clear c4b0); (try clear c4b1); (try clear c10); (try clear c10b0); (try clear c11); (try clear c11b0); (try clear c12); (try clear c12b0); (try clear c14); (try clear c15); (try clear p15); (try clear q15); (try clear hx15); (try clear u15_0 u15_1 u15_2 u15_3 u15_4 u15_5 u15_6); (try clear u6_0 u6_1 u6_2 u6_3 u6_4 u6_5 u6_6); (try clear u9_0 u9_1 u9_2 u9_3 u9_4 u9_5 u9_6); (try clear o150 o151 o152 o153 o154 o155 o156); (try clear o60 o61 o62 o63 o64 o65 o66); (try clear o90 o91 o92 o93 o94 o95 o96); (try clear hx1560); (try clear hx1561); (try clear hx1562); (try clear hx1563); (try clear hx1564); (try clear hx1565); (try clear hx1566); (try clear p156); (try clear q156); obtain ⟨x52, x252, rfl, HA, HK2, HO_5, BK152, BK157, HB⟩ := hrel
         cases gk with
         | zero => exact absurd HA.out (by simp [b_grams.l1])
         | succ k2 =>
          have H := HA.out; clear HA
          simp only [b_grams.l1] at H
          by_cases c16 : x252 < (((rd_T70 l01 x171).f6).length : Int)
          ·rw [if_pos c16] at H
           have c16b0 : decide (x252 < (((rd_T70 l01 x171).f6).length : Int)) = true := decide_eq_true c16
           clear c16
           by_cases c17 : 0 ≤ x252
           ·rw [if_pos c17] at H
            have c17b0 : decide (0 ≤ x252) = true := decide_eq_true c17
            clear c17
            by_cases c18 : x252 < (((rd_T70 l01 x171).f6).length : Int)
            ·rw [if_pos c18] at H
             have c18b0 : decide (x252 < (((rd_T70 l01 x171).f6).length : Int)) = true := decide_eq_true c18
             clear c18
             by_cases c19 : x252 < (x52.length : Int)
             ·rw [if_pos c19] at H
              have c19b0 : decide (x252 < (x52.length : Int)) = true := decide_eq_true c19
              clear c19
              by_cases c20 : 0 ≤ x171
              ·rw [if_pos c20] at H
               have c20b0 : decide (0 ≤ x171) = true := decide_eq_true c20
               clear c20
               by_cases c21 : x171 < (l1.length : Int)
               ·rw [if_pos c21] at H
                have c21b0 : decide (x171 < (l1.length : Int)) = true := decide_eq_true c21
                clear c21
                obtain ⟨y162, hy162⟩ : ∃ y_ : List (S27), y_ = (x52.set (x252 : Int).toNat (⟨wrap64 (((rd_T27 x52 x252).f0) + (wrap64 ((rd l1 x171) * ((rd_T27 ((rd_T70 l01 x171).f6) x252).f0)))), (rd_T27 x52 x252).f1⟩ : S27)) := ⟨_, rfl⟩
                replace H : (b_grams.l1 k2 l1 (y162.set (x252 : Int).toNat (⟨(rd_T27 y162 x252).f0, wrap64 (((rd_T27 y162 x252).f1) + (wrap64 ((rd l1 x171) * ((rd_T27 ((rd_T70 l01 x171).f6) x252).f1))))⟩ : S27)) x171 l01 (l01.length : Int) x171 ((rd_T70 l01 x171).f6) (((rd_T70 l01 x171).f6).length : Int) (wrap64 (x252 + 1))) = some r := by first | (rw [hy162]; with_reducible exact H) | (have H2_ := (Option.bind_some _ _).symm.trans H; rw [hy162]; with_reducible exact H2_) | (have H2_ := (Option.bind_some _ _).symm.trans H; with_reducible exact H2_) | with_reducible exact H | (rw [hy162]; exact H) | exact H
                have Ny162 := Sd.mk hy162; clear hy162
                obtain ⟨y165, hy165⟩ : ∃ y_ : List (S27), y_ = (y162.set (x252 : Int).toNat (⟨(rd_T27 y162 x252).f0, wrap64 (((rd_T27 y162 x252).f1) + (wrap64 ((rd l1 x171) * ((rd_T27 ((rd_T70 l01 x171).f6) x252).f1))))⟩ : S27)) := ⟨_, rfl⟩
                replace H : (b_grams.l1 k2 l1 y165 x171 l01 (l01.length : Int) x171 ((rd_T70 l01 x171).f6) (((rd_T70 l01 x171).f6).length : Int) (wrap64 (x252 + 1))) = some r := by first | (rw [hy165]; with_reducible exact H) | (have H2_ := (Option.bind_some _ _).symm.trans H; rw [hy165]; with_reducible exact H2_) | (have H2_ := (Option.bind_some _ _).symm.trans H; with_reducible exact H2_) | with_reducible exact H | (rw [hy165]; exact H) | exact H
                have Ny165 := Sd.mk hy165; clear hy165; have H' := Sd.mk H; clear H
                have p158 : 0 ≤ (x252 : Int) := tB
                have q158 : x252 < (((rd_T70 l01 x171).f6).length : Int) := tB
                obtain ⟨ad158, e158, hx1580, hx1581⟩ := at_T27 HR1566.out x252 p158 q158; cases e158; replace hx1580 := cU HB hx1580; replace hx1581 := cU HB hx1581; replace p158 := eq_true p158; replace q158 := eq_true q158
                try go_wp2_with (first | ((with_reducible refine gate_dst (N := 9) rfl ?_); refine box_event ?hg (N := 9) ?hd (cs := #[.int .i64 0, .int .i64 0]) (t := 27) ?hr ?_; (case hd => rfl); (case hg => rfl); (case hr => exact tG); intro gb159 hg w24 hbox hb; replace HO_5 := Sd.mk (Kd.R_below (Kd.R_elderB (by (with_reducible repeat (first | apply Kd.R_alloc | apply Kd.R_drewN | apply Kd.R_drew)); exact HO_5.out) gb159 (Nat.le_of_eq hg.symm)) hb); have BK159 := Sd.mk (hbox); have GW159 := Sd.mk (bSz hg (bBl HB.out)); have GE159 := Sd.mk (bSz hg (bBl HB.out)); replace HB := Sd.mk (below_step (bBl HB.out) hb); have NB152159 := Sd.mk (bNl hg (bkA BK152.out)); have NB159152 := Sd.mk (bNg hg (bkA BK152.out)); replace BK152 := Sd.mk (blk_below (bkA BK152.out) hb); have NB157159 := Sd.mk (bNl hg (bkA BK157.out)); have NB159157 := Sd.mk (bNg hg (bkA BK157.out)); replace BK157 := Sd.mk (blk_below (bkA BK157.out) hb); clear hb hbox hg; have hnb25 := NB159152.out; have hnc25 := NB152159.out; have hnb26 := NB159157.out; have hnc26 := NB157159.out; obtain ⟨u27_0, u27_1, o270, o271⟩ := bc2 (w := w24) BK159.out))
                have n0_ : Sd (Kd.R k27 27 ((w24.setCell ⟨gb159, 0, none⟩ (.int .i64 ((rd_T27 ((rd_T70 l01 x171).f6) x252).f0))).setCell ⟨gb159, 1, none⟩ (.int .i64 ((rd_T27 ((rd_T70 l01 x171).f6) x252).f1))) w.heap.size (fun k_ => k_ ≠ gb159) v154 x52) := ⟨by (with_reducible repeat (first | apply Kd.R_alloc | apply Kd.R_drewN | apply Kd.R_drew)); exact Kd.R_mono (Kd.R_far (p := ⟨gb159, 1, none⟩) (Kd.R_far (p := ⟨gb159, 0, none⟩) (Kd.R_mono HO_5.out (fun k_ hk => (⟨hk, hk.2⟩ : _ ∧ k_ ≠ gb159))) (fun _ hk => hk.2) (.int .i64 ((rd_T27 ((rd_T70 l01 x171).f6) x252).f0))) (fun _ hk => hk.2) (.int .i64 ((rd_T27 ((rd_T70 l01 x171).f6) x252).f1))) (fun _ hk => hk.1.2)⟩
                have n1_ : Sd (((w24.setCell ⟨gb159, 0, none⟩ (.int .i64 ((rd_T27 ((rd_T70 l01 x171).f6) x252).f0))).setCell ⟨gb159, 1, none⟩ (.int .i64 ((rd_T27 ((rd_T70 l01 x171).f6) x252).f1))).heap[gb152]? = some (.cells #[.slice A00 l00.length c00, .slice (some ad156) l01.length c01, .slice A02 l02.length c02, .slice A03 l03.length c03, .int .i64 a04, .int .i64 a05, .int .i64 a06] 29 (0, 0))) := ⟨by refine bkZ ?_; refine blk_far ?_ NB152159.out _; refine bkZ ?_; refine blk_far ?_ NB152159.out _; refine bkZ ?_; exact BK152.out⟩
                have n2_ : Sd (((w24.setCell ⟨gb159, 0, none⟩ (.int .i64 ((rd_T27 ((rd_T70 l01 x171).f6) x252).f0))).setCell ⟨gb159, 1, none⟩ (.int .i64 ((rd_T27 ((rd_T70 l01 x171).f6) x252).f1))).heap[gb157]? = some (.cells #[.string ((rd_T70 l01 x171).f0), .int .i64 ((rd_T70 l01 x171).f1), .int .i64 ((rd_T70 l01 x171).f2), .int .i64 ((rd_T70 l01 x171).f3), .int .i64 ((rd_T70 l01 x171).f4), .int .i64 ((rd_T70 l01 x171).f5), .slice (some ad158) ((rd_T70 l01 x171).f6).length c1566] 70 (0, 0))) := ⟨by refine bkZ ?_; refine blk_far ?_ NB157159.out _; refine bkZ ?_; refine blk_far ?_ NB157159.out _; refine bkZ ?_; exact BK157.out⟩
                have n3_ : Sd (((w24.setCell ⟨gb159, 0, none⟩ (.int .i64 ((rd_T27 ((rd_T70 l01 x171).f6) x252).f0))).setCell ⟨gb159, 1, none⟩ (.int .i64 ((rd_T27 ((rd_T70 l01 x171).f6) x252).f1))).heap[gb159]? = some (.cells #[.int .i64 ((rd_T27 ((rd_T70 l01 x171).f6) x252).f0), .int .i64 ((rd_T27 ((rd_T70 l01 x171).f6) x252).f1)] 27 (0, 0))) := ⟨by refine bkZ ?_; refine blk_put (cs := #[.int .i64 ((rd_T27 ((rd_T70 l01 x171).f6) x252).f0), .int .i64 0]) ?_ 1 _ rfl; refine bkZ ?_; refine blk_put (cs := #[.int .i64 0, .int .i64 0]) ?_ 0 _ rfl; refine bkZ ?_; exact BK159.out⟩
                have n4_ : Sd (Below w.heap.size w ((w24.setCell ⟨gb159, 0, none⟩ (.int .i64 ((rd_T27 ((rd_T70 l01 x171).f6) x252).f0))).setCell ⟨gb159, 1, none⟩ (.int .i64 ((rd_T27 ((rd_T70 l01 x171).f6) x252).f1)))) := ⟨bBl HB.out⟩
                (try clear HO_5)
                (try clear BK152)
                (try clear BK157)
                (try clear BK159)
                (try clear HB)
                generalize ((w24.setCell ⟨gb159, 0, none⟩ (.int .i64 ((rd_T27 ((rd_T70 l01 x171).f6) x252).f0))).setCell ⟨gb159, 1, none⟩ (.int .i64 ((rd_T27 ((rd_T70 l01 x171).f6) x252).f1))) = w28 at n0_ n1_ n2_ n3_ n4_ ⊢
                have HO_5 := n0_; have BK152 := n1_; have BK157 := n2_; have BK159 := n3_; have HB := n4_; clear n0_ n1_ n2_ n3_ n4_; replace HO_5 := Sd.mk (Kd.R_drew HO_5.out); replace BK152 := Sd.mk (blk_drew BK152.out); replace BK157 := Sd.mk (blk_drew BK157.out); replace BK159 := Sd.mk (blk_drew BK159.out); replace HB := Sd.mk (below_drew1 HB.out); obtain ⟨Ao30, co30, eo30⟩ := Kd.R_slice HO_5.out
                (first | subst eo30 | (injection eo30 with f1_ f2_ f3_; have f4_ := f1_.symm; have f5_ := f3_.symm; clear f1_ f2_ f3_; subst f4_; subst f5_))
                have p160 : 0 ≤ (x252 : Int) := tB
                have q160 : x252 < (x52.length : Int) := tB
                obtain ⟨ad160, e160, hx1600, hx1601⟩ := at_T27 (Kd.R_reads' HO_5.out).2.2 x252 p160 q160; cases e160; replace p160 := eq_true p160; replace q160 := eq_true q160
                have p161 : 0 ≤ (x171 : Int) := tB
                have q161 : x171 < (l1.length : Int) := tB
                obtain ⟨ad161, e161, hx1610⟩ := Kd.at_int HR1.out x171 p161 q161; have hw1610 := hx1610; cases e161; replace hx1610 := cU HB hx1610; replace p161 := eq_true p161; replace q161 := eq_true q161
                have p22 : 0 ≤ (x252 : Int) := tB
                have q22 : (x252 : Int) < ((x52.length : Int) : Int) := tB
                obtain ⟨go22, co22, eo22, gb22, gl22, cl22, HG22⟩ := Kd.R_form HO_5.out (by omega)
                (first | cases eo22 | (injection eo22 with ea_ en_ ec_; (first | subst ea_ | (injection ea_ with ea_; subst ea_)); subst ec_; clear en_))
                have GB22 := Sd.mk gb22; have GG22 := Sd.mk HG22; clear gb22 gl22 HG22
                (first | simp only [add_plain] at hx1600 | skip)
                (first | simp only [add_plain] at hx1601 | skip)
                obtain ⟨ce22, hcl22, hM22, hcc22, hfr22⟩ := Kd.R_elem HO_5.out z27 (x252 : Int) p22 q22; obtain rfl := k27_openM hM22
                have hx220 : World.cell? _ ⟨go22, (x252 : Int).toNat * 2, none⟩ = some (.int .i64 ((rd_T27 x52 x252).f0)) := hcc22 0 _ rfl
                have hx221 : World.cell? _ ⟨go22, (x252 : Int).toNat * 2 + 1, none⟩ = some (.int .i64 ((rd_T27 x52 x252).f1)) := hcc22 1 _ rfl
                have hf220 : World.frozen? _ ⟨go22, (x252 : Int).toNat * 2, none⟩ = false := hfr22 0
                have hf221 : World.frozen? _ ⟨go22, (x252 : Int).toNat * 2 + 1, none⟩ = false := hfr22 1
                clear hcl22 hcc22 hfr22 hM22; replace p22 := eq_true p22; replace q22 := eq_true q22
                obtain ⟨ce31, hcl31, hM31, hcc31, hfr31⟩ := Kd.R_elem HO_5.out z27 (x252 : Int) (tB) (by have h_ : (x252 : Int) < ((x52.length : Int) : Int) := tB; first | exact h_ | (have e_ := (Kd.R_reads' HO_5.out).1; omega) | simpa using h_)
                obtain rfl := k27_openM hM31
                have HP31 := (Kd.R_seg HO_5.out (x252 : Int) (tB) (by have h_ : (x252 : Int) < ((x52.length : Int) : Int) := tB; first | exact h_ | (have e_ := (Kd.R_reads' HO_5.out).1; omega) | simpa using h_) (seg := [.int .i64 (wrap64 (((rd_T27 x52 x252).f0) + (wrap64 ((rd l1 x171) * ((rd_T27 ((rd_T70 l01 x171).f6) x252).f0)))))]) (j := 0) hcl31 hcc31 (show 1 ≤ 2 from by decide) (x' := (⟨wrap64 (((rd_T27 x52 x252).f0) + (wrap64 ((rd l1 x171) * ((rd_T27 ((rd_T70 l01 x171).f6) x252).f0)))), (rd_T27 x52 x252).f1⟩ : S27)) (k27_mkM _ _ _ (⟨wrap64 (((rd_T27 x52 x252).f0) + (wrap64 ((rd l1 x171) * ((rd_T27 ((rd_T70 l01 x171).f6) x252).f0)))), (rd_T27 x52 x252).f1⟩ : S27) ) (fun _ hk => hk)).1
                rw [← Ny162.out] at HP31
                have HQ31 := Sd.mk HP31; clear hcl31 hcc31 hfr31 hM31 HP31
                refine start_ (n := 16) (S := fun w' => w'.cell? ⟨gb159, 0, none⟩ = some (.int .i64 ((rd_T27 ((rd_T70 l01 x171).f6) x252).f0)) ∧ w'.cell? ⟨gb159, 1, none⟩ = some (.int .i64 ((rd_T27 ((rd_T70 l01 x171).f6) x252).f1)) ∧ w'.cell? ⟨go22, ((x252).toNat * 2), none⟩ = some (.int .i64 ((rd_T27 x52 x252).f0)) ∧ w'.cell? ⟨go22, ((x252).toNat * 2) + 1, none⟩ = some (.int .i64 ((rd_T27 x52 x252).f1)) ∧ w'.cell? (ad161.add (x171).toNat) = some (.int .i64 (rd l1 x171))) (ds := [15]) (bA 16 0) (by kernel_rfl) rfl rfl ⟨(blk_cell BK159.out 0).trans rfl, (blk_cell BK159.out 1).trans rfl, hx1600, hx1601, (cU HB hw1610)⟩ (fun hHeld => ?_); refine with_tabW b_grams.tab8 b_grams.bits8 (fun HT_ HW_ => ?_)
                generalize w28.drew = w29 at HO_5 BK152 BK157 BK159 HB GG22 HQ31 hf220 hf221 hx1600 hx1601 hx1610 hx220 hx221 hHeld ⊢
                refine pQ 0 (some 30) (bA 16 1) ?_
                refine pQ 1 (some 31) (bA 16 3) ?_
                refine pQ 2 (some 32) (bA 16 7) ?_
                refine pQ 3 (some 33) (bA 16 15) ?_
                refine pQ 5 (some 35) (bA 16 47) ?_
                refine pQ 6 (some 36) (bA 16 111) ?_
                refine pQ 7 (some 37) (bA 16 239) ?_
                refine pQ 9 (some 39) (bA 16 751) ?_
                refine tQ 4 (some 34) (bA 16 767) ?_
                refine tQ 8 (some 38) (bA 16 1023) ?_
                refine tQ 10 (some 40) (bA 16 2047) ?_
                refine pQ 11 (some 41) (bA 16 4095) ?_
                refine pQ 12 (some 42) (bA 16 8191) ?_
                refine pQ 13 (some 43) (bA 16 16383) ?_
                refine pQ 14 (some 44) (bA 16 32767) ?_
                refine last_ (i := 15) (N := none) (bA 16 65535) rfl rfl (one_of HT_.out (by kernel_rfl)) (by decide) (fun K hK => ?_)
                refine skip_ (w1 := ?_) (by rfl) rfl ?_ ?_
                rotate_left
                ·go_simp
                 rfl
                refine hK.out _ _ ?_
                clear hK K
                refine done_ (done_of HT_.out (by kernel_rfl)) ?_
                try go_wp2
                have n0_ : Sd (Kd.R k27 27 (w29.setCell ⟨go22, (x252 : Int).toNat * 2, none⟩ (.int .i64 (wrap64 (((rd_T27 x52 x252).f0) + (wrap64 ((rd l1 x171) * ((rd_T27 ((rd_T70 l01 x171).f6) x252).f0))))))) w.heap.size (fun k_ => k_ ≠ gb159) (.slice (some ⟨go22, 0, none⟩) x52.length co30) y162) := ⟨by (with_reducible repeat (first | apply Kd.R_alloc | apply Kd.R_drewN | apply Kd.R_drew)); exact HQ31.out⟩
                have n1_ : Sd ((w29.setCell ⟨go22, (x252 : Int).toNat * 2, none⟩ (.int .i64 (wrap64 (((rd_T27 x52 x252).f0) + (wrap64 ((rd l1 x171) * ((rd_T27 ((rd_T70 l01 x171).f6) x252).f0))))))).heap[gb152]? = some (.cells #[.slice A00 l00.length c00, .slice (some ad156) l01.length c01, .slice A02 l02.length c02, .slice A03 l03.length c03, .int .i64 a04, .int .i64 a05, .int .i64 a06] 29 (0, 0))) := ⟨by refine bkZ ?_; refine blk_far ?_ (by have h_ := Kd.R_ne HO_5.out BK152.out (by decide); intro e_; exact h_ (by rw [e_]; rfl)) _; refine bkZ ?_; exact BK152.out⟩
                have n2_ : Sd ((w29.setCell ⟨go22, (x252 : Int).toNat * 2, none⟩ (.int .i64 (wrap64 (((rd_T27 x52 x252).f0) + (wrap64 ((rd l1 x171) * ((rd_T27 ((rd_T70 l01 x171).f6) x252).f0))))))).heap[gb157]? = some (.cells #[.string ((rd_T70 l01 x171).f0), .int .i64 ((rd_T70 l01 x171).f1), .int .i64 ((rd_T70 l01 x171).f2), .int .i64 ((rd_T70 l01 x171).f3), .int .i64 ((rd_T70 l01 x171).f4), .int .i64 ((rd_T70 l01 x171).f5), .slice (some ad158) ((rd_T70 l01 x171).f6).length c1566] 70 (0, 0))) := ⟨by refine bkZ ?_; refine blk_far ?_ (by have h_ := Kd.R_ne HO_5.out BK157.out (by decide); intro e_; exact h_ (by rw [e_]; rfl)) _; refine bkZ ?_; exact BK157.out⟩
                have n3_ : Sd ((w29.setCell ⟨go22, (x252 : Int).toNat * 2, none⟩ (.int .i64 (wrap64 (((rd_T27 x52 x252).f0) + (wrap64 ((rd l1 x171) * ((rd_T27 ((rd_T70 l01 x171).f6) x252).f0))))))).heap[gb159]? = some (.cells #[.int .i64 ((rd_T27 ((rd_T70 l01 x171).f6) x252).f0), .int .i64 ((rd_T27 ((rd_T70 l01 x171).f6) x252).f1)] 27 (0, 0))) := ⟨by refine bkZ ?_; refine blk_far ?_ (by have h_ := Kd.R_away HO_5.out (fun _ hk => hk); intro e_; exact h_ (by rw [e_]; rfl)) _; refine bkZ ?_; exact BK159.out⟩
                have n4_ : Sd (Below w.heap.size w (w29.setCell ⟨go22, (x252 : Int).toNat * 2, none⟩ (.int .i64 (wrap64 (((rd_T27 x52 x252).f0) + (wrap64 ((rd l1 x171) * ((rd_T27 ((rd_T70 l01 x171).f6) x252).f0)))))))) := ⟨bBl HB.out⟩
                (try clear HO_5)
                (try clear BK152)
                (try clear BK157)
                (try clear BK159)
                (try clear HB)
                generalize (w29.setCell ⟨go22, (x252 : Int).toNat * 2, none⟩ (.int .i64 (wrap64 (((rd_T27 x52 x252).f0) + (wrap64 ((rd l1 x171) * ((rd_T27 ((rd_T70 l01 x171).f6) x252).f0))))))) = w32 at n0_ n1_ n2_ n3_ n4_ ⊢
                have HO_5 := n0_; have BK152 := n1_; have BK157 := n2_; have BK159 := n3_; have HB := n4_; clear n0_ n1_ n2_ n3_ n4_; replace HO_5 := Sd.mk (Kd.R_drew HO_5.out); replace BK152 := Sd.mk (blk_drew BK152.out); replace BK157 := Sd.mk (blk_drew BK157.out); replace BK159 := Sd.mk (blk_drew BK159.out); replace HB := Sd.mk (below_drew1 HB.out)
                have p163 : 0 ≤ (x252 : Int) := tB
                have q163 : x252 < (y162.length : Int) := (by have h_ : (x252 : Int) < ((x52.length : Int) : Int) := tB; first | (have e_ := (Kd.R_reads' HO_5.out).1; omega) | simpa only [Ny162.out, List.length_set] using h_)
                have ql163 : ((x252 : Int) < ((x52.length : Int) : Int)) = True := eq_true (tB)
                obtain ⟨ad163, e163, hx1630, hx1631⟩ := at_T27 (Kd.R_reads' HO_5.out).2.2 x252 p163 q163
                obtain rfl : (⟨go22, 0, none⟩ : Addr) = ad163 := (by injection e163)
                (first | simp only [add_plain] at hx1630 | simp only [add_at] at hx1630 | simp only [Addr.add, Nat.zero_add] at hx1630 | skip)
                (first | simp only [add_plain] at hx1631 | simp only [add_at] at hx1631 | simp only [Addr.add, Nat.zero_add] at hx1631 | skip)
                replace p163 := eq_true p163; replace q163 := eq_true q163
                have p164 : 0 ≤ (x171 : Int) := tB
                have q164 : x171 < (l1.length : Int) := tB
                obtain ⟨ad164, e164, hx1640⟩ := Kd.at_int HR1.out x171 p164 q164; have hw1640 := hx1640
                obtain rfl : ad161 = ad164 := (by injection e164)
                replace hx1640 := cU HB hx1640; replace p164 := eq_true p164; replace q164 := eq_true q164
                have p23 : 0 ≤ (x252 : Int) := tB
                have q23 : (x252 : Int) < ((x52.length : Int) : Int) := tB
                obtain ⟨ce23, hcl23, hM23, hcc23, hfr23⟩ := Kd.R_elem HO_5.out z27 (x252 : Int) p23 q23; obtain rfl := k27_openM hM23
                have hx230 : World.cell? _ ⟨go22, (x252 : Int).toNat * 2, none⟩ = some (.int .i64 ((rd_T27 y162 x252).f0)) := hcc23 0 _ rfl
                have hx231 : World.cell? _ ⟨go22, (x252 : Int).toNat * 2 + 1, none⟩ = some (.int .i64 ((rd_T27 y162 x252).f1)) := hcc23 1 _ rfl
                have hf230 : World.frozen? _ ⟨go22, (x252 : Int).toNat * 2, none⟩ = false := hfr23 0
                have hf231 : World.frozen? _ ⟨go22, (x252 : Int).toNat * 2 + 1, none⟩ = false := hfr23 1
                clear hcl23 hcc23 hfr23 hM23; replace p23 := eq_true p23; replace q23 := eq_true q23
                obtain ⟨ce34, hcl34, hM34, hcc34, hfr34⟩ := Kd.R_elem HO_5.out z27 (x252 : Int) (tB) (by have h_ : (x252 : Int) < ((x52.length : Int) : Int) := tB; first | exact h_ | (have e_ := (Kd.R_reads' HO_5.out).1; omega) | simpa using h_)
                obtain rfl := k27_openM hM34
                have HP34 := (Kd.R_seg HO_5.out (x252 : Int) (tB) (by have h_ : (x252 : Int) < ((x52.length : Int) : Int) := tB; first | exact h_ | (have e_ := (Kd.R_reads' HO_5.out).1; omega) | simpa using h_) (seg := [.int .i64 (wrap64 (((rd_T27 y162 x252).f1) + (wrap64 ((rd l1 x171) * ((rd_T27 ((rd_T70 l01 x171).f6) x252).f1)))))]) (j := 1) hcl34 hcc34 (show 2 ≤ 2 from by decide) (x' := (⟨(rd_T27 y162 x252).f0, wrap64 (((rd_T27 y162 x252).f1) + (wrap64 ((rd l1 x171) * ((rd_T27 ((rd_T70 l01 x171).f6) x252).f1))))⟩ : S27)) (k27_mkM _ _ _ (⟨(rd_T27 y162 x252).f0, wrap64 (((rd_T27 y162 x252).f1) + (wrap64 ((rd l1 x171) * ((rd_T27 ((rd_T70 l01 x171).f6) x252).f1))))⟩ : S27) ) (fun _ hk => hk)).1
                rw [← Ny165.out] at HP34
                have HQ34 := Sd.mk HP34; clear hcl34 hcc34 hfr34 hM34 HP34
                refine start_ (n := 16) (S := fun w' => w'.cell? ⟨gb159, 0, none⟩ = some (.int .i64 ((rd_T27 ((rd_T70 l01 x171).f6) x252).f0)) ∧ w'.cell? ⟨gb159, 1, none⟩ = some (.int .i64 ((rd_T27 ((rd_T70 l01 x171).f6) x252).f1)) ∧ w'.cell? ⟨go22, (x252).toNat * 2, none⟩ = some (.int .i64 ((rd_T27 y162 x252).f0)) ∧ w'.cell? ⟨go22, (x252).toNat * 2 + 1, none⟩ = some (.int .i64 ((rd_T27 y162 x252).f1)) ∧ w'.cell? (ad161.add (x171).toNat) = some (.int .i64 (rd l1 x171))) (ds := [15]) (bA 16 0) (by kernel_rfl) rfl rfl ⟨(blk_cell BK159.out 0).trans rfl, (blk_cell BK159.out 1).trans rfl, hx1630, hx1631, (cU HB hw1640)⟩ (fun hHeld => ?_); refine with_tabW b_grams.tab9 b_grams.bits9 (fun HT_ HW_ => ?_)
                generalize w32.drew = w33 at HO_5 BK152 BK157 BK159 HB HQ31 HQ34 hf230 hf231 hx1630 hx1631 hx1640 hx230 hx231 hHeld ⊢
                refine pQ 0 (some 45) (bA 16 1) ?_
                refine pQ 1 (some 46) (bA 16 3) ?_
                refine pQ 2 (some 47) (bA 16 7) ?_
                refine pQ 3 (some 48) (bA 16 15) ?_
                refine pQ 5 (some 50) (bA 16 47) ?_
                refine pQ 6 (some 51) (bA 16 111) ?_
                refine pQ 7 (some 52) (bA 16 239) ?_
                refine pQ 9 (some 54) (bA 16 751) ?_
                refine tQ 4 (some 49) (bA 16 767) ?_
                refine tQ 8 (some 53) (bA 16 1023) ?_
                refine tQ 10 (some 55) (bA 16 2047) ?_
                refine pQ 11 (some 56) (bA 16 4095) ?_
                refine pQ 12 (some 57) (bA 16 8191) ?_
                refine pQ 13 (some 58) (bA 16 16383) ?_
                refine pQ 14 (some 59) (bA 16 32767) ?_
                refine last_ (i := 15) (N := none) (bA 16 65535) rfl rfl (one_of HT_.out (by kernel_rfl)) (by decide) (fun K hK => ?_)
                refine skip_ (w1 := ?_) (by rfl) rfl ?_ ?_
                rotate_left
                ·go_simp
                 rfl
                refine hK.out _ _ ?_
                clear hK K
                refine done_ (done_of HT_.out (by kernel_rfl)) ?_
                try go_wp2
                go_roundg k2
                case measure => have := HK1.out; have := HK2.out; omega
                case rel => exact ⟨(y165), (wrap64 (x252 + 1)), tS, H', ⟨by have := HK1.out; have := HK2.out; omega⟩, ⟨by (with_reducible repeat (first | apply Kd.R_alloc | apply Kd.R_drewN | apply Kd.R_drew)); exact Kd.R_mono HQ34.out (fun _ hk => trivial)⟩, ⟨by refine bkZ ?_; refine blk_far ?_ (by have h_ := Kd.R_ne HO_5.out BK152.out (by decide); intro e_; exact h_ (by rw [e_]; rfl)) _; refine bkZ ?_; exact BK152.out⟩, ⟨by refine bkZ ?_; refine blk_far ?_ (by have h_ := Kd.R_ne HO_5.out BK157.out (by decide); intro e_; exact h_ (by rw [e_]; rfl)) _; refine bkZ ?_; exact BK157.out⟩, ⟨bBl HB.out⟩⟩
               ·rw [if_neg c21] at H
                exact absurd H (by simp)
              ·rw [if_neg c20] at H
               exact absurd H (by simp)
             ·rw [if_neg c19] at H
              exact absurd H (by simp)
            ·rw [if_neg c18] at H
             exact absurd H (by simp)
           ·rw [if_neg c17] at H
            exact absurd H (by simp)
          ·rw [if_neg c16] at H
           have c16b0 : decide (x252 < (((rd_T70 l01 x171).f6).length : Int)) = false := decide_eq_false c16
           clear c16; have H' := Sd.mk H; clear H
           go_wp2
           go_roundg k2
           case measure => have := HK1.out; have := HK2.out; omega
           case rel => exact ⟨(x52), (wrap64 (x171 + 1)), tS, H', ⟨by have := HK1.out; have := HK2.out; omega⟩, ⟨by (with_reducible repeat (first | apply Kd.R_alloc | apply Kd.R_drewN | apply Kd.R_drew)); exact HO_5.out⟩, ⟨bkA BK152.out⟩, ⟨bBl HB.out⟩⟩
       ·rw [if_neg c12] at H
        exact absurd H (by simp)
      ·rw [if_neg c11] at H
       exact absurd H (by simp)
     ·rw [if_neg c10] at H
      have c10b0 : decide (x171 < (l01.length : Int)) = false := decide_eq_false c10
      clear c10; obtain rfl := Option.some.inj H
      go_wp2
      go_ret
      exact ⟨_, tE, by (with_reducible repeat (first | apply Kd.R_alloc | apply Kd.R_drewN | apply Kd.R_drew)); exact HO_5.out, bBl HB.out⟩
  ·rw [if_neg c4] at H
   exact absurd H (by simp)
 ·rw [if_neg c3] at H
  exact absurd H (by simp)
end
section
open Go.RowKit Go.Proofs.YtljfljekcpdpiaaGreatW.PrintWords Go.Proofs.YtljfljekcpdpiaaGreatW.PrintLast Go.Proofs.YtljfljekcpdpiaaGreatW.PrintMore
def rf_Recipe.l0 : Nat → List Int → Int → Option (Int)
 | 0, _, _ => none
 | k + 1, x1, x5 => if x5 < (x1.length : Int) then (if 0 ≤ x5 then (if (rd x1 x5) < 0 then (some 1) else (if (rd x1 x5) > 10000 then (some 1) else (rf_Recipe.l0 k x1 (wrap64 (x5 + 1))))) else (none)) else (some 0)
def rf_Recipe.f (k : Nat) (l00 : List ByteArray) (l01 : List (S70)) (l02 : List (S27)) (l03 : List (S89)) (a04 : Int) (a05 : Int) (a06 : Int) (l1 : List Int) : Option (Int) := if (l1.length : Int) = (l01.length : Int) then (rf_Recipe.l0 k l1 0) else (some 1)
theorem rf_Recipe.calls (k : Nat) (A00 : Option Addr) (c00 : Nat) (l00 : List ByteArray) (A01 : Option Addr) (c01 : Nat) (l01 : List (S70)) (A02 : Option Addr) (c02 : Nat) (l02 : List (S27)) (A03 : Option Addr) (c03 : Nat) (l03 : List (S89)) (a04 : Int) (a05 : Int) (a06 : Int) (A1 : Option Addr) (c1 : Nat) (l1 : List Int) (r : Int) (w : World) (hr00 : Kd.C Kd.string w A00 l00.length l00) (hc00 : l00.length ≤ c00) (hr01 : Kd.C k70 w A01 l01.length l01) (hc01 : l01.length ≤ c01) (hr02 : Kd.C k27 w A02 l02.length l02) (hc02 : l02.length ≤ c02) (hr03 : Kd.C k89 w A03 l03.length l03) (hc03 : l03.length ≤ c03) (hr1 : Kd.C (Kd.int .i64) w A1 l1.length l1) (hc1 : l1.length ≤ c1) (h : rf_Recipe.f k l00 l01 l02 l03 a04 a05 a06 l1 = some r) :
  Calls Tryz.prog 148 #[.agg #[.slice A00 l00.length c00, .slice A01 l01.length c01, .slice A02 l02.length c02, .slice A03 l03.length c03, .int .i64 a04, .int .i64 a05, .int .i64 a06], .slice A1 l1.length c1] w fun e w' => e = .returned (.int .i64 r) ∧ Below w.heap.size w w' := by
 have hu29 := Tryz.underlying29; have HR00 := Sd.mk hr00; have HC00 := Sd.mk hc00; clear hr00 hc00; have HR01 := Sd.mk hr01; have HC01 := Sd.mk hc01; clear hr01 hc01; have HR02 := Sd.mk hr02; have HC02 := Sd.mk hc02; clear hr02 hc02; have HR03 := Sd.mk hr03; have HC03 := Sd.mk hc03; clear hr03 hc03; have HR1 := Sd.mk hr1; have HC1 := Sd.mk hc1; clear hr1 hc1; have HB := Sd.mk (Below.refl w.heap.size w)
 have H : (if (l1.length : Int) = (l01.length : Int) then (rf_Recipe.l0 k l1 0) else (some 1)) = some r := h
 clear h
 by_cases c3 : (l1.length : Int) = (l01.length : Int)
 ·rw [if_pos c3] at H
  have c3b0 : ((l1.length : Int) == (l01.length : Int)) = true := beq_iff_eq.mpr c3
  have c3b1 : ((l1.length : Int) != (l01.length : Int)) = false := bne_eq_false_iff_eq.mpr c3
  have c3b2 : (l1.length == l01.length) = true := by first | simpa using c3 | (simp at c3 ⊢; omega)
  clear c3; have H' := Sd.mk H; clear H
  go_enter Tryz.func148, Tryz.ntmps148
  go_wp2_with (first | ((with_reducible refine gate_dst (N := 2) rfl ?_); refine box_event ?hg (N := 2) ?hd (cs := #[.slice A00 l00.length c00, .slice A01 l01.length c01, .slice A02 l02.length c02, .slice A03 l03.length c03, .int .i64 a04, .int .i64 a05, .int .i64 a06]) (t := 29) ?hr ?_; (case hd => rfl); (case hg => rfl); (case hr => exact tG); intro gb267 hg w4 hbox hb; have BK267 := Sd.mk (hbox); have GW267 := Sd.mk (bSz hg (bBl HB.out)); have GE267 := Sd.mk (bSz hg (bBl HB.out)); replace HB := Sd.mk (below_step (bBl HB.out) hb); clear hb hbox hg; obtain ⟨u5_0, u5_1, u5_2, u5_3, u5_4, u5_5, u5_6, o50, o51, o52, o53, o54, o55, o56⟩ := bc7 (w := w4) BK267.out))
  go_loopg [5] k (fun kq v5 w' => ∃ (x51 : Int), v5 = .int .i64 x51 ∧ Sd (rf_Recipe.l0 kq l1 x51 = some r) ∧ Sd (kq ≤ k) ∧ Sd (w'.heap[gb267]? = some (.cells #[(.slice A00 l00.length c00), (.slice A01 l01.length c01), (.slice A02 l02.length c02), (.slice A03 l03.length c03), .int .i64 a04, .int .i64 a05, .int .i64 a06] 29 (0, 0))) ∧ Sd (Below w.heap.size w w'))
  case atStart => exact ⟨(0), tS, H', ⟨Nat.le_refl _⟩, ⟨bkA BK267.out⟩, ⟨bBl HB.out⟩⟩
  case round =>
   clear H'; (try clear c1); (try clear p2); (try clear c3); (try clear c3b0); (try clear c3b1); (try clear c3b2); (try clear u5_0 u5_1 u5_2 u5_3 u5_4 u5_5 u5_6); (try clear o50 o51 o52 o53 o54 o55 o56); obtain ⟨x51, rfl, HA, HK1, BK267, HB⟩ := hrel
   cases gk with
   | zero => exact absurd HA.out (by simp [rf_Recipe.l0])
   | succ k1 =>
    have H := HA.out; clear HA
    simp only [rf_Recipe.l0] at H
    by_cases c6 : x51 < (l1.length : Int)
    ·rw [if_pos c6] at H
     have c6b0 : decide (x51 < (l1.length : Int)) = true := decide_eq_true c6
     clear c6
     by_cases c7 : 0 ≤ x51
     ·rw [if_pos c7] at H
      have c7b0 : decide (0 ≤ x51) = true := decide_eq_true c7
      clear c7
      by_cases c8 : (rd l1 x51) < 0
      ·rw [if_pos c8] at H
       have c8b0 : decide ((rd l1 x51) < 0) = true := decide_eq_true c8
       clear c8; obtain rfl := Option.some.inj H
       have p268 : 0 ≤ (x51 : Int) := tB
       have q268 : x51 < (l1.length : Int) := tB
       obtain ⟨ad268, e268, hx2680⟩ := Kd.at_int HR1.out x51 p268 q268; cases e268; replace hx2680 := cU HB hx2680; replace p268 := eq_true p268; replace q268 := eq_true q268
       go_wp2
       go_ret
       exact ⟨tE, bBl HB.out⟩
      ·rw [if_neg c8] at H
       have c8b0 : decide ((rd l1 x51) < 0) = false := decide_eq_false c8
       clear c8
       by_cases c9 : (rd l1 x51) > 10000
       ·rw [if_pos c9] at H
        have c9b0 : decide (10000 < (rd l1 x51)) = true := decide_eq_true c9
        clear c9; obtain rfl := Option.some.inj H
        have p268 : 0 ≤ (x51 : Int) := tB
        have q268 : x51 < (l1.length : Int) := tB
        obtain ⟨ad268, e268, hx2680⟩ := Kd.at_int HR1.out x51 p268 q268; cases e268; replace hx2680 := cU HB hx2680; replace p268 := eq_true p268; replace q268 := eq_true q268
        have p269 : 0 ≤ (x51 : Int) := tB
        have q269 : x51 < (l1.length : Int) := tB
        obtain ⟨ad269, e269, hx2690⟩ := Kd.at_int HR1.out x51 p269 q269
        obtain rfl : ad268 = ad269 := (by injection e269)
        replace hx2690 := cU HB hx2690; replace p269 := eq_true p269; replace q269 := eq_true q269
        go_wp2
        go_ret
        exact ⟨tE, bBl HB.out⟩
       ·rw [if_neg c9] at H
        have c9b0 : decide (10000 < (rd l1 x51)) = false := decide_eq_false c9
        clear c9; have H' := Sd.mk H; clear H
        have p268 : 0 ≤ (x51 : Int) := tB
        have q268 : x51 < (l1.length : Int) := tB
        obtain ⟨ad268, e268, hx2680⟩ := Kd.at_int HR1.out x51 p268 q268; cases e268; replace hx2680 := cU HB hx2680; replace p268 := eq_true p268; replace q268 := eq_true q268
        have p269 : 0 ≤ (x51 : Int) := tB
        have q269 : x51 < (l1.length : Int) := tB
        obtain ⟨ad269, e269, hx2690⟩ := Kd.at_int HR1.out x51 p269 q269
        obtain rfl : ad268 = ad269 := (by injection e269)
        replace hx2690 := cU HB hx2690; replace p269 := eq_true p269; replace q269 := eq_true q269
        go_wp2
        go_roundg k1
        case measure => have := HK1.out; omega
        case rel => exact ⟨(wrap64 (x51 + 1)), tS, H', ⟨by have := HK1.out; omega⟩, ⟨bkA BK267.out⟩, ⟨bBl HB.out⟩⟩
     ·rw [if_neg c7] at H
      exact absurd H (by simp)
    ·rw [if_neg c6] at H
     have c6b0 : decide (x51 < (l1.length : Int)) = false := decide_eq_false c6
     clear c6; obtain rfl := Option.some.inj H
     go_wp2
     go_ret
     exact ⟨tE, bBl HB.out⟩
 ·rw [if_neg c3] at H
  have c3b0 : ((l1.length : Int) == (l01.length : Int)) = false := beq_eq_false_iff_ne.mpr c3
  have c3b1 : ((l1.length : Int) != (l01.length : Int)) = true := bne_iff_ne.mpr c3
  have c3b2 : (l1.length == l01.length) = false := by first | simpa using c3 | (simp at c3 ⊢; omega)
  obtain rfl := Option.some.inj H
  go_enter Tryz.func148, Tryz.ntmps148
  go_wp2_with (first | ((with_reducible refine gate_dst (N := 2) rfl ?_); refine box_event ?hg (N := 2) ?hd (cs := #[.slice A00 l00.length c00, .slice A01 l01.length c01, .slice A02 l02.length c02, .slice A03 l03.length c03, .int .i64 a04, .int .i64 a05, .int .i64 a06]) (t := 29) ?hr ?_; (case hd => rfl); (case hg => rfl); (case hr => exact tG); intro gb267 hg w10 hbox hb; have BK267 := Sd.mk (hbox); have GW267 := Sd.mk (bSz hg (bBl HB.out)); have GE267 := Sd.mk (bSz hg (bBl HB.out)); replace HB := Sd.mk (below_step (bBl HB.out) hb); clear hb hbox hg; obtain ⟨u11_0, u11_1, u11_2, u11_3, u11_4, u11_5, u11_6, o110, o111, o112, o113, o114, o115, o116⟩ := bc7 (w := w10) BK267.out))
  go_ret
  exact ⟨tE, bBl HB.out⟩
end
section
open Go.RowKit Go.Proofs.YtljfljekcpdpiaaGreatW.PrintWords Go.Proofs.YtljfljekcpdpiaaGreatW.PrintLast Go.Proofs.YtljfljekcpdpiaaGreatW.PrintMore
def rf_asked.f (k : Nat) (l00 : List ByteArray) (l01 : List (S70)) (l02 : List (S27)) (l03 : List (S89)) (a04 : Int) (a05 : Int) (a06 : Int) (l1 : List Int) : Option (Int) := (rf_Check.f k l00 l01 l02 l03 a04 a05 a06).bind fun t271 => (if t271 = 0 then ((rf_Recipe.f k l00 l01 l02 l03 a04 a05 a06 l1).bind fun t272 => (some t272)) else (some t271))
theorem rf_asked.calls (k : Nat) (A00 : Option Addr) (c00 : Nat) (l00 : List ByteArray) (A01 : Option Addr) (c01 : Nat) (l01 : List (S70)) (A02 : Option Addr) (c02 : Nat) (l02 : List (S27)) (A03 : Option Addr) (c03 : Nat) (l03 : List (S89)) (a04 : Int) (a05 : Int) (a06 : Int) (A1 : Option Addr) (c1 : Nat) (l1 : List Int) (r : Int) (w : World) (hr00 : Kd.C Kd.string w A00 l00.length l00) (hc00 : l00.length ≤ c00) (hr01 : Kd.C k70 w A01 l01.length l01) (hc01 : l01.length ≤ c01) (hr02 : Kd.C k27 w A02 l02.length l02) (hc02 : l02.length ≤ c02) (hr03 : Kd.C k89 w A03 l03.length l03) (hc03 : l03.length ≤ c03) (hr1 : Kd.C (Kd.int .i64) w A1 l1.length l1) (hc1 : l1.length ≤ c1) (h : rf_asked.f k l00 l01 l02 l03 a04 a05 a06 l1 = some r) :
  Calls Tryz.prog 53 #[.agg #[.slice A00 l00.length c00, .slice A01 l01.length c01, .slice A02 l02.length c02, .slice A03 l03.length c03, .int .i64 a04, .int .i64 a05, .int .i64 a06], .slice A1 l1.length c1] w fun e w' => e = .returned (.int .i64 r) ∧ Below w.heap.size w w' := by
 have hu29 := Tryz.underlying29; have HR00 := Sd.mk hr00; have HC00 := Sd.mk hc00; clear hr00 hc00; have HR01 := Sd.mk hr01; have HC01 := Sd.mk hc01; clear hr01 hc01; have HR02 := Sd.mk hr02; have HC02 := Sd.mk hc02; clear hr02 hc02; have HR03 := Sd.mk hr03; have HC03 := Sd.mk hc03; clear hr03 hc03; have HR1 := Sd.mk hr1; have HC1 := Sd.mk hc1; clear hr1 hc1; have HB := Sd.mk (Below.refl w.heap.size w)
 have H : ((rf_Check.f k l00 l01 l02 l03 a04 a05 a06).bind fun t271 => (if t271 = 0 then ((rf_Recipe.f k l00 l01 l02 l03 a04 a05 a06 l1).bind fun t272 => (some t272)) else (some t271))) = some r := h
 clear h; replace H := Option.bind_eq_some_iff.mp H; obtain ⟨t271, A30, H⟩ := H
 try dsimp only at H
 have A3 := Sd.mk A30; clear A30
 by_cases c4 : t271 = 0
 ·rw [if_pos c4] at H
  have c4b0 : (t271 == 0) = true := beq_iff_eq.mpr c4
  have c4b1 : (t271 != 0) = false := bne_eq_false_iff_eq.mpr c4
  clear c4; replace H := Option.bind_eq_some_iff.mp H; obtain ⟨t272, A50, H⟩ := H
  try dsimp only at H
  have A5 := Sd.mk A50; clear A50; obtain rfl := Option.some.inj H
  go_enter Tryz.func53, Tryz.ntmps53
  go_wp2_with (first | ((with_reducible refine gate_dst (N := 2) rfl ?_); refine box_event ?hg (N := 2) ?hd (cs := #[.slice A00 l00.length c00, .slice A01 l01.length c01, .slice A02 l02.length c02, .slice A03 l03.length c03, .int .i64 a04, .int .i64 a05, .int .i64 a06]) (t := 29) ?hr ?_; (case hd => rfl); (case hg => rfl); (case hr => exact tG); intro gb270 hg w6 hbox hb; have BK270 := Sd.mk (hbox); have GW270 := Sd.mk (bSz hg (bBl HB.out)); have GE270 := Sd.mk (bSz hg (bBl HB.out)); replace HB := Sd.mk (below_step (bBl HB.out) hb); clear hb hbox hg; obtain ⟨u7_0, u7_1, u7_2, u7_3, u7_4, u7_5, u7_6, o70, o71, o72, o73, o74, o75, o76⟩ := bc7 (w := w6) BK270.out) | ((with_reducible refine gate_callee (f := 86) rfl ?_); refine goesL_ (some 7) rfl rfl Tryz.func86 (by kernel_rfl) rfl #[.agg #[.slice A00 l00.length c00, .slice A01 l01.length c01, .slice A02 l02.length c02, .slice A03 l03.length c03, .int .i64 a04, .int .i64 a05, .int .i64 a06]] rfl tM ?_; (with_reducible refine (rf_Check.calls k _ _ l00 _ _ l01 _ _ l02 _ _ l03 a04 a05 a06 t271 _ (cS (Kd.C_below HR00.out HB.out)) HC00.out (cS (Kd.C_below HR01.out HB.out)) HC01.out (cS (Kd.C_below HR02.out HB.out)) HC02.out (cS (Kd.C_below HR03.out HB.out)) HC03.out A3.out).mono ?_); rintro e w8 ⟨rfl, hb⟩; refine ⟨_, rfl, ?_⟩; replace BK270 := Sd.mk (blk_below (bkA BK270.out) hb); replace HB := Sd.mk (below_step (bBl HB.out) hb); (try clear hb); (try clear hb2); (try clear hk); (try clear hi); obtain ⟨u9_0, u9_1, u9_2, u9_3, u9_4, u9_5, u9_6, o90, o91, o92, o93, o94, o95, o96⟩ := bc7 (w := w8) BK270.out) | ((with_reducible refine gate_callee (f := 148) rfl ?_); refine goesL_ (some 13) rfl rfl Tryz.func148 (by kernel_rfl) rfl #[.agg #[.slice A00 l00.length c00, .slice A01 l01.length c01, .slice A02 l02.length c02, .slice A03 l03.length c03, .int .i64 a04, .int .i64 a05, .int .i64 a06], .slice A1 l1.length c1] rfl tM ?_; (with_reducible refine (rf_Recipe.calls k _ _ l00 _ _ l01 _ _ l02 _ _ l03 a04 a05 a06 _ _ l1 t272 _ (cS (Kd.C_below HR00.out HB.out)) HC00.out (cS (Kd.C_below HR01.out HB.out)) HC01.out (cS (Kd.C_below HR02.out HB.out)) HC02.out (cS (Kd.C_below HR03.out HB.out)) HC03.out (cS (Kd.C_below HR1.out HB.out)) HC1.out A5.out).mono ?_); rintro e w10 ⟨rfl, hb⟩; refine ⟨_, rfl, ?_⟩; replace BK270 := Sd.mk (blk_below (bkA BK270.out) hb); replace HB := Sd.mk (below_step (bBl HB.out) hb); (try clear hb); (try clear hb2); (try clear hk); (try clear hi)))
  go_ret
  exact ⟨tE, bBl HB.out⟩
 ·rw [if_neg c4] at H
  have c4b0 : (t271 == 0) = false := beq_eq_false_iff_ne.mpr c4
  have c4b1 : (t271 != 0) = true := bne_iff_ne.mpr c4
  obtain rfl := Option.some.inj H
  go_enter Tryz.func53, Tryz.ntmps53
  go_wp2_with (first | ((with_reducible refine gate_dst (N := 2) rfl ?_); refine box_event ?hg (N := 2) ?hd (cs := #[.slice A00 l00.length c00, .slice A01 l01.length c01, .slice A02 l02.length c02, .slice A03 l03.length c03, .int .i64 a04, .int .i64 a05, .int .i64 a06]) (t := 29) ?hr ?_; (case hd => rfl); (case hg => rfl); (case hr => exact tG); intro gb270 hg w11 hbox hb; have BK270 := Sd.mk (hbox); have GW270 := Sd.mk (bSz hg (bBl HB.out)); have GE270 := Sd.mk (bSz hg (bBl HB.out)); replace HB := Sd.mk (below_step (bBl HB.out) hb); clear hb hbox hg; obtain ⟨u12_0, u12_1, u12_2, u12_3, u12_4, u12_5, u12_6, o120, o121, o122, o123, o124, o125, o126⟩ := bc7 (w := w11) BK270.out) | ((with_reducible refine gate_callee (f := 86) rfl ?_); refine goesL_ (some 7) rfl rfl Tryz.func86 (by kernel_rfl) rfl #[.agg #[.slice A00 l00.length c00, .slice A01 l01.length c01, .slice A02 l02.length c02, .slice A03 l03.length c03, .int .i64 a04, .int .i64 a05, .int .i64 a06]] rfl tM ?_; (with_reducible refine (rf_Check.calls k _ _ l00 _ _ l01 _ _ l02 _ _ l03 a04 a05 a06 t271 _ (cS (Kd.C_below HR00.out HB.out)) HC00.out (cS (Kd.C_below HR01.out HB.out)) HC01.out (cS (Kd.C_below HR02.out HB.out)) HC02.out (cS (Kd.C_below HR03.out HB.out)) HC03.out A3.out).mono ?_); rintro e w13 ⟨rfl, hb⟩; refine ⟨_, rfl, ?_⟩; replace BK270 := Sd.mk (blk_below (bkA BK270.out) hb); replace HB := Sd.mk (below_step (bBl HB.out) hb); (try clear hb); (try clear hb2); (try clear hk); (try clear hi)))
  go_ret
  exact ⟨tE, bBl HB.out⟩
end
section
open Go.RowKit Go.Proofs.YtljfljekcpdpiaaGreatW.PrintWords Go.Proofs.YtljfljekcpdpiaaGreatW.PrintLast Go.Proofs.YtljfljekcpdpiaaGreatW.PrintMore
end
section
open Go.RowKit Go.Proofs.YtljfljekcpdpiaaGreatW.PrintWords Go.Proofs.YtljfljekcpdpiaaGreatW.PrintLast Go.Proofs.YtljfljekcpdpiaaGreatW.PrintMore
def recV (mt : List S70) (r : List Int) : Int := if r.length = mt.length then (if r.any (outside 0 10000) = true then 1 else 0) else 1
theorem rrec_l0 (l : List Int) (hl : l.length ≤ 12) : ∀ (m i : Nat), i + m = l.length → Ev (fun k => rf_Recipe.l0 k l (i : Int)) (if (l.drop i).any (outside 0 10000) = true then 1 else 0)
 | 0, i, hi => by
  apply Ev.step
  simp only [rf_Recipe.l0, if_neg (show ¬ (i : Int) < (l.length : Int) by omega)]
  have h3 : (l.drop i).any (outside 0 10000) = false := by rw [List.drop_eq_nil_of_le (by omega)]; rfl
  rw [h3]
  exact Ev.const _
 | m + 1, i, hi => by
  have ih := rrec_l0 l hl m (i + 1) (by omega)
  have hlt : i < l.length := by omega
  have hr : rd l (i : Int) = l[i] := by simp [rd, hlt]
  apply Ev.step
  simp only [rf_Recipe.l0, if_pos (show (i : Int) < (l.length : Int) by omega), if_pos (i_pos i), wrap_succ (i_pos i) (show (i : Int) ≤ 1000000000 by omega), hr]
  rw [List.drop_eq_getElem_cons hlt, List.any_cons]
  by_cases h1 : l[i] < 0
  ·simp only [if_pos h1]
   have hb : outside 0 10000 l[i] = true := by simp [outside]; omega
   exact (Ev.const _).cast (by rw [hb]; rfl)
  ·simp only [if_neg h1]
   by_cases h2 : l[i] > 10000
   ·simp only [if_pos h2]
    have hb : outside 0 10000 l[i] = true := by simp [outside]; omega
    exact (Ev.const _).cast (by rw [hb]; rfl)
   ·simp only [if_neg h2]
    have hb : outside 0 10000 l[i] = false := by simp [outside]; omega
    exact ih.cast (by rw [hb, Bool.false_or])
section
variable (o : List ByteArray) (mt : List S70) (s : List S27) (p : List S89) (a4 a5 a6 : Int) (r : List Int)
def askV : Int := if checkV o mt s p a4 a5 a6 = 0 then recV mt r else checkV o mt s p a4 a5 a6
theorem basked : Ev (fun k => b_asked.f k o mt s p a4 a5 a6 r) (askV o mt s p a4 a5 a6 r) := by
 unfold b_asked.f askV
 refine Ev.bind (bcheck o mt s p a4 a5 a6) ?_
 by_cases h : checkV o mt s p a4 a5 a6 = 0
 ·simp only [if_pos h, b_checkRecipe.f, x_kilos.f, Option.bind_some]
  unfold recV
  by_cases h1 : r.length = mt.length
  ·simp only [if_pos h1, if_pos (show (r.length : Int) = (mt.length : Int) by omega)]
   by_cases h2 : r.any (outside 0 10000) = true
   ·simp only [if_pos h2, Option.bind_some]; exact Ev.const _
   ·simp only [if_neg h2, Option.bind_some]; exact Ev.const _
  ·simp only [if_neg h1, if_neg (show ¬ (r.length : Int) = (mt.length : Int) by omega), Option.bind_some]; exact Ev.const _
 ·simp only [if_neg h]; exact Ev.const _
theorem rasked : Ev (fun k => rf_asked.f k o mt s p a4 a5 a6 r) (askV o mt s p a4 a5 a6 r) := by
 unfold rf_asked.f askV
 refine Ev.bind (rcheck o mt s p a4 a5 a6) ?_
 by_cases h : checkV o mt s p a4 a5 a6 = 0
 ·simp only [if_pos h]
  have hb := check_ok h
  refine Ev.bind (v := recV mt r) ?_ (Ev.const _)
  unfold rf_Recipe.f recV
  by_cases h1 : r.length = mt.length
  ·simp only [if_pos h1, if_pos (show (r.length : Int) = (mt.length : Int) by omega)]
   exact (rrec_l0 r (by have := hb.m12; omega) r.length 0 (by omega)).cast (by rw [List.drop_zero])
  ·simp only [if_neg h1, if_neg (show ¬ (r.length : Int) = (mt.length : Int) by omega)]; exact Ev.const _
 ·simp only [if_neg h]; exact Ev.const _
end
structure RecOk (mt : List S70) (r : List Int) : Prop where
 len : r.length = mt.length
 kilos : ∀ j : Nat, j < mt.length → 0 ≤ rd r (j : Int) ∧ rd r (j : Int) ≤ 10000
theorem ask_ok {o : List ByteArray} {mt : List S70} {s : List S27} {p : List S89} {a4 a5 a6 : Int} {r : List Int} (h : askV o mt s p a4 a5 a6 r = 0) : BatchOk o mt s p a4 a5 a6 ∧ RecOk mt r := by
 unfold askV at h
 by_cases h1 : checkV o mt s p a4 a5 a6 = 0
 ·rw [if_pos h1] at h
  refine ⟨check_ok h1, ?_⟩
  unfold recV at h
  by_cases h2 : r.length = mt.length
  ·rw [if_pos h2] at h
   by_cases h3 : r.any (outside 0 10000) = true
   ·rw [if_pos h3] at h; omega
   ·refine ⟨h2, fun j hj => ?_⟩
    have hm : rd r (j : Int) ∈ r := by
     have hlt : j < r.length := by omega
     have : rd r (j : Int) = r[j] := by simp [rd, hlt]
     rw [this]; exact List.getElem_mem hlt
    have hn : outside 0 10000 (rd r (j : Int)) = false := by
     cases ho : outside 0 10000 (rd r (j : Int)) with
     | false => rfl
     | true => exact absurd (List.any_eq_true.mpr ⟨_, hm, ho⟩) h3
    simp [outside] at hn; omega
  ·rw [if_neg h2] at h; omega
 ·rw [if_neg h1] at h; exact absurd h h1
section
variable {o : List ByteArray} {mt : List S70} {s : List S27} {p : List S89} {a4 a5 a6 : Int} {r : List Int}
end
end
section
open Go.RowKit Go.Proofs.YtljfljekcpdpiaaGreatW.PrintWords Go.Proofs.YtljfljekcpdpiaaGreatW.PrintLast Go.Proofs.YtljfljekcpdpiaaGreatW.PrintMore
def b_weight.l0 : Nat → List (S27) → Int → Int → Int → Int → Option (Int × Int)
 | 0, _, _, _, _, _ => none
 | k + 1, x6, x7, x8, x173q0, x173q1 => if x8 < x7 then (if 0 ≤ x8 then (if x8 < (x6.length : Int) then (b_weight.l0 k x6 x7 (wrap64 (x8 + 1)) (wrap64 (x173q0 + ((rd_T27 x6 x8).f0))) (wrap64 (x173q1 + ((rd_T27 x6 x8).f1)))) else (none)) else (none)) else (some (x173q0, x173q1))
def b_weight.f (k : Nat) (l0 : List (S27)) : Option (Int × Int) := b_weight.l0 k l0 (l0.length : Int) 0 0 0
theorem b_weight.mono_l : ∀ k, (∀ y0 y1 y2 y3 y4, LeO (b_weight.l0 k y0 y1 y2 y3 y4) (b_weight.l0 (k + 1) y0 y1 y2 y3 y4))
 | 0 => fun _ _ _ _ _ r h => by simp [b_weight.l0] at h
 | k + 1 => by
  have ih0 := b_weight.mono_l k
  ·intro y0 y1 y2 y3 y4
   unfold b_weight.l0
   repeat' first
   | (with_reducible exact ih0 _ _ _ _ _)
   | (with_reducible exact LeO.refl _)
   | (with_reducible exact LeO.none _)
   | (with_reducible refine LeO.ite ?_ ?_)
   | (with_reducible refine LeO.bind ?_ (fun _ => ?_))
   | exact LeO.none _
   | refine LeO.ite ?_ ?_
   | refine LeO.bind ?_ (fun _ => ?_)
theorem b_weight.mono : ∀ a0 k, LeO (b_weight.f k a0) (b_weight.f (k + 1) a0) := by
 intro a0 k
 have ih0 := b_weight.mono_l k
 unfold b_weight.f
 repeat' first
   | (with_reducible exact ih0 _ _ _ _ _)
   | (with_reducible exact LeO.refl _)
   | (with_reducible exact LeO.none _)
   | (with_reducible refine LeO.ite ?_ ?_)
   | (with_reducible refine LeO.bind ?_ (fun _ => ?_))
   | exact LeO.none _
   | refine LeO.ite ?_ ?_
   | refine LeO.bind ?_ (fun _ => ?_)
theorem b_weight.calls (k : Nat) (A0 : Option Addr) (c0 : Nat) (l0 : List (S27)) (r1 : Int) (r2 : Int) (w : World) (hr0 : Kd.C k27 w A0 l0.length l0) (hc0 : l0.length ≤ c0) (h : b_weight.f k l0 = some (r1, r2)) :
  Calls Tryz.prog 163 #[.slice A0 l0.length c0] w fun e w' => e = .returned (.agg #[.int .i64 r1, .int .i64 r2]) ∧ Below w.heap.size w w' := by
 have hu27 := Tryz.underlying27; have HR0 := Sd.mk hr0; have HC0 := Sd.mk hc0; clear hr0 hc0; have HB := Sd.mk (Below.refl w.heap.size w)
 have H : (b_weight.l0 k l0 (l0.length : Int) 0 0 0) = some (r1, r2) := h
 clear h; have H' := Sd.mk H; clear H
 go_enter Tryz.func163, Tryz.ntmps163
 go_wp2_with (first | ((with_reducible refine gate_dst (N := 2) rfl ?_); refine box_event ?hg (N := 2) ?hd (cs := #[.int .i64 0, .int .i64 0]) (t := 27) ?hr ?_; (case hd => rfl); (case hg => rfl); (case hr => exact tG); intro gb171 hg w2 hbox hb; have BK171 := Sd.mk (hbox); have GW171 := Sd.mk (bSz hg (bBl HB.out)); have GE171 := Sd.mk (bSz hg (bBl HB.out)); replace HB := Sd.mk (below_step (bBl HB.out) hb); clear hb hbox hg) | ((with_reducible refine gate_dst (N := 3) rfl ?_); refine box_event ?hg (N := 3) ?hd (cs := #[.int .i64 0, .int .i64 0]) (t := 27) ?hr ?_; (case hd => rfl); (case hg => rfl); (case hr => exact tG); intro gb172 hg w3 hbox hb; have BK172 := Sd.mk (hbox); have GW172 := Sd.mk (bSz hg (bBl HB.out)); have GE172 := Sd.mk (bSz hg (bBl HB.out)); replace HB := Sd.mk (below_step (bBl HB.out) hb); have NB171172 := Sd.mk (bNl hg (bkA BK171.out)); have NB172171 := Sd.mk (bNg hg (bkA BK171.out)); replace BK171 := Sd.mk (blk_below (bkA BK171.out) hb); clear hb hbox hg))
 go_loopg [8] k (fun kq v8 w' => ∃ (x81 : Int) (x1730001 : Int) (x1730011 : Int), v8 = .int .i64 x81 ∧ Sd (b_weight.l0 kq l0 (l0.length : Int) x81 x1730001 x1730011 = some (r1, r2)) ∧ Sd (kq ≤ k) ∧ Sd (w'.heap[gb171]? = some (.cells #[.int .i64 0, .int .i64 0] 27 (0, 0))) ∧ Sd (w'.heap[gb172]? = some (.cells #[.int .i64 x1730001, .int .i64 x1730011] 27 (0, 0))) ∧ Sd (Below w.heap.size w w'))
 case atStart => exact ⟨(0), (0), (0), tS, H', ⟨Nat.le_refl _⟩, ⟨bkA BK171.out⟩, ⟨bkA BK172.out⟩, ⟨bBl HB.out⟩⟩
 case round =>
  clear H'; (try clear c1); (try clear p2); obtain ⟨x81, x1730001, x1730011, rfl, HA, HK1, BK171, BK172, HB⟩ := hrel
  cases gk with
  | zero => exact absurd HA.out (by simp [b_weight.l0])
  | succ k1 =>
   have H := HA.out; clear HA
   simp only [b_weight.l0] at H
   by_cases c4 : x81 < (l0.length : Int)
   ·rw [if_pos c4] at H
    have c4b0 : decide (x81 < (l0.length : Int)) = true := decide_eq_true c4
    clear c4
    by_cases c5 : 0 ≤ x81
    ·rw [if_pos c5] at H
     have c5b0 : decide (0 ≤ x81) = true := decide_eq_true c5
     clear c5
     by_cases c6 : x81 < (l0.length : Int)
     ·rw [if_pos c6] at H
      have c6b0 : decide (x81 < (l0.length : Int)) = true := decide_eq_true c6
      clear c6; have H' := Sd.mk H; clear H
      have p173 : 0 ≤ (x81 : Int) := tB
      have q173 : x81 < (l0.length : Int) := tB
      obtain ⟨ad173, e173, hx1730, hx1731⟩ := at_T27 HR0.out x81 p173 q173; cases e173; replace hx1730 := cU HB hx1730; replace hx1731 := cU HB hx1731; replace p173 := eq_true p173; replace q173 := eq_true q173
      go_wp2_with (first | ((with_reducible refine gate_dst (N := 5) rfl ?_); refine box_event ?hg (N := 5) ?hd (cs := #[.int .i64 0, .int .i64 0]) (t := 27) ?hr ?_; (case hd => rfl); (case hg => rfl); (case hr => exact tG); intro gb174 hg w7 hbox hb; have BK174 := Sd.mk (hbox); have GW174 := Sd.mk (bSz hg (bBl HB.out)); have GE174 := Sd.mk (bSz hg (bBl HB.out)); replace HB := Sd.mk (below_step (bBl HB.out) hb); have NB171174 := Sd.mk (bNl hg (bkA BK171.out)); have NB174171 := Sd.mk (bNg hg (bkA BK171.out)); replace BK171 := Sd.mk (blk_below (bkA BK171.out) hb); have NB172174 := Sd.mk (bNl hg (bkA BK172.out)); have NB174172 := Sd.mk (bNg hg (bkA BK172.out)); replace BK172 := Sd.mk (blk_below (bkA BK172.out) hb); clear hb hbox hg; have hnb8 := NB174171.out; have hnc8 := NB171174.out; have hnb9 := NB174172.out; have hnc9 := NB172174.out; obtain ⟨u10_0, u10_1, o100, o101⟩ := bc2 (w := w7) BK174.out; have hnb11 := NB172171.out; have hnc11 := NB171172.out; obtain ⟨u12_0, u12_1, o120, o121⟩ := bc2 (w := w7) BK172.out))
      go_roundg k1
      case measure => have := HK1.out; omega
      case rel => exact ⟨(wrap64 (x81 + 1)), (wrap64 (x1730001 + ((rd_T27 l0 x81).f0))), (wrap64 (x1730011 + ((rd_T27 l0 x81).f1))), tS, H', ⟨by have := HK1.out; omega⟩, ⟨by refine bkZ ?_; refine blk_far ?_ NB171172.out _; refine bkZ ?_; refine blk_far ?_ NB171172.out _; refine bkZ ?_; refine blk_far ?_ NB171174.out _; refine bkZ ?_; refine blk_far ?_ NB171174.out _; refine bkZ ?_; exact BK171.out⟩, ⟨by refine bkZ ?_; refine blk_put (cs := #[.int .i64 (wrap64 (x1730001 + ((rd_T27 l0 x81).f0))), .int .i64 x1730011]) ?_ 1 _ rfl; refine bkZ ?_; refine blk_put (cs := #[.int .i64 x1730001, .int .i64 x1730011]) ?_ 0 _ rfl; refine bkZ ?_; refine blk_far ?_ NB172174.out _; refine bkZ ?_; refine blk_far ?_ NB172174.out _; refine bkZ ?_; exact BK172.out⟩, ⟨bBl HB.out⟩⟩
     ·rw [if_neg c6] at H
      exact absurd H (by simp)
    ·rw [if_neg c5] at H
     exact absurd H (by simp)
   ·rw [if_neg c4] at H
    have c4b0 : decide (x81 < (l0.length : Int)) = false := decide_eq_false c4
    clear c4
    simp only [Option.some.injEq, Prod.mk.injEq] at H
    obtain ⟨rfl, rfl⟩ := H; have hnb13 := NB172171.out; have hnc13 := NB171172.out; obtain ⟨u14_0, u14_1, o140, o141⟩ := bc2 (w := wr) BK172.out; obtain ⟨u15_0, u15_1, o150, o151⟩ := bc2 (w := wr) BK171.out
    go_wp2
    refine bodyPost_ret (results_cell_row rfl _ _ gb171 27 #[.int .i64 x1730001, .int .i64 x1730011] (0, 0) _ rfl (by refine bkZ ?_; refine blk_put (cs := #[.int .i64 x1730001, .int .i64 0]) ?_ 1 _ rfl; refine bkZ ?_; refine blk_put (cs := #[.int .i64 0, .int .i64 0]) ?_ 0 _ rfl; refine bkZ ?_; exact BK171.out) Tryz.underlying27 rfl (by kernel_rfl)) rfl ?_
    exact ⟨tE, bBl HB.out⟩
end
section
open Go.RowKit Go.Proofs.YtljfljekcpdpiaaGreatW.PrintWords Go.Proofs.YtljfljekcpdpiaaGreatW.PrintLast Go.Proofs.YtljfljekcpdpiaaGreatW.PrintMore
def rf_sums.l0 : Nat → List (S27) → Int → Int → Int → Option (Int × Int)
 | 0, _, _, _, _ => none
 | k + 1, x0, x4, x5, x6 => if x6 < (x0.length : Int) then (if 0 ≤ x6 then (rf_sums.l0 k x0 (wrap64 (x4 + ((rd_T27 x0 x6).f0))) (wrap64 (x5 + ((rd_T27 x0 x6).f1))) (wrap64 (x6 + 1))) else (none)) else (some (x4, x5))
def rf_sums.f (k : Nat) (l0 : List (S27)) : Option (Int × Int) := rf_sums.l0 k l0 0 0 0
theorem rf_sums.calls (k : Nat) (A0 : Option Addr) (c0 : Nat) (l0 : List (S27)) (r1 : Int) (r2 : Int) (w : World) (hr0 : Kd.C k27 w A0 l0.length l0) (hc0 : l0.length ≤ c0) (h : rf_sums.f k l0 = some (r1, r2)) :
  Calls Tryz.prog 150 #[.slice A0 l0.length c0] w fun e w' => e = .returned (.tuple #[.int .i64 r1, .int .i64 r2]) ∧ Drawn0 w w' := by
 have HR0 := Sd.mk hr0; have HC0 := Sd.mk hc0; clear hr0 hc0
 have H : (rf_sums.l0 k l0 0 0 0) = some (r1, r2) := h
 clear h; have H' := Sd.mk H; clear H
 go_enter Tryz.func150, Tryz.ntmps150
 go_wp2
 go_loopg [4, 5, 6] k (fun kq v4 v5 v6 w' => ∃ (x41 : Int) (x51 : Int) (x61 : Int), v4 = .int .i64 x41 ∧ v5 = .int .i64 x51 ∧ v6 = .int .i64 x61 ∧ Sd (rf_sums.l0 kq l0 x41 x51 x61 = some (r1, r2)) ∧ Sd (kq ≤ k) ∧ Drawn0 w w')
 case atStart => exact ⟨(0), (0), (0), tS, tS, tS, H', ⟨Nat.le_refl _⟩, by repeat (first | exact Drawn0.refl _ | apply Drawn0.step)⟩
 case round =>
  clear H'; (try clear c1)
  obtain ⟨x41, x51, x61, rfl, rfl, rfl, HA, HK1, ⟨m1, rfl⟩⟩ := hrel
  cases gk with
  | zero => exact absurd HA.out (by simp [rf_sums.l0])
  | succ k1 =>
   have H := HA.out; clear HA
   simp only [rf_sums.l0] at H
   by_cases c2 : x61 < (l0.length : Int)
   ·rw [if_pos c2] at H
    have c2b0 : decide (x61 < (l0.length : Int)) = true := decide_eq_true c2
    clear c2
    by_cases c3 : 0 ≤ x61
    ·rw [if_pos c3] at H
     have c3b0 : decide (0 ≤ x61) = true := decide_eq_true c3
     clear c3; have H' := Sd.mk H; clear H
     have p279 : 0 ≤ (x61 : Int) := tB
     have q279 : x61 < (l0.length : Int) := tB
     obtain ⟨ad279, e279, hx2790, hx2791⟩ := at_T27 HR0.out x61 p279 q279; cases e279; replace p279 := eq_true p279; replace q279 := eq_true q279
     have p280 : 0 ≤ (x61 : Int) := tB
     have q280 : x61 < (l0.length : Int) := tB
     obtain ⟨ad280, e280, hx2800, hx2801⟩ := at_T27 HR0.out x61 p280 q280
     obtain rfl : ad279 = ad280 := (by injection e280)
     replace p280 := eq_true p280; replace q280 := eq_true q280
     go_wp2
     go_roundg k1
     case measure => have := HK1.out; omega
     case rel => exact ⟨(wrap64 (x41 + ((rd_T27 l0 x61).f0))), (wrap64 (x51 + ((rd_T27 l0 x61).f1))), (wrap64 (x61 + 1)), tS, tS, tS, H', ⟨by have := HK1.out; omega⟩, by repeat (first | exact Drawn0.refl _ | apply Drawn0.step)⟩
    ·rw [if_neg c3] at H
     exact absurd H (by simp)
   ·rw [if_neg c2] at H
    have c2b0 : decide (x61 < (l0.length : Int)) = false := decide_eq_false c2
    clear c2
    simp only [Option.some.injEq, Prod.mk.injEq] at H
    obtain ⟨rfl, rfl⟩ := H
    go_wp2
    go_ret2
    exact ⟨by first | rfl | (simp; done) | (simp [*]; done), by repeat (first | exact Drawn0.refl _ | apply Drawn0.step)⟩
end
section
open Go.RowKit Go.Proofs.YtljfljekcpdpiaaGreatW.PrintWords Go.Proofs.YtljfljekcpdpiaaGreatW.PrintLast Go.Proofs.YtljfljekcpdpiaaGreatW.PrintMore
attribute [local go_sem] max2_int min2_int max_two min_two max_three min_three max_four min_four
def rf_above.l0 : Nat → List Int → List (S27) → Int → Int → Int → Option (Int)
 | 0, _, _, _, _, _ => none
 | k + 1, x0, x1, x2, x7, x8 => if x8 < (x1.length : Int) then (if 0 ≤ x8 then (if x8 < (x0.length : Int) then (rf_above.l0 k x0 x1 x2 (wrap64 (x7 + (mx (wrap64 ((wrap64 ((rd x0 x8) - x2)) * ((rd_T27 x1 x8).f0))) (wrap64 ((wrap64 ((rd x0 x8) - x2)) * ((rd_T27 x1 x8).f1)))))) (wrap64 (x8 + 1))) else (none)) else (none)) else (some x7)
def rf_above.f (k : Nat) (l0 : List Int) (l1 : List (S27)) (a2 : Int) : Option (Int) := rf_above.l0 k l0 l1 a2 0 0
theorem rf_above.calls (k : Nat) (A0 : Option Addr) (c0 : Nat) (l0 : List Int) (A1 : Option Addr) (c1 : Nat) (l1 : List (S27)) (a2 : Int) (r : Int) (w : World) (hr0 : Kd.C (Kd.int .i64) w A0 l0.length l0) (hc0 : l0.length ≤ c0) (hr1 : Kd.C k27 w A1 l1.length l1) (hc1 : l1.length ≤ c1) (h : rf_above.f k l0 l1 a2 = some r) :
  Calls Tryz.prog 152 #[.slice A0 l0.length c0, .slice A1 l1.length c1, .int .i64 a2] w fun e w' => e = .returned (.int .i64 r) ∧ Below w.heap.size w w' := by
 have HR0 := Sd.mk hr0; have HC0 := Sd.mk hc0; clear hr0 hc0; have HR1 := Sd.mk hr1; have HC1 := Sd.mk hc1; clear hr1 hc1; have HB := Sd.mk (Below.refl w.heap.size w)
 have H : (rf_above.l0 k l0 l1 a2 0 0) = some r := h
 clear h; have H' := Sd.mk H; clear H
 go_enter Tryz.func152, Tryz.ntmps152
 go_wp2
 repeat (go_quiet (fail); try go_wp2)
 go_loopg [7, 8] k (fun kq v7 v8 w' => ∃ (x71 : Int) (x81 : Int), v7 = .int .i64 x71 ∧ v8 = .int .i64 x81 ∧ Sd (rf_above.l0 kq l0 l1 a2 x71 x81 = some r) ∧ Sd (kq ≤ k) ∧ Sd (Below w.heap.size w w'))
 case atStart => exact ⟨(0), (0), tS, tS, H', ⟨Nat.le_refl _⟩, ⟨bBl HB.out⟩⟩
 case round =>
  clear H'; (try clear c1); (try clear p2); obtain ⟨x71, x81, rfl, rfl, HA, HK1, HB⟩ := hrel
  cases gk with
  | zero => exact absurd HA.out (by simp [rf_above.l0])
  | succ k1 =>
   have H := HA.out; clear HA
   simp only [rf_above.l0] at H
   by_cases c4 : x81 < (l1.length : Int)
   ·rw [if_pos c4] at H
    have c4b0 : decide (x81 < (l1.length : Int)) = true := decide_eq_true c4
    clear c4
    by_cases c5 : 0 ≤ x81
    ·rw [if_pos c5] at H
     have c5b0 : decide (0 ≤ x81) = true := decide_eq_true c5
     clear c5
     by_cases c6 : x81 < (l0.length : Int)
     ·rw [if_pos c6] at H
      have c6b0 : decide (x81 < (l0.length : Int)) = true := decide_eq_true c6
      clear c6
      obtain ⟨ji7, hji7⟩ : ∃ j_ : Int, (mx (wrap64 ((wrap64 ((rd l0 x81) - a2)) * ((rd_T27 l1 x81).f0))) (wrap64 ((wrap64 ((rd l0 x81) - a2)) * ((rd_T27 l1 x81).f1)))) = j_ := ⟨_, rfl⟩
      replace H : (rf_above.l0 k1 l0 l1 a2 (wrap64 (x71 + (ji7))) (wrap64 (x81 + 1))) = some r := by first | (rw [hji7] at H; exact H) | (simp only [hji7] at H ⊢; exact H)
      have hji7_ : (if (wrap64 ((wrap64 ((rd l0 x81) - a2)) * ((rd_T27 l1 x81).f0))) < (wrap64 ((wrap64 ((rd l0 x81) - a2)) * ((rd_T27 l1 x81).f1))) then (wrap64 ((wrap64 ((rd l0 x81) - a2)) * ((rd_T27 l1 x81).f1))) else (wrap64 ((wrap64 ((rd l0 x81) - a2)) * ((rd_T27 l1 x81).f0)))) = ji7 := hji7
      have H' := Sd.mk H; clear H
      have p294 : 0 ≤ (x81 : Int) := tB
      have q294 : x81 < (l0.length : Int) := tB
      obtain ⟨ad294, e294, hx2940⟩ := Kd.at_int HR0.out x81 p294 q294; cases e294; replace hx2940 := cU HB hx2940; replace p294 := eq_true p294; replace q294 := eq_true q294
      have p295 : 0 ≤ (x81 : Int) := tB
      have q295 : x81 < (l1.length : Int) := tB
      obtain ⟨ad295, e295, hx2950, hx2951⟩ := at_T27 HR1.out x81 p295 q295; cases e295; replace hx2950 := cU HB hx2950; replace hx2951 := cU HB hx2951; replace p295 := eq_true p295; replace q295 := eq_true q295
      have p296 : 0 ≤ (x81 : Int) := tB
      have q296 : x81 < (l1.length : Int) := tB
      obtain ⟨ad296, e296, hx2960, hx2961⟩ := at_T27 HR1.out x81 p296 q296
      obtain rfl : ad295 = ad296 := (by injection e296)
      replace hx2960 := cU HB hx2960; replace hx2961 := cU HB hx2961; replace p296 := eq_true p296; replace q296 := eq_true q296
      go_wp2
      repeat (go_quiet (fail); try go_wp2)
      go_roundg k1
      case measure => have := HK1.out; omega
      case rel => exact ⟨(wrap64 (x71 + (ji7))), (wrap64 (x81 + 1)), (by first | rfl | (simp; done) | (simp only [← hji7] <;> (first | rfl | simp)) | (simp [*]; done)), tS, H', ⟨by have := HK1.out; omega⟩, ⟨bBl HB.out⟩⟩
     ·rw [if_neg c6] at H
      exact absurd H (by simp)
    ·rw [if_neg c5] at H
     exact absurd H (by simp)
   ·rw [if_neg c4] at H
    have c4b0 : decide (x81 < (l1.length : Int)) = false := decide_eq_false c4
    clear c4; obtain rfl := Option.some.inj H
    go_wp2
    repeat (go_quiet (fail); try go_wp2)
    go_ret
    exact ⟨tE, bBl HB.out⟩
end
section
open Go.RowKit Go.Proofs.YtljfljekcpdpiaaGreatW.PrintWords Go.Proofs.YtljfljekcpdpiaaGreatW.PrintLast Go.Proofs.YtljfljekcpdpiaaGreatW.PrintMore
attribute [local go_sem] max2_int min2_int max_two min_two max_three min_three max_four min_four
def rf_below.l0 : Nat → List Int → List (S27) → Int → Int → Int → Option (Int)
 | 0, _, _, _, _, _ => none
 | k + 1, x0, x1, x2, x7, x8 => if x8 < (x1.length : Int) then (if 0 ≤ x8 then (if x8 < (x0.length : Int) then (rf_below.l0 k x0 x1 x2 (wrap64 (x7 + (mx (wrap64 ((wrap64 (x2 - (rd x0 x8))) * ((rd_T27 x1 x8).f0))) (wrap64 ((wrap64 (x2 - (rd x0 x8))) * ((rd_T27 x1 x8).f1)))))) (wrap64 (x8 + 1))) else (none)) else (none)) else (some x7)
def rf_below.f (k : Nat) (l0 : List Int) (l1 : List (S27)) (a2 : Int) : Option (Int) := rf_below.l0 k l0 l1 a2 0 0
theorem rf_below.calls (k : Nat) (A0 : Option Addr) (c0 : Nat) (l0 : List Int) (A1 : Option Addr) (c1 : Nat) (l1 : List (S27)) (a2 : Int) (r : Int) (w : World) (hr0 : Kd.C (Kd.int .i64) w A0 l0.length l0) (hc0 : l0.length ≤ c0) (hr1 : Kd.C k27 w A1 l1.length l1) (hc1 : l1.length ≤ c1) (h : rf_below.f k l0 l1 a2 = some r) :
  Calls Tryz.prog 153 #[.slice A0 l0.length c0, .slice A1 l1.length c1, .int .i64 a2] w fun e w' => e = .returned (.int .i64 r) ∧ Below w.heap.size w w' := by
 have HR0 := Sd.mk hr0; have HC0 := Sd.mk hc0; clear hr0 hc0; have HR1 := Sd.mk hr1; have HC1 := Sd.mk hc1; clear hr1 hc1; have HB := Sd.mk (Below.refl w.heap.size w)
 have H : (rf_below.l0 k l0 l1 a2 0 0) = some r := h
 clear h; have H' := Sd.mk H; clear H
 go_enter Tryz.func153, Tryz.ntmps153
 go_wp2
 repeat (go_quiet (fail); try go_wp2)
 go_loopg [7, 8] k (fun kq v7 v8 w' => ∃ (x71 : Int) (x81 : Int), v7 = .int .i64 x71 ∧ v8 = .int .i64 x81 ∧ Sd (rf_below.l0 kq l0 l1 a2 x71 x81 = some r) ∧ Sd (kq ≤ k) ∧ Sd (Below w.heap.size w w'))
 case atStart => exact ⟨(0), (0), tS, tS, H', ⟨Nat.le_refl _⟩, ⟨bBl HB.out⟩⟩
 case round =>
  clear H'; (try clear c1); (try clear p2); obtain ⟨x71, x81, rfl, rfl, HA, HK1, HB⟩ := hrel
  cases gk with
  | zero => exact absurd HA.out (by simp [rf_below.l0])
  | succ k1 =>
   have H := HA.out; clear HA
   simp only [rf_below.l0] at H
   by_cases c4 : x81 < (l1.length : Int)
   ·rw [if_pos c4] at H
    have c4b0 : decide (x81 < (l1.length : Int)) = true := decide_eq_true c4
    clear c4
    by_cases c5 : 0 ≤ x81
    ·rw [if_pos c5] at H
     have c5b0 : decide (0 ≤ x81) = true := decide_eq_true c5
     clear c5
     by_cases c6 : x81 < (l0.length : Int)
     ·rw [if_pos c6] at H
      have c6b0 : decide (x81 < (l0.length : Int)) = true := decide_eq_true c6
      clear c6
      obtain ⟨ji7, hji7⟩ : ∃ j_ : Int, (mx (wrap64 ((wrap64 (a2 - (rd l0 x81))) * ((rd_T27 l1 x81).f0))) (wrap64 ((wrap64 (a2 - (rd l0 x81))) * ((rd_T27 l1 x81).f1)))) = j_ := ⟨_, rfl⟩
      replace H : (rf_below.l0 k1 l0 l1 a2 (wrap64 (x71 + (ji7))) (wrap64 (x81 + 1))) = some r := by first | (rw [hji7] at H; exact H) | (simp only [hji7] at H ⊢; exact H)
      have hji7_ : (if (wrap64 ((wrap64 (a2 - (rd l0 x81))) * ((rd_T27 l1 x81).f0))) < (wrap64 ((wrap64 (a2 - (rd l0 x81))) * ((rd_T27 l1 x81).f1))) then (wrap64 ((wrap64 (a2 - (rd l0 x81))) * ((rd_T27 l1 x81).f1))) else (wrap64 ((wrap64 (a2 - (rd l0 x81))) * ((rd_T27 l1 x81).f0)))) = ji7 := hji7
      have H' := Sd.mk H; clear H
      have p297 : 0 ≤ (x81 : Int) := tB
      have q297 : x81 < (l0.length : Int) := tB
      obtain ⟨ad297, e297, hx2970⟩ := Kd.at_int HR0.out x81 p297 q297; cases e297; replace hx2970 := cU HB hx2970; replace p297 := eq_true p297; replace q297 := eq_true q297
      have p298 : 0 ≤ (x81 : Int) := tB
      have q298 : x81 < (l1.length : Int) := tB
      obtain ⟨ad298, e298, hx2980, hx2981⟩ := at_T27 HR1.out x81 p298 q298; cases e298; replace hx2980 := cU HB hx2980; replace hx2981 := cU HB hx2981; replace p298 := eq_true p298; replace q298 := eq_true q298
      have p299 : 0 ≤ (x81 : Int) := tB
      have q299 : x81 < (l1.length : Int) := tB
      obtain ⟨ad299, e299, hx2990, hx2991⟩ := at_T27 HR1.out x81 p299 q299
      obtain rfl : ad298 = ad299 := (by injection e299)
      replace hx2990 := cU HB hx2990; replace hx2991 := cU HB hx2991; replace p299 := eq_true p299; replace q299 := eq_true q299
      go_wp2
      repeat (go_quiet (fail); try go_wp2)
      go_roundg k1
      case measure => have := HK1.out; omega
      case rel => exact ⟨(wrap64 (x71 + (ji7))), (wrap64 (x81 + 1)), (by first | rfl | (simp; done) | (simp only [← hji7] <;> (first | rfl | simp)) | (simp [*]; done)), tS, H', ⟨by have := HK1.out; omega⟩, ⟨bBl HB.out⟩⟩
     ·rw [if_neg c6] at H
      exact absurd H (by simp)
    ·rw [if_neg c5] at H
     exact absurd H (by simp)
   ·rw [if_neg c4] at H
    have c4b0 : decide (x81 < (l1.length : Int)) = false := decide_eq_false c4
    clear c4; obtain rfl := Option.some.inj H
    go_wp2
    repeat (go_quiet (fail); try go_wp2)
    go_ret
    exact ⟨tE, bBl HB.out⟩
end
section
open Go.RowKit Go.Proofs.YtljfljekcpdpiaaGreatW.PrintWords Go.Proofs.YtljfljekcpdpiaaGreatW.PrintLast Go.Proofs.YtljfljekcpdpiaaGreatW.PrintMore
end
section
open Go.RowKit Go.Proofs.YtljfljekcpdpiaaGreatW.PrintWords Go.Proofs.YtljfljekcpdpiaaGreatW.PrintLast Go.Proofs.YtljfljekcpdpiaaGreatW.PrintMore
theorem mx_max (a b : Int) : mx a b = max a b := by unfold mx; split <;> omega
theorem sumTo_congr {f g : Nat → Int} : ∀ n, (∀ j, j < n → f j = g j) → sumTo f n = sumTo g n := by
 intro n
 induction n with
 | zero => intro _; rfl
 | succ n ih => intro h; simp only [sumTo]; rw [ih fun j hj => h j (by omega), h n (by omega)]
theorem iotaA_at {n j : Nat} (h : j < n) : (iotaA n)[j]! = (j : Int) := by
 rw [getElem!_pos _ j (by rw [iotaA_size]; exact h)]; simp [iotaA]
theorem lsum_sumTo (f : Int → Int) (n : Nat) : MeanMath.lsum f (iotaA n).toList = sumTo (fun j => f (j : Int)) n := by
 have h := sumTo_lsum f (iotaA n) n (by rw [iotaA_size]; exact Nat.le_refl _)
 rw [List.take_of_length_le (by rw [Array.length_toList, iotaA_size]; exact Nat.le_refl _)] at h
 rw [← h]
 exact sumTo_congr n fun j hj => by rw [iotaA_at hj]
structure GOk (l : List S27) : Prop where
 n12 : l.length ≤ 12
 at_ : ∀ j : Nat, j < l.length → 0 ≤ (rd_T27 l (j : Int)).f0 ∧ (rd_T27 l (j : Int)).f0 ≤ (rd_T27 l (j : Int)).f1 ∧ (rd_T27 l (j : Int)).f1 ≤ 120000000
def wS (F : S27 → Int) (l : List S27) (i : Nat) : Int := sumTo (fun j => F (rd_T27 l (j : Int))) i
theorem wS_bounds {l : List S27} (H : GOk l) : ∀ i, i ≤ l.length → (0 ≤ wS S27.f0 l i ∧ wS S27.f0 l i ≤ 120000000 * i) ∧ (0 ≤ wS S27.f1 l i ∧ wS S27.f1 l i ≤ 120000000 * i) ∧ wS S27.f0 l i ≤ wS S27.f1 l i := by
 intro i
 induction i with
 | zero => intro _; simp [wS, sumTo]
 | succ i ih => intro hi; have h1 := ih (by omega); have h2 := H.at_ i (by omega); simp only [wS, sumTo] at *; omega
theorem rsums_l0 {l : List S27} (H : GOk l) : ∀ (m i : Nat), i + m = l.length → Ev (fun k => rf_sums.l0 k l (wS S27.f0 l i) (wS S27.f1 l i) (i : Int)) (wS S27.f0 l l.length, wS S27.f1 l l.length)
 | 0, i, hi => by
  apply Ev.step
  simp only [rf_sums.l0, if_neg (show ¬ (i : Int) < (l.length : Int) by omega)]
  rw [show i = l.length by omega]
  exact Ev.const _
 | m + 1, i, hi => by
  have ih := rsums_l0 H m (i + 1) (by omega)
  have hn := H.n12
  have hb := wS_bounds H i (by omega)
  have hc := H.at_ i (by omega)
  apply Ev.step
  simp only [rf_sums.l0, if_pos (show (i : Int) < (l.length : Int) by omega), if_pos (i_pos i), wrap_succ (i_pos i) (show (i : Int) ≤ 1000000000 by omega)]
  rw [wrap_id (x := wS S27.f0 l i + (rd_T27 l (i : Int)).f0) (by omega) (by omega), wrap_id (x := wS S27.f1 l i + (rd_T27 l (i : Int)).f1) (by omega) (by omega)]
  exact ih
theorem rsums {l : List S27} (H : GOk l) : Ev (fun k => rf_sums.f k l) (wS S27.f0 l l.length, wS S27.f1 l l.length) := rsums_l0 H l.length 0 (by omega)
structure CfOk (cf : Int → Int) (n : Nat) : Prop where
 at_ : ∀ j : Nat, j < n → -10000 ≤ cf (j : Int) ∧ cf (j : Int) ≤ 10000
def bT (cf : Int → Int) (l : List S27) (m : Int) (j : Nat) : Int := max ((m - cf j) * (rd_T27 l (j : Int)).f0) ((m - cf j) * (rd_T27 l (j : Int)).f1)
theorem belowS_sum (cf : Int → Int) (l : List S27) (m : Int) : belowS cf l m = sumTo (bT cf l m) l.length := lsum_sumTo _ _
def aT (cf : Int → Int) (l : List S27) (m : Int) (j : Nat) : Int := max ((cf j - m) * (rd_T27 l (j : Int)).f0) ((cf j - m) * (rd_T27 l (j : Int)).f1)
theorem aboveS_sum (cf : Int → Int) (l : List S27) (m : Int) : aboveS cf l m = sumTo (aT cf l m) l.length := by
 refine (lsum_sumTo _ _).trans (sumTo_congr _ fun j _ => ?_)
 unfold aT loF hiF
 dsimp only
 rw [show -m - -cf (j : Int) = cf (j : Int) - m by omega]
theorem mulb {c x : Int} (h1 : -30000 ≤ c) (h2 : c ≤ 30000) (h3 : 0 ≤ x) (h4 : x ≤ 120000000) : -3600000000000 ≤ c * x ∧ c * x ≤ 3600000000000 := by
 have e1 := Int.mul_le_mul_of_nonneg_right h1 h3
 have e2 := Int.mul_le_mul_of_nonneg_right h2 h3
 omega
theorem bT_bound {cf : Int → Int} {l : List S27} (H : GOk l) (C : CfOk cf l.length) {m : Int} (h1 : -10001 ≤ m) (h2 : m ≤ 10001) : ∀ j, j < l.length → -3600000000000 ≤ bT cf l m j ∧ bT cf l m j ≤ 3600000000000 := by
 intro j hj
 have a1 := H.at_ j hj
 have a2 := C.at_ j hj
 have b1 := mulb (c := m - cf j) (x := (rd_T27 l (j : Int)).f0) (by omega) (by omega) (by omega) (by omega)
 have b2 := mulb (c := m - cf j) (x := (rd_T27 l (j : Int)).f1) (by omega) (by omega) (by omega) (by omega)
 unfold bT
 omega
theorem aT_bound {cf : Int → Int} {l : List S27} (H : GOk l) (C : CfOk cf l.length) {m : Int} (h1 : -10001 ≤ m) (h2 : m ≤ 10001) : ∀ j, j < l.length → -3600000000000 ≤ aT cf l m j ∧ aT cf l m j ≤ 3600000000000 := by
 intro j hj
 have a1 := H.at_ j hj
 have a2 := C.at_ j hj
 have b1 := mulb (c := cf j - m) (x := (rd_T27 l (j : Int)).f0) (by omega) (by omega) (by omega) (by omega)
 have b2 := mulb (c := cf j - m) (x := (rd_T27 l (j : Int)).f1) (by omega) (by omega) (by omega) (by omega)
 unfold aT
 omega
theorem rbelow_l0 {cf : Int → Int} {l : List S27} {c : List Int} (H : GOk l) (C : CfOk cf l.length) (hl : l.length ≤ c.length) (hc : ∀ j : Nat, j < l.length → rd c (j : Int) = cf (j : Int)) {m : Int} (h1 : -10001 ≤ m) (h2 : m ≤ 10001) :
  ∀ (n i : Nat), i + n = l.length → Ev (fun k => rf_below.l0 k c l m (sumTo (bT cf l m) i) (i : Int)) (belowS cf l m)
 | 0, i, hi => by
  apply Ev.step
  simp only [rf_below.l0, if_neg (show ¬ (i : Int) < (l.length : Int) by omega)]
  rw [show i = l.length by omega, belowS_sum]
  exact Ev.const _
 | n + 1, i, hi => by
  have ih := rbelow_l0 H C hl hc h1 h2 n (i + 1) (by omega)
  have hn := H.n12
  have hlt : i < l.length := by omega
  have a1 := H.at_ i hlt
  have a2 := C.at_ i hlt
  have b1 := mulb (c := m - cf i) (x := (rd_T27 l (i : Int)).f0) (by omega) (by omega) (by omega) (by omega)
  have b2 := mulb (c := m - cf i) (x := (rd_T27 l (i : Int)).f1) (by omega) (by omega) (by omega) (by omega)
  have b3 := bT_bound H C h1 h2 i hlt
  have b4 := sumTo_bound (f := bT cf l m) (M := 3600000000000) (n := l.length) (bT_bound H C h1 h2) i (by omega)
  have e : wrap64 (sumTo (bT cf l m) i + mx (wrap64 (wrap64 (m - rd c (i : Int)) * (rd_T27 l (i : Int)).f0)) (wrap64 (wrap64 (m - rd c (i : Int)) * (rd_T27 l (i : Int)).f1))) = sumTo (bT cf l m) (i + 1) := by
   rw [hc i hlt, wrap_id (x := m - cf i) (by omega) (by omega), wrap_id (x := (m - cf i) * (rd_T27 l (i : Int)).f0) (by omega) (by omega), wrap_id (x := (m - cf i) * (rd_T27 l (i : Int)).f1) (by omega) (by omega), mx_max]
   show wrap64 (sumTo (bT cf l m) i + bT cf l m i) = _
   rw [wrap_id (by omega) (by omega)]
   rfl
  apply Ev.step
  simp only [rf_below.l0, if_pos (show (i : Int) < (l.length : Int) by omega), if_pos (i_pos i), if_pos (show (i : Int) < (c.length : Int) by omega), wrap_succ (i_pos i) (show (i : Int) ≤ 1000000000 by omega), e]
  exact ih
theorem rabove_l0 {cf : Int → Int} {l : List S27} {c : List Int} (H : GOk l) (C : CfOk cf l.length) (hl : l.length ≤ c.length) (hc : ∀ j : Nat, j < l.length → rd c (j : Int) = cf (j : Int)) {m : Int} (h1 : -10001 ≤ m) (h2 : m ≤ 10001) :
  ∀ (n i : Nat), i + n = l.length → Ev (fun k => rf_above.l0 k c l m (sumTo (aT cf l m) i) (i : Int)) (aboveS cf l m)
 | 0, i, hi => by
  apply Ev.step
  simp only [rf_above.l0, if_neg (show ¬ (i : Int) < (l.length : Int) by omega)]
  rw [show i = l.length by omega, aboveS_sum]
  exact Ev.const _
 | n + 1, i, hi => by
  have ih := rabove_l0 H C hl hc h1 h2 n (i + 1) (by omega)
  have hn := H.n12
  have hlt : i < l.length := by omega
  have a1 := H.at_ i hlt
  have a2 := C.at_ i hlt
  have b1 := mulb (c := cf i - m) (x := (rd_T27 l (i : Int)).f0) (by omega) (by omega) (by omega) (by omega)
  have b2 := mulb (c := cf i - m) (x := (rd_T27 l (i : Int)).f1) (by omega) (by omega) (by omega) (by omega)
  have b3 := aT_bound H C h1 h2 i hlt
  have b4 := sumTo_bound (f := aT cf l m) (M := 3600000000000) (n := l.length) (aT_bound H C h1 h2) i (by omega)
  have e : wrap64 (sumTo (aT cf l m) i + mx (wrap64 (wrap64 (rd c (i : Int) - m) * (rd_T27 l (i : Int)).f0)) (wrap64 (wrap64 (rd c (i : Int) - m) * (rd_T27 l (i : Int)).f1))) = sumTo (aT cf l m) (i + 1) := by
   rw [hc i hlt, wrap_id (x := cf i - m) (by omega) (by omega), wrap_id (x := (cf i - m) * (rd_T27 l (i : Int)).f0) (by omega) (by omega), wrap_id (x := (cf i - m) * (rd_T27 l (i : Int)).f1) (by omega) (by omega), mx_max]
   show wrap64 (sumTo (aT cf l m) i + aT cf l m i) = _
   rw [wrap_id (by omega) (by omega)]
   rfl
  apply Ev.step
  simp only [rf_above.l0, if_pos (show (i : Int) < (l.length : Int) by omega), if_pos (i_pos i), if_pos (show (i : Int) < (c.length : Int) by omega), wrap_succ (i_pos i) (show (i : Int) ≤ 1000000000 by omega), e]
  exact ih
section
variable {cf : Int → Int} {l : List S27} {c : List Int} (H : GOk l) (C : CfOk cf l.length) (hp : 0 < wS S27.f0 l l.length) (hl : l.length ≤ c.length) (hc : ∀ j : Nat, j < l.length → rd c (j : Int) = cf (j : Int))
include H C hp hl hc
end
end
section
open Go.RowKit Go.Proofs.YtljfljekcpdpiaaGreatW.PrintWords Go.Proofs.YtljfljekcpdpiaaGreatW.PrintLast Go.Proofs.YtljfljekcpdpiaaGreatW.PrintMore
def b_Grams.f (k : Nat) (l00 : List ByteArray) (l01 : List (S70)) (l02 : List (S27)) (l03 : List (S89)) (a04 : Int) (a05 : Int) (a06 : Int) (l1 : List Int) : Option ((List (S27)) × Int) := (b_asked.f k l00 l01 l02 l03 a04 a05 a06 l1).bind fun t167 => (if t167 = 0 then ((b_grams.f k l00 l01 l02 l03 a04 a05 a06 l1).bind fun t168 => (some (t168, 0))) else (some (([] : List (S27)), t167)))
theorem b_Grams.mono : ∀ a0 a1 a2 a3 a4 a5 a6 a7 k, LeO (b_Grams.f k a0 a1 a2 a3 a4 a5 a6 a7) (b_Grams.f (k + 1) a0 a1 a2 a3 a4 a5 a6 a7) := by
 intro a0 a1 a2 a3 a4 a5 a6 a7 k
 unfold b_Grams.f
 repeat' first
   | (with_reducible exact b_asked.mono _ _ _ _ _ _ _ _ _)
   | (with_reducible exact b_grams.mono _ _ _ _ _ _ _ _ _)
   | (with_reducible exact LeO.refl _)
   | (with_reducible exact LeO.none _)
   | (with_reducible refine LeO.ite ?_ ?_)
   | (with_reducible refine LeO.bind ?_ (fun _ => ?_))
   | exact LeO.none _
   | refine LeO.ite ?_ ?_
   | refine LeO.bind ?_ (fun _ => ?_)
theorem b_Grams.calls (k : Nat) (A00 : Option Addr) (c00 : Nat) (l00 : List ByteArray) (A01 : Option Addr) (c01 : Nat) (l01 : List (S70)) (A02 : Option Addr) (c02 : Nat) (l02 : List (S27)) (A03 : Option Addr) (c03 : Nat) (l03 : List (S89)) (a04 : Int) (a05 : Int) (a06 : Int) (A1 : Option Addr) (c1 : Nat) (l1 : List Int) (r1 : List (S27)) (r2 : Int) (w : World) (hr00 : Kd.C Kd.string w A00 l00.length l00) (hc00 : l00.length ≤ c00) (hr01 : Kd.C k70 w A01 l01.length l01) (hc01 : l01.length ≤ c01) (hr02 : Kd.C k27 w A02 l02.length l02) (hc02 : l02.length ≤ c02) (hr03 : Kd.C k89 w A03 l03.length l03) (hc03 : l03.length ≤ c03) (hr1 : Kd.C (Kd.int .i64) w A1 l1.length l1) (hc1 : l1.length ≤ c1) (h : b_Grams.f k l00 l01 l02 l03 a04 a05 a06 l1 = some (r1, r2)) :
  Calls Tryz.prog 162 #[.agg #[.slice A00 l00.length c00, .slice A01 l01.length c01, .slice A02 l02.length c02, .slice A03 l03.length c03, .int .i64 a04, .int .i64 a05, .int .i64 a06], .slice A1 l1.length c1] w fun e w' => ∃ v0_ : Value, e = .returned (.tuple #[v0_, .int .i64 r2]) ∧ Kd.R k27 27 w' w.heap.size (fun _ => True) v0_ r1 ∧ Below w.heap.size w w' := by
 have hu29 := Tryz.underlying29; have HR00 := Sd.mk hr00; have HC00 := Sd.mk hc00; clear hr00 hc00; have HR01 := Sd.mk hr01; have HC01 := Sd.mk hc01; clear hr01 hc01; have HR02 := Sd.mk hr02; have HC02 := Sd.mk hc02; clear hr02 hc02; have HR03 := Sd.mk hr03; have HC03 := Sd.mk hc03; clear hr03 hc03; have HR1 := Sd.mk hr1; have HC1 := Sd.mk hc1; clear hr1 hc1; have HB := Sd.mk (Below.refl w.heap.size w)
 have H : ((b_asked.f k l00 l01 l02 l03 a04 a05 a06 l1).bind fun t167 => (if t167 = 0 then ((b_grams.f k l00 l01 l02 l03 a04 a05 a06 l1).bind fun t168 => (some (t168, 0))) else (some (([] : List (S27)), t167)))) = some (r1, r2) := h
 clear h; replace H := Option.bind_eq_some_iff.mp H; obtain ⟨t167, A30, H⟩ := H
 try dsimp only at H
 have A3 := Sd.mk A30; clear A30
 by_cases c4 : t167 = 0
 ·rw [if_pos c4] at H
  have c4b0 : (t167 == 0) = true := beq_iff_eq.mpr c4
  have c4b1 : (t167 != 0) = false := bne_eq_false_iff_eq.mpr c4
  clear c4; replace H := Option.bind_eq_some_iff.mp H; obtain ⟨t168, A50, H⟩ := H
  try dsimp only at H
  have A5 := Sd.mk A50; clear A50
  simp only [Option.some.injEq, Prod.mk.injEq] at H
  obtain ⟨rfl, rfl⟩ := H
  go_enter Tryz.func162, Tryz.ntmps162
  go_wp2_with (first | ((with_reducible refine gate_dst (N := 2) rfl ?_); refine box_event ?hg (N := 2) ?hd (cs := #[.slice A00 l00.length c00, .slice A01 l01.length c01, .slice A02 l02.length c02, .slice A03 l03.length c03, .int .i64 a04, .int .i64 a05, .int .i64 a06]) (t := 29) ?hr ?_; (case hd => rfl); (case hg => rfl); (case hr => exact tG); intro gb166 hg w6 hbox hb; have BK166 := Sd.mk (hbox); have GW166 := Sd.mk (bSz hg (bBl HB.out)); have GE166 := Sd.mk (bSz hg (bBl HB.out)); replace HB := Sd.mk (below_step (bBl HB.out) hb); clear hb hbox hg; obtain ⟨u7_0, u7_1, u7_2, u7_3, u7_4, u7_5, u7_6, o70, o71, o72, o73, o74, o75, o76⟩ := bc7 (w := w6) BK166.out) | ((with_reducible refine gate_callee (f := 50) rfl ?_); refine goesL_ (some 9) rfl rfl Tryz.func50 (by kernel_rfl) rfl #[.agg #[.slice A00 l00.length c00, .slice A01 l01.length c01, .slice A02 l02.length c02, .slice A03 l03.length c03, .int .i64 a04, .int .i64 a05, .int .i64 a06], .slice A1 l1.length c1] rfl tM ?_; (with_reducible refine (b_asked.calls k _ _ l00 _ _ l01 _ _ l02 _ _ l03 a04 a05 a06 _ _ l1 t167 _ (cS (Kd.C_below HR00.out HB.out)) HC00.out (cS (Kd.C_below HR01.out HB.out)) HC01.out (cS (Kd.C_below HR02.out HB.out)) HC02.out (cS (Kd.C_below HR03.out HB.out)) HC03.out (cS (Kd.C_below HR1.out HB.out)) HC1.out A3.out).mono ?_); rintro e w8 ⟨rfl, hb⟩; refine ⟨_, rfl, ?_⟩; replace BK166 := Sd.mk (blk_below (bkA BK166.out) hb); replace HB := Sd.mk (below_step (bBl HB.out) hb); (try clear hb); (try clear hb2); (try clear hk); (try clear hi); obtain ⟨u9_0, u9_1, u9_2, u9_3, u9_4, u9_5, u9_6, o90, o91, o92, o93, o94, o95, o96⟩ := bc7 (w := w8) BK166.out) | ((with_reducible refine gate_callee (f := 204) rfl ?_); refine goesL_ (some 15) rfl rfl Tryz.func204 (by kernel_rfl) rfl #[.agg #[.slice A00 l00.length c00, .slice A01 l01.length c01, .slice A02 l02.length c02, .slice A03 l03.length c03, .int .i64 a04, .int .i64 a05, .int .i64 a06], .slice A1 l1.length c1] rfl tM ?_; (with_reducible refine (b_grams.calls k _ _ l00 _ _ l01 _ _ l02 _ _ l03 a04 a05 a06 _ _ l1 t168 _ (cS (Kd.C_below HR00.out HB.out)) HC00.out (cS (Kd.C_below HR01.out HB.out)) HC01.out (cS (Kd.C_below HR02.out HB.out)) HC02.out (cS (Kd.C_below HR03.out HB.out)) HC03.out (cS (Kd.C_below HR1.out HB.out)) HC1.out A5.out).mono ?_); rintro e w10 ⟨v169, rfl, ho0, hb⟩; refine ⟨_, rfl, ?_⟩; have HO170 := Sd.mk (Kd.R_lower ho0 (below_size (bBl HB.out))); replace BK166 := Sd.mk (blk_below (bkA BK166.out) hb); replace HB := Sd.mk (below_step (bBl HB.out) hb); (try clear hb); (try clear hb2); (try clear hk); (try clear hi); (try clear ho0)))
  go_ret2
  exact ⟨_, tE, by (with_reducible repeat (first | apply Kd.R_alloc | apply Kd.R_drewN | apply Kd.R_drew)); exact HO170.out, bBl HB.out⟩
 ·rw [if_neg c4] at H
  have c4b0 : (t167 == 0) = false := beq_eq_false_iff_ne.mpr c4
  have c4b1 : (t167 != 0) = true := bne_iff_ne.mpr c4
  simp only [Option.some.injEq, Prod.mk.injEq] at H
  obtain ⟨rfl, rfl⟩ := H
  go_enter Tryz.func162, Tryz.ntmps162
  go_wp2_with (first | ((with_reducible refine gate_dst (N := 2) rfl ?_); refine box_event ?hg (N := 2) ?hd (cs := #[.slice A00 l00.length c00, .slice A01 l01.length c01, .slice A02 l02.length c02, .slice A03 l03.length c03, .int .i64 a04, .int .i64 a05, .int .i64 a06]) (t := 29) ?hr ?_; (case hd => rfl); (case hg => rfl); (case hr => exact tG); intro gb166 hg w11 hbox hb; have BK166 := Sd.mk (hbox); have GW166 := Sd.mk (bSz hg (bBl HB.out)); have GE166 := Sd.mk (bSz hg (bBl HB.out)); replace HB := Sd.mk (below_step (bBl HB.out) hb); clear hb hbox hg; obtain ⟨u12_0, u12_1, u12_2, u12_3, u12_4, u12_5, u12_6, o120, o121, o122, o123, o124, o125, o126⟩ := bc7 (w := w11) BK166.out) | ((with_reducible refine gate_callee (f := 50) rfl ?_); refine goesL_ (some 9) rfl rfl Tryz.func50 (by kernel_rfl) rfl #[.agg #[.slice A00 l00.length c00, .slice A01 l01.length c01, .slice A02 l02.length c02, .slice A03 l03.length c03, .int .i64 a04, .int .i64 a05, .int .i64 a06], .slice A1 l1.length c1] rfl tM ?_; (with_reducible refine (b_asked.calls k _ _ l00 _ _ l01 _ _ l02 _ _ l03 a04 a05 a06 _ _ l1 t167 _ (cS (Kd.C_below HR00.out HB.out)) HC00.out (cS (Kd.C_below HR01.out HB.out)) HC01.out (cS (Kd.C_below HR02.out HB.out)) HC02.out (cS (Kd.C_below HR03.out HB.out)) HC03.out (cS (Kd.C_below HR1.out HB.out)) HC1.out A3.out).mono ?_); rintro e w13 ⟨rfl, hb⟩; refine ⟨_, rfl, ?_⟩; replace BK166 := Sd.mk (blk_below (bkA BK166.out) hb); replace HB := Sd.mk (below_step (bBl HB.out) hb); (try clear hb); (try clear hb2); (try clear hk); (try clear hi)))
  go_ret2
  exact ⟨_, tE, by first | exact Kd.R_nil _ _ _ _ _ | exact Kd.N_nil _ _ _ _ _ | exact Kd.V_nil _ _ _ _ _ | exact Kd.Q_nil _ _ _ _ _ | exact Kd.S_nil _ _ _ _ _, bBl HB.out⟩
end
section
open Go.RowKit Go.Proofs.YtljfljekcpdpiaaGreatW.PrintWords Go.Proofs.YtljfljekcpdpiaaGreatW.PrintLast Go.Proofs.YtljfljekcpdpiaaGreatW.PrintMore
def x_glass.f (k : Nat) (l00 : List ByteArray) (l01 : List (S70)) (l02 : List (S27)) (l03 : List (S89)) (a04 : Int) (a05 : Int) (a06 : Int) (l1 : List Int) : Option ((List (S27)) × Int) := (b_Grams.f k l00 l01 l02 l03 a04 a05 a06 l1).bind fun p => if p.2 = 0 then ((b_weight.f k p.1).bind fun q => if q.1 = 0 then some ([], 8) else some (p.1, p.2)) else some (p.1, p.2)
theorem x_glass.mono : ∀ l00 l01 l02 l03 a04 a05 a06 l1 k, LeO (x_glass.f k l00 l01 l02 l03 a04 a05 a06 l1) (x_glass.f (k + 1) l00 l01 l02 l03 a04 a05 a06 l1) := by
  intro l00 l01 l02 l03 a04 a05 a06 l1 k
  unfold x_glass.f
  refine LeO.bind (b_Grams.mono _ _ _ _ _ _ _ _ _) fun p => ?_
  refine LeO.ite ?_ (LeO.refl _)
  refine LeO.bind (b_weight.mono _ _) fun q => ?_
  exact LeO.refl _
theorem field270 (w : World) (a b : Int) : (Instr.field 27 (.agg #[.int .i64 a, .int .i64 b]) 0).run Tryz.prog w = .ok (.int .i64 a) w := by kernel_rfl
theorem x_glass.calls (k : Nat) (A00 : Option Addr) (c00 : Nat) (l00 : List ByteArray) (A01 : Option Addr) (c01 : Nat) (l01 : List (S70)) (A02 : Option Addr) (c02 : Nat) (l02 : List (S27)) (A03 : Option Addr) (c03 : Nat) (l03 : List (S89)) (a04 : Int) (a05 : Int) (a06 : Int) (A1 : Option Addr) (c1 : Nat) (l1 : List Int) (r1 : List (S27)) (r2 : Int) (w : World) (hr00 : Kd.C Kd.string w A00 l00.length l00) (hc00 : l00.length ≤ c00) (hr01 : Kd.C k70 w A01 l01.length l01) (hc01 : l01.length ≤ c01) (hr02 : Kd.C k27 w A02 l02.length l02) (hc02 : l02.length ≤ c02) (hr03 : Kd.C k89 w A03 l03.length l03) (hc03 : l03.length ≤ c03) (hr1 : Kd.C (Kd.int .i64) w A1 l1.length l1) (hc1 : l1.length ≤ c1) (h : x_glass.f k l00 l01 l02 l03 a04 a05 a06 l1 = some (r1, r2)) :
    Calls Tryz.prog 83 #[.agg #[.slice A00 l00.length c00, .slice A01 l01.length c01, .slice A02 l02.length c02, .slice A03 l03.length c03, .int .i64 a04, .int .i64 a05, .int .i64 a06], .slice A1 l1.length c1] w fun e w' => ∃ v0_ : Value, e = .returned (.tuple #[v0_, .int .i64 r2]) ∧ Kd.R k27 27 w' w.heap.size (fun _ => True) v0_ r1 ∧ Below w.heap.size w w' := by
  unfold x_glass.f at h
  obtain ⟨p, hp, H⟩ := Option.bind_eq_some_iff.mp h
  have hG := fun (W : World) (hb : Below w.heap.size w W) => b_Grams.calls k A00 c00 l00 A01 c01 l01 A02 c02 l02 A03 c03 l03 a04 a05 a06 A1 c1 l1 p.1 p.2 W (Kd.C_below hr00 hb) hc00 (Kd.C_below hr01 hb) hc01 (Kd.C_below hr02 hb) hc02 (Kd.C_below hr03 hb) hc03 (Kd.C_below hr1 hb) hc1 hp
  have HG := Sd.mk hG
  clear hG h hp hr00 hr01 hr02 hr03 hr1
  obtain ⟨pl, pe⟩ := p
  dsimp only at H HG
  have hb0 : Below w.heap.size w (w.alloc (.cells #[.slice A00 l00.length c00, .slice A01 l01.length c01, .slice A02 l02.length c02, .slice A03 l03.length c03, .int .i64 a04, .int .i64 a05, .int .i64 a06] 29)) := below_alloc (Below.refl _ _) _
  have hgo := HG.out _ hb0
  have HB0 := Sd.mk hb0
  clear hb0 HG
  have HH := Sd.mk H
  clear H
  have hfld := field270
  go_enter Tryz.func83, Tryz.ntmps83
  go_wp2_with fail
  refine hgo.mono ?_
  clear hgo
  rintro e w1 ⟨v, rfl, hR, hb⟩
  have hR0 := Kd.R_lower (base' := w.heap.size) hR (by simp)
  obtain ⟨A, c, rfl, hlc, hC⟩ := Kd.R_reads hR
  have HR := Sd.mk hR0
  have HB := Sd.mk (below_trans' HB0.out hb)
  have HC := Sd.mk hC
  have H := HH.out
  clear hR hb HB0 hR0 hC HH
  by_cases he : pe = 0
  · rw [if_pos he] at H
    obtain ⟨q, hq, H⟩ := Option.bind_eq_some_iff.mp H
    have hW := fun (W : World) (hb : Below w1.heap.size w1 W) => b_weight.calls k A c pl q.1 q.2 W (Kd.C_below HC.out hb) hlc hq
    have HW := Sd.mk (hW w1 (Below.refl _ _))
    clear hW hq
    have heb : (pe == 0) = true := beq_iff_eq.mpr he
    obtain ⟨q1, q2⟩ := q
    dsimp only at H HW
    have HH := Sd.mk H
    have HE := Sd.mk he
    clear H he
    go_wp2_with fail
    refine HW.out.mono ?_
    clear HW
    rintro e w2 ⟨rfl, hb2⟩
    have HB2 := Sd.mk (below_trans' HB.out hb2)
    have HR2 := Sd.mk (Kd.R_below HR.out hb2)
    clear hb2 HR HB
    have H := HH.out
    by_cases hq0 : q1 = 0
    · rw [if_pos hq0] at H
      have hqb : (q1 == 0) = true := beq_iff_eq.mpr hq0
      simp only [Option.some.injEq, Prod.mk.injEq] at H
      obtain ⟨rfl, rfl⟩ := H
      clear hq0 HH
      go_wp2
      go_ret2
      exact ⟨_, rfl, Kd.R_nil _ _ _ _ _, HB2.out⟩
    · rw [if_neg hq0] at H
      have hqb : (q1 == 0) = false := beq_eq_false_iff_ne.mpr hq0
      simp only [Option.some.injEq, Prod.mk.injEq] at H
      obtain ⟨rfl, rfl⟩ := H
      clear hq0 HH
      go_wp2
      go_ret2
      exact ⟨_, rfl, HR2.out, HB2.out⟩
  · rw [if_neg he] at H
    have heb : (pe == 0) = false := beq_eq_false_iff_ne.mpr he
    simp only [Option.some.injEq, Prod.mk.injEq] at H
    obtain ⟨rfl, rfl⟩ := H
    go_wp2
    go_ret2
    exact ⟨_, rfl, HR.out, HB.out⟩
end
section
attribute [local go_sem] max2_int min2_int max_two min_two
theorem mean_calls (cf : Int → Int) (A0 : Option Addr) (c0 : Nat) (l0 : List S27) (g : Nat) (lb : Array Value) (w : World) (eg : ∀ args w, (callFunc g args).run Tryz.prog w = .ok (.enter g args) w)
  (hr0 : Kd.C k27 w A0 l0.length l0) (hc0 : l0.length ≤ c0) (hq : CoefQ g lb cf l0.length w) (hok : MeanOk cf l0) :
  Calls Tryz.prog 85 #[.slice A0 l0.length c0, .func (.func g) #[] lb] w fun e w' => e = .returned (.agg #[.int .i64 (meanLo cf l0), .int .i64 (meanHi cf l0)]) ∧ Below w.heap.size w w' := by
 have hn := hok.n12
 have HR0 := Sd.mk hr0
 have HQ := Sd.mk hq
 have HOK := Sd.mk hok
 have HMK := print_make 30 3 .i64 8 Tryz.underlying30 info3 (by decide) l0.length (by omega)
 have hpos : 0 < l0.length := by
  rcases Nat.eq_zero_or_pos l0.length with h | h
  ·have := List.eq_nil_of_length_eq_zero h
   subst this
   exact absurd hok.pos (by simp)
  ·exact h
 have HN := Sd.mk hn
 clear hr0 hq hok
 go_enter Tryz.func85, Tryz.ntmps85
 go_wp2
 have hz0 : (madeCells #[Value.int .i64 0] l0.length) = (Array.ofFn fun _ : Fin l0.length => Value.int .i64 0) := by
  apply Array.ext
  ·simp [madeCells]
  ·intro i h1 h2; simp [madeCells, Nat.mod_one]
 rw [hz0]
 have hzb : (((w.alloc (.cells #[.func (.func g) #[] lb] 126)).alloc (.cells #[.int .i64 0, .int .i64 0] 27)).alloc (.cells (Array.ofFn fun _ : Fin l0.length => Value.int .i64 0) 3)).heap[w.heap.size + 1 + 1]? = some (.cells (Array.ofFn fun _ : Fin l0.length => Value.int .i64 0) 3 (0, 0)) := by
  have := blk_new ((w.alloc (.cells #[.func (.func g) #[] lb] 126)).alloc (.cells #[.int .i64 0, .int .i64 0] 27)) (.cells (Array.ofFn fun _ : Fin l0.length => Value.int .i64 0) 3)
  simpa using this
 have hrb : (((w.alloc (.cells #[.func (.func g) #[] lb] 126)).alloc (.cells #[.int .i64 0, .int .i64 0] 27)).alloc (.cells (Array.ofFn fun _ : Fin l0.length => Value.int .i64 0) 3)).heap[w.heap.size + 1]? = some (.cells #[.int .i64 0, .int .i64 0] 27 (0, 0)) := by
  have := blk_alloc (blk_new (w.alloc (.cells #[.func (.func g) #[] lb] 126)) (.cells #[.int .i64 0, .int .i64 0] 27)) (.cells (Array.ofFn fun _ : Fin l0.length => Value.int .i64 0) 3)
  simpa using this
 have hfb : (((w.alloc (.cells #[.func (.func g) #[] lb] 126)).alloc (.cells #[.int .i64 0, .int .i64 0] 27)).alloc (.cells (Array.ofFn fun _ : Fin l0.length => Value.int .i64 0) 3)).heap[w.heap.size]? = some (.cells #[.func (.func g) #[] lb] 126 (0, 0)) :=
  blk_alloc (blk_alloc (blk_new w (.cells #[.func (.func g) #[] lb] 126)) _) _
 have hbe : Below w.heap.size w (((w.alloc (.cells #[.func (.func g) #[] lb] 126)).alloc (.cells #[.int .i64 0, .int .i64 0] 27)).alloc (.cells (Array.ofFn fun _ : Fin l0.length => Value.int .i64 0) 3)) := below_alloc (below_alloc (below_alloc (Below.refl _ _) _) _) _
 generalize ((w.alloc (.cells #[.func (.func g) #[] lb] 126)).alloc (.cells #[.int .i64 0, .int .i64 0] 27)).alloc (.cells (Array.ofFn fun _ : Fin l0.length => Value.int .i64 0) 3) = w1 at *
 have hH : Holds (Value.int .i64) w1 (w.heap.size + 1 + 1) 0 (fillTo l0.length 0) := by
  intro j hj
  rw [fillTo_size] at hj
  rw [blk_cell hzb, blk_frozen hzb, getElem!_pos _ j (by rw [fillTo_size]; exact hj)]
  simp [fillTo, hj]
 have HH := Sd.mk hH
 have HZB := Sd.mk hzb
 have HRB := Sd.mk hrb
 have HFB := Sd.mk hfb
 have HBE := Sd.mk hbe
 clear hH hzb hrb hfb hbe hz0 HMK
 have hself : w1 = putRow (Value.int .i64) w1 (w.heap.size + 1 + 1) 0 (fillTo l0.length 0) := (Go.Sort.putRow_self _ _ _ _ _ HH.out).symm
 have HSELF := Sd.mk hself
 clear hself
 go_loopg [22] l0.length (fun gq v22 wr => ∃ k : Nat, v22 = .int .i64 k ∧ k ≤ l0.length ∧ l0.length - k ≤ gq ∧ wr = putRow (Value.int .i64) w1 (w.heap.size + 1 + 1) 0 (fillTo l0.length k))
 case atStart => exact ⟨0, rfl, Nat.zero_le _, by omega, HSELF.out⟩
 case round =>
  obtain ⟨k, rfl, hk, hgk, rfl⟩ := hrel
  by_cases hlt : k < l0.length
  ·have hltz : (k : Int) < (l0.length : Int) := by omega
   have hcell := (Go.Sort.holds_putRow (Value.int .i64) w1 (w.heap.size + 1 + 1) 0 (fillTo l0.length 0) (fillTo l0.length k) HH.out (by rw [fillTo_size, fillTo_size])) k (by rw [fillTo_size]; exact hlt)
   have hset := Go.Sort.putRow_set (Value.int .i64) w1 (w.heap.size + 1 + 1) 0 (fillTo l0.length k) k (k : Int) (by rw [fillTo_size]; exact hlt)
   rw [fillTo_step _ _ hlt] at hset
   simp only [Nat.zero_add] at hcell hset
   obtain ⟨hc1, hc2⟩ := hcell
   have HSET := Sd.mk hset
   clear hset
   generalize putRow (Value.int .i64) w1 (w.heap.size + 1 + 1) 0 (fillTo l0.length k) = wq at hc1 hc2 HSET ⊢
   generalize (fillTo l0.length k)[k]! = z at hc1
   go_wp2
   go_roundg (l0.length - (k + 1))
   case measure => omega
   case rel => exact ⟨k + 1, by go_num, by omega, by omega, HSET.out⟩
  ·have hltz : ¬ (k : Int) < (l0.length : Int) := by omega
   obtain rfl : k = l0.length := by omega
   rw [fillTo_all]
   have hio : Holds (Value.int .i64) (putRow (Value.int .i64) w1 (w.heap.size + 1 + 1) 0 (iotaA l0.length)) (w.heap.size + 1 + 1) 0 (iotaA l0.length) :=
    Go.Sort.holds_putRow (Value.int .i64) w1 (w.heap.size + 1 + 1) 0 (fillTo l0.length 0) (iotaA l0.length) HH.out (by rw [fillTo_size, iotaA_size])
   have hb2 : Below w.heap.size w (putRow (Value.int .i64) w1 (w.heap.size + 1 + 1) 0 (iotaA l0.length)) := below_putRow HBE.out (by omega) _
   have hf2 : (putRow (Value.int .i64) w1 (w.heap.size + 1 + 1) 0 (iotaA l0.length)).heap[w.heap.size]? = some (.cells #[.func (.func g) #[] lb] 126 (0, 0)) := blk_putRow HFB.out (by omega) _
   have hr2 : (putRow (Value.int .i64) w1 (w.heap.size + 1 + 1) 0 (iotaA l0.length)).heap[w.heap.size + 1]? = some (.cells #[.int .i64 0, .int .i64 0] 27 (0, 0)) := blk_putRow HRB.out (by omega) _
   generalize putRow (Value.int .i64) w1 (w.heap.size + 1 + 1) 0 (iotaA l0.length) = w2 at hio hb2 hf2 hr2 ⊢
   clear HH HZB HRB HFB HBE HSELF
   have hsort := sortFunc_calls (fun a b => cf a - cf b) l0.length 168 #[.pointer (some ⟨w.heap.size, 0, none⟩)] rfl (w.heap.size + 1 + 1) 0 l0.length (iotaA l0.length) w2 (enters_of Tryz.func168 (by kernel_rfl) rfl)
    (fun m dk _ x y hx0 hx1 hy0 hy1 => meanCmp_calls w.heap.size g lb cf l0.length w ((putRow (Value.int .i64) w2 (w.heap.size + 1 + 1) 0 dk).drewN m) eg HQ.out
     (pw_below_drewN (below_putRow hb2 (by omega) dk) m) ((blk_cell (blk_drewN (blk_putRow hf2 (by omega) dk) m) 0).trans rfl) x y hx0 hx1 hy0 hy1 (HOK.out.c1 x hx0 hx1) (HOK.out.c2 x hx0 hx1) (HOK.out.c1 y hy0 hy1) (HOK.out.c2 y hy0 hy1))
    hio (fun j hj => by rw [iotaA_size] at hj; rw [getElem!_pos _ j (by rw [iotaA_size]; exact hj)]; simp [iotaA]; omega) (by rw [iotaA_size]; exact HN.out)
   rw [iotaA_size] at hsort
   have HSORT := Sd.mk hsort
   have HB2 := Sd.mk hb2
   have HF2 := Sd.mk hf2
   have HR2 := Sd.mk hr2
   have HIO2 := Sd.mk hio
   clear hsort hb2 hf2 hr2 hio hltz
   go_wp2_with (go_at_call 167; refine HSORT.out.mono ?_; rintro e w3 ⟨rfl, m3, rfl⟩)
   have hD : orderOf cf l0.length = Sort.insertionSort (ltC fun a b => cf a - cf b) (iotaA l0.length) 0 l0.length := rfl
   rw [← hD]
   have hholds := Go.Sort.holds_putRow (Value.int .i64) w2 (w.heap.size + 1 + 1) 0 (iotaA l0.length) (orderOf cf l0.length) HIO2.out (by rw [order_size, iotaA_size])
   have hsz : (putRow (Value.int .i64) w2 (w.heap.size + 1 + 1) 0 (orderOf cf l0.length)).heap.size = w2.heap.size := Go.Sort.size_putRow _ _ _ _ _
   have h5lt : w.heap.size + 1 + 1 < w2.heap.size := by
    have := World.block_lt_of_cell? _ _ ((hholds 0 (by rw [order_size]; exact hpos)).1)
    rw [hsz] at this; exact this
   have hout : OutW w w.heap.size (w.heap.size + 1) (w.heap.size + 1 + 1) w2.heap.size g lb (orderOf cf l0.length)
     (((putRow (Value.int .i64) w2 (w.heap.size + 1 + 1) 0 (orderOf cf l0.length)).drewN m3).alloc (.cells #[.int .i64 0, .int .i64 0] 27)) 0 0 := by
    refine ⟨below_alloc (pw_below_drewN (below_putRow HB2.out (by omega) _) m3) _, blk_alloc (blk_drewN (blk_putRow HF2.out (by omega) _) m3) _, blk_alloc (blk_drewN (blk_putRow HR2.out (by omega) _) m3) _, fun j hj => ?_, ?_⟩
    ·have := (hholds j hj).1
     simp only [Nat.zero_add] at this
     exact pw_cell_below (below_alloc (pw_below_drewN (Below.refl _ _) m3) _) this
    ·have := blk_new ((putRow (Value.int .i64) w2 (w.heap.size + 1 + 1) 0 (orderOf cf l0.length)).drewN m3) (.cells #[.int .i64 0, .int .i64 0] 27)
     simpa [hsz] using this
   generalize ((putRow (Value.int .i64) w2 (w.heap.size + 1 + 1) 0 (orderOf cf l0.length)).drewN m3).alloc (.cells #[.int .i64 0, .int .i64 0] 27) = w4 at hout ⊢
   generalize w2.heap.size = Bo at hout h5lt ⊢
   have HOUT := Sd.mk hout
   have hsD := order_size cf l0.length
   have hAll := order_in cf l0.length
   have HSD := Sd.mk hsD
   have HALL := Sd.mk hAll
   have HPERM := Sd.mk (order_perm cf l0.length)
   have HFIN : Sd (meanLo cf l0 = minF (lowQ cf l0 (orderOf cf l0.length)) l0.length ∧ meanHi cf l0 = maxF (highQ cf l0 (orderOf cf l0.length)) l0.length) := ⟨⟨rfl, rfl⟩⟩
   clear hout hholds hsz hD HSORT HB2 HF2 HR2 HIO2 hsD hAll
   generalize orderOf cf l0.length = D at HOUT HSD HALL HFIN HPERM
   go_loopg [8] (l0.length + 1) (fun gq v8 wr => ∃ cut : Nat, v8 = .int .i64 cut ∧ cut ≤ l0.length + 1 ∧ l0.length + 1 - cut ≤ gq ∧ Sd (OutW w w.heap.size (w.heap.size + 1) (w.heap.size + 1 + 1) Bo g lb D wr (atCut (lowQ cf l0 D) minF cut) (atCut (highQ cf l0 D) maxF cut)))
   case atStart => exact ⟨0, rfl, by omega, by omega, HOUT⟩
   case round =>
    obtain ⟨cut, rfl, hcut, hgq, HO⟩ := hrel
    by_cases hle : cut ≤ l0.length
    ·have hlez : (cut : Int) ≤ (l0.length : Int) := by omega
     go_wp2
     have hsz2 : wr.heap.size + 1 = (wr.alloc (.cells #[.int .i64 0, .int .i64 0] 190)).heap.size := by simp
     have hmw : MeanW wr ((wr.alloc (.cells #[.int .i64 0, .int .i64 0] 190)).alloc (.cells #[.int .i64 0, .int .i64 0] 190)) wr.heap.size (wr.heap.size + 1) 0 0 0 0 :=
      ⟨below_alloc (below_alloc (Below.refl _ _) _) _, blk_alloc (blk_new wr _) _, by rw [hsz2]; exact blk_new _ _⟩
     have HMW := Sd.mk hmw
     clear hmw hsz2
     generalize (wr.alloc (.cells #[.int .i64 0, .int .i64 0] 190)).alloc (.cells #[.int .i64 0, .int .i64 0] 190) = w5 at HMW ⊢
     obtain ⟨wo, rfl⟩ : ∃ wo : World, wo = wr := ⟨_, rfl⟩
     go_loopg [41] l0.length (fun gq2 v41 wr2 => ∃ at_ : Nat, v41 = .int .i64 at_ ∧ at_ ≤ l0.length ∧ l0.length - at_ ≤ gq2 ∧ Sd (MeanW wo wr2 wo.heap.size (wo.heap.size + 1) (lowN cf l0 D cut at_) (lowD l0 D cut at_) (highN cf l0 D cut at_) (highD l0 D cut at_)))
     case atStart => exact ⟨0, rfl, by omega, by omega, HMW⟩
     case round =>
      obtain ⟨at_, rfl, hat, hgq2, HM⟩ := hrel
      by_cases hlt2 : at_ < l0.length
      ·have hltz2 : (at_ : Int) < (l0.length : Int) := by omega
       have hm := HM.out
       have ho := HO.out.later hm.below
       have hj := HALL.out at_ (by rw [HSD.out]; exact hlt2)
       have hord := ho.row at_ (by rw [HSD.out]; exact hlt2)
       have hfn : wr.cell? ⟨w.heap.size, 0, none⟩ = some (.func (.func g) #[] lb) := (blk_cell ho.fn 0).trans rfl
       have hrg := mean_ranges HOK.out D HALL.out HSD.out cut at_ hlt2
       have hb1 := mean_sums HOK.out D HALL.out HSD.out cut at_ hat
       have hstep : lowN cf l0 D cut (at_ + 1) = lowN cf l0 D cut at_ + cf D[at_]! * wX l0 D cut at_ ∧ lowD l0 D cut (at_ + 1) = lowD l0 D cut at_ + wX l0 D cut at_ ∧ highN cf l0 D cut (at_ + 1) = highN cf l0 D cut at_ + cf D[at_]! * wY l0 D cut at_ ∧ highD l0 D cut (at_ + 1) = highD l0 D cut at_ + wY l0 D cut at_ := ⟨rfl, rfl, rfl, rfl⟩
       have HSTEP := Sd.mk hstep
       clear hstep
       have hX : wX l0 D cut at_ = if (at_ : Int) < (cut : Int) then (rd_T27 l0 D[at_]!).f1 else (rd_T27 l0 D[at_]!).f0 := rfl
       have hY : wY l0 D cut at_ = if (at_ : Int) < (cut : Int) then (rd_T27 l0 D[at_]!).f0 else (rd_T27 l0 D[at_]!).f1 := rfl
       have hcoef : ∀ W, Below wo.heap.size wo W → Calls Tryz.prog g (#[.int .i64 D[at_]!] ++ lb) W fun e w' => e = .returned (.int .i64 (cf D[at_]!)) ∧ ∃ q, w' = W.drewN q := fun W hW => HQ.out W (below_trans' HO.out.below hW) _ hj.1 hj.2
       obtain ⟨hj0, hj1⟩ := hj
       obtain ⟨ads, es, hs0, hs1⟩ := at_T27 (Kd.C_below HR0.out ho.below) D[at_]! hj0 hj1
       cases es
       generalize wX l0 D cut at_ = X at *
       generalize wY l0 D cut at_ = Y at *
       generalize cf D[at_]! = ck at *
       generalize rd_T27 l0 D[at_]! = sp at *
       generalize D[at_]! = kk at *
       have HC := Sd.mk hcoef
       have HX := Sd.mk hX
       have HY := Sd.mk hY
       have HRG := Sd.mk hrg
       have HB1 := Sd.mk hb1
       have hlen12 := HN.out
       clear hcoef hX hY hrg hb1 ho hm
       go_upto_region 16 with (fail)
       go_quiet (fail)
       go_upto_if 58 with (fail)
       go_cut [13, 14] (fun v13 v14 wx => v13 = .int .i64 X ∧ v14 = .int .i64 Y ∧ wr.drewN nq = wx)
       case first =>
        by_cases hac : (at_ : Int) < (cut : Int)
        ·go_wp2
         go_meet
         exact ⟨by rw [HX.out, if_pos hac], by rw [HY.out, if_pos hac], rfl⟩
        ·go_wp2
         go_meet
         exact ⟨by rw [HX.out, if_neg (show ¬ (at_ : Int) < (cut : Int) by omega)], by rw [HY.out, if_neg (show ¬ (at_ : Int) < (cut : Int) by omega)], rfl⟩
       case rest =>
        obtain ⟨rfl, rfl, rfl⟩ := hcut
        have hm := HM.out.drewN nq
        clear hfn hord hs0 hs1 HM HX HY
        obtain ⟨hX1, hY1, hp1, hp2⟩ := HRG.out
        obtain ⟨hs1, hs2, hs3, hs4⟩ := HB1.out
        obtain ⟨es1, es2, es3, es4⟩ := HSTEP.out
        have HW1 := Sd.mk (wrap_two es1 hs1.1 hs1.2 hp1.1 hp1.2)
        have HW2 := Sd.mk (wrap_one es2 hs2.1 hs2.2 hX1.1 hX1.2)
        have HW3 := Sd.mk (wrap_two es3 hs3.1 hs3.2 hp2.1 hp2.2)
        have HW4 := Sd.mk (wrap_one es4 hs4.1 hs4.2 hY1.1 hY1.2)
        clear hX1 hY1 hp1 hp2 hs1 hs2 hs3 hs4 es1 es2 es3 es4 HSTEP HRG HB1
        generalize wr.drewN nq = wn at hm ⊢
        have HM2 := Sd.mk hm
        have h90 : wn.cell? ⟨wo.heap.size, 0, none⟩ = some (.int .i64 (lowN cf l0 D cut at_)) := (blk_cell hm.b9 0).trans rfl
        have h91 : wn.cell? ⟨wo.heap.size, 1, none⟩ = some (.int .i64 (lowD l0 D cut at_)) := (blk_cell hm.b9 1).trans rfl
        have h92 := blk_frozen hm.b9 0
        have h93 := blk_frozen hm.b9 1
        have hfn : wn.cell? ⟨w.heap.size, 0, none⟩ = some (.func (.func g) #[] lb) := (blk_cell (HO.out.later hm.below).fn 0).trans rfl
        have hc1 := HC.out wn.drew (below_drew hm.below)
        clear hm
        go_upto_region 19 with (fail)
        go_cut [12] (fun v12 wx => v12 = .int .i64 kk ∧ Sd (MeanW wo wx wo.heap.size (wo.heap.size + 1) (lowN cf l0 D cut (at_ + 1)) (lowD l0 D cut (at_ + 1)) (highN cf l0 D cut at_) (highD l0 D cut at_)))
        case first =>
         clear HSD HALL HFIN HOUT HN HO HC HQ HR0 HOK
         go_region_with (go_at_fn g; refine hc1.mono ?_; rintro e w' ⟨rfl, q, rfl⟩)
         all_goals
          go_wp2_with fail
          go_meet
          refine ⟨rfl, ⟨?_⟩⟩
          rw [HW1.out, HW2.out]
          exact (HM2.out.drewN _).put9 (Nat.le_refl _) (by omega) _ _
        case rest =>
         clear h90 h91 h92 h93 hfn hc1 HM2
         rename_i wn2
         obtain ⟨rfl, HM2⟩ := hcut
         have hm := HM2.out
         have h90 : wc.cell? ⟨wo.heap.size + 1, 0, none⟩ = some (.int .i64 (highN cf l0 D cut at_)) := (blk_cell hm.b10 0).trans rfl
         have h91 : wc.cell? ⟨wo.heap.size + 1, 1, none⟩ = some (.int .i64 (highD l0 D cut at_)) := (blk_cell hm.b10 1).trans rfl
         have h92 := blk_frozen hm.b10 0
         have h93 := blk_frozen hm.b10 1
         have hfn : wc.cell? ⟨w.heap.size, 0, none⟩ = some (.func (.func g) #[] lb) := (blk_cell (HO.out.later hm.below).fn 0).trans rfl
         have hc1 := HC.out wc.drew (below_drew hm.below)
         clear hm
         go_upto_region 20 with (fail)
         go_region_with (go_at_fn g; refine hc1.mono ?_; rintro e w' ⟨rfl, q, rfl⟩)
         all_goals
          have hm4 : MeanW wo (((wc.drewN (1 + q)).setCell ⟨wo.heap.size + 1, 0, none⟩ (.int .i64 (IntKind.i64.wrap (highN cf l0 D cut at_ + IntKind.i64.wrap (ck * Y))))).setCell ⟨wo.heap.size + 1, 1, none⟩ (.int .i64 (IntKind.i64.wrap (highD l0 D cut at_ + Y)))) wo.heap.size (wo.heap.size + 1) (lowN cf l0 D cut (at_ + 1)) (lowD l0 D cut (at_ + 1)) (highN cf l0 D cut (at_ + 1)) (highD l0 D cut (at_ + 1)) := by
           rw [HW3.out, HW4.out]
           exact (HM2.out.drewN _).put10 (by omega) (by omega) _ _
          have HM4 := Sd.mk hm4
          clear hm4 h90 h91 h92 h93 hfn hc1
          generalize ((wc.drewN (1 + q)).setCell ⟨wo.heap.size + 1, 0, none⟩ (.int .i64 (IntKind.i64.wrap (highN cf l0 D cut at_ + IntKind.i64.wrap (ck * Y))))).setCell ⟨wo.heap.size + 1, 1, none⟩ (.int .i64 (IntKind.i64.wrap (highD l0 D cut at_ + Y))) = w9 at HM4 ⊢
          go_wp2
          go_roundg (l0.length - (at_ + 1))
          case measure => omega
          case rel => exact ⟨at_ + 1, by go_num, by omega, by omega, HM4⟩
      ·have hltz2 : ¬ (at_ : Int) < (l0.length : Int) := by omega
       obtain rfl : at_ = l0.length := by omega
       have hm := HM.out
       have ho := HO.out.later hm.below
       have hsm := mean_sums HOK.out D HALL.out HSD.out cut l0.length (Nat.le_refl _)
       have hpl : 0 < lowD l0 D cut l0.length ∧ 0 < highD l0 D cut l0.length := mean_pos HOK.out D HALL.out HSD.out HPERM.out cut
       have hq58 : ∀ W, Calls Tryz.prog 169 #[.int .i64 (lowN cf l0 D cut l0.length), .int .i64 (lowD l0 D cut l0.length)] W fun e w' => e = .returned (.int .i64 (lowQ cf l0 D cut)) ∧ ∃ q, w' = W.drewN q := fun W =>
        (b_down.calls _ _ _ W (down_f _ _ hpl.1 (by omega) (by omega))).mono fun e w' ⟨h1, h2⟩ => ⟨h1, h2.out⟩
       have hq59 : ∀ W, Calls Tryz.prog 96 #[.int .i64 (highN cf l0 D cut l0.length), .int .i64 (highD l0 D cut l0.length)] W fun e w' => e = .returned (.int .i64 (highQ cf l0 D cut)) ∧ ∃ q, w' = W.drewN q := fun W =>
        (b_up.calls _ _ _ W (up_f _ _ hpl.2 (by omega) (by omega))).mono fun e w' ⟨h1, h2⟩ => ⟨h1, h2.out⟩
       have h90 : wr.cell? ⟨wo.heap.size, 0, none⟩ = some (.int .i64 (lowN cf l0 D cut l0.length)) := (blk_cell hm.b9 0).trans rfl
       have h91 : wr.cell? ⟨wo.heap.size, 1, none⟩ = some (.int .i64 (lowD l0 D cut l0.length)) := (blk_cell hm.b9 1).trans rfl
       have h92 : wr.cell? ⟨wo.heap.size + 1, 0, none⟩ = some (.int .i64 (highN cf l0 D cut l0.length)) := (blk_cell hm.b10 0).trans rfl
       have h93 : wr.cell? ⟨wo.heap.size + 1, 1, none⟩ = some (.int .i64 (highD l0 D cut l0.length)) := (blk_cell hm.b10 1).trans rfl
       have H58 := Sd.mk hq58
       have H59 := Sd.mk hq59
       have HO2 := Sd.mk ho
       have ho0 : wr.cell? ⟨Bo, 0, none⟩ = some (.int .i64 (atCut (lowQ cf l0 D) minF cut)) := (blk_cell ho.out 0).trans rfl
       have ho1 : wr.cell? ⟨Bo, 1, none⟩ = some (.int .i64 (atCut (highQ cf l0 D) maxF cut)) := (blk_cell ho.out 1).trans rfl
       have ho2 := blk_frozen ho.out 0
       have ho3 := blk_frozen ho.out 1
       clear hq58 hq59 hm ho hsm hpl
       go_upto_region 22 with (fail)
       go_quiet (first | (go_at_call 169; exact Calls.quiet_of (H58.out _)) | (go_at_call 96; exact Calls.quiet_of (H59.out _)))
       have ho4 := HO2.out.drewN nq
       have HO4 := Sd.mk ho4
       have hBo : w.heap.size ≤ Bo := by omega
       cases cut with
       | zero =>
        have hcb : (((0 : Nat) : Int) == 0) = true := rfl
        have e1 : atCut (lowQ cf l0 D) minF (0 + 1) = lowQ cf l0 D 0 := rfl
        have e2 : atCut (highQ cf l0 D) maxF (0 + 1) = highQ cf l0 D 0 := rfl
        have E12 := Sd.mk (And.intro e1 e2)
        clear e1 e2 H58 H59 ho4
        generalize lowQ cf l0 D 0 = q1 at *
        generalize highQ cf l0 D 0 = q2 at *
        have hcz : ((0 : Nat) : Int) = 0 := rfl
        rw [hcz]
        generalize wr.drewN nq = w8 at *
        have ho0' : w8.cell? ⟨Bo, 0, none⟩ = some (.int .i64 0) := (blk_cell HO4.out.out 0).trans rfl
        have ho1' : w8.cell? ⟨Bo, 1, none⟩ = some (.int .i64 0) := (blk_cell HO4.out.out 1).trans rfl
        have ho2' := blk_frozen HO4.out.out 0
        have ho3' := blk_frozen HO4.out.out 1
        go_wp2
        go_roundg l0.length
        case measure => omega
        case rel => exact ⟨1, by first | rfl | go_num, by omega, by omega, ⟨by rw [E12.out.1, E12.out.2]; exact (HO4.out.put hBo (by omega) (by omega) (by omega) q1 q2).put hBo (by omega) (by omega) (by omega) q1 q2⟩⟩
       | succ cc =>
        have hcb : (((cc : Int) + 1) == 0) = false := by simp; omega
        have e1 : atCut (lowQ cf l0 D) minF (cc + 1 + 1) = if lowQ cf l0 D (cc + 1) < atCut (lowQ cf l0 D) minF (cc + 1) then lowQ cf l0 D (cc + 1) else atCut (lowQ cf l0 D) minF (cc + 1) := rfl
        have e2 : atCut (highQ cf l0 D) maxF (cc + 1 + 1) = if atCut (highQ cf l0 D) maxF (cc + 1) < highQ cf l0 D (cc + 1) then highQ cf l0 D (cc + 1) else atCut (highQ cf l0 D) maxF (cc + 1) := rfl
        have E12 := Sd.mk (And.intro e1 e2)
        clear e1 e2 H58 H59 ho4
        generalize lowQ cf l0 D (cc + 1) = q1 at *
        generalize highQ cf l0 D (cc + 1) = q2 at *
        generalize atCut (lowQ cf l0 D) minF (cc + 1) = x1 at *
        generalize atCut (highQ cf l0 D) maxF (cc + 1) = y1 at *
        rw [show ((cc + 1 : Nat) : Int) = (cc : Int) + 1 from by omega]
        generalize wr.drewN nq = w8 at *
        have ho0' : w8.cell? ⟨Bo, 0, none⟩ = some (.int .i64 x1) := (blk_cell HO4.out.out 0).trans rfl
        have ho1' : w8.cell? ⟨Bo, 1, none⟩ = some (.int .i64 y1) := (blk_cell HO4.out.out 1).trans rfl
        have ho2' := blk_frozen HO4.out.out 0
        have ho3' := blk_frozen HO4.out.out 1
        have hr1 : (cc : Int) + 1 ≤ 12 := by have := HN.out; omega
        have hr0 : 0 ≤ (cc : Int) := by omega
        go_wp2
        all_goals
         go_roundg (l0.length - (cc + 1))
         case measure => omega
         case rel => exact ⟨cc + 1 + 1, by first | rfl | go_num, by omega, by omega, ⟨by rw [E12.out.1, E12.out.2]; (first | rw [if_pos (show q1 < x1 by assumption)] | rw [if_neg (show ¬ q1 < x1 by omega)]); (first | rw [if_pos (show y1 < q2 by assumption)] | rw [if_neg (show ¬ y1 < q2 by omega)]); exact HO4.out.put hBo (by omega) (by omega) (by omega) _ _⟩⟩
    ·have hlez : ¬ (cut : Int) ≤ (l0.length : Int) := by omega
     obtain rfl : cut = l0.length + 1 := by omega
     have ho := HO.out
     have c0 : wr.cell? ⟨Bo, 0, none⟩ = some (.int .i64 (meanLo cf l0)) := by rw [HFIN.out.1]; exact (blk_cell ho.out 0).trans rfl
     have c1 : wr.cell? ⟨Bo, 1, none⟩ = some (.int .i64 (meanHi cf l0)) := by rw [HFIN.out.2]; exact (blk_cell ho.out 1).trans rfl
     have r0 : wr.cell? ⟨w.heap.size + 1, 0, none⟩ = some (.int .i64 0) := (blk_cell ho.res 0).trans rfl
     have r1 : wr.cell? ⟨w.heap.size + 1, 1, none⟩ = some (.int .i64 0) := (blk_cell ho.res 1).trans rfl
     have f0 := blk_frozen ho.res 0
     have f1 := blk_frozen ho.res 1
     clear ho
     go_wp2
     refine bodyPost_ret (results_cell_row rfl _ _ (w.heap.size + 1) 27 #[.int .i64 (meanLo cf l0), .int .i64 (meanHi cf l0)] (0, 0) _ rfl (blk_put (cs := #[.int .i64 (meanLo cf l0), .int .i64 0]) (blk_put (cs := #[.int .i64 0, .int .i64 0]) HO.out.res 0 _ rfl) 1 _ rfl) Tryz.underlying27 (by decide) (by kernel_rfl)) rfl ?_
     exact ⟨rfl, below_set (below_set HO.out.below (by omega)) (by omega)⟩
end
section
open Go.RowKit Go.Proofs.YtljfljekcpdpiaaGreatW.PrintWords Go.Proofs.YtljfljekcpdpiaaGreatW.PrintLast Go.Proofs.YtljfljekcpdpiaaGreatW.PrintMore
def meanOkB (cf : Int → Int) (l : List S27) : Bool :=
 decide (l.length ≤ 12) && ((List.range l.length).all fun j => decide (0 ≤ (rd_T27 l (j : Int)).f0) && decide ((rd_T27 l (j : Int)).f0 ≤ (rd_T27 l (j : Int)).f1) && decide ((rd_T27 l (j : Int)).f1 ≤ 1000000000) && decide (-100000 ≤ cf j) && decide (cf j ≤ 100000)) && decide (0 < MeanMath.lsum S27.f0 l)
theorem meanOkB_iff {cf : Int → Int} {l : List S27} : meanOkB cf l = true ↔ MeanOk cf l := by
 unfold meanOkB
 simp only [Bool.and_eq_true, decide_eq_true_eq, List.all_eq_true, List.mem_range]
 constructor
 ·rintro ⟨⟨h1, h2⟩, h3⟩
  have key : ∀ k : Int, 0 ≤ k → k < l.length → ∃ j : Nat, j < l.length ∧ k = j := fun k h0 h1 => ⟨k.toNat, by omega, by omega⟩
  refine ⟨h1, ?_, ?_, ?_, ?_, ?_, h3⟩ <;> intro k h0 hl <;> obtain ⟨j, hj, rfl⟩ := key k h0 hl <;> have := h2 j hj <;> omega
 ·intro h
  refine ⟨⟨h.n12, fun j hj => ?_⟩, h.pos⟩
  have h0 : (0 : Int) ≤ j := by omega
  have hl : (j : Int) < l.length := by omega
  exact ⟨⟨⟨⟨h.lo _ h0 hl, h.le _ h0 hl⟩, h.hi _ h0 hl⟩, h.c1 _ h0 hl⟩, h.c2 _ h0 hl⟩
end
section
open Go.RowKit Go.Proofs.YtljfljekcpdpiaaGreatW.PrintWords Go.Proofs.YtljfljekcpdpiaaGreatW.PrintLast Go.Proofs.YtljfljekcpdpiaaGreatW.PrintMore
structure F128 where
 fn : Nat
 lb : Array Value
 tg : S27
def kfn : Kd (Nat × Array Value) := Kd.scalar (fun x => .func (.func x.1) #[] x.2) (fun _ => rfl)
def k128 : Kd F128 := Kd.iso (Kd.pair kfn k27) (fun x : F128 => ((x.fn, x.lb), x.tg))
theorem k128_open {w : World} {x : F128} {cs : List Value} (h : k128.K w x cs) : cs = [.func (.func x.fn) #[] x.lb, .int .i64 x.tg.f0, .int .i64 x.tg.f1] := by
 obtain ⟨_, _, rfl, rfl, h2⟩ := h
 rw [k27_open h2]; rfl
theorem k128_mkM (w : World) (base : Nat) (ok : Nat → Prop) (x : F128) : k128.M w base ok x [.func (.func x.fn) #[] x.lb, .int .i64 x.tg.f0, .int .i64 x.tg.f1] := ⟨[.func (.func x.fn) #[] x.lb], [.int .i64 x.tg.f0, .int .i64 x.tg.f1], rfl, rfl, k27_mkM _ _ _ _⟩
theorem info128 : (Tryz.prog.info? 128).map (fun i => (i.zero, i.size, i.bytes)) = some (some (.agg #[.nilFunc, .int .i64 0, .int .i64 0]), 3, 24) := by kernel_rfl
def putT : Bool × List (List Nat × List Nat) := (true, [([], []), ([], []), ([1], [1]), ([2], [2]), ([], []), ([4], [4]), ([3, 5], [3, 5]), ([0, 0, 1, 2, 3, 4, 5, 6], [0]), ([7, 6, 6, 0, 1, 2, 3, 4, 5, 6], [6, 7])])
def putB : List Nat := [0, 0, 2, 6, 0, 16, 62, 1, 255]
theorem put_tab : rtab .any (opsOf Tryz.f164 1) = putT := by kernel_rfl
theorem put_bits : waitsOk putT.2 putB = true := by kernel_rfl
theorem put_calls (w W : World) (H : Nat) (A : Option Addr) (n c : Nat) (xs : List F128) (x : F128) (hb : Below w.heap.size w W) (hH : w.heap.size ≤ H) (hB : W.heap[H]? = some (.cells #[.slice A n c] 124 (0, 0)))
  (hR : Kd.R k128 128 W w.heap.size (fun _ => True) (.slice A n c) xs) (hl : (xs.length + 1) * 24 ≤ 140737488355328) :
  Calls Tryz.prog 164 #[.pointer (some ⟨H, 0, none⟩), .agg #[.func (.func x.fn) #[] x.lb, .int .i64 x.tg.f0, .int .i64 x.tg.f1]] W fun e w' => e = .returned (.tuple #[]) ∧ Below w.heap.size w w' ∧ (∃ v1, w'.heap[H]? = some (.cells #[v1] 124 (0, 0)) ∧ Kd.R k128 128 w' w.heap.size (fun _ => True) v1 (xs ++ [x])) ∧
   ∀ g cs t, W.heap[g]? = some (.cells cs t (0, 0)) → t ≠ 128 → g ≠ H → w'.heap[g]? = some (.cells cs t (0, 0)) := by
 have HH := Sd.mk hH
 have HL := Sd.mk hl
 have HS := Sd.mk (Nat.le_refl w.heap.size)
 have BH := Sd.mk (blk_alloc hB (.cells #[.func (.func x.fn) #[] x.lb, .int .i64 x.tg.f0, .int .i64 x.tg.f1] 128))
 have BX := Sd.mk (blk_new W (.cells #[.func (.func x.fn) #[] x.lb, .int .i64 x.tg.f0, .int .i64 x.tg.f1] 128))
 have HB := Sd.mk (below_alloc hb (.cells #[.func (.func x.fn) #[] x.lb, .int .i64 x.tg.f0, .int .i64 x.tg.f1] 128))
 have HR := Sd.mk (Kd.R_alloc hR (.cells #[.func (.func x.fn) #[] x.lb, .int .i64 x.tg.f0, .int .i64 x.tg.f1] 128))
 have NEX := Sd.mk (show some W.heap.size ≠ (Value.slice A n c).ownBlock from fun hk => Nat.lt_irrefl _ (Kd.R_lt hR _ hk.symm))
 have HOTH := Sd.mk (fun g cs t (hg : W.heap[g]? = some (.cells cs t (0, 0))) => blk_alloc hg (.cells #[.func (.func x.fn) #[] x.lb, .int .i64 x.tg.f0, .int .i64 x.tg.f1] 128))
 have NHX := Sd.mk (blk_lt hB)
 clear hH hl hb hR hB
 go_enter Tryz.func164, Tryz.ntmps164
 go_wp2
 generalize hWX : W.alloc (.cells #[.func (.func x.fn) #[] x.lb, .int .i64 x.tg.f0, .int .i64 x.tg.f1] 128) = WX at *
 generalize hXX : W.heap.size = X at *
 clear hXX
 clear hWX
 refine start_ (n := 9) (S := fun w' => w'.cell? ⟨H, 0, none⟩ = some (.slice A n c) ∧ w'.cell? ⟨X, 0, none⟩ = some (.func (.func x.fn) #[] x.lb) ∧ w'.cell? ⟨X, 1, none⟩ = some (.int .i64 x.tg.f0) ∧ w'.cell? ⟨X, 2, none⟩ = some (.int .i64 x.tg.f1)) (ds := [8]) (bA 9 0) (by kernel_rfl) rfl rfl ⟨(blk_cell BH.out 0).trans rfl, (blk_cell BX.out 0).trans rfl, (blk_cell BX.out 1).trans rfl, (blk_cell BX.out 2).trans rfl⟩ (fun hHeld => ?_); refine with_tabW put_tab put_bits (fun HT_ HW_ => ?_)
 replace BH := Sd.mk (blk_drew BH.out)
 replace BX := Sd.mk (blk_drew BX.out)
 replace HB := Sd.mk (below_drew1 HB.out)
 replace HR := Sd.mk (Kd.R_drew HR.out)
 replace HOTH := Sd.mk (fun g cs t hg => blk_drew (HOTH.out g cs t hg))
 generalize WX.drew = W0 at BH BX HB HR HOTH hHeld ⊢
 refine pQ 0 (some 4) (bA 9 1) ?_
 refine pQ 1 (some 5) (bA 9 3) ?_
 refine pQ 2 (some 6) (bA 9 7) ?_
 refine tQ 3 (some 7) (bA 9 15) ?_
 refine tQ 4 (some 8) (bA 9 31) ?_
 refine one_ (i := 5) (N := some 9) (bA 9 63) rfl rfl (one_of HT_.out (by kernel_rfl)) (by decide) (fun K hK => ?_)
 refine value_ (w1 := ?_) (v := ?_) (by rfl) rfl ?_ ?_
 rotate_left 2
 ·go_simp
  constructor
  ·rfl
  ·rfl
 refine hK.out _ _ ⟨(blk_cell (blk_alloc BH.out _) 0).trans rfl, (blk_cell (blk_alloc BX.out _) 0).trans rfl, (blk_cell (blk_alloc BX.out _) 1).trans rfl, (blk_cell (blk_alloc BX.out _) 2).trans rfl⟩ (fun hHeld => ?_)
 clear hK K
 refine norm_ (a' := ?_) ?_ ?_
 rotate_left
 ·show Act.put _ (some 9) _ = _
  exact tP
 refine one_ (i := 6) (N := some 10) (bA 9 127) rfl rfl (one_of HT_.out (by kernel_rfl)) (by decide) (fun K hK => ?_)
 refine Kd.R_append_step k128 (w0 := w) w.heap.size (by rfl) (.tmp 7) (.tmp 9) 124 128 (.agg #[.nilFunc, .int .i64 0, .int .i64 0]) 24 rfl Tryz.underlying124 info128 rfl (by decide) (by omega) (.slice A n c) xs x [.func (.func x.fn) #[] x.lb, .int .i64 x.tg.f0, .int .i64 x.tg.f1] (fun _ => True) (fun _ => False) rfl rfl ?aP (fun _ hk => hk.elim) ?aF ?aO ?aB ?aS ?aL ?_
 (case aP => exact k128_mkM _ _ _ x)
 (case aB => exact (by repeat (first | (with_reducible first | exact HB.out | apply below_alloc | apply pw_below_drewN | apply below_drew1) | exact HB.out)))
 (case aF => exact (fun _ _ => trivial))
 (case aO => exact (by (with_reducible repeat (first | apply Kd.R_alloc | apply Kd.R_drewN | apply Kd.R_drew)); exact HR.out))
 (case aS => exact Nat.le_trans HS.out (below_size HB.out))
 (case aL => exact HL.out)
 intro v1 w2 ho hb hg hat
 have HB2 := Sd.mk hb
 have HO := Sd.mk ho
 have hne := Kd.R_ne HR.out BH.out (by decide)
 have BH2 := Sd.mk (blk_grown BH.out hg (Kd.R_ne HR.out BH.out (by decide)))
 have BX2 := Sd.mk (blk_grown BX.out hg (fun hk => NEX.out hk))
 have HOTH2 := Sd.mk (fun g cs t hg' (ht : t ≠ 128) => blk_grown (HOTH.out g cs t hg') hg (Kd.R_ne HR.out (HOTH.out g cs t hg') (Ne.symm ht)))
 clear HB HR BH BX hb ho hat hg
 refine hK.out _ _ ⟨(blk_cell BH2.out 0).trans rfl, (blk_cell BX2.out 0).trans rfl, (blk_cell BX2.out 1).trans rfl, (blk_cell BX2.out 2).trans rfl⟩ (fun hHeld => ?_)
 clear hK K
 refine norm_ (a' := ?_) ?_ ?_
 rotate_left
 ·show Act.put _ (some 10) _ = _
  exact tP
 refine pQ 7 (some 11) (bA 9 255) ?_
 have HO' := Sd.mk (Kd.R_types (t := 124) HO.out BH2.out (by decide))
 clear HO
 obtain ⟨A1, c1, rfl⟩ := Kd.R_slice HO'.out
 have hw0 : w2.cell? ⟨H, 0, none⟩ = some (.slice A n c) := (blk_cell BH2.out 0).trans rfl
 have hwf := blk_frozen BH2.out 0
 refine last_ (i := 8) (N := none) (bA 9 511) rfl rfl (one_of HT_.out (by kernel_rfl)) (by decide) (fun K hK => ?_)
 refine skip_ (w1 := ?_) (by rfl) rfl ?_ ?_
 rotate_left
 ·go_simp
  rfl
 refine hK.out _ _ ?_
 clear hK K
 refine done_ (done_of HT_.out (by kernel_rfl)) ?_
 go_wp2
 go_end0
 refine ⟨rfl, below_set HB2.out HH.out, ⟨_, blk_put (cs := #[.slice A n c]) BH2.out 0 _ rfl, by have h_ := Kd.R_mono (ok' := fun _ => True) (Kd.R_far HO'.out (fun _ hk => hk.2) (.slice A1 (xs.length + 1) c1) (p := ⟨H, 0, none⟩)) (fun _ _ => trivial); simpa using h_⟩, ?_⟩
 ·intro g cs t hg ht hne
  exact blk_far (HOTH2.out g cs t hg ht) hne _
theorem forms1_calls (I : Nat) (i : Int) (W : World) (hI : W.heap[I]? = some (.cells #[.int .i64 i] 3 (0, 0))) (x : Int) :
  Calls Tryz.prog 165 #[.int .i64 x, .pointer (some ⟨I, 0, none⟩)] W fun e w' => e = .returned (.int .i64 (if x = i then 1000 else 0)) ∧ ∃ q, w' = W.drewN q := by
 have h0 : W.cell? ⟨I, 0, none⟩ = some (.int .i64 i) := (blk_cell hI 0).trans rfl
 go_enter Tryz.func165, Tryz.ntmps165
 by_cases he : x = i
 ·have heb : (x == i) = true := beq_iff_eq.mpr he
  go_wp2
  go_ret
  exact ⟨by simp [he], 0, rfl⟩
 ·have heb : (x == i) = false := beq_eq_false_iff_ne.mpr he
  go_wp2
  go_ret
  exact ⟨by simp [he], 0, rfl⟩
theorem forms2_calls (P n : Nat) (s : ByteArray) (A1 : Option Addr) (c1 : Nat) (xs : List Int) (lo hi : Int) (W : World) (hP : W.heap[P]? = some (.cells #[.string s, .slice A1 xs.length c1, .int .i64 lo, .int .i64 hi] 89 (0, 0)))
  (hr : Kd.C (Kd.int .i64) W A1 xs.length xs) (x : Int) (hx0 : 0 ≤ x) (hx1 : x < xs.length) :
  Calls Tryz.prog 166 #[.int .i64 x, .pointer (some ⟨P, 0, none⟩)] W fun e w' => e = .returned (.int .i64 (rd xs x)) ∧ ∃ q, w' = W.drewN q := by
 obtain ⟨ae, rfl, hqx⟩ := Kd.at_int hr x hx0 hx1
 have h1 : W.cell? ⟨P, 0 + 1, none⟩ = some (.slice (some ae) xs.length c1) := (blk_cell hP 1).trans rfl
 go_enter Tryz.func166, Tryz.ntmps166
 go_wp2
 go_ret
 exact ⟨rfl, 0, rfl⟩
def FormAt (w W : World) (l2 : List S27) (l3 : List S89) (j : Nat) (f : F128) : Prop :=
 (j < l2.length → ∃ I, f = ⟨165, #[.pointer (some ⟨I, 0, none⟩)], rd_T27 l2 j⟩ ∧ W.heap[I]? = some (.cells #[.int .i64 j] 3 (0, 0))) ∧
 (l2.length ≤ j → ∃ P A1 c1, f = ⟨166, #[.pointer (some ⟨P, 0, none⟩)], (rd_T89 l3 ((j - l2.length : Nat) : Int)).f2⟩ ∧
  W.heap[P]? = some (.cells #[.string (rd_T89 l3 ((j - l2.length : Nat) : Int)).f0, .slice A1 (rd_T89 l3 ((j - l2.length : Nat) : Int)).f1.length c1, .int .i64 (rd_T89 l3 ((j - l2.length : Nat) : Int)).f2.f0, .int .i64 (rd_T89 l3 ((j - l2.length : Nat) : Int)).f2.f1] 89 (0, 0)) ∧
  Kd.C (Kd.int .i64) w A1 (rd_T89 l3 ((j - l2.length : Nat) : Int)).f1.length (rd_T89 l3 ((j - l2.length : Nat) : Int)).f1)
theorem FormAt.below {w W W' : World} {l2 : List S27} {l3 : List S89} {j : Nat} {f : F128} (h : FormAt w W l2 l3 j f) (hb : Below W.heap.size W W') : FormAt w W' l2 l3 j f := by
 refine ⟨fun hj => ?_, fun hj => ?_⟩
 ·obtain ⟨I, e, hI⟩ := h.1 hj
  exact ⟨I, e, blk_below hI hb⟩
 ·obtain ⟨P, A1, c1, e, hP, hC⟩ := h.2 hj
  exact ⟨P, A1, c1, e, blk_below hP hb, hC⟩
theorem FormAt.other {w W W' : World} {l2 : List S27} {l3 : List S89} {j : Nat} {f : F128} {H : Nat} {v : Value} (h : FormAt w W l2 l3 j f) (hH : W.heap[H]? = some (.cells #[v] 124 (0, 0)))
  (ho : ∀ g cs t, W.heap[g]? = some (.cells cs t (0, 0)) → t ≠ 128 → g ≠ H → W'.heap[g]? = some (.cells cs t (0, 0))) : FormAt w W' l2 l3 j f := by
 refine ⟨fun hj => ?_, fun hj => ?_⟩
 ·obtain ⟨I, e, hI⟩ := h.1 hj
  exact ⟨I, e, ho _ _ _ hI (by decide) (by rintro rfl; rw [hH] at hI; simp at hI)⟩
 ·obtain ⟨P, A1, c1, e, hP, hC⟩ := h.2 hj
  exact ⟨P, A1, c1, e, ho _ _ _ hP (by decide) (by rintro rfl; rw [hH] at hP; simp at hP), hC⟩
def coefOf (l2 : List S27) (l3 : List S89) (j : Nat) : Int → Int := if j < l2.length then (fun k => if k = j then 1000 else 0) else rd (rd_T89 l3 ((j - l2.length : Nat) : Int)).f1
theorem FormAt.coef {w W : World} {l2 : List S27} {l3 : List S89} {j : Nat} {f : F128} (h : FormAt w W l2 l3 j f) (hb : Below w.heap.size w W) (N : Int) (hN : l2.length ≤ j → N ≤ (rd_T89 l3 ((j - l2.length : Nat) : Int)).f1.length) :
  CoefQ f.fn f.lb (coefOf l2 l3 j) N W := by
 intro W' hb' x hx0 hx1
 unfold coefOf
 by_cases hj : j < l2.length
 ·obtain ⟨I, rfl, hI⟩ := h.1 hj
  rw [if_pos hj]
  exact forms1_calls I j W' (blk_below hI hb') x
 ·obtain ⟨P, A1, c1, rfl, hP, hC⟩ := h.2 (by omega)
  rw [if_neg hj]
  exact forms2_calls P 0 _ A1 c1 _ _ _ W' (blk_below hP hb') (Kd.C_below (Kd.C_below hC hb) hb') x hx0 (by have := hN (by omega); omega)
structure FormsW (wp w W : World) (cs : Array Value) (l2 : List S27) (l3 : List S89) (k : Nat) : Prop where
 below : Below w.heap.size w W
 batch : W.heap[w.heap.size]? = some (.cells cs 29 (0, 0))
 list : ∃ A c, ∃ xs : List F128, W.heap[w.heap.size + 1]? = some (.cells #[.slice A xs.length c] 124 (0, 0)) ∧ Kd.R k128 128 W w.heap.size (fun _ => True) (.slice A xs.length c) xs ∧ xs.length = k ∧ ∀ j (hj : j < xs.length), FormAt wp W l2 l3 j xs[j]
theorem forms_lx {a b n k : Nat} (h : (a + b + 1) * 24 ≤ 140737488355328) (hx : n = k) (hk : k < a + b) : (n + 1) * 24 ≤ 140737488355328 := Nat.le_trans (Nat.mul_le_mul_right 24 (by omega)) h
theorem FormsW.step {wp w wr W2 w3 : World} {cs : Array Value} {l2 : List S27} {l3 : List S89} {k : Nat} {A : Option Addr} {c : Nat} {xs : List F128} {x : F128} (h : FormsW wp w wr cs l2 l3 k)
  (hO : wr.heap[w.heap.size + 1]? = some (.cells #[.slice A xs.length c] 124 (0, 0))) (hxl : xs.length = k) (hF : ∀ j (hj : j < xs.length), FormAt wp wr l2 l3 j xs[j]) (hb2 : Below wr.heap.size wr W2)
  (hb3 : Below w.heap.size w w3) {v1 : Value} (hv1 : w3.heap[w.heap.size + 1]? = some (.cells #[v1] 124 (0, 0))) (hr1 : Kd.R k128 128 w3 w.heap.size (fun _ => True) v1 (xs ++ [x]))
  (hoth : ∀ g cs t, W2.heap[g]? = some (.cells cs t (0, 0)) → t ≠ 128 → g ≠ w.heap.size + 1 → w3.heap[g]? = some (.cells cs t (0, 0))) (hx : FormAt wp W2 l2 l3 k x) : FormsW wp w w3 cs l2 l3 (k + 1) := by
 obtain ⟨A1, c1, rfl⟩ := Kd.R_slice hr1
 have hO2 := blk_below hO hb2
 refine ⟨hb3, hoth _ _ _ (blk_below h.batch hb2) (by decide) (by omega), A1, c1, xs ++ [x], hv1, hr1, by simp [hxl], fun j hj => ?_⟩
 by_cases hjx : j < xs.length
 ·rw [List.getElem_append_left hjx]
  exact ((hF j hjx).below hb2).other hO2 hoth
 ·have hjk : j = k := by simp at hj; omega
  subst hjk
  rw [List.getElem_append_right (by omega)]
  simp only [hxl, Nat.sub_self, List.getElem_cons_zero]
  exact hx.other hO2 hoth
theorem forms_calls (A00 : Option Addr) (c00 : Nat) (l00 : List ByteArray) (A01 : Option Addr) (c01 : Nat) (l01 : List (S70)) (A02 : Option Addr) (c02 : Nat) (l02 : List (S27)) (A03 : Option Addr) (c03 : Nat) (l03 : List (S89)) (a04 : Int) (a05 : Int) (a06 : Int) (wp w : World) (hbp : Below wp.heap.size wp w) (hr00 : Kd.C Kd.string w A00 l00.length l00) (hc00 : l00.length ≤ c00) (hr01 : Kd.C k70 w A01 l01.length l01) (hc01 : l01.length ≤ c01) (hr02 : Kd.C k27 w A02 l02.length l02) (hc02 : l02.length ≤ c02) (hr03 : Kd.C k89 wp A03 l03.length l03) (hc03 : l03.length ≤ c03) (hl : (l02.length + l03.length + 1) * 24 ≤ 140737488355328) :
  Calls Tryz.prog 84 #[.agg #[.slice A00 l00.length c00, .slice A01 l01.length c01, .slice A02 l02.length c02, .slice A03 l03.length c03, .int .i64 a04, .int .i64 a05, .int .i64 a06]] w fun e w' => ∃ A c fs, e = .returned (.slice A (List.length fs) c) ∧ fs.length ≤ c ∧ Kd.C k128 w' A fs.length fs ∧ fs.length = l02.length + l03.length ∧ (∀ j (hj : j < fs.length), FormAt wp w' l02 l03 j fs[j]) ∧ Below w.heap.size w w' ∧ Kd.R k128 128 w' w.heap.size (fun _ => True) (.slice A fs.length c) fs := by
 have hW0 : FormsW wp w ((w.alloc (.cells #[.slice A00 l00.length c00, .slice A01 l01.length c01, .slice A02 l02.length c02, .slice A03 l03.length c03, .int .i64 a04, .int .i64 a05, .int .i64 a06] 29)).alloc (.cells #[.slice none 0 0] 124)) #[.slice A00 l00.length c00, .slice A01 l01.length c01, .slice A02 l02.length c02, .slice A03 l03.length c03, .int .i64 a04, .int .i64 a05, .int .i64 a06] l02 l03 0 := by
  refine ⟨below_alloc (below_alloc (Below.refl _ _) _) _, blk_alloc (blk_new w _) _, none, 0, [], ?_, ?_, rfl, fun j hj => absurd hj (by simp)⟩
  ·have := blk_new (w.alloc (.cells #[.slice A00 l00.length c00, .slice A01 l01.length c01, .slice A02 l02.length c02, .slice A03 l03.length c03, .int .i64 a04, .int .i64 a05, .int .i64 a06] 29)) (.cells #[.slice none 0 0] 124)
   simpa using this
  ·exact Kd.R_nil _ _ _ _ _
 have HW0 := Sd.mk hW0
 have HR2 := Sd.mk hr02
 have HR3 := Sd.mk hr03
 have HBP := Sd.mk hbp
 have HL := Sd.mk hl
 have hl2 : (l02.length : Int) < 9223372036854775807 := by omega
 have hl3 : (l03.length : Int) < 9223372036854775807 := by omega
 have HL2 := Sd.mk hl2
 have HL3 := Sd.mk hl3
 clear hW0 hr00 hr01 hr02 hr03 hc00 hc01 hc02 hc03 hl hl2 hl3
 go_enter Tryz.func84, Tryz.ntmps84
 go_wp2
 generalize ((w.alloc (.cells #[.slice A00 l00.length c00, .slice A01 l01.length c01, .slice A02 l02.length c02, .slice A03 l03.length c03, .int .i64 a04, .int .i64 a05, .int .i64 a06] 29)).alloc (.cells #[.slice none 0 0] 124)) = w0 at HW0 ⊢
 go_loopg [11] l02.length (fun gq v11 wr => ∃ k : Nat, v11 = .int .i64 k ∧ k ≤ l02.length ∧ l02.length - k ≤ gq ∧ Sd (FormsW wp w wr #[.slice A00 l00.length c00, .slice A01 l01.length c01, .slice A02 l02.length c02, .slice A03 l03.length c03, .int .i64 a04, .int .i64 a05, .int .i64 a06] l02 l03 k))
 case atStart => exact ⟨0, rfl, Nat.zero_le _, by omega, HW0⟩
 case round =>
  clear HW0
  obtain ⟨k, rfl, hk, hgk, HW⟩ := hrel
  by_cases hlt : k < l02.length
  ·have hltz : (k : Int) < (l02.length : Int) := by omega
   obtain ⟨A, c, xs, hO, hR, hxl, hF⟩ := HW.out.list
   obtain ⟨ad, rfl, hx0, hx1⟩ := at_T27 (Kd.C_below HR2.out HW.out.below) (k : Int) (by omega) hltz
   simp only [Int.toNat_natCast] at hx0 hx1
   have HO := Sd.mk hO
   have HR := Sd.mk hR
   have HF := Sd.mk hF
   have HXL := Sd.mk hxl
   have HK := Sd.mk hgk
   clear hO hR hF hxl hgk hk
   have hb2 := below_alloc (below_alloc (Below.refl wr.heap.size wr) (.cells #[.int .i64 (k : Int)] 3)) (.cells #[.int .i64 (rd_T27 l02 (k : Int)).f0, .int .i64 (rd_T27 l02 (k : Int)).f1] 27)
   have hI := blk_alloc (blk_new wr (.cells #[.int .i64 (k : Int)] 3)) (.cells #[.int .i64 (rd_T27 l02 (k : Int)).f0, .int .i64 (rd_T27 l02 (k : Int)).f1] 27)
   have hlx := forms_lx HL.out HXL.out (Nat.lt_of_lt_of_le hlt (Nat.le_add_right _ _))
   have hp := put_calls w _ (w.heap.size + 1) A xs.length c xs ⟨165, #[.pointer (some ⟨wr.heap.size, 0, none⟩)], rd_T27 l02 (k : Int)⟩ (below_trans' HW.out.below hb2) (Nat.le_succ _) (blk_below HO.out hb2) (Kd.R_below HR.out hb2) hlx
   have HI := Sd.mk hI
   have HB2 := Sd.mk hb2
   clear hI hb2
   go_wp2_with fail
   refine hp.mono ?_
   clear hp
   rintro e w3 ⟨rfl, hb3, ⟨v1, hv1, hr1⟩, hoth⟩
   have hnew := FormsW.step HW.out HO.out HXL.out HF.out HB2.out hb3 hv1 hr1 hoth ⟨fun _ => ⟨wr.heap.size, rfl, HI.out⟩, fun hj => absurd hlt (by omega)⟩
   have HN := Sd.mk hnew
   clear hb3 hv1 hr1 hoth hnew HI HB2
   go_wp2
   go_roundg (l02.length - (k + 1))
   case measure => have := HK.out; omega
   case rel => exact ⟨k + 1, by have := HL2.out; rw [wrap_id (by omega) (by omega)]; rfl, by omega, by omega, HN⟩
  ·have hltz : ¬ (k : Int) < (l02.length : Int) := by omega
   obtain rfl : k = l02.length := by omega
   have hb3 : wr.cell? ⟨w.heap.size, 3, none⟩ = some (.slice A03 l03.length c03) := (blk_cell HW.out.batch 3).trans rfl
   clear hgk hk
   go_wp2
   clear hb3 hltz hlt
   have HW0 := HW
   clear HW
   generalize wr = w0' at HW0 ⊢
   go_loopg [24] l03.length (fun gq v24 wr => ∃ k : Nat, v24 = .int .i64 k ∧ k ≤ l03.length ∧ l03.length - k ≤ gq ∧ Sd (FormsW wp w wr #[.slice A00 l00.length c00, .slice A01 l01.length c01, .slice A02 l02.length c02, .slice A03 l03.length c03, .int .i64 a04, .int .i64 a05, .int .i64 a06] l02 l03 (l02.length + k)))
   case atStart => exact ⟨0, rfl, Nat.zero_le _, by omega, HW0⟩
   case round =>
    clear HW0
    obtain ⟨k, rfl, hk, hgk, HW⟩ := hrel
    by_cases hlt : k < l03.length
    ·have hltz : (k : Int) < (l03.length : Int) := by omega
     obtain ⟨A, c, xs, hO, hR, hxl, hF⟩ := HW.out.list
     obtain ⟨ad, A1, c1, rfl, hx0, hx1, hx2, hx3, hlc, hC⟩ := at_T89 (Kd.C_below (Kd.C_below HR3.out HBP.out) HW.out.below) (k : Int) (by omega) hltz
     obtain ⟨ad', A1', c1', he', hx0', hx1', hx2', hx3', hlc', hC'⟩ := at_T89 HR3.out (k : Int) (by omega) hltz
     cases he'
     have hsame : A1 = A1' := by
      have h0 := (HBP.out.cell (World.block_lt_of_cell? wp _ hx1')).trans hx1'
      have h1 := (HW.out.below.cell (World.block_lt_of_cell? w _ h0)).trans h0
      rw [hx1] at h1
      injection h1 with h1
      injection h1 with h1 h2
     subst hsame
     clear hx0' hx1' hx2' hx3' hlc' hC
     simp only [Int.toNat_natCast] at hx0 hx1 hx2 hx3
     have HO := Sd.mk hO
     have HR := Sd.mk hR
     have HF := Sd.mk hF
     have HXL := Sd.mk hxl
     have HK := Sd.mk hgk
     have HC' := Sd.mk hC'
     clear hO hR hF hxl hgk hk hC' hlc
     have hb2 := below_alloc (Below.refl wr.heap.size wr) (.cells #[.string (rd_T89 l03 (k : Int)).f0, .slice A1 (rd_T89 l03 (k : Int)).f1.length c1, .int .i64 (rd_T89 l03 (k : Int)).f2.f0, .int .i64 (rd_T89 l03 (k : Int)).f2.f1] 89)
     have hI := blk_new wr (.cells #[.string (rd_T89 l03 (k : Int)).f0, .slice A1 (rd_T89 l03 (k : Int)).f1.length c1, .int .i64 (rd_T89 l03 (k : Int)).f2.f0, .int .i64 (rd_T89 l03 (k : Int)).f2.f1] 89)
     have hlx := forms_lx HL.out HXL.out (Nat.add_lt_add_left hlt _)
     have hp := put_calls w _ (w.heap.size + 1) A xs.length c xs ⟨166, #[.pointer (some ⟨wr.heap.size, 0, none⟩)], (rd_T89 l03 (k : Int)).f2⟩ (below_trans' HW.out.below hb2) (Nat.le_succ _) (blk_below HO.out hb2) (Kd.R_below HR.out hb2) hlx
     have HI := Sd.mk hI
     have HB2 := Sd.mk hb2
     clear hI hb2
     go_wp2_with fail
     refine hp.mono ?_
     clear hp
     rintro e w3 ⟨rfl, hb3, ⟨v1, hv1, hr1⟩, hoth⟩
     have hnew := FormsW.step HW.out HO.out HXL.out HF.out HB2.out hb3 hv1 hr1 hoth ⟨fun hj => absurd hj (by omega), fun _ => ⟨wr.heap.size, A1, c1, by rw [Nat.add_sub_cancel_left], by rw [Nat.add_sub_cancel_left]; exact HI.out, by rw [Nat.add_sub_cancel_left]; exact HC'.out⟩⟩
     have HN := Sd.mk hnew
     clear hb3 hv1 hr1 hoth hnew HI HB2
     go_wp2
     go_roundg (l03.length - (k + 1))
     case measure => have := HK.out; omega
     case rel => exact ⟨k + 1, by have := HL3.out; rw [wrap_id (by omega) (by omega)]; rfl, by omega, by omega, HN⟩
    ·have hltz : ¬ (k : Int) < (l03.length : Int) := by omega
     obtain rfl : k = l03.length := by omega
     obtain ⟨A, c, xs, hO, hR, hxl, hF⟩ := HW.out.list
     have hb3 : wr.cell? ⟨w.heap.size + 1, 0, none⟩ = some (.slice A xs.length c) := (blk_cell hO 0).trans rfl
     have HR := Sd.mk hR
     have HF := Sd.mk hF
     have HXL := Sd.mk hxl
     clear hgk hk hR hF hxl
     go_wp2
     go_ret
     obtain ⟨A', c', he, hlc, hC⟩ := Kd.R_reads HR.out
     cases he
     exact ⟨A, c, xs, rfl, hlc, hC, HXL.out, HF.out, HW.out.below, HR.out⟩
end
section
open Go.RowKit Go.Proofs.YtljfljekcpdpiaaGreatW.PrintWords Go.Proofs.YtljfljekcpdpiaaGreatW.PrintLast Go.Proofs.YtljfljekcpdpiaaGreatW.PrintMore
def unitC (j : Nat) : Int → Int := fun k => if k = j then 1000 else 0
theorem coefOf_unit {l2 : List S27} {l3 : List S89} {j : Nat} (h : j < l2.length) : coefOf l2 l3 j = unitC j := by unfold coefOf; rw [if_pos h]; rfl
def meansOf (l : List S27) (n : Nat) : List S27 := (List.range n).map fun j => ⟨meanLo (unitC j) l, meanHi (unitC j) l⟩
theorem meansOf_succ (l : List S27) (n : Nat) : meansOf l (n + 1) = meansOf l n ++ [⟨meanLo (unitC n) l, meanHi (unitC n) l⟩] := by simp [meansOf, List.range_succ]
theorem meansOf_len (l : List S27) (n : Nat) : (meansOf l n).length = n := by simp [meansOf]
def x_Glass.f (k : Nat) (l00 : List ByteArray) (l01 : List (S70)) (l02 : List (S27)) (l03 : List (S89)) (a04 : Int) (a05 : Int) (a06 : Int) (l1 : List Int) : Option ((List (S27)) × Int) := (x_glass.f k l00 l01 l02 l03 a04 a05 a06 l1).bind fun p => if p.2 = 0 then (if p.1.length ≤ l02.length ∧ ((l02.length + l03.length + 1) * 24 ≤ 140737488355328 ∧ (List.range p.1.length).all (fun j => meanOkB (unitC j) p.1) = true) then some (meansOf p.1 p.1.length, 0) else none) else some ([], p.2)
theorem x_Glass.mono : ∀ l00 l01 l02 l03 a04 a05 a06 l1 k, LeO (x_Glass.f k l00 l01 l02 l03 a04 a05 a06 l1) (x_Glass.f (k + 1) l00 l01 l02 l03 a04 a05 a06 l1) := by
 intro l00 l01 l02 l03 a04 a05 a06 l1 k
 unfold x_Glass.f
 refine LeO.bind (x_glass.mono _ _ _ _ _ _ _ _ _) fun p => ?_
 exact LeO.refl _
theorem at_T128 {w : World} {A : Option Addr} {n : Nat} {xs : List F128} (h : Kd.C k128 w A n xs) (k : Nat) (hk : k < xs.length) : ∃ ad, A = some ad ∧ w.cell? (ad.add (k * 3)) = some (.func (.func xs[k].fn) #[] xs[k].lb) ∧ w.cell? ⟨(ad.add (k * 3)).block, (ad.add (k * 3)).off + 1, none⟩ = some (.int .i64 xs[k].tg.f0) ∧ w.cell? ⟨(ad.add (k * 3)).block, (ad.add (k * 3)).off + 2, none⟩ = some (.int .i64 xs[k].tg.f1) := by
 have hn := Kd.C_len h
 obtain ⟨ad, c, e, _, hK, hc0⟩ := Kd.C_get h ⟨0, #[], z27⟩ (k : Int) (by omega) (by omega)
 have hx : xs.getD ((k : Int)).toNat ⟨0, #[], z27⟩ = xs[k] := by simp [hk]
 rw [hx] at hK
 have hc : ∀ j u, c[j]? = some u → w.cell? (ad.add (k * 3 + j)) = some u := hc0
 obtain rfl := k128_open hK
 exact ⟨ad, e, hc 0 _ rfl, by rw [← add_field _ _ 1 (by omega)]; exact hc 1 _ rfl, by rw [← add_field _ _ 2 (by omega)]; exact hc 2 _ rfl⟩
theorem x_Glass.calls (k : Nat) (A00 : Option Addr) (c00 : Nat) (l00 : List ByteArray) (A01 : Option Addr) (c01 : Nat) (l01 : List (S70)) (A02 : Option Addr) (c02 : Nat) (l02 : List (S27)) (A03 : Option Addr) (c03 : Nat) (l03 : List (S89)) (a04 : Int) (a05 : Int) (a06 : Int) (A1 : Option Addr) (c1 : Nat) (l1 : List Int) (r1 : List (S27)) (r2 : Int) (w : World) (hr00 : Kd.C Kd.string w A00 l00.length l00) (hc00 : l00.length ≤ c00) (hr01 : Kd.C k70 w A01 l01.length l01) (hc01 : l01.length ≤ c01) (hr02 : Kd.C k27 w A02 l02.length l02) (hc02 : l02.length ≤ c02) (hr03 : Kd.C k89 w A03 l03.length l03) (hc03 : l03.length ≤ c03) (hr1 : Kd.C (Kd.int .i64) w A1 l1.length l1) (hc1 : l1.length ≤ c1) (h : x_Glass.f k l00 l01 l02 l03 a04 a05 a06 l1 = some (r1, r2)) :
  Calls Tryz.prog 26 #[.agg #[.slice A00 l00.length c00, .slice A01 l01.length c01, .slice A02 l02.length c02, .slice A03 l03.length c03, .int .i64 a04, .int .i64 a05, .int .i64 a06], .slice A1 l1.length c1] w fun e w' => ∃ v0_ : Value, e = .returned (.tuple #[v0_, .int .i64 r2]) ∧ Kd.R k27 27 w' w.heap.size (fun _ => True) v0_ r1 ∧ Below w.heap.size w w' := by
 unfold x_Glass.f at h
 obtain ⟨p, hp, H⟩ := Option.bind_eq_some_iff.mp h
 obtain ⟨pl, pe⟩ := p
 have hb0 : Below w.heap.size w (w.alloc (.cells #[.slice A00 l00.length c00, .slice A01 l01.length c01, .slice A02 l02.length c02, .slice A03 l03.length c03, .int .i64 a04, .int .i64 a05, .int .i64 a06] 29)) := below_alloc (Below.refl _ _) _
 clear h
 have HR00 := Sd.mk hr00
 have HC00 := Sd.mk hc00
 clear hr00 hc00
 have HR01 := Sd.mk hr01
 have HC01 := Sd.mk hc01
 clear hr01 hc01
 have HR02 := Sd.mk hr02
 have HC02 := Sd.mk hc02
 clear hr02 hc02
 have HR03 := Sd.mk hr03
 have HC03 := Sd.mk hc03
 clear hr03 hc03
 have HR1 := Sd.mk hr1
 have HC1 := Sd.mk hc1
 clear hr1 hc1
 have HH := Sd.mk H
 clear H
 have hgo := x_glass.calls k A00 c00 l00 A01 c01 l01 A02 c02 l02 A03 c03 l03 a04 a05 a06 A1 c1 l1 pl pe (w.alloc (.cells #[.slice A00 l00.length c00, .slice A01 l01.length c01, .slice A02 l02.length c02, .slice A03 l03.length c03, .int .i64 a04, .int .i64 a05, .int .i64 a06] 29)) (Kd.C_below HR00.out hb0) HC00.out (Kd.C_below HR01.out hb0) HC01.out (Kd.C_below HR02.out hb0) HC02.out (Kd.C_below HR03.out hb0) HC03.out (Kd.C_below HR1.out hb0) HC1.out hp
 have hC := blk_new w (.cells #[.slice A00 l00.length c00, .slice A01 l01.length c01, .slice A02 l02.length c02, .slice A03 l03.length c03, .int .i64 a04, .int .i64 a05, .int .i64 a06] 29)
 have BC := Sd.mk hC
 have HB := Sd.mk hb0
 clear hp hC hb0
 go_enter Tryz.func26, Tryz.ntmps26
 go_wp2_with fail
 generalize (w.alloc (.cells #[.slice A00 l00.length c00, .slice A01 l01.length c01, .slice A02 l02.length c02, .slice A03 l03.length c03, .int .i64 a04, .int .i64 a05, .int .i64 a06] 29)) = w0 at hgo BC HB ⊢
 refine hgo.mono ?_
 clear hgo
 rintro e w1 ⟨v, rfl, hR, hb⟩
 obtain ⟨A, c, rfl, hlc, hCpl⟩ := Kd.R_reads hR
 have BC1 := Sd.mk (blk_below BC.out hb)
 have HB1 := Sd.mk (below_trans' HB.out hb)
 have HPL := Sd.mk hCpl
 have HLC := Sd.mk hlc
 clear BC HB hb w0 hR hCpl hlc
 have H := HH.out
 clear HH
 by_cases hpe : pe = 0
 ·rw [if_pos hpe] at H
  have hpb : (pe != 0) = false := by simp [hpe]
  have hif : (pl.length ≤ l02.length ∧ ((l02.length + l03.length + 1) * 24 ≤ 140737488355328 ∧ (List.range pl.length).all (fun j => meanOkB (unitC j) pl) = true)) := by
   by_cases hh : (pl.length ≤ l02.length ∧ ((l02.length + l03.length + 1) * 24 ≤ 140737488355328 ∧ (List.range pl.length).all (fun j => meanOkB (unitC j) pl) = true))
   ·exact hh
   ·rw [if_neg hh] at H; cases H
  rw [if_pos hif] at H
  obtain ⟨h0, h1, h2⟩ := hif
  simp only [Option.some.injEq, Prod.mk.injEq] at H
  obtain ⟨rfl, rfl⟩ := H
  have hmok : ∀ j, j < pl.length → MeanOk (unitC j) pl := fun j hj => meanOkB_iff.mp (List.all_eq_true.mp h2 j (List.mem_range.2 hj))
  have HMOK := Sd.mk hmok
  have HL0 := Sd.mk h0
  have hgo := forms_calls A00 c00 l00 A01 c01 l01 A02 c02 l02 A03 c03 l03 a04 a05 a06 w1 w1 (Below.refl _ _) (Kd.C_below HR00.out HB1.out) HC00.out (Kd.C_below HR01.out HB1.out) HC01.out (Kd.C_below HR02.out HB1.out) HC02.out (Kd.C_below HR03.out HB1.out) HC03.out h1
  have hc_0 : w1.cell? ⟨w.heap.size, 0, none⟩ = some (.slice A00 l00.length c00) := (blk_cell BC1.out 0).trans rfl
  have hc_1 : w1.cell? ⟨w.heap.size, 1, none⟩ = some (.slice A01 l01.length c01) := (blk_cell BC1.out 1).trans rfl
  have hc_2 : w1.cell? ⟨w.heap.size, 2, none⟩ = some (.slice A02 l02.length c02) := (blk_cell BC1.out 2).trans rfl
  have hc_3 : w1.cell? ⟨w.heap.size, 3, none⟩ = some (.slice A03 l03.length c03) := (blk_cell BC1.out 3).trans rfl
  have hc_4 : w1.cell? ⟨w.heap.size, 4, none⟩ = some (.int .i64 a04) := (blk_cell BC1.out 4).trans rfl
  have hc_5 : w1.cell? ⟨w.heap.size, 5, none⟩ = some (.int .i64 a05) := (blk_cell BC1.out 5).trans rfl
  have hc_6 : w1.cell? ⟨w.heap.size, 6, none⟩ = some (.int .i64 a06) := (blk_cell BC1.out 6).trans rfl
  clear hmok h0 h1 h2 hpe
  go_wp2_with fail
  refine hgo.mono ?_
  clear hgo hc_0 hc_1 hc_2 hc_3 hc_4 hc_5 hc_6
  rintro e w2 ⟨Af, cf, fs, rfl, hfc, hfC, hfl, hF, hb2, _⟩
  have HB2 := Sd.mk (below_trans' HB1.out hb2)
  have HPL2 := Sd.mk (Kd.C_below HPL.out hb2)
  have HFC := Sd.mk hfC
  have HFL := Sd.mk hfl
  have HF := Sd.mk hF
  have HB12 := Sd.mk hb2
  have hcap : pl.length ≤ cf := by have := HL0.out; omega
  have HCAP := Sd.mk hcap
  clear HB1 BC1 HPL hb2 hfC hfl hF hfc
  have hpl2 : (pl.length : Int) < 9223372036854775807 := by rcases Nat.eq_zero_or_pos pl.length with h_ | h_; (· omega); (· have := (HMOK.out 0 h_).n12; omega)
  have HPLX := Sd.mk hpl2
  clear hpl2 hcap
  have hcap := HCAP.out
  go_wp2
  clear hcap
  have HBX := Sd.mk (Below.refl w2.heap.size w2)
  go_loopg [4, 24] pl.length (fun gq v4 v24 wr => ∃ k : Nat, v24 = .int .i64 k ∧ k ≤ pl.length ∧ pl.length - k ≤ gq ∧ Sd (Kd.R k27 27 wr w2.heap.size (fun _ => True) v4 (meansOf pl k)) ∧ Sd (Below w2.heap.size w2 wr))
  case atStart => exact ⟨0, rfl, Nat.zero_le _, by omega, ⟨Kd.R_nil _ _ _ _ _⟩, HBX⟩
  case round =>
   clear HBX
   obtain ⟨k, rfl, hk, hgk, HR4, HBX⟩ := hrel
   by_cases hlt : k < pl.length
   ·have hltz : (k : Int) < (pl.length : Int) := by omega
    have hkf : k < fs.length := by have := HFL.out; have := HL0.out; omega
    obtain ⟨ad, rfl, hx0, hx1, hx2⟩ := at_T128 (Kd.C_below HFC.out HBX.out) k hkf
    have hcoef := (HF.out k hkf).coef (HB12.out) pl.length (fun hh => absurd hh (by have := HL0.out; omega))
    rw [coefOf_unit (by have := HL0.out; omega)] at hcoef
    have hq : CoefQ fs[k].fn fs[k].lb (unitC k) pl.length (wr.alloc (.cells #[.func (.func fs[k].fn) #[] fs[k].lb, .int .i64 fs[k].tg.f0, .int .i64 fs[k].tg.f1] 128)) := fun W hW => hcoef W (below_then HBX.out HBX.out.size (below_then (below_alloc (Below.refl wr.heap.size wr) _) (by simp) hW))
    have hent : ∀ args w, (callFunc fs[k].fn args).run Tryz.prog w = .ok (.enter fs[k].fn args) w := by
     obtain ⟨I, e, _⟩ := (HF.out k hkf).1 (by have := HL0.out; omega)
     rw [e]
     exact enters_of Tryz.func165 (by kernel_rfl) rfl
    have hgo := mean_calls (unitC k) A c pl fs[k].fn fs[k].lb _ hent (Kd.C_below HPL2.out (below_then HBX.out HBX.out.size (below_alloc (Below.refl wr.heap.size wr) _))) HLC.out hq (HMOK.out k hlt)
    have HK := Sd.mk hgk
    have HLT := Sd.mk hlt
    clear hgk hk hq hcoef hent
    have HBY := Sd.mk (below_then HBX.out HBX.out.size (below_alloc (Below.refl wr.heap.size wr) (.cells #[.func (.func fs[k].fn) #[] fs[k].lb, .int .i64 fs[k].tg.f0, .int .i64 fs[k].tg.f1] 128)))
    have HR5 := Sd.mk (Kd.R_alloc HR4.out (.cells #[.func (.func fs[k].fn) #[] fs[k].lb, .int .i64 fs[k].tg.f0, .int .i64 fs[k].tg.f1] 128))
    clear HR4 HBX
    go_wp2_with fail
    generalize wr.alloc (.cells #[.func (.func fs[k].fn) #[] fs[k].lb, .int .i64 fs[k].tg.f0, .int .i64 fs[k].tg.f1] 128) = wx at hgo HBY HR5 ⊢
    refine hgo.mono ?_
    clear hgo
    rintro e w4 ⟨rfl, hb4⟩
    have HBX := Sd.mk (below_then HBY.out HBY.out.size hb4)
    have HR6 := Sd.mk (Kd.R_below HR5.out hb4)
    clear HBY HR5 hb4 hltz
    have hlm : ((meansOf pl k).length + 1) * 16 ≤ 140737488355328 := by
     rw [meansOf_len]
     have := (HMOK.out k HLT.out).n12
     have := HLT.out
     exact Nat.le_trans (Nat.mul_le_mul_right 16 (show k + 1 ≤ 13 by omega)) (by decide)
    go_wp2_with ((with_reducible refine gate_builtin (b := .append) (xs := #[.tmp 28, .tmp 33]) rfl ?_); at_builtin; refine Kd.R_append k27 (w0 := w2) w2.heap.size rfl (.tmp 28) (.tmp 33) 24 27 (.agg #[(.int .i64 0), (.int .i64 0)]) 16 rfl Tryz.underlying24 info27 rfl (by decide) (by omega) u4 (meansOf pl k) (⟨meanLo (unitC k) pl, meanHi (unitC k) pl⟩ : S27) [.int .i64 (meanLo (unitC k) pl), .int .i64 (meanHi (unitC k) pl)] (fun _ => True) (fun _ => False) rfl rfl ?aP (fun _ hk => hk.elim) ?aF ?aO ?aB ?aS ?aL ?_; (case aP => exact k27_mkM _ _ _ _); (case aB => exact HBX.out); (case aF => exact (fun _ _ => trivial)); (case aO => exact HR6.out); (case aS => exact below_size HBX.out); (case aL => exact hlm); intro v5 w5 ho hb hg hat)
    rw [← meansOf_succ] at ho
    have HR7 := Sd.mk ho
    have HB7 := Sd.mk hb
    clear ho hb hg hat hlm HR6 HBX
    go_roundg (pl.length - (k + 1))
    case measure => have := HK.out; have := HLT.out; omega
    case rel => exact ⟨k + 1, by have := HPLX.out; have := HLT.out; rw [wrap_id (by omega) (by omega)]; rfl, by have := HLT.out; omega, by omega, HR7, HB7⟩
   ·have hltz : ¬ (k : Int) < (pl.length : Int) := by omega
    obtain rfl : k = pl.length := by omega
    clear hgk hk
    go_wp2
    go_ret2
    exact ⟨_, rfl, Kd.R_lower HR4.out (below_size HB2.out), below_trans' HB2.out HBX.out⟩
 ·rw [if_neg hpe] at H
  have hpb : (pe != 0) = true := by simp [hpe]
  simp only [Option.some.injEq, Prod.mk.injEq] at H
  obtain ⟨rfl, rfl⟩ := H
  go_wp2
  go_ret2
  exact ⟨_, rfl, Kd.R_nil _ _ _ _ _, HB1.out⟩
end
section
open Go.RowKit Go.Proofs.YtljfljekcpdpiaaGreatW.PrintWords Go.Proofs.YtljfljekcpdpiaaGreatW.PrintLast Go.Proofs.YtljfljekcpdpiaaGreatW.PrintMore
theorem k89_mkF' (W : World) (ok : Nat → Prop) (x : S89) {A1 : Option Addr} {c1 n : Nat} (hn : n = x.f1.length) (l1 : x.f1.length ≤ c1) (g1 : Kd.F (Kd.int .i64) W ok A1 x.f1.length x.f1) : Kd.FK k89 W ok x [.string x.f0, .slice A1 n c1, .int .i64 x.f2.f0, .int .i64 x.f2.f1] := by
 subst hn
 exact k89_mkF W ok x l1 g1
theorem R_len {α : Type} {d : Kd α} {e : Nat} {w : World} {base : Nat} {ok : Nat → Prop} {A : Option Addr} {n c : Nat} {xs : List α} (hn : n = xs.length) (h : d.R e w base ok (.slice A n c) xs) : d.R e w base ok (.slice A xs.length c) xs := hn ▸ h
def rf_Forms.l0 : Nat → List (S89) → Int → List ByteArray → List (S70) → List (S27) → List (S89) → Int → Int → Int → Option ((List (S89)))
 | 0, _, _, _, _, _, _, _, _, _ => none
 | k + 1, x3, x4, x282q0, x282q1, x282q2, x282q3, x282q4, x282q5, x282q6 => if x4 < (x282q0.length : Int) then (if 0 ≤ (x282q0.length : Int) then (if ((x282q0.length : Int) : Int).toNat ≤ 35184372088832 then ((some (List.replicate ((x282q0.length : Int) : Int).toNat 0 : List Int)).bind fun y282 => (if 0 ≤ x4 then (if x4 < (x282q2.length : Int) then (if x4 < (y282.length : Int) then (if x3.length < 2513169434916 then (rf_Forms.l0 k (x3 ++ [(⟨(⟨#[]⟩ : ByteArray), (y282.set (x4 : Int).toNat 1000), (⟨(rd_T27 x282q2 x4).f0, (rd_T27 x282q2 x4).f1⟩ : S27)⟩ : S89)]) (wrap64 (x4 + 1)) x282q0 x282q1 x282q2 x282q3 x282q4 x282q5 x282q6) else (none)) else (none)) else (none)) else (none))) else (none)) else (none)) else (if x3.length + x282q3.length < 2513169434916 then (some (x3 ++ x282q3)) else (none))
def rf_Forms.f (k : Nat) (l00 : List ByteArray) (l01 : List (S70)) (l02 : List (S27)) (l03 : List (S89)) (a04 : Int) (a05 : Int) (a06 : Int) : Option ((List (S89))) := rf_Forms.l0 k ([] : List (S89)) 0 l00 l01 l02 l03 a04 a05 a06
def rf_Forms.T5 : Bool × List (List Nat × List Nat) := (true, [([], []), ([0], [0]), ([1], [1]), ([2, 2], [2]), ([], []), ([4], [4]), ([], []), ([5, 6], [5, 6]), ([7], [7]), ([3, 8], [3, 8]), ([], []), ([10, 9, 0, 1, 2, 3, 4, 5, 6, 7, 8, 9, 10], [9, 10])])
def rf_Forms.B5 : List Nat := [0, 1, 3, 7, 0, 16, 0, 112, 240, 511, 0, 2047]
theorem rf_Forms.tab5 : rtab .any (opsOf Tryz.f151 5) = rf_Forms.T5 := by kernel_rfl
theorem rf_Forms.bits5 : waitsOk rf_Forms.T5.2 rf_Forms.B5 = true := by kernel_rfl
theorem rf_Forms.calls (k : Nat) (A00 : Option Addr) (c00 : Nat) (l00 : List ByteArray) (A01 : Option Addr) (c01 : Nat) (l01 : List (S70)) (A02 : Option Addr) (c02 : Nat) (l02 : List (S27)) (P0_3_ : Nat → Prop) (A03 : Option Addr) (c03 : Nat) (l03 : List (S89)) (a04 : Int) (a05 : Int) (a06 : Int) (r : List (S89)) (w : World) (hr00 : Kd.C Kd.string w A00 l00.length l00) (hc00 : l00.length ≤ c00) (hr01 : Kd.C k70 w A01 l01.length l01) (hc01 : l01.length ≤ c01) (hr02 : Kd.C k27 w A02 l02.length l02) (hc02 : l02.length ≤ c02) (hs03 : Kd.V k89 89 w w.heap.size (fun k_ => P0_3_ k_) (.slice A03 l03.length c03) l03) (h : rf_Forms.f k l00 l01 l02 l03 a04 a05 a06 = some r) :
  Calls Tryz.prog 151 #[.agg #[.slice A00 l00.length c00, .slice A01 l01.length c01, .slice A02 l02.length c02, .slice A03 l03.length c03, .int .i64 a04, .int .i64 a05, .int .i64 a06]] w fun e w' => ∃ v0_ : Value, e = .returned (v0_) ∧ Kd.N k89 89 w' w.heap.size (fun k_ => (P0_3_ k_ ∨ w.heap.size ≤ k_)) v0_ r ∧ Below w.heap.size w w' := by
 have hu29 := Tryz.underlying29; have hu27 := Tryz.underlying27; have hu89 := Tryz.underlying89; have HR00 := Sd.mk hr00; have HC00 := Sd.mk hc00; clear hr00 hc00; have HR01 := Sd.mk hr01; have HC01 := Sd.mk hc01; clear hr01 hc01; have HR02 := Sd.mk hr02; have HC02 := Sd.mk hc02; clear hr02 hc02
 have HO03 := Sd.mk (show Kd.V k89 89 w w.heap.size (fun k_ => (P0_3_ k_ ∨ w.heap.size ≤ k_)) (.slice A03 l03.length c03) l03 from Kd.V_mono hs03 (fun k_ hk => .inl hk))
 have HB := Sd.mk (Below.refl w.heap.size w)
 have H : (rf_Forms.l0 k ([] : List (S89)) 0 l00 l01 l02 l03 a04 a05 a06) = some r := h
 clear h; have H' := Sd.mk H; clear H
 go_enter Tryz.func151, Tryz.ntmps151
 go_wp2_with (first | ((with_reducible refine gate_dst (N := 1) rfl ?_); refine box_event ?hg (N := 1) ?hd (cs := #[.slice A00 l00.length c00, .slice A01 l01.length c01, .slice A02 l02.length c02, .slice A03 l03.length c03, .int .i64 a04, .int .i64 a05, .int .i64 a06]) (t := 29) ?hr ?_; (case hd => rfl); (case hg => rfl); (case hr => exact tG); intro gb281 hg w2 hbox hb; replace HO03 := Sd.mk (Kd.V_below (Kd.V_elderB (by (with_reducible repeat (first | apply Kd.V_alloc | apply Kd.V_drewN | apply Kd.V_drew)); exact HO03.out) gb281 (Nat.le_of_eq hg.symm)) hb); have BK281 := Sd.mk (hbox); have GW281 := Sd.mk (bSz hg (bBl HB.out)); have GE281 := Sd.mk (bSz hg (bBl HB.out)); replace HB := Sd.mk (below_step (bBl HB.out) hb); clear hb hbox hg))
 go_loopg [3, 4] k (fun kq v3 v4 w' => ∃ (x31 : List (S89)) (x41 : Int), v4 = .int .i64 x41 ∧ Sd (rf_Forms.l0 kq x31 x41 l00 l01 l02 l03 a04 a05 a06 = some r) ∧ Sd (kq ≤ k) ∧ Sd (Kd.N k89 89 w' w.heap.size (fun k_ => (P0_3_ k_ ∨ w.heap.size ≤ k_) ∧ k_ ≠ gb281) v3 x31) ∧ Sd (Kd.V k89 89 w' w.heap.size (fun k_ => (P0_3_ k_ ∨ w.heap.size ≤ k_) ∧ some k_ ≠ (v3 : Value).ownBlock ∧ k_ ≠ gb281) (.slice A03 l03.length c03) l03) ∧ Sd (w'.heap[gb281]? = some (.cells #[(.slice A00 l00.length c00), (.slice A01 l01.length c01), (.slice A02 l02.length c02), (.slice A03 l03.length c03), .int .i64 a04, .int .i64 a05, .int .i64 a06] 29 (0, 0))) ∧ Sd (Below w.heap.size w w'))
 case atStart => exact ⟨(([] : List (S89))), (0), tS, H', ⟨Nat.le_refl _⟩, ⟨by first | exact Kd.R_nil _ _ _ _ _ | exact Kd.N_nil _ _ _ _ _ | exact Kd.V_nil _ _ _ _ _ | exact Kd.Q_nil _ _ _ _ _ | exact Kd.S_nil _ _ _ _ _⟩, ⟨by (with_reducible repeat (first | apply Kd.V_alloc | apply Kd.V_drewN | apply Kd.V_drew)); exact Kd.V_mono HO03.out (fun _ hk => ⟨hk.1, ⟨(by simp [Value.ownBlock]), hk.2⟩⟩)⟩, ⟨bkA BK281.out⟩, ⟨bBl HB.out⟩⟩
 case round =>
  clear H'; (try clear c1); (try clear p2); obtain ⟨x31, x41, rfl, HA, HK1, HO_3, HO_282003, BK281, HB⟩ := hrel
  cases gk with
  | zero => exact absurd HA.out (by simp [rf_Forms.l0])
  | succ k1 =>
   have H := HA.out; clear HA
   simp only [rf_Forms.l0] at H
   by_cases c3 : x41 < (l00.length : Int)
   ·rw [if_pos c3] at H
    have c3b0 : decide (x41 < (l00.length : Int)) = true := decide_eq_true c3
    clear c3
    by_cases c4 : 0 ≤ (l00.length : Int)
    ·rw [if_pos c4] at H
     have c4b0 := eq_true c4
     have c4b1 : decide (0 ≤ (l00.length : Int)) = true := decide_eq_true c4
     clear c4
     by_cases c5 : ((l00.length : Int) : Int).toNat ≤ 35184372088832
     ·rw [if_pos c5] at H
      have c5b0 := eq_true c5
      have c5b1 : decide (((l00.length : Int) : Int).toNat ≤ 35184372088832) = true := decide_eq_true c5
      clear c5
      obtain ⟨y282, hy282⟩ : ∃ y_ : List Int, y_ = (List.replicate ((l00.length : Int) : Int).toNat 0) := ⟨_, rfl⟩
      replace H : (if 0 ≤ x41 then (if x41 < (l02.length : Int) then (if x41 < (y282.length : Int) then (if x31.length < 2513169434916 then (rf_Forms.l0 k1 (x31 ++ [(⟨(⟨#[]⟩ : ByteArray), (y282.set (x41 : Int).toNat 1000), (⟨(rd_T27 l02 x41).f0, (rd_T27 l02 x41).f1⟩ : S27)⟩ : S89)]) (wrap64 (x41 + 1)) l00 l01 l02 l03 a04 a05 a06) else (none)) else (none)) else (none)) else (none)) = some r := by first | (rw [hy282]; with_reducible exact H) | (have H2_ := (Option.bind_some _ _).symm.trans H; rw [hy282]; with_reducible exact H2_) | (have H2_ := (Option.bind_some _ _).symm.trans H; with_reducible exact H2_) | with_reducible exact H | (rw [hy282]; exact H) | exact H
      have Ny282 := Sd.mk hy282; clear hy282
      by_cases c6 : 0 ≤ x41
      ·rw [if_pos c6] at H
       have c6b0 : decide (0 ≤ x41) = true := decide_eq_true c6
       clear c6
       by_cases c7 : x41 < (l02.length : Int)
       ·rw [if_pos c7] at H
        have c7b0 : decide (x41 < (l02.length : Int)) = true := decide_eq_true c7
        clear c7
        by_cases c8 : x41 < (y282.length : Int)
        ·rw [if_pos c8] at H
         have c8b0 : decide (x41 < (y282.length : Int)) = true := decide_eq_true c8
         clear c8
         obtain ⟨y287, hy287⟩ : ∃ y_ : List Int, y_ = (y282.set (x41 : Int).toNat 1000) := ⟨_, rfl⟩
         replace H : (if x31.length < 2513169434916 then (rf_Forms.l0 k1 (x31 ++ [(⟨(⟨#[]⟩ : ByteArray), y287, (⟨(rd_T27 l02 x41).f0, (rd_T27 l02 x41).f1⟩ : S27)⟩ : S89)]) (wrap64 (x41 + 1)) l00 l01 l02 l03 a04 a05 a06) else (none)) = some r := by first | (rw [hy287]; with_reducible exact H) | (have H2_ := (Option.bind_some _ _).symm.trans H; rw [hy287]; with_reducible exact H2_) | (have H2_ := (Option.bind_some _ _).symm.trans H; with_reducible exact H2_) | with_reducible exact H | (rw [hy287]; exact H) | exact H
         have Ny287 := Sd.mk hy287; clear hy287
         by_cases c10 : x31.length < 2513169434916
         ·rw [if_pos c10] at H
          have LMc10 := Sd.mk c10; clear c10
          obtain ⟨y288, hy288⟩ : ∃ y_ : List (S89), y_ = (x31 ++ [(⟨(⟨#[]⟩ : ByteArray), y287, (⟨(rd_T27 l02 x41).f0, (rd_T27 l02 x41).f1⟩ : S27)⟩ : S89)]) := ⟨_, rfl⟩
          replace H : (rf_Forms.l0 k1 y288 (wrap64 (x41 + 1)) l00 l01 l02 l03 a04 a05 a06) = some r := by first | (rw [hy288]; with_reducible exact H) | (have H2_ := (Option.bind_some _ _).symm.trans H; rw [hy288]; with_reducible exact H2_) | (have H2_ := (Option.bind_some _ _).symm.trans H; with_reducible exact H2_) | with_reducible exact H | (rw [hy288]; exact H) | exact H
          have Ny288 := Sd.mk hy288; clear hy288; have H' := Sd.mk H; clear H; obtain ⟨u11_0, u11_1, u11_2, u11_3, u11_4, u11_5, u11_6, o110, o111, o112, o113, o114, o115, o116⟩ := bc7 (w := wr) BK281.out
          try go_wp2
          replace HO_3 := Sd.mk (Kd.N_drew HO_3.out); replace HO_282003 := Sd.mk (Kd.V_drew HO_282003.out); replace BK281 := Sd.mk (blk_drew BK281.out); replace HB := Sd.mk (below_drew1 HB.out)
          have p285 : 0 ≤ (x41 : Int) := tB
          have q285 : x41 < (l02.length : Int) := tB
          obtain ⟨ad285, e285, hx2850, hx2851⟩ := at_T27 HR02.out x41 p285 q285; have hw2851 := hx2851; have hw2850 := hx2850; cases e285; replace hx2850 := cU HB hx2850; replace hx2851 := cU HB hx2851; replace p285 := eq_true p285; replace q285 := eq_true q285
          refine start_ (n := 12) (S := fun w' => w'.cell? ⟨gb281, 0, none⟩ = some (.slice A00 l00.length c00) ∧ w'.cell? ⟨gb281, 1, none⟩ = some (.slice A01 l01.length c01) ∧ w'.cell? ⟨gb281, 2, none⟩ = some (.slice (some ad285) l02.length c02) ∧ w'.cell? ⟨gb281, 3, none⟩ = some (.slice A03 l03.length c03) ∧ w'.cell? ⟨gb281, 4, none⟩ = some (.int .i64 a04) ∧ w'.cell? ⟨gb281, 5, none⟩ = some (.int .i64 a05) ∧ w'.cell? ⟨gb281, 6, none⟩ = some (.int .i64 a06) ∧ w'.cell? (ad285.add ((x41).toNat * 2)) = some (.int .i64 ((rd_T27 l02 x41).f0)) ∧ w'.cell? ⟨(ad285.add ((x41).toNat * 2)).block, (ad285.add ((x41).toNat * 2)).off + 1, none⟩ = some (.int .i64 ((rd_T27 l02 x41).f1))) (ds := []) (bA 12 0) (by kernel_rfl) rfl rfl ⟨(blk_cell BK281.out 0).trans rfl, (blk_cell BK281.out 1).trans rfl, (blk_cell BK281.out 2).trans rfl, (blk_cell BK281.out 3).trans rfl, (blk_cell BK281.out 4).trans rfl, (blk_cell BK281.out 5).trans rfl, (blk_cell BK281.out 6).trans rfl, (cU HB hw2850), (cU HB hw2851)⟩ (fun hHeld => ?_); refine with_tabW rf_Forms.tab5 rf_Forms.bits5 (fun HT_ HW_ => ?_)
          generalize wr.drew = w12 at HO_3 HO_282003 BK281 HB hx2850 hx2851 hHeld ⊢
          refine pQ 0 (some 13) (bA 12 1) ?_
          refine pQ 4 (some 17) (bA 12 17) ?_
          refine pQ 6 (some 19) (bA 12 81) ?_
          refine tQ 1 (some 14) (bA 12 83) ?_
          refine pQ 2 (some 15) (bA 12 87) ?_
          refine tQ 5 (some 18) (bA 12 119) ?_
          refine pQ 7 (some 20) (bA 12 247) ?_
          refine tQ 8 (some 21) (bA 12 503) ?_
          refine join_ (σ := Value × Nat) 1 (bA 12 2047) (fun s_ => [(16, s_.1), (5, .pointer (some ⟨s_.2, 0, none⟩)), (22, .agg #[.string (⟨#[]⟩ : ByteArray), s_.1, .int .i64 ((rd_T27 l02 x41).f0), .int .i64 ((rd_T27 l02 x41).f1)])]) (fun s_ w' => (w'.cell? ⟨gb281, 0, none⟩ = some (.slice A00 l00.length c00) ∧ w'.cell? ⟨gb281, 1, none⟩ = some (.slice A01 l01.length c01) ∧ w'.cell? ⟨gb281, 2, none⟩ = some (.slice (some ad285) l02.length c02) ∧ w'.cell? ⟨gb281, 3, none⟩ = some (.slice A03 l03.length c03) ∧ w'.cell? ⟨gb281, 4, none⟩ = some (.int .i64 a04) ∧ w'.cell? ⟨gb281, 5, none⟩ = some (.int .i64 a05) ∧ w'.cell? ⟨gb281, 6, none⟩ = some (.int .i64 a06) ∧ w'.cell? (ad285.add ((x41).toNat * 2)) = some (.int .i64 ((rd_T27 l02 x41).f0)) ∧ w'.cell? ⟨(ad285.add ((x41).toNat * 2)).block, (ad285.add ((x41).toNat * 2)).off + 1, none⟩ = some (.int .i64 ((rd_T27 l02 x41).f1))) ∧ (Kd.R (Kd.int .i64) 3 w' w.heap.size (fun k_ => (w.heap.size ≤ k_)) s_.1 y282) ∧ (Kd.V k89 89 w' w.heap.size (fun k_ => (P0_3_ k_ ∨ w.heap.size ≤ k_) ∧ some k_ ≠ (s_.1 : Value).ownBlock ∧ some k_ ≠ (u3 : Value).ownBlock ∧ k_ ≠ gb281 ∧ k_ ≠ s_.2) (.slice A03 l03.length c03) l03) ∧ (Kd.N k89 89 w' w.heap.size (fun k_ => (P0_3_ k_ ∨ w.heap.size ≤ k_) ∧ some k_ ≠ (s_.1 : Value).ownBlock ∧ k_ ≠ gb281 ∧ k_ ≠ s_.2) u3 x31) ∧ (w'.heap[gb281]? = some (.cells #[.slice A00 l00.length c00, .slice A01 l01.length c01, .slice (some ad285) l02.length c02, .slice A03 l03.length c03, .int .i64 a04, .int .i64 a05, .int .i64 a06] 29 (0, 0))) ∧ (w'.heap[s_.2]? = some (.cells #[.string (⟨#[]⟩ : ByteArray), .slice none 0 0, .int .i64 0, .int .i64 0] 89 (0, 0))) ∧ (w.heap.size ≤ s_.2) ∧ (w.heap.size ≤ s_.2) ∧ (gb281 ≠ s_.2) ∧ (s_.2 ≠ gb281) ∧ (Below w.heap.size w w')) ?_ ?_
          rotate_left
          ·intro hCont
           refine two_ (i := 3) (j := 10) (Ni := some 16) (Nj := some 5) (bA 12 511) (bA 12 1527) rfl rfl rfl rfl (two_of HT_.out (by kernel_rfl)) (by decide) (by decide) (fun K hK => ?_) (fun K hK => ?_)
           ·skip
            refine Kd.R_make_step (Kd.int .i64) _ 3 (by rfl) (N := 16) rfl 30 _ _ rfl (l00.length : Int) rfl rfl Tryz.underlying30 (.int .i64 0) 8 info3 rfl (by decide) (by omega) 0 (ok := fun _ => True) (okp := fun _ => True) rfl (fun _ hk => hk) trivial (tB) (Nat.le_trans (Nat.mul_le_mul_right _ (tB : (l00.length : Int).toNat ≤ 35184372088832)) (by omega)) (Below.refl _ _) (Nat.le_refl _) ?_
            intro v283 w13 ho14 hb hg_ hnew_
            clear hg_ hnew_
            (first | rw [← Ny282.out] at ho14 | (simp only [Int.reduceToNat] at ho14; rw [← Ny282.out] at ho14))
            replace HO_3 := Sd.mk (Kd.N_elder' (by (with_reducible repeat (first | apply Kd.N_alloc | apply Kd.N_drewN | apply Kd.N_drew)); exact HO_3.out) (Kd.R_base ho14) hb)
            replace HO_282003 := Sd.mk (Kd.V_elder' (by (with_reducible repeat (first | apply Kd.V_alloc | apply Kd.V_drewN | apply Kd.V_drew)); exact HO_282003.out) (Kd.R_base ho14) hb)
            have HO284 := Sd.mk (Kd.R_lower (Kd.R_newM (M := fun k_ => (w.heap.size ≤ k_)) ho14 (below_size (bBl HB.out)) (fun k_ h_ => h_)) (below_size (bBl HB.out)))
            replace BK281 := Sd.mk (blk_below (bkA BK281.out) hb); replace HB := Sd.mk (below_step (bBl HB.out) hb); clear hb ho14; obtain ⟨Ao15, co15, eo15⟩ := Kd.R_slice HO284.out
            (first | subst eo15 | (injection eo15 with f1_ f2_ f3_; have f4_ := f1_.symm; have f5_ := f3_.symm; clear f1_ f2_ f3_; subst f4_; subst f5_))
            refine hK.out _ _ ⟨(blk_cell BK281.out 0).trans rfl, (blk_cell BK281.out 1).trans rfl, (blk_cell BK281.out 2).trans rfl, (blk_cell BK281.out 3).trans rfl, (blk_cell BK281.out 4).trans rfl, (blk_cell BK281.out 5).trans rfl, (blk_cell BK281.out 6).trans rfl, (cU HB hw2850), (cU HB hw2851)⟩ (fun hHeld => ?_)
            clear hK K
            refine norm_ (a' := ?_) ?_ ?_
            rotate_left
            ·show Act.put _ (some 16) _ = _
             exact tP
            refine pQ 9 (some 22) (bA 12 1023) ?_
            refine one_ (i := 10) (N := some 5) (bA 12 2047) rfl rfl (one_of HT_.out (by kernel_rfl)) (by decide) (fun K hK => ?_)
            refine box_step ?hg (N := 5) ?hd (cs := #[.string (⟨#[]⟩ : ByteArray), .slice none 0 0, .int .i64 0, .int .i64 0]) (t := 89) ?hr ?_; (case hd => rfl); (case hg => rfl); (case hr => exact tG)
            intro gb286 hg w16 hbox hb
            replace HO_3 := Sd.mk (Kd.N_below (Kd.N_elderB (by (with_reducible repeat (first | apply Kd.N_alloc | apply Kd.N_drewN | apply Kd.N_drew)); exact HO_3.out) gb286 (Nat.le_of_eq hg.symm)) hb)
            replace HO_282003 := Sd.mk (Kd.V_below (Kd.V_elderB (by (with_reducible repeat (first | apply Kd.V_alloc | apply Kd.V_drewN | apply Kd.V_drew)); exact HO_282003.out) gb286 (Nat.le_of_eq hg.symm)) hb)
            replace HO284 := Sd.mk (Kd.R_below (by (with_reducible repeat (first | apply Kd.R_alloc | apply Kd.R_drewN | apply Kd.R_drew)); exact HO284.out) hb)
            have BK286 := Sd.mk (hbox); have GW286 := Sd.mk (bSz hg (bBl HB.out)); have GE286 := Sd.mk (bSz hg (bBl HB.out)); replace HB := Sd.mk (below_step (bBl HB.out) hb); have NB281286 := Sd.mk (bNl hg (bkA BK281.out)); have NB286281 := Sd.mk (bNg hg (bkA BK281.out)); replace BK281 := Sd.mk (blk_below (bkA BK281.out) hb); clear hb hbox hg
            refine hK.out _ _ ⟨(blk_cell BK281.out 0).trans rfl, (blk_cell BK281.out 1).trans rfl, (blk_cell BK281.out 2).trans rfl, (blk_cell BK281.out 3).trans rfl, (blk_cell BK281.out 4).trans rfl, (blk_cell BK281.out 5).trans rfl, (blk_cell BK281.out 6).trans rfl, (cU HB hw2850), (cU HB hw2851)⟩ (fun hHeld => ?_)
            clear hK K
            refine norm_ (a' := ?_) ?_ ?_
            rotate_left
            ·show Act.put _ (some 5) _ = _
             exact tP
            exact norm_ (by simp only [putAll, Act.put, List.setIfInBounds_toArray, List.set_cons_zero, List.set_cons_succ]) (hCont (.slice Ao15 y282.length co15, gb286) _ ⟨hHeld, (by (with_reducible repeat (first | apply Kd.R_alloc | apply Kd.R_drewN | apply Kd.R_drew)); exact Kd.R_mono HO284.out (fun _ hk => hk.1)), (by (with_reducible repeat (first | apply Kd.V_alloc | apply Kd.V_drewN | apply Kd.V_drew)); exact Kd.V_mono HO_282003.out (fun _ hk => ⟨hk.1.1.1, ⟨hk.1.2, ⟨hk.1.1.2.1, ⟨hk.1.1.2.2, hk.2⟩⟩⟩⟩)), (by (with_reducible repeat (first | apply Kd.N_alloc | apply Kd.N_drewN | apply Kd.N_drew)); exact Kd.N_mono HO_3.out (fun _ hk => ⟨hk.1.1.1, ⟨hk.1.2, ⟨hk.1.1.2, hk.2⟩⟩⟩)), (bkA BK281.out), (bkA BK286.out), GW286.out, GE286.out, NB281286.out, NB286281.out, (bBl HB.out)⟩)
           ·skip
            refine box_step ?hg (N := 5) ?hd (cs := #[.string (⟨#[]⟩ : ByteArray), .slice none 0 0, .int .i64 0, .int .i64 0]) (t := 89) ?hr ?_; (case hd => rfl); (case hg => rfl); (case hr => exact tG)
            intro gb286 hg w13 hbox hb
            replace HO_3 := Sd.mk (Kd.N_below (Kd.N_elderB (by (with_reducible repeat (first | apply Kd.N_alloc | apply Kd.N_drewN | apply Kd.N_drew)); exact HO_3.out) gb286 (Nat.le_of_eq hg.symm)) hb)
            replace HO_282003 := Sd.mk (Kd.V_below (Kd.V_elderB (by (with_reducible repeat (first | apply Kd.V_alloc | apply Kd.V_drewN | apply Kd.V_drew)); exact HO_282003.out) gb286 (Nat.le_of_eq hg.symm)) hb)
            have BK286 := Sd.mk (hbox); have GW286 := Sd.mk (bSz hg (bBl HB.out)); have GE286 := Sd.mk (bSz hg (bBl HB.out)); replace HB := Sd.mk (below_step (bBl HB.out) hb); have NB281286 := Sd.mk (bNl hg (bkA BK281.out)); have NB286281 := Sd.mk (bNg hg (bkA BK281.out)); replace BK281 := Sd.mk (blk_below (bkA BK281.out) hb); clear hb hbox hg
            refine hK.out _ _ ⟨(blk_cell BK281.out 0).trans rfl, (blk_cell BK281.out 1).trans rfl, (blk_cell BK281.out 2).trans rfl, (blk_cell BK281.out 3).trans rfl, (blk_cell BK281.out 4).trans rfl, (blk_cell BK281.out 5).trans rfl, (blk_cell BK281.out 6).trans rfl, (cU HB hw2850), (cU HB hw2851)⟩ (fun hHeld => ?_)
            clear hK K
            refine norm_ (a' := ?_) ?_ ?_
            rotate_left
            ·show Act.put _ (some 5) _ = _
             exact tP
            refine one_ (i := 3) (N := some 16) (bA 12 1535) rfl rfl (one_of HT_.out (by kernel_rfl)) (by decide) (fun K hK => ?_)
            refine Kd.R_make_step (Kd.int .i64) _ 3 (by rfl) (N := 16) rfl 30 _ _ rfl (l00.length : Int) rfl rfl Tryz.underlying30 (.int .i64 0) 8 info3 rfl (by decide) (by omega) 0 (ok := fun _ => True) (okp := fun _ => True) rfl (fun _ hk => hk) trivial (tB) (Nat.le_trans (Nat.mul_le_mul_right _ (tB : (l00.length : Int).toNat ≤ 35184372088832)) (by omega)) (Below.refl _ _) (Nat.le_refl _) ?_
            intro v283 w14 ho15 hb hg_ hnew_
            clear hg_ hnew_
            (first | rw [← Ny282.out] at ho15 | (simp only [Int.reduceToNat] at ho15; rw [← Ny282.out] at ho15))
            replace HO_3 := Sd.mk (Kd.N_elder' (by (with_reducible repeat (first | apply Kd.N_alloc | apply Kd.N_drewN | apply Kd.N_drew)); exact HO_3.out) (Kd.R_base ho15) hb)
            replace HO_282003 := Sd.mk (Kd.V_elder' (by (with_reducible repeat (first | apply Kd.V_alloc | apply Kd.V_drewN | apply Kd.V_drew)); exact HO_282003.out) (Kd.R_base ho15) hb)
            have HO284 := Sd.mk (Kd.R_lower (Kd.R_newM (M := fun k_ => (w.heap.size ≤ k_)) ho15 (below_size (bBl HB.out)) (fun k_ h_ => h_)) (below_size (bBl HB.out)))
            replace BK281 := Sd.mk (blk_below (bkA BK281.out) hb); replace BK286 := Sd.mk (blk_below (bkA BK286.out) hb); replace HB := Sd.mk (below_step (bBl HB.out) hb); clear hb ho15; obtain ⟨Ao16, co16, eo16⟩ := Kd.R_slice HO284.out
            (first | subst eo16 | (injection eo16 with f1_ f2_ f3_; have f4_ := f1_.symm; have f5_ := f3_.symm; clear f1_ f2_ f3_; subst f4_; subst f5_))
            refine hK.out _ _ ⟨(blk_cell BK281.out 0).trans rfl, (blk_cell BK281.out 1).trans rfl, (blk_cell BK281.out 2).trans rfl, (blk_cell BK281.out 3).trans rfl, (blk_cell BK281.out 4).trans rfl, (blk_cell BK281.out 5).trans rfl, (blk_cell BK281.out 6).trans rfl, (cU HB hw2850), (cU HB hw2851)⟩ (fun hHeld => ?_)
            clear hK K
            refine norm_ (a' := ?_) ?_ ?_
            rotate_left
            ·show Act.put _ (some 16) _ = _
             exact tP
            refine pQ 9 (some 22) (bA 12 2047) ?_
            exact norm_ (by simp only [putAll, Act.put, List.setIfInBounds_toArray, List.set_cons_zero, List.set_cons_succ]) (hCont (.slice Ao16 y282.length co16, gb286) _ ⟨hHeld, (by (with_reducible repeat (first | apply Kd.R_alloc | apply Kd.R_drewN | apply Kd.R_drew)); exact Kd.R_mono HO284.out (fun _ hk => hk.1)), (by (with_reducible repeat (first | apply Kd.V_alloc | apply Kd.V_drewN | apply Kd.V_drew)); exact Kd.V_mono HO_282003.out (fun _ hk => ⟨hk.1.1.1, ⟨hk.2, ⟨hk.1.1.2.1, ⟨hk.1.1.2.2, hk.1.2⟩⟩⟩⟩)), (by (with_reducible repeat (first | apply Kd.N_alloc | apply Kd.N_drewN | apply Kd.N_drew)); exact Kd.N_mono HO_3.out (fun _ hk => ⟨hk.1.1.1, ⟨hk.2, ⟨hk.1.1.2, hk.1.2⟩⟩⟩)), (bkA BK281.out), (bkA BK286.out), GW286.out, GE286.out, NB281286.out, NB286281.out, (bBl HB.out)⟩)
          rintro ⟨v283, gb286⟩ w17 ⟨hS_, h0_, h1_, h2_, h3_, h4_, h5_, h6_, h7_, h8_, h9_⟩
          have n0_ : Sd (Kd.R (Kd.int .i64) 3 w17 w.heap.size (fun k_ => (w.heap.size ≤ k_)) v283 y282) := ⟨h0_⟩
          have n1_ : Sd (Kd.V k89 89 w17 w.heap.size (fun k_ => (P0_3_ k_ ∨ w.heap.size ≤ k_) ∧ some k_ ≠ (v283 : Value).ownBlock ∧ some k_ ≠ (u3 : Value).ownBlock ∧ k_ ≠ gb281 ∧ k_ ≠ gb286) (.slice A03 l03.length c03) l03) := ⟨h1_⟩
          have n2_ : Sd (Kd.N k89 89 w17 w.heap.size (fun k_ => (P0_3_ k_ ∨ w.heap.size ≤ k_) ∧ some k_ ≠ (v283 : Value).ownBlock ∧ k_ ≠ gb281 ∧ k_ ≠ gb286) u3 x31) := ⟨h2_⟩
          have n3_ : Sd (w17.heap[gb281]? = some (.cells #[.slice A00 l00.length c00, .slice A01 l01.length c01, .slice (some ad285) l02.length c02, .slice A03 l03.length c03, .int .i64 a04, .int .i64 a05, .int .i64 a06] 29 (0, 0))) := ⟨h3_⟩
          have n4_ : Sd (w17.heap[gb286]? = some (.cells #[.string (⟨#[]⟩ : ByteArray), .slice none 0 0, .int .i64 0, .int .i64 0] 89 (0, 0))) := ⟨h4_⟩
          have n5_ : Sd (w.heap.size ≤ gb286) := ⟨h5_⟩
          have n6_ : Sd (w.heap.size ≤ gb286) := ⟨h6_⟩
          have n7_ : Sd (gb281 ≠ gb286) := ⟨h7_⟩
          have n8_ : Sd (gb286 ≠ gb281) := ⟨h8_⟩
          have n9_ : Sd (Below w.heap.size w w17) := ⟨h9_⟩
          clear HO_3; clear HO_282003; clear BK281; clear HB; clear h0_ h1_ h2_ h3_ h4_ h5_ h6_ h7_ h8_ h9_; have HO284 := n0_; have HO_282003 := n1_; have HO_3 := n2_; have BK281 := n3_; have BK286 := n4_; have GW286 := n5_; have GE286 := n6_; have NB281286 := n7_; have NB286281 := n8_; have HB := n9_; clear n0_ n1_ n2_ n3_ n4_ n5_ n6_ n7_ n8_ n9_
          have hHeld : w17.cell? ⟨gb281, 0, none⟩ = some (.slice A00 l00.length c00) ∧ w17.cell? ⟨gb281, 1, none⟩ = some (.slice A01 l01.length c01) ∧ w17.cell? ⟨gb281, 2, none⟩ = some (.slice (some ad285) l02.length c02) ∧ w17.cell? ⟨gb281, 3, none⟩ = some (.slice A03 l03.length c03) ∧ w17.cell? ⟨gb281, 4, none⟩ = some (.int .i64 a04) ∧ w17.cell? ⟨gb281, 5, none⟩ = some (.int .i64 a05) ∧ w17.cell? ⟨gb281, 6, none⟩ = some (.int .i64 a06) ∧ w17.cell? (ad285.add ((x41).toNat * 2)) = some (.int .i64 ((rd_T27 l02 x41).f0)) ∧ w17.cell? ⟨(ad285.add ((x41).toNat * 2)).block, (ad285.add ((x41).toNat * 2)).off + 1, none⟩ = some (.int .i64 ((rd_T27 l02 x41).f1)) := hS_
          obtain ⟨Ao18, co18, eo18⟩ := Kd.R_slice HO284.out
          (first | subst eo18 | (injection eo18 with f1_ f2_ f3_; have f4_ := f1_.symm; have f5_ := f3_.symm; clear f1_ f2_ f3_; subst f4_; subst f5_))
          refine norm_ (a' := ?_) ?_ ?_
          rotate_left
          ·simp only [putAll, Act.put, List.setIfInBounds_toArray, List.set_cons_zero, List.set_cons_succ]
           rfl
          refine one_ (i := 11) (N := none) (bA 12 4095) rfl rfl (one_of HT_.out (by kernel_rfl)) (by decide) (fun K hK => ?_)
          have hs19 : w17.cell? ⟨gb286, 0, none⟩ = some (.string (⟨#[]⟩ : ByteArray)) := (blk_cell BK286.out 0).trans rfl
          have hfs19 := blk_frozen BK286.out 0; have hns190 := NB281286.out; have hms190 := NB286281.out
          have hs20 : w17.cell? ⟨gb286, 1, none⟩ = some (.slice none 0 0) := (blk_cell BK286.out 1).trans rfl
          have hfs20 := blk_frozen BK286.out 1; have hns200 := NB281286.out; have hms200 := NB286281.out
          have hs21 : w17.cell? ⟨gb286, 2, none⟩ = some (.int .i64 0) := (blk_cell BK286.out 2).trans rfl
          have hfs21 := blk_frozen BK286.out 2; have hns210 := NB281286.out; have hms210 := NB286281.out
          have hs22 : w17.cell? ⟨gb286, 3, none⟩ = some (.int .i64 0) := (blk_cell BK286.out 3).trans rfl
          have hfs22 := blk_frozen BK286.out 3; have hns220 := NB281286.out; have hms220 := NB286281.out
          refine skip_ (w1 := ?_) (by rfl) rfl ?_ ?_
          rotate_left
          ·go_simp
           rfl
          refine hK.out _ _ ⟨((cell_far (p := ⟨gb286, _, none⟩) NB281286.out _).trans (((cell_far (p := ⟨gb286, _, none⟩) NB281286.out _).trans (((cell_far (p := ⟨gb286, _, none⟩) NB281286.out _).trans (((cell_far (p := ⟨gb286, _, none⟩) NB281286.out _).trans (hHeld.1)))))))), ((cell_far (p := ⟨gb286, _, none⟩) NB281286.out _).trans (((cell_far (p := ⟨gb286, _, none⟩) NB281286.out _).trans (((cell_far (p := ⟨gb286, _, none⟩) NB281286.out _).trans (((cell_far (p := ⟨gb286, _, none⟩) NB281286.out _).trans (hHeld.2.1)))))))), ((cell_far (p := ⟨gb286, _, none⟩) NB281286.out _).trans (((cell_far (p := ⟨gb286, _, none⟩) NB281286.out _).trans (((cell_far (p := ⟨gb286, _, none⟩) NB281286.out _).trans (((cell_far (p := ⟨gb286, _, none⟩) NB281286.out _).trans (hHeld.2.2.1)))))))), ((cell_far (p := ⟨gb286, _, none⟩) NB281286.out _).trans (((cell_far (p := ⟨gb286, _, none⟩) NB281286.out _).trans (((cell_far (p := ⟨gb286, _, none⟩) NB281286.out _).trans (((cell_far (p := ⟨gb286, _, none⟩) NB281286.out _).trans (hHeld.2.2.2.1)))))))), ((cell_far (p := ⟨gb286, _, none⟩) NB281286.out _).trans (((cell_far (p := ⟨gb286, _, none⟩) NB281286.out _).trans (((cell_far (p := ⟨gb286, _, none⟩) NB281286.out _).trans (((cell_far (p := ⟨gb286, _, none⟩) NB281286.out _).trans (hHeld.2.2.2.2.1)))))))), ((cell_far (p := ⟨gb286, _, none⟩) NB281286.out _).trans (((cell_far (p := ⟨gb286, _, none⟩) NB281286.out _).trans (((cell_far (p := ⟨gb286, _, none⟩) NB281286.out _).trans (((cell_far (p := ⟨gb286, _, none⟩) NB281286.out _).trans (hHeld.2.2.2.2.2.1)))))))), ((cell_far (p := ⟨gb286, _, none⟩) NB281286.out _).trans (((cell_far (p := ⟨gb286, _, none⟩) NB281286.out _).trans (((cell_far (p := ⟨gb286, _, none⟩) NB281286.out _).trans (((cell_far (p := ⟨gb286, _, none⟩) NB281286.out _).trans (hHeld.2.2.2.2.2.2.1)))))))), ((cell_far (p := ⟨gb286, _, none⟩) (nX hw2850 GW286.out) _).trans (((cell_far (p := ⟨gb286, _, none⟩) (nX hw2850 GW286.out) _).trans (((cell_far (p := ⟨gb286, _, none⟩) (nX hw2850 GW286.out) _).trans (((cell_far (p := ⟨gb286, _, none⟩) (nX hw2850 GW286.out) _).trans (hHeld.2.2.2.2.2.2.2.1)))))))), ((cell_far (p := ⟨gb286, _, none⟩) (nX hw2851 GW286.out) _).trans (((cell_far (p := ⟨gb286, _, none⟩) (nX hw2851 GW286.out) _).trans (((cell_far (p := ⟨gb286, _, none⟩) (nX hw2851 GW286.out) _).trans (((cell_far (p := ⟨gb286, _, none⟩) (nX hw2851 GW286.out) _).trans (hHeld.2.2.2.2.2.2.2.2))))))))⟩ (fun hHeld => ?_)
          clear hK K
          refine done_ (done_of HT_.out (by kernel_rfl)) ?_
          have n0_ : Sd (Kd.N k89 89 ((((w17.setCell ⟨gb286, 0, none⟩ (.string (⟨#[]⟩ : ByteArray))).setCell ⟨gb286, 1, none⟩ (.slice Ao18 y282.length co18)).setCell ⟨gb286, 2, none⟩ (.int .i64 ((rd_T27 l02 x41).f0))).setCell ⟨gb286, 3, none⟩ (.int .i64 ((rd_T27 l02 x41).f1))) w.heap.size (fun k_ => (P0_3_ k_ ∨ w.heap.size ≤ k_) ∧ some k_ ≠ (.slice Ao18 y282.length co18 : Value).ownBlock ∧ k_ ≠ gb281 ∧ k_ ≠ gb286) u3 x31) := ⟨by (with_reducible repeat (first | apply Kd.N_alloc | apply Kd.N_drewN | apply Kd.N_drew)); exact Kd.N_mono (Kd.N_far (p := ⟨gb286, 3, none⟩) (Kd.N_far (p := ⟨gb286, 2, none⟩) (Kd.N_far (p := ⟨gb286, 1, none⟩) (Kd.N_far (p := ⟨gb286, 0, none⟩) (Kd.N_mono HO_3.out (fun k_ hk => (⟨hk, hk.2.2.2⟩ : _ ∧ k_ ≠ gb286))) (fun _ hk => hk.2) (.string (⟨#[]⟩ : ByteArray))) (fun _ hk => hk.2) (.slice Ao18 y282.length co18)) (fun _ hk => hk.2) (.int .i64 ((rd_T27 l02 x41).f0))) (fun _ hk => hk.2) (.int .i64 ((rd_T27 l02 x41).f1))) (fun _ hk => ⟨hk.1.1, ⟨hk.1.2.1, ⟨hk.1.2.2.1, hk.1.2.2.2⟩⟩⟩)⟩
          have n1_ : Sd (Kd.V k89 89 ((((w17.setCell ⟨gb286, 0, none⟩ (.string (⟨#[]⟩ : ByteArray))).setCell ⟨gb286, 1, none⟩ (.slice Ao18 y282.length co18)).setCell ⟨gb286, 2, none⟩ (.int .i64 ((rd_T27 l02 x41).f0))).setCell ⟨gb286, 3, none⟩ (.int .i64 ((rd_T27 l02 x41).f1))) w.heap.size (fun k_ => (P0_3_ k_ ∨ w.heap.size ≤ k_) ∧ some k_ ≠ (u3 : Value).ownBlock ∧ some k_ ≠ (.slice Ao18 y282.length co18 : Value).ownBlock ∧ k_ ≠ gb281 ∧ k_ ≠ gb286) (.slice A03 l03.length c03) l03) := ⟨by (with_reducible repeat (first | apply Kd.V_alloc | apply Kd.V_drewN | apply Kd.V_drew)); exact Kd.V_mono (Kd.V_far (p := ⟨gb286, 3, none⟩) (Kd.V_far (p := ⟨gb286, 2, none⟩) (Kd.V_far (p := ⟨gb286, 1, none⟩) (Kd.V_far (p := ⟨gb286, 0, none⟩) (Kd.V_mono HO_282003.out (fun k_ hk => (⟨hk, hk.2.2.2.2⟩ : _ ∧ k_ ≠ gb286))) (fun _ hk => hk.2) (.string (⟨#[]⟩ : ByteArray))) (fun _ hk => hk.2) (.slice Ao18 y282.length co18)) (fun _ hk => hk.2) (.int .i64 ((rd_T27 l02 x41).f0))) (fun _ hk => hk.2) (.int .i64 ((rd_T27 l02 x41).f1))) (fun _ hk => ⟨hk.1.1, ⟨hk.1.2.2.1, ⟨hk.1.2.1, ⟨hk.1.2.2.2.1, hk.1.2.2.2.2⟩⟩⟩⟩)⟩
          have n2_ : Sd (Kd.R (Kd.int .i64) 3 ((((w17.setCell ⟨gb286, 0, none⟩ (.string (⟨#[]⟩ : ByteArray))).setCell ⟨gb286, 1, none⟩ (.slice Ao18 y282.length co18)).setCell ⟨gb286, 2, none⟩ (.int .i64 ((rd_T27 l02 x41).f0))).setCell ⟨gb286, 3, none⟩ (.int .i64 ((rd_T27 l02 x41).f1))) w.heap.size (fun k_ => (w.heap.size ≤ k_)) (.slice Ao18 y282.length co18) y282) := ⟨by (with_reducible repeat (first | apply Kd.R_alloc | apply Kd.R_drewN | apply Kd.R_drew)); exact Kd.R_mono (Kd.R_far (p := ⟨gb286, 3, none⟩) (Kd.R_far (p := ⟨gb286, 2, none⟩) (Kd.R_far (p := ⟨gb286, 1, none⟩) (Kd.R_far (p := ⟨gb286, 0, none⟩) (Kd.R_types HO284.out BK286.out (by decide)) (fun _ hk => hk.2) (.string (⟨#[]⟩ : ByteArray))) (fun _ hk => hk.2) (.slice Ao18 y282.length co18)) (fun _ hk => hk.2) (.int .i64 ((rd_T27 l02 x41).f0))) (fun _ hk => hk.2) (.int .i64 ((rd_T27 l02 x41).f1))) (fun _ hk => hk.1)⟩
          have n3_ : Sd (((((w17.setCell ⟨gb286, 0, none⟩ (.string (⟨#[]⟩ : ByteArray))).setCell ⟨gb286, 1, none⟩ (.slice Ao18 y282.length co18)).setCell ⟨gb286, 2, none⟩ (.int .i64 ((rd_T27 l02 x41).f0))).setCell ⟨gb286, 3, none⟩ (.int .i64 ((rd_T27 l02 x41).f1))).heap[gb281]? = some (.cells #[.slice A00 l00.length c00, .slice A01 l01.length c01, .slice (some ad285) l02.length c02, .slice A03 l03.length c03, .int .i64 a04, .int .i64 a05, .int .i64 a06] 29 (0, 0))) := ⟨by refine bkZ ?_; refine blk_far ?_ NB281286.out _; refine bkZ ?_; refine blk_far ?_ NB281286.out _; refine bkZ ?_; refine blk_far ?_ NB281286.out _; refine bkZ ?_; refine blk_far ?_ NB281286.out _; refine bkZ ?_; exact BK281.out⟩
          have n4_ : Sd (((((w17.setCell ⟨gb286, 0, none⟩ (.string (⟨#[]⟩ : ByteArray))).setCell ⟨gb286, 1, none⟩ (.slice Ao18 y282.length co18)).setCell ⟨gb286, 2, none⟩ (.int .i64 ((rd_T27 l02 x41).f0))).setCell ⟨gb286, 3, none⟩ (.int .i64 ((rd_T27 l02 x41).f1))).heap[gb286]? = some (.cells #[.string (⟨#[]⟩ : ByteArray), .slice Ao18 y282.length co18, .int .i64 ((rd_T27 l02 x41).f0), .int .i64 ((rd_T27 l02 x41).f1)] 89 (0, 0))) := ⟨by refine bkZ ?_; refine blk_put (cs := #[.string (⟨#[]⟩ : ByteArray), .slice Ao18 y282.length co18, .int .i64 ((rd_T27 l02 x41).f0), .int .i64 0]) ?_ 3 _ rfl; refine bkZ ?_; refine blk_put (cs := #[.string (⟨#[]⟩ : ByteArray), .slice Ao18 y282.length co18, .int .i64 0, .int .i64 0]) ?_ 2 _ rfl; refine bkZ ?_; refine blk_put (cs := #[.string (⟨#[]⟩ : ByteArray), .slice none 0 0, .int .i64 0, .int .i64 0]) ?_ 1 _ rfl; refine bkZ ?_; refine blk_put (cs := #[.string (⟨#[]⟩ : ByteArray), .slice none 0 0, .int .i64 0, .int .i64 0]) ?_ 0 _ rfl; refine bkZ ?_; exact BK286.out⟩
          have n5_ : Sd (Below w.heap.size w ((((w17.setCell ⟨gb286, 0, none⟩ (.string (⟨#[]⟩ : ByteArray))).setCell ⟨gb286, 1, none⟩ (.slice Ao18 y282.length co18)).setCell ⟨gb286, 2, none⟩ (.int .i64 ((rd_T27 l02 x41).f0))).setCell ⟨gb286, 3, none⟩ (.int .i64 ((rd_T27 l02 x41).f1)))) := ⟨bBl HB.out⟩
          (try clear HO_3)
          (try clear HO_282003)
          (try clear HO284)
          (try clear BK281)
          (try clear BK286)
          (try clear HB)
          generalize ((((w17.setCell ⟨gb286, 0, none⟩ (.string (⟨#[]⟩ : ByteArray))).setCell ⟨gb286, 1, none⟩ (.slice Ao18 y282.length co18)).setCell ⟨gb286, 2, none⟩ (.int .i64 ((rd_T27 l02 x41).f0))).setCell ⟨gb286, 3, none⟩ (.int .i64 ((rd_T27 l02 x41).f1))) = w23 at n0_ n1_ n2_ n3_ n4_ n5_ ⊢
          have HO_3 := n0_; have HO_282003 := n1_; have HO284 := n2_; have BK281 := n3_; have BK286 := n4_; have HB := n5_; clear n0_ n1_ n2_ n3_ n4_ n5_; have hnb24 := NB286281.out; have hnc24 := NB281286.out; obtain ⟨u25_0, u25_1, u25_2, u25_3, o250, o251, o252, o253⟩ := bc4 (w := w23) BK286.out
          have p9 : 0 ≤ (x41 : Int) := tB
          have q9 : (x41 : Int) < ((y282.length : Int) : Int) := tB
          obtain ⟨go9, co9, eo9, gb9, gl9, cl9, HG9⟩ := Kd.R_form HO284.out (by omega)
          (first | cases eo9 | (injection eo9 with ea_ en_ ec_; (first | subst ea_ | (injection ea_ with ea_; subst ea_)); subst ec_; clear en_))
          have GB9 := Sd.mk gb9; have GG9 := Sd.mk HG9; clear gb9 gl9 HG9; obtain ⟨hx90, hf90⟩ := Kd.R_celln 0 HO284.out (x41 : Int) p9 q9; replace p9 := eq_true p9; replace q9 := eq_true q9; obtain ⟨hy26_, hz26_⟩ := Kd.R_celln 0 HO284.out (x41 : Int) (tB) (tB); have HP26 := Kd.R_putg HO284.out (x41 : Int) 1000
          try go_wp2_with (first | ((with_reducible refine gate_store (t := 3) (p := 26) rfl ?_); refine store_event (t := 3) (p := 26) (v := ?vo_w27) (w1 := (w23.setCell ⟨go9, (x41 : Int).toNat, none⟩ (.int .i64 1000))) ?hg ?ho ?hn ?hr ?_; (case ho => rfl); (case hg => rfl); (case hn => rfl); (case hr => exact tG); intro w27 hw; have hg : w23.grownBy w27 (some go9) := (by rw [hw]; exact HP26.2); have hp_ : Kd.R (Kd.int .i64) 3 w27 w.heap.size (fun k_ => (w.heap.size ≤ k_)) (.slice (some ⟨go9, 0, none⟩) y282.length co18) y287 := (by rw [hw, Ny287.out]; exact HP26.1); clear HP26; replace HO_3 := Sd.mk (Kd.N_afterv (v := (.slice (some ⟨go9, 0, none⟩) y282.length co18)) (v1 := (.slice (some ⟨go9, 0, none⟩) y282.length co18)) (ok := (fun k_ => (P0_3_ k_ ∨ w.heap.size ≤ k_) ∧ k_ ≠ gb281 ∧ k_ ≠ gb286)) (by (with_reducible repeat (first | apply Kd.N_alloc | apply Kd.N_drewN | apply Kd.N_drew)); exact Kd.N_mono HO_3.out (fun _ hk => ⟨⟨hk.1, ⟨hk.2.2.1, hk.2.2.2⟩⟩, hk.2.1⟩)) hg (.inl rfl)); replace HO_282003 := Sd.mk (Kd.V_afterv (v := (.slice (some ⟨go9, 0, none⟩) y282.length co18)) (v1 := (.slice (some ⟨go9, 0, none⟩) y282.length co18)) (ok := (fun k_ => (P0_3_ k_ ∨ w.heap.size ≤ k_) ∧ some k_ ≠ (u3 : Value).ownBlock ∧ k_ ≠ gb281 ∧ k_ ≠ gb286)) (by (with_reducible repeat (first | apply Kd.V_alloc | apply Kd.V_drewN | apply Kd.V_drew)); exact Kd.V_mono HO_282003.out (fun _ hk => ⟨⟨hk.1, ⟨hk.2.1, ⟨hk.2.2.2.1, hk.2.2.2.2⟩⟩⟩, hk.2.2.1⟩)) hg (.inl rfl)); replace BK281 := Sd.mk (blk_grown (bkA BK281.out) hg (Kd.R_ne HO284.out BK281.out (by decide))); replace BK286 := Sd.mk (blk_grown (bkA BK286.out) hg (Kd.R_ne HO284.out BK286.out (by decide))); replace HO284 := Sd.mk (hp_); replace HB := Sd.mk ((by rw [hw]; exact below_set (HB.out) GB9.out : Below w.heap.size w w27)); clear hg hw hp_; obtain ⟨u28_0, u28_1, u28_2, u28_3, o280, o281, o282, o283⟩ := bc4 (w := w27) BK286.out) | ((with_reducible refine gate_builtin (b := .append) (xs := #[.tmp 27, .tmp 29]) rfl ?_); at_builtin; refine Kd.N_append k89 (w0 := w) w.heap.size rfl (.tmp 27) (.tmp 29) 25 89 (.agg #[(.string ⟨#[]⟩), (.slice none 0 0), (.int .i64 0), (.int .i64 0)]) 56 rfl Tryz.underlying25 info89 rfl (by decide) (by omega) u3 x31 (⟨(⟨#[]⟩ : ByteArray), y287, (⟨(rd_T27 l02 x41).f0, (rd_T27 l02 x41).f1⟩ : S27)⟩ : S89) [.string (⟨#[]⟩ : ByteArray), .slice (some ⟨go9, 0, none⟩) y282.length co18, .int .i64 ((rd_T27 l02 x41).f0), .int .i64 ((rd_T27 l02 x41).f1)] (fun k_ => (P0_3_ k_ ∨ w.heap.size ≤ k_) ∧ k_ ≠ gb281 ∧ k_ ≠ gb286) (fun k_ => ((fun k_ => (P0_3_ k_ ∨ w.heap.size ≤ k_) ∧ k_ ≠ gb281 ∧ k_ ≠ gb286)) k_ ∧ some k_ ≠ (u3 : Value).ownBlock) rfl rfl ?aP (fun _ hk => hk) ?aF ?aO ?aB ?aS ?aL ?_; (case aP => exact (k89_mkF' _ _ (⟨(⟨#[]⟩ : ByteArray), y287, (⟨(rd_T27 l02 x41).f0, (rd_T27 l02 x41).f1⟩ : S27)⟩ : S89) (by rw [Ny287.out, List.length_set]) (Kd.R_reads' (Kd.R_mono (ok' := (fun k_ => ((fun k_ => (P0_3_ k_ ∨ w.heap.size ≤ k_) ∧ k_ ≠ gb281 ∧ k_ ≠ gb286)) k_ ∧ some k_ ≠ (u3 : Value).ownBlock)) (Kd.R_types (Kd.R_types (Kd.R_apart' (R_len (by rw [Ny287.out, List.length_set]) HO284.out) (Kd.N_typed HO_3.out) (by decide)) BK281.out (by decide)) BK286.out (by decide)) (fun k_ hk => ⟨⟨(.inr (hk.1.1.1)), ⟨hk.1.2, hk.2⟩⟩, hk.1.1.2⟩))).2.1 (Kd.R_F (Kd.R_mono (ok' := (fun k_ => ((fun k_ => (P0_3_ k_ ∨ w.heap.size ≤ k_) ∧ k_ ≠ gb281 ∧ k_ ≠ gb286)) k_ ∧ some k_ ≠ (u3 : Value).ownBlock)) (Kd.R_types (Kd.R_types (Kd.R_apart' (R_len (by rw [Ny287.out, List.length_set]) HO284.out) (Kd.N_typed HO_3.out) (by decide)) BK281.out (by decide)) BK286.out (by decide)) (fun k_ hk => ⟨⟨(.inr (hk.1.1.1)), ⟨hk.1.2, hk.2⟩⟩, hk.1.1.2⟩))))); (case aB => exact (bBl HB.out)); (case aF => exact (fun k_ hk => ⟨(.inr (Nat.le_trans (below_size (bBl HB.out)) hk)), Kd.freshB (bkA BK281.out) k_ hk, Kd.freshB (bkA BK286.out) k_ hk⟩)); (case aO => exact (by (with_reducible repeat (first | apply Kd.N_alloc | apply Kd.N_drewN | apply Kd.N_drew)); exact Kd.N_mono HO_3.out (fun _ hk => ⟨hk.1.1, ⟨hk.1.2.1, hk.1.2.2⟩⟩))); (case aS => exact (below_size (bBl HB.out))); (case aL => have := LMc10.out; omega); intro v289 w29 ho hb hg hat; rw [← Ny288.out] at ho; replace HO_282003 := Sd.mk (Kd.V_afterv (ok := (fun k_ => (P0_3_ k_ ∨ w.heap.size ≤ k_) ∧ some k_ ≠ (.slice (some ⟨go9, 0, none⟩) y282.length co18 : Value).ownBlock ∧ k_ ≠ gb281 ∧ k_ ≠ gb286)) (by (with_reducible repeat (first | apply Kd.V_alloc | apply Kd.V_drewN | apply Kd.V_drew)); exact Kd.V_mono HO_282003.out (fun _ hk => ⟨⟨hk.1.1, ⟨hk.2, ⟨hk.1.2.2.1, hk.1.2.2.2⟩⟩⟩, hk.1.2.1⟩)) hg hat); replace BK281 := Sd.mk (blk_grown (bkA BK281.out) hg (Kd.N_ne HO_3.out BK281.out (by decide))); replace BK286 := Sd.mk (blk_grown (bkA BK286.out) hg (Kd.N_away HO_3.out (fun _ hk => hk.1.2.2))); replace HB := Sd.mk (hb); have HO290 := Sd.mk (ho); clear HO_3 HO284; clear ho hb hg hat))
          go_roundg k1
          case measure => have := HK1.out; omega
          case rel => exact ⟨(y288), (wrap64 (x41 + 1)), tS, H', ⟨by have := HK1.out; omega⟩, ⟨by (with_reducible repeat (first | apply Kd.N_alloc | apply Kd.N_drewN | apply Kd.N_drew)); exact Kd.N_mono HO290.out (fun _ hk => ⟨hk.1, hk.2.1⟩)⟩, ⟨by (with_reducible repeat (first | apply Kd.V_alloc | apply Kd.V_drewN | apply Kd.V_drew)); exact Kd.V_mono HO_282003.out (fun _ hk => ⟨hk.1.1, ⟨hk.2, hk.1.2.2.1⟩⟩)⟩, ⟨bkA BK281.out⟩, ⟨bBl HB.out⟩⟩
         ·rw [if_neg c10] at H
          exact absurd H (by simp)
        ·rw [if_neg c8] at H
         exact absurd H (by simp)
       ·rw [if_neg c7] at H
        exact absurd H (by simp)
      ·rw [if_neg c6] at H
       exact absurd H (by simp)
     ·rw [if_neg c5] at H
      exact absurd H (by simp)
    ·rw [if_neg c4] at H
     exact absurd H (by simp)
   ·rw [if_neg c3] at H
    have c3b0 : decide (x41 < (l00.length : Int)) = false := decide_eq_false c3
    clear c3
    by_cases c30 : x31.length + l03.length < 2513169434916
    ·rw [if_pos c30] at H
     have LMc30 := Sd.mk c30; clear c30
     obtain ⟨y291, hy291⟩ : ∃ y_ : List (S89), y_ = (x31 ++ l03) := ⟨_, rfl⟩
     replace H : (some y291) = some r := by first | (rw [hy291]; with_reducible exact H) | (have H2_ := (Option.bind_some _ _).symm.trans H; rw [hy291]; with_reducible exact H2_) | (have H2_ := (Option.bind_some _ _).symm.trans H; with_reducible exact H2_) | with_reducible exact H | (rw [hy291]; exact H) | exact H
     have Ny291 := Sd.mk hy291; clear hy291; obtain rfl := Option.some.inj H; obtain ⟨u31_0, u31_1, u31_2, u31_3, u31_4, u31_5, u31_6, o310, o311, o312, o313, o314, o315, o316⟩ := bc7 (w := wr) BK281.out
     go_wp2_with (first | ((with_reducible refine gate_builtin (b := .append) (xs := #[.tmp 31, .tmp 33]) rfl ?_); at_builtin; refine Kd.N_append_rows k89 (w0 := w) w.heap.size rfl (.tmp 31) (.tmp 33) 25 89 (.agg #[(.string ⟨#[]⟩), (.slice none 0 0), (.int .i64 0), (.int .i64 0)]) 56 rfl Tryz.underlying25 info89 rfl (by decide) (by omega) u3 x31 l03 _ _ _ (fun k_ => (P0_3_ k_ ∨ w.heap.size ≤ k_) ∧ k_ ≠ gb281) (fun k_ => ((fun k_ => (P0_3_ k_ ∨ w.heap.size ≤ k_) ∧ k_ ≠ gb281)) k_ ∧ some k_ ≠ (u3 : Value).ownBlock) rfl rfl ?aO ?aR (fun _ hk => hk) ?aF ?aB ?aS ?aL ?_; (case aR => exact (by skip; exact Kd.V_F (Kd.V_mono (ok' := (fun k_ => ((fun k_ => (P0_3_ k_ ∨ w.heap.size ≤ k_) ∧ k_ ≠ gb281)) k_ ∧ some k_ ≠ (u3 : Value).ownBlock)) (HO_282003.out) (fun k_ hk => ⟨⟨hk.1, hk.2.2⟩, hk.2.1⟩)))); (case aB => exact (bBl HB.out)); (case aF => exact (fun k_ hk => ⟨(.inr (Nat.le_trans (below_size (bBl HB.out)) hk)), Kd.freshB (bkA BK281.out) k_ hk⟩)); (case aO => exact (by (with_reducible repeat (first | apply Kd.N_alloc | apply Kd.N_drewN | apply Kd.N_drew)); exact HO_3.out)); (case aS => exact (below_size (bBl HB.out))); (case aL => have := LMc30.out; omega); intro v292 w32 ho hb hg hat; rw [← Ny291.out] at ho; replace HO_282003 := Sd.mk (Kd.V_afterv (ok := (fun k_ => (P0_3_ k_ ∨ w.heap.size ≤ k_) ∧ k_ ≠ gb281)) (by (with_reducible repeat (first | apply Kd.V_alloc | apply Kd.V_drewN | apply Kd.V_drew)); exact Kd.V_mono HO_282003.out (fun _ hk => ⟨⟨hk.1, hk.2.2⟩, hk.2.1⟩)) hg hat); replace BK281 := Sd.mk (blk_grown (bkA BK281.out) hg (Kd.N_ne HO_3.out BK281.out (by decide))); replace HB := Sd.mk (hb); have HO293 := Sd.mk (ho); clear HO_3; clear ho hb hg hat))
     go_ret
     exact ⟨_, tE, by (with_reducible repeat (first | apply Kd.N_alloc | apply Kd.N_drewN | apply Kd.N_drew)); exact Kd.N_mono HO293.out (fun _ hk => hk.1), bBl HB.out⟩
    ·rw [if_neg c30] at H
     exact absurd H (by simp)
end
section
open Go.RowKit Go.Proofs.YtljfljekcpdpiaaGreatW.PrintWords Go.Proofs.YtljfljekcpdpiaaGreatW.PrintLast Go.Proofs.YtljfljekcpdpiaaGreatW.PrintMore
end
section
open Go.RowKit Go.Proofs.YtljfljekcpdpiaaGreatW.PrintWords Go.Proofs.YtljfljekcpdpiaaGreatW.PrintLast Go.Proofs.YtljfljekcpdpiaaGreatW.PrintMore
end
section
open Go.RowKit Go.Proofs.YtljfljekcpdpiaaGreatW.PrintWords Go.Proofs.YtljfljekcpdpiaaGreatW.PrintLast Go.Proofs.YtljfljekcpdpiaaGreatW.PrintMore
theorem Ev.of_mono {α : Type} {f : Nat → Option α} {v : α} (hm : ∀ k, LeO (f k) (f (k + 1))) {K : Nat} (h : f K = some v) : Ev f v := by
  refine ⟨K, fun k hk => ?_⟩
  obtain ⟨d, rfl⟩ : ∃ d, k = K + d := ⟨k - K, by omega⟩
  induction d with
  | zero => exact h
  | succ d ih => exact hm (K + d) v (ih (by omega))
section
variable (o : List ByteArray) (mt : List S70) (s : List S27) (p : List S89) (a4 a5 a6 : Int) (r : List Int)
end
section
variable {o : List ByteArray} {mt : List S70} {s : List S27} {p : List S89} {a4 a5 a6 : Int} {r : List Int}
end
section
variable (o : List ByteArray) (mt : List S70) (s : List S27) (p : List S89) (a4 a5 a6 : Int) (r : List Int)
end
def formL (n : Nat) (s : List S27) (i : Nat) : List S89 := (List.range i).map fun j : Nat => ⟨(⟨#[]⟩ : ByteArray), (List.replicate n 0).set j 1000, ⟨(rd_T27 s (j : Int)).f0, (rd_T27 s (j : Int)).f1⟩⟩
theorem formL_succ (n : Nat) (s : List S27) (i : Nat) : formL n s (i + 1) = formL n s i ++ [⟨(⟨#[]⟩ : ByteArray), (List.replicate n 0).set i 1000, ⟨(rd_T27 s (i : Int)).f0, (rd_T27 s (i : Int)).f1⟩⟩] := by simp [formL, List.range_succ]
theorem formL_len (n : Nat) (s : List S27) (i : Nat) : (formL n s i).length = i := by simp [formL]
theorem unit_rd (n i j : Nat) (hj : j < n) : rd ((List.replicate n 0).set i 1000) (j : Int) = unitC i (j : Int) := by
  unfold rd unitC
  by_cases h : i = j
  · subst h; simp [List.getD, hj]
  · have : ¬ ((j : Int) = (i : Int)) := by omega
    simp [List.getD, List.getElem?_set, h, hj, this]
section
variable {o : List ByteArray} {mt : List S70} {s : List S27} {p : List S89} {a4 a5 a6 : Int} {r : List Int}
theorem rforms_l0 (H : BatchOk o mt s p a4 a5 a6) : ∀ (m i : Nat), i + m = o.length → Ev (fun k => rf_Forms.l0 k (formL o.length s i) (i : Int) o mt s p a4 a5 a6) (formL o.length s o.length ++ p)
  | 0, i, hi => by
    have ho := H.o12
    have hp := H.p6
    have hl := formL_len o.length s i
    apply Ev.step
    simp only [rf_Forms.l0, if_neg (show ¬ (i : Int) < (o.length : Int) by omega), if_pos (show (formL o.length s i).length + p.length < 2513169434916 by omega)]
    rw [show i = o.length by omega]
    exact Ev.const _
  | m + 1, i, hi => by
    have ih := rforms_l0 H m (i + 1) (by omega)
    have ho := H.o12
    have hs := H.slen
    have hl := formL_len o.length s i
    apply Ev.step
    simp only [rf_Forms.l0, if_pos (show (i : Int) < (o.length : Int) by omega), if_pos (i_pos o.length), Int.toNat_natCast, if_pos (show o.length ≤ 35184372088832 by omega), Option.bind_some, if_pos (i_pos i), if_pos (show (i : Int) < (s.length : Int) by omega), List.length_replicate,
      if_pos (show (formL o.length s i).length < 2513169434916 by omega), wrap_succ (i_pos i) (show (i : Int) ≤ 1000000000 by omega)]
    rw [formL_succ] at ih
    exact ih
theorem rforms (H : BatchOk o mt s p a4 a5 a6) : Ev (fun k => rf_Forms.f k o mt s p a4 a5 a6) (formL o.length s o.length ++ p) := rforms_l0 H o.length 0 (by omega)
end
section
variable (o : List ByteArray) (mt : List S70) (s : List S27) (p : List S89) (a4 a5 a6 : Int) (r : List Int)
end
end
section
open Go.RowKit Go.Proofs.YtljfljekcpdpiaaGreatW.PrintWords Go.Proofs.YtljfljekcpdpiaaGreatW.PrintLast Go.Proofs.YtljfljekcpdpiaaGreatW.PrintMore
mutual
def lw_Great.j0 : Nat → Bool → List ByteArray → List (S70) → List (S27) → List (S89) → Int → Int → Int → Option (Bool)
 | 0, _, _, _, _, _, _, _, _ => none
 | k + 1, x28, x102q0, x102q1, x102q2, x102q3, x102q4, x102q5, x102q6 => if x28 = true then (some true) else (lw_Great.l0 k 0 0 x102q0 x102q1 x102q2 x102q3 x102q4 x102q5 x102q6)
def lw_Great.l0 : Nat → Int → Int → List ByteArray → List (S70) → List (S27) → List (S89) → Int → Int → Int → Option (Bool)
 | 0, _, _, _, _, _, _, _, _, _ => none
 | k + 1, x3, x4, x102q0, x102q1, x102q2, x102q3, x102q4, x102q5, x102q6 => if x4 < (x102q0.length : Int) then (if 0 ≤ x4 then (lw_Great.l0 k (wrap64 (x3 + ((rdOf ByteArray.empty x102q0 x4).size : Int))) (wrap64 (x4 + 1)) x102q0 x102q1 x102q2 x102q3 x102q4 x102q5 x102q6) else (none)) else (lw_Great.l1 k x3 0 x102q0 x102q1 x102q2 x102q3 x102q4 x102q5 x102q6)
def lw_Great.l1 : Nat → Int → Int → List ByteArray → List (S70) → List (S27) → List (S89) → Int → Int → Int → Option (Bool)
 | 0, _, _, _, _, _, _, _, _, _ => none
 | k + 1, x3, x5, x102q0, x102q1, x102q2, x102q3, x102q4, x102q5, x102q6 => if x5 < (x102q1.length : Int) then (if 0 ≤ x5 then (if (((rd_T70 x102q1 x5).f6).length : Int) > 20 then (some true) else (lw_Great.l1 k (wrap64 (x3 + (((rd_T70 x102q1 x5).f0).size : Int))) (wrap64 (x5 + 1)) x102q0 x102q1 x102q2 x102q3 x102q4 x102q5 x102q6)) else (none)) else (lw_Great.l2 k x3 0 x102q0 x102q1 x102q2 x102q3 x102q4 x102q5 x102q6)
def lw_Great.l2 : Nat → Int → Int → List ByteArray → List (S70) → List (S27) → List (S89) → Int → Int → Int → Option (Bool)
 | 0, _, _, _, _, _, _, _, _, _ => none
 | k + 1, x3, x6, x102q0, x102q1, x102q2, x102q3, x102q4, x102q5, x102q6 => if x6 < (x102q3.length : Int) then (if 0 ≤ x6 then (if (((rd_T89 x102q3 x6).f1).length : Int) > 20 then (some true) else (lw_Great.l2 k (wrap64 (x3 + (((rd_T89 x102q3 x6).f0).size : Int))) (wrap64 (x6 + 1)) x102q0 x102q1 x102q2 x102q3 x102q4 x102q5 x102q6)) else (none)) else (some (decide (x3 > 2000)))
end
def lw_Great.f (k : Nat) (l00 : List ByteArray) (l01 : List (S70)) (l02 : List (S27)) (l03 : List (S89)) (a04 : Int) (a05 : Int) (a06 : Int) : Option (Bool) := if (l00.length : Int) > 20 then (lw_Great.j0 k true l00 l01 l02 l03 a04 a05 a06) else (if (l01.length : Int) > 20 then (lw_Great.j0 k true l00 l01 l02 l03 a04 a05 a06) else (if (l02.length : Int) > 20 then (lw_Great.j0 k true l00 l01 l02 l03 a04 a05 a06) else (lw_Great.j0 k (decide ((l03.length : Int) > 20)) l00 l01 l02 l03 a04 a05 a06)))
theorem lw_Great.calls (k : Nat) (A00 : Option Addr) (c00 : Nat) (l00 : List ByteArray) (A01 : Option Addr) (c01 : Nat) (l01 : List (S70)) (A02 : Option Addr) (c02 : Nat) (l02 : List (S27)) (A03 : Option Addr) (c03 : Nat) (l03 : List (S89)) (a04 : Int) (a05 : Int) (a06 : Int) (r : Bool) (w : World) (hr00 : Kd.C Kd.string w A00 l00.length l00) (hc00 : l00.length ≤ c00) (hr01 : Kd.C k70 w A01 l01.length l01) (hc01 : l01.length ≤ c01) (hr02 : Kd.C k27 w A02 l02.length l02) (hc02 : l02.length ≤ c02) (hr03 : Kd.C k89 w A03 l03.length l03) (hc03 : l03.length ≤ c03) (h : lw_Great.f k l00 l01 l02 l03 a04 a05 a06 = some r) :
  Calls Tryz.prog 10 #[.agg #[.slice A00 l00.length c00, .slice A01 l01.length c01, .slice A02 l02.length c02, .slice A03 l03.length c03, .int .i64 a04, .int .i64 a05, .int .i64 a06]] w fun e w' => e = .returned (.bool r) ∧ Below w.heap.size w w' := by
 have hu29 := Tryz.underlying29; have HR00 := Sd.mk hr00; have HC00 := Sd.mk hc00; clear hr00 hc00; have HR01 := Sd.mk hr01; have HC01 := Sd.mk hc01; clear hr01 hc01; have HR02 := Sd.mk hr02; have HC02 := Sd.mk hc02; clear hr02 hc02; have HR03 := Sd.mk hr03; have HC03 := Sd.mk hc03; clear hr03 hc03; have HB := Sd.mk (Below.refl w.heap.size w)
 have H : (if (l00.length : Int) > 20 then (lw_Great.j0 k true l00 l01 l02 l03 a04 a05 a06) else (if (l01.length : Int) > 20 then (lw_Great.j0 k true l00 l01 l02 l03 a04 a05 a06) else (if (l02.length : Int) > 20 then (lw_Great.j0 k true l00 l01 l02 l03 a04 a05 a06) else (lw_Great.j0 k (decide ((l03.length : Int) > 20)) l00 l01 l02 l03 a04 a05 a06)))) = some r := h
 clear h; have HC2 := Sd.mk H; clear H
 go_enter Tryz.func10, Tryz.ntmps10
 go_upto_region 1 with (first | ((with_reducible refine gate_dst (N := 1) rfl ?_); (try (refine gate_guard (by rfl) ?_; dsimp only)); refine box_event ?hg (N := 1) ?hd (cs := #[.slice A00 l00.length c00, .slice A01 l01.length c01, .slice A02 l02.length c02, .slice A03 l03.length c03, .int .i64 a04, .int .i64 a05, .int .i64 a06]) (t := 29) ?hr ?_; (case hd => rfl); (case hg => rfl); (case hr => exact tG); intro gb101 hg w3 hbox hb; have BK101 := Sd.mk (hbox); have GW101 := Sd.mk (bSz hg (bBl HB.out)); have GE101 := Sd.mk (bSz hg (bBl HB.out)); replace HB := Sd.mk (below_step (bBl HB.out) hb); clear hb hbox hg))
 (try simp only [Act.put, List.setIfInBounds_toArray, List.set_cons_zero, List.set_cons_succ])
 go_cut [28] (fun v28 wc => ∃ (kq : Nat) (x281 : Bool), v28 = .bool x281 ∧ Sd (lw_Great.j0 kq x281 l00 l01 l02 l03 a04 a05 a06 = some r) ∧ Sd (kq ≤ k) ∧ Sd (wc.heap[gb101]? = some (.cells #[(.slice A00 l00.length c00), (.slice A01 l01.length c01), (.slice A02 l02.length c02), (.slice A03 l03.length c03), .int .i64 a04, .int .i64 a05, .int .i64 a06] 29 (0, 0))) ∧ Sd (Below w.heap.size w wc))
 case first =>
  have H := HC2.out; clear HC2
  by_cases c4 : (l00.length : Int) > 20
  ·rw [if_pos c4] at H
   have c4b0 : decide (20 < (l00.length : Int)) = true := decide_eq_true c4
   have c4b1 : decide (20 < l00.length) = true := decide_eq_true (by omega)
   clear c4
   (first | rw [c4b0] | (simp only [i64_w, i32_w]; rw [c4b0]) | skip)
   have H' := Sd.mk H; clear H; obtain ⟨u5_0, u5_1, u5_2, u5_3, u5_4, u5_5, u5_6, o50, o51, o52, o53, o54, o55, o56⟩ := bc7 (w := w3) BK101.out
   go_wp2
   go_meet
   case rel => exact ⟨_, (true), tS, H', ⟨by first | omega | exact Nat.le_refl _⟩, ⟨bkA BK101.out⟩, ⟨bBl HB.out⟩⟩
  ·rw [if_neg c4] at H
   have c4b0 : decide (20 < (l00.length : Int)) = false := decide_eq_false c4
   have c4b1 : decide (20 < l00.length) = false := decide_eq_false (by omega)
   clear c4
   (first | rw [c4b0] | (simp only [i64_w, i32_w]; rw [c4b0]) | skip)
   by_cases c6 : (l01.length : Int) > 20
   ·rw [if_pos c6] at H
    have c6b0 : decide (20 < (l01.length : Int)) = true := decide_eq_true c6
    have c6b1 : decide (20 < l01.length) = true := decide_eq_true (by omega)
    clear c6; have H' := Sd.mk H; clear H; obtain ⟨u7_0, u7_1, u7_2, u7_3, u7_4, u7_5, u7_6, o70, o71, o72, o73, o74, o75, o76⟩ := bc7 (w := w3) BK101.out
    go_wp2
    go_meet
    case rel => exact ⟨_, (true), tS, H', ⟨by first | omega | exact Nat.le_refl _⟩, ⟨bkA BK101.out⟩, ⟨bBl HB.out⟩⟩
   ·rw [if_neg c6] at H
    have c6b0 : decide (20 < (l01.length : Int)) = false := decide_eq_false c6
    have c6b1 : decide (20 < l01.length) = false := decide_eq_false (by omega)
    clear c6
    by_cases c8 : (l02.length : Int) > 20
    ·rw [if_pos c8] at H
     have c8b0 : decide (20 < (l02.length : Int)) = true := decide_eq_true c8
     have c8b1 : decide (20 < l02.length) = true := decide_eq_true (by omega)
     clear c8; have H' := Sd.mk H; clear H; obtain ⟨u9_0, u9_1, u9_2, u9_3, u9_4, u9_5, u9_6, o90, o91, o92, o93, o94, o95, o96⟩ := bc7 (w := w3) BK101.out
     go_wp2
     go_meet
     case rel => exact ⟨_, (true), tS, H', ⟨by first | omega | exact Nat.le_refl _⟩, ⟨bkA BK101.out⟩, ⟨bBl HB.out⟩⟩
    ·rw [if_neg c8] at H
     have c8b0 : decide (20 < (l02.length : Int)) = false := decide_eq_false c8
     have c8b1 : decide (20 < l02.length) = false := decide_eq_false (by omega)
     clear c8; have H' := Sd.mk H; clear H; obtain ⟨u10_0, u10_1, u10_2, u10_3, u10_4, u10_5, u10_6, o100, o101, o102, o103, o104, o105, o106⟩ := bc7 (w := w3) BK101.out
     go_wp2
     go_meet
     case rel => exact ⟨_, (decide ((l03.length : Int) > 20)), tS, H', ⟨by first | omega | exact Nat.le_refl _⟩, ⟨bkA BK101.out⟩, ⟨bBl HB.out⟩⟩
 case rest =>
  clear HC2; (try clear c1); (try clear p2); (try clear c4); (try clear c4b0); (try clear c4b1); (try clear c6); (try clear c6b0); (try clear c6b1); (try clear c8); (try clear c8b0); (try clear c8b1); (try clear c10); (try clear u10_0 u10_1 u10_2 u10_3 u10_4 u10_5 u10_6); (try clear u5_0 u5_1 u5_2 u5_3 u5_4 u5_5 u5_6); (try clear u7_0 u7_1 u7_2 u7_3 u7_4 u7_5 u7_6); (try clear u9_0 u9_1 u9_2 u9_3 u9_4 u9_5 u9_6); (try clear o100 o101 o102 o103 o104 o105 o106); (try clear o50 o51 o52 o53 o54 o55 o56); (try clear o70 o71 o72 o73 o74 o75 o76); (try clear o90 o91 o92 o93 o94 o95 o96); obtain ⟨kq, x281, rfl, HA, HJ1, BK101, HB⟩ := hcut
  cases kq with
  | zero => exact absurd HA.out (by simp [lw_Great.j0])
  | succ kj1 =>
   have H := HA.out; clear HA
   simp only [lw_Great.j0] at H
   by_cases c11 : x281 = true
   ·subst c11
    have H1 : (some true) = some r := by rw [if_pos rfl] at H; exact H
    clear H; have H := H1; clear H1; obtain rfl := Option.some.inj H
    go_wp2
    go_ret
    exact ⟨tE, bBl HB.out⟩
   ·replace c11 := Bool.eq_false_iff.mpr c11
    subst c11
    have H1 : (lw_Great.l0 kj1 0 0 l00 l01 l02 l03 a04 a05 a06) = some r := by rw [if_neg (show ¬ (false = true) by decide)] at H; exact H
    clear H; have H := H1; clear H1; have H' := Sd.mk H; clear H
    go_wp2
    go_loopg [3, 4] kj1 (fun kq v3 v4 w' => ∃ (x32 : Int) (x42 : Int), v3 = .int .i64 x32 ∧ v4 = .int .i64 x42 ∧ Sd (lw_Great.l0 kq x32 x42 l00 l01 l02 l03 a04 a05 a06 = some r) ∧ Sd (kq ≤ kj1) ∧ Sd (w'.heap[gb101]? = some (.cells #[(.slice A00 l00.length c00), (.slice A01 l01.length c01), (.slice A02 l02.length c02), (.slice A03 l03.length c03), .int .i64 a04, .int .i64 a05, .int .i64 a06] 29 (0, 0))) ∧ Sd (Below w.heap.size w w'))
    case atStart => exact ⟨(0), (0), tS, tS, H', ⟨Nat.le_refl _⟩, ⟨bkA BK101.out⟩, ⟨bBl HB.out⟩⟩
    case round =>
     clear H'; (try clear c1); (try clear p2 p2); (try clear c4); (try clear c4b0); (try clear c4b1); (try clear c6); (try clear c6b0); (try clear c6b1); (try clear c8); (try clear c8b0); (try clear c8b1); (try clear c10); (try clear c11); (try clear u10_0 u10_1 u10_2 u10_3 u10_4 u10_5 u10_6); (try clear u5_0 u5_1 u5_2 u5_3 u5_4 u5_5 u5_6); (try clear u7_0 u7_1 u7_2 u7_3 u7_4 u7_5 u7_6); (try clear u9_0 u9_1 u9_2 u9_3 u9_4 u9_5 u9_6); (try clear o100 o101 o102 o103 o104 o105 o106); (try clear o50 o51 o52 o53 o54 o55 o56); (try clear o70 o71 o72 o73 o74 o75 o76); (try clear o90 o91 o92 o93 o94 o95 o96); obtain ⟨x32, x42, rfl, rfl, HA, HK2, BK101, HB⟩ := hrel
     cases gk with
     | zero => exact absurd HA.out (by simp [lw_Great.l0])
     | succ k2 =>
      have H := HA.out; clear HA
      simp only [lw_Great.l0] at H
      by_cases c12 : x42 < (l00.length : Int)
      ·rw [if_pos c12] at H
       have c12b0 : decide (x42 < (l00.length : Int)) = true := decide_eq_true c12
       clear c12
       by_cases c13 : 0 ≤ x42
       ·rw [if_pos c13] at H
        have c13b0 : decide (0 ≤ x42) = true := decide_eq_true c13
        clear c13; have H' := Sd.mk H; clear H; obtain ⟨u14_0, u14_1, u14_2, u14_3, u14_4, u14_5, u14_6, o140, o141, o142, o143, o144, o145, o146⟩ := bc7 (w := wr) BK101.out
        have p102 : 0 ≤ (x42 : Int) := tB
        have q102 : x42 < (l00.length : Int) := tB
        obtain ⟨ad102, e102, hx1020⟩ := Kd.at_string HR00.out x42 p102 q102; cases e102; replace hx1020 := cU HB hx1020; replace p102 := eq_true p102; replace q102 := eq_true q102
        go_wp2
        go_roundg k2
        case measure => have := HJ1.out; have := HK2.out; omega
        case rel => exact ⟨(wrap64 (x32 + ((rdOf ByteArray.empty l00 x42).size : Int))), (wrap64 (x42 + 1)), tS, tS, H', ⟨by have := HJ1.out; have := HK2.out; omega⟩, ⟨bkA BK101.out⟩, ⟨bBl HB.out⟩⟩
       ·rw [if_neg c13] at H
        exact absurd H (by simp)
      ·rw [if_neg c12] at H
       have c12b0 : decide (x42 < (l00.length : Int)) = false := decide_eq_false c12
       clear c12; have H' := Sd.mk H; clear H; obtain ⟨u15_0, u15_1, u15_2, u15_3, u15_4, u15_5, u15_6, o150, o151, o152, o153, o154, o155, o156⟩ := bc7 (w := wr) BK101.out
       go_wp2
       go_loopg [3, 5] k2 (fun kq v3 v5 w' => ∃ (x33 : Int) (x53 : Int), v3 = .int .i64 x33 ∧ v5 = .int .i64 x53 ∧ Sd (lw_Great.l1 kq x33 x53 l00 l01 l02 l03 a04 a05 a06 = some r) ∧ Sd (kq ≤ k2) ∧ Sd (w'.heap[gb101]? = some (.cells #[(.slice A00 l00.length c00), (.slice A01 l01.length c01), (.slice A02 l02.length c02), (.slice A03 l03.length c03), .int .i64 a04, .int .i64 a05, .int .i64 a06] 29 (0, 0))) ∧ Sd (Below w.heap.size w w'))
       case atStart => exact ⟨(x32), (0), tS, tS, H', ⟨Nat.le_refl _⟩, ⟨bkA BK101.out⟩, ⟨bBl HB.out⟩⟩
       case round =>
        clear H'; (try clear c1); (try clear p1); (try clear q1); (try clear hx1); (try clear p2 p2); (try clear c4); (try clear c4b0); (try clear c4b1); (try clear c6); (try clear c6b0); (try clear c6b1); (try clear p6); (try clear c8); (try clear c8b0); (try clear c8b1); (try clear c10); (try clear p10); (try clear q10); (try clear hx10); (try clear c11); (try clear c12); (try clear c12b0); (try clear c13); (try clear c13b0); (try clear u10_0 u10_1 u10_2 u10_3 u10_4 u10_5 u10_6); (try clear u14_0 u14_1 u14_2 u14_3 u14_4 u14_5 u14_6); (try clear u15_0 u15_1 u15_2 u15_3 u15_4 u15_5 u15_6); (try clear u5_0 u5_1 u5_2 u5_3 u5_4 u5_5 u5_6); (try clear u7_0 u7_1 u7_2 u7_3 u7_4 u7_5 u7_6); (try clear u9_0 u9_1 u9_2 u9_3 u9_4 u9_5 u9_6); (try clear o100 o101 o102 o103 o104 o105 o106); (try clear o140 o141 o142 o143 o144 o145 o146); (try clear o150 o151 o152 o153 o154 o155 o156); (try clear o50 o51 o52 o53 o54 o55 o56); (try clear o70 o71 o72 o73 o74 o75 o76); (try clear o90 o91 o92 o93 o94 o95 o96); (try clear hx1020); (try clear p102); (try clear q102); obtain ⟨x33, x53, rfl, rfl, HA, HK3, BK101, HB⟩ := hrel
        cases gk with
        | zero => exact absurd HA.out (by simp [lw_Great.l1])
        | succ k3 =>
         have H := HA.out; clear HA
         simp only [lw_Great.l1] at H
         by_cases c16 : x53 < (l01.length : Int)
         ·rw [if_pos c16] at H
          have c16b0 : decide (x53 < (l01.length : Int)) = true := decide_eq_true c16
          clear c16
          by_cases c17 : 0 ≤ x53
          ·rw [if_pos c17] at H
           have c17b0 : decide (0 ≤ x53) = true := decide_eq_true c17
           clear c17
           by_cases c18 : (((rd_T70 l01 x53).f6).length : Int) > 20
           ·rw [if_pos c18] at H
            have c18b0 : decide (20 < (((rd_T70 l01 x53).f6).length : Int)) = true := decide_eq_true c18
            have c18b1 : decide (20 < ((rd_T70 l01 x53).f6).length) = true := decide_eq_true (by omega)
            clear c18; obtain rfl := Option.some.inj H; obtain ⟨u19_0, u19_1, u19_2, u19_3, u19_4, u19_5, u19_6, o190, o191, o192, o193, o194, o195, o196⟩ := bc7 (w := wr) BK101.out
            have p103 : 0 ≤ (x53 : Int) := tB
            have q103 : x53 < (l01.length : Int) := tB
            obtain ⟨ad103, A1036, c1036, e103, hx1030, hx1031, hx1032, hx1033, hx1034, hx1035, hx1036, hl1036, hi1036⟩ := at_T70 HR01.out x53 p103 q103; cases e103; replace hx1030 := cU HB hx1030; replace hx1031 := cU HB hx1031; replace hx1032 := cU HB hx1032; replace hx1033 := cU HB hx1033; replace hx1034 := cU HB hx1034; replace hx1035 := cU HB hx1035; replace hx1036 := cU HB hx1036; have HR1036 := Sd.mk hi1036; have HC1036 := Sd.mk hl1036; clear hi1036 hl1036; replace p103 := eq_true p103; replace q103 := eq_true q103
            have p104 : 0 ≤ (x53 : Int) := tB
            have q104 : x53 < (l01.length : Int) := tB
            obtain ⟨ad104, A1046, c1046, e104, hx1040, hx1041, hx1042, hx1043, hx1044, hx1045, hx1046, hl1046, hi1046⟩ := at_T70 HR01.out x53 p104 q104
            obtain rfl : ad103 = ad104 := (by injection e104)
            replace hx1040 := cU HB hx1040; replace hx1041 := cU HB hx1041; replace hx1042 := cU HB hx1042; replace hx1043 := cU HB hx1043; replace hx1044 := cU HB hx1044; replace hx1045 := cU HB hx1045; replace hx1046 := cU HB hx1046; have HR1046 := Sd.mk hi1046; have HC1046 := Sd.mk hl1046; clear hi1046 hl1046; replace p104 := eq_true p104; replace q104 := eq_true q104; have ea_ := Option.some.inj (hx1036.symm.trans hx1046)
            injection ea_ with ea_ en_ ec_
            subst ea_; subst ec_; clear en_
            go_wp2
            go_ret
            exact ⟨tE, bBl HB.out⟩
           ·rw [if_neg c18] at H
            have c18b0 : decide (20 < (((rd_T70 l01 x53).f6).length : Int)) = false := decide_eq_false c18
            have c18b1 : decide (20 < ((rd_T70 l01 x53).f6).length) = false := decide_eq_false (by omega)
            clear c18; have H' := Sd.mk H; clear H; obtain ⟨u20_0, u20_1, u20_2, u20_3, u20_4, u20_5, u20_6, o200, o201, o202, o203, o204, o205, o206⟩ := bc7 (w := wr) BK101.out
            have p103 : 0 ≤ (x53 : Int) := tB
            have q103 : x53 < (l01.length : Int) := tB
            obtain ⟨ad103, A1036, c1036, e103, hx1030, hx1031, hx1032, hx1033, hx1034, hx1035, hx1036, hl1036, hi1036⟩ := at_T70 HR01.out x53 p103 q103; cases e103; replace hx1030 := cU HB hx1030; replace hx1031 := cU HB hx1031; replace hx1032 := cU HB hx1032; replace hx1033 := cU HB hx1033; replace hx1034 := cU HB hx1034; replace hx1035 := cU HB hx1035; replace hx1036 := cU HB hx1036; have HR1036 := Sd.mk hi1036; have HC1036 := Sd.mk hl1036; clear hi1036 hl1036; replace p103 := eq_true p103; replace q103 := eq_true q103
            have p104 : 0 ≤ (x53 : Int) := tB
            have q104 : x53 < (l01.length : Int) := tB
            obtain ⟨ad104, A1046, c1046, e104, hx1040, hx1041, hx1042, hx1043, hx1044, hx1045, hx1046, hl1046, hi1046⟩ := at_T70 HR01.out x53 p104 q104
            obtain rfl : ad103 = ad104 := (by injection e104)
            replace hx1040 := cU HB hx1040; replace hx1041 := cU HB hx1041; replace hx1042 := cU HB hx1042; replace hx1043 := cU HB hx1043; replace hx1044 := cU HB hx1044; replace hx1045 := cU HB hx1045; replace hx1046 := cU HB hx1046; have HR1046 := Sd.mk hi1046; have HC1046 := Sd.mk hl1046; clear hi1046 hl1046; replace p104 := eq_true p104; replace q104 := eq_true q104; have ea_ := Option.some.inj (hx1036.symm.trans hx1046)
            injection ea_ with ea_ en_ ec_
            subst ea_; subst ec_; clear en_
            go_wp2
            go_roundg k3
            case measure => have := HJ1.out; have := HK2.out; have := HK3.out; omega
            case rel => exact ⟨(wrap64 (x33 + (((rd_T70 l01 x53).f0).size : Int))), (wrap64 (x53 + 1)), tS, tS, H', ⟨by have := HJ1.out; have := HK2.out; have := HK3.out; omega⟩, ⟨bkA BK101.out⟩, ⟨bBl HB.out⟩⟩
          ·rw [if_neg c17] at H
           exact absurd H (by simp)
         ·rw [if_neg c16] at H
          have c16b0 : decide (x53 < (l01.length : Int)) = false := decide_eq_false c16
          clear c16; have H' := Sd.mk H; clear H; obtain ⟨u21_0, u21_1, u21_2, u21_3, u21_4, u21_5, u21_6, o210, o211, o212, o213, o214, o215, o216⟩ := bc7 (w := wr) BK101.out
          go_wp2
          go_loopg [3, 6] k3 (fun kq v3 v6 w' => ∃ (x34 : Int) (x64 : Int), v3 = .int .i64 x34 ∧ v6 = .int .i64 x64 ∧ Sd (lw_Great.l2 kq x34 x64 l00 l01 l02 l03 a04 a05 a06 = some r) ∧ Sd (kq ≤ k3) ∧ Sd (w'.heap[gb101]? = some (.cells #[(.slice A00 l00.length c00), (.slice A01 l01.length c01), (.slice A02 l02.length c02), (.slice A03 l03.length c03), .int .i64 a04, .int .i64 a05, .int .i64 a06] 29 (0, 0))) ∧ Sd (Below w.heap.size w w'))
          case atStart => exact ⟨(x33), (0), tS, tS, H', ⟨Nat.le_refl _⟩, ⟨bkA BK101.out⟩, ⟨bBl HB.out⟩⟩
          case round =>
           clear H'; (try clear c1); (try clear p1 p1); (try clear q1 q1); (try clear hx1); (try clear p2 p2); (try clear c4); (try clear c4b0); (try clear c4b1); (try clear c6); (try clear c6b0); (try clear c6b1); (try clear p6 p6); (try clear c8); (try clear c8b0); (try clear c8b1); (try clear c10); (try clear p10 p10); (try clear q10 q10); (try clear hx10); (try clear c11); (try clear c12); (try clear c12b0); (try clear c13); (try clear c13b0); (try clear c16); (try clear c16b0); (try clear c17); (try clear c17b0); (try clear c18); (try clear c18b0); (try clear c18b1); (try clear u10_0 u10_1 u10_2 u10_3 u10_4 u10_5 u10_6); (try clear u14_0 u14_1 u14_2 u14_3 u14_4 u14_5 u14_6); (try clear u15_0 u15_1 u15_2 u15_3 u15_4 u15_5 u15_6); (try clear u19_0 u19_1 u19_2 u19_3 u19_4 u19_5 u19_6); (try clear u20_0 u20_1 u20_2 u20_3 u20_4 u20_5 u20_6); (try clear u21_0 u21_1 u21_2 u21_3 u21_4 u21_5 u21_6); (try clear u5_0 u5_1 u5_2 u5_3 u5_4 u5_5 u5_6); (try clear u7_0 u7_1 u7_2 u7_3 u7_4 u7_5 u7_6); (try clear u9_0 u9_1 u9_2 u9_3 u9_4 u9_5 u9_6); (try clear o100 o101 o102 o103 o104 o105 o106); (try clear o140 o141 o142 o143 o144 o145 o146); (try clear o150 o151 o152 o153 o154 o155 o156); (try clear o190 o191 o192 o193 o194 o195 o196); (try clear o200 o201 o202 o203 o204 o205 o206); (try clear o210 o211 o212 o213 o214 o215 o216); (try clear o50 o51 o52 o53 o54 o55 o56); (try clear o70 o71 o72 o73 o74 o75 o76); (try clear o90 o91 o92 o93 o94 o95 o96); (try clear hx1020); (try clear hx1030); (try clear hx1031); (try clear hx1032); (try clear hx1033); (try clear hx1034); (try clear hx1035); (try clear hx1036); (try clear hx1040); (try clear hx1041); (try clear hx1042); (try clear hx1043); (try clear hx1044); (try clear hx1045); (try clear hx1046); (try clear p102); (try clear p103); (try clear p104); (try clear q102); (try clear q103); (try clear q104); obtain ⟨x34, x64, rfl, rfl, HA, HK4, BK101, HB⟩ := hrel
           cases gk with
           | zero => exact absurd HA.out (by simp [lw_Great.l2])
           | succ k4 =>
            have H := HA.out; clear HA
            simp only [lw_Great.l2] at H
            by_cases c22 : x64 < (l03.length : Int)
            ·rw [if_pos c22] at H
             have c22b0 : decide (x64 < (l03.length : Int)) = true := decide_eq_true c22
             clear c22
             by_cases c23 : 0 ≤ x64
             ·rw [if_pos c23] at H
              have c23b0 : decide (0 ≤ x64) = true := decide_eq_true c23
              clear c23
              by_cases c24 : (((rd_T89 l03 x64).f1).length : Int) > 20
              ·rw [if_pos c24] at H
               have c24b0 : decide (20 < (((rd_T89 l03 x64).f1).length : Int)) = true := decide_eq_true c24
               have c24b1 : decide (20 < ((rd_T89 l03 x64).f1).length) = true := decide_eq_true (by omega)
               clear c24; obtain rfl := Option.some.inj H; obtain ⟨u25_0, u25_1, u25_2, u25_3, u25_4, u25_5, u25_6, o250, o251, o252, o253, o254, o255, o256⟩ := bc7 (w := wr) BK101.out
               have p105 : 0 ≤ (x64 : Int) := tB
               have q105 : x64 < (l03.length : Int) := tB
               obtain ⟨ad105, A1051, c1051, e105, hx1050, hx1051, hx1052, hx1053, hl1051, hi1051⟩ := at_T89 HR03.out x64 p105 q105; cases e105; replace hx1050 := cU HB hx1050; replace hx1051 := cU HB hx1051; replace hx1052 := cU HB hx1052; replace hx1053 := cU HB hx1053; have HR1051 := Sd.mk hi1051; have HC1051 := Sd.mk hl1051; clear hi1051 hl1051; replace p105 := eq_true p105; replace q105 := eq_true q105
               have p106 : 0 ≤ (x64 : Int) := tB
               have q106 : x64 < (l03.length : Int) := tB
               obtain ⟨ad106, A1061, c1061, e106, hx1060, hx1061, hx1062, hx1063, hl1061, hi1061⟩ := at_T89 HR03.out x64 p106 q106
               obtain rfl : ad105 = ad106 := (by injection e106)
               replace hx1060 := cU HB hx1060; replace hx1061 := cU HB hx1061; replace hx1062 := cU HB hx1062; replace hx1063 := cU HB hx1063; have HR1061 := Sd.mk hi1061; have HC1061 := Sd.mk hl1061; clear hi1061 hl1061; replace p106 := eq_true p106; replace q106 := eq_true q106; have ea_ := Option.some.inj (hx1051.symm.trans hx1061)
               injection ea_ with ea_ en_ ec_
               subst ea_; subst ec_; clear en_
               go_wp2
               go_ret
               exact ⟨tE, bBl HB.out⟩
              ·rw [if_neg c24] at H
               have c24b0 : decide (20 < (((rd_T89 l03 x64).f1).length : Int)) = false := decide_eq_false c24
               have c24b1 : decide (20 < ((rd_T89 l03 x64).f1).length) = false := decide_eq_false (by omega)
               clear c24; have H' := Sd.mk H; clear H; obtain ⟨u26_0, u26_1, u26_2, u26_3, u26_4, u26_5, u26_6, o260, o261, o262, o263, o264, o265, o266⟩ := bc7 (w := wr) BK101.out
               have p105 : 0 ≤ (x64 : Int) := tB
               have q105 : x64 < (l03.length : Int) := tB
               obtain ⟨ad105, A1051, c1051, e105, hx1050, hx1051, hx1052, hx1053, hl1051, hi1051⟩ := at_T89 HR03.out x64 p105 q105; cases e105; replace hx1050 := cU HB hx1050; replace hx1051 := cU HB hx1051; replace hx1052 := cU HB hx1052; replace hx1053 := cU HB hx1053; have HR1051 := Sd.mk hi1051; have HC1051 := Sd.mk hl1051; clear hi1051 hl1051; replace p105 := eq_true p105; replace q105 := eq_true q105
               have p106 : 0 ≤ (x64 : Int) := tB
               have q106 : x64 < (l03.length : Int) := tB
               obtain ⟨ad106, A1061, c1061, e106, hx1060, hx1061, hx1062, hx1063, hl1061, hi1061⟩ := at_T89 HR03.out x64 p106 q106
               obtain rfl : ad105 = ad106 := (by injection e106)
               replace hx1060 := cU HB hx1060; replace hx1061 := cU HB hx1061; replace hx1062 := cU HB hx1062; replace hx1063 := cU HB hx1063; have HR1061 := Sd.mk hi1061; have HC1061 := Sd.mk hl1061; clear hi1061 hl1061; replace p106 := eq_true p106; replace q106 := eq_true q106; have ea_ := Option.some.inj (hx1051.symm.trans hx1061)
               injection ea_ with ea_ en_ ec_
               subst ea_; subst ec_; clear en_
               go_wp2
               go_roundg k4
               case measure => have := HJ1.out; have := HK2.out; have := HK3.out; have := HK4.out; omega
               case rel => exact ⟨(wrap64 (x34 + (((rd_T89 l03 x64).f0).size : Int))), (wrap64 (x64 + 1)), tS, tS, H', ⟨by have := HJ1.out; have := HK2.out; have := HK3.out; have := HK4.out; omega⟩, ⟨bkA BK101.out⟩, ⟨bBl HB.out⟩⟩
             ·rw [if_neg c23] at H
              exact absurd H (by simp)
            ·rw [if_neg c22] at H
             have c22b0 : decide (x64 < (l03.length : Int)) = false := decide_eq_false c22
             clear c22; obtain rfl := Option.some.inj H; obtain ⟨u27_0, u27_1, u27_2, u27_3, u27_4, u27_5, u27_6, o270, o271, o272, o273, o274, o275, o276⟩ := bc7 (w := wr) BK101.out
             go_wp2
             go_ret
             exact ⟨tE, bBl HB.out⟩
end
section
open Go.RowKit Go.Proofs.YtljfljekcpdpiaaGreatW.PrintWords Go.Proofs.YtljfljekcpdpiaaGreatW.PrintLast Go.Proofs.YtljfljekcpdpiaaGreatW.PrintMore
theorem eqA27 (d : Nat) (w : World) (x0 y0 : Int) (x1 y1 : Int) :
  (Op.equalIn (d + 2) 27 (.agg #[.int .i64 x0, .int .i64 x1]) (.agg #[.int .i64 y0, .int .i64 y1])).run Tryz.prog w = .ok (x0 == y0 && (x1 == y1)) w := by
 refine eqA_of Tryz.underlying27 (by kernel_rfl) ?_
 refine eqf_cons (by rfl) (by go_simp; rfl) (by go_simp; rfl) (by go_simp) ?_
 exact eqf_last (by rfl) (by go_simp; rfl) (by go_simp; rfl) (by go_simp)
end
section
open Go.RowKit Go.Proofs.YtljfljekcpdpiaaGreatW.PrintWords Go.Proofs.YtljfljekcpdpiaaGreatW.PrintLast Go.Proofs.YtljfljekcpdpiaaGreatW.PrintMore
attribute [local go_sem high] eqA27
def lw_SameSpans.l0 : Nat → List (S27) → List (S27) → Int → Option (Bool)
 | 0, _, _, _ => none
 | k + 1, x0, x1, x5 => if x5 < (x0.length : Int) then (if 0 ≤ x5 then (if x5 < (x1.length : Int) then (if (!(((rd_T27 x0 x5).f0) == ((rd_T27 x1 x5).f0)) || (!(((rd_T27 x0 x5).f1) == ((rd_T27 x1 x5).f1)))) = true then (some false) else (lw_SameSpans.l0 k x0 x1 (wrap64 (x5 + 1)))) else (none)) else (none)) else (some true)
def lw_SameSpans.f (k : Nat) (l0 : List (S27)) (l1 : List (S27)) : Option (Bool) := if (l0.length : Int) = (l1.length : Int) then (lw_SameSpans.l0 k l0 l1 0) else (some false)
theorem lw_SameSpans.mono_l : ∀ k, (∀ y0 y1 y2, LeO (lw_SameSpans.l0 k y0 y1 y2) (lw_SameSpans.l0 (k + 1) y0 y1 y2))
 | 0 => fun _ _ _ r h => by simp [lw_SameSpans.l0] at h
 | k + 1 => by
  have ih0 := lw_SameSpans.mono_l k
  ·intro y0 y1 y2
   unfold lw_SameSpans.l0
   repeat' first
   | (with_reducible exact ih0 _ _ _)
   | (with_reducible exact LeO.refl _)
   | (with_reducible exact LeO.none _)
   | (with_reducible refine LeO.ite ?_ ?_)
   | (with_reducible refine LeO.bind ?_ (fun _ => ?_))
   | exact LeO.none _
   | refine LeO.ite ?_ ?_
   | refine LeO.bind ?_ (fun _ => ?_)
theorem lw_SameSpans.mono : ∀ a0 a1 k, LeO (lw_SameSpans.f k a0 a1) (lw_SameSpans.f (k + 1) a0 a1) := by
 intro a0 a1 k
 have ih0 := lw_SameSpans.mono_l k
 unfold lw_SameSpans.f
 repeat' first
   | (with_reducible exact ih0 _ _ _)
   | (with_reducible exact LeO.refl _)
   | (with_reducible exact LeO.none _)
   | (with_reducible refine LeO.ite ?_ ?_)
   | (with_reducible refine LeO.bind ?_ (fun _ => ?_))
   | exact LeO.none _
   | refine LeO.ite ?_ ?_
   | refine LeO.bind ?_ (fun _ => ?_)
theorem lw_SameSpans.calls (k : Nat) (A0 : Option Addr) (c0 : Nat) (l0 : List (S27)) (A1 : Option Addr) (c1 : Nat) (l1 : List (S27)) (r : Bool) (w : World) (hr0 : Kd.C k27 w A0 l0.length l0) (hc0 : l0.length ≤ c0) (hr1 : Kd.C k27 w A1 l1.length l1) (hc1 : l1.length ≤ c1) (h : lw_SameSpans.f k l0 l1 = some r) :
  Calls Tryz.prog 49 #[.slice A0 l0.length c0, .slice A1 l1.length c1] w fun e w' => e = .returned (.bool r) ∧ Drawn0 w w' := by
 have hu27 := Tryz.underlying27; have HR0 := Sd.mk hr0; have HC0 := Sd.mk hc0; clear hr0 hc0; have HR1 := Sd.mk hr1; have HC1 := Sd.mk hc1; clear hr1 hc1
 have H : (if (l0.length : Int) = (l1.length : Int) then (lw_SameSpans.l0 k l0 l1 0) else (some false)) = some r := h
 clear h
 by_cases c3 : (l0.length : Int) = (l1.length : Int)
 ·rw [if_pos c3] at H
  have c3b0 : ((l0.length : Int) == (l1.length : Int)) = true := beq_iff_eq.mpr c3
  have c3b1 : ((l0.length : Int) != (l1.length : Int)) = false := bne_eq_false_iff_eq.mpr c3
  have c3b2 : (l0.length == l1.length) = true := by first | simpa using c3 | (simp at c3 ⊢; omega)
  clear c3; have H' := Sd.mk H; clear H
  go_enter Tryz.func49, Tryz.ntmps49
  go_wp2
  repeat (go_quiet (fail); try go_wp2)
  go_loopg [5] k (fun kq v5 w' => ∃ (x51 : Int), v5 = .int .i64 x51 ∧ Sd (lw_SameSpans.l0 kq l0 l1 x51 = some r) ∧ Sd (kq ≤ k) ∧ Drawn0 w w')
  case atStart => exact ⟨(0), tS, H', ⟨Nat.le_refl _⟩, by repeat (first | exact Drawn0.refl _ | apply Drawn0.step)⟩
  case round =>
   clear H'; (try clear c1); (try clear p2); (try clear c3); (try clear c3b0); (try clear c3b1); (try clear c3b2)
   obtain ⟨x51, rfl, HA, HK1, ⟨m1, rfl⟩⟩ := hrel
   cases gk with
   | zero => exact absurd HA.out (by simp [lw_SameSpans.l0])
   | succ k1 =>
    have H := HA.out; clear HA
    simp only [lw_SameSpans.l0] at H
    by_cases c4 : x51 < (l0.length : Int)
    ·rw [if_pos c4] at H
     have c4b0 : decide (x51 < (l0.length : Int)) = true := decide_eq_true c4
     clear c4
     by_cases c5 : 0 ≤ x51
     ·rw [if_pos c5] at H
      have c5b0 : decide (0 ≤ x51) = true := decide_eq_true c5
      clear c5
      by_cases c6 : x51 < (l1.length : Int)
      ·rw [if_pos c6] at H
       have c6b0 : decide (x51 < (l1.length : Int)) = true := decide_eq_true c6
       clear c6
       by_cases c7 : (!(((rd_T27 l0 x51).f0) == ((rd_T27 l1 x51).f0)) || (!(((rd_T27 l0 x51).f1) == ((rd_T27 l1 x51).f1)))) = true
       ·rw [if_pos c7] at H
        have c7b0 : (!(((rd_T27 l0 x51).f0) == ((rd_T27 l1 x51).f0)) || (!(((rd_T27 l0 x51).f1) == ((rd_T27 l1 x51).f1)))) = true := c7
        clear c7; obtain rfl := Option.some.inj H
        have p192 : 0 ≤ (x51 : Int) := tB
        have q192 : x51 < (l0.length : Int) := tB
        obtain ⟨ad192, e192, hx1920, hx1921⟩ := at_T27 HR0.out x51 p192 q192; cases e192; replace p192 := eq_true p192; replace q192 := eq_true q192
        have p193 : 0 ≤ (x51 : Int) := tB
        have q193 : x51 < (l1.length : Int) := tB
        obtain ⟨ad193, e193, hx1930, hx1931⟩ := at_T27 HR1.out x51 p193 q193; cases e193; replace p193 := eq_true p193; replace q193 := eq_true q193
        go_wp2
        repeat (go_quiet (fail); try go_wp2)
        go_ret
        exact ⟨by first | rfl | (simp; done) | (simp [*]; done), by repeat (first | exact Drawn0.refl _ | apply Drawn0.step)⟩
       ·rw [if_neg c7] at H
        have c7b0 : (!(((rd_T27 l0 x51).f0) == ((rd_T27 l1 x51).f0)) || (!(((rd_T27 l0 x51).f1) == ((rd_T27 l1 x51).f1)))) = false := by simpa using c7
        clear c7; have H' := Sd.mk H; clear H
        have p192 : 0 ≤ (x51 : Int) := tB
        have q192 : x51 < (l0.length : Int) := tB
        obtain ⟨ad192, e192, hx1920, hx1921⟩ := at_T27 HR0.out x51 p192 q192; cases e192; replace p192 := eq_true p192; replace q192 := eq_true q192
        have p193 : 0 ≤ (x51 : Int) := tB
        have q193 : x51 < (l1.length : Int) := tB
        obtain ⟨ad193, e193, hx1930, hx1931⟩ := at_T27 HR1.out x51 p193 q193; cases e193; replace p193 := eq_true p193; replace q193 := eq_true q193
        go_wp2
        repeat (go_quiet (fail); try go_wp2)
        go_roundg k1
        case measure => have := HK1.out; omega
        case rel => exact ⟨(wrap64 (x51 + 1)), tS, H', ⟨by have := HK1.out; omega⟩, by repeat (first | exact Drawn0.refl _ | apply Drawn0.step)⟩
      ·rw [if_neg c6] at H
       exact absurd H (by simp)
     ·rw [if_neg c5] at H
      exact absurd H (by simp)
    ·rw [if_neg c4] at H
     have c4b0 : decide (x51 < (l0.length : Int)) = false := decide_eq_false c4
     clear c4; obtain rfl := Option.some.inj H
     go_wp2
     repeat (go_quiet (fail); try go_wp2)
     go_ret
     exact ⟨by first | rfl | (simp; done) | (simp [*]; done), by repeat (first | exact Drawn0.refl _ | apply Drawn0.step)⟩
 ·rw [if_neg c3] at H
  have c3b0 : ((l0.length : Int) == (l1.length : Int)) = false := beq_eq_false_iff_ne.mpr c3
  have c3b1 : ((l0.length : Int) != (l1.length : Int)) = true := bne_iff_ne.mpr c3
  have c3b2 : (l0.length == l1.length) = false := by first | simpa using c3 | (simp at c3 ⊢; omega)
  obtain rfl := Option.some.inj H
  go_enter Tryz.func49, Tryz.ntmps49
  go_wp2
  repeat (go_quiet (fail); try go_wp2)
  go_ret
  exact ⟨by first | rfl | (simp; done) | (simp [*]; done), by repeat (first | exact Drawn0.refl _ | apply Drawn0.step)⟩
end
end Go.Proofs.YtljfljekcpdpiaaGreat.PB
