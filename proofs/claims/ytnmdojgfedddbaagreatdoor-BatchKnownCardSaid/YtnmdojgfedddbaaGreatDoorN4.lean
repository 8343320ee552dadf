import Derived.Test.YtnmdojgfedddbaaGreatDoorN3
import Derived.Shelf.Abstract
import Derived.Deep.Slices
import Derived.KernelRfl
import Derived.Laws.EntriesVeiled
import Derived.Deep.RegionWith
import Derived.Deep.DeepCutAuto
import Derived.Defers
import Derived.Recover
import Derived.WalkLawsBesides
import Derived.Shelf.Strings.Split
import Derived.Shelf.Strconv.AtoiAll
import Derived.Shelf.Strconv.Itoa3
import Derived.Shelf.LaysM
import Derived.Shelf.LaysC
import Derived.Shelf.SlicesG.Clone
import Derived.WalkKit
import Derived.Shelf.RegionOpen
import Derived.MapKept
import Derived.RangeFuncRecord
set_option linter.unusedVariables false
set_option linter.unusedSimpArgs false
set_option maxHeartbeats 8000000
set_option maxRecDepth 1000000
namespace Go.Proofs.YtnmdojgfedddbaaGreatDoor.PB
open Go.RowKit Go.Proofs.YtnmdojgfedddbaaGreatDoorW.PrintWords Go.Proofs.YtnmdojgfedddbaaGreatDoorW.PrintLast Go.Proofs.YtnmdojgfedddbaaGreatDoorW.PrintMore
section
attribute [local go_sem] max2_int min2_int max_two min_two
def tgOf (s : List S27) (p : List S77) (j : Nat) : S27 := if j < s.length then rd_T27 s (j : Int) else (rd_T77 p ((j - s.length : Nat) : Int)).f2
def upF (s : List S27) (p : List S77) (j : Nat) (x : S50) : Int := gTS (fun k => coefOf s p j k - (tgOf s p j).f1) x.f6 x.f6.length
def dnF (s : List S27) (p : List S77) (j : Nat) (x : S50) : Int := gTS (fun k => (tgOf s p j).f0 - coefOf s p j k) x.f6 x.f6.length
def pairL (mt : List S50) (s : List S27) (p : List S77) (j : Nat) : List S40 := [⟨mt.map (upF s p j), 0⟩, ⟨mt.map (dnF s p j), 0⟩]
def headL (mt : List S50) (s : List S27) (p : List S77) (a6 : Int) : Nat → List S40
  | 0 => [⟨mt.map (fun x => -lowM x), -1000 * a6⟩]
  | n + 1 => headL mt s p a6 n ++ pairL mt s p n
def linesV (mt : List S50) (s : List S27) (p : List S77) (a4 a5 a6 : Int) : List S40 := headL mt s p a6 (s.length + p.length) ++ [⟨mt.map (rUp a5), 0⟩, ⟨mt.map (rDn a4), 0⟩]
theorem headL_len (mt : List S50) (s : List S27) (p : List S77) (a6 : Int) : ∀ n, (headL mt s p a6 n).length = 1 + 2 * n
  | 0 => rfl
  | n + 1 => by simp only [headL, List.length_append, headL_len mt s p a6 n, pairL, List.length_cons, List.length_nil]; omega
section
variable {o : List ByteArray} {mt : List S50} {s : List S27} {p : List S77} {a4 a5 a6 : Int}
theorem mat_gok (H : BatchOk o mt s p a4 a5 a6) {i : Nat} (hi : i < mt.length) : GOk (rd_T50 mt (i : Int)).f6 := by
  have M := H.mats i hi
  refine ⟨by rw [M.len]; exact H.o12, fun j hj => ?_⟩
  have := M.con j (by rw [← M.len]; exact hj)
  omega
theorem coef_cfok (H : BatchOk o mt s p a4 a5 a6) {j : Nat} (hj : j < s.length + p.length) : CfOk (coefOf s p j) o.length := by
  refine ⟨fun i hi => ?_⟩
  unfold coefOf
  by_cases h : j < s.length
  · rw [if_pos h]; split <;> omega
  · rw [if_neg h]
    exact (H.pros (j - s.length) (by omega)).coef i hi
theorem tg_ok (H : BatchOk o mt s p a4 a5 a6) {j : Nat} (hj : j < s.length + p.length) : (-10000 ≤ (tgOf s p j).f0 ∧ (tgOf s p j).f0 ≤ 10000) ∧ -10000 ≤ (tgOf s p j).f1 ∧ (tgOf s p j).f1 ≤ 10000 := by
  unfold tgOf
  by_cases h : j < s.length
  · rw [if_pos h]
    have := H.shares j h
    omega
  · rw [if_neg h]
    have := (H.pros (j - s.length) (by omega)).target
    omega
theorem form_tg {w W : World} {j : Nat} {f : F113} (h : FormAt w W s p j f) : f.tg = tgOf s p j := by
  unfold tgOf
  by_cases hj : j < s.length
  · obtain ⟨I, e, _⟩ := h.1 hj
    rw [if_pos hj, e]
  · obtain ⟨P, A, c, e, _⟩ := h.2 (by omega)
    rw [if_neg hj, e]
theorem form_enters {w W : World} {j : Nat} {f : F113} (h : FormAt w W s p j f) : ∀ args w, (callFunc f.fn args).run Tryz.prog w = .ok (.enter f.fn args) w := by
  by_cases hj : j < s.length
  · obtain ⟨I, e, _⟩ := h.1 hj
    rw [e]
    exact enters_of Tryz.func108 (by kernel_rfl) rfl
  · obtain ⟨P, A, c, e, _⟩ := h.2 (by omega)
    rw [e]
    exact enters_of Tryz.func109 (by kernel_rfl) rfl
theorem facQ118 (H : BatchOk o mt s p a4 a5 a6) (w : World) : FacQ 62 #[] (fun x => -lowM x) mt w := by
  intro W hW i hi A c hC hc
  have h := l118_calls (rd_T50 mt (i : Int)) A c W hC hc (mat_gok H hi)
  simpa using h
theorem facQ_form (H : BatchOk o mt s p a4 a5 a6) {w W0 W1 : World} {j F : Nat} {f : F113} (hF : FormAt w W0 s p j f) (hj : j < s.length + p.length) (hb : Below w.heap.size w W0)
    (hFc : W1.heap[F]? = some (.cells #[.func (.func f.fn) #[] f.lb, .int .i64 f.tg.f0, .int .i64 f.tg.f1] 113 (0, 0))) (hb1 : Below W0.heap.size W0 W1) :
    FacQ 65 #[.pointer (some ⟨F, 0, none⟩)] (upF s p j) mt W1 ∧ FacQ 68 #[.pointer (some ⟨F, 0, none⟩)] (dnF s p j) mt W1 := by
  have T := tg_ok H hj
  have hco : ∀ i : Nat, i < mt.length → CoefQ f.fn f.lb (coefOf s p j) (rd_T50 mt (i : Int)).f6.length W0 ∧ CfOk (coefOf s p j) (rd_T50 mt (i : Int)).f6.length := by
    intro i hi
    have M := H.mats i hi
    refine ⟨hF.coef hb _ (fun hh => ?_), by rw [M.len]; exact coef_cfok H hj⟩
    have := (H.pros (j - s.length) (by omega)).len
    rw [M.len, this]
    exact Int.le_refl _
  constructor
  · intro W hW i hi A c hC hc
    have h := l120_calls (rd_T50 mt (i : Int)) A c F f.fn f.lb (coefOf s p j) f.tg.f0 f.tg.f1 W0 W (form_enters hF) (hco i hi).1 (below_trans' hb1 hW) (blk_below hFc hW) hC hc (mat_gok H hi) (hco i hi).2 (by rw [form_tg hF]; exact T)
    rw [form_tg hF] at h
    exact h
  · intro W hW i hi A c hC hc
    have h := l123_calls (rd_T50 mt (i : Int)) A c F f.fn f.lb (coefOf s p j) f.tg.f0 f.tg.f1 W0 W (form_enters hF) (hco i hi).1 (below_trans' hb1 hW) (blk_below hFc hW) hC hc (mat_gok H hi) (hco i hi).2 (by rw [form_tg hF]; exact T)
    rw [form_tg hF] at h
    exact h
theorem facQ125 (H : BatchOk o mt s p a4 a5 a6) {W1 : World} {U : Nat} {u : Int} (hu : -10000 ≤ u ∧ u ≤ 10000) (hU : W1.heap[U]? = some (.cells #[.int .i64 u] 3 (0, 0))) :
    FacQ 70 #[.pointer (some ⟨U, 0, none⟩)] (rUp u) mt W1 ∧ FacQ 71 #[.pointer (some ⟨U, 0, none⟩)] (rDn u) mt W1 :=
  ⟨fun W hW i hi A c hC hc => l125_calls (rd_T50 mt (i : Int)) A c U u W (blk_below hU hW) hC hc (mat_gok H hi) hu (H.mats i hi).redox,
   fun W hW i hi A c hC hc => l126_calls (rd_T50 mt (i : Int)) A c U u W (blk_below hU hW) hC hc (mat_gok H hi) hu (H.mats i hi).redox⟩
end
theorem R_litW {α : Type} (d : Kd α) (base e : Nat) {W : World} {xs : List α} {inner : List Value} {ok okp : Nat → Prop} (hrep : Reps (d.M W base okp) d.sz xs inner) (hok : ∀ k, okp k → ok k) (hfresh : ok W.heap.size) (hbase : base ≤ W.heap.size) (hm : xs.length ≤ 9223372036854775807) :
    d.R e (W.alloc (.cells inner.toArray e)) base ok (.slice (some ⟨W.heap.size, 0, none⟩) xs.length xs.length) xs := by
  refine ⟨fun k hk => ?_, inner, ?_, ?_⟩
  · have : W.heap.size = k := by simpa [Value.ownBlock] using hk
    subst this
    exact hfresh
  · have h2 := World.ownsRow_lit (base := base) (e := e) (size := d.sz) W inner.toArray xs.length hbase (by simpa [maxLen] using hm) (by simpa using hrep.1)
    simpa using h2
  · refine hrep.imp_ (fun p c hp => d.M_mono (fun k hk => ⟨hok k hk.1, fun he => ?_⟩) (Kd.M_below (d.M_bound hp) (below_alloc (Below.refl _ _) _)))
    have h3 : k = W.heap.size := by simpa [Value.ownBlock] using he
    have := hk.2.2.1
    omega
theorem R_one51 {W : World} {base : Nat} {v : Value} {x : S40} (h : (Kd.int .i64).R 3 W base (fun _ => True) v x.f0) (hbase : base ≤ W.heap.size) :
    k40.R 40 (W.alloc (.cells #[v, .int .i64 x.f1] 40)) base (fun _ => True) (.slice (some ⟨W.heap.size, 0, none⟩) 1 1) [x] := by
  have hr : Reps (k40.M W base (fun _ => True)) k40.sz [x] [v, .int .i64 x.f1] := Reps.snoc (Reps.none _ _) (k40_mkM W base _ x h) rfl
  exact R_litW k40 base 40 hr (fun _ h => h) trivial hbase (by simp)
theorem pair_reads {W : World} {base : Nat} {v3 v1 v2 : Value} {xs : List S40} {x x' : S40} (HL : k40.R 40 W base (fun _ => True) v3 xs) (hx : 0 < xs.length) (h1 : (Kd.int .i64).R 3 W base (fun _ => True) v1 x.f0) (h2 : (Kd.int .i64).R 3 W base (fun _ => True) v2 x'.f0) (hbase : base ≤ W.heap.size) :
    ReadsRow (k40.M (W.alloc (.cells #[v1, .int .i64 x.f1, v2, .int .i64 x'.f1] 40)) base (fun j => some j ≠ v3.ownBlock)) k40.sz (W.alloc (.cells #[v1, .int .i64 x.f1, v2, .int .i64 x'.f1] 40)) (some ⟨W.heap.size, 0, none⟩) 2 [x, x'] := by
  obtain ⟨g, cap, rfl, _, hlt, cells, hg⟩ := Kd.R_form HL hx
  have e : ∀ j, j ≠ g → some j ≠ (Value.slice (some ⟨g, 0, none⟩) xs.length cap).ownBlock := by
    intro j hj he
    have : g = j := by simpa [Value.ownBlock] using he.symm
    exact hj this.symm
  have r1 := Kd.R_mono (Kd.R_types (t := 40) h1 hg (by decide)) (fun j hj => e j hj.2)
  have r2 := Kd.R_mono (Kd.R_types (t := 40) h2 hg (by decide)) (fun j hj => e j hj.2)
  have hr : Reps (k40.M W base (fun j => some j ≠ (Value.slice (some ⟨g, 0, none⟩) xs.length cap).ownBlock)) k40.sz [x, x'] [v1, .int .i64 x.f1, v2, .int .i64 x'.f1] := Reps.snoc (Reps.snoc (Reps.none _ _) (k40_mkM W base _ x r1) rfl) (k40_mkM W base _ x' r2) rfl
  have r := R_litW k40 base 40 hr (fun _ h => h) (e _ (Nat.ne_of_gt hlt)) hbase (by simp)
  obtain ⟨A, c, he, _, hrd⟩ := OwnRow.reads r.2
  cases he
  exact ReadsRow.imp_ hrd (Below.refl _ _) (fun _ _ hp => k40.M_mono (fun _ hk => hk.1) hp)
theorem info40 : (Tryz.prog.info? 40).map (fun i => (i.zero, i.size, i.bytes)) = some (some (.agg #[.slice none 0 0, .int .i64 0]), 2, 32) := by kernel_rfl
structure LinesW (w W : World) (cs : Array Value) (xs : List S40) (v : Value) : Prop where
  below : Below w.heap.size w W
  box : W.heap[w.heap.size]? = some (.cells cs 29 (0, 0))
  list : k40.R 40 W w.heap.size (fun _ => True) v xs
theorem LinesW.later {w W W' : World} {cs : Array Value} {xs : List S40} {v : Value} (h : LinesW w W cs xs v) (hb : Below W.heap.size W W') : LinesW w W' cs xs v :=
  ⟨below_step h.below hb, blk_below h.box hb, Kd.R_below h.list hb⟩
structure FormsOk (w W : World) (s : List S27) (p : List S77) (A : Option Addr) (c : Nat) (fs : List F113) : Prop where
  row : k113.R 113 W w.heap.size (fun _ => True) (.slice A fs.length c) fs
  at_ : ∀ j (hj : j < fs.length), FormAt w W s p j fs[j]
theorem FormsOk.reads {w W : World} {s : List S27} {p : List S77} {A : Option Addr} {c : Nat} {fs : List F113} (h : FormsOk w W s p A c fs) : Kd.C k113 W A fs.length fs := by
  obtain ⟨A', c', he, _, hC⟩ := Kd.R_reads h.row
  cases he
  exact hC
theorem FormsOk.later {w W W' : World} {s : List S27} {p : List S77} {A : Option Addr} {c : Nat} {fs : List F113} (h : FormsOk w W s p A c fs) (hb : Below W.heap.size W W') : FormsOk w W' s p A c fs :=
  ⟨Kd.R_below h.row hb, fun j hj => (h.at_ j hj).below hb⟩
theorem FormsOk.grown {w W W' : World} {s : List S27} {p : List S77} {A : Option Addr} {c : Nat} {fs : List F113} {base : Nat} {v3 : Value} {xs : List S40} (h : FormsOk w W s p A c fs) (HL : k40.R 40 W base (fun _ => True) v3 xs) (hx : 0 < xs.length) (hg : W.grownBy W' v3.ownBlock) : FormsOk w W' s p A c fs := by
  refine ⟨?_, fun j hj => ⟨fun hh => ?_, fun hh => ?_⟩⟩
  · obtain ⟨g, cap, rfl, _, hlt, cells, hgb⟩ := Kd.R_form HL hx
    refine Kd.R_mono (Kd.R_grown (Kd.R_types (t := 40) h.row hgb (by decide)) hg (fun k hk he => hk.2 ?_)) (fun _ _ => trivial)
    have : g = k := by simpa [Value.ownBlock] using he.symm
    exact this.symm
  · obtain ⟨I, e, hI⟩ := (h.at_ j hj).1 hh
    exact ⟨I, e, blk_grown hI hg (Kd.R_ne HL hI (by decide))⟩
  · obtain ⟨P, A1, c1, e, hP, hC⟩ := (h.at_ j hj).2 hh
    exact ⟨P, A1, c1, e, blk_grown hP hg (Kd.R_ne HL hP (by decide)), hC⟩
def linesT : Bool × List (List Nat × List Nat) := (true, [([], []), ([], []), ([], []), ([1, 2], [1, 2]), ([], []), ([], []), ([4, 5, 3], [4, 5]), ([3, 6], [3, 6]), ([0, 7, 6], [0, 7]), ([8, 8, 0, 1, 2, 3, 4, 5, 6, 7, 8], [0, 8])])
def linesB : List Nat := [0, 0, 0, 6, 0, 0, 62, 126, 255, 511]
theorem lines_tab : rtab .any (opsOf Tryz.f22 5) = linesT := by kernel_rfl
theorem lines_bits : waitsOk linesT.2 linesB = true := by kernel_rfl
def lines7T : Bool × List (List Nat × List Nat) := (true, [([], []), ([0], [0]), ([1], [1]), ([], []), ([3], [3]), ([4], [4]), ([], []), ([], []), ([6, 2, 0, 1, 2, 6, 7], [2, 6]), ([7, 5, 8, 0, 1, 2, 3, 4, 5, 6, 7, 8], [5, 7])])
def lines7B : List Nat := [0, 1, 3, 0, 8, 24, 0, 0, 199, 511]
theorem lines7_tab : rtab .any (opsOf Tryz.f22 7) = lines7T := by kernel_rfl
theorem lines7_bits : waitsOk lines7T.2 lines7B = true := by kernel_rfl
def lines8T : Bool × List (List Nat × List Nat) := (true, [([], []), ([], []), ([], []), ([1, 2], [1, 2]), ([], []), ([], []), ([4, 5, 3], [4, 5]), ([3, 6], [3, 6]), ([0, 7, 6], [0, 7]), ([8, 8, 0, 1, 2, 3, 4, 5, 6, 7, 8], [8])])
theorem lines8_tab : rtab .any (opsOf Tryz.f22 8) = lines8T := by kernel_rfl
theorem lines8_bits : waitsOk lines8T.2 linesB = true := by kernel_rfl
theorem lines_calls (A0_0 : Option Addr) (c0_0 : Nat) (l0_0 : List ByteArray) (A0_1 : Option Addr) (c0_1 : Nat) (l0_1 : List (S50)) (A0_2 : Option Addr) (c0_2 : Nat) (l0_2 : List (S27)) (A0_3 : Option Addr) (c0_3 : Nat) (l0_3 : List (S77)) (a0_4 : Int) (a0_5 : Int) (a0_6 : Int) (w : World) (hr0_0 : Kd.C Kd.string w A0_0 l0_0.length l0_0) (hc0_0 : l0_0.length ≤ c0_0) (hr0_1 : Kd.C k50 w A0_1 l0_1.length l0_1) (hc0_1 : l0_1.length ≤ c0_1) (hr0_2 : Kd.C k27 w A0_2 l0_2.length l0_2) (hc0_2 : l0_2.length ≤ c0_2) (hr0_3 : Kd.C k77 w A0_3 l0_3.length l0_3) (hc0_3 : l0_3.length ≤ c0_3)
    (H : BatchOk l0_0 l0_1 l0_2 l0_3 a0_4 a0_5 a0_6) :
    Calls Tryz.prog 22 #[.agg #[.slice A0_0 l0_0.length c0_0, .slice A0_1 l0_1.length c0_1, .slice A0_2 l0_2.length c0_2, .slice A0_3 l0_3.length c0_3, .int .i64 a0_4, .int .i64 a0_5, .int .i64 a0_6]] w fun e w' => ∃ v0_ : Value, e = .returned v0_ ∧ Kd.R k40 40 w' w.heap.size (fun _ => True) v0_ (linesV l0_1 l0_2 l0_3 a0_4 a0_5 a0_6) ∧ Below w.heap.size w w' := by
  have hb0 : Below w.heap.size w (w.alloc (.cells #[.slice A0_0 l0_0.length c0_0, .slice A0_1 l0_1.length c0_1, .slice A0_2 l0_2.length c0_2, .slice A0_3 l0_3.length c0_3, .int .i64 a0_4, .int .i64 a0_5, .int .i64 a0_6] 29)) := below_alloc (Below.refl _ _) _
  have hbk := blk_new w (.cells #[.slice A0_0 l0_0.length c0_0, .slice A0_1 l0_1.length c0_1, .slice A0_2 l0_2.length c0_2, .slice A0_3 l0_3.length c0_3, .int .i64 a0_4, .int .i64 a0_5, .int .i64 a0_6] 29)
  have hgo := line_calls A0_0 A0_1 A0_2 A0_3 l0_0.length c0_0 c0_1 l0_2.length c0_2 l0_3.length c0_3 l0_1 a0_4 a0_5 a0_6 (-1000 * a0_6) 62 #[] (fun x => -lowM x) (w.alloc (.cells #[.slice A0_0 l0_0.length c0_0, .slice A0_1 l0_1.length c0_1, .slice A0_2 l0_2.length c0_2, .slice A0_3 l0_3.length c0_3, .int .i64 a0_4, .int .i64 a0_5, .int .i64 a0_6] 29)) (enters_of Tryz.func62 (by kernel_rfl) rfl) (facQ118 H _) (Kd.C_below hr0_1 hb0) H.m12
  have HR0 := Sd.mk hr0_0
  have HC0 := Sd.mk hc0_0
  have HR1 := Sd.mk hr0_1
  have HC1 := Sd.mk hc0_1
  have HR2 := Sd.mk hr0_2
  have HC2 := Sd.mk hc0_2
  have HR3 := Sd.mk hr0_3
  have HC3 := Sd.mk hc0_3
  have HH := Sd.mk H
  have HB := Sd.mk hb0
  have BK := Sd.mk hbk
  have hw6 := H.wanted
  obtain ⟨hw6a, hw6b⟩ := hw6
  have k0 : (w.alloc (.cells #[.slice A0_0 l0_0.length c0_0, .slice A0_1 l0_1.length c0_1, .slice A0_2 l0_2.length c0_2, .slice A0_3 l0_3.length c0_3, .int .i64 a0_4, .int .i64 a0_5, .int .i64 a0_6] 29)).cell? ⟨w.heap.size, 0, none⟩ = some (.slice A0_0 l0_0.length c0_0) := (blk_cell hbk 0).trans rfl
  have k1 : (w.alloc (.cells #[.slice A0_0 l0_0.length c0_0, .slice A0_1 l0_1.length c0_1, .slice A0_2 l0_2.length c0_2, .slice A0_3 l0_3.length c0_3, .int .i64 a0_4, .int .i64 a0_5, .int .i64 a0_6] 29)).cell? ⟨w.heap.size, 1, none⟩ = some (.slice A0_1 l0_1.length c0_1) := (blk_cell hbk 1).trans rfl
  have k2 : (w.alloc (.cells #[.slice A0_0 l0_0.length c0_0, .slice A0_1 l0_1.length c0_1, .slice A0_2 l0_2.length c0_2, .slice A0_3 l0_3.length c0_3, .int .i64 a0_4, .int .i64 a0_5, .int .i64 a0_6] 29)).cell? ⟨w.heap.size, 2, none⟩ = some (.slice A0_2 l0_2.length c0_2) := (blk_cell hbk 2).trans rfl
  have k3 : (w.alloc (.cells #[.slice A0_0 l0_0.length c0_0, .slice A0_1 l0_1.length c0_1, .slice A0_2 l0_2.length c0_2, .slice A0_3 l0_3.length c0_3, .int .i64 a0_4, .int .i64 a0_5, .int .i64 a0_6] 29)).cell? ⟨w.heap.size, 3, none⟩ = some (.slice A0_3 l0_3.length c0_3) := (blk_cell hbk 3).trans rfl
  have k4 : (w.alloc (.cells #[.slice A0_0 l0_0.length c0_0, .slice A0_1 l0_1.length c0_1, .slice A0_2 l0_2.length c0_2, .slice A0_3 l0_3.length c0_3, .int .i64 a0_4, .int .i64 a0_5, .int .i64 a0_6] 29)).cell? ⟨w.heap.size, 4, none⟩ = some (.int .i64 a0_4) := (blk_cell hbk 4).trans rfl
  have k5 : (w.alloc (.cells #[.slice A0_0 l0_0.length c0_0, .slice A0_1 l0_1.length c0_1, .slice A0_2 l0_2.length c0_2, .slice A0_3 l0_3.length c0_3, .int .i64 a0_4, .int .i64 a0_5, .int .i64 a0_6] 29)).cell? ⟨w.heap.size, 5, none⟩ = some (.int .i64 a0_5) := (blk_cell hbk 5).trans rfl
  have k6 : (w.alloc (.cells #[.slice A0_0 l0_0.length c0_0, .slice A0_1 l0_1.length c0_1, .slice A0_2 l0_2.length c0_2, .slice A0_3 l0_3.length c0_3, .int .i64 a0_4, .int .i64 a0_5, .int .i64 a0_6] 29)).cell? ⟨w.heap.size, 6, none⟩ = some (.int .i64 a0_6) := (blk_cell hbk 6).trans rfl
  have k6' : (w.alloc (.cells #[.slice A0_0 l0_0.length c0_0, .slice A0_1 l0_1.length c0_1, .slice A0_2 l0_2.length c0_2, .slice A0_3 l0_3.length c0_3, .int .i64 a0_4, .int .i64 a0_5, .int .i64 a0_6] 29)).cell? ⟨w.heap.size, 0 + 6, none⟩ = some (.int .i64 a0_6) := (blk_cell hbk 6).trans rfl
  clear hr0_0 hc0_0 hr0_1 hc0_1 hr0_2 hc0_2 hr0_3 hc0_3 H hb0 hbk
  go_enter Tryz.func22, Tryz.ntmps22
  go_wp2_with fail
  clear k0 k1 k2 k3 k4 k5 k6 k6' hw6a hw6b
  generalize w.alloc (.cells #[.slice A0_0 l0_0.length c0_0, .slice A0_1 l0_1.length c0_1, .slice A0_2 l0_2.length c0_2, .slice A0_3 l0_3.length c0_3, .int .i64 a0_4, .int .i64 a0_5, .int .i64 a0_6] 29) = w0 at *
  refine hgo.mono ?_
  clear hgo
  rintro e w1 ⟨v, rfl, hR, hb⟩
  have hlw : LinesW w (w1.alloc (.cells #[v, .int .i64 (-1000 * a0_6)] 40)) #[.slice A0_0 l0_0.length c0_0, .slice A0_1 l0_1.length c0_1, .slice A0_2 l0_2.length c0_2, .slice A0_3 l0_3.length c0_3, .int .i64 a0_4, .int .i64 a0_5, .int .i64 a0_6] (headL l0_1 l0_2 l0_3 a0_6 0) (.slice (some ⟨w1.heap.size, 0, none⟩) 1 1) :=
    ⟨below_alloc (below_step HB.out hb) _, blk_alloc (blk_below BK.out hb) _, R_one51 (x := ⟨List.map (fun x => -lowM x) l0_1, -1000 * a0_6⟩) (Kd.R_lower hR (below_size HB.out)) (below_size (below_step HB.out hb))⟩
  have HLW := Sd.mk hlw
  have hbA : Below w.heap.size w (w1.alloc (.cells #[v, .int .i64 (-1000 * a0_6)] 40)) := hlw.below
  have H := HH.out
  have hsz : (l0_2.length + l0_3.length + 1) * 24 ≤ 140737488355328 := Nat.le_trans (Nat.mul_le_mul_right 24 (show l0_2.length + l0_3.length + 1 ≤ 19 by have := H.slen; have := H.o12; have := H.p6; omega)) (by decide)
  have hgo := forms_calls A0_0 c0_0 l0_0 A0_1 c0_1 l0_1 A0_2 c0_2 l0_2 A0_3 c0_3 l0_3 a0_4 a0_5 a0_6 w (w1.alloc (.cells #[v, .int .i64 (-1000 * a0_6)] 40)) hbA (Kd.C_below HR0.out hbA) HC0.out (Kd.C_below HR1.out hbA) HC1.out (Kd.C_below HR2.out hbA) HC2.out HR3.out HC3.out hsz
  have k0 : (w1.alloc (.cells #[v, .int .i64 (-1000 * a0_6)] 40)).cell? ⟨w.heap.size, 0, none⟩ = some (.slice A0_0 l0_0.length c0_0) := (blk_cell hlw.box 0).trans rfl
  have k1 : (w1.alloc (.cells #[v, .int .i64 (-1000 * a0_6)] 40)).cell? ⟨w.heap.size, 1, none⟩ = some (.slice A0_1 l0_1.length c0_1) := (blk_cell hlw.box 1).trans rfl
  have k2 : (w1.alloc (.cells #[v, .int .i64 (-1000 * a0_6)] 40)).cell? ⟨w.heap.size, 2, none⟩ = some (.slice A0_2 l0_2.length c0_2) := (blk_cell hlw.box 2).trans rfl
  have k3 : (w1.alloc (.cells #[v, .int .i64 (-1000 * a0_6)] 40)).cell? ⟨w.heap.size, 3, none⟩ = some (.slice A0_3 l0_3.length c0_3) := (blk_cell hlw.box 3).trans rfl
  have k4 : (w1.alloc (.cells #[v, .int .i64 (-1000 * a0_6)] 40)).cell? ⟨w.heap.size, 4, none⟩ = some (.int .i64 a0_4) := (blk_cell hlw.box 4).trans rfl
  have k5 : (w1.alloc (.cells #[v, .int .i64 (-1000 * a0_6)] 40)).cell? ⟨w.heap.size, 5, none⟩ = some (.int .i64 a0_5) := (blk_cell hlw.box 5).trans rfl
  have k6 : (w1.alloc (.cells #[v, .int .i64 (-1000 * a0_6)] 40)).cell? ⟨w.heap.size, 6, none⟩ = some (.int .i64 a0_6) := (blk_cell hlw.box 6).trans rfl
  clear hlw hbA H hsz hR hb HB BK
  go_wp2_with fail
  clear k0 k1 k2 k3 k4 k5 k6
  generalize w1.alloc (.cells #[v, .int .i64 (-1000 * a0_6)] 40) = wA at *
  refine hgo.mono ?_
  clear hgo
  rintro e w2 ⟨Af, cf, fs, rfl, hfc, hfC, hfl, hF, hb2, hfR⟩
  have HLW2 := Sd.mk (HLW.out.later hb2)
  have HFO := Sd.mk (FormsOk.mk (Kd.R_lower hfR (below_size HLW.out.below)) hF)
  have HFL := Sd.mk hfl
  have hfz : (fs.length : Int) < 9223372036854775807 := by have H := HH.out; have := H.slen; have := H.o12; have := H.p6; omega
  have HFZ := Sd.mk hfz
  clear HLW hb2 hfC hfl hF hfR
  go_wp2
  clear hfc hfz
  go_loopg [3, 17] fs.length (fun gq v3 v17 wr => ∃ k : Nat, v17 = .int .i64 k ∧ k ≤ fs.length ∧ fs.length - k ≤ gq ∧ Sd (LinesW w wr #[.slice A0_0 l0_0.length c0_0, .slice A0_1 l0_1.length c0_1, .slice A0_2 l0_2.length c0_2, .slice A0_3 l0_3.length c0_3, .int .i64 a0_4, .int .i64 a0_5, .int .i64 a0_6] (headL l0_1 l0_2 l0_3 a0_6 k) v3) ∧ Sd (FormsOk w wr l0_2 l0_3 Af cf fs))
  case atStart => exact ⟨0, rfl, Nat.zero_le _, by omega, HLW2, HFO⟩
  case round =>
    clear HLW2 HFO
    obtain ⟨k, rfl, hk, hgk, HW, HFO⟩ := hrel
    have hfz := HFZ.out
    by_cases hlt : k < fs.length
    · have hltz : (k : Int) < (fs.length : Int) := by omega
      obtain ⟨ad, rfl, hx0, hx1, hx2⟩ := at_T113 HFO.out.reads k hlt
      have HFK := Sd.mk (HFO.out.at_ k hlt)
      generalize hff : fs[k] = f at *
      clear hff
      have HLX := Sd.mk (HW.out.later (below_alloc (Below.refl _ _) (.cells #[.func (.func f.fn) #[] f.lb, .int .i64 f.tg.f0, .int .i64 f.tg.f1] 113)))
      have BF := Sd.mk (blk_new wr (.cells #[.func (.func f.fn) #[] f.lb, .int .i64 f.tg.f0, .int .i64 f.tg.f1] 113))
      have H := HH.out
      have hkl : k < l0_2.length + l0_3.length := by have := HFL.out; omega
      have hfq := facQ_form H (F := wr.heap.size) (W1 := wr.alloc (.cells #[.func (.func f.fn) #[] f.lb, .int .i64 f.tg.f0, .int .i64 f.tg.f1] 113)) HFK.out hkl HW.out.below (blk_new wr (.cells #[.func (.func f.fn) #[] f.lb, .int .i64 f.tg.f0, .int .i64 f.tg.f1] 113)) (below_alloc (Below.refl _ _) _)
      have HQ := Sd.mk hfq
      have HFY := Sd.mk (HFO.out.later (below_alloc (Below.refl _ _) (.cells #[.func (.func f.fn) #[] f.lb, .int .i64 f.tg.f0, .int .i64 f.tg.f1] 113)))
      have HKL := Sd.mk hkl
      have HK := Sd.mk hgk
      have HLT := Sd.mk hlt
      have HM12 := Sd.mk H.m12
      clear HW HFO H hkl hfq hgk hlt
      go_upto_region 5 with (fail)
      clear hx0 hx1 hx2
      generalize wr.alloc (.cells #[.func (.func f.fn) #[] f.lb, .int .i64 f.tg.f0, .int .i64 f.tg.f1] 113) = WX at *
      generalize hXX : wr.heap.size = X at *
      clear hXX
      have HB := Sd.mk HLX.out.below
      have BK := Sd.mk HLX.out.box
      have HL := Sd.mk HLX.out.list
      have HBZ := Sd.mk (Below.refl WX.heap.size WX)
      clear HLX BF
      refine start_ (n := 10) (S := fun w' => w'.cell? ⟨w.heap.size, 0, none⟩ = some (.slice A0_0 l0_0.length c0_0) ∧ w'.cell? ⟨w.heap.size, 1, none⟩ = some (.slice A0_1 l0_1.length c0_1) ∧ w'.cell? ⟨w.heap.size, 2, none⟩ = some (.slice A0_2 l0_2.length c0_2) ∧ w'.cell? ⟨w.heap.size, 3, none⟩ = some (.slice A0_3 l0_3.length c0_3) ∧ w'.cell? ⟨w.heap.size, 4, none⟩ = some (.int .i64 a0_4) ∧ w'.cell? ⟨w.heap.size, 5, none⟩ = some (.int .i64 a0_5) ∧ w'.cell? ⟨w.heap.size, 6, none⟩ = some (.int .i64 a0_6)) (ds := []) #[false, false, false, false, false, false, false, false, false, false] (by kernel_rfl) rfl rfl ⟨(blk_cell BK.out 0).trans rfl, (blk_cell BK.out 1).trans rfl, (blk_cell BK.out 2).trans rfl, (blk_cell BK.out 3).trans rfl, (blk_cell BK.out 4).trans rfl, (blk_cell BK.out 5).trans rfl, (blk_cell BK.out 6).trans rfl⟩ (fun hHeld => ?_); refine with_tabW lines_tab lines_bits (fun HT_ HW_ => ?_)
      replace BK := Sd.mk (blk_drew BK.out)
      replace HL := Sd.mk (Kd.R_drew HL.out)
      replace HB := Sd.mk (below_drew1 HB.out)
      replace HBZ := Sd.mk (below_drew1 HBZ.out)
      replace HFY := Sd.mk (HFY.out.later (below_drew1 (Below.refl WX.heap.size WX)))
      generalize WX.drew = W0 at BK HL HB HBZ HFY hHeld ⊢
      refine pure_ (i := 0) (N := some 21) (v := ?_) (a' := ?_) #[true, false, false, false, false, false, false, false, false, false] rfl rfl (any_of HT_.out (by kernel_rfl)) (fun _ _ _ h => h) (Or.inl ⟨by rfl, ?_⟩) ?_ ?_
      rotate_left
      · intro w'
        go_simp
        with_reducible rfl
      rotate_left
      · simp only [Act.put, List.setIfInBounds_toArray, List.set_cons_zero, List.set_cons_succ, i64_w, i32_w]
        rfl
      refine take_ (i := 1) (N := some 22) (v := ?_) (a' := ?_) #[true, true, false, false, false, false, false, false, false, false] rfl rfl (take_ofW HT_.out HW_.out (by kernel_rfl)) (fun _ _ _ h => h) (Or.inl ⟨by rfl, ?_⟩) hHeld ?_ ?_
      rotate_left
      · rintro w' ⟨s0, s1, s2, s3, s4, s5, s6⟩
        go_simp
        with_reducible rfl
      rotate_left
      · simp only [Act.put, List.setIfInBounds_toArray, List.set_cons_zero, List.set_cons_succ, i64_w, i32_w]
        rfl
      refine pure_ (i := 2) (N := some 23) (v := ?_) (a' := ?_) #[true, true, true, false, false, false, false, false, false, false] rfl rfl (any_of HT_.out (by kernel_rfl)) (fun _ _ _ h => h) (Or.inl ⟨by rfl, ?_⟩) ?_ ?_
      rotate_left
      · intro w'
        go_simp
        with_reducible rfl
      rotate_left
      · simp only [Act.put, List.setIfInBounds_toArray, List.set_cons_zero, List.set_cons_succ, i64_w, i32_w]
        rfl
      refine take_ (i := 4) (N := some 25) (v := ?_) (a' := ?_) #[true, true, true, false, true, false, false, false, false, false] rfl rfl (take_ofW HT_.out HW_.out (by kernel_rfl)) (fun _ _ _ h => h) (Or.inl ⟨by rfl, ?_⟩) hHeld ?_ ?_
      rotate_left
      · rintro w' ⟨s0, s1, s2, s3, s4, s5, s6⟩
        go_simp
        with_reducible rfl
      rotate_left
      · simp only [Act.put, List.setIfInBounds_toArray, List.set_cons_zero, List.set_cons_succ, i64_w, i32_w]
        rfl
      refine pure_ (i := 5) (N := some 26) (v := ?_) (a' := ?_) #[true, true, true, false, true, true, false, false, false, false] rfl rfl (any_of HT_.out (by kernel_rfl)) (fun _ _ _ h => h) (Or.inl ⟨by rfl, ?_⟩) ?_ ?_
      rotate_left
      · intro w'
        go_simp
        with_reducible rfl
      rotate_left
      · simp only [Act.put, List.setIfInBounds_toArray, List.set_cons_zero, List.set_cons_succ, i64_w, i32_w]
        rfl
      refine one_ (i := 3) (N := some 24) #[true, true, true, true, true, true, false, false, false, false] rfl rfl (one_of HT_.out (by kernel_rfl)) (by decide) (fun K hK => ?_)
      refine goes_ Tryz.func61 (by kernel_rfl) rfl #[.agg #[.slice A0_0 l0_0.length c0_0, .slice A0_1 l0_1.length c0_1, .slice A0_2 l0_2.length c0_2, .slice A0_3 l0_3.length c0_3, .int .i64 a0_4, .int .i64 a0_5, .int .i64 a0_6], .int .i64 0, .func (.func 65) #[] #[.pointer (some ⟨X, 0, none⟩)]] (by rfl) rfl rfl (by (try simp only [List.map_toArray, List.map_cons, List.map_nil]); first | done | rfl) ?_
      refine (line_calls A0_0 A0_1 A0_2 A0_3 l0_0.length c0_0 c0_1 l0_2.length c0_2 l0_3.length c0_3 l0_1 a0_4 a0_5 a0_6 0 65 #[.pointer (some ⟨X, 0, none⟩)] (upF l0_2 l0_3 k) _ (enters_of Tryz.func65 (by kernel_rfl) rfl) (fun W hW => HQ.out.1 W (below_trans' HBZ.out hW)) (Kd.C_below HR1.out HB.out) HM12.out).mono ?_
      rintro e w4 ⟨v1, rfl, hR, hb⟩
      refine ⟨_, rfl, ?_⟩
      have Hv1 := Sd.mk (Kd.R_lower hR (below_size HB.out))
      replace BK := Sd.mk (blk_below BK.out hb)
      replace HL := Sd.mk (Kd.R_below HL.out hb)
      replace HBZ := Sd.mk (below_step HBZ.out hb)
      replace HFY := Sd.mk (HFY.out.later hb)
      replace HB := Sd.mk (below_step HB.out hb)
      clear hb hR
      refine hK.out _ _ ⟨(blk_cell BK.out 0).trans rfl, (blk_cell BK.out 1).trans rfl, (blk_cell BK.out 2).trans rfl, (blk_cell BK.out 3).trans rfl, (blk_cell BK.out 4).trans rfl, (blk_cell BK.out 5).trans rfl, (blk_cell BK.out 6).trans rfl⟩ (fun hHeld => ?_)
      clear hK K
      refine norm_ (a' := ?_) ?_ ?_
      rotate_left
      · show Act.put _ (some 24) _ = _
        simp only [Act.put, List.setIfInBounds_toArray, List.set_cons_zero, List.set_cons_succ, i64_w, i32_w]
        rfl
      refine one_ (i := 6) (N := some 27) #[true, true, true, true, true, true, true, false, false, false] rfl rfl (one_of HT_.out (by kernel_rfl)) (by decide) (fun K hK => ?_)
      refine goes_ Tryz.func61 (by kernel_rfl) rfl #[.agg #[.slice A0_0 l0_0.length c0_0, .slice A0_1 l0_1.length c0_1, .slice A0_2 l0_2.length c0_2, .slice A0_3 l0_3.length c0_3, .int .i64 a0_4, .int .i64 a0_5, .int .i64 a0_6], .int .i64 0, .func (.func 68) #[] #[.pointer (some ⟨X, 0, none⟩)]] (by rfl) rfl rfl (by (try simp only [List.map_toArray, List.map_cons, List.map_nil]); first | done | rfl) ?_
      refine (line_calls A0_0 A0_1 A0_2 A0_3 l0_0.length c0_0 c0_1 l0_2.length c0_2 l0_3.length c0_3 l0_1 a0_4 a0_5 a0_6 0 68 #[.pointer (some ⟨X, 0, none⟩)] (dnF l0_2 l0_3 k) _ (enters_of Tryz.func68 (by kernel_rfl) rfl) (fun W hW => HQ.out.2 W (below_trans' HBZ.out hW)) (Kd.C_below HR1.out HB.out) HM12.out).mono ?_
      rintro e w4 ⟨v2, rfl, hR, hb⟩
      refine ⟨_, rfl, ?_⟩
      have Hv2 := Sd.mk (Kd.R_lower hR (below_size HB.out))
      replace Hv1 := Sd.mk (Kd.R_below Hv1.out hb)
      replace BK := Sd.mk (blk_below BK.out hb)
      replace HL := Sd.mk (Kd.R_below HL.out hb)
      replace HBZ := Sd.mk (below_step HBZ.out hb)
      replace HFY := Sd.mk (HFY.out.later hb)
      replace HB := Sd.mk (below_step HB.out hb)
      clear hb hR
      refine hK.out _ _ ⟨(blk_cell BK.out 0).trans rfl, (blk_cell BK.out 1).trans rfl, (blk_cell BK.out 2).trans rfl, (blk_cell BK.out 3).trans rfl, (blk_cell BK.out 4).trans rfl, (blk_cell BK.out 5).trans rfl, (blk_cell BK.out 6).trans rfl⟩ (fun hHeld => ?_)
      clear hK K
      refine norm_ (a' := ?_) ?_ ?_
      rotate_left
      · show Act.put _ (some 27) _ = _
        simp only [Act.put, List.setIfInBounds_toArray, List.set_cons_zero, List.set_cons_succ, i64_w, i32_w]
        rfl
      refine one_ (i := 7) (N := some 28) #[true, true, true, true, true, true, true, true, false, false] rfl rfl (one_of HT_.out (by kernel_rfl)) (by decide) (fun K hK => ?_)
      refine value_ (w1 := ?_) (v := ?_) (by rfl) rfl ?_ ?_
      rotate_left 2
      · go_simp
        constructor
        · rfl
        · rfl
      refine hK.out _ _ ⟨(blk_cell (blk_alloc BK.out _) 0).trans rfl, (blk_cell (blk_alloc BK.out _) 1).trans rfl, (blk_cell (blk_alloc BK.out _) 2).trans rfl, (blk_cell (blk_alloc BK.out _) 3).trans rfl, (blk_cell (blk_alloc BK.out _) 4).trans rfl, (blk_cell (blk_alloc BK.out _) 5).trans rfl, (blk_cell (blk_alloc BK.out _) 6).trans rfl⟩ (fun hHeld => ?_)
      clear hK K
      refine norm_ (a' := ?_) ?_ ?_
      rotate_left
      · show Act.put _ (some 28) _ = _
        simp only [Act.put, List.setIfInBounds_toArray, List.set_cons_zero, List.set_cons_succ, i64_w, i32_w]
        rfl
      refine one_ (i := 8) (N := some 29) #[true, true, true, true, true, true, true, true, true, false] rfl rfl (one_of HT_.out (by kernel_rfl)) (by decide) (fun K hK => ?_)
      refine Kd.R_append_rows_step k40 (w0 := w) w.heap.size (by rfl) (.tmp 21) (.tmp 28) 35 40 (.agg #[.slice none 0 0, .int .i64 0]) 32 rfl Tryz.underlying35 info40 rfl (by decide) (by omega) u3 (headL l0_1 l0_2 l0_3 a0_6 k) (pairL l0_1 l0_2 l0_3 k) (some ⟨_, 0, none⟩) 2 2 (fun _ => True) (fun j => some j ≠ u3.ownBlock) rfl rfl (Kd.R_alloc HL.out _) (pair_reads HL.out (by rw [headL_len]; omega) Hv1.out Hv2.out (below_size HB.out)) (fun _ _ hp => hp) (fun _ hk => ⟨trivial, hk⟩) (fun _ _ => trivial) (below_alloc HB.out _) ?aS ?aL ?_
      (case aS => exact below_size (below_alloc HB.out _))
      (case aL => exact (by rw [headL_len]; exact Nat.le_trans (Nat.mul_le_mul_right 32 (show 1 + 2 * k + 2 ≤ 100 by have := HKL.out; have H := HH.out; have := H.slen; have := H.o12; have := H.p6; omega)) (by decide)))
      intro v5 w5 ho hb hg hat
      have BK2 := Sd.mk (blk_grown (blk_alloc BK.out _) hg (Kd.R_ne HL.out BK.out (by decide)))
      have HLW := Sd.mk (LinesW.mk hb BK2.out ho)
      have HFX := Sd.mk ((HFY.out.later (below_alloc (Below.refl _ _) _)).grown (Kd.R_alloc HL.out _) (by rw [headL_len]; omega) hg)
      clear BK HL HB Hv1 Hv2 HFY hb ho hat hg
      refine hK.out _ _ ⟨(blk_cell BK2.out 0).trans rfl, (blk_cell BK2.out 1).trans rfl, (blk_cell BK2.out 2).trans rfl, (blk_cell BK2.out 3).trans rfl, (blk_cell BK2.out 4).trans rfl, (blk_cell BK2.out 5).trans rfl, (blk_cell BK2.out 6).trans rfl⟩ (fun hHeld => ?_)
      clear hK K
      refine norm_ (a' := ?_) ?_ ?_
      rotate_left
      · show Act.put _ (some 29) _ = _
        simp only [Act.put, List.setIfInBounds_toArray, List.set_cons_zero, List.set_cons_succ, i64_w, i32_w]
        rfl
      refine pure_ (i := 9) (N := some 3) (v := ?_) (a' := ?_) #[true, true, true, true, true, true, true, true, true, true] rfl rfl (any_of HT_.out (by kernel_rfl)) (fun _ _ _ h => h) (Or.inl ⟨by rfl, ?_⟩) ?_ ?_
      rotate_left
      · intro w'
        go_simp
        with_reducible rfl
      rotate_left
      · simp only [Act.put, List.setIfInBounds_toArray, List.set_cons_zero, List.set_cons_succ, i64_w, i32_w]
        rfl
      refine done_ (done_of HT_.out (by kernel_rfl)) ?_
      have hfz := HFZ.out
      have hlt := HLT.out
      have hgk := HK.out
      go_wp2
      go_roundg (fs.length - (k + 1))
      case measure => omega
      case rel => exact ⟨k + 1, by first | rfl | (rw [wrap_id (by omega) (by omega)]; rfl), by omega, by omega, HLW, HFX⟩
    · have H := HH.out
      have hkn : k = l0_2.length + l0_3.length := by have := HFL.out; omega
      have hltz : ¬ (k : Int) < (fs.length : Int) := by omega
      have HB := Sd.mk HW.out.below
      have BK := Sd.mk HW.out.box
      have HL := Sd.mk HW.out.list
      have HM12 := Sd.mk H.m12
      have HRX := Sd.mk H.redox
      have HKN := Sd.mk hkn
      have HSZ := Sd.mk (show 1 + 2 * k + 2 ≤ 100 by have := H.slen; have := H.o12; have := H.p6; omega)
      clear HW HFO H hkn hgk
      go_upto_region 7 with (fail)
      refine start_ (n := 10) (S := fun w' => w'.cell? ⟨w.heap.size, 0, none⟩ = some (.slice A0_0 l0_0.length c0_0) ∧ w'.cell? ⟨w.heap.size, 1, none⟩ = some (.slice A0_1 l0_1.length c0_1) ∧ w'.cell? ⟨w.heap.size, 2, none⟩ = some (.slice A0_2 l0_2.length c0_2) ∧ w'.cell? ⟨w.heap.size, 3, none⟩ = some (.slice A0_3 l0_3.length c0_3) ∧ w'.cell? ⟨w.heap.size, 4, none⟩ = some (.int .i64 a0_4) ∧ w'.cell? ⟨w.heap.size, 5, none⟩ = some (.int .i64 a0_5) ∧ w'.cell? ⟨w.heap.size, 6, none⟩ = some (.int .i64 a0_6)) (ds := []) #[false, false, false, false, false, false, false, false, false, false] (by kernel_rfl) rfl rfl ⟨(blk_cell BK.out 0).trans rfl, (blk_cell BK.out 1).trans rfl, (blk_cell BK.out 2).trans rfl, (blk_cell BK.out 3).trans rfl, (blk_cell BK.out 4).trans rfl, (blk_cell BK.out 5).trans rfl, (blk_cell BK.out 6).trans rfl⟩ (fun hHeld => ?_); refine with_tabW lines7_tab lines7_bits (fun HT_ HW_ => ?_)
      replace BK := Sd.mk (blk_drew BK.out)
      replace HL := Sd.mk (Kd.R_drew HL.out)
      replace HB := Sd.mk (below_drew1 HB.out)
      generalize wr.drew = W0 at BK HL HB hHeld ⊢
      refine pure_ (i := 0) (N := some 31) (v := ?_) (a' := ?_) #[true, false, false, false, false, false, false, false, false, false] rfl rfl (any_of HT_.out (by kernel_rfl)) (fun _ _ _ h => h) (Or.inl ⟨by rfl, ?_⟩) ?_ ?_
      rotate_left
      · intro w'
        go_simp
        with_reducible rfl
      rotate_left
      · simp only [Act.put, List.setIfInBounds_toArray, List.set_cons_zero, List.set_cons_succ, i64_w, i32_w]
        rfl
      refine pure_ (i := 1) (N := some 32) (v := ?_) (a' := ?_) #[true, true, false, false, false, false, false, false, false, false] rfl rfl (any_of HT_.out (by kernel_rfl)) (fun _ _ _ h => h) (Or.inl ⟨by rfl, ?_⟩) ?_ ?_
      rotate_left
      · intro w'
        go_simp
        with_reducible rfl
      rotate_left
      · simp only [Act.put, List.setIfInBounds_toArray, List.set_cons_zero, List.set_cons_succ, i64_w, i32_w]
        rfl
      refine take_ (i := 2) (N := some 33) (v := ?_) (a' := ?_) #[true, true, true, false, false, false, false, false, false, false] rfl rfl (take_ofW HT_.out HW_.out (by kernel_rfl)) (fun _ _ _ h => h) (Or.inl ⟨by rfl, ?_⟩) hHeld ?_ ?_
      rotate_left
      · rintro w' ⟨s0, s1, s2, s3, s4, s5, s6⟩
        go_simp
        with_reducible rfl
      rotate_left
      · simp only [Act.put, List.setIfInBounds_toArray, List.set_cons_zero, List.set_cons_succ, i64_w, i32_w]
        rfl
      refine pure_ (i := 3) (N := some 34) (v := ?_) (a' := ?_) #[true, true, true, true, false, false, false, false, false, false] rfl rfl (any_of HT_.out (by kernel_rfl)) (fun _ _ _ h => h) (Or.inl ⟨by rfl, ?_⟩) ?_ ?_
      rotate_left
      · intro w'
        go_simp
        with_reducible rfl
      rotate_left
      · simp only [Act.put, List.setIfInBounds_toArray, List.set_cons_zero, List.set_cons_succ, i64_w, i32_w]
        rfl
      refine pure_ (i := 4) (N := some 35) (v := ?_) (a' := ?_) #[true, true, true, true, true, false, false, false, false, false] rfl rfl (any_of HT_.out (by kernel_rfl)) (fun _ _ _ h => h) (Or.inl ⟨by rfl, ?_⟩) ?_ ?_
      rotate_left
      · intro w'
        go_simp
        with_reducible rfl
      rotate_left
      · simp only [Act.put, List.setIfInBounds_toArray, List.set_cons_zero, List.set_cons_succ, i64_w, i32_w]
        rfl
      refine take_ (i := 5) (N := some 36) (v := ?_) (a' := ?_) #[true, true, true, true, true, true, false, false, false, false] rfl rfl (take_ofW HT_.out HW_.out (by kernel_rfl)) (fun _ _ _ h => h) (Or.inl ⟨by rfl, ?_⟩) hHeld ?_ ?_
      rotate_left
      · rintro w' ⟨s0, s1, s2, s3, s4, s5, s6⟩
        go_simp
        with_reducible rfl
      rotate_left
      · simp only [Act.put, List.setIfInBounds_toArray, List.set_cons_zero, List.set_cons_succ, i64_w, i32_w]
        rfl
      refine join_ (σ := Nat × Nat) 2 #[true, true, true, true, true, true, true, true, false, false] (fun s_ => [(6, .pointer (some ⟨s_.1, 0, none⟩)), (7, .pointer (some ⟨s_.2, 0, none⟩))]) (fun s_ w' => (w'.cell? ⟨w.heap.size, 0, none⟩ = some (.slice A0_0 l0_0.length c0_0) ∧ w'.cell? ⟨w.heap.size, 1, none⟩ = some (.slice A0_1 l0_1.length c0_1) ∧ w'.cell? ⟨w.heap.size, 2, none⟩ = some (.slice A0_2 l0_2.length c0_2) ∧ w'.cell? ⟨w.heap.size, 3, none⟩ = some (.slice A0_3 l0_3.length c0_3) ∧ w'.cell? ⟨w.heap.size, 4, none⟩ = some (.int .i64 a0_4) ∧ w'.cell? ⟨w.heap.size, 5, none⟩ = some (.int .i64 a0_5) ∧ w'.cell? ⟨w.heap.size, 6, none⟩ = some (.int .i64 a0_6)) ∧ Below w.heap.size w w' ∧ w'.heap[w.heap.size]? = some (.cells #[.slice A0_0 l0_0.length c0_0, .slice A0_1 l0_1.length c0_1, .slice A0_2 l0_2.length c0_2, .slice A0_3 l0_3.length c0_3, .int .i64 a0_4, .int .i64 a0_5, .int .i64 a0_6] 29 (0, 0)) ∧ k40.R 40 w' w.heap.size (fun j => j ≠ s_.1 ∧ j ≠ s_.2) u3 (headL l0_1 l0_2 l0_3 a0_6 k) ∧ w'.heap[s_.1]? = some (.cells #[.int .i64 0] 3 (0, 0)) ∧ w'.heap[s_.2]? = some (.cells #[.int .i64 0] 3 (0, 0)) ∧ s_.1 ≠ s_.2 ∧ w.heap.size < s_.1 ∧ w.heap.size < s_.2) ?_ ?_
      rotate_left
      · skip
        intro hCont
        refine two_ (i := 6) (j := 7) (Ni := some 6) (Nj := some 7) #[true, true, true, true, true, true, true, false, false, false] #[true, true, true, true, true, true, false, true, false, false] rfl rfl rfl rfl (two_of HT_.out (by kernel_rfl)) (by decide) (by decide) (fun K hK => ?_) (fun K hK => ?_)
        · skip
          refine box_step ?hg (N := 6) ?hd (cs := #[.int .i64 0]) (t := 3) ?hr ?_; (case hd => rfl); (case hg => rfl); (case hr => first | (go_simp; done) | (go_simp; rfl))
          intro U6 hg6 w6 hbox6 hb6
          have BK6 := Sd.mk (blk_below BK.out hb6)
          refine hK.out _ _ ⟨(blk_cell BK6.out 0).trans rfl, (blk_cell BK6.out 1).trans rfl, (blk_cell BK6.out 2).trans rfl, (blk_cell BK6.out 3).trans rfl, (blk_cell BK6.out 4).trans rfl, (blk_cell BK6.out 5).trans rfl, (blk_cell BK6.out 6).trans rfl⟩ (fun hHeld => ?_)
          clear hK K
          refine norm_ (a' := ?_) ?_ ?_
          rotate_left
          · show Act.put _ (some 6) _ = _
            simp only [Act.put, List.setIfInBounds_toArray, List.set_cons_zero, List.set_cons_succ, i64_w, i32_w]
            rfl
          refine one_ (i := 7) (N := some 7) #[true, true, true, true, true, true, true, true, false, false] rfl rfl (one_of HT_.out (by kernel_rfl)) (by decide) (fun K hK => ?_)
          refine box_step ?hg (N := 7) ?hd (cs := #[.int .i64 0]) (t := 3) ?hr ?_; (case hd => rfl); (case hg => rfl); (case hr => first | (go_simp; done) | (go_simp; rfl))
          intro U7 hg7 w7 hbox7 hb7
          have BK7 := Sd.mk (blk_below BK6.out hb7)
          refine hK.out _ _ ⟨(blk_cell BK7.out 0).trans rfl, (blk_cell BK7.out 1).trans rfl, (blk_cell BK7.out 2).trans rfl, (blk_cell BK7.out 3).trans rfl, (blk_cell BK7.out 4).trans rfl, (blk_cell BK7.out 5).trans rfl, (blk_cell BK7.out 6).trans rfl⟩ (fun hHeld => ?_)
          clear hK K
          refine norm_ (a' := ?_) ?_ ?_
          rotate_left
          · show Act.put _ (some 7) _ = _
            simp only [Act.put, List.setIfInBounds_toArray, List.set_cons_zero, List.set_cons_succ, i64_w, i32_w]
            rfl
          have hl1 := blk_lt BK.out
          have hl2 := blk_lt hbox6
          have hokk : ∀ j, (True ∧ w.heap.size ≤ j ∧ j < W0.heap.size ∧ ∃ q, q ∈ 40 :: k40.E ∧ ∃ cells, W0.heap[j]? = some (.cells cells q (0, 0))) → j ≠ U6 ∧ j ≠ U7 := fun j hj => ⟨by have := hj.2.2.1; omega, by have := hj.2.2.1; omega⟩
          exact norm_ (by simp only [putAll, Act.put, List.setIfInBounds_toArray, List.set_cons_zero, List.set_cons_succ]) (hCont (U6, U7) _ ⟨⟨(blk_cell BK7.out 0).trans rfl, (blk_cell BK7.out 1).trans rfl, (blk_cell BK7.out 2).trans rfl, (blk_cell BK7.out 3).trans rfl, (blk_cell BK7.out 4).trans rfl, (blk_cell BK7.out 5).trans rfl, (blk_cell BK7.out 6).trans rfl⟩, below_step (below_step HB.out hb6) hb7, BK7.out, Kd.R_below (Kd.R_below (Kd.R_mono (Kd.R_bound HL.out) hokk) hb6) hb7, blk_below hbox6 hb7, hbox7, by omega, by have := hb6.size; omega, by have := hb6.size; omega⟩)
        · skip
          refine box_step ?hg (N := 7) ?hd (cs := #[.int .i64 0]) (t := 3) ?hr ?_; (case hd => rfl); (case hg => rfl); (case hr => first | (go_simp; done) | (go_simp; rfl))
          intro U7 hg7 w7 hbox7 hb7
          have BK7 := Sd.mk (blk_below BK.out hb7)
          refine hK.out _ _ ⟨(blk_cell BK7.out 0).trans rfl, (blk_cell BK7.out 1).trans rfl, (blk_cell BK7.out 2).trans rfl, (blk_cell BK7.out 3).trans rfl, (blk_cell BK7.out 4).trans rfl, (blk_cell BK7.out 5).trans rfl, (blk_cell BK7.out 6).trans rfl⟩ (fun hHeld => ?_)
          clear hK K
          refine norm_ (a' := ?_) ?_ ?_
          rotate_left
          · show Act.put _ (some 7) _ = _
            simp only [Act.put, List.setIfInBounds_toArray, List.set_cons_zero, List.set_cons_succ, i64_w, i32_w]
            rfl
          refine one_ (i := 6) (N := some 6) #[true, true, true, true, true, true, true, true, false, false] rfl rfl (one_of HT_.out (by kernel_rfl)) (by decide) (fun K hK => ?_)
          refine box_step ?hg (N := 6) ?hd (cs := #[.int .i64 0]) (t := 3) ?hr ?_; (case hd => rfl); (case hg => rfl); (case hr => first | (go_simp; done) | (go_simp; rfl))
          intro U6 hg6 w6 hbox6 hb6
          have BK6 := Sd.mk (blk_below BK7.out hb6)
          refine hK.out _ _ ⟨(blk_cell BK6.out 0).trans rfl, (blk_cell BK6.out 1).trans rfl, (blk_cell BK6.out 2).trans rfl, (blk_cell BK6.out 3).trans rfl, (blk_cell BK6.out 4).trans rfl, (blk_cell BK6.out 5).trans rfl, (blk_cell BK6.out 6).trans rfl⟩ (fun hHeld => ?_)
          clear hK K
          refine norm_ (a' := ?_) ?_ ?_
          rotate_left
          · show Act.put _ (some 6) _ = _
            simp only [Act.put, List.setIfInBounds_toArray, List.set_cons_zero, List.set_cons_succ, i64_w, i32_w]
            rfl
          have hl1 := blk_lt BK.out
          have hl2 := blk_lt hbox7
          have hokk : ∀ j, (True ∧ w.heap.size ≤ j ∧ j < W0.heap.size ∧ ∃ q, q ∈ 40 :: k40.E ∧ ∃ cells, W0.heap[j]? = some (.cells cells q (0, 0))) → j ≠ U6 ∧ j ≠ U7 := fun j hj => ⟨by have := hj.2.2.1; omega, by have := hj.2.2.1; omega⟩
          exact norm_ (by simp only [putAll, Act.put, List.setIfInBounds_toArray, List.set_cons_zero, List.set_cons_succ]) (hCont (U6, U7) _ ⟨⟨(blk_cell BK6.out 0).trans rfl, (blk_cell BK6.out 1).trans rfl, (blk_cell BK6.out 2).trans rfl, (blk_cell BK6.out 3).trans rfl, (blk_cell BK6.out 4).trans rfl, (blk_cell BK6.out 5).trans rfl, (blk_cell BK6.out 6).trans rfl⟩, below_step (below_step HB.out hb7) hb6, BK6.out, Kd.R_below (Kd.R_below (Kd.R_mono (Kd.R_bound HL.out) hokk) hb7) hb6, hbox6, blk_below hbox7 hb6, by omega, by have := hb7.size; omega, by have := hb7.size; omega⟩)
      rintro ⟨U6, U7⟩ w7 ⟨hS_, hB, hBK, hL, h6, h7, hne, hg6, hg7⟩
      dsimp only at hB hBK hL h6 h7 hne hg6 hg7
      clear HB BK HL
      refine norm_ (a' := ?_) ?_ ?_
      rotate_left
      · simp only [putAll, Act.put, List.setIfInBounds_toArray, List.set_cons_zero, List.set_cons_succ]
        rfl
      have h60 : w7.cell? ⟨U6, 0, none⟩ = some (.int .i64 0) := (blk_cell h6 0).trans rfl
      have f60 := blk_frozen h6 0
      refine one_ (i := 8) (N := none) #[true, true, true, true, true, true, true, true, true, false] rfl rfl (one_of HT_.out (by kernel_rfl)) (by decide) (fun K hK => ?_)
      refine skip_ (w1 := ?_) (by rfl) rfl ?_ ?_
      rotate_left
      · go_simp
        rfl
      have hBK8 := blk_far hBK (p := ⟨U6, 0, none⟩) (show w.heap.size ≠ U6 by omega) (.int .i64 a0_4)
      have hL8 := Kd.R_far hL (p := ⟨U6, 0, none⟩) (fun j hj => hj.1) (.int .i64 a0_4)
      have hB8 := below_set (j := 0) (v := .int .i64 a0_4) hB (show w.heap.size ≤ U6 by omega)
      have h68 := blk_put (cs := #[.int .i64 0]) h6 0 (.int .i64 a0_4) rfl
      have h78 := blk_far h7 (p := ⟨U6, 0, none⟩) (Ne.symm hne) (.int .i64 a0_4)
      refine hK.out _ _ ⟨(blk_cell hBK8 0).trans rfl, (blk_cell hBK8 1).trans rfl, (blk_cell hBK8 2).trans rfl, (blk_cell hBK8 3).trans rfl, (blk_cell hBK8 4).trans rfl, (blk_cell hBK8 5).trans rfl, (blk_cell hBK8 6).trans rfl⟩ (fun hHeld => ?_)
      clear hK K h60 f60
      have h70 : (w7.setCell ⟨U6, 0, none⟩ (.int .i64 a0_4)).cell? ⟨U7, 0, none⟩ = some (.int .i64 0) := (blk_cell h78 0).trans rfl
      have f70 := blk_frozen h78 0
      refine one_ (i := 9) (N := none) #[true, true, true, true, true, true, true, true, true, true] rfl rfl (one_of HT_.out (by kernel_rfl)) (by decide) (fun K hK => ?_)
      refine skip_ (w1 := ?_) (by rfl) rfl ?_ ?_
      rotate_left
      · go_simp
        rfl
      have BK := Sd.mk (blk_far hBK8 (p := ⟨U7, 0, none⟩) (show w.heap.size ≠ U7 by omega) (.int .i64 a0_5))
      have HL := Sd.mk (Kd.R_mono (ok' := fun _ => True) (Kd.R_far hL8 (p := ⟨U7, 0, none⟩) (fun j hj => hj.2) (.int .i64 a0_5)) (fun _ _ => trivial))
      have HB := Sd.mk (below_set (j := 0) (v := .int .i64 a0_5) hB8 (show w.heap.size ≤ U7 by omega))
      have B6 := Sd.mk (blk_far h68 (p := ⟨U7, 0, none⟩) hne (.int .i64 a0_5))
      have B7 := Sd.mk (blk_put (cs := #[.int .i64 0]) h78 0 (.int .i64 a0_5) rfl)
      refine hK.out _ _ ⟨(blk_cell BK.out 0).trans rfl, (blk_cell BK.out 1).trans rfl, (blk_cell BK.out 2).trans rfl, (blk_cell BK.out 3).trans rfl, (blk_cell BK.out 4).trans rfl, (blk_cell BK.out 5).trans rfl, (blk_cell BK.out 6).trans rfl⟩ (fun hHeld => ?_)
      clear hK K h70 f70 hBK8 hL8 hB8 h68 h78 hB hBK hL h6 h7 hne hg6 hg7 hS_
      refine done_ (done_of HT_.out (by kernel_rfl)) ?_
      go_upto_region 8 with (fail)
      generalize ((w7.setCell ⟨U6, 0, none⟩ (.int .i64 a0_4)).setCell ⟨U7, 0, none⟩ (.int .i64 a0_5)) = WX at *
      have H := HH.out
      have hr := HRX.out
      have HQ5 := Sd.mk (facQ125 H (u := a0_5) (by omega) B7.out).1
      have HQ6 := Sd.mk (facQ125 H (u := a0_4) (by omega) B6.out).2
      have HBZ := Sd.mk (Below.refl WX.heap.size WX)
      clear B6 B7 H hr
      refine start_ (n := 10) (S := fun w' => w'.cell? ⟨w.heap.size, 0, none⟩ = some (.slice A0_0 l0_0.length c0_0) ∧ w'.cell? ⟨w.heap.size, 1, none⟩ = some (.slice A0_1 l0_1.length c0_1) ∧ w'.cell? ⟨w.heap.size, 2, none⟩ = some (.slice A0_2 l0_2.length c0_2) ∧ w'.cell? ⟨w.heap.size, 3, none⟩ = some (.slice A0_3 l0_3.length c0_3) ∧ w'.cell? ⟨w.heap.size, 4, none⟩ = some (.int .i64 a0_4) ∧ w'.cell? ⟨w.heap.size, 5, none⟩ = some (.int .i64 a0_5) ∧ w'.cell? ⟨w.heap.size, 6, none⟩ = some (.int .i64 a0_6)) (ds := []) #[false, false, false, false, false, false, false, false, false, false] (by kernel_rfl) rfl rfl ⟨(blk_cell BK.out 0).trans rfl, (blk_cell BK.out 1).trans rfl, (blk_cell BK.out 2).trans rfl, (blk_cell BK.out 3).trans rfl, (blk_cell BK.out 4).trans rfl, (blk_cell BK.out 5).trans rfl, (blk_cell BK.out 6).trans rfl⟩ (fun hHeld => ?_); refine with_tabW lines8_tab lines8_bits (fun HT_ HW_ => ?_)
      replace BK := Sd.mk (blk_drew BK.out)
      replace HL := Sd.mk (Kd.R_drew HL.out)
      replace HB := Sd.mk (below_drew1 HB.out)
      replace HBZ := Sd.mk (below_drew1 HBZ.out)
      generalize WX.drew = W9 at BK HL HB HBZ hHeld ⊢
      refine pure_ (i := 0) (N := some 37) (v := ?_) (a' := ?_) #[true, false, false, false, false, false, false, false, false, false] rfl rfl (any_of HT_.out (by kernel_rfl)) (fun _ _ _ h => h) (Or.inl ⟨by rfl, ?_⟩) ?_ ?_
      rotate_left
      · intro w'
        go_simp
        with_reducible rfl
      rotate_left
      · simp only [Act.put, List.setIfInBounds_toArray, List.set_cons_zero, List.set_cons_succ, i64_w, i32_w]
        rfl
      refine take_ (i := 1) (N := some 38) (v := ?_) (a' := ?_) #[true, true, false, false, false, false, false, false, false, false] rfl rfl (take_ofW HT_.out HW_.out (by kernel_rfl)) (fun _ _ _ h => h) (Or.inl ⟨by rfl, ?_⟩) hHeld ?_ ?_
      rotate_left
      · rintro w' ⟨s0, s1, s2, s3, s4, s5, s6⟩
        go_simp
        with_reducible rfl
      rotate_left
      · simp only [Act.put, List.setIfInBounds_toArray, List.set_cons_zero, List.set_cons_succ, i64_w, i32_w]
        rfl
      refine pure_ (i := 2) (N := some 39) (v := ?_) (a' := ?_) #[true, true, true, false, false, false, false, false, false, false] rfl rfl (any_of HT_.out (by kernel_rfl)) (fun _ _ _ h => h) (Or.inl ⟨by rfl, ?_⟩) ?_ ?_
      rotate_left
      · intro w'
        go_simp
        with_reducible rfl
      rotate_left
      · simp only [Act.put, List.setIfInBounds_toArray, List.set_cons_zero, List.set_cons_succ, i64_w, i32_w]
        rfl
      refine take_ (i := 4) (N := some 41) (v := ?_) (a' := ?_) #[true, true, true, false, true, false, false, false, false, false] rfl rfl (take_ofW HT_.out HW_.out (by kernel_rfl)) (fun _ _ _ h => h) (Or.inl ⟨by rfl, ?_⟩) hHeld ?_ ?_
      rotate_left
      · rintro w' ⟨s0, s1, s2, s3, s4, s5, s6⟩
        go_simp
        with_reducible rfl
      rotate_left
      · simp only [Act.put, List.setIfInBounds_toArray, List.set_cons_zero, List.set_cons_succ, i64_w, i32_w]
        rfl
      refine pure_ (i := 5) (N := some 42) (v := ?_) (a' := ?_) #[true, true, true, false, true, true, false, false, false, false] rfl rfl (any_of HT_.out (by kernel_rfl)) (fun _ _ _ h => h) (Or.inl ⟨by rfl, ?_⟩) ?_ ?_
      rotate_left
      · intro w'
        go_simp
        with_reducible rfl
      rotate_left
      · simp only [Act.put, List.setIfInBounds_toArray, List.set_cons_zero, List.set_cons_succ, i64_w, i32_w]
        rfl
      refine one_ (i := 3) (N := some 40) #[true, true, true, true, true, true, false, false, false, false] rfl rfl (one_of HT_.out (by kernel_rfl)) (by decide) (fun K hK => ?_)
      refine goes_ Tryz.func61 (by kernel_rfl) rfl #[.agg #[.slice A0_0 l0_0.length c0_0, .slice A0_1 l0_1.length c0_1, .slice A0_2 l0_2.length c0_2, .slice A0_3 l0_3.length c0_3, .int .i64 a0_4, .int .i64 a0_5, .int .i64 a0_6], .int .i64 0, .func (.func 70) #[] #[.pointer (some ⟨U7, 0, none⟩)]] (by rfl) rfl rfl (by (try simp only [List.map_toArray, List.map_cons, List.map_nil]); first | done | rfl) ?_
      refine (line_calls A0_0 A0_1 A0_2 A0_3 l0_0.length c0_0 c0_1 l0_2.length c0_2 l0_3.length c0_3 l0_1 a0_4 a0_5 a0_6 0 70 #[.pointer (some ⟨U7, 0, none⟩)] (rUp a0_5) _ (enters_of Tryz.func70 (by kernel_rfl) rfl) (fun W hW => HQ5.out W (below_trans' HBZ.out hW)) (Kd.C_below HR1.out HB.out) HM12.out).mono ?_
      rintro e w4 ⟨v1, rfl, hR, hb⟩
      refine ⟨_, rfl, ?_⟩
      have Hv1 := Sd.mk (Kd.R_lower hR (below_size HB.out))
      replace BK := Sd.mk (blk_below BK.out hb)
      replace HL := Sd.mk (Kd.R_below HL.out hb)
      replace HBZ := Sd.mk (below_step HBZ.out hb)
      replace HB := Sd.mk (below_step HB.out hb)
      clear hb hR
      refine hK.out _ _ ⟨(blk_cell BK.out 0).trans rfl, (blk_cell BK.out 1).trans rfl, (blk_cell BK.out 2).trans rfl, (blk_cell BK.out 3).trans rfl, (blk_cell BK.out 4).trans rfl, (blk_cell BK.out 5).trans rfl, (blk_cell BK.out 6).trans rfl⟩ (fun hHeld => ?_)
      clear hK K
      refine norm_ (a' := ?_) ?_ ?_
      rotate_left
      · show Act.put _ (some 40) _ = _
        simp only [Act.put, List.setIfInBounds_toArray, List.set_cons_zero, List.set_cons_succ, i64_w, i32_w]
        rfl
      refine one_ (i := 6) (N := some 43) #[true, true, true, true, true, true, true, false, false, false] rfl rfl (one_of HT_.out (by kernel_rfl)) (by decide) (fun K hK => ?_)
      refine goes_ Tryz.func61 (by kernel_rfl) rfl #[.agg #[.slice A0_0 l0_0.length c0_0, .slice A0_1 l0_1.length c0_1, .slice A0_2 l0_2.length c0_2, .slice A0_3 l0_3.length c0_3, .int .i64 a0_4, .int .i64 a0_5, .int .i64 a0_6], .int .i64 0, .func (.func 71) #[] #[.pointer (some ⟨U6, 0, none⟩)]] (by rfl) rfl rfl (by (try simp only [List.map_toArray, List.map_cons, List.map_nil]); first | done | rfl) ?_
      refine (line_calls A0_0 A0_1 A0_2 A0_3 l0_0.length c0_0 c0_1 l0_2.length c0_2 l0_3.length c0_3 l0_1 a0_4 a0_5 a0_6 0 71 #[.pointer (some ⟨U6, 0, none⟩)] (rDn a0_4) _ (enters_of Tryz.func71 (by kernel_rfl) rfl) (fun W hW => HQ6.out W (below_trans' HBZ.out hW)) (Kd.C_below HR1.out HB.out) HM12.out).mono ?_
      rintro e w4 ⟨v2, rfl, hR, hb⟩
      refine ⟨_, rfl, ?_⟩
      have Hv2 := Sd.mk (Kd.R_lower hR (below_size HB.out))
      replace Hv1 := Sd.mk (Kd.R_below Hv1.out hb)
      replace BK := Sd.mk (blk_below BK.out hb)
      replace HL := Sd.mk (Kd.R_below HL.out hb)
      replace HBZ := Sd.mk (below_step HBZ.out hb)
      replace HB := Sd.mk (below_step HB.out hb)
      clear hb hR
      refine hK.out _ _ ⟨(blk_cell BK.out 0).trans rfl, (blk_cell BK.out 1).trans rfl, (blk_cell BK.out 2).trans rfl, (blk_cell BK.out 3).trans rfl, (blk_cell BK.out 4).trans rfl, (blk_cell BK.out 5).trans rfl, (blk_cell BK.out 6).trans rfl⟩ (fun hHeld => ?_)
      clear hK K
      refine norm_ (a' := ?_) ?_ ?_
      rotate_left
      · show Act.put _ (some 43) _ = _
        simp only [Act.put, List.setIfInBounds_toArray, List.set_cons_zero, List.set_cons_succ, i64_w, i32_w]
        rfl
      refine one_ (i := 7) (N := some 44) #[true, true, true, true, true, true, true, true, false, false] rfl rfl (one_of HT_.out (by kernel_rfl)) (by decide) (fun K hK => ?_)
      refine value_ (w1 := ?_) (v := ?_) (by rfl) rfl ?_ ?_
      rotate_left 2
      · go_simp
        constructor
        · rfl
        · rfl
      refine hK.out _ _ ⟨(blk_cell (blk_alloc BK.out _) 0).trans rfl, (blk_cell (blk_alloc BK.out _) 1).trans rfl, (blk_cell (blk_alloc BK.out _) 2).trans rfl, (blk_cell (blk_alloc BK.out _) 3).trans rfl, (blk_cell (blk_alloc BK.out _) 4).trans rfl, (blk_cell (blk_alloc BK.out _) 5).trans rfl, (blk_cell (blk_alloc BK.out _) 6).trans rfl⟩ (fun hHeld => ?_)
      clear hK K
      refine norm_ (a' := ?_) ?_ ?_
      rotate_left
      · show Act.put _ (some 44) _ = _
        simp only [Act.put, List.setIfInBounds_toArray, List.set_cons_zero, List.set_cons_succ, i64_w, i32_w]
        rfl
      refine one_ (i := 8) (N := some 45) #[true, true, true, true, true, true, true, true, true, false] rfl rfl (one_of HT_.out (by kernel_rfl)) (by decide) (fun K hK => ?_)
      refine Kd.R_append_rows_step k40 (w0 := w) w.heap.size (by rfl) (.tmp 37) (.tmp 44) 35 40 (.agg #[.slice none 0 0, .int .i64 0]) 32 rfl Tryz.underlying35 info40 rfl (by decide) (by omega) u3 (headL l0_1 l0_2 l0_3 a0_6 k) [⟨l0_1.map (rUp a0_5), 0⟩, ⟨l0_1.map (rDn a0_4), 0⟩] (some ⟨_, 0, none⟩) 2 2 (fun _ => True) (fun j => some j ≠ u3.ownBlock) rfl rfl (Kd.R_alloc HL.out _) (pair_reads (x := ⟨l0_1.map (rUp a0_5), 0⟩) (x' := ⟨l0_1.map (rDn a0_4), 0⟩) HL.out (by rw [headL_len]; omega) Hv1.out Hv2.out (below_size HB.out)) (fun _ _ hp => hp) (fun _ hk => ⟨trivial, hk⟩) (fun _ _ => trivial) (below_alloc HB.out _) ?aS ?aL ?_
      (case aS => exact below_size (below_alloc HB.out _))
      (case aL => exact (by rw [headL_len]; exact Nat.le_trans (Nat.mul_le_mul_right 32 HSZ.out) (by decide)))
      intro v5 w5 ho hb hg hat
      have BK2 := Sd.mk (blk_grown (blk_alloc BK.out _) hg (Kd.R_ne HL.out BK.out (by decide)))
      have HO := Sd.mk ho
      have HB2 := Sd.mk hb
      clear BK HL HB Hv1 Hv2 hb ho hat hg
      refine hK.out _ _ ⟨(blk_cell BK2.out 0).trans rfl, (blk_cell BK2.out 1).trans rfl, (blk_cell BK2.out 2).trans rfl, (blk_cell BK2.out 3).trans rfl, (blk_cell BK2.out 4).trans rfl, (blk_cell BK2.out 5).trans rfl, (blk_cell BK2.out 6).trans rfl⟩ (fun hHeld => ?_)
      clear hK K
      refine norm_ (a' := ?_) ?_ ?_
      rotate_left
      · show Act.put _ (some 45) _ = _
        simp only [Act.put, List.setIfInBounds_toArray, List.set_cons_zero, List.set_cons_succ, i64_w, i32_w]
        rfl
      refine pure_ (i := 9) (N := some 2) (v := ?_) (a' := ?_) #[true, true, true, true, true, true, true, true, true, true] rfl rfl (any_of HT_.out (by kernel_rfl)) (fun _ _ _ h => h) (Or.inl ⟨by rfl, ?_⟩) ?_ ?_
      rotate_left
      · intro w'
        go_simp
        with_reducible rfl
      rotate_left
      · simp only [Act.put, List.setIfInBounds_toArray, List.set_cons_zero, List.set_cons_succ, i64_w, i32_w]
        rfl
      refine done_ (done_of HT_.out (by kernel_rfl)) ?_
      go_wp2
      go_ret
      have hkn := HKN.out
      subst hkn
      exact ⟨v5, rfl, HO.out, HB2.out⟩
end
section
def x_lines.f (l0_0 : List ByteArray) (l0_1 : List (S50)) (l0_2 : List (S27)) (l0_3 : List (S77)) (a0_4 : Int) (a0_5 : Int) (a0_6 : Int) : Option (List S40) :=
  if checkV l0_0 l0_1 l0_2 l0_3 a0_4 a0_5 a0_6 = 0 then some (linesV l0_1 l0_2 l0_3 a0_4 a0_5 a0_6) else none
theorem x_lines.calls (A0_0 : Option Addr) (c0_0 : Nat) (l0_0 : List ByteArray) (A0_1 : Option Addr) (c0_1 : Nat) (l0_1 : List (S50)) (A0_2 : Option Addr) (c0_2 : Nat) (l0_2 : List (S27)) (A0_3 : Option Addr) (c0_3 : Nat) (l0_3 : List (S77)) (a0_4 : Int) (a0_5 : Int) (a0_6 : Int) (r : List S40) (w : World) (hr0_0 : Kd.C Kd.string w A0_0 l0_0.length l0_0) (hc0_0 : l0_0.length ≤ c0_0) (hr0_1 : Kd.C k50 w A0_1 l0_1.length l0_1) (hc0_1 : l0_1.length ≤ c0_1) (hr0_2 : Kd.C k27 w A0_2 l0_2.length l0_2) (hc0_2 : l0_2.length ≤ c0_2) (hr0_3 : Kd.C k77 w A0_3 l0_3.length l0_3) (hc0_3 : l0_3.length ≤ c0_3) (h : x_lines.f l0_0 l0_1 l0_2 l0_3 a0_4 a0_5 a0_6 = some r) :
    Calls Tryz.prog 22 #[.agg #[.slice A0_0 l0_0.length c0_0, .slice A0_1 l0_1.length c0_1, .slice A0_2 l0_2.length c0_2, .slice A0_3 l0_3.length c0_3, .int .i64 a0_4, .int .i64 a0_5, .int .i64 a0_6]] w fun e w' => ∃ v0_ : Value, e = .returned v0_ ∧ Kd.R k40 40 w' w.heap.size (fun _ => True) v0_ r ∧ Below w.heap.size w w' := by
  unfold x_lines.f at h
  by_cases hc : checkV l0_0 l0_1 l0_2 l0_3 a0_4 a0_5 a0_6 = 0
  · rw [if_pos hc] at h
    obtain rfl := Option.some.inj h
    exact lines_calls A0_0 c0_0 l0_0 A0_1 c0_1 l0_1 A0_2 c0_2 l0_2 A0_3 c0_3 l0_3 a0_4 a0_5 a0_6 w hr0_0 hc0_0 hr0_1 hc0_1 hr0_2 hc0_2 hr0_3 hc0_3 (check_ok hc)
  · rw [if_neg hc] at h; cases h
end
section
def b_value.l0 : Nat → List Int → Int → List Int → Int → Int → Option (Int)
  | 0, _, _, _, _, _ => none
  | k + 1, x1, x5, x9, x10, x11 => if x11 < x10 then (if 0 ≤ x11 then (if x11 < (x9.length : Int) then (if x11 < (x1.length : Int) then (b_value.l0 k x1 (wrap64 (x5 + (wrap64 ((rd x1 x11) * (rd x9 x11))))) x9 x10 (wrap64 (x11 + 1))) else (none)) else (none)) else (none)) else (some x5)
def b_value.f (k : Nat) (l0_0 : List Int) (a0_1 : Int) (l1 : List Int) : Option (Int) := b_value.l0 k l1 0 l0_0 (l0_0.length : Int) 0
theorem b_value.calls (k : Nat) (A0_0 : Option Addr) (c0_0 : Nat) (l0_0 : List Int) (a0_1 : Int) (A1 : Option Addr) (c1 : Nat) (l1 : List Int) (r : Int) (w : World) (hr0_0 : Kd.C (Kd.int .i64) w A0_0 l0_0.length l0_0) (hc0_0 : l0_0.length ≤ c0_0) (hr1 : Kd.C (Kd.int .i64) w A1 l1.length l1) (hc1 : l1.length ≤ c1) (h : b_value.f k l0_0 a0_1 l1 = some r) :
    Calls Tryz.prog 60 #[.agg #[.slice A0_0 l0_0.length c0_0, .int .i64 a0_1], .slice A1 l1.length c1] w fun e w' => e = .returned (.int .i64 r) ∧ Below w.heap.size w w' := by
  have hu40 := Tryz.underlying40
  have HR0_0 := Sd.mk hr0_0
  have HC0_0 := Sd.mk hc0_0
  clear hr0_0 hc0_0
  have HR1 := Sd.mk hr1
  have HC1 := Sd.mk hc1
  clear hr1 hc1
  have HB := Sd.mk (Below.refl w.heap.size w)
  have H : (b_value.l0 k l1 0 l0_0 (l0_0.length : Int) 0) = some r := h
  clear h
  have H' := Sd.mk H
  clear H
  go_enter Tryz.func60, Tryz.ntmps60
  go_wp2_with (first | ((with_reducible refine gate_dst (N := 2) rfl ?_); refine box_event ?hg (N := 2) ?hd (cs := #[.slice A0_0 l0_0.length c0_0, .int .i64 a0_1]) (t := 40) ?hr ?_; (case hd => rfl); (case hg => rfl); (case hr => first | (go_simp; done) | (go_simp; rfl)); intro gb425 hg w3 hbox hb; have n0_ := Sd.mk (below_step (by repeat (first | (with_reducible first | exact HB.out | apply below_alloc | apply pw_below_drewN | apply below_drew1) | exact HB.out)) hb); have n1_ := Sd.mk (hbox); have n2_ := Sd.mk ((by rw [hg]; exact (below_size (by repeat (first | (with_reducible first | exact HB.out | apply below_alloc | apply pw_below_drewN | apply below_drew1) | exact HB.out))) : w.heap.size ≤ gb425)); have n3_ := Sd.mk ((by rw [hg]; exact (below_size (by repeat (first | (with_reducible first | exact HB.out | apply below_alloc | apply pw_below_drewN | apply below_drew1) | exact HB.out))) : w.heap.size ≤ gb425)); clear HB; have HB := n0_; have BK425 := n1_; have GW425 := n2_; have GE425 := n3_; clear n0_ n1_ n2_ n3_; clear hb hbox hg; have hcz4_0 : w3.cell? ⟨gb425, 0, none⟩ = some (.slice A0_0 l0_0.length c0_0) := (blk_cell BK425.out 0).trans rfl; have hcz4_1 : w3.cell? ⟨gb425, 1, none⟩ = some (.int .i64 a0_1) := (blk_cell BK425.out 1).trans rfl; have hfz4_0 := blk_frozen BK425.out 0; have hfz4_1 := blk_frozen BK425.out 1))
  go_loopg [5, 11] k (fun kq v5 v11 w' => ∃ (x5_1 : Int) (x11_1 : Int), v5 = .int .i64 x5_1 ∧ v11 = .int .i64 x11_1 ∧ Sd (b_value.l0 kq l1 x5_1 l0_0 (l0_0.length : Int) x11_1 = some r) ∧ Sd (kq ≤ k) ∧ Sd (w'.heap[gb425]? = some (.cells #[(.slice A0_0 l0_0.length c0_0), .int .i64 a0_1] 40 (0, 0))) ∧ Sd (Below w.heap.size w w'))
  case atStart => exact ⟨(0), (0), (by first | rfl | (simp; done) | (simp [*]; done)), (by first | rfl | (simp; done) | (simp [*]; done)), H', ⟨Nat.le_refl _⟩, ⟨by (with_reducible repeat (first | refine blk_drewN ?_ _ | refine blk_drew ?_ | refine blk_alloc ?_ _)); exact BK425.out⟩, ⟨by repeat (first | (with_reducible first | exact HB.out | apply below_alloc | apply pw_below_drewN | apply below_drew1 | refine below_set ?_ GE425.out) | exact HB.out)⟩⟩
  case round =>
    clear H'
    try clear c1
    try clear p2
    try clear hcz4_0
    try clear hcz4_1
    try clear hfz4_0
    try clear hfz4_1
    obtain ⟨x5_1, x11_1, rfl, rfl, HA, HK1, BK425, HB⟩ := hrel
    cases gk with
    | zero => exact absurd HA.out (by simp [b_value.l0])
    | succ k1 =>
      have H := HA.out
      clear HA
      simp only [b_value.l0] at H
      by_cases c5 : x11_1 < (l0_0.length : Int)
      · rw [if_pos c5] at H
        have c5b0 : decide (x11_1 < (l0_0.length : Int)) = true := decide_eq_true c5
        clear c5
        by_cases c6 : 0 ≤ x11_1
        · rw [if_pos c6] at H
          have c6b0 : decide (0 ≤ x11_1) = true := decide_eq_true c6
          clear c6
          by_cases c7 : x11_1 < (l0_0.length : Int)
          · rw [if_pos c7] at H
            have c7b0 : decide (x11_1 < (l0_0.length : Int)) = true := decide_eq_true c7
            clear c7
            by_cases c8 : x11_1 < (l1.length : Int)
            · rw [if_pos c8] at H
              have c8b0 : decide (x11_1 < (l1.length : Int)) = true := decide_eq_true c8
              clear c8
              have H' := Sd.mk H
              clear H
              have p426 : 0 ≤ (x11_1 : Int) := of_decide_eq_true (by first | (with_reducible assumption) | assumption)
              have q426 : x11_1 < (l0_0.length : Int) := of_decide_eq_true (by first | (with_reducible assumption) | assumption)
              obtain ⟨ad426, e426, hx426_0⟩ := Kd.at_int HR0_0.out x11_1 p426 q426
              cases e426
              replace hx426_0 := (HB.out.cell (World.block_lt_of_cell? w _ hx426_0)).trans hx426_0
              replace p426 := eq_true p426
              replace q426 := eq_true q426
              have p427 : 0 ≤ (x11_1 : Int) := of_decide_eq_true (by first | (with_reducible assumption) | assumption)
              have q427 : x11_1 < (l1.length : Int) := of_decide_eq_true (by first | (with_reducible assumption) | assumption)
              obtain ⟨ad427, e427, hx427_0⟩ := Kd.at_int HR1.out x11_1 p427 q427
              cases e427
              replace hx427_0 := (HB.out.cell (World.block_lt_of_cell? w _ hx427_0)).trans hx427_0
              replace p427 := eq_true p427
              replace q427 := eq_true q427
              go_wp2
              go_roundg k1
              case measure => have := HK1.out; omega
              case rel => exact ⟨(wrap64 (x5_1 + (wrap64 ((rd l1 x11_1) * (rd l0_0 x11_1))))), (wrap64 (x11_1 + 1)), (by first | rfl | (simp; done) | (simp [*]; done)), (by first | rfl | (simp; done) | (simp [*]; done)), H', ⟨by have := HK1.out; omega⟩, ⟨by (with_reducible repeat (first | refine blk_drewN ?_ _ | refine blk_drew ?_ | refine blk_alloc ?_ _)); exact BK425.out⟩, ⟨by repeat (first | (with_reducible first | exact HB.out | apply below_alloc | apply pw_below_drewN | apply below_drew1 | refine below_set ?_ GE425.out) | exact HB.out)⟩⟩
            · rw [if_neg c8] at H
              exact absurd H (by simp)
          · rw [if_neg c7] at H
            exact absurd H (by simp)
        · rw [if_neg c6] at H
          exact absurd H (by simp)
      · rw [if_neg c5] at H
        have c5b0 : decide (x11_1 < (l0_0.length : Int)) = false := decide_eq_false c5
        clear c5
        obtain rfl := Option.some.inj H
        go_wp2
        go_ret
        exact ⟨by first | rfl | (simp [errW_none, errW_some] <;> rfl) | (simp [*, errW_none, errW_some] <;> rfl), by repeat (first | (with_reducible first | exact HB.out | apply below_alloc | apply pw_below_drewN | apply below_drew1 | refine below_set ?_ GE425.out) | exact HB.out)⟩
end
section
def vW (r fs : List Int) : Nat → Int
  | 0 => 0
  | i + 1 => wrap64 (vW r fs i + wrap64 (rd r (i : Int) * rd fs (i : Int)))
theorem value_l0 (r fs : List Int) (h1 : fs.length ≤ r.length) (h2 : fs.length ≤ 1000000) : ∀ (m i : Nat), i + m = fs.length → Ev (fun k => b_value.l0 k r (vW r fs i) fs (fs.length : Int) (i : Int)) (vW r fs fs.length)
  | 0, i, hi => by
    apply Ev.step
    simp only [b_value.l0, if_neg (show ¬ (i : Int) < (fs.length : Int) by omega)]
    rw [show i = fs.length by omega]
    exact Ev.const _
  | m + 1, i, hi => by
    have ih := value_l0 r fs h1 h2 m (i + 1) (by omega)
    apply Ev.step
    simp only [b_value.l0, if_pos (show (i : Int) < (fs.length : Int) by omega), if_pos (i_pos i), if_pos (show (i : Int) < (r.length : Int) by omega), wrap_succ (i_pos i) (show (i : Int) ≤ 1000000000 by omega)]
    exact ih
theorem value_calls (x : S40) (r : List Int) (Ax A1 : Option Addr) (cx c1 : Nat) (w : World) (hx : Kd.C (Kd.int .i64) w Ax x.f0.length x.f0) (hcx : x.f0.length ≤ cx) (hr : Kd.C (Kd.int .i64) w A1 r.length r) (hc1 : r.length ≤ c1) (h1 : x.f0.length ≤ r.length) (h2 : x.f0.length ≤ 1000000) :
    Calls Tryz.prog 60 (#[.agg #[.slice Ax x.f0.length cx, .int .i64 x.f1]] ++ #[.slice A1 r.length c1]) w fun e w' => e = .returned (.int .i64 (vW r x.f0 x.f0.length)) ∧ Below w.heap.size w w' := by
  obtain ⟨K, hK⟩ := value_l0 r x.f0 h1 h2 x.f0.length 0 (by omega)
  exact b_value.calls K Ax cx x.f0 x.f1 A1 c1 r _ w hx hcx hr hc1 (hK K (Nat.le_refl _))
def keepT : Bool × List (List Nat × List Nat) := (true, [([], []), ([], []), ([0, 1], [0, 1]), ([], []), ([], []), ([4], [4]), ([3, 5], [3, 5]), ([2, 6], [2, 6]), ([7, 2, 0, 1, 2, 3, 4, 5, 6, 7], [7])])
def keepB : List Nat := [0, 0, 3, 0, 0, 16, 56, 127, 255]
theorem keep_tab : rtab .any (opsOf Tryz.f59 1) = keepT := by kernel_rfl
theorem keep_bits : waitsOk keepT.2 keepB = true := by kernel_rfl
theorem k110_calls (x : S40) (r : List Int) (Ax A1 : Option Addr) (cx c1 R T_ : Nat) (t : Int) (w : World) (hx : Kd.C (Kd.int .i64) w Ax x.f0.length x.f0) (hcx : x.f0.length ≤ cx) (hr : Kd.C (Kd.int .i64) w A1 r.length r) (hc1 : r.length ≤ c1) (h1 : x.f0.length ≤ r.length) (h2 : x.f0.length ≤ 1000000)
    (hR : w.heap[R]? = some (.cells #[.slice A1 r.length c1] 34 (0, 0))) (hT : w.heap[T_]? = some (.cells #[.int .i64 t] 3 (0, 0))) :
    Calls Tryz.prog 59 #[.agg #[.slice Ax x.f0.length cx, .int .i64 x.f1], .pointer (some ⟨R, 0, none⟩), .pointer (some ⟨T_, 0, none⟩)] w fun e w' => e = .returned (.bool (decide (wrap64 (t * x.f1) < vW r x.f0 x.f0.length))) ∧ Below w.heap.size w w' := by
  have hb0 : Below w.heap.size w (w.alloc (.cells #[.slice Ax x.f0.length cx, .int .i64 x.f1] 40)) := below_alloc (Below.refl _ _) _
  have HB := Sd.mk hb0
  have BX := Sd.mk (blk_new w (.cells #[.slice Ax x.f0.length cx, .int .i64 x.f1] 40))
  have BR := Sd.mk (blk_below hR hb0)
  have BT := Sd.mk (blk_below hT hb0)
  have HX := Sd.mk (Kd.C_below hx hb0)
  have HR := Sd.mk (Kd.C_below hr hb0)
  have HCX := Sd.mk hcx
  have HC1 := Sd.mk hc1
  have H1 := Sd.mk h1
  have H2 := Sd.mk h2
  clear hx hcx hr hc1 h1 h2 hR hT hb0
  go_enter Tryz.func59, Tryz.ntmps59
  go_upto_region 1 with (fail)
  generalize w.alloc (.cells #[.slice Ax x.f0.length cx, .int .i64 x.f1] 40) = WX at *
  generalize hXX : w.heap.size = X at BX ⊢
  generalize hv : vW r x.f0 x.f0.length = v at *
  refine start_ (n := 9) (S := fun w' => w'.cell? ⟨X, 0, none⟩ = some (.slice Ax x.f0.length cx) ∧ w'.cell? ⟨X, 1, none⟩ = some (.int .i64 x.f1) ∧ w'.cell? ⟨R, 0, none⟩ = some (.slice A1 r.length c1) ∧ w'.cell? ⟨T_, 0, none⟩ = some (.int .i64 t)) (ds := []) #[false, false, false, false, false, false, false, false, false] (by kernel_rfl) rfl rfl ⟨(blk_cell BX.out 0).trans rfl, (blk_cell BX.out 1).trans rfl, (blk_cell BR.out 0).trans rfl, (blk_cell BT.out 0).trans rfl⟩ (fun hHeld => ?_); refine with_tabW keep_tab keep_bits (fun HT_ HW_ => ?_)
  replace BX := Sd.mk (blk_drew BX.out)
  replace BR := Sd.mk (blk_drew BR.out)
  replace BT := Sd.mk (blk_drew BT.out)
  replace HX := Sd.mk (Kd.C_drew HX.out)
  replace HR := Sd.mk (Kd.C_drew HR.out)
  replace HB := Sd.mk (below_drew1 HB.out)
  generalize WX.drew = W0 at BX BR BT HX HR HB hHeld ⊢
  refine take_ (i := 0) (N := some 5) (v := ?_) (a' := ?_) #[true, false, false, false, false, false, false, false, false] rfl rfl (take_ofW HT_.out HW_.out (by kernel_rfl)) (fun _ _ _ h => h) (Or.inl ⟨by rfl, ?_⟩) hHeld ?_ ?_
  rotate_left
  · rintro w' ⟨s0, s1, s2, s3⟩
    go_simp
    with_reducible rfl
  rotate_left
  · simp only [Act.put, List.setIfInBounds_toArray, List.set_cons_zero, List.set_cons_succ, i64_w, i32_w]
    rfl
  refine take_ (i := 1) (N := some 6) (v := ?_) (a' := ?_) #[true, true, false, false, false, false, false, false, false] rfl rfl (take_ofW HT_.out HW_.out (by kernel_rfl)) (fun _ _ _ h => h) (Or.inl ⟨by rfl, ?_⟩) hHeld ?_ ?_
  rotate_left
  · rintro w' ⟨s0, s1, s2, s3⟩
    go_simp
    with_reducible rfl
  rotate_left
  · simp only [Act.put, List.setIfInBounds_toArray, List.set_cons_zero, List.set_cons_succ, i64_w, i32_w]
    rfl
  refine take_ (i := 3) (N := some 8) (v := ?_) (a' := ?_) #[true, true, false, true, false, false, false, false, false] rfl rfl (take_ofW HT_.out HW_.out (by kernel_rfl)) (fun _ _ _ h => h) (Or.inl ⟨by rfl, ?_⟩) hHeld ?_ ?_
  rotate_left
  · rintro w' ⟨s0, s1, s2, s3⟩
    go_simp
    with_reducible rfl
  rotate_left
  · simp only [Act.put, List.setIfInBounds_toArray, List.set_cons_zero, List.set_cons_succ, i64_w, i32_w]
    rfl
  refine pure_ (i := 4) (N := some 9) (v := ?_) (a' := ?_) #[true, true, false, true, true, false, false, false, false] rfl rfl (any_of HT_.out (by kernel_rfl)) (fun _ _ _ h => h) (Or.inl ⟨by rfl, ?_⟩) ?_ ?_
  rotate_left
  · intro w'
    go_simp
    with_reducible rfl
  rotate_left
  · simp only [Act.put, List.setIfInBounds_toArray, List.set_cons_zero, List.set_cons_succ, i64_w, i32_w]
    rfl
  refine take_ (i := 5) (N := some 10) (v := ?_) (a' := ?_) #[true, true, false, true, true, true, false, false, false] rfl rfl (take_ofW HT_.out HW_.out (by kernel_rfl)) (fun _ _ _ h => h) (Or.inl ⟨by rfl, ?_⟩) hHeld ?_ ?_
  rotate_left
  · rintro w' ⟨s0, s1, s2, s3⟩
    go_simp
    with_reducible rfl
  rotate_left
  · simp only [Act.put, List.setIfInBounds_toArray, List.set_cons_zero, List.set_cons_succ, i64_w, i32_w]
    rfl
  refine pure_ (i := 6) (N := some 11) (v := ?_) (a' := ?_) #[true, true, false, true, true, true, true, false, false] rfl rfl (any_of HT_.out (by kernel_rfl)) (fun _ _ _ h => h) (Or.inl ⟨by rfl, ?_⟩) ?_ ?_
  rotate_left
  · intro w'
    go_simp
    with_reducible rfl
  rotate_left
  · simp only [Act.put, List.setIfInBounds_toArray, List.set_cons_zero, List.set_cons_succ, i64_w, i32_w]
    rfl
  refine one_ (i := 2) (N := some 7) #[true, true, true, true, true, true, true, false, false] rfl rfl (one_of HT_.out (by kernel_rfl)) (by decide) (fun K hK => ?_)
  refine goes_ Tryz.func60 (by kernel_rfl) rfl (#[.agg #[.slice Ax x.f0.length cx, .int .i64 x.f1]] ++ #[.slice A1 r.length c1]) (by rfl) rfl rfl (by (try simp only [List.map_toArray, List.map_cons, List.map_nil]); first | done | rfl) ?_
  refine (value_calls x r Ax A1 cx c1 W0 HX.out HCX.out HR.out HC1.out H1.out H2.out).mono ?_
  rintro e w4 ⟨rfl, hb⟩
  refine ⟨_, rfl, ?_⟩
  replace BX := Sd.mk (blk_below BX.out hb)
  replace BR := Sd.mk (blk_below BR.out hb)
  replace BT := Sd.mk (blk_below BT.out hb)
  replace HB := Sd.mk (below_step HB.out hb)
  clear hb HX HR
  refine hK.out _ _ ⟨(blk_cell BX.out 0).trans rfl, (blk_cell BX.out 1).trans rfl, (blk_cell BR.out 0).trans rfl, (blk_cell BT.out 0).trans rfl⟩ (fun hHeld => ?_)
  clear hK K
  refine norm_ (a' := ?_) ?_ ?_
  rotate_left
  · show Act.put _ (some 7) _ = _
    simp only [Act.put, List.setIfInBounds_toArray, List.set_cons_zero, List.set_cons_succ, i64_w, i32_w]
    rfl
  refine pure_ (i := 7) (N := some 12) (v := ?_) (a' := ?_) #[true, true, true, true, true, true, true, true, false] rfl rfl (any_of HT_.out (by kernel_rfl)) (fun _ _ _ h => h) (Or.inl ⟨by rfl, ?_⟩) ?_ ?_
  rotate_left
  · intro w'
    go_simp
    with_reducible rfl
  rotate_left
  · simp only [Act.put, List.setIfInBounds_toArray, List.set_cons_zero, List.set_cons_succ, i64_w, i32_w]
    rfl
  refine pure_ (i := 8) (N := some 4) (v := ?_) (a' := ?_) #[true, true, true, true, true, true, true, true, true] rfl rfl (any_of HT_.out (by kernel_rfl)) (fun _ _ _ h => h) (Or.inl ⟨by rfl, ?_⟩) ?_ ?_
  rotate_left
  · intro w'
    go_simp
    with_reducible rfl
  rotate_left
  · simp only [Act.put, List.setIfInBounds_toArray, List.set_cons_zero, List.set_cons_succ, i64_w, i32_w]
    rfl
  refine done_ (done_of HT_.out (by kernel_rfl)) ?_
  go_wp2
  go_ret
  subst hv
  exact ⟨by first | rfl | simp, HB.out⟩
def TellsL (g : Nat) (lb : Array Value) (x : S40) (b : Bool) (w : World) : Prop :=
  ∀ W, Below w.heap.size w W → ∀ (Ax : Option Addr) (cx : Nat), Kd.C (Kd.int .i64) W Ax x.f0.length x.f0 → x.f0.length ≤ cx →
    Calls Tryz.prog g (#[.agg #[.slice Ax x.f0.length cx, .int .i64 x.f1]] ++ lb) W fun e W' => e = .returned (.bool b) ∧ Below W.heap.size W W'
theorem indexFunc_line (p : S40 → Bool) (g : Nat) (lb : Array Value) (eg : ∀ args w, (callFunc g args).run Tryz.prog w = .ok (.enter g args) w)
    (A : Option Addr) (c : Nat) (l : List S40) (w : World) (hr : Kd.C k40 w A l.length l) (hg : ∀ x ∈ l, TellsL g lb x (p x) w) :
    Calls Tryz.prog 106 #[.slice A l.length c, .func (.func g) #[] lb] w fun e w' => e = .returned (.int .i64 (idxFrom p l 0)) ∧ Below w.heap.size w w' := by
  have HR := Sd.mk hr
  have HG := Sd.mk hg
  have hmax := Kd.C_max hr
  clear hr hg
  go_enter Tryz.func106, Tryz.ntmps106
  go_wp2
  go_loopg [5, 8] l.length (fun kq _ v8 w' => ∃ k : Nat, v8 = .int .i64 k ∧ k ≤ l.length ∧ Sd (l.length - k ≤ kq) ∧ Sd (idxFrom p l 0 = idxFrom p (l.drop k) k) ∧ Sd (Below w.heap.size w w'))
  case atStart => exact ⟨0, rfl, Nat.zero_le _, ⟨by omega⟩, ⟨rfl⟩, ⟨Below.refl _ _⟩⟩
  case round =>
    obtain ⟨k, rfl, hk, HM, HI, HB⟩ := hrel
    by_cases hlt : k < l.length
    · have hltz : (k : Int) < (l.length : Int) := by omega
      obtain ⟨ad, Ax, cx, e, hc0, hc1, hlx, hix⟩ := at_T40 (Kd.C_below HR.out HB.out) (k : Int) (by omega) hltz
      cases e
      have HD := idxFrom_drop p z40 l k hlt k
      have hx : rd_T40 l (k : Int) = l.getD k z40 := by simp [rd_T40]
      have hmem : l.getD k z40 ∈ l := by
        rw [List.getD_eq_getElem?_getD, List.getElem?_eq_getElem hlt]; exact List.getElem_mem hlt
      rw [hx] at hc0 hc1 hlx hix
      have hcall := HG.out _ hmem _ HB.out Ax cx hix hlx
      generalize hxx : l.getD k z40 = x at hc0 hc1 hcall HD
      have HX := Sd.mk hxx
      have HD' := Sd.mk HD
      clear hxx HD hx hmem hlx hix
      simp only [Int.toNat_natCast] at hc0 hc1
      cases hp : p x with
      | true =>
        rw [hp] at hcall
        have HP := Sd.mk hp
        clear hp
        go_wp2_with (go_at_fn g; refine (hcall).mono ?_; rintro e w1 ⟨rfl, hb1⟩)
        go_ret
        exact ⟨by rw [HI.out, HD'.out, if_pos HP.out]; rfl, below_trans' HB.out hb1⟩
      | false =>
        rw [hp] at hcall
        have HP := Sd.mk hp
        clear hp
        go_wp2_with (go_at_fn g; refine (hcall).mono ?_; rintro e w1 ⟨rfl, hb1⟩)
        go_roundg (l.length - (k + 1))
        case measure => have := HM.out; omega
        case rel =>
          exact ⟨k + 1, by go_num, by omega, ⟨by omega⟩, ⟨by rw [HI.out, HD'.out, if_neg (by rw [HP.out]; simp)]; simp⟩, ⟨below_trans' HB.out hb1⟩⟩
    · have hltz : ¬ (k : Int) < (l.length : Int) := by omega
      go_wp2
      go_ret
      exact ⟨by rw [HI.out, List.drop_eq_nil_of_le (by omega)]; rfl, HB.out⟩
theorem containsFunc_line (p : S40 → Bool) (g : Nat) (lb : Array Value) (eg : ∀ args w, (callFunc g args).run Tryz.prog w = .ok (.enter g args) w)
    (A : Option Addr) (c : Nat) (l : List S40) (w : World) (hr : Kd.C k40 w A l.length l) (hg : ∀ x ∈ l, TellsL g lb x (p x) w) :
    Calls Tryz.prog 58 #[.slice A l.length c, .func (.func g) #[] lb] w fun e w' => e = .returned (.bool (l.any p)) ∧ Below w.heap.size w w' := by
  have H := indexFunc_line p g lb eg A c l w hr hg
  have HA := Sd.mk (idxFrom_any p l 0 (Int.le_refl 0))
  clear hr hg eg
  go_enter Tryz.func58, Tryz.ntmps58
  go_wp2_with (go_at_call 106; refine H.mono ?_; rintro e w1 ⟨rfl, hb1⟩)
  go_ret
  exact ⟨by rw [← HA.out]; rfl, hb1⟩
def x_keeps.f (l : List S40) (r : List Int) (t : Int) : Option Bool :=
  if (l.all fun x => decide (x.f0.length ≤ r.length) && decide (x.f0.length ≤ 1000000)) = true then some (!(l.any fun x => decide (wrap64 (t * x.f1) < vW r x.f0 x.f0.length))) else none
theorem x_keeps.calls (A0 : Option Addr) (c0 : Nat) (l0 : List S40) (A1 : Option Addr) (c1 : Nat) (l1 : List Int) (a2 : Int) (r : Bool) (w : World) (hr0 : Kd.C k40 w A0 l0.length l0) (hc0 : l0.length ≤ c0) (hr1 : Kd.C (Kd.int .i64) w A1 l1.length l1) (hc1 : l1.length ≤ c1) (h : x_keeps.f l0 l1 a2 = some r) :
    Calls Tryz.prog 21 #[.slice A0 l0.length c0, .slice A1 l1.length c1, .int .i64 a2] w fun e w' => e = .returned (.bool r) ∧ Below w.heap.size w w' := by
  unfold x_keeps.f at h
  by_cases hall : (l0.all fun x => decide (x.f0.length ≤ l1.length) && decide (x.f0.length ≤ 1000000)) = true
  · rw [if_pos hall] at h
    obtain rfl := Option.some.inj h
    have hb0 : Below w.heap.size w ((w.alloc (.cells #[.slice A1 l1.length c1] 34)).alloc (.cells #[.int .i64 a2] 3)) := below_alloc (below_alloc (Below.refl _ _) _) _
    have hR : ((w.alloc (.cells #[.slice A1 l1.length c1] 34)).alloc (.cells #[.int .i64 a2] 3)).heap[w.heap.size]? = some (.cells #[.slice A1 l1.length c1] 34 (0, 0)) := blk_alloc (blk_new w _) _
    have hT : ((w.alloc (.cells #[.slice A1 l1.length c1] 34)).alloc (.cells #[.int .i64 a2] 3)).heap[w.heap.size + 1]? = some (.cells #[.int .i64 a2] 3 (0, 0)) := by
      have := blk_new (w.alloc (.cells #[.slice A1 l1.length c1] 34)) (.cells #[.int .i64 a2] 3)
      simpa using this
    have hgo := containsFunc_line (fun x => decide (wrap64 (a2 * x.f1) < vW l1 x.f0 x.f0.length)) 59 #[.pointer (some ⟨w.heap.size, 0, none⟩), .pointer (some ⟨w.heap.size + 1, 0, none⟩)] (enters_of Tryz.func59 (by kernel_rfl) rfl) A0 c0 l0 _ (Kd.C_below hr0 hb0) (fun x hx W hW Ax cx hix hlx => by
      have hh := List.all_eq_true.1 hall x hx
      simp only [Bool.and_eq_true, decide_eq_true_eq] at hh
      exact k110_calls x l1 Ax A1 cx c1 w.heap.size (w.heap.size + 1) a2 W hix hlx (Kd.C_below (Kd.C_below hr1 hb0) hW) hc1 hh.1 hh.2 (blk_below hR hW) (blk_below hT hW))
    have HB := Sd.mk hb0
    clear hb0 hR hT hr0 hr1 hc0 hc1 h hall
    go_enter Tryz.func21, Tryz.ntmps21
    go_wp2_with (go_at_call 58; refine hgo.mono ?_; rintro e w1 ⟨rfl, hb1⟩)
    go_ret
    exact ⟨by first | rfl | simp, below_trans' HB.out hb1⟩
  · rw [if_neg hall] at h; cases h
end
section
def b_Passes.f (k : Nat) (l0_0 : List ByteArray) (l0_1 : List (S50)) (l0_2 : List (S27)) (l0_3 : List (S77)) (a0_4 : Int) (a0_5 : Int) (a0_6 : Int) (l1 : List Int) : Option (Bool × Int) := (b_asked.f k l0_0 l0_1 l0_2 l0_3 a0_4 a0_5 a0_6 l1).bind fun t162 => (if t162 = 0 then ((x_lines.f l0_0 l0_1 l0_2 l0_3 a0_4 a0_5 a0_6).bind fun t163 => ((x_keeps.f t163 l1 1).bind fun t166 => (some (t166, 0)))) else (some (false, t162)))
theorem b_Passes.calls (k : Nat) (A0_0 : Option Addr) (c0_0 : Nat) (l0_0 : List ByteArray) (A0_1 : Option Addr) (c0_1 : Nat) (l0_1 : List (S50)) (A0_2 : Option Addr) (c0_2 : Nat) (l0_2 : List (S27)) (A0_3 : Option Addr) (c0_3 : Nat) (l0_3 : List (S77)) (a0_4 : Int) (a0_5 : Int) (a0_6 : Int) (A1 : Option Addr) (c1 : Nat) (l1 : List Int) (r1 : Bool) (r2 : Int) (w : World) (hr0_0 : Kd.C Kd.string w A0_0 l0_0.length l0_0) (hc0_0 : l0_0.length ≤ c0_0) (hr0_1 : Kd.C k50 w A0_1 l0_1.length l0_1) (hc0_1 : l0_1.length ≤ c0_1) (hr0_2 : Kd.C k27 w A0_2 l0_2.length l0_2) (hc0_2 : l0_2.length ≤ c0_2) (hr0_3 : Kd.C k77 w A0_3 l0_3.length l0_3) (hc0_3 : l0_3.length ≤ c0_3) (hr1 : Kd.C (Kd.int .i64) w A1 l1.length l1) (hc1 : l1.length ≤ c1) (h : b_Passes.f k l0_0 l0_1 l0_2 l0_3 a0_4 a0_5 a0_6 l1 = some (r1, r2)) :
  Calls Tryz.prog 7 #[.agg #[.slice A0_0 l0_0.length c0_0, .slice A0_1 l0_1.length c0_1, .slice A0_2 l0_2.length c0_2, .slice A0_3 l0_3.length c0_3, .int .i64 a0_4, .int .i64 a0_5, .int .i64 a0_6], .slice A1 l1.length c1] w fun e w' => e = .returned (.tuple #[.bool r1, .int .i64 r2]) ∧ Below w.heap.size w w' := by
 have hu29 := Tryz.underlying29; have HR0_0 := Sd.mk hr0_0; have HC0_0 := Sd.mk hc0_0; clear hr0_0 hc0_0; have HR0_1 := Sd.mk hr0_1; have HC0_1 := Sd.mk hc0_1; clear hr0_1 hc0_1; have HR0_2 := Sd.mk hr0_2; have HC0_2 := Sd.mk hc0_2; clear hr0_2 hc0_2; have HR0_3 := Sd.mk hr0_3; have HC0_3 := Sd.mk hc0_3; clear hr0_3 hc0_3; have HR1 := Sd.mk hr1; have HC1 := Sd.mk hc1; clear hr1 hc1; have HB := Sd.mk (Below.refl w.heap.size w)
 have H : ((b_asked.f k l0_0 l0_1 l0_2 l0_3 a0_4 a0_5 a0_6 l1).bind fun t162 => (if t162 = 0 then ((x_lines.f l0_0 l0_1 l0_2 l0_3 a0_4 a0_5 a0_6).bind fun t163 => ((x_keeps.f t163 l1 1).bind fun t166 => (some (t166, 0)))) else (some (false, t162)))) = some (r1, r2) := h
 clear h; replace H := Option.bind_eq_some_iff.mp H; obtain ⟨t162, A30, H⟩ := H
 try dsimp only at H
 have A3 := Sd.mk A30; clear A30
 by_cases c4 : t162 = 0
 ·rw [if_pos c4] at H
  have c4b0 : (t162 == 0) = true := beq_iff_eq.mpr c4
  have c4b1 : (t162 != 0) = false := bne_eq_false_iff_eq.mpr c4
  clear c4; replace H := Option.bind_eq_some_iff.mp H; obtain ⟨t163, A50, H⟩ := H
  try dsimp only at H
  have A5 := Sd.mk A50; clear A50; replace H := Option.bind_eq_some_iff.mp H; obtain ⟨t166, A60, H⟩ := H
  try dsimp only at H
  have A6 := Sd.mk A60; clear A60
  simp only [Option.some.injEq, Prod.mk.injEq] at H
  obtain ⟨rfl, rfl⟩ := H
  go_enter Tryz.func7, Tryz.ntmps7
  go_wp2_with (first | ((with_reducible refine gate_dst (N := 2) rfl ?_); refine box_event ?hg (N := 2) ?hd (cs := #[.slice A0_0 l0_0.length c0_0, .slice A0_1 l0_1.length c0_1, .slice A0_2 l0_2.length c0_2, .slice A0_3 l0_3.length c0_3, .int .i64 a0_4, .int .i64 a0_5, .int .i64 a0_6]) (t := 29) ?hr ?_; (case hd => rfl); (case hg => rfl); (case hr => exact tG); intro gb161 hg w7 hbox hb; have BK161 := Sd.mk (hbox); have GW161 := Sd.mk (bSz hg (bBl HB.out)); have GE161 := Sd.mk (bSz hg (bBl HB.out)); replace HB := Sd.mk (below_step (bBl HB.out) hb); clear hb hbox hg; obtain ⟨u8_0, u8_1, u8_2, u8_3, u8_4, u8_5, u8_6, o8_0, o8_1, o8_2, o8_3, o8_4, o8_5, o8_6⟩ := bc7 (w := w7) BK161.out) | ((with_reducible refine gate_callee (f := 20) rfl ?_); refine goesL_ (some 9) rfl rfl Tryz.func20 (by kernel_rfl) rfl #[.agg #[.slice A0_0 l0_0.length c0_0, .slice A0_1 l0_1.length c0_1, .slice A0_2 l0_2.length c0_2, .slice A0_3 l0_3.length c0_3, .int .i64 a0_4, .int .i64 a0_5, .int .i64 a0_6], .slice A1 l1.length c1] rfl tM ?_; (with_reducible refine (b_asked.calls k _ _ l0_0 _ _ l0_1 _ _ l0_2 _ _ l0_3 a0_4 a0_5 a0_6 _ _ l1 t162 _ (cS (Kd.C_below HR0_0.out HB.out)) HC0_0.out (cS (Kd.C_below HR0_1.out HB.out)) HC0_1.out (cS (Kd.C_below HR0_2.out HB.out)) HC0_2.out (cS (Kd.C_below HR0_3.out HB.out)) HC0_3.out (cS (Kd.C_below HR1.out HB.out)) HC1.out A3.out).mono ?_); rintro e w9 ⟨rfl, hb⟩; refine ⟨_, rfl, ?_⟩; replace BK161 := Sd.mk (blk_below (bkA BK161.out) hb); replace HB := Sd.mk (below_step (bBl HB.out) hb); (try clear hb); (try clear hb2); (try clear hk); (try clear hi); obtain ⟨u10_0, u10_1, u10_2, u10_3, u10_4, u10_5, u10_6, o10_0, o10_1, o10_2, o10_3, o10_4, o10_5, o10_6⟩ := bc7 (w := w9) BK161.out) | ((with_reducible refine gate_callee (f := 22) rfl ?_); refine goesL_ (some 14) rfl rfl Tryz.func22 (by kernel_rfl) rfl #[.agg #[.slice A0_0 l0_0.length c0_0, .slice A0_1 l0_1.length c0_1, .slice A0_2 l0_2.length c0_2, .slice A0_3 l0_3.length c0_3, .int .i64 a0_4, .int .i64 a0_5, .int .i64 a0_6]] rfl tM ?_; (with_reducible refine (x_lines.calls _ _ l0_0 _ _ l0_1 _ _ l0_2 _ _ l0_3 a0_4 a0_5 a0_6 t163 _ (cS (Kd.C_below HR0_0.out HB.out)) HC0_0.out (cS (Kd.C_below HR0_1.out HB.out)) HC0_1.out (cS (Kd.C_below HR0_2.out HB.out)) HC0_2.out (cS (Kd.C_below HR0_3.out HB.out)) HC0_3.out A5.out).mono ?_); rintro e w11 ⟨v164, rfl, ho0, hb⟩; refine ⟨_, rfl, ?_⟩; have HO165 := Sd.mk (Kd.R_lower ho0 (below_size (bBl HB.out))); replace BK161 := Sd.mk (blk_below (bkA BK161.out) hb); replace HB := Sd.mk (below_step (bBl HB.out) hb); (try clear hb); (try clear hb2); (try clear hk); (try clear hi); (try clear ho0); obtain ⟨Ao12, co12, eo12⟩ := Kd.R_slice HO165.out; subst eo12) | ((with_reducible refine gate_callee (f := 21) rfl ?_); refine goesL_ (some 16) rfl rfl Tryz.func21 (by kernel_rfl) rfl #[.slice Ao12 t163.length co12, .slice A1 l1.length c1, .int .i64 1] rfl tM ?_; (with_reducible refine (x_keeps.calls _ _ t163 _ _ l1 1 t166 _ (cS ((Kd.R_reads' HO165.out).2.2)) ((Kd.R_reads' HO165.out).2.1) (cS (Kd.C_below HR1.out HB.out)) HC1.out A6.out).mono ?_); rintro e w13 ⟨rfl, hb⟩; refine ⟨_, rfl, ?_⟩; replace HO165 := Sd.mk (Kd.R_below (by (with_reducible repeat (first | apply Kd.R_alloc | apply Kd.R_drewN | apply Kd.R_drew)); exact HO165.out) hb); replace BK161 := Sd.mk (blk_below (bkA BK161.out) hb); replace HB := Sd.mk (below_step (bBl HB.out) hb); (try clear hb); (try clear hb2); (try clear hk); (try clear hi)))
  go_ret2
  exact ⟨tE, bBl HB.out⟩
 ·rw [if_neg c4] at H
  have c4b0 : (t162 == 0) = false := beq_eq_false_iff_ne.mpr c4
  have c4b1 : (t162 != 0) = true := bne_iff_ne.mpr c4
  simp only [Option.some.injEq, Prod.mk.injEq] at H
  obtain ⟨rfl, rfl⟩ := H
  go_enter Tryz.func7, Tryz.ntmps7
  go_wp2_with (first | ((with_reducible refine gate_dst (N := 2) rfl ?_); refine box_event ?hg (N := 2) ?hd (cs := #[.slice A0_0 l0_0.length c0_0, .slice A0_1 l0_1.length c0_1, .slice A0_2 l0_2.length c0_2, .slice A0_3 l0_3.length c0_3, .int .i64 a0_4, .int .i64 a0_5, .int .i64 a0_6]) (t := 29) ?hr ?_; (case hd => rfl); (case hg => rfl); (case hr => exact tG); intro gb161 hg w14 hbox hb; have BK161 := Sd.mk (hbox); have GW161 := Sd.mk (bSz hg (bBl HB.out)); have GE161 := Sd.mk (bSz hg (bBl HB.out)); replace HB := Sd.mk (below_step (bBl HB.out) hb); clear hb hbox hg; obtain ⟨u15_0, u15_1, u15_2, u15_3, u15_4, u15_5, u15_6, o15_0, o15_1, o15_2, o15_3, o15_4, o15_5, o15_6⟩ := bc7 (w := w14) BK161.out) | ((with_reducible refine gate_callee (f := 20) rfl ?_); refine goesL_ (some 9) rfl rfl Tryz.func20 (by kernel_rfl) rfl #[.agg #[.slice A0_0 l0_0.length c0_0, .slice A0_1 l0_1.length c0_1, .slice A0_2 l0_2.length c0_2, .slice A0_3 l0_3.length c0_3, .int .i64 a0_4, .int .i64 a0_5, .int .i64 a0_6], .slice A1 l1.length c1] rfl tM ?_; (with_reducible refine (b_asked.calls k _ _ l0_0 _ _ l0_1 _ _ l0_2 _ _ l0_3 a0_4 a0_5 a0_6 _ _ l1 t162 _ (cS (Kd.C_below HR0_0.out HB.out)) HC0_0.out (cS (Kd.C_below HR0_1.out HB.out)) HC0_1.out (cS (Kd.C_below HR0_2.out HB.out)) HC0_2.out (cS (Kd.C_below HR0_3.out HB.out)) HC0_3.out (cS (Kd.C_below HR1.out HB.out)) HC1.out A3.out).mono ?_); rintro e w16 ⟨rfl, hb⟩; refine ⟨_, rfl, ?_⟩; replace BK161 := Sd.mk (blk_below (bkA BK161.out) hb); replace HB := Sd.mk (below_step (bBl HB.out) hb); (try clear hb); (try clear hb2); (try clear hk); (try clear hi)))
  go_ret2
  exact ⟨tE, bBl HB.out⟩
end
section
theorem rd_map (mt : List S50) (fc : S50 → Int) (j : Nat) (h : j < mt.length) : rd (mt.map fc) (j : Int) = fc (rd_T50 mt (j : Int)) := by
  simp [rd, rd_T50, List.getD, h]
structure LineOk (n : Nat) (x : S40) : Prop where
  len : x.f0.length = n
  at_ : ∀ j : Nat, j < n → -50000000000000 ≤ rd x.f0 (j : Int) ∧ rd x.f0 (j : Int) ≤ 50000000000000
  b0 : x.f1 ≤ 0
  b1 : -10000000 ≤ x.f1
theorem line_ok {mt : List S50} {fc : S50 → Int} {b : Int} (h : ∀ i : Nat, i < mt.length → -50000000000000 ≤ fc (rd_T50 mt (i : Int)) ∧ fc (rd_T50 mt (i : Int)) ≤ 50000000000000) (h0 : b ≤ 0) (h1 : -10000000 ≤ b) : LineOk mt.length ⟨mt.map fc, b⟩ := by
  refine ⟨List.length_map _, fun j hj => ?_, h0, h1⟩
  show -50000000000000 ≤ rd (mt.map fc) (j : Int) ∧ rd (mt.map fc) (j : Int) ≤ 50000000000000
  rw [rd_map mt fc j hj]
  exact h j hj
theorem gTS_bound {df : Int → Int} {l : List S27} (H : GOk l) (C : DfOk df l.length) : -50000000000000 ≤ gTS df l l.length ∧ gTS df l l.length ≤ 50000000000000 := by
  have h := sumTo_bound (f := gT df l) (M := 3600000000000) (n := l.length) (gT_bound H C) l.length (Nat.le_refl _)
  have hn := H.n12
  unfold gTS
  omega
section
variable {o : List ByteArray} {mt : List S50} {s : List S27} {p : List S77} {a4 a5 a6 : Int}
theorem pair_ok (H : BatchOk o mt s p a4 a5 a6) {j : Nat} (hj : j < s.length + p.length) : ∀ x ∈ pairL mt s p j, LineOk mt.length x := by
  have T := tg_ok H hj
  have C := coef_cfok H hj
  intro x hx
  simp only [pairL, List.mem_cons, List.not_mem_nil, or_false] at hx
  rcases hx with rfl | rfl
  · refine line_ok (fun i hi => ?_) (by omega) (by omega)
    refine gTS_bound (mat_gok H hi) ⟨fun j' hj' => ?_⟩
    rw [(H.mats i hi).len] at hj'
    have := C.at_ j' hj'
    omega
  · refine line_ok (fun i hi => ?_) (by omega) (by omega)
    refine gTS_bound (mat_gok H hi) ⟨fun j' hj' => ?_⟩
    rw [(H.mats i hi).len] at hj'
    have := C.at_ j' hj'
    omega
theorem head_ok (H : BatchOk o mt s p a4 a5 a6) : ∀ n, n ≤ s.length + p.length → ∀ x ∈ headL mt s p a6 n, LineOk mt.length x := by
  intro n
  induction n with
  | zero =>
    intro _ x hx
    simp only [headL, List.mem_cons, List.not_mem_nil, or_false] at hx
    subst hx
    have hw := H.wanted
    refine line_ok (fun i hi => ?_) (by omega) (by omega)
    have := lowM_bound (mat_gok H hi)
    omega
  | succ n ih =>
    intro hn x hx
    simp only [headL, List.mem_append] at hx
    rcases hx with hx | hx
    · exact ih (by omega) x hx
    · exact pair_ok H (by omega) x hx
theorem red_ok (H : BatchOk o mt s p a4 a5 a6) {u : Int} (hu : -10000 ≤ u ∧ u ≤ 10000) {i : Nat} (hi : i < mt.length) :
    (-50000000000000 ≤ rUp u (rd_T50 mt (i : Int)) ∧ rUp u (rd_T50 mt (i : Int)) ≤ 50000000000000) ∧ -50000000000000 ≤ rDn u (rd_T50 mt (i : Int)) ∧ rDn u (rd_T50 mt (i : Int)) ≤ 50000000000000 := by
  have hl := lowM_bound (mat_gok H hi)
  have hr := (H.mats i hi).redox
  have h1 := mulr hu.1 hu.2 hl.1 (Int.le_trans hl.2.1 hl.2.2)
  have h2 := mulr hu.1 hu.2 (Int.le_trans hl.1 hl.2.1) hl.2.2
  unfold rUp rDn mn mx
  constructor <;> split <;> omega
theorem lines_ok (H : BatchOk o mt s p a4 a5 a6) : ∀ x ∈ linesV mt s p a4 a5 a6, LineOk mt.length x := by
  have hr := H.redox
  intro x hx
  simp only [linesV, List.mem_append, List.mem_cons, List.not_mem_nil, or_false] at hx
  rcases hx with hx | rfl | rfl
  · exact head_ok H _ (Nat.le_refl _) x hx
  · exact line_ok (fun i hi => (red_ok H (by omega) hi).1) (by omega) (by omega)
  · exact line_ok (fun i hi => (red_ok H (by omega) hi).2) (by omega) (by omega)
end
def tot (r fs : List Int) (i : Nat) : Int := sumTo (fun j => rd r (j : Int) * rd fs (j : Int)) i
theorem prod_bound {a b : Int} (h0 : 0 ≤ a) (h1 : a ≤ 10000) (h2 : -50000000000000 ≤ b) (h3 : b ≤ 50000000000000) : -500000000000000000 ≤ a * b ∧ a * b ≤ 500000000000000000 := by
  have e1 := Int.mul_le_mul_of_nonneg_left h2 h0
  have e2 := Int.mul_le_mul_of_nonneg_left h3 h0
  omega
theorem vW_tot {mt : List S50} {r : List Int} {x : S40} (hm : mt.length ≤ 12) (hr : RecOk mt r) (hx : LineOk mt.length x) : ∀ i, i ≤ mt.length → vW r x.f0 i = tot r x.f0 i := by
  have hb : ∀ j, j < mt.length → -500000000000000000 ≤ rd r (j : Int) * rd x.f0 (j : Int) ∧ rd r (j : Int) * rd x.f0 (j : Int) ≤ 500000000000000000 := fun j hj => prod_bound (hr.kilos j hj).1 (hr.kilos j hj).2 (hx.at_ j hj).1 (hx.at_ j hj).2
  intro i
  induction i with
  | zero => intro _; rfl
  | succ i ih =>
    intro hi
    have h1 := hb i (by omega)
    have h2 := sumTo_bound (f := fun j => rd r (j : Int) * rd x.f0 (j : Int)) (M := 500000000000000000) (n := mt.length) hb i (by omega)
    have h3 := ih (by omega)
    unfold tot at *
    simp only [vW, sumTo, h3]
    rw [wrap_id (x := rd r (i : Int) * rd x.f0 (i : Int)) (by omega) (by omega), wrap_id (by omega) (by omega)]
theorem not_any_all {α : Type} {l : List α} {f g : α → Bool} (h : ∀ x ∈ l, f x = !(g x)) : (!(l.any f)) = l.all g := by
  induction l with
  | nil => rfl
  | cons x l ih =>
    rw [List.any_cons, List.all_cons, ← ih fun y hy => h y (List.mem_cons_of_mem _ hy), h x List.mem_cons_self]
    cases g x <;> simp
section
variable (o : List ByteArray) (mt : List S50) (s : List S27) (p : List S77) (a4 a5 a6 : Int) (r : List Int)
def passB : Bool := (linesV mt s p a4 a5 a6).all fun x => decide (tot r x.f0 mt.length ≤ x.f1)
theorem keeps_f (H : BatchOk o mt s p a4 a5 a6) (hr : RecOk mt r) : x_keeps.f (linesV mt s p a4 a5 a6) r 1 = some (passB mt s p a4 a5 a6 r) := by
  have L := lines_ok H
  have hm := H.m12
  have hrl := hr.len
  unfold x_keeps.f passB
  rw [if_pos (List.all_eq_true.2 fun x hx => by have h := (L x hx).len; simp only [Bool.and_eq_true, decide_eq_true_eq]; omega)]
  congr 1
  refine not_any_all fun x hx => ?_
  have h := L x hx
  rw [h.len, vW_tot hm hr h mt.length (Nat.le_refl _), wrap_id (x := 1 * x.f1) (by have := h.b0; have := h.b1; omega) (by have := h.b0; omega), Int.one_mul]
  by_cases hc : tot r x.f0 mt.length ≤ x.f1
  · rw [decide_eq_true hc, decide_eq_false (by omega)]; rfl
  · rw [decide_eq_false hc, decide_eq_true (by omega)]; rfl
end
end
section
section
variable {o : List ByteArray} {mt : List S50} {s : List S27} {p : List S77} {a4 a5 a6 : Int}
end
structure RowAt (w W : World) (g : Nat) (b : Int) (fl : List Int) : Prop where
  ge : w.heap.size ≤ g
  row : ∃ A c, W.heap[g]? = some (.cells #[.slice A fl.length c, .int .i64 b] 40 (0, 0)) ∧ (Kd.int .i64).R 3 W w.heap.size (fun _ => True) (.slice A fl.length c) fl
theorem RowAt.below {w W W' : World} {g : Nat} {b : Int} {fl : List Int} (h : RowAt w W g b fl) (hb : Below W.heap.size W W') : RowAt w W' g b fl := by
  obtain ⟨A, c, h1, h2⟩ := h.row
  exact ⟨h.ge, A, c, blk_below h1 hb, Kd.R_below h2 hb⟩
structure AllW (w Wc Wf W : World) (cs : Array Value) (okN okL : Nat → Prop) (vF : Value) (forms : List S77) (v7 : Value) (xs : List S40) : Prop where
  below : Below w.heap.size w W
  size : Wf.heap.size ≤ W.heap.size
  box : W.heap[w.heap.size]? = some (.cells cs 29 (0, 0))
  forms : k77.N 77 W Wc.heap.size okN vF forms
  list : k40.R 40 W w.heap.size okL v7 xs
theorem AllW.later {w Wc Wf W W' : World} {cs : Array Value} {okN okL : Nat → Prop} {vF v7 : Value} {forms : List S77} {xs : List S40} (h : AllW w Wc Wf W cs okN okL vF forms v7 xs) (hb : Below W.heap.size W W') : AllW w Wc Wf W' cs okN okL vF forms v7 xs :=
  ⟨below_step h.below hb, Nat.le_trans h.size hb.size, blk_below h.box hb, Kd.N_below h.forms hb, Kd.R_below h.list hb⟩
theorem AllW.set {w Wc Wf W : World} {cs : Array Value} {okN okL : Nat → Prop} {vF v7 : Value} {forms : List S77} {xs : List S40} (h : AllW w Wc Wf W cs okN okL vF forms v7 xs) {g : Nat} (u : Value) (h1 : w.heap.size < g) (h2 : ∀ k, okN k → k ≠ g) (h3 : ∀ k, okL k → k ≠ g) : AllW w Wc Wf (W.setCell ⟨g, 0, none⟩ u) cs okN okL vF forms v7 xs :=
  ⟨below_set h.below (Nat.le_of_lt h1), Nat.le_trans h.size (by simp only [World.size_setCell]; exact Nat.le_refl _), blk_far (p := ⟨g, 0, none⟩) h.box (Nat.ne_of_lt h1) u, Kd.N_far (p := ⟨g, 0, none⟩) h.forms h2 u, Kd.R_far (p := ⟨g, 0, none⟩) h.list h3 u⟩
theorem AllW.grown {w Wc Wf W W' : World} {cs : Array Value} {okN okL : Nat → Prop} {vF v7 : Value} {forms : List S77} {xs : List S40} (h : AllW w Wc Wf W cs okN okL vF forms v7 xs) {row : Option Nat} (hb : Below w.heap.size w W') (hg : W.grownBy W' row) (h1 : some w.heap.size ≠ row) (h2 : ∀ k, okN k → some k ≠ row) (h3 : ∀ k, okL k → some k ≠ row) : AllW w Wc Wf W' cs okN okL vF forms v7 xs :=
  ⟨hb, Nat.le_trans h.size hg.size, blk_grown h.box hg h1, Kd.N_grown h.forms hg h2, Kd.R_grown h.list hg h3⟩
structure RowAt3 (w WB W : World) (g : Nat) (v : Value) (fl : List Int) : Prop where
  ge : WB.heap.size ≤ g
  cell : W.heap[g]? = some (.cells #[v, .int .i64 0] 40 (0, 0))
  row : (Kd.int .i64).R 3 W w.heap.size (fun k => v.ownBlock = some k) v fl
  own : ∀ k, v.ownBlock = some k → WB.heap.size ≤ k
theorem RowAt3.later {w WB W W' : World} {g : Nat} {v : Value} {fl : List Int} (h : RowAt3 w WB W g v fl) (hb : Below W.heap.size W W') : RowAt3 w WB W' g v fl :=
  ⟨h.ge, blk_below h.cell hb, Kd.R_below h.row hb, h.own⟩
theorem RowAt3.grown {w WB W W' : World} {g : Nat} {v : Value} {fl : List Int} (h : RowAt3 w WB W g v fl) {row : Option Nat} (hg : W.grownBy W' row) (h1 : some g ≠ row) (h2 : ∀ k, v.ownBlock = some k → some k ≠ row) : RowAt3 w WB W' g v fl :=
  ⟨h.ge, blk_grown h.cell hg h1, Kd.R_grown h.row hg h2, h.own⟩
theorem RowAt3.set {w WB W : World} {g : Nat} {v : Value} {fl : List Int} (h : RowAt3 w WB W g v fl) {g' : Nat} {cs : Array Value} (u : Value) (h1 : g ≠ g') (h2 : W.heap[g']? = some (.cells cs 40 (0, 0))) : RowAt3 w WB (W.setCell ⟨g', 0, none⟩ u) g v fl :=
  ⟨h.ge, blk_far (p := ⟨g', 0, none⟩) h.cell h1 u, Kd.R_mono (Kd.R_far (p := ⟨g', 0, none⟩) (Kd.R_types (t := 40) h.row h2 (by decide)) (fun _ hk => hk.2) u) (fun _ hk => hk.1), h.own⟩
end
section
theorem max2_mx (k k' : IntKind) (x y : Int) : Builtin.max2 (.int k x) (.int k' y) = pure (.int k (mx x y)) := max2_int k k' x y
theorem min2_mn (k k' : IntKind) (x y : Int) : Builtin.min2 (.int k x) (.int k' y) = pure (.int k (mn x y)) := min2_int k k' x y
attribute [local go_sem] max2_mx min2_mn max_two min_two
end
section
def lw_SameInts.l0 : Nat → List Int → List Int → Int → Option (Bool)
  | 0, _, _, _ => none
  | k + 1, x0, x1, x5 => if x5 < (x0.length : Int) then (if 0 ≤ x5 then (if x5 < (x1.length : Int) then (if (rd x0 x5) = (rd x1 x5) then (lw_SameInts.l0 k x0 x1 (wrap64 (x5 + 1))) else (some false)) else (none)) else (none)) else (some true)
def lw_SameInts.f (k : Nat) (l0 : List Int) (l1 : List Int) : Option (Bool) := if (l0.length : Int) = (l1.length : Int) then (lw_SameInts.l0 k l0 l1 0) else (some false)
theorem lw_SameInts.calls (k : Nat) (A0 : Option Addr) (c0 : Nat) (l0 : List Int) (A1 : Option Addr) (c1 : Nat) (l1 : List Int) (r : Bool) (w : World) (hr0 : Kd.C (Kd.int .i64) w A0 l0.length l0) (hc0 : l0.length ≤ c0) (hr1 : Kd.C (Kd.int .i64) w A1 l1.length l1) (hc1 : l1.length ≤ c1) (h : lw_SameInts.f k l0 l1 = some r) :
    Calls Tryz.prog 9 #[.slice A0 l0.length c0, .slice A1 l1.length c1] w fun e w' => e = .returned (.bool r) ∧ Drawn0 w w' := by
  have HR0 := Sd.mk hr0
  have HC0 := Sd.mk hc0
  clear hr0 hc0
  have HR1 := Sd.mk hr1
  have HC1 := Sd.mk hc1
  clear hr1 hc1
  have H : (if (l0.length : Int) = (l1.length : Int) then (lw_SameInts.l0 k l0 l1 0) else (some false)) = some r := h
  clear h
  by_cases c3 : (l0.length : Int) = (l1.length : Int)
  · rw [if_pos c3] at H
    have c3b0 : ((l0.length : Int) == (l1.length : Int)) = true := beq_iff_eq.mpr c3
    have c3b1 : ((l0.length : Int) != (l1.length : Int)) = false := bne_eq_false_iff_eq.mpr c3
    have c3b2 : (l0.length == l1.length) = true := by first | simpa using c3 | (simp at c3 ⊢; omega)
    clear c3
    have H' := Sd.mk H
    clear H
    go_enter Tryz.func9, Tryz.ntmps9
    go_wp2
    repeat (go_quiet (fail); try go_wp2)
    go_loopg [5] k (fun kq v5 w' => ∃ (x5_1 : Int), v5 = .int .i64 x5_1 ∧ Sd (lw_SameInts.l0 kq l0 l1 x5_1 = some r) ∧ Sd (kq ≤ k) ∧ Drawn0 w w')
    case atStart => exact ⟨(0), (by first | rfl | (simp; done) | (simp [*]; done)), H', ⟨Nat.le_refl _⟩, by repeat (first | exact Drawn0.refl _ | apply Drawn0.step)⟩
    case round =>
      clear H'
      try clear c1
      try clear p2
      try clear c3
      try clear c3b0
      try clear c3b1
      try clear c3b2
      obtain ⟨x5_1, rfl, HA, HK1, ⟨m1, rfl⟩⟩ := hrel
      cases gk with
      | zero => exact absurd HA.out (by simp [lw_SameInts.l0])
      | succ k1 =>
        have H := HA.out
        clear HA
        simp only [lw_SameInts.l0] at H
        by_cases c4 : x5_1 < (l0.length : Int)
        · rw [if_pos c4] at H
          have c4b0 : decide (x5_1 < (l0.length : Int)) = true := decide_eq_true c4
          clear c4
          by_cases c5 : 0 ≤ x5_1
          · rw [if_pos c5] at H
            have c5b0 : decide (0 ≤ x5_1) = true := decide_eq_true c5
            clear c5
            by_cases c6 : x5_1 < (l1.length : Int)
            · rw [if_pos c6] at H
              have c6b0 : decide (x5_1 < (l1.length : Int)) = true := decide_eq_true c6
              clear c6
              by_cases c7 : (rd l0 x5_1) = (rd l1 x5_1)
              · rw [if_pos c7] at H
                have c7b0 : ((rd l0 x5_1) == (rd l1 x5_1)) = true := beq_iff_eq.mpr c7
                have c7b1 : ((rd l0 x5_1) != (rd l1 x5_1)) = false := bne_eq_false_iff_eq.mpr c7
                clear c7
                have H' := Sd.mk H
                clear H
                have p172 : 0 ≤ (x5_1 : Int) := of_decide_eq_true (by first | (with_reducible assumption) | assumption)
                have q172 : x5_1 < (l0.length : Int) := of_decide_eq_true (by first | (with_reducible assumption) | assumption)
                obtain ⟨ad172, e172, hx172_0⟩ := Kd.at_int HR0.out x5_1 p172 q172
                cases e172
                replace p172 := eq_true p172
                replace q172 := eq_true q172
                have p173 : 0 ≤ (x5_1 : Int) := of_decide_eq_true (by first | (with_reducible assumption) | assumption)
                have q173 : x5_1 < (l1.length : Int) := of_decide_eq_true (by first | (with_reducible assumption) | assumption)
                obtain ⟨ad173, e173, hx173_0⟩ := Kd.at_int HR1.out x5_1 p173 q173
                cases e173
                replace p173 := eq_true p173
                replace q173 := eq_true q173
                go_wp2
                repeat (go_quiet (fail); try go_wp2)
                go_roundg k1
                case measure => have := HK1.out; omega
                case rel => exact ⟨(wrap64 (x5_1 + 1)), (by first | rfl | (simp; done) | (simp [*]; done)), H', ⟨by have := HK1.out; omega⟩, by repeat (first | exact Drawn0.refl _ | apply Drawn0.step)⟩
              · rw [if_neg c7] at H
                have c7b0 : ((rd l0 x5_1) == (rd l1 x5_1)) = false := beq_eq_false_iff_ne.mpr c7
                have c7b1 : ((rd l0 x5_1) != (rd l1 x5_1)) = true := bne_iff_ne.mpr c7
                obtain rfl := Option.some.inj H
                have p172 : 0 ≤ (x5_1 : Int) := of_decide_eq_true (by first | (with_reducible assumption) | assumption)
                have q172 : x5_1 < (l0.length : Int) := of_decide_eq_true (by first | (with_reducible assumption) | assumption)
                obtain ⟨ad172, e172, hx172_0⟩ := Kd.at_int HR0.out x5_1 p172 q172
                cases e172
                replace p172 := eq_true p172
                replace q172 := eq_true q172
                have p173 : 0 ≤ (x5_1 : Int) := of_decide_eq_true (by first | (with_reducible assumption) | assumption)
                have q173 : x5_1 < (l1.length : Int) := of_decide_eq_true (by first | (with_reducible assumption) | assumption)
                obtain ⟨ad173, e173, hx173_0⟩ := Kd.at_int HR1.out x5_1 p173 q173
                cases e173
                replace p173 := eq_true p173
                replace q173 := eq_true q173
                go_wp2
                repeat (go_quiet (fail); try go_wp2)
                go_ret
                exact ⟨by first | rfl | (simp; done) | (simp [*]; done), by repeat (first | exact Drawn0.refl _ | apply Drawn0.step)⟩
            · rw [if_neg c6] at H
              exact absurd H (by simp)
          · rw [if_neg c5] at H
            exact absurd H (by simp)
        · rw [if_neg c4] at H
          have c4b0 : decide (x5_1 < (l0.length : Int)) = false := decide_eq_false c4
          clear c4
          obtain rfl := Option.some.inj H
          go_wp2
          repeat (go_quiet (fail); try go_wp2)
          go_ret
          exact ⟨by first | rfl | (simp; done) | (simp [*]; done), by repeat (first | exact Drawn0.refl _ | apply Drawn0.step)⟩
  · rw [if_neg c3] at H
    have c3b0 : ((l0.length : Int) == (l1.length : Int)) = false := beq_eq_false_iff_ne.mpr c3
    have c3b1 : ((l0.length : Int) != (l1.length : Int)) = true := bne_iff_ne.mpr c3
    have c3b2 : (l0.length == l1.length) = false := by first | simpa using c3 | (simp at c3 ⊢; omega)
    obtain rfl := Option.some.inj H
    go_enter Tryz.func9, Tryz.ntmps9
    go_wp2
    repeat (go_quiet (fail); try go_wp2)
    go_ret
    exact ⟨by first | rfl | (simp; done) | (simp [*]; done), by repeat (first | exact Drawn0.refl _ | apply Drawn0.step)⟩
end
section
section
variable (o : List ByteArray) (mt : List S50) (s : List S27) (p : List S77) (a4 a5 a6 : Int) (r : List Int)
def cW (mt : List S50) (r : List Int) : Nat → Int
  | 0 => 0
  | i + 1 => wrap64 (cW mt r i + wrap64 (rd r (i : Int) * (rd_T50 mt (i : Int)).f1))
theorem bcost_l0 (hm : mt.length ≤ 12) (hrl : r.length = mt.length) : ∀ (m i : Nat), i + m = mt.length → Ev (fun k => b_cost.l0 k r (cW mt r i) mt (mt.length : Int) (i : Int)) (cW mt r mt.length)
  | 0, i, hi => by
    apply Ev.step
    simp only [b_cost.l0, if_neg (show ¬ (i : Int) < (mt.length : Int) by omega)]
    rw [show i = mt.length by omega]
    exact Ev.const _
  | m + 1, i, hi => by
    have ih := bcost_l0 hm hrl m (i + 1) (by omega)
    apply Ev.step
    simp only [b_cost.l0, if_pos (show (i : Int) < (mt.length : Int) by omega), if_pos (i_pos i), if_pos (show (i : Int) < (r.length : Int) by omega), wrap_succ (i_pos i) (show (i : Int) ≤ 1000000000 by omega)]
    exact ih
end
section
variable (o : List ByteArray) (mt : List S50) (s : List S27) (p : List S77) (a4 a5 a6 : Int) (r q : List Int) (n b3 b4 : Int) (l5 : List Int)
end
end
section
def b_few.l0 : Nat → Int → List (S50) → Int → Int → Option (Bool)
 | 0, _, _, _, _ => none
 | k + 1, x3, x7, x8, x9 => if x9 < x8 then (if 0 ≤ x9 then (if x9 < (x7.length : Int) then (if ((rd_T50 x7 x9).f5) = 0 then (none) else (if (wrap64 (x3 * (wrap64 ((wrap64 (Int.tdiv (wrap64 (((rd_T50 x7 x9).f4) - ((rd_T50 x7 x9).f3))) ((rd_T50 x7 x9).f5))) + 1)))) > 100000 then (some false) else (b_few.l0 k (wrap64 (x3 * (wrap64 ((wrap64 (Int.tdiv (wrap64 (((rd_T50 x7 x9).f4) - ((rd_T50 x7 x9).f3))) ((rd_T50 x7 x9).f5))) + 1)))) x7 x8 (wrap64 (x9 + 1))))) else (none)) else (none)) else (some true)
def b_few.f (k : Nat) (l0_0 : List ByteArray) (l0_1 : List (S50)) (l0_2 : List (S27)) (l0_3 : List (S77)) (a0_4 : Int) (a0_5 : Int) (a0_6 : Int) : Option (Bool) := b_few.l0 k 1 l0_1 (l0_1.length : Int) 0
theorem b_few.calls (k : Nat) (A0_0 : Option Addr) (c0_0 : Nat) (l0_0 : List ByteArray) (A0_1 : Option Addr) (c0_1 : Nat) (l0_1 : List (S50)) (A0_2 : Option Addr) (c0_2 : Nat) (l0_2 : List (S27)) (A0_3 : Option Addr) (c0_3 : Nat) (l0_3 : List (S77)) (a0_4 : Int) (a0_5 : Int) (a0_6 : Int) (r : Bool) (w : World) (hr0_0 : Kd.C Kd.string w A0_0 l0_0.length l0_0) (hc0_0 : l0_0.length ≤ c0_0) (hr0_1 : Kd.C k50 w A0_1 l0_1.length l0_1) (hc0_1 : l0_1.length ≤ c0_1) (hr0_2 : Kd.C k27 w A0_2 l0_2.length l0_2) (hc0_2 : l0_2.length ≤ c0_2) (hr0_3 : Kd.C k77 w A0_3 l0_3.length l0_3) (hc0_3 : l0_3.length ≤ c0_3) (h : b_few.f k l0_0 l0_1 l0_2 l0_3 a0_4 a0_5 a0_6 = some r) :
  Calls Tryz.prog 23 #[.agg #[.slice A0_0 l0_0.length c0_0, .slice A0_1 l0_1.length c0_1, .slice A0_2 l0_2.length c0_2, .slice A0_3 l0_3.length c0_3, .int .i64 a0_4, .int .i64 a0_5, .int .i64 a0_6]] w fun e w' => e = .returned (.bool r) ∧ Below w.heap.size w w' := by
 have hu29 := Tryz.underlying29; have hu50 := Tryz.underlying50; have HR0_0 := Sd.mk hr0_0; have HC0_0 := Sd.mk hc0_0; clear hr0_0 hc0_0; have HR0_1 := Sd.mk hr0_1; have HC0_1 := Sd.mk hc0_1; clear hr0_1 hc0_1; have HR0_2 := Sd.mk hr0_2; have HC0_2 := Sd.mk hc0_2; clear hr0_2 hc0_2; have HR0_3 := Sd.mk hr0_3; have HC0_3 := Sd.mk hc0_3; clear hr0_3 hc0_3; have HB := Sd.mk (Below.refl w.heap.size w)
 have H : (b_few.l0 k 1 l0_1 (l0_1.length : Int) 0) = some r := h
 clear h; have H' := Sd.mk H; clear H
 go_enter Tryz.func23, Tryz.ntmps23
 go_wp2_with (first | ((with_reducible refine gate_dst (N := 1) rfl ?_); refine box_event ?hg (N := 1) ?hd (cs := #[.slice A0_0 l0_0.length c0_0, .slice A0_1 l0_1.length c0_1, .slice A0_2 l0_2.length c0_2, .slice A0_3 l0_3.length c0_3, .int .i64 a0_4, .int .i64 a0_5, .int .i64 a0_6]) (t := 29) ?hr ?_; (case hd => rfl); (case hg => rfl); (case hr => exact tG); intro gb174 hg w2 hbox hb; have BK174 := Sd.mk (hbox); have GW174 := Sd.mk (bSz hg (bBl HB.out)); have GE174 := Sd.mk (bSz hg (bBl HB.out)); replace HB := Sd.mk (below_step (bBl HB.out) hb); clear hb hbox hg; obtain ⟨u3_0, u3_1, u3_2, u3_3, u3_4, u3_5, u3_6, o3_0, o3_1, o3_2, o3_3, o3_4, o3_5, o3_6⟩ := bc7 (w := w2) BK174.out))
 go_loopg [3, 9] k (fun kq v3 v9 w' => ∃ (x3_1 : Int) (x9_1 : Int), v3 = .int .i64 x3_1 ∧ v9 = .int .i64 x9_1 ∧ Sd (b_few.l0 kq x3_1 l0_1 (l0_1.length : Int) x9_1 = some r) ∧ Sd (kq ≤ k) ∧ Sd (w'.heap[gb174]? = some (.cells #[(.slice A0_0 l0_0.length c0_0), (.slice A0_1 l0_1.length c0_1), (.slice A0_2 l0_2.length c0_2), (.slice A0_3 l0_3.length c0_3), .int .i64 a0_4, .int .i64 a0_5, .int .i64 a0_6] 29 (0, 0))) ∧ Sd (Below w.heap.size w w'))
 case atStart => exact ⟨(1), (0), tS, tS, H', ⟨Nat.le_refl _⟩, ⟨bkA BK174.out⟩, ⟨bBl HB.out⟩⟩
 case round =>
  clear H'; (try clear c2); (try clear p2); (try clear u3_0 u3_1 u3_2 u3_3 u3_4 u3_5 u3_6); (try clear o3_0 o3_1 o3_2 o3_3 o3_4 o3_5 o3_6); obtain ⟨x3_1, x9_1, rfl, rfl, HA, HK1, BK174, HB⟩ := hrel
  cases gk with
  | zero => exact absurd HA.out (by simp [b_few.l0])
  | succ k1 =>
   have H := HA.out; clear HA
   simp only [b_few.l0] at H
   by_cases c4 : x9_1 < (l0_1.length : Int)
   ·rw [if_pos c4] at H
    have c4b0 : decide (x9_1 < (l0_1.length : Int)) = true := decide_eq_true c4
    clear c4
    by_cases c5 : 0 ≤ x9_1
    ·rw [if_pos c5] at H
     have c5b0 : decide (0 ≤ x9_1) = true := decide_eq_true c5
     clear c5
     by_cases c6 : x9_1 < (l0_1.length : Int)
     ·rw [if_pos c6] at H
      have c6b0 : decide (x9_1 < (l0_1.length : Int)) = true := decide_eq_true c6
      clear c6
      by_cases c7 : ((rd_T50 l0_1 x9_1).f5) = 0
      ·rw [if_pos c7] at H
       exact absurd H (by simp)
      ·rw [if_neg c7] at H
       have c7b0 : (((rd_T50 l0_1 x9_1).f5) == 0) = false := beq_eq_false_iff_ne.mpr c7
       have c7b1 : (((rd_T50 l0_1 x9_1).f5) != 0) = true := bne_iff_ne.mpr c7
       by_cases c8 : (wrap64 (x3_1 * (wrap64 ((wrap64 (Int.tdiv (wrap64 (((rd_T50 l0_1 x9_1).f4) - ((rd_T50 l0_1 x9_1).f3))) ((rd_T50 l0_1 x9_1).f5))) + 1)))) > 100000
       ·rw [if_pos c8] at H
        have c8b0 : decide (100000 < (wrap64 (x3_1 * (wrap64 ((wrap64 (Int.tdiv (wrap64 (((rd_T50 l0_1 x9_1).f4) - ((rd_T50 l0_1 x9_1).f3))) ((rd_T50 l0_1 x9_1).f5))) + 1))))) = true := decide_eq_true c8
        clear c8; obtain rfl := Option.some.inj H
        have p175 : 0 ≤ (x9_1 : Int) := tB
        have q175 : x9_1 < (l0_1.length : Int) := tB
        obtain ⟨ad175, A175_6, c175_6, e175, hx175_0, hx175_1, hx175_2, hx175_3, hx175_4, hx175_5, hx175_6, hl175_6, hi175_6⟩ := at_T50 HR0_1.out x9_1 p175 q175; cases e175; replace hx175_0 := cU HB hx175_0; replace hx175_1 := cU HB hx175_1; replace hx175_2 := cU HB hx175_2; replace hx175_3 := cU HB hx175_3; replace hx175_4 := cU HB hx175_4; replace hx175_5 := cU HB hx175_5; replace hx175_6 := cU HB hx175_6; have HR175_6 := Sd.mk hi175_6; have HC175_6 := Sd.mk hl175_6; clear hi175_6 hl175_6; replace p175 := eq_true p175; replace q175 := eq_true q175
        go_wp2_with (first | ((with_reducible refine gate_dst (N := 5) rfl ?_); refine box_event ?hg (N := 5) ?hd (cs := #[.string (⟨#[]⟩ : ByteArray), .int .i64 0, .int .i64 0, .int .i64 0, .int .i64 0, .int .i64 0, .slice none 0 0]) (t := 50) ?hr ?_; (case hd => rfl); (case hg => rfl); (case hr => exact tG); intro gb176 hg w9 hbox hb; have BK176 := Sd.mk (hbox); have GW176 := Sd.mk (bSz hg (bBl HB.out)); have GE176 := Sd.mk (bSz hg (bBl HB.out)); replace HB := Sd.mk (below_step (bBl HB.out) hb); have NB174_176 := Sd.mk (bNl hg (bkA BK174.out)); have NB176_174 := Sd.mk (bNg hg (bkA BK174.out)); replace BK174 := Sd.mk (blk_below (bkA BK174.out) hb); clear hb hbox hg; have hnb10 := NB176_174.out; have hnc10 := NB174_176.out; obtain ⟨u11_0, u11_1, u11_2, u11_3, u11_4, u11_5, u11_6, o11_0, o11_1, o11_2, o11_3, o11_4, o11_5, o11_6⟩ := bc7 (w := w9) BK176.out))
        go_ret
        exact ⟨tE, bBl HB.out⟩
       ·rw [if_neg c8] at H
        have c8b0 : decide (100000 < (wrap64 (x3_1 * (wrap64 ((wrap64 (Int.tdiv (wrap64 (((rd_T50 l0_1 x9_1).f4) - ((rd_T50 l0_1 x9_1).f3))) ((rd_T50 l0_1 x9_1).f5))) + 1))))) = false := decide_eq_false c8
        clear c8; have H' := Sd.mk H; clear H
        have p175 : 0 ≤ (x9_1 : Int) := tB
        have q175 : x9_1 < (l0_1.length : Int) := tB
        obtain ⟨ad175, A175_6, c175_6, e175, hx175_0, hx175_1, hx175_2, hx175_3, hx175_4, hx175_5, hx175_6, hl175_6, hi175_6⟩ := at_T50 HR0_1.out x9_1 p175 q175; cases e175; replace hx175_0 := cU HB hx175_0; replace hx175_1 := cU HB hx175_1; replace hx175_2 := cU HB hx175_2; replace hx175_3 := cU HB hx175_3; replace hx175_4 := cU HB hx175_4; replace hx175_5 := cU HB hx175_5; replace hx175_6 := cU HB hx175_6; have HR175_6 := Sd.mk hi175_6; have HC175_6 := Sd.mk hl175_6; clear hi175_6 hl175_6; replace p175 := eq_true p175; replace q175 := eq_true q175
        go_wp2_with (first | ((with_reducible refine gate_dst (N := 5) rfl ?_); refine box_event ?hg (N := 5) ?hd (cs := #[.string (⟨#[]⟩ : ByteArray), .int .i64 0, .int .i64 0, .int .i64 0, .int .i64 0, .int .i64 0, .slice none 0 0]) (t := 50) ?hr ?_; (case hd => rfl); (case hg => rfl); (case hr => exact tG); intro gb176 hg w12 hbox hb; have BK176 := Sd.mk (hbox); have GW176 := Sd.mk (bSz hg (bBl HB.out)); have GE176 := Sd.mk (bSz hg (bBl HB.out)); replace HB := Sd.mk (below_step (bBl HB.out) hb); have NB174_176 := Sd.mk (bNl hg (bkA BK174.out)); have NB176_174 := Sd.mk (bNg hg (bkA BK174.out)); replace BK174 := Sd.mk (blk_below (bkA BK174.out) hb); clear hb hbox hg; have hnb13 := NB176_174.out; have hnc13 := NB174_176.out; obtain ⟨u14_0, u14_1, u14_2, u14_3, u14_4, u14_5, u14_6, o14_0, o14_1, o14_2, o14_3, o14_4, o14_5, o14_6⟩ := bc7 (w := w12) BK176.out))
        go_roundg k1
        case measure => have := HK1.out; omega
        case rel => exact ⟨(wrap64 (x3_1 * (wrap64 ((wrap64 (Int.tdiv (wrap64 (((rd_T50 l0_1 x9_1).f4) - ((rd_T50 l0_1 x9_1).f3))) ((rd_T50 l0_1 x9_1).f5))) + 1)))), (wrap64 (x9_1 + 1)), tS, tS, H', ⟨by have := HK1.out; omega⟩, ⟨by (with_reducible repeat (first | refine blk_drewN ?_ _ | refine blk_drew ?_ | refine blk_alloc ?_ _)); refine blk_far ?_ NB174_176.out _; (with_reducible repeat (first | refine blk_drewN ?_ _ | refine blk_drew ?_ | refine blk_alloc ?_ _)); refine blk_far ?_ NB174_176.out _; (with_reducible repeat (first | refine blk_drewN ?_ _ | refine blk_drew ?_ | refine blk_alloc ?_ _)); refine blk_far ?_ NB174_176.out _; (with_reducible repeat (first | refine blk_drewN ?_ _ | refine blk_drew ?_ | refine blk_alloc ?_ _)); refine blk_far ?_ NB174_176.out _; (with_reducible repeat (first | refine blk_drewN ?_ _ | refine blk_drew ?_ | refine blk_alloc ?_ _)); refine blk_far ?_ NB174_176.out _; (with_reducible repeat (first | refine blk_drewN ?_ _ | refine blk_drew ?_ | refine blk_alloc ?_ _)); refine blk_far ?_ NB174_176.out _; (with_reducible repeat (first | refine blk_drewN ?_ _ | refine blk_drew ?_ | refine blk_alloc ?_ _)); refine blk_far ?_ NB174_176.out _; (with_reducible repeat (first | refine blk_drewN ?_ _ | refine blk_drew ?_ | refine blk_alloc ?_ _)); exact BK174.out⟩, ⟨bBl HB.out⟩⟩
     ·rw [if_neg c6] at H
      exact absurd H (by simp)
    ·rw [if_neg c5] at H
     exact absurd H (by simp)
   ·rw [if_neg c4] at H
    have c4b0 : decide (x9_1 < (l0_1.length : Int)) = false := decide_eq_false c4
    clear c4; obtain rfl := Option.some.inj H
    go_wp2
    go_ret
    exact ⟨tE, bBl HB.out⟩
end
section
theorem MatOk.b {n : Nat} {x : S50} (h : MatOk n x) : MatB x := ⟨h.least.1, h.most.1, h.most.2, h.step.1, h.step.2⟩
theorem mats_b {o : List ByteArray} {mt : List S50} {s : List S27} {p : List S77} {a4 a5 a6 : Int} (H : BatchOk o mt s p a4 a5 a6) : ∀ m ∈ mt, MatB m := by
  intro m hm
  obtain ⟨i, hi, rfl⟩ := List.getElem_of_mem hm
  have := (H.mats i hi).b
  simpa [rd_T50, hi] using this
theorem kilosF_mem (s : Int) (hs : 0 ≤ s) : ∀ (c : Nat) (k x : Int), x ∈ kilosF s c k → ∃ j : Nat, j < c ∧ x = k + (j : Int) * s
  | 0, _, _, h => by simp [kilosF] at h
  | c + 1, k, x, h => by
    rw [kilosF, List.mem_cons] at h
    rcases h with rfl | h
    · exact ⟨0, by omega, by simp⟩
    · obtain ⟨j, hj, rfl⟩ := kilosF_mem s hs c (k + s) x h
      exact ⟨j + 1, by omega, by push_cast; rw [Int.add_mul, Int.one_mul]; omega⟩
theorem kilosF_bd {m : S50} (M : MatB m) {x : Int} (h : x ∈ kilosF m.f5 (cntM m) m.f3) : m.f3 ≤ x ∧ x ≤ m.f4 ∧ Int.tmod (x - m.f3) m.f5 = 0 := by
  obtain ⟨j, hj, rfl⟩ := kilosF_mem m.f5 (by have := M.s1; omega) _ _ _ h
  have h1 := (cntM_last M).1
  have h2 : (j : Int) * m.f5 ≤ ((cntM m : Int) - 1) * m.f5 := Int.mul_le_mul_of_nonneg_right (by omega) (by have := M.s1; omega)
  have h3 : 0 ≤ (j : Int) * m.f5 := Int.mul_nonneg (by omega) (by have := M.s1; omega)
  refine ⟨by omega, by omega, ?_⟩
  rw [show m.f3 + (j : Int) * m.f5 - m.f3 = (j : Int) * m.f5 by omega]
  exact Int.mul_tmod_left _ _
theorem allR_rec : ∀ (mt : List S50), (∀ m ∈ mt, MatB m) → ∀ r ∈ allR mt, RecOk mt r
  | [], _, r, h => ⟨allR_len _ _ h, fun j hj => by simp at hj⟩
  | m :: ms, H, r, h => by
    have h' := h
    simp only [allR, List.mem_flatMap, List.mem_map] at h
    obtain ⟨k, hk, q, hq, rfl⟩ := h
    have ih := allR_rec ms (fun x hx => H x (List.mem_cons_of_mem _ hx)) q hq
    have M := H m List.mem_cons_self
    have hb := kilosF_bd M hk
    refine ⟨allR_len _ _ h', fun j hj => ?_⟩
    cases j with
    | zero => exact ⟨by have := M.lo; simp [rd]; omega, by have := M.hi; simp [rd]; omega⟩
    | succ j =>
      have := ih.kilos j (by simpa using hj)
      simpa [rd] using this
theorem rsAt_rec {mt : List S50} (H : ∀ m ∈ mt, MatB m) (k : Nat) (hk : k < (allR mt).length) : RecOk mt (rsAt mt k) := by
  unfold rsAt
  rw [getD_lt _ _ _ hk]
  exact allR_rec mt H _ (List.getElem_mem hk)
def bestV (mt : List S50) (s : List S27) (p : List S77) (a4 a5 a6 : Int) : List Int × Int × Bool :=
  (allR mt).foldl (chStep (passB mt s p a4 a5 a6) (fun r => cW mt r mt.length)) ([], 0, false)
theorem chF_best (mt : List S50) (s : List S27) (p : List S77) (a4 a5 a6 : Int) : chF (passB mt s p a4 a5 a6) (fun r => cW mt r mt.length) (rsAt mt) (allR mt).length = bestV mt s p a4 a5 a6 := by
  unfold chF bestV
  rw [rs_map]
def b_Best.f (k : Nat) (o : List ByteArray) (mt : List S50) (s : List S27) (p : List S77) (a4 a5 a6 : Int) : Option (List Int × Int × Bool × Int) :=
  (b_Check.f k o mt s p a4 a5 a6).bind fun e => if e = 0 then (b_few.f k o mt s p a4 a5 a6).bind fun b => if b = true then (if checkV o mt s p a4 a5 a6 = 0 then some ((bestV mt s p a4 a5 a6).1, (bestV mt s p a4 a5 a6).2.1, (bestV mt s p a4 a5 a6).2.2, 0) else none) else some ([], 0, false, 9) else some ([], 0, false, e)
theorem best1_calls (Bl : Nat) (Al : Option Addr) (cl : Nat) (ls : List S40) (A : Addr) (r : List Int) (b : Bool) (W : World) (hl : W.heap[Bl]? = some (.cells #[.slice Al ls.length cl] 35 (0, 0))) (hr : Kd.C k40 W Al ls.length ls) (hc : ls.length ≤ cl)
    (hri : Kd.C (Kd.int .i64) W (some A) r.length r) (h : x_keeps.f ls r 1 = some b) :
    Calls Tryz.prog 25 #[.slice (some A) r.length r.length, .pointer (some ⟨Bl, 0, none⟩)] W fun e W' => e = .returned (.bool b) ∧ Below W.heap.size W W' := by
  have hx : W.cell? ⟨Bl, 0, none⟩ = some (.slice Al ls.length cl) := (blk_cell hl 0).trans rfl
  have HC := x_keeps.calls Al cl ls (some A) r.length r 1 b W hr hc hri (Nat.le_refl _) h
  go_enter Tryz.func25, Tryz.ntmps25
  go_wp2_with (go_at_call 21; (with_reducible refine HC.mono ?_); rintro e w' ⟨rfl, hb⟩)
  go_ret
  exact ⟨rfl, hb⟩
theorem b_Best.calls (k : Nat) (A0_0 : Option Addr) (c0_0 : Nat) (l0_0 : List ByteArray) (A0_1 : Option Addr) (c0_1 : Nat) (l0_1 : List (S50)) (A0_2 : Option Addr) (c0_2 : Nat) (l0_2 : List (S27)) (A0_3 : Option Addr) (c0_3 : Nat) (l0_3 : List (S77)) (a0_4 : Int) (a0_5 : Int) (a0_6 : Int) (r1 : List Int) (r2 : Int) (r3 : Bool) (r4 : Int) (w : World) (hr0_0 : Kd.C Kd.string w A0_0 l0_0.length l0_0) (hc0_0 : l0_0.length ≤ c0_0) (hr0_1 : Kd.C k50 w A0_1 l0_1.length l0_1) (hc0_1 : l0_1.length ≤ c0_1) (hr0_2 : Kd.C k27 w A0_2 l0_2.length l0_2) (hc0_2 : l0_2.length ≤ c0_2) (hr0_3 : Kd.C k77 w A0_3 l0_3.length l0_3) (hc0_3 : l0_3.length ≤ c0_3) (h : b_Best.f k l0_0 l0_1 l0_2 l0_3 a0_4 a0_5 a0_6 = some (r1, r2, r3, r4)) :
    Calls Tryz.prog 10 #[.agg #[.slice A0_0 l0_0.length c0_0, .slice A0_1 l0_1.length c0_1, .slice A0_2 l0_2.length c0_2, .slice A0_3 l0_3.length c0_3, .int .i64 a0_4, .int .i64 a0_5, .int .i64 a0_6]] w fun e w' => ∃ v0_ : Value, e = .returned (.tuple #[v0_, .int .i64 r2, .bool r3, .int .i64 r4]) ∧ Kd.R (Kd.int .i64) 3 w' w.heap.size (fun _ => True) v0_ r1 ∧ Below w.heap.size w w' := by
  unfold b_Best.f at h
  obtain ⟨e0, he0, H⟩ := Option.bind_eq_some_iff.mp h
  clear h
  have BX := Sd.mk (blk_new w (.cells #[.slice A0_0 l0_0.length c0_0, .slice A0_1 l0_1.length c0_1, .slice A0_2 l0_2.length c0_2, .slice A0_3 l0_3.length c0_3, .int .i64 a0_4, .int .i64 a0_5, .int .i64 a0_6] 29))
  have HB := Sd.mk (below_alloc (Below.refl w.heap.size w) (.cells #[.slice A0_0 l0_0.length c0_0, .slice A0_1 l0_1.length c0_1, .slice A0_2 l0_2.length c0_2, .slice A0_3 l0_3.length c0_3, .int .i64 a0_4, .int .i64 a0_5, .int .i64 a0_6] 29))
  have HR := Sd.mk (And.intro hr0_0 (And.intro hr0_1 (And.intro hr0_2 hr0_3)))
  clear hr0_0 hr0_1 hr0_2 hr0_3
  have HE := Sd.mk he0
  have HH := Sd.mk H
  clear he0 H
  go_enter Tryz.func10, Tryz.ntmps10
  go_upto_region 1 with (fail)
  generalize w.alloc (.cells #[.slice A0_0 l0_0.length c0_0, .slice A0_1 l0_1.length c0_1, .slice A0_2 l0_2.length c0_2, .slice A0_3 l0_3.length c0_3, .int .i64 a0_4, .int .i64 a0_5, .int .i64 a0_6] 29) = W0 at BX HB ⊢
  obtain ⟨g0, g1, g2, g3, g4, g5, g6, _⟩ := bc7 BX.out
  go_upto_region 2 with (go_at_call 13; (refine (b_Check.calls k A0_0 c0_0 l0_0 A0_1 c0_1 l0_1 A0_2 c0_2 l0_2 A0_3 c0_3 l0_3 a0_4 a0_5 a0_6 e0 _ (Kd.C_below HR.out.1 HB.out) hc0_0 (Kd.C_below HR.out.2.1 HB.out) hc0_1 (Kd.C_below HR.out.2.2.1 HB.out) hc0_2 (Kd.C_below HR.out.2.2.2 HB.out) hc0_3 HE.out).mono ?_); rintro e W1 ⟨rfl, hb⟩; clear g0 g1 g2 g3 g4 g5 g6; replace BX := Sd.mk (blk_below BX.out hb); replace HB := Sd.mk (below_then HB.out HB.out.size hb); clear hb; obtain ⟨g0, g1, g2, g3, g4, g5, g6, _⟩ := bc7 BX.out)
  by_cases hz : e0 = 0
  · have H := HH.out
    rw [if_pos hz] at H
    obtain ⟨b0, hb0, H⟩ := Option.bind_eq_some_iff.mp H
    have HF := Sd.mk hb0
    replace HH := Sd.mk H
    clear H hb0
    cases b0 with
    | false =>
      have H := HH.out
      simp only [Bool.false_eq_true, if_false, Option.some.injEq, Prod.mk.injEq] at H
      obtain ⟨rfl, rfl, rfl, rfl⟩ := H
      clear HH
      go_wp2_with (first | (go_at_call 23; (refine (b_few.calls k A0_0 c0_0 l0_0 A0_1 c0_1 l0_1 A0_2 c0_2 l0_2 A0_3 c0_3 l0_3 a0_4 a0_5 a0_6 _ _ (Kd.C_below HR.out.1 HB.out) hc0_0 (Kd.C_below HR.out.2.1 HB.out) hc0_1 (Kd.C_below HR.out.2.2.1 HB.out) hc0_2 (Kd.C_below HR.out.2.2.2 HB.out) hc0_3 HF.out).mono ?_); rintro e W2 ⟨rfl, hb⟩; clear g0 g1 g2 g3 g4 g5 g6; replace BX := Sd.mk (blk_below BX.out hb); replace HB := Sd.mk (below_then HB.out HB.out.size hb); clear hb; obtain ⟨g0, g1, g2, g3, g4, g5, g6, _⟩ := bc7 BX.out))
      refine bodyPost_ret (v := .tuple #[.slice none 0 0, .int .i64 0, .bool false, .int .i64 9]) (by simp [results, Tryz.results10]) rfl ?_
      exact ⟨_, rfl, Kd.R_nil _ _ _ _ _, HB.out⟩
    | true =>
      have H := HH.out
      rw [if_pos rfl] at H
      by_cases hck : checkV l0_0 l0_1 l0_2 l0_3 a0_4 a0_5 a0_6 = 0
      rotate_left
      · rw [if_neg hck] at H; cases H
      rw [if_pos hck] at H
      simp only [Option.some.injEq, Prod.mk.injEq] at H
      obtain ⟨rfl, rfl, rfl, rfl⟩ := H
      have CKV := Sd.mk hck
      clear HH hck
      go_upto_region 7 with (first | (go_at_call 23; (refine (b_few.calls k A0_0 c0_0 l0_0 A0_1 c0_1 l0_1 A0_2 c0_2 l0_2 A0_3 c0_3 l0_3 a0_4 a0_5 a0_6 _ _ (Kd.C_below HR.out.1 HB.out) hc0_0 (Kd.C_below HR.out.2.1 HB.out) hc0_1 (Kd.C_below HR.out.2.2.1 HB.out) hc0_2 (Kd.C_below HR.out.2.2.2 HB.out) hc0_3 HF.out).mono ?_); rintro e W2 ⟨rfl, hb⟩; clear g0 g1 g2 g3 g4 g5 g6; replace BX := Sd.mk (blk_below BX.out hb); replace HB := Sd.mk (below_then HB.out HB.out.size hb); clear hb; obtain ⟨g0, g1, g2, g3, g4, g5, g6, _⟩ := bc7 BX.out) | (go_at_call 22; (refine (x_lines.calls A0_0 c0_0 l0_0 A0_1 c0_1 l0_1 A0_2 c0_2 l0_2 A0_3 c0_3 l0_3 a0_4 a0_5 a0_6 (linesV l0_1 l0_2 l0_3 a0_4 a0_5 a0_6) _ (Kd.C_below HR.out.1 HB.out) hc0_0 (Kd.C_below HR.out.2.1 HB.out) hc0_1 (Kd.C_below HR.out.2.2.1 HB.out) hc0_2 (Kd.C_below HR.out.2.2.2 HB.out) hc0_3 (by unfold x_lines.f; rw [if_pos CKV.out])).mono ?_); rintro e W3 ⟨v3, rfl, hl3, hb⟩; obtain ⟨A9, c9, rfl, hlc, hl9⟩ := Kd.R_reads hl3; have LN := Sd.mk (And.intro hlc hl9); clear hlc hl9 hl3; clear g0 g1 g2 g3 g4 g5 g6; replace BX := Sd.mk (blk_below BX.out hb); replace HB := Sd.mk (below_then HB.out HB.out.size hb); clear hb; obtain ⟨g0, g1, g2, g3, g4, g5, g6, _⟩ := bc7 BX.out))
      have BL := Sd.mk (blk_new W3 (.cells #[.slice A9 (linesV l0_1 l0_2 l0_3 a0_4 a0_5 a0_6).length c9] 35))
      have hb := below_alloc (Below.refl W3.heap.size W3) (.cells #[.slice A9 (linesV l0_1 l0_2 l0_3 a0_4 a0_5 a0_6).length c9] 35)
      replace LN := Sd.mk (And.intro LN.out.1 (Kd.C_below LN.out.2 hb))
      clear g0 g1 g2 g3 g4 g5 g6; replace BX := Sd.mk (blk_below BX.out hb); replace HB := Sd.mk (below_then HB.out HB.out.size hb); clear hb
      generalize W3.alloc (.cells #[.slice A9 (linesV l0_1 l0_2 l0_3 a0_4 a0_5 a0_6).length c9] 35) = W4 at BX HB BL LN ⊢
      generalize W3.heap.size = Bl at BL ⊢
      obtain ⟨g0, g1, g2, g3, g4, g5, g6, _⟩ := bc7 BX.out
      have HK := check_ok CKV.out
      have hBl := blk_lt BL.out
      have HC := cheapest_calls 25 #[.pointer (some ⟨Bl, 0, none⟩)] A0_0 A0_1 A0_2 A0_3 c0_0 c0_1 c0_2 c0_3 l0_0 l0_1 l0_2 l0_3 a0_4 a0_5 a0_6 (enters_of Tryz.func25 (by kernel_rfl) rfl) (passB l0_1 l0_2 l0_3 a0_4 a0_5 a0_6) (fun r => cW l0_1 r l0_1.length) (allR l0_1).length (rsAt l0_1) (fun W => Below W4.heap.size W4 W) W4 (by have := HK.m1; omega) HK.m12 hc0_0 hc0_1 hc0_2 hc0_3 (allR_pos l0_1) (rsAt_zero l0_1) (rsAt_len l0_1) (rsAt_next l0_1 (mats_b HK))
        (fun i hi => by
          obtain ⟨K, hK⟩ := bcost_l0 l0_1 (rsAt l0_1 i) HK.m12 (rsAt_len l0_1 i) l0_1.length 0 (by omega)
          exact ⟨K, hK K (Nat.le_refl _)⟩)
        (fun W W' hb h => h.trans hb)
        (fun W h => ⟨Kd.C_below (Kd.C_below HR.out.1 HB.out) h, Kd.C_below (Kd.C_below HR.out.2.1 HB.out) h, Kd.C_below (Kd.C_below HR.out.2.2.1 HB.out) h, Kd.C_below (Kd.C_below HR.out.2.2.2 HB.out) h⟩)
        (fun i hi W A h hs _ hri => by
          have hq := best1_calls Bl A9 c9 (linesV l0_1 l0_2 l0_3 a0_4 a0_5 a0_6) A (rsAt l0_1 i) (passB l0_1 l0_2 l0_3 a0_4 a0_5 a0_6 (rsAt l0_1 i)) W (blk_below BL.out h) (Kd.C_below LN.out.2 h) LN.out.1 hri (keeps_f l0_0 l0_1 l0_2 l0_3 a0_4 a0_5 a0_6 (rsAt l0_1 i) HK (rsAt_rec (mats_b HK) i hi))
          exact Calls.mono hq (fun e W' he => ⟨he.1, h.trans (he.2.mono hs), KeepHi.of_below he.2⟩))
        (Below.refl _ _)
      rw [chF_best] at HC
      go_wp2_with (go_at_call 24; (refine HC.mono ?_); rintro e W5 ⟨v5, rfl, hv5, hb5, hs5⟩)
      refine bodyPost_ret (v := .tuple #[v5, .int .i64 (bestV l0_1 l0_2 l0_3 a0_4 a0_5 a0_6).2.1, .bool (bestV l0_1 l0_2 l0_3 a0_4 a0_5 a0_6).2.2, .int .i64 0]) (by simp [results, Tryz.results10]) rfl ?_
      exact ⟨_, rfl, Kd.R_lower (Kd.R_mono hv5 (fun _ _ => trivial)) HB.out.size, below_then HB.out HB.out.size hb5⟩
  · have H := HH.out
    rw [if_neg hz] at H
    simp only [Option.some.injEq, Prod.mk.injEq] at H
    obtain ⟨rfl, rfl, rfl, rfl⟩ := H
    clear HH
    go_wp2
    refine bodyPost_ret (v := .tuple #[.slice none 0 0, .int .i64 0, .bool false, .int .i64 e0]) (by simp [results, Tryz.results10]) rfl ?_
    exact ⟨_, rfl, Kd.R_nil _ _ _ _ _, HB.out⟩
end
section
open Go.RowKit Go.Shelf Go.Proofs.YtnmdojgfedddbaaGreatDoorW.PrintWords Go.Proofs.YtnmdojgfedddbaaGreatDoorW.PrintLast Go.Proofs.YtnmdojgfedddbaaGreatDoorW.PrintMore
attribute [local go_sem] Oper.semAt_some
def wrongV : Value := .iface 122 (.agg #[])
def wrongC : List PanicEntry := [{ v := wrongV, recovered := false }]
theorem demand_ok (w : World) : Calls Tryz.prog 79 #[.bool true] w fun en w' => en = .returned (.tuple #[]) ∧ w' = w := by
  go_enter Tryz.func79, Tryz.ntmps79
  go_wp2
  go_end0
  exact ⟨rfl, rfl⟩
theorem demand_no (w : World) : Calls Tryz.prog 79 #[.bool false] w fun en w' => en = .panicked wrongC ∧ w' = w := by
  go_enter Tryz.func79, Tryz.ntmps79
  go_wp2
  simp [bodyPost, wrongC, wrongV]
theorem assert_wrong (w : World) : (Instr.typeAssert (.iface 122 (.agg #[])) 20 122 true).run Tryz.prog w = .ok (.tuple #[.agg #[], .bool true]) w := by
  kernel_rfl
theorem door_ok (B : Nat) (w : World) :
    CallsD Tryz.prog 78 #[.pointer (some ⟨B, 0, none⟩)] .returning w fun en u' w' => en = .returned (.tuple #[]) ∧ u' = .returning ∧ w' = w := by
  refine callsD_of_wpS Tryz.func78 rfl fun c₀ cs hu => ?_
  apply wpS_seq
  apply wpS_region
  simp [wpOpsS, go_sem, recoverD, hu, Tryz.ntmps78, Exit.thenS]
  apply wpS_of_wp
  go_wp2
  cases c₀
  simp_all [Go.bodyPostS, results, Tryz.results78]
theorem door_no (B : Nat) (b : Bool) (older : List PanicEntry) (w : World) (hB : w.heap[B]? = some (.cells #[.bool b] 4 (0, 0))) :
    CallsD Tryz.prog 78 #[.pointer (some ⟨B, 0, none⟩)] (.panicking ({ v := wrongV, recovered := false } :: older)) w fun en u' w' =>
      en = .returned (.tuple #[]) ∧ u' = .panicking ({ v := wrongV, recovered := true } :: older) ∧ w' = (w.alloc (.cells #[] 122)).setCell ⟨B, 0, none⟩ (.bool false) := by
  have hB1 := blk_alloc hB (.cells #[] 122)
  have hc : (w.alloc (.cells #[] 122)).cell? ⟨B, 0, none⟩ = some (.bool b) := (blk_cell hB1 0).trans rfl
  have hf := blk_frozen hB1 0
  clear hB hB1
  have hta := assert_wrong
  refine callsD_of_wpS Tryz.func78 rfl fun c₀ cs hu => ?_
  apply wpS_seq
  apply wpS_region
  simp [wpOpsS, go_sem, recoverD, hu, Tryz.ntmps78, Exit.thenS, wrongV]
  apply wpS_of_wp
  go_wp2
  simp [Go.bodyPostS, results, Tryz.results78]
end
section
open Go.RowKit Go.Shelf Go.Proofs.YtnmdojgfedddbaaGreatDoorW.PrintWords Go.Proofs.YtnmdojgfedddbaaGreatDoorW.PrintLast Go.Proofs.YtnmdojgfedddbaaGreatDoorW.PrintMore
attribute [local go_sem] Oper.semAt_some
def sh_lays171_ren : Go.Shelf.Ren := ⟨fun | 171 => 45 | 243 => 95 | 246 => 132 | 283 => 144 | 284 => 145 | 285 => 146 | 286 => 147 | 129 => 164 | 317 => 165 | 318 => 166 | 319 => 167 | 320 => 168 | 337 => 181 | 338 => 182 | n => n, fun | 3 => 3 | 9 => 9 | 2 => 2 | 4 => 4 | 171 => 177 | 0 => 0 | 53 => 144 | 37 => 86 | 5 => 5 | 173 => 180 | 212 => 193 | 51 => 191 | 20 => 20 | 213 => 194 | 46 => 174 | 232 => 221 | 233 => 222 | n => n, fun | 17 => 1 | 18 => 6 | 19 => 7 | n => n⟩
theorem sh_lays171 : Go.Proofs.Lays.n171 Tryz.prog sh_lays171_ren := {
  mixed := by kernel_rfl
  f129 := Tryz.func164.trans (congrArg some (by kernel_rfl))
  f171 := Tryz.func45.trans (congrArg some (by kernel_rfl))
  f243 := Tryz.func95.trans (congrArg some (by kernel_rfl))
  f246 := Tryz.func132.trans (congrArg some (by kernel_rfl))
  f283 := Tryz.func144.trans (congrArg some (by kernel_rfl))
  f284 := Tryz.func145.trans (congrArg some (by kernel_rfl))
  f285 := Tryz.func146.trans (congrArg some (by kernel_rfl))
  f286 := Tryz.func147.trans (congrArg some (by kernel_rfl))
  f317 := Tryz.func165.trans (congrArg some (by kernel_rfl))
  f318 := Tryz.func166.trans (congrArg some (by kernel_rfl))
  f319 := Tryz.func167.trans (congrArg some (by kernel_rfl))
  f320 := Tryz.func168.trans (congrArg some (by kernel_rfl))
  f337 := Tryz.func181.trans (congrArg some (by kernel_rfl))
  f338 := Tryz.func182.trans (congrArg some (by kernel_rfl))
  t0 := Tryz.underlying0
  a0 := Tryz.isAgg0
  z0 := Tryz.sizeOf0
  v0 := Tryz.zeroValue0
  t2 := Tryz.underlying2
  a2 := Tryz.isAgg2
  z2 := Tryz.sizeOf2
  v2 := Tryz.zeroValue2
  t3 := Tryz.underlying3
  a3 := Tryz.isAgg3
  z3 := Tryz.sizeOf3
  v3 := Tryz.zeroValue3
  t4 := Tryz.underlying4
  a4 := Tryz.isAgg4
  z4 := Tryz.sizeOf4
  v4 := Tryz.zeroValue4
  t5 := Tryz.underlying5
  a5 := Tryz.isAgg5
  z5 := Tryz.sizeOf5
  v5 := Tryz.zeroValue5
  t9 := Tryz.underlying9
  a9 := Tryz.isAgg9
  z9 := Tryz.sizeOf9
  v9 := Tryz.zeroValue9
  t20 := Tryz.underlying20
  a20 := Tryz.isAgg20
  z20 := Tryz.sizeOf20
  v20 := Tryz.zeroValue20
  t37 := Tryz.underlying86
  a37 := Tryz.isAgg86
  z37 := Tryz.sizeOf86
  v37 := Tryz.zeroValue86
  t46 := Tryz.underlying174
  a46 := Tryz.isAgg174
  z46 := Tryz.sizeOf174
  v46 := Tryz.zeroValue174
  t51 := Tryz.underlying191
  a51 := Tryz.isAgg191
  z51 := Tryz.sizeOf191
  v51 := Tryz.zeroValue191
  t53 := Tryz.underlying144
  a53 := Tryz.isAgg144
  z53 := Tryz.sizeOf144
  v53 := Tryz.zeroValue144
  t171 := Tryz.underlying177
  a171 := Tryz.isAgg177
  z171 := Tryz.sizeOf177
  v171 := Tryz.zeroValue177
  t173 := Tryz.underlying180
  a173 := Tryz.isAgg180
  z173 := Tryz.sizeOf180
  v173 := Tryz.zeroValue180
  t212 := Tryz.underlying193
  a212 := Tryz.isAgg193
  z212 := Tryz.sizeOf193
  v212 := Tryz.zeroValue193
  t213 := Tryz.underlying194
  a213 := Tryz.isAgg194
  z213 := Tryz.sizeOf194
  t232 := Tryz.underlying221
  a232 := Tryz.isAgg221
  z232 := Tryz.sizeOf221
  v232 := Tryz.zeroValue221
  t233 := Tryz.underlying222
  a233 := Tryz.isAgg222
  z233 := Tryz.sizeOf222
  v233 := Tryz.zeroValue222
  g17 := by kernel_rfl
  g18 := by kernel_rfl
  g19 := by kernel_rfl }
open Go.RowKit Go.Sort Go.Lib in
theorem sh_strconv_Itoa_small (i : Nat) (hi : i < 100) (w : World) :
    Calls Tryz.prog 45 #[.int .i64 i] w fun e w' => e = .returned (.string ⟨(Lib.decDigits i).toArray⟩) ∧ w' = w := Any.strconv_Itoa_small sh_lays171 i hi w
def sh_laysC172_ren : Go.Shelf.Ren := ⟨fun | 172 => 138 | 244 => 153 | 245 => 154 | 247 => 171 | 279 => 172 | 280 => 173 | 281 => 174 | 282 => 175 | 287 => 183 | 316 => 184 | 171 => 45 | 205 => 185 | 321 => 187 | 322 => 188 | 243 => 95 | 246 => 132 | 283 => 144 | 284 => 145 | 285 => 146 | 286 => 147 | 129 => 164 | 317 => 165 | 318 => 166 | 319 => 167 | 320 => 168 | 337 => 181 | 338 => 182 | n => n, fun | 9 => 9 | 3 => 3 | 75 => 138 | 76 => 139 | 4 => 4 | 5 => 5 | 167 => 201 | 37 => 86 | 0 => 0 | 85 => 202 | 2 => 2 | 168 => 204 | 53 => 144 | 175 => 213 | 46 => 174 | 210 => 217 | 127 => 142 | 145 => 226 | 143 => 224 | 21 => 21 | 171 => 177 | 173 => 180 | 212 => 193 | 51 => 191 | 20 => 20 | 213 => 194 | 232 => 221 | 233 => 222 | 80 => 94 | n => n, fun | 15 => 4 | 16 => 5 | 17 => 1 | 18 => 6 | 19 => 7 | n => n⟩
theorem sh_laysC172 : Go.Proofs.LaysC.n172 Tryz.prog sh_laysC172_ren := {
  mixed := by kernel_rfl
  f129 := Tryz.func164.trans (congrArg some (by kernel_rfl))
  f171 := Tryz.func45.trans (congrArg some (by kernel_rfl))
  f172 := Tryz.func138.trans (congrArg some (by kernel_rfl))
  f205 := Tryz.func185.trans (congrArg some (by kernel_rfl))
  f243 := Tryz.func95.trans (congrArg some (by kernel_rfl))
  f244 := Tryz.func153.trans (congrArg some (by kernel_rfl))
  f245 := Tryz.func154.trans (congrArg some (by kernel_rfl))
  f246 := Tryz.func132.trans (congrArg some (by kernel_rfl))
  f247 := Tryz.func171.trans (congrArg some (by kernel_rfl))
  f279 := Tryz.func172.trans (congrArg some (by kernel_rfl))
  f280 := Tryz.func173.trans (congrArg some (by kernel_rfl))
  f281 := Tryz.func174.trans (congrArg some (by kernel_rfl))
  f282 := Tryz.func175.trans (congrArg some (by kernel_rfl))
  f283 := Tryz.func144.trans (congrArg some (by kernel_rfl))
  f284 := Tryz.func145.trans (congrArg some (by kernel_rfl))
  f285 := Tryz.func146.trans (congrArg some (by kernel_rfl))
  f286 := Tryz.func147.trans (congrArg some (by kernel_rfl))
  f287 := Tryz.func183.trans (congrArg some (by kernel_rfl))
  f316 := Tryz.func184.trans (congrArg some (by kernel_rfl))
  f317 := Tryz.func165.trans (congrArg some (by kernel_rfl))
  f318 := Tryz.func166.trans (congrArg some (by kernel_rfl))
  f319 := Tryz.func167.trans (congrArg some (by kernel_rfl))
  f320 := Tryz.func168.trans (congrArg some (by kernel_rfl))
  f321 := Tryz.func187.trans (congrArg some (by kernel_rfl))
  f322 := Tryz.func188.trans (congrArg some (by kernel_rfl))
  f337 := Tryz.func181.trans (congrArg some (by kernel_rfl))
  f338 := Tryz.func182.trans (congrArg some (by kernel_rfl))
  t0 := Tryz.underlying0
  a0 := Tryz.isAgg0
  z0 := Tryz.sizeOf0
  v0 := Tryz.zeroValue0
  t2 := Tryz.underlying2
  a2 := Tryz.isAgg2
  z2 := Tryz.sizeOf2
  v2 := Tryz.zeroValue2
  t3 := Tryz.underlying3
  a3 := Tryz.isAgg3
  z3 := Tryz.sizeOf3
  v3 := Tryz.zeroValue3
  t4 := Tryz.underlying4
  a4 := Tryz.isAgg4
  z4 := Tryz.sizeOf4
  v4 := Tryz.zeroValue4
  t5 := Tryz.underlying5
  a5 := Tryz.isAgg5
  z5 := Tryz.sizeOf5
  v5 := Tryz.zeroValue5
  t9 := Tryz.underlying9
  a9 := Tryz.isAgg9
  z9 := Tryz.sizeOf9
  v9 := Tryz.zeroValue9
  t20 := Tryz.underlying20
  a20 := Tryz.isAgg20
  z20 := Tryz.sizeOf20
  v20 := Tryz.zeroValue20
  t21 := Tryz.underlying21
  a21 := Tryz.isAgg21
  z21 := Tryz.sizeOf21
  v21 := Tryz.zeroValue21
  t37 := Tryz.underlying86
  a37 := Tryz.isAgg86
  z37 := Tryz.sizeOf86
  v37 := Tryz.zeroValue86
  t46 := Tryz.underlying174
  a46 := Tryz.isAgg174
  z46 := Tryz.sizeOf174
  v46 := Tryz.zeroValue174
  t51 := Tryz.underlying191
  a51 := Tryz.isAgg191
  z51 := Tryz.sizeOf191
  v51 := Tryz.zeroValue191
  t53 := Tryz.underlying144
  a53 := Tryz.isAgg144
  z53 := Tryz.sizeOf144
  v53 := Tryz.zeroValue144
  t75 := Tryz.underlying138
  a75 := Tryz.isAgg138
  z75 := Tryz.sizeOf138
  v75 := Tryz.zeroValue138
  t76 := Tryz.underlying139
  a76 := Tryz.isAgg139
  z76 := Tryz.sizeOf139
  v76 := Tryz.zeroValue139
  t85 := Tryz.underlying202
  a85 := Tryz.isAgg202
  z85 := Tryz.sizeOf202
  v85 := Tryz.zeroValue202
  t127 := Tryz.underlying142
  a127 := Tryz.isAgg142
  z127 := Tryz.sizeOf142
  v127 := Tryz.zeroValue142
  t143 := Tryz.underlying224
  a143 := Tryz.isAgg224
  z143 := Tryz.sizeOf224
  v143 := Tryz.zeroValue224
  t145 := Tryz.underlying226
  a145 := Tryz.isAgg226
  z145 := Tryz.sizeOf226
  v145 := Tryz.zeroValue226
  t167 := Tryz.underlying201
  a167 := Tryz.isAgg201
  z167 := Tryz.sizeOf201
  v167 := Tryz.zeroValue201
  t168 := Tryz.underlying204
  a168 := Tryz.isAgg204
  z168 := Tryz.sizeOf204
  v168 := Tryz.zeroValue204
  t171 := Tryz.underlying177
  a171 := Tryz.isAgg177
  z171 := Tryz.sizeOf177
  v171 := Tryz.zeroValue177
  t173 := Tryz.underlying180
  a173 := Tryz.isAgg180
  z173 := Tryz.sizeOf180
  v173 := Tryz.zeroValue180
  t175 := Tryz.underlying213
  a175 := Tryz.isAgg213
  z175 := Tryz.sizeOf213
  v175 := Tryz.zeroValue213
  t210 := Tryz.underlying217
  a210 := Tryz.isAgg217
  z210 := Tryz.sizeOf217
  v210 := Tryz.zeroValue217
  t212 := Tryz.underlying193
  a212 := Tryz.isAgg193
  z212 := Tryz.sizeOf193
  v212 := Tryz.zeroValue193
  t213 := Tryz.underlying194
  a213 := Tryz.isAgg194
  z213 := Tryz.sizeOf194
  t232 := Tryz.underlying221
  a232 := Tryz.isAgg221
  z232 := Tryz.sizeOf221
  v232 := Tryz.zeroValue221
  t233 := Tryz.underlying222
  a233 := Tryz.isAgg222
  z233 := Tryz.sizeOf222
  v233 := Tryz.zeroValue222
  g15 := by kernel_rfl
  g16 := by kernel_rfl
  g17 := by kernel_rfl
  g18 := by kernel_rfl
  g19 := by kernel_rfl
  t80 := Tryz.underlying94
  a80 := Tryz.isAgg94
  z80 := Tryz.sizeOf94
  v80 := Tryz.zeroValue94
  i0 := by kernel_rfl
  i2 := by kernel_rfl
  i3 := by kernel_rfl
  i4 := by kernel_rfl
  i5 := by kernel_rfl
  i9 := by kernel_rfl
  i20 := by kernel_rfl
  i21 := by kernel_rfl
  i37 := by kernel_rfl
  i46 := by kernel_rfl
  i51 := by kernel_rfl
  i53 := by kernel_rfl
  i75 := by kernel_rfl
  i76 := by kernel_rfl
  i80 := by kernel_rfl
  i85 := by kernel_rfl
  i127 := by kernel_rfl
  i143 := by kernel_rfl
  i145 := by kernel_rfl
  i167 := by kernel_rfl
  i168 := by kernel_rfl
  i171 := by kernel_rfl
  i173 := by kernel_rfl
  i175 := by kernel_rfl
  i210 := by kernel_rfl
  i212 := by kernel_rfl
  i232 := by kernel_rfl
  i233 := by kernel_rfl
  m15 := by kernel_rfl
  m16 := by kernel_rfl
  m17 := by kernel_rfl
  m18 := by kernel_rfl
  m19 := by kernel_rfl
  c0 := by kernel_rfl
  c2 := by kernel_rfl
  c3 := by kernel_rfl
  c4 := by kernel_rfl
  c5 := by kernel_rfl
  c9 := by kernel_rfl
  c20 := by kernel_rfl
  c21 := by kernel_rfl
  c37 := by kernel_rfl
  c46 := by kernel_rfl
  c51 := by kernel_rfl
  c53 := by kernel_rfl
  c75 := by kernel_rfl
  c76 := by kernel_rfl
  c80 := by kernel_rfl
  c85 := by kernel_rfl
  c127 := by kernel_rfl
  c143 := by kernel_rfl
  c145 := by kernel_rfl
  c167 := by kernel_rfl
  c168 := by kernel_rfl
  c171 := by kernel_rfl
  c173 := by kernel_rfl
  c175 := by kernel_rfl
  c210 := by kernel_rfl
  c212 := by kernel_rfl
  c213 := by kernel_rfl
  c232 := by kernel_rfl
  c233 := by kernel_rfl }
open Go.RowKit in
theorem sh_strconv_Atoi_ok (s : ByteArray) (hmax : s.size ≤ 9223372036854775806) (v : Int) (h : Lib.atoiAll s.data.toList = .ok v) (w : World) :
    Calls Tryz.prog 138 #[.string s] w fun e w' => e = .returned (.tuple #[.int .i64 v, .nilIface]) ∧ (w' = w ∨ ∃ t, w' = Lib.bytesWorld w 5 t) := Any.strconv_Atoi_ok sh_laysC172 s hmax v h w
def sh_lays146_ren : Go.Shelf.Ren := ⟨fun | 146 => 31 | 221 => 77 | 268 => 111 | 138 => 112 | 143 => 113 | 195 => 134 | 197 => 135 | 218 => 136 | 219 => 137 | 260 => 148 | 217 => 149 | 225 => 150 | 224 => 151 | 267 => 152 | 266 => 169 | 314 => 170 | n => n, fun | 9 => 9 | 31 => 22 | 3 => 3 | 4 => 4 | 0 => 0 | 105 => 167 | 21 => 21 | 5 => 5 | 46 => 174 | 119 => 195 | 139 => 198 | 138 => 197 | 146 => 199 | 51 => 191 | n => n, fun | 1 => 0 | 3 => 2 | 4 => 3 | n => n⟩
theorem sh_lays146 : Go.Proofs.Lays.n146 Tryz.prog sh_lays146_ren := {
  mixed := by kernel_rfl
  f138 := Tryz.func112.trans (congrArg some (by kernel_rfl))
  f143 := Tryz.func113.trans (congrArg some (by kernel_rfl))
  f146 := Tryz.func31.trans (congrArg some (by kernel_rfl))
  f195 := Tryz.func134.trans (congrArg some (by kernel_rfl))
  f197 := Tryz.func135.trans (congrArg some (by kernel_rfl))
  f217 := Tryz.func149.trans (congrArg some (by kernel_rfl))
  f218 := Tryz.func136.trans (congrArg some (by kernel_rfl))
  f219 := Tryz.func137.trans (congrArg some (by kernel_rfl))
  f221 := Tryz.func77.trans (congrArg some (by kernel_rfl))
  f224 := Tryz.func151.trans (congrArg some (by kernel_rfl))
  f225 := Tryz.func150.trans (congrArg some (by kernel_rfl))
  f260 := Tryz.func148.trans (congrArg some (by kernel_rfl))
  f266 := Tryz.func169.trans (congrArg some (by kernel_rfl))
  f267 := Tryz.func152.trans (congrArg some (by kernel_rfl))
  f268 := Tryz.func111.trans (congrArg some (by kernel_rfl))
  f314 := Tryz.func170.trans (congrArg some (by kernel_rfl))
  t0 := Tryz.underlying0
  a0 := Tryz.isAgg0
  z0 := Tryz.sizeOf0
  v0 := Tryz.zeroValue0
  t3 := Tryz.underlying3
  a3 := Tryz.isAgg3
  z3 := Tryz.sizeOf3
  v3 := Tryz.zeroValue3
  t4 := Tryz.underlying4
  a4 := Tryz.isAgg4
  z4 := Tryz.sizeOf4
  v4 := Tryz.zeroValue4
  t5 := Tryz.underlying5
  a5 := Tryz.isAgg5
  z5 := Tryz.sizeOf5
  v5 := Tryz.zeroValue5
  t9 := Tryz.underlying9
  a9 := Tryz.isAgg9
  z9 := Tryz.sizeOf9
  v9 := Tryz.zeroValue9
  t21 := Tryz.underlying21
  a21 := Tryz.isAgg21
  z21 := Tryz.sizeOf21
  v21 := Tryz.zeroValue21
  t31 := Tryz.underlying22
  a31 := Tryz.isAgg22
  z31 := Tryz.sizeOf22
  v31 := Tryz.zeroValue22
  t46 := Tryz.underlying174
  a46 := Tryz.isAgg174
  z46 := Tryz.sizeOf174
  v46 := Tryz.zeroValue174
  t51 := Tryz.underlying191
  a51 := Tryz.isAgg191
  z51 := Tryz.sizeOf191
  v51 := Tryz.zeroValue191
  t105 := Tryz.underlying167
  a105 := Tryz.isAgg167
  z105 := Tryz.sizeOf167
  v105 := Tryz.zeroValue167
  t119 := Tryz.underlying195
  a119 := Tryz.isAgg195
  z119 := Tryz.sizeOf195
  t138 := Tryz.underlying197
  a138 := Tryz.isAgg197
  z138 := Tryz.sizeOf197
  v138 := Tryz.zeroValue197
  t139 := Tryz.underlying198
  a139 := Tryz.isAgg198
  z139 := Tryz.sizeOf198
  v139 := Tryz.zeroValue198
  t146 := Tryz.underlying199
  a146 := Tryz.isAgg199
  z146 := Tryz.sizeOf199
  v146 := Tryz.zeroValue199
  g1 := by kernel_rfl
  g3 := by kernel_rfl
  g4 := by kernel_rfl }
open Go.RowKit Go.Lib in
theorem sh_strings_Split (s sep : ByteArray) (m : Int) (w : World) (hs : s.size < 4294967281) (hm : w.cell? ⟨0, 0, none⟩ = some (.int .i64 m)) (h1 : 1 ≤ sep.size) :
    Calls Tryz.prog 31 #[.string s, .string sep] w fun e w' =>
      e = .returned (.slice (some ⟨w.heap.size, 0, none⟩) (Lib.countB s sep + 1) (Lib.countB s sep + 1)) ∧ w' = w.alloc (.cells ((Lib.splitB sep 0 (Lib.countB s sep) s).map Value.string).toArray 9) := Any.strings_Split sh_lays146 (by kernel_rfl) s sep m w hs hm h1
def sh_laysSlN42_f116_ren : Go.Shelf.Ren := ⟨fun | 42 => 116 | n => n, fun | 25 => 22 | 26 => 9 | 4 => 4 | n => n, fun | n => n⟩
theorem sh_laysSlN42_f116 : Go.Proofs.SlLaysN.n42 Tryz.prog sh_laysSlN42_f116_ren := {
  mixed := by kernel_rfl
  f42 := ⟨Tryz.f116.name, by decide, Tryz.func116.trans (congrArg some (by kernel_rfl))⟩
  t4 := Tryz.underlying4
  a4 := Tryz.isAgg4
  z4 := Tryz.sizeOf4
  v4 := Tryz.zeroValue4
  t25 := Tryz.underlying22
  a25 := Tryz.isAgg22
  z25 := Tryz.sizeOf22
  v25 := Tryz.zeroValue22
  t26 := Tryz.underlying9
  a26 := Tryz.isAgg9
  z26 := Tryz.sizeOf9
  v26 := Tryz.zeroValue9
  i26 := by kernel_rfl }
open Go.RowKit Go.Lib in
theorem sh_slices_Clone_string (b off n c : Nat) (zs : List ByteArray) (w : World) (hz : n ≤ zs.length) (hbig : n * 16 ≤ 140737488355328) (hc : ∀ j, j < zs.length → w.cell? ⟨b, off + j, none⟩ = some (.string (zs.getD j ByteArray.empty))) :
    Calls Tryz.prog 116 #[.slice (some ⟨b, off, none⟩) n c] w fun e w' => ∃ v', e = .returned v' ∧ w'.ownsRow w.heap.size 9 1 v' n ((zs.take n).map (Value.string)) ∧ v' ≠ .slice none 0 0 ∧ Below w.heap.size w w' := AnyG.slices_Clone_string sh_laysSlN42_f116 b off n c zs w hz hbig hc
end
section
open Go.RowKit Go.Shelf Go.Proofs.YtnmdojgfedddbaaGreatDoorW.PrintWords Go.Proofs.YtnmdojgfedddbaaGreatDoorW.PrintLast Go.Proofs.YtnmdojgfedddbaaGreatDoorW.PrintMore
attribute [local go_sem] Oper.semAt_some
structure NumOk (x : ByteArray) (v : Nat) : Prop where
  a : Lib.atoiAll x.data.toList = .ok (v : Int)
  d : (⟨(Lib.decDigits v).toArray⟩ : ByteArray) = x
  h : v < 100
  m : x.size ≤ 9223372036854775806
theorem atoi_ok {x : ByteArray} {v : Nat} (h : NumOk x v) (w : World) : Calls Tryz.prog 138 #[.string x] w fun e w' => e = .returned (.tuple #[.int .i64 (v : Int), .nilIface]) ∧ Below w.heap.size w w' := by
  refine (sh_strconv_Atoi_ok x h.m v h.a w).mono ?_
  rintro e w' ⟨rfl, rfl | ⟨t, rfl⟩⟩
  · exact ⟨rfl, Below.refl _ _⟩
  · exact ⟨rfl, bytes_below (Below.refl _ _) (Nat.le_refl _) _ _⟩
theorem itoa_ok {x : ByteArray} {v : Nat} (h : NumOk x v) (w : World) : Calls Tryz.prog 45 #[.int .i64 (v : Int)] w fun e w' => e = .returned (.string x) ∧ w' = w := by
  refine (sh_strconv_Itoa_small v h.h w).mono ?_
  rw [h.d]
  exact fun _ _ h => h
theorem within_ok (v : Nat) (hv : v < 100) (w : World) : Calls Tryz.prog 26 #[.int .i64 (v : Int), .int .i64 (-999999), .int .i64 999999] w fun e w' => e = .returned (.bool true) ∧ Below w.heap.size w w' := by
  have h1 : decide ((v : Int) ≥ -999999) = true := decide_eq_true (by omega)
  have h2 : decide ((v : Int) ≤ 999999) = true := decide_eq_true (by omega)
  have h3 : decide ((-999999 : Int) ≤ (v : Int)) = true := decide_eq_true (by omega)
  go_enter Tryz.func26, Tryz.ntmps26
  go_wp2
  go_ret
  exact ⟨rfl, Below.refl _ _⟩
def intsOf (vs : List Nat) : List Int := vs.map fun n : Nat => (n : Int)
theorem intsOf_step (vs : List Nat) (k : Nat) (h : k < vs.length) : intsOf (vs.take (k + 1)) = intsOf (vs.take k) ++ [((vs.getD k 0 : Nat) : Int)] := by
  have e : vs[k]? = some vs[k] := List.getElem?_eq_getElem h
  rw [intsOf, List.take_add_one, List.map_append, e, List.getD_eq_getElem?_getD, e]
  rfl
theorem numbers_ok (A : Option Addr) (c : Nat) (zs : List ByteArray) (vs : List Nat) (hl : vs.length = zs.length) (hn : zs.length < 100000) (hv : ∀ k : Nat, k < zs.length → NumOk (rdOf ByteArray.empty zs (k : Int)) (vs.getD k 0)) (w : World) (hr : Kd.C Kd.string w A zs.length zs) :
    Calls Tryz.prog 118 #[.slice A zs.length c] w fun e w' => ∃ v, e = .returned v ∧ Kd.R (Kd.int .i64) 3 w' w.heap.size (fun _ => True) v (intsOf vs) ∧ Below w.heap.size w w' := by
  have HR := Sd.mk hr
  have HV := Sd.mk hv
  have HL := Sd.mk hl
  have HN := Sd.mk hn
  have HB := Sd.mk (Below.refl w.heap.size w)
  clear hr hv hl hn
  go_enter Tryz.func118, Tryz.ntmps118
  go_wp2
  go_loopg [3, 10] zs.length (fun gq v3 v10 wr => ∃ k : Nat, v10 = .int .i64 k ∧ k ≤ zs.length ∧ zs.length - k ≤ gq ∧ Sd (Kd.R (Kd.int .i64) 3 wr w.heap.size (fun _ => True) v3 (intsOf (vs.take k))) ∧ Sd (Below w.heap.size w wr))
  case atStart => exact ⟨0, rfl, Nat.zero_le _, by omega, ⟨Kd.R_nil _ _ _ _ _⟩, HB⟩
  case round =>
    clear HB
    obtain ⟨k, rfl, hk, hgk, HO, HB⟩ := hrel
    by_cases hlt : k < zs.length
    · have hltz : (k : Int) < (zs.length : Int) := by omega
      have HK := Sd.mk hlt
      obtain ⟨ad, e, hx⟩ := Kd.at_string HR.out (k : Int) (by omega) hltz
      cases e
      replace hx := (HB.out.cell (World.block_lt_of_cell? w _ hx)).trans hx
      simp only [Int.toNat_natCast] at hx
      have HQ := Sd.mk (HV.out k hlt)
      have HT : Sd (intsOf (vs.take (k + 1)) = intsOf (vs.take k) ++ [((vs.getD k 0 : Nat) : Int)]) := ⟨intsOf_step vs k (by rw [HL.out]; exact hlt)⟩
      have HTL : Sd ((intsOf (vs.take k)).length ≤ 100000) := ⟨by rw [intsOf, List.length_map, List.length_take]; have := HN.out; omega⟩
      generalize hg1 : rdOf ByteArray.empty zs (k : Int) = x at hx HQ
      generalize hg2 : vs.getD k 0 = n at HQ HT
      clear hg1 hg2
      generalize hg3 : intsOf (vs.take (k + 1)) = t1 at HT
      have HG3 := Sd.mk hg3
      clear hg3
      generalize hg4 : intsOf (vs.take k) = t0 at HT HTL HO
      clear hg4
      go_wp2_with (first
        | (go_at_call 138; refine (atoi_ok HQ.out _).mono ?_; rintro e w1 ⟨rfl, hb⟩; have HB1 := Sd.mk (below_then HB.out HB.out.size hb); have HO1 := Sd.mk (Kd.R_below HO.out hb); clear hb hx HB HO)
        | (go_at_call 45; refine (itoa_ok HQ.out _).mono ?_; rintro e w' ⟨rfl, rfl⟩)
        | (go_at_call 26; refine (within_ok _ HQ.out.h _).mono ?_; rintro e w2 ⟨rfl, hb⟩; have HB2 := Sd.mk (below_then HB1.out HB1.out.size hb); have HO2 := Sd.mk (Kd.R_below HO1.out hb); clear hb HB1 HO1)
        | (go_at_call 79; refine (demand_ok _).mono ?_; rintro e w' ⟨rfl, rfl⟩)
        | ((with_reducible refine gate_builtin (b := .append) (xs := #[.tmp 32, .tmp 34]) rfl ?_); at_builtin; refine Kd.R_append (Kd.int .i64) (w0 := w) w.heap.size rfl (.tmp 32) (.tmp 34) 34 3 (.int .i64 0) 8 rfl Tryz.underlying34 info3 rfl (by decide) (by omega) u3 t0 (n : Int) [.int .i64 (n : Int)] (fun _ => True) (fun _ => False) rfl rfl ?aP (fun _ hk => hk.elim) ?aF ?aO ?aB ?aS ?aL ?_; (case aP => exact rfl); (case aB => exact (by repeat (first | (with_reducible first | exact HB2.out | apply below_alloc | apply pw_below_drewN | apply below_drew1) | exact HB2.out))); (case aF => exact (fun _ _ => trivial)); (case aO => exact (by (with_reducible repeat (first | apply Kd.R_alloc | apply Kd.R_drewN | apply Kd.R_drew)); exact HO2.out)); (case aS => exact (below_size (by repeat (first | (with_reducible first | exact HB2.out | apply below_alloc | apply pw_below_drewN | apply below_drew1) | exact HB2.out)))); (case aL => have := HTL.out; omega); intro v7 w7 ho hb hg hat; rw [← HT.out] at ho; have HB7 := Sd.mk hb; have HO7 := Sd.mk ho; clear ho hb hg hat HB2 HO2))
      go_roundg (zs.length - (k + 1))
      case measure => have := HK.out; omega
      case rel => exact ⟨k + 1, by go_simp; have := HN.out; unfold wrap64; omega, by have := HK.out; omega, Nat.le_refl _, ⟨by rw [HG3.out]; exact Kd.R_mono HO7.out (fun _ hk => trivial)⟩, HB7⟩
    · have hd : decide ((k : Int) < (zs.length : Int)) = false := decide_eq_false (by omega)
      have HKE : Sd (intsOf (vs.take k) = intsOf vs) := ⟨by rw [List.take_of_length_le (by have := HL.out; omega)]⟩
      go_wp2
      go_ret
      exact ⟨_, rfl, by rw [← HKE.out]; exact HO.out, HB.out⟩
end
section
open Go.RowKit Go.Shelf Go.Proofs.YtnmdojgfedddbaaGreatDoorW.PrintWords Go.Proofs.YtnmdojgfedddbaaGreatDoorW.PrintLast Go.Proofs.YtnmdojgfedddbaaGreatDoorW.PrintMore
attribute [local go_sem] Oper.semAt_some
def spanI (l : List Int) (i : Nat) : S27 := ⟨rd l (2 * (i : Int)), rd l (2 * (i : Int) + 1)⟩
def spansL (l : List Int) (k : Nat) : List S27 := (List.range k).map (spanI l)
theorem spansL_step (l : List Int) (k : Nat) : spansL l (k + 1) = spansL l k ++ [spanI l k] := by simp [spansL, List.range_succ]
theorem spansL_len (l : List Int) (k : Nat) : (spansL l k).length = k := by simp [spansL]
def spnT : Bool × List (List Nat × List Nat) := (true, [([], []), ([], []), ([], []), ([1, 2], [1, 2]), ([3], [3]), ([], []), ([], []), ([6], [6]), ([5, 7], [5, 7]), ([8], [8]), ([4, 9], [4, 9]), ([10], [10]), ([0, 11], [0, 11]), ([12, 12, 0, 1, 2, 3, 4, 5, 6, 7, 8, 9, 10, 11, 12], [0, 12])])
def spnB : List Nat := [0, 0, 0, 6, 14, 0, 0, 64, 224, 480, 1022, 2046, 4095, 8191]
theorem spn_tab : rtab .any (opsOf Tryz.f120 6) = spnT := by kernel_rfl
theorem spn_bits : waitsOk spnT.2 spnB = true := by kernel_rfl
theorem spans_ok (A : Option Addr) (c : Nat) (l : List Int) (m : Nat) (hl : l.length = 2 * m) (hm : m < 100000) (w : World) (hr : Kd.C (Kd.int .i64) w A l.length l) :
    Calls Tryz.prog 120 #[.slice A l.length c] w fun e w' => ∃ v, e = .returned v ∧ Kd.R k27 27 w' w.heap.size (fun _ => True) v (spansL l m) ∧ Below w.heap.size w w' := by
  have HR := Sd.mk hr
  have HL := Sd.mk hl
  have HM := Sd.mk hm
  have HB := Sd.mk (Below.refl w.heap.size w)
  have HE : Sd ((((l.length : Int) % 2) == 0) = true) := ⟨by rw [hl]; simp⟩
  clear hr hl hm
  go_enter Tryz.func120, Tryz.ntmps120
  go_wp2_with (go_at_call 79; rw [HE.out]; refine (demand_ok _).mono ?_; rintro e w' ⟨rfl, hw⟩; subst w')
  go_loopg [3, 4] m (fun gq v3 v4 wr => ∃ k : Nat, v4 = .int .i64 (2 * (k : Int)) ∧ k ≤ m ∧ m - k ≤ gq ∧ Sd (Kd.R k27 27 wr w.heap.size (fun _ => True) v3 (spansL l k)) ∧ Sd (Below w.heap.size w wr))
  case atStart => exact ⟨0, rfl, Nat.zero_le _, by omega, ⟨Kd.R_nil _ _ _ _ _⟩, HB⟩
  case round =>
    clear HB
    obtain ⟨k, rfl, hk, hgk, HO, HB⟩ := hrel
    by_cases hlt : k < m
    · have HK := Sd.mk hlt
      have h0 : (0 : Int) ≤ 2 * (k : Int) := by omega
      have h1 : 2 * (k : Int) < (l.length : Int) := by have := HL.out; omega
      have h2 : (0 : Int) ≤ 2 * (k : Int) + 1 := by omega
      have h3 : 2 * (k : Int) + 1 < (l.length : Int) := by have := HL.out; omega
      have hw1 : wrap64 (2 * (k : Int) + 1) = 2 * (k : Int) + 1 := by have := HM.out; unfold wrap64; omega
      have hw1i : IntKind.i64.wrap (2 * (k : Int) + 1) = 2 * (k : Int) + 1 := (i64_w _).trans hw1
      have HW2 : Sd (wrap64 (2 * (k : Int) + 2) = 2 * ((k + 1 : Nat) : Int)) := ⟨by have := HM.out; unfold wrap64; omega⟩
      obtain ⟨ad, e, hx0⟩ := Kd.at_int HR.out _ h0 h1
      cases e
      obtain ⟨ad', e, hx1⟩ := Kd.at_int HR.out _ h2 h3
      obtain rfl : ad = ad' := by injection e
      have HX0 := Sd.mk hx0
      have HX1 := Sd.mk hx1
      have HST := Sd.mk (spansL_step l k)
      have HSL : Sd ((spansL l k).length < 100000) := ⟨by rw [spansL_len]; have := HM.out; omega⟩
      clear e hx0 hx1
      generalize hgi : 2 * (k : Int) = i at h0 h1 h2 h3 hw1 hw1i HW2 HX0 HX1 ⊢
      have HGI := Sd.mk hgi
      clear hgi
      generalize hgj : i + 1 = j at h2 h3 hw1 hw1i HX1
      have HGJ := Sd.mk hgj
      have hj : i + 1 = j := hgj
      clear hgj
      try go_wp2
      have n0_ := Sd.mk (Kd.R_drew HO.out)
      have n1_ := Sd.mk (below_drew1 HB.out)
      clear HO HB
      have HO := n0_
      have HB := n1_
      clear n0_ n1_
      refine start_ (n := 14) (S := fun w' => w'.cell? (ad.add i.toNat) = some (.int .i64 (rd l i)) ∧ w'.cell? (ad.add j.toNat) = some (.int .i64 (rd l j))) (ds := []) #[false, false, false, false, false, false, false, false, false, false, false, false, false, false] (by kernel_rfl) rfl rfl ⟨(HB.out.cell (World.block_lt_of_cell? w _ HX0.out)).trans HX0.out, (HB.out.cell (World.block_lt_of_cell? w _ HX1.out)).trans HX1.out⟩ (fun hHeld => ?_)
      refine with_tabW spn_tab spn_bits (fun HT_ HW_ => ?_)
      generalize wr.drew = w8 at HO HB hHeld ⊢
      generalize hx : rd l i = x at hHeld ⊢
      generalize hy : rd l j = y at hHeld ⊢
      have HX := Sd.mk hx
      have HY := Sd.mk hy
      clear hx hy
      refine pure_ (i := 0) (N := some 16) (v := ?_) (a' := ?_) #[true, false, false, false, false, false, false, false, false, false, false, false, false, false] rfl rfl (any_of HT_.out (by kernel_rfl)) (fun _ _ _ h => h) (Or.inl ⟨by rfl, ?_⟩) ?_ ?_
      rotate_left
      · intro w'
        go_simp
        with_reducible rfl
      rotate_left
      · simp only [Act.put, List.setIfInBounds_toArray, List.set_cons_zero, List.set_cons_succ, i64_w, i32_w]
        rfl
      refine pure_ (i := 1) (N := some 17) (v := ?_) (a' := ?_) #[true, true, false, false, false, false, false, false, false, false, false, false, false, false] rfl rfl (any_of HT_.out (by kernel_rfl)) (fun _ _ _ h => h) (Or.inl ⟨by rfl, ?_⟩) ?_ ?_
      rotate_left
      · intro w'
        go_simp
        with_reducible rfl
      rotate_left
      · simp only [Act.put, List.setIfInBounds_toArray, List.set_cons_zero, List.set_cons_succ, i64_w, i32_w]
        rfl
      refine pure_ (i := 2) (N := some 18) (v := ?_) (a' := ?_) #[true, true, true, false, false, false, false, false, false, false, false, false, false, false] rfl rfl (any_of HT_.out (by kernel_rfl)) (fun _ _ _ h => h) (Or.inl ⟨by rfl, ?_⟩) ?_ ?_
      rotate_left
      · intro w'
        go_simp
        with_reducible rfl
      rotate_left
      · simp only [Act.put, List.setIfInBounds_toArray, List.set_cons_zero, List.set_cons_succ, i64_w, i32_w]
        rfl
      refine pure_ (i := 3) (N := some 19) (v := ?_) (a' := ?_) #[true, true, true, true, false, false, false, false, false, false, false, false, false, false] rfl rfl (any_of HT_.out (by kernel_rfl)) (fun _ _ _ h => h) (Or.inl ⟨by rfl, ?_⟩) ?_ ?_
      rotate_left
      · intro w'
        go_simp
        with_reducible rfl
      rotate_left
      · simp only [Act.put, List.setIfInBounds_toArray, List.set_cons_zero, List.set_cons_succ, i64_w, i32_w]
        rfl
      refine pure_ (i := 5) (N := some 21) (v := ?_) (a' := ?_) #[true, true, true, true, false, true, false, false, false, false, false, false, false, false] rfl rfl (any_of HT_.out (by kernel_rfl)) (fun _ _ _ h => h) (Or.inl ⟨by rfl, ?_⟩) ?_ ?_
      rotate_left
      · intro w'
        go_simp
        with_reducible rfl
      rotate_left
      · simp only [Act.put, List.setIfInBounds_toArray, List.set_cons_zero, List.set_cons_succ, i64_w, i32_w]
        rfl
      refine pure_ (i := 6) (N := some 22) (v := ?_) (a' := ?_) #[true, true, true, true, false, true, true, false, false, false, false, false, false, false] rfl rfl (any_of HT_.out (by kernel_rfl)) (fun _ _ _ h => h) (Or.inl ⟨by rfl, ?_⟩) ?_ ?_
      rotate_left
      · intro w'
        go_simp
        with_reducible rfl
      rotate_left
      · simp only [Act.put, List.setIfInBounds_toArray, List.set_cons_zero, List.set_cons_succ, i64_w, i32_w]
        rfl
      refine pure_ (i := 7) (N := some 23) (v := ?_) (a' := ?_) #[true, true, true, true, false, true, true, true, false, false, false, false, false, false] rfl rfl (any_of HT_.out (by kernel_rfl)) (fun _ _ _ h => h) (Or.inl ⟨by rfl, ?_⟩) ?_ ?_
      rotate_left
      · intro w'
        go_simp
        with_reducible rfl
      rotate_left
      · simp only [Act.put, List.setIfInBounds_toArray, List.set_cons_zero, List.set_cons_succ, i64_w, i32_w]
        rfl
      refine pure_ (i := 8) (N := some 24) (v := ?_) (a' := ?_) #[true, true, true, true, false, true, true, true, true, false, false, false, false, false] rfl rfl (any_of HT_.out (by kernel_rfl)) (fun _ _ _ h => h) (Or.inl ⟨by rfl, ?_⟩) ?_ ?_
      rotate_left
      · intro w'
        go_simp
        with_reducible rfl
      rotate_left
      · simp only [Act.put, List.setIfInBounds_toArray, List.set_cons_zero, List.set_cons_succ, i64_w, i32_w]
        rfl
      refine take_ (i := 4) (N := some 20) (v := ?_) (a' := ?_) #[true, true, true, true, true, true, true, true, true, false, false, false, false, false] rfl rfl (take_ofW HT_.out HW_.out (by kernel_rfl)) (fun _ _ _ h => h) (Or.inl ⟨by rfl, ?_⟩) hHeld ?_ ?_
      rotate_left
      · rintro w' ⟨s0, s1⟩
        go_simp
        with_reducible rfl
      rotate_left
      · simp only [Act.put, List.setIfInBounds_toArray, List.set_cons_zero, List.set_cons_succ, i64_w, i32_w]
        rfl
      refine take_ (i := 9) (N := some 25) (v := ?_) (a' := ?_) #[true, true, true, true, true, true, true, true, true, true, false, false, false, false] rfl rfl (take_ofW HT_.out HW_.out (by kernel_rfl)) (fun _ _ _ h => h) (Or.inl ⟨by rfl, ?_⟩) hHeld ?_ ?_
      rotate_left
      · rintro w' ⟨s0, s1⟩
        go_simp
        with_reducible rfl
      rotate_left
      · simp only [Act.put, List.setIfInBounds_toArray, List.set_cons_zero, List.set_cons_succ, i64_w, i32_w]
        rfl
      refine pure_ (i := 10) (N := some 26) (v := ?_) (a' := ?_) #[true, true, true, true, true, true, true, true, true, true, true, false, false, false] rfl rfl (any_of HT_.out (by kernel_rfl)) (fun _ _ _ h => h) (Or.inl ⟨by rfl, ?_⟩) ?_ ?_
      rotate_left
      · intro w'
        go_simp
        with_reducible rfl
      rotate_left
      · simp only [Act.put, List.setIfInBounds_toArray, List.set_cons_zero, List.set_cons_succ, i64_w, i32_w]
        rfl
      refine one_ (i := 11) (N := some 27) #[true, true, true, true, true, true, true, true, true, true, true, true, false, false] rfl rfl (one_of HT_.out (by kernel_rfl)) (by decide) (fun K hK => ?_)
      refine value_ (w1 := ?_) (v := ?_) (by rfl) rfl ?_ ?_
      rotate_left 2
      · go_simp
        constructor
        · rfl
        · rfl
      refine hK.out _ _ ⟨(World.cell?_alloc_lt _ _ _ (World.block_lt_of_cell? _ _ hHeld.1)).trans hHeld.1, (World.cell?_alloc_lt _ _ _ (World.block_lt_of_cell? _ _ hHeld.2)).trans hHeld.2⟩ (fun hHeld => ?_)
      clear hK K
      refine norm_ (a' := ?_) ?_ ?_
      rotate_left
      · show Act.put _ (some 27) _ = _
        simp only [Act.put, List.setIfInBounds_toArray, List.set_cons_zero, List.set_cons_succ, i64_w, i32_w]
        rfl
      refine one_ (i := 12) (N := some 28) #[true, true, true, true, true, true, true, true, true, true, true, true, true, false] rfl rfl (one_of HT_.out (by kernel_rfl)) (by decide) (fun K hK => ?_)
      refine Kd.R_append_step k27 (w0 := w) w.heap.size (by rfl) (.tmp 16) (.tmp 27) 24 27 (.agg #[(.int .i64 0), (.int .i64 0)]) 16 rfl Tryz.underlying24 info27 rfl (by decide) (by omega) u3 (spansL l k) (⟨x, y⟩ : S27) [.int .i64 x, .int .i64 y] (fun _ => True) (fun _ => False) rfl rfl ?aP (fun _ hk => hk.elim) ?aF ?aO ?aB ?aS ?aL ?_
      (case aP => exact k27_mkM _ _ _ (⟨x, y⟩ : S27))
      (case aB => exact (by repeat (first | (with_reducible first | exact HB.out | apply below_alloc | apply pw_below_drewN | apply below_drew1) | exact HB.out)))
      (case aF => exact (fun _ _ => trivial))
      (case aO => exact (by (with_reducible repeat (first | apply Kd.R_alloc | apply Kd.R_drewN | apply Kd.R_drew)); exact HO.out))
      (case aS => exact (below_size (by repeat (first | (with_reducible first | exact HB.out | apply below_alloc | apply pw_below_drewN | apply below_drew1) | exact HB.out))))
      (case aL => have := HSL.out; omega)
      intro v9 w9 ho hb hg hat
      have HS9 := Sd.mk (show spansL l k ++ [(⟨x, y⟩ : S27)] = spansL l (k + 1) by rw [HST.out, ← HX.out, ← HY.out, ← HGJ.out, ← HGI.out]; rfl)
      have HB9 := Sd.mk hb
      have HO9 := Sd.mk ho
      clear ho hb hg hat HB HO
      refine hK.out _ _ ⟨by rw [← HX.out]; exact (HB9.out.cell (World.block_lt_of_cell? w _ HX0.out)).trans HX0.out, by rw [← HY.out]; exact (HB9.out.cell (World.block_lt_of_cell? w _ HX1.out)).trans HX1.out⟩ (fun hHeld => ?_)
      clear hK K
      refine norm_ (a' := ?_) ?_ ?_
      rotate_left
      · show Act.put _ (some 28) _ = _
        simp only [Act.put, List.setIfInBounds_toArray, List.set_cons_zero, List.set_cons_succ, i64_w, i32_w]
        rfl
      refine pure_ (i := 13) (N := some 3) (v := ?_) (a' := ?_) #[true, true, true, true, true, true, true, true, true, true, true, true, true, true] rfl rfl (any_of HT_.out (by kernel_rfl)) (fun _ _ _ h => h) (Or.inl ⟨by rfl, ?_⟩) ?_ ?_
      rotate_left
      · intro w'
        go_simp
        with_reducible rfl
      rotate_left
      · simp only [Act.put, List.setIfInBounds_toArray, List.set_cons_zero, List.set_cons_succ, i64_w, i32_w]
        rfl
      refine done_ (done_of HT_.out (by kernel_rfl)) ?_
      try go_wp2
      go_roundg (m - (k + 1))
      case measure => have := HK.out; omega
      case rel => exact ⟨k + 1, by rw [← HW2.out], by have := HK.out; omega, Nat.le_refl _, ⟨by rw [← HS9.out]; exact Kd.R_mono HO9.out (fun _ hk => trivial)⟩, HB9⟩
    · have hd : decide (2 * (k : Int) < (l.length : Int)) = false := decide_eq_false (by have := HL.out; omega)
      have hd2 : decide (k < m) = false := decide_eq_false hlt
      obtain rfl : k = m := by omega
      go_wp2
      go_ret
      exact ⟨_, rfl, HO.out, HB.out⟩
end
section
open Go.RowKit Go.Shelf Go.Proofs.YtnmdojgfedddbaaGreatDoorW.PrintWords Go.Proofs.YtnmdojgfedddbaaGreatDoorW.PrintLast Go.Proofs.YtnmdojgfedddbaaGreatDoorW.PrintMore
attribute [local go_sem] Oper.semAt_some
def kindF : Nat → Nat
  | 0 => 115
  | 1 => 117
  | 2 => 119
  | 3 => 121
  | 4 => 122
  | _ => 123
def kindK : Nat → ByteArray
  | 0 => ⟨#[111, 120, 105, 100, 101, 115]⟩
  | 1 => ⟨#[119, 97, 110, 116, 101, 100]⟩
  | 2 => ⟨#[114, 101, 100, 111, 120]⟩
  | 3 => ⟨#[115, 104, 97, 114, 101, 115]⟩
  | 4 => ⟨#[109, 97, 116, 101, 114, 105, 97, 108]⟩
  | _ => ⟨#[112, 114, 111, 112, 101, 114, 116, 121]⟩
def kindE (B i : Nat) : MapEntry := { key := .string (kindK i), val := .func (.func (kindF i)) #[] #[.pointer (some ⟨B, 0, none⟩)], born := i }
def kindM (B n : Nat) : Array MapEntry := ((List.range n).map (kindE B)).toArray
theorem kindM_push (B n : Nat) : (kindM B n).push (kindE B n) = kindM B (n + 1) := by simp [kindM, List.range_succ]
theorem kindM_find (B : Nat) (i : Nat) (hi : i < 6) : Instr.findNow .string (.string (kindK i)) (kindM B i).toList 0 = some none := by
  match i, hi with
  | 0, _ => rfl
  | 1, _ => rfl
  | 2, _ => rfl
  | 3, _ => rfl
  | 4, _ => rfl
  | 5, _ => rfl
theorem kindM_look (B : Nat) (i : Nat) (hi : i < 6) : Instr.findNow .string (.string (kindK i)) (kindM B 6).toList 0 = some (some (i, (kindE B i).val)) := by
  match i, hi with
  | 0, _ => rfl
  | 1, _ => rfl
  | 2, _ => rfl
  | 3, _ => rfl
  | 4, _ => rfl
  | 5, _ => rfl
theorem run_checkKeyS (w : World) (e : Bool) (k : ByteArray) : (Instr.checkKey e 10000 9 (.string k)).run Tryz.prog w = .ok () w := by
  cases e <;> kernel_rfl
theorem run_mkMap (w : World) : (Instr.makeMap 128 none).run Tryz.prog w = .ok (.map (some w.heap.size)) (w.alloc (.map #[] 0)) := by
  simp [Instr.makeMap, Sem.run_bind, run_newObj_alloc, Result.andThen]
theorem run_getM {w : World} {r : Nat} {es : Array MapEntry} {k : Nat} (h : w.heap[r]? = some (.map es k)) : (getObj r).run Tryz.prog w = .ok (.map es k) w := by simp [getObj, Sem.run, h]
theorem run_setM {w : World} {r : Nat} {es : Array MapEntry} {k : Nat} (o : Obj) (h : w.heap[r]? = some (.map es k)) : (setObj r o).run Tryz.prog w = .ok () (w.putObj r o) := by simp [setObj, Sem.run, h, World.putObj]
theorem putObj_alloc (w : World) (o o' : Obj) : (w.alloc o).putObj w.heap.size o' = w.alloc o' := by
  show ({ w with heap := (w.heap.push o).setIfInBounds w.heap.size o' } : World) = { w with heap := w.heap.push o' }
  congr 1
  apply Array.ext_getElem?
  intro i
  rw [Array.getElem?_setIfInBounds, Array.getElem?_push, Array.getElem?_push]
  by_cases h : w.heap.size = i
  · simp [h]
  · rw [if_neg h, if_neg (fun e => h e.symm)]; simp [Ne.symm h]
theorem run_ins (w : World) (B i : Nat) (hi : i < 6) : (Instr.mapUpdate 128 (.map (some w.heap.size)) (.string (kindK i)) (kindE B i).val).run Tryz.prog (w.alloc (.map (kindM B i) i)) = .ok () (w.alloc (.map (kindM B (i + 1)) (i + 1))) := by
  have hg : (w.alloc (.map (kindM B i) i)).heap[w.heap.size]? = some (.map (kindM B i) i) := blk_new _ _
  have hk := run_checkKeyS (w.alloc (.map (kindM B i) i)) false (kindK i)
  have hu : Tryz.prog.underlying 9 = some .string := Tryz.underlying9
  have hf := MapKept.run_findKey (P := Tryz.prog) (w := w.alloc (.map (kindM B i) i)) hu (kindM_find B i hi)
  simp [Instr.mapUpdate, Sem.run_bind, underlying, typeInfo, run_getM hg, Result.andThen, hk, hf, run_setM _ hg, putObj_alloc, ← kindM_push]
  rfl
theorem run_look (w : World) (M B i : Nat) (hi : i < 6) (h : w.heap[M]? = some (.map (kindM B 6) 6)) : (Instr.lookup 128 (.map (some M)) (.string (kindK i)) false).run Tryz.prog w = .ok (.func (.func (kindF i)) #[] #[.pointer (some ⟨B, 0, none⟩)]) w := by
  have hk := run_checkKeyS w false (kindK i)
  have he : (kindM B 6).isEmpty = false := rfl
  have hu : Tryz.prog.underlying 9 = some .string := Tryz.underlying9
  have hf := MapKept.run_findKey (P := Tryz.prog) (w := w) hu (kindM_look B i hi)
  simp [Instr.lookup, Sem.run_bind, underlying, typeInfo, run_getM h, Result.andThen, he, hk, hf]
  rfl
theorem kinds_calls (P : Nat) (w : World) : Calls Tryz.prog 83 #[.pointer (some ⟨P, 0, none⟩)] w fun e w' =>
    e = .returned (.map (some (w.heap.size + 1))) ∧ w'.heap[w.heap.size]? = some (.cells #[.pointer (some ⟨P, 0, none⟩)] 72 (0, 0)) ∧ w'.heap[w.heap.size + 1]? = some (.map (kindM w.heap.size 6) 6) ∧ Below w.heap.size w w' := by
  have hmk := fun W => run_mkMap W
  have hmf := fun (fn : Fn) (first cap : Array Value) (W : World) => show (Instr.makeFunc fn first cap).run Tryz.prog W = .ok (.func fn first cap) W from rfl
  have i0 : (Instr.mapUpdate 128 (.map (some (w.heap.size + 1))) (.string ⟨#[111, 120, 105, 100, 101, 115]⟩) (.func (.func 115) #[] #[.pointer (some ⟨w.heap.size, 0, none⟩)])).run Tryz.prog ((w.alloc (.cells #[.pointer (some ⟨P, 0, none⟩)] 72)).alloc (.map #[] 0)) = .ok () ((w.alloc (.cells #[.pointer (some ⟨P, 0, none⟩)] 72)).alloc (.map (kindM w.heap.size 1) 1)) := by have h := run_ins (w.alloc (.cells #[.pointer (some ⟨P, 0, none⟩)] 72)) w.heap.size 0 (by decide); rw [World.size_alloc] at h; exact h
  have i1 : (Instr.mapUpdate 128 (.map (some (w.heap.size + 1))) (.string ⟨#[119, 97, 110, 116, 101, 100]⟩) (.func (.func 117) #[] #[.pointer (some ⟨w.heap.size, 0, none⟩)])).run Tryz.prog ((w.alloc (.cells #[.pointer (some ⟨P, 0, none⟩)] 72)).alloc (.map (kindM w.heap.size 1) 1)) = .ok () ((w.alloc (.cells #[.pointer (some ⟨P, 0, none⟩)] 72)).alloc (.map (kindM w.heap.size 2) 2)) := by have h := run_ins (w.alloc (.cells #[.pointer (some ⟨P, 0, none⟩)] 72)) w.heap.size 1 (by decide); rw [World.size_alloc] at h; exact h
  have i2 : (Instr.mapUpdate 128 (.map (some (w.heap.size + 1))) (.string ⟨#[114, 101, 100, 111, 120]⟩) (.func (.func 119) #[] #[.pointer (some ⟨w.heap.size, 0, none⟩)])).run Tryz.prog ((w.alloc (.cells #[.pointer (some ⟨P, 0, none⟩)] 72)).alloc (.map (kindM w.heap.size 2) 2)) = .ok () ((w.alloc (.cells #[.pointer (some ⟨P, 0, none⟩)] 72)).alloc (.map (kindM w.heap.size 3) 3)) := by have h := run_ins (w.alloc (.cells #[.pointer (some ⟨P, 0, none⟩)] 72)) w.heap.size 2 (by decide); rw [World.size_alloc] at h; exact h
  have i3 : (Instr.mapUpdate 128 (.map (some (w.heap.size + 1))) (.string ⟨#[115, 104, 97, 114, 101, 115]⟩) (.func (.func 121) #[] #[.pointer (some ⟨w.heap.size, 0, none⟩)])).run Tryz.prog ((w.alloc (.cells #[.pointer (some ⟨P, 0, none⟩)] 72)).alloc (.map (kindM w.heap.size 3) 3)) = .ok () ((w.alloc (.cells #[.pointer (some ⟨P, 0, none⟩)] 72)).alloc (.map (kindM w.heap.size 4) 4)) := by have h := run_ins (w.alloc (.cells #[.pointer (some ⟨P, 0, none⟩)] 72)) w.heap.size 3 (by decide); rw [World.size_alloc] at h; exact h
  have i4 : (Instr.mapUpdate 128 (.map (some (w.heap.size + 1))) (.string ⟨#[109, 97, 116, 101, 114, 105, 97, 108]⟩) (.func (.func 122) #[] #[.pointer (some ⟨w.heap.size, 0, none⟩)])).run Tryz.prog ((w.alloc (.cells #[.pointer (some ⟨P, 0, none⟩)] 72)).alloc (.map (kindM w.heap.size 4) 4)) = .ok () ((w.alloc (.cells #[.pointer (some ⟨P, 0, none⟩)] 72)).alloc (.map (kindM w.heap.size 5) 5)) := by have h := run_ins (w.alloc (.cells #[.pointer (some ⟨P, 0, none⟩)] 72)) w.heap.size 4 (by decide); rw [World.size_alloc] at h; exact h
  have i5 : (Instr.mapUpdate 128 (.map (some (w.heap.size + 1))) (.string ⟨#[112, 114, 111, 112, 101, 114, 116, 121]⟩) (.func (.func 123) #[] #[.pointer (some ⟨w.heap.size, 0, none⟩)])).run Tryz.prog ((w.alloc (.cells #[.pointer (some ⟨P, 0, none⟩)] 72)).alloc (.map (kindM w.heap.size 5) 5)) = .ok () ((w.alloc (.cells #[.pointer (some ⟨P, 0, none⟩)] 72)).alloc (.map (kindM w.heap.size 6) 6)) := by have h := run_ins (w.alloc (.cells #[.pointer (some ⟨P, 0, none⟩)] 72)) w.heap.size 5 (by decide); rw [World.size_alloc] at h; exact h
  go_enter Tryz.func83, Tryz.ntmps83
  go_wp2
  go_ret
  refine ⟨rfl, ?_, ?_, ?_⟩
  · exact blk_alloc (blk_new _ _) _
  · have := blk_new (w.alloc (.cells #[.pointer (some ⟨P, 0, none⟩)] 72)) (.map (kindM w.heap.size 6) 6)
    rwa [World.size_alloc] at this
  · exact below_alloc (below_alloc (Below.refl _ _) _) _
end
section
open Go.RowKit Go.Shelf Go.Proofs.YtnmdojgfedddbaaGreatDoorW.PrintWords Go.Proofs.YtnmdojgfedddbaaGreatDoorW.PrintLast Go.Proofs.YtnmdojgfedddbaaGreatDoorW.PrintMore
attribute [local go_sem] Oper.semAt_some
theorem store_step {P : Program} {ops : Array Oper} {o : Oper} {a : Act} {Q : Exit → Act → World → Prop} {Kc : Act → World → Prop} {N : Option Tmp} {W w1 : World} (hw : Region.wanted o (yielded ops a.tmps) = true) (hN : o.dst = none) (hrun : (execOp a.eval o).run P W = .ok .skip w1) (h : Kc a w1) : if Region.wanted o (yielded ops a.tmps) = true then Oper.wp P o a W Kc Q else Kc (a.put N undef) W := by
  rw [if_pos hw]
  unfold Oper.wp
  rw [hrun]
  show Kc (a.put o.dst undef) w1
  rw [hN]
  exact h
structure Kept (P : Nat) (w w' : World) : Prop where
  size : w.heap.size ≤ w'.heap.size
  blk : ∀ g, g < w.heap.size → g ≠ P → w'.heap[g]? = w.heap[g]?
  bel : Below P w w'
theorem Kept.of {P : Nat} {w w' : World} (h : Below w.heap.size w w') (hP : P ≤ w.heap.size) : Kept P w w' := ⟨h.size, fun g hg _ => h.block g hg, h.mono hP⟩
theorem Kept.set {P : Nat} {w w' : World} (h : Kept P w w') (j : Nat) (v : Value) : Kept P w (w'.setCell ⟨P, j, none⟩ v) :=
  ⟨by simpa [World.setCell] using h.size, fun g hg hne => (Below.heap_setCell _ _ _ _ hne).trans (h.blk g hg hne), h.bel.setCell (Nat.le_refl _) _⟩
theorem Kept.trans {P : Nat} {a b c : World} (h : Kept P a b) (k : Kept P b c) : Kept P a c :=
  ⟨Nat.le_trans h.size k.size, fun g hg hne => (k.blk g (Nat.lt_of_lt_of_le hg h.size) hne).trans (h.blk g hg hne), h.bel.trans k.bel⟩
theorem Kept.obj {P g : Nat} {w w' : World} {o : Obj} (h : Kept P w w') (hg : w.heap[g]? = some o) (hne : g ≠ P) : w'.heap[g]? = some o := (h.blk g (blk_lt hg) hne).trans hg
theorem clone_str (L off c : Nat) (zs : List ByteArray) (hn : zs.length ≤ 100000) (w : World) (hr : Kd.C Kd.string w (some ⟨L, off, none⟩) zs.length zs) :
    Calls Tryz.prog 116 #[.slice (some ⟨L, off, none⟩) zs.length c] w fun e w' => ∃ v, e = .returned v ∧ Kd.R Kd.string 9 w' w.heap.size (fun _ => True) v zs ∧ Below w.heap.size w w' := by
  refine (sh_slices_Clone_string L off zs.length c zs w (Nat.le_refl _) (by omega) (fun j hj => ?_)).mono ?_
  · obtain ⟨ad, e, hx⟩ := Kd.at_string hr (j : Int) (by omega) (by omega)
    cases e
    simp only [Int.toNat_natCast] at hx
    have e1 : (Addr.add ⟨L, off, none⟩ j) = ⟨L, off + j, none⟩ := by unfold Addr.add; split <;> simp_all
    rw [e1] at hx
    rw [hx, rdOf, Int.toNat_natCast]
  · rintro e w' ⟨v, rfl, ho, _, hb⟩
    refine ⟨v, rfl, Kd.R_of_own (by rw [List.take_of_length_le (Nat.le_refl _)] at ho; exact ho) (fun _ _ => trivial), hb⟩
def oxiT : Bool × List (List Nat × List Nat) := (true, [([], []), ([], []), ([1], [1]), ([0, 0, 1, 2], [0]), ([3, 0, 1, 2], [3]), ([4, 2, 2, 0, 1, 2], [2, 4])])
def oxiB : List Nat := [0, 0, 2, 7, 15, 31]
theorem oxi_tab : rtab .any (opsOf Tryz.f115 0) = oxiT := by kernel_rfl
theorem oxi_bits : waitsOk oxiT.2 oxiB = true := by kernel_rfl
theorem oxides_ok (Q P : Nat) (o m s p a b n : Value) (L off c : Nat) (zs : List ByteArray) (hn : zs.length ≤ 100000) (w : World) (hQ : w.heap[Q]? = some (.cells #[.pointer (some ⟨P, 0, none⟩)] 72 (0, 0))) (hP : w.heap[P]? = some (.cells #[o, m, s, p, a, b, n] 29 (0, 0))) (hr : Kd.C Kd.string w (some ⟨L, off, none⟩) zs.length zs) :
    Calls Tryz.prog 115 #[.slice (some ⟨L, off, none⟩) zs.length c, .pointer (some ⟨Q, 0, none⟩)] w fun e w' => e = .returned (.tuple #[]) ∧ ∃ v w1, w' = w1.setCell ⟨P, 0, none⟩ v ∧ Kd.R Kd.string 9 w1 w.heap.size (fun _ => True) v zs ∧ Below w.heap.size w w1 := by
  have HQ := Sd.mk hQ
  have HP := Sd.mk hP
  have HR := Sd.mk hr
  have HN := Sd.mk hn
  clear hQ hP hr hn
  go_enter Tryz.func115, Tryz.ntmps115
  refine start_ (n := 6) (S := fun w' => w'.heap[Q]? = some (.cells #[.pointer (some ⟨P, 0, none⟩)] 72 (0, 0))) (ds := [5]) #[false, false, false, false, false, false] (by kernel_rfl) rfl rfl (blk_drew HQ.out) (fun hHeld => ?_)
  refine with_tabW oxi_tab oxi_bits (fun HT_ HW_ => ?_)
  have HPd := Sd.mk (blk_drew HP.out)
  have HRd := Sd.mk (Kd.C_drew HR.out)
  have HBd := Sd.mk (below_drew1 (Below.refl w.heap.size w))
  have HSd := Sd.mk (show w.drew.heap.size = w.heap.size from rfl)
  clear HQ HP HR
  generalize w.drew = W at HPd HRd HBd HSd hHeld ⊢
  refine take_ (i := 0) (N := some 3) (v := ?_) (a' := ?_) #[true, false, false, false, false, false] rfl rfl (take_ofW HT_.out HW_.out (by kernel_rfl)) (fun _ _ _ h => h) (Or.inl ⟨by rfl, ?_⟩) hHeld ?_ ?_
  rotate_left
  · rintro w' hx
    have s0 : w'.cell? ⟨Q, 0, none⟩ = some (.pointer (some ⟨P, 0, none⟩)) := (blk_cell hx 0).trans rfl
    go_simp
    with_reducible rfl
  rotate_left
  · simp only [Act.put, List.setIfInBounds_toArray, List.set_cons_zero, List.set_cons_succ, i64_w, i32_w]
    rfl
  refine pure_ (i := 1) (N := some 4) (v := ?_) (a' := ?_) #[true, true, false, false, false, false] rfl rfl (any_of HT_.out (by kernel_rfl)) (fun _ _ _ h => h) (Or.inl ⟨by rfl, ?_⟩) ?_ ?_
  rotate_left
  · intro w'
    go_simp
    with_reducible rfl
  rotate_left
  · simp only [Act.put, List.setIfInBounds_toArray, List.set_cons_zero, List.set_cons_succ, i64_w, i32_w]
    rfl
  refine one_ (i := 2) (N := some 5) #[true, true, true, false, false, false] rfl rfl (one_of HT_.out (by kernel_rfl)) (by decide) (fun K hK => ?_)
  refine goes_ Tryz.func116 (by kernel_rfl) rfl #[.slice (some ⟨L, off, none⟩) zs.length c] (by (try simp only [Array.map_toArray, List.map_toArray, List.map_cons, List.map_nil]); rfl) rfl rfl (by (try simp only [List.map_toArray, List.map_cons, List.map_nil]); first | done | rfl) ?_
  refine (clone_str L off c zs HN.out W HRd.out).mono ?_
  rintro e w1 ⟨v, rfl, hrv, hb⟩
  obtain ⟨Av, cv, rfl⟩ := Kd.R_slice hrv
  refine ⟨_, rfl, ?_⟩
  have HV := Sd.mk (show Kd.R Kd.string 9 w1 w.heap.size (fun _ => True) (.slice Av zs.length cv) zs from HSd.out ▸ hrv)
  have HP1 := Sd.mk (blk_below HPd.out hb)
  have HB1 := Sd.mk (below_then HBd.out HBd.out.size hb)
  have hh := blk_below hHeld hb
  clear hrv hb hHeld HPd HRd HBd HSd
  refine hK.out _ _ hh (fun hHeld => ?_)
  clear hh
  clear hK K
  refine norm_ (a' := ?_) ?_ ?_
  rotate_left
  · show Act.put _ (some 5) _ = _
    simp only [Act.put, List.setIfInBounds_toArray, List.set_cons_zero, List.set_cons_succ, i64_w, i32_w]
    rfl
  refine pure_ (i := 3) (N := some 6) (v := ?_) (a' := ?_) #[true, true, true, true, false, false] rfl rfl (any_of HT_.out (by kernel_rfl)) (fun _ _ _ h => h) (Or.inl ⟨by rfl, ?_⟩) ?_ ?_
  rotate_left
  · intro w'
    go_simp
    with_reducible rfl
  rotate_left
  · simp only [Act.put, List.setIfInBounds_toArray, List.set_cons_zero, List.set_cons_succ, i64_w, i32_w]
    rfl
  refine pure_ (i := 4) (N := some 7) (v := ?_) (a' := ?_) #[true, true, true, true, true, false] rfl rfl (any_of HT_.out (by kernel_rfl)) (fun _ _ _ h => h) (Or.inl ⟨by rfl, ?_⟩) ?_ ?_
  rotate_left
  · intro w'
    go_simp
    with_reducible rfl
  rotate_left
  · simp only [Act.put, List.setIfInBounds_toArray, List.set_cons_zero, List.set_cons_succ, i64_w, i32_w]
    rfl
  have hp0 : w1.cell? ⟨P, 0, none⟩ = some o := (blk_cell HP1.out 0).trans rfl
  have hpf := blk_frozen HP1.out 0
  refine last_ (i := 5) (N := none) #[true, true, true, true, true, true] rfl rfl (one_of HT_.out (by kernel_rfl)) (by decide) (fun K hK => ?_)
  refine store_step (by rfl) rfl (by first | (go_simp; done) | (go_simp; rfl)) ?_
  refine hK.out _ _ ?_
  clear hK K
  refine done_ (done_of HT_.out (by kernel_rfl)) ?_
  go_end0
  exact ⟨rfl, _, w1, rfl, HV.out, HB1.out⟩
end
section
open Go.RowKit Go.Shelf Go.Proofs.YtnmdojgfedddbaaGreatDoorW.PrintWords Go.Proofs.YtnmdojgfedddbaaGreatDoorW.PrintLast Go.Proofs.YtnmdojgfedddbaaGreatDoorW.PrintMore
attribute [local go_sem] Oper.semAt_some
theorem numbers1 (A : Option Addr) (c : Nat) (x : ByteArray) (v : Nat) (hx : NumOk x v) (w : World) (hr : Kd.C Kd.string w A 1 [x]) :
    Calls Tryz.prog 118 #[.slice A 1 c] w fun e w' => ∃ g1 c1, e = .returned (.slice (some ⟨g1, 0, none⟩) 1 c1) ∧ Kd.C (Kd.int .i64) w' (some ⟨g1, 0, none⟩) 1 [(v : Int)] ∧ Below w.heap.size w w' := by
  refine (numbers_ok A c [x] [v] rfl (by simp) (fun k hk => by
    obtain rfl : k = 0 := by simpa using hk
    exact hx) w hr).mono ?_
  rintro e w1 ⟨v1, rfl, hrv, hb⟩
  have hrv' : Kd.R (Kd.int .i64) 3 w1 w.heap.size (fun _ => True) v1 [(v : Int)] := hrv
  obtain ⟨g1, c1, rfl, _, _, _⟩ := Kd.R_form hrv' (by simp)
  exact ⟨g1, c1, rfl, (Kd.R_reads' hrv').2.2, hb⟩
theorem numbers2 (A : Option Addr) (c : Nat) (x y : ByteArray) (v u : Nat) (hx : NumOk x v) (hy : NumOk y u) (w : World) (hr : Kd.C Kd.string w A 2 [x, y]) :
    Calls Tryz.prog 118 #[.slice A 2 c] w fun e w' => ∃ g1 c1, e = .returned (.slice (some ⟨g1, 0, none⟩) 2 c1) ∧ Kd.C (Kd.int .i64) w' (some ⟨g1, 0, none⟩) 2 [(v : Int), (u : Int)] ∧ Below w.heap.size w w' := by
  refine (numbers_ok A c [x, y] [v, u] rfl (by simp) (fun k hk => by
    rcases k with _ | _ | k
    · exact hx
    · exact hy
    · exact absurd hk (by simp)) w hr).mono ?_
  rintro e w1 ⟨v1, rfl, hrv, hb⟩
  have hrv' : Kd.R (Kd.int .i64) 3 w1 w.heap.size (fun _ => True) v1 [(v : Int), (u : Int)] := hrv
  obtain ⟨g1, c1, rfl, _, _, _⟩ := Kd.R_form hrv' (by simp)
  exact ⟨g1, c1, rfl, (Kd.R_reads' hrv').2.2, hb⟩
theorem spans1 (A : Option Addr) (c : Nat) (x y : Int) (w : World) (hr : Kd.C (Kd.int .i64) w A 2 [x, y]) :
    Calls Tryz.prog 120 #[.slice A 2 c] w fun e w' => ∃ g1 c1, e = .returned (.slice (some ⟨g1, 0, none⟩) 1 c1) ∧ Kd.C k27 w' (some ⟨g1, 0, none⟩) 1 [⟨x, y⟩] ∧ Below w.heap.size w w' := by
  refine (spans_ok A c [x, y] 1 rfl (by simp) w hr).mono ?_
  rintro e w1 ⟨v1, rfl, hrv, hb⟩
  have hrv' : Kd.R k27 27 w1 w.heap.size (fun _ => True) v1 [⟨x, y⟩] := hrv
  obtain ⟨g1, c1, rfl, _, _, _⟩ := Kd.R_form hrv' (by simp)
  exact ⟨g1, c1, rfl, (Kd.R_reads' hrv').2.2, hb⟩
def wanT : Bool × List (List Nat × List Nat) := (true, [([], []), ([], []), ([1], [1]), ([2], [2]), ([3], [3]), ([0, 0, 1, 2, 3, 4], [0]), ([5, 0, 1, 2, 3, 4], [5]), ([6, 4, 2, 0, 1, 2, 3, 4], [4, 6])])
def wanB : List Nat := [0, 0, 2, 6, 14, 31, 63, 127]
theorem wan_tab : rtab .any (opsOf Tryz.f117 1) = wanT := by kernel_rfl
theorem wan_bits : waitsOk wanT.2 wanB = true := by kernel_rfl
theorem wanted_ok (Q P : Nat) (o m s p a b n : Value) (L off c : Nat) (x : ByteArray) (v : Nat) (hx : NumOk x v) (w : World) (hQ : w.heap[Q]? = some (.cells #[.pointer (some ⟨P, 0, none⟩)] 72 (0, 0))) (hP : w.heap[P]? = some (.cells #[o, m, s, p, a, b, n] 29 (0, 0))) (hr : Kd.C Kd.string w (some ⟨L, off, none⟩) 1 [x]) :
    Calls Tryz.prog 117 #[.slice (some ⟨L, off, none⟩) 1 c, .pointer (some ⟨Q, 0, none⟩)] w fun e w' => e = .returned (.tuple #[]) ∧ ∃ w1, w' = w1.setCell ⟨P, 6, none⟩ (.int .i64 (v : Int)) ∧ Below w.heap.size w w1 := by
  have HQ := Sd.mk hQ
  have HP := Sd.mk hP
  have HR := Sd.mk hr
  clear hQ hP hr
  go_enter Tryz.func117, Tryz.ntmps117
  go_upto_region 1 with (go_at_call 79; refine (demand_ok _).mono ?_; rintro e w' ⟨rfl, hw⟩; subst w')
  refine start_ (n := 8) (S := fun w' => w'.heap[Q]? = some (.cells #[.pointer (some ⟨P, 0, none⟩)] 72 (0, 0))) (ds := [7]) #[false, false, false, false, false, false, false, false] (by kernel_rfl) rfl rfl (blk_drew HQ.out) (fun hHeld => ?_)
  refine with_tabW wan_tab wan_bits (fun HT_ HW_ => ?_)
  have HPd := Sd.mk (blk_drew HP.out)
  have HRd := Sd.mk (Kd.C_drew HR.out)
  have HBd := Sd.mk (below_drew1 (Below.refl w.heap.size w))
  clear HQ HP HR
  generalize w.drew = W at HPd HRd HBd hHeld ⊢
  refine take_ (i := 0) (N := some 7) (v := ?_) (a' := ?_) #[true, false, false, false, false, false, false, false] rfl rfl (take_ofW HT_.out HW_.out (by kernel_rfl)) (fun _ _ _ h => h) (Or.inl ⟨by rfl, ?_⟩) hHeld ?_ ?_
  rotate_left
  · rintro w' hx
    have s0 : w'.cell? ⟨Q, 0, none⟩ = some (.pointer (some ⟨P, 0, none⟩)) := (blk_cell hx 0).trans rfl
    go_simp
    with_reducible rfl
  rotate_left
  · simp only [Act.put, List.setIfInBounds_toArray, List.set_cons_zero, List.set_cons_succ, i64_w, i32_w]
    rfl
  refine pure_ (i := 1) (N := some 8) (v := ?_) (a' := ?_) #[true, true, false, false, false, false, false, false] rfl rfl (any_of HT_.out (by kernel_rfl)) (fun _ _ _ h => h) (Or.inl ⟨by rfl, ?_⟩) ?_ ?_
  rotate_left
  · intro w'
    go_simp
    with_reducible rfl
  rotate_left
  · simp only [Act.put, List.setIfInBounds_toArray, List.set_cons_zero, List.set_cons_succ, i64_w, i32_w]
    rfl
  refine one_ (i := 2) (N := some 9) #[true, true, true, false, false, false, false, false] rfl rfl (one_of HT_.out (by kernel_rfl)) (by decide) (fun K hK => ?_)
  refine goes_ Tryz.func118 (by kernel_rfl) rfl #[.slice (some ⟨L, off, none⟩) 1 c] (by (try simp only [Array.map_toArray, List.map_toArray, List.map_cons, List.map_nil]); rfl) rfl rfl (by (try simp only [List.map_toArray, List.map_cons, List.map_nil]); first | done | rfl) ?_
  refine (numbers1 _ c x v hx W HRd.out).mono ?_
  rintro e w1 ⟨g1, c1, rfl, hrv, hb⟩
  refine ⟨_, rfl, ?_⟩
  have HV := Sd.mk hrv
  have HP1 := Sd.mk (blk_below HPd.out hb)
  have HB1 := Sd.mk (below_then HBd.out HBd.out.size hb)
  have hh := blk_below hHeld hb
  clear hrv hb hHeld HPd HRd HBd
  refine hK.out _ _ hh (fun hHeld => ?_)
  clear hh
  clear hK K
  refine norm_ (a' := ?_) ?_ ?_
  rotate_left
  · show Act.put _ (some 9) _ = _
    simp only [Act.put, List.setIfInBounds_toArray, List.set_cons_zero, List.set_cons_succ, i64_w, i32_w]
    rfl
  refine pure_ (i := 3) (N := some 10) (v := ?_) (a' := ?_) #[true, true, true, true, false, false, false, false] rfl rfl (any_of HT_.out (by kernel_rfl)) (fun _ _ _ h => h) (Or.inl ⟨by rfl, ?_⟩) ?_ ?_
  rotate_left
  · intro w'
    go_simp
    with_reducible rfl
  rotate_left
  · simp only [Act.put, List.setIfInBounds_toArray, List.set_cons_zero, List.set_cons_succ, i64_w, i32_w]
    rfl
  obtain ⟨ad, ea, hv0⟩ := Kd.at_int HV.out 0 (by decide) (by decide)
  cases ea
  have hv0' : w1.cell? ⟨g1, 0, none⟩ = some (.int .i64 (v : Int)) := hv0
  clear hv0
  refine one_ (i := 4) (N := some 11) #[true, true, true, true, true, false, false, false] rfl rfl (one_of HT_.out (by kernel_rfl)) (by decide) (fun K hK => ?_)
  refine value_ (w1 := w1) (v := .int .i64 (v : Int)) (by rfl) rfl (by go_simp) ?_
  refine hK.out _ _ hHeld (fun hHeld => ?_)
  clear hK K
  refine norm_ (a' := ?_) ?_ ?_
  rotate_left
  · show Act.put _ (some 11) _ = _
    simp only [Act.put, List.setIfInBounds_toArray, List.set_cons_zero, List.set_cons_succ, i64_w, i32_w]
    rfl
  refine pure_ (i := 5) (N := some 12) (v := ?_) (a' := ?_) #[true, true, true, true, true, true, false, false] rfl rfl (any_of HT_.out (by kernel_rfl)) (fun _ _ _ h => h) (Or.inl ⟨by rfl, ?_⟩) ?_ ?_
  rotate_left
  · intro w'
    go_simp
    with_reducible rfl
  rotate_left
  · simp only [Act.put, List.setIfInBounds_toArray, List.set_cons_zero, List.set_cons_succ, i64_w, i32_w]
    rfl
  refine pure_ (i := 6) (N := some 13) (v := ?_) (a' := ?_) #[true, true, true, true, true, true, true, false] rfl rfl (any_of HT_.out (by kernel_rfl)) (fun _ _ _ h => h) (Or.inl ⟨by rfl, ?_⟩) ?_ ?_
  rotate_left
  · intro w'
    go_simp
    with_reducible rfl
  rotate_left
  · simp only [Act.put, List.setIfInBounds_toArray, List.set_cons_zero, List.set_cons_succ, i64_w, i32_w]
    rfl
  have hp6 : w1.cell? ⟨P, 6, none⟩ = some n := (blk_cell HP1.out 6).trans rfl
  have hpf := blk_frozen HP1.out 6
  refine last_ (i := 7) (N := none) #[true, true, true, true, true, true, true, true] rfl rfl (one_of HT_.out (by kernel_rfl)) (by decide) (fun K hK => ?_)
  refine store_step (by rfl) rfl (by first | (go_simp; done) | (go_simp; rfl)) ?_
  refine hK.out _ _ ?_
  clear hK K
  refine done_ (done_of HT_.out (by kernel_rfl)) ?_
  go_end0
  exact ⟨rfl, w1, rfl, HB1.out⟩
def rdxT : Bool × List (List Nat × List Nat) := (true, [([], []), ([], []), ([1], [1]), ([2, 2], [2]), ([3], [3]), ([4], [4]), ([0, 0, 1, 2, 3, 4, 5], [0]), ([6, 0, 1, 2, 3, 4, 5], [6]), ([7, 5, 3, 0, 1, 2, 3, 4, 5], [5, 7])])
def rdxB : List Nat := [0, 0, 2, 6, 14, 30, 63, 127, 255]
theorem rdx_tab : rtab .any (opsOf Tryz.f119 1) = rdxT := by kernel_rfl
theorem rdx_bits : waitsOk rdxT.2 rdxB = true := by kernel_rfl
theorem redox_ok (Q P : Nat) (o m s p a b n : Value) (L off c : Nat) (x y : ByteArray) (v u : Nat) (hx : NumOk x v) (hy : NumOk y u) (w : World) (hQ : w.heap[Q]? = some (.cells #[.pointer (some ⟨P, 0, none⟩)] 72 (0, 0))) (hP : w.heap[P]? = some (.cells #[o, m, s, p, a, b, n] 29 (0, 0))) (hr : Kd.C Kd.string w (some ⟨L, off, none⟩) 2 [x, y]) :
    Calls Tryz.prog 119 #[.slice (some ⟨L, off, none⟩) 2 c, .pointer (some ⟨Q, 0, none⟩)] w fun e w' => e = .returned (.tuple #[]) ∧ ∃ w1, w' = (w1.setCell ⟨P, 4, none⟩ (.int .i64 (v : Int))).setCell ⟨P, 5, none⟩ (.int .i64 (u : Int)) ∧ Below w.heap.size w w1 := by
  have HQ := Sd.mk hQ
  have HP := Sd.mk hP
  have HR := Sd.mk hr
  clear hQ hP hr
  go_enter Tryz.func119, Tryz.ntmps119
  go_upto_region 1 with (go_at_call 79; refine (demand_ok _).mono ?_; rintro e w' ⟨rfl, hw⟩; subst w')
  refine start_ (n := 9) (S := fun w' => w'.heap[Q]? = some (.cells #[.pointer (some ⟨P, 0, none⟩)] 72 (0, 0))) (ds := [8]) #[false, false, false, false, false, false, false, false, false] (by kernel_rfl) rfl rfl (blk_drew HQ.out) (fun hHeld => ?_)
  refine with_tabW rdx_tab rdx_bits (fun HT_ HW_ => ?_)
  have HPd := Sd.mk (blk_drew HP.out)
  have HRd := Sd.mk (Kd.C_drew HR.out)
  have HBd := Sd.mk (below_drew1 (Below.refl w.heap.size w))
  clear HQ HP HR
  generalize w.drew = W at HPd HRd HBd hHeld ⊢
  refine take_ (i := 0) (N := some 7) (v := ?_) (a' := ?_) #[true, false, false, false, false, false, false, false, false] rfl rfl (take_ofW HT_.out HW_.out (by kernel_rfl)) (fun _ _ _ h => h) (Or.inl ⟨by rfl, ?_⟩) hHeld ?_ ?_
  rotate_left
  · rintro w' hx
    have s0 : w'.cell? ⟨Q, 0, none⟩ = some (.pointer (some ⟨P, 0, none⟩)) := (blk_cell hx 0).trans rfl
    go_simp
    with_reducible rfl
  rotate_left
  · simp only [Act.put, List.setIfInBounds_toArray, List.set_cons_zero, List.set_cons_succ, i64_w, i32_w]
    rfl
  refine pure_ (i := 1) (N := some 8) (v := ?_) (a' := ?_) #[true, true, false, false, false, false, false, false, false] rfl rfl (any_of HT_.out (by kernel_rfl)) (fun _ _ _ h => h) (Or.inl ⟨by rfl, ?_⟩) ?_ ?_
  rotate_left
  · intro w'
    go_simp
    with_reducible rfl
  rotate_left
  · simp only [Act.put, List.setIfInBounds_toArray, List.set_cons_zero, List.set_cons_succ, i64_w, i32_w]
    rfl
  refine one_ (i := 2) (N := some 9) #[true, true, true, false, false, false, false, false, false] rfl rfl (one_of HT_.out (by kernel_rfl)) (by decide) (fun K hK => ?_)
  refine goes_ Tryz.func118 (by kernel_rfl) rfl #[.slice (some ⟨L, off, none⟩) 2 c] (by (try simp only [Array.map_toArray, List.map_toArray, List.map_cons, List.map_nil]); rfl) rfl rfl (by (try simp only [List.map_toArray, List.map_cons, List.map_nil]); first | done | rfl) ?_
  refine (numbers2 _ c x y v u hx hy W HRd.out).mono ?_
  rintro e w1 ⟨g1, c1, rfl, hrv, hb⟩
  refine ⟨_, rfl, ?_⟩
  have HV := Sd.mk hrv
  have HP1 := Sd.mk (blk_below HPd.out hb)
  have HB1 := Sd.mk (below_then HBd.out HBd.out.size hb)
  have hh := blk_below hHeld hb
  clear hrv hb hHeld HPd HRd HBd
  refine hK.out _ _ hh (fun hHeld => ?_)
  clear hh
  clear hK K
  refine norm_ (a' := ?_) ?_ ?_
  rotate_left
  · show Act.put _ (some 9) _ = _
    simp only [Act.put, List.setIfInBounds_toArray, List.set_cons_zero, List.set_cons_succ, i64_w, i32_w]
    rfl
  refine one_ (i := 3) (N := some 10) #[true, true, true, true, false, false, false, false, false] rfl rfl (one_of HT_.out (by kernel_rfl)) (by decide) (fun K hK => ?_)
  refine goes_ Tryz.func120 (by kernel_rfl) rfl #[.slice (some ⟨g1, 0, none⟩) 2 c1] (by (try simp only [Array.map_toArray, List.map_toArray, List.map_cons, List.map_nil]); rfl) rfl rfl (by (try simp only [List.map_toArray, List.map_cons, List.map_nil]); first | done | rfl) ?_
  refine (spans1 _ c1 (v : Int) (u : Int) w1 HV.out).mono ?_
  rintro e w2 ⟨g2, c2, rfl, hrv, hb⟩
  refine ⟨_, rfl, ?_⟩
  have HV2 := Sd.mk hrv
  have HP2 := Sd.mk (blk_below HP1.out hb)
  have HB2 := Sd.mk (below_then HB1.out HB1.out.size hb)
  have hh := blk_below hHeld hb
  clear hrv hb hHeld HV HP1 HB1
  refine hK.out _ _ hh (fun hHeld => ?_)
  clear hh
  clear hK K
  refine norm_ (a' := ?_) ?_ ?_
  rotate_left
  · show Act.put _ (some 10) _ = _
    simp only [Act.put, List.setIfInBounds_toArray, List.set_cons_zero, List.set_cons_succ, i64_w, i32_w]
    rfl
  refine pure_ (i := 4) (N := some 11) (v := ?_) (a' := ?_) #[true, true, true, true, true, false, false, false, false] rfl rfl (any_of HT_.out (by kernel_rfl)) (fun _ _ _ h => h) (Or.inl ⟨by rfl, ?_⟩) ?_ ?_
  rotate_left
  · intro w'
    go_simp
    with_reducible rfl
  rotate_left
  · simp only [Act.put, List.setIfInBounds_toArray, List.set_cons_zero, List.set_cons_succ, i64_w, i32_w]
    rfl
  obtain ⟨ad, ea, hv0, hv1⟩ := at_T27 HV2.out 0 (by decide) (by decide)
  cases ea
  have hv0' : w2.cell? ⟨g2, 0, none⟩ = some (.int .i64 (v : Int)) := hv0
  have hv1' : w2.cell? ⟨g2, 0 + 1, none⟩ = some (.int .i64 (u : Int)) := hv1
  clear hv0 hv1
  refine one_ (i := 5) (N := some 12) #[true, true, true, true, true, true, false, false, false] rfl rfl (one_of HT_.out (by kernel_rfl)) (by decide) (fun K hK => ?_)
  refine value_ (w1 := w2) (v := .agg #[.int .i64 (v : Int), .int .i64 (u : Int)]) (by rfl) rfl (by go_simp) ?_
  refine hK.out _ _ hHeld (fun hHeld => ?_)
  clear hK K
  refine norm_ (a' := ?_) ?_ ?_
  rotate_left
  · show Act.put _ (some 12) _ = _
    simp only [Act.put, List.setIfInBounds_toArray, List.set_cons_zero, List.set_cons_succ, i64_w, i32_w]
    rfl
  refine pure_ (i := 6) (N := some 13) (v := ?_) (a' := ?_) #[true, true, true, true, true, true, true, false, false] rfl rfl (any_of HT_.out (by kernel_rfl)) (fun _ _ _ h => h) (Or.inl ⟨by rfl, ?_⟩) ?_ ?_
  rotate_left
  · intro w'
    go_simp
    with_reducible rfl
  rotate_left
  · simp only [Act.put, List.setIfInBounds_toArray, List.set_cons_zero, List.set_cons_succ, i64_w, i32_w]
    rfl
  refine pure_ (i := 7) (N := some 14) (v := ?_) (a' := ?_) #[true, true, true, true, true, true, true, true, false] rfl rfl (any_of HT_.out (by kernel_rfl)) (fun _ _ _ h => h) (Or.inl ⟨by rfl, ?_⟩) ?_ ?_
  rotate_left
  · intro w'
    go_simp
    with_reducible rfl
  rotate_left
  · simp only [Act.put, List.setIfInBounds_toArray, List.set_cons_zero, List.set_cons_succ, i64_w, i32_w]
    rfl
  have hp4 : w2.cell? ⟨P, 4, none⟩ = some a := (blk_cell HP2.out 4).trans rfl
  have hp4f := blk_frozen HP2.out 4
  have HPs := blk_put HP2.out 4 (.int .i64 (v : Int)) rfl
  have hp5 : (w2.setCell ⟨P, 4, none⟩ (.int .i64 (v : Int))).cell? ⟨P, 5, none⟩ = some b := (blk_cell HPs 5).trans rfl
  have hp5f := blk_frozen HPs 5
  clear HPs
  refine last_ (i := 8) (N := none) #[true, true, true, true, true, true, true, true, true] rfl rfl (one_of HT_.out (by kernel_rfl)) (by decide) (fun K hK => ?_)
  refine store_step (by rfl) rfl (by first | (go_simp; done) | (go_simp; rfl)) ?_
  refine hK.out _ _ ?_
  clear hK K
  refine done_ (done_of HT_.out (by kernel_rfl)) ?_
  go_end0
  exact ⟨rfl, w2, rfl, HB2.out⟩
end
section
open Go.RowKit Go.Shelf Go.Proofs.YtnmdojgfedddbaaGreatDoorW.PrintWords Go.Proofs.YtnmdojgfedddbaaGreatDoorW.PrintLast Go.Proofs.YtnmdojgfedddbaaGreatDoorW.PrintMore
attribute [local go_sem] Oper.semAt_some
def ordL : List ByteArray := [⟨#[111, 120, 105, 100, 101, 115]⟩, ⟨#[119, 97, 110, 116, 101, 100]⟩, ⟨#[114, 101, 100, 111, 120]⟩, ⟨#[115, 104, 97, 114, 101, 115]⟩, ⟨#[109, 97, 116, 101, 114, 105, 97, 108]⟩, ⟨#[112, 114, 111, 112, 101, 114, 116, 121]⟩]
theorem results_c1 {P : Program} {fn : Func} {p : Tmp} {ty : TypeId} (h : fn.results = #[.cell p ty]) (tmps : Array Value) (w : World) (g : Nat) (t : TypeId) (cs : Array Value) (fr : Nat × Nat) (d : TypeDesc)
    (hp : tmps.getD p undef = .pointer (some ⟨g, 0, none⟩)) (hg : w.heap[g]? = some (.cells cs t fr))
    (hu : P.underlying ty = some d) (hd : (match d with | .struct _ | .array _ _ => true | _ => false) = true) (hi : (P.info? ty).map (·.size) = some cs.size) :
    (results fn tmps).run P w = .ok (.agg cs) w := by
  have hp' : tmps[p]?.getD undef = .pointer (some ⟨g, 0, none⟩) := by simpa using hp
  simp [results, h, hp', asAddr, run_loadVar_row w g t ty cs fr d hg hu hd hi]
theorem order_calls (w : World) : Calls Tryz.prog 114 #[] w fun e w' => e = .returned (.agg #[.string ⟨#[111, 120, 105, 100, 101, 115]⟩, .string ⟨#[119, 97, 110, 116, 101, 100]⟩, .string ⟨#[114, 101, 100, 111, 120]⟩, .string ⟨#[115, 104, 97, 114, 101, 115]⟩, .string ⟨#[109, 97, 116, 101, 114, 105, 97, 108]⟩, .string ⟨#[112, 114, 111, 112, 101, 114, 116, 121]⟩]) ∧ Below w.heap.size w w' := by
  go_enter Tryz.func114, Tryz.ntmps114
  go_wp2
  refine bodyPost_ret (results_c1 rfl _ _ w.heap.size 154 #[.string ⟨#[111, 120, 105, 100, 101, 115]⟩, .string ⟨#[119, 97, 110, 116, 101, 100]⟩, .string ⟨#[114, 101, 100, 111, 120]⟩, .string ⟨#[115, 104, 97, 114, 101, 115]⟩, .string ⟨#[109, 97, 116, 101, 114, 105, 97, 108]⟩, .string ⟨#[112, 114, 111, 112, 101, 114, 116, 121]⟩] (0, 0) (.array 6 9) rfl (blk_new _ _) (by kernel_rfl) rfl (by kernel_rfl)) rfl ?_
  exact ⟨rfl, below_alloc (Below.refl _ _) _⟩
theorem orderAll_calls (w : World) : Calls Tryz.prog 82 #[] w fun e w' => ∃ g, e = .returned (.slice (some ⟨g, 0, none⟩) 6 6) ∧ w'.heap[g]? = some (.cells #[.string ⟨#[111, 120, 105, 100, 101, 115]⟩, .string ⟨#[119, 97, 110, 116, 101, 100]⟩, .string ⟨#[114, 101, 100, 111, 120]⟩, .string ⟨#[115, 104, 97, 114, 101, 115]⟩, .string ⟨#[109, 97, 116, 101, 114, 105, 97, 108]⟩, .string ⟨#[112, 114, 111, 112, 101, 114, 116, 121]⟩] 154 (0, 0)) ∧ w.heap.size ≤ g ∧ Below w.heap.size w w' := by
  go_enter Tryz.func82, Tryz.ntmps82
  go_wp2_with (go_at_call 114; refine (order_calls _).mono ?_; rintro e w1 ⟨rfl, hb⟩; have HB := Sd.mk hb; clear hb)
  go_ret
  exact ⟨w1.heap.size, rfl, blk_new _ _, HB.out.size, below_alloc HB.out _⟩
end
section
open Go.RowKit Go.Shelf Go.Proofs.YtnmdojgfedddbaaGreatDoorW.PrintWords Go.Proofs.YtnmdojgfedddbaaGreatDoorW.PrintLast Go.Proofs.YtnmdojgfedddbaaGreatDoorW.PrintMore
attribute [local go_sem] Oper.semAt_some
theorem leaves_put {P : Program} {fn : Func} {tmps : Array Value} {N : Tmp} {v : Value} {R : Ending → World → Prop} (hres : ∀ t : Array Value, results fn (t.setIfInBounds N v) = results fn t) :
    ∀ (ds : List Deferred) (u : FrameMode) (w : World), Leaves P fn (tmps.setIfInBounds N v) R ds u w → Leaves P fn tmps R ds u w
  | [], .returning, w, h => by
    obtain ⟨x, h1, h2⟩ := h
    exact ⟨x, (by rw [← hres tmps]; exact h1), h2⟩
  | [], .panicking chain, w, h => h
  | [], .run, w, h => h
  | d :: ds, u, w, h => by
    obtain ⟨h1, fv, cap, f, args, h2, h3, h4⟩ := h
    refine ⟨h1, fv, cap, f, args, h2, h3, h4.mono ?_⟩
    intro e u' w' he
    cases e with
    | returned x => exact leaves_put hres ds _ _ he
    | panicked c => exact leaves_put hres ds _ _ he
    | outgrown => exact he
theorem res32 {N : Tmp} (v : Value) (h6 : N ≠ 6) (h7 : N ≠ 7) (t : Array Value) : results Tryz.f32 (t.setIfInBounds N v) = results Tryz.f32 t := by
  have e6 : (t.setIfInBounds N v)[6]? = t[6]? := by simp [Array.getElem?_setIfInBounds, h6]
  have e7 : (t.setIfInBounds N v)[7]? = t[7]? := by simp [Array.getElem?_setIfInBounds, h7]
  simp [results, Tryz.results32, e6, e7]
theorem C_blk {α : Type} (d : Kd α) {w : World} {g e : Nat} {cs : Array Value} {xs : List α} (hb : w.heap[g]? = some (.cells cs e (0, 0))) (hr : Reps (d.K w) d.sz xs cs.toList) (hm : xs.length ≤ 9223372036854775807) : Kd.C d w (some ⟨g, 0, none⟩) xs.length xs := by
  refine ⟨rfl, hm, fun _ => ⟨_, rfl, fun j p hj => ⟨_, ?_, hr.2 j p hj, fun i u hu => ?_⟩⟩⟩
  · have hl := (List.getElem?_eq_some_iff.1 hj).1
    rw [List.length_take, List.length_drop, hr.1]
    have h2 : j * d.sz + d.sz ≤ xs.length * d.sz := by rw [← Nat.succ_mul]; exact Nat.mul_le_mul_right _ hl
    omega
  · rw [List.getElem?_take, List.getElem?_drop] at hu
    split at hu
    · have := blk_cell hb (j * d.sz + i)
      have e : (⟨g, 0, none⟩ : Addr).add (j * d.sz + i) = ⟨g, j * d.sz + i, none⟩ := by simp [Addr.add]; intro h1 h2; rw [h1, h2]
      rw [e, this, ← Array.getElem?_toList]
      exact hu
    · cases hu
theorem Kept.far {P B : Nat} {w w' : World} (h : Kept P w w') (h1 : w.heap.size ≤ B) (h2 : P ≤ B) (j : Nat) (v : Value) : Kept P w (w'.setCell ⟨B, j, none⟩ v) :=
  ⟨by simpa [World.setCell] using h.size, fun g hg hne => (Below.heap_setCell _ _ _ _ (by show g ≠ B; omega)).trans (h.blk g hg hne), h.bel.setCell h2 _⟩
theorem reps_str (w : World) : ∀ zs : List ByteArray, Reps (Kd.string.K w) Kd.string.sz zs (zs.map Value.string)
  | [] => Reps.none _ _
  | z :: zs => Reps.one rfl (reps_str w zs)
theorem C_strs {w : World} {g e : Nat} (zs : List ByteArray) (hb : w.heap[g]? = some (.cells (zs.map Value.string).toArray e (0, 0))) (hm : zs.length ≤ 9223372036854775807) : Kd.C Kd.string w (some ⟨g, 0, none⟩) zs.length zs :=
  C_blk Kd.string hb (by simpa using reps_str w zs) hm
theorem mem_cell {w w' : World} (h : Below w.heap.size w w') {g j : Nat} {v : Value} (hc : w.cell? ⟨g, j, none⟩ = some v) : w'.cell? ⟨g, j, none⟩ = some v := (h.cell (World.block_lt_of_cell? w _ hc)).trans hc
def rd4T : Bool × List (List Nat × List Nat) := (true, [([], []), ([0], [0]), ([], []), ([2], [2]), ([3], [3]), ([1, 4, 0], [1, 4]), ([5, 5, 0, 1, 2, 3, 4, 5], [5])])
def rd4B : List Nat := [0, 1, 0, 4, 12, 31, 63]
theorem rd4_tab : rtab .any (opsOf Tryz.f32 4) = rd4T := by kernel_rfl
theorem rd4_bits : waitsOk rd4T.2 rd4B = true := by kernel_rfl
def rd6T : Bool × List (List Nat × List Nat) := (true, [([], []), ([0], [0]), ([], []), ([2], [2]), ([3], [3]), ([1, 4], [1, 4]), ([], []), ([6], [6]), ([5, 7, 1], [5, 7])])
def rd6B : List Nat := [0, 1, 0, 4, 12, 31, 0, 64, 255]
theorem rd6_tab : rtab .any (opsOf Tryz.f32 6) = rd6T := by kernel_rfl
theorem rd6_bits : waitsOk rd6T.2 rd6B = true := by kernel_rfl
theorem num0 : NumOk ⟨#[48]⟩ 0 := ⟨by kernel_rfl, by kernel_rfl, by decide, by decide⟩
theorem num1 : NumOk ⟨#[49]⟩ 1 := ⟨by kernel_rfl, by kernel_rfl, by decide, by decide⟩
theorem C_tail2 {w : World} {L e : Nat} {x y : ByteArray} (h : w.heap[L]? = some (.cells #[.string x, .string y] e (0, 0))) : Kd.C Kd.string w (some ⟨L, 1, none⟩) 1 [y] :=
  Kd.C_drop (c := 2) (m := 1) (C_strs [x, y] h (by simp)) (by simp) (by simp)
theorem C_tail3 {w : World} {L e : Nat} {x y z : ByteArray} (h : w.heap[L]? = some (.cells #[.string x, .string y, .string z] e (0, 0))) : Kd.C Kd.string w (some ⟨L, 1, none⟩) 2 [y, z] :=
  Kd.C_drop (c := 3) (m := 1) (C_strs [x, y, z] h (by simp)) (by simp) (by simp)
theorem read_no (P : Nat) (o m s p a b n : Value) (mx : Int) (w : World) (hm : w.cell? ⟨0, 0, none⟩ = some (.int .i64 mx)) (hP : w.heap[P]? = some (.cells #[o, m, s, p, a, b, n] 29 (0, 0))) :
    Calls Tryz.prog 32 #[.pointer (some ⟨P, 0, none⟩), .string ⟨#[114, 101, 100, 111, 120, 32, 48, 32, 49]⟩, .int .i64 (0)] w fun e w' => e = .returned (.tuple #[.int .i64 2, .bool false]) ∧ Kept P w w' ∧ w'.heap[P]? = some (.cells #[o, m, s, p, a, b, n] 29 (0, 0)) := by
  have hmf := fun (fn : Fn) (first cap : Array Value) (W : World) => show (Instr.makeFunc fn first cap).run Tryz.prog W = .ok (.func fn first cap) W from rfl
  have HX := Sd.mk (blk_new w (.cells #[.bool false] 4))
  have HB := Sd.mk (below_alloc (Below.refl w.heap.size w) (.cells #[.bool false] 4))
  have HP := Sd.mk (blk_alloc hP (.cells #[.bool false] 4))
  have HM := Sd.mk (mem_cell HB.out hm)
  have HPL := Sd.mk (blk_lt hP)
  clear hm hP
  go_enter_defers Tryz.func32, Tryz.ntmps32
  go_upto_region 4 with (first
    | (go_at_call 31; refine (sh_strings_Split ⟨#[114, 101, 100, 111, 120, 32, 48, 32, 49]⟩ ⟨#[32]⟩ mx _ (by decide) HM.out (by decide)).mono ?_; rw [show Lib.splitB ⟨#[32]⟩ 0 (Lib.countB ⟨#[114, 101, 100, 111, 120, 32, 48, 32, 49]⟩ ⟨#[32]⟩) ⟨#[114, 101, 100, 111, 120, 32, 48, 32, 49]⟩ = [⟨#[114, 101, 100, 111, 120]⟩, ⟨#[48]⟩, ⟨#[49]⟩] from by kernel_rfl, show Lib.countB ⟨#[114, 101, 100, 111, 120, 32, 48, 32, 49]⟩ ⟨#[32]⟩ = 2 from by kernel_rfl]; rintro e w1 ⟨rfl, hw1⟩; have HLP := Sd.mk (show (w.alloc (.cells #[.bool false] 4)).heap.size ≠ P by have := HPL.out; rw [World.size_alloc]; omega); have HL := Sd.mk (show w1.heap[(w.alloc (.cells #[.bool false] 4)).heap.size]? = some (.cells #[.string ⟨#[114, 101, 100, 111, 120]⟩, .string ⟨#[48]⟩, .string ⟨#[49]⟩] 9 (0, 0)) from hw1 ▸ blk_new _ _); have hb1 : Below (w.alloc (.cells #[.bool false] 4)).heap.size (w.alloc (.cells #[.bool false] 4)) w1 := hw1 ▸ below_alloc (Below.refl _ _) _; have HB1 := Sd.mk (below_then HB.out HB.out.size hb1); have HX1 := Sd.mk (blk_below HX.out hb1); have HP1 := Sd.mk (blk_below HP.out hb1); clear hb1 hw1; generalize (w.alloc (.cells #[.bool false] 4)).heap.size = L at HL HLP ⊢)
    | (go_at_call 80; refine (slices_Contains_string_string.calls 20 (some ⟨L, 0, none⟩) 3 [⟨#[114, 101, 100, 111, 120]⟩, ⟨#[48]⟩, ⟨#[49]⟩] ⟨#[]⟩ false _ (C_strs [⟨#[114, 101, 100, 111, 120]⟩, ⟨#[48]⟩, ⟨#[49]⟩] HL.out (by decide)) (by decide) (by kernel_rfl)).mono ?_; rintro e w2 ⟨rfl, hd⟩; have HL2 := Sd.mk (blk_below HL.out hd.below); have HB2 := Sd.mk (below_then HB1.out HB1.out.size hd.below); have HX2 := Sd.mk (blk_below HX1.out hd.below); have HP2 := Sd.mk (blk_below HP1.out hd.below); clear hd HL HB1 HX1 HP1)
    | (go_at_call 79; refine (demand_ok _).mono ?_; rintro e w' ⟨rfl, hw⟩; subst w'))
  clear HX HB HP
  refine start_ (n := 7) (S := fun w' => w'.heap[L]? = some (.cells #[.string ⟨#[114, 101, 100, 111, 120]⟩, .string ⟨#[48]⟩, .string ⟨#[49]⟩] 9 (0, 0))) (ds := []) #[false, false, false, false, false, false, false] (by kernel_rfl) rfl rfl (blk_drew HL2.out) (fun hHeld => ?_)
  refine with_tabW rd4_tab rd4_bits (fun HT_ HW_ => ?_)
  have HX3 := Sd.mk (blk_drew HX2.out)
  have HP3 := Sd.mk (blk_drew HP2.out)
  have HB3 := Sd.mk (below_drew1 HB2.out)
  clear HX2 HP2 HB2 HL2
  generalize w2.drew = w3 at HX3 HP3 HB3 hHeld ⊢
  refine pure_ (i := 2) (N := some 18) (v := ?_) (a' := ?_) #[false, false, true, false, false, false, false] rfl rfl (any_of HT_.out (by kernel_rfl)) (fun _ _ _ h => leaves_put (res32 _ (by decide) (by decide)) _ _ _ h) (Or.inl ⟨by rfl, ?_⟩) ?_ ?_
  rotate_left
  · intro w'
    go_simp
    with_reducible rfl
  rotate_left
  · simp only [Act.put, List.setIfInBounds_toArray, List.set_cons_zero, List.set_cons_succ, i64_w, i32_w]
    rfl
  refine pure_ (i := 3) (N := some 19) (v := ?_) (a' := ?_) #[false, false, true, true, false, false, false] rfl rfl (any_of HT_.out (by kernel_rfl)) (fun _ _ _ h => leaves_put (res32 _ (by decide) (by decide)) _ _ _ h) (Or.inl ⟨by rfl, ?_⟩) ?_ ?_
  rotate_left
  · intro w'
    go_simp
    with_reducible rfl
  rotate_left
  · simp only [Act.put, List.setIfInBounds_toArray, List.set_cons_zero, List.set_cons_succ, i64_w, i32_w]
    rfl
  refine take_ (i := 4) (N := some 20) (v := ?_) (a' := ?_) #[false, false, true, true, true, false, false] rfl rfl (take_ofW HT_.out HW_.out (by kernel_rfl)) (fun _ _ _ h => leaves_put (res32 _ (by decide) (by decide)) _ _ _ h) (Or.inl ⟨by rfl, ?_⟩) hHeld ?_ ?_
  rotate_left
  · rintro w' hx
    have s0 : w'.cell? ⟨L, 0, none⟩ = some (.string ⟨#[114, 101, 100, 111, 120]⟩) := (blk_cell hx 0).trans rfl
    go_simp
    with_reducible rfl
  rotate_left
  · simp only [Act.put, List.setIfInBounds_toArray, List.set_cons_zero, List.set_cons_succ, i64_w, i32_w]
    rfl
  refine one_ (i := 0) (N := some 16) #[true, false, true, true, true, false, false] rfl rfl (one_of HT_.out (by kernel_rfl)) (by decide) (fun K hK => ?_)
  refine goes_ Tryz.func82 (by kernel_rfl) rfl #[] (by (try simp only [Array.map_toArray, List.map_toArray, List.map_cons, List.map_nil]); rfl) rfl rfl (by (try simp only [List.map_toArray, List.map_cons, List.map_nil]); first | done | rfl) ?_
  refine (orderAll_calls w3).mono ?_
  rintro e w4 ⟨g5, rfl, ho, _, hb⟩
  have HO := Sd.mk ho
  clear ho
  refine ⟨_, rfl, ?_⟩
  have HX4 := Sd.mk (blk_below HX3.out hb)
  have HP4 := Sd.mk (blk_below HP3.out hb)
  have HB4 := Sd.mk (below_then HB3.out HB3.out.size hb)
  have hh := blk_below hHeld hb
  clear hb hHeld HX3 HP3 HB3
  refine hK.out _ _ hh (fun hHeld => ?_)
  clear hh
  clear hK K
  refine norm_ (a' := ?_) ?_ ?_
  rotate_left
  · show Act.put _ (some 16) _ = _
    simp only [Act.put, List.setIfInBounds_toArray, List.set_cons_zero, List.set_cons_succ, i64_w, i32_w]
    rfl
  refine pure_ (i := 1) (N := some 17) (v := ?_) (a' := ?_) #[true, true, true, true, true, false, false] rfl rfl (any_of HT_.out (by kernel_rfl)) (fun _ _ _ h => leaves_put (res32 _ (by decide) (by decide)) _ _ _ h) (Or.inl ⟨by rfl, ?_⟩) ?_ ?_
  rotate_left
  · intro w'
    go_simp
    with_reducible rfl
  rotate_left
  · simp only [Act.put, List.setIfInBounds_toArray, List.set_cons_zero, List.set_cons_succ, i64_w, i32_w]
    rfl
  refine one_ (i := 5) (N := some 21) #[true, true, true, true, true, true, false] rfl rfl (one_of HT_.out (by kernel_rfl)) (by decide) (fun K hK => ?_)
  refine goes_ Tryz.func81 (by kernel_rfl) rfl #[.slice (some ⟨g5, 0, none⟩) 6 6, .string ⟨#[114, 101, 100, 111, 120]⟩] (by (try simp only [Array.map_toArray, List.map_toArray, List.map_cons, List.map_nil]); rfl) rfl rfl (by (try simp only [List.map_toArray, List.map_cons, List.map_nil]); first | done | rfl) ?_
  refine (slices_Index_string_string.calls 20 (some ⟨g5, 0, none⟩) 6 ordL ⟨#[114, 101, 100, 111, 120]⟩ 2 w4 (C_strs ordL HO.out (by decide)) (by decide) (by kernel_rfl)).mono ?_
  rintro e w5 ⟨rfl, hd⟩
  have hb := hd.below
  clear hd HO
  refine ⟨_, rfl, ?_⟩
  have HX5 := Sd.mk (blk_below HX4.out hb)
  have HP5 := Sd.mk (blk_below HP4.out hb)
  have HB5 := Sd.mk (below_then HB4.out HB4.out.size hb)
  have hh := blk_below hHeld hb
  clear hb hHeld HX4 HP4 HB4
  refine hK.out _ _ hh (fun hHeld => ?_)
  clear hh
  clear hK K
  refine norm_ (a' := ?_) ?_ ?_
  rotate_left
  · show Act.put _ (some 21) _ = _
    simp only [Act.put, List.setIfInBounds_toArray, List.set_cons_zero, List.set_cons_succ, i64_w, i32_w]
    rfl
  refine one_ (i := 6) (N := some 6) #[true, true, true, true, true, true, true] rfl rfl (one_of HT_.out (by kernel_rfl)) (by decide) (fun K hK => ?_)
  go_simp
  refine hK.out _ _ hHeld (fun hHeld => ?_)
  clear hK K
  refine done_ (done_of HT_.out (by kernel_rfl)) ?_
  clear HT_ HW_
  go_wp2_with (go_at_call 79; refine (demand_no _).mono ?_; rintro e w' ⟨rfl, hw⟩; subst w')
  refine leaves_cons (f := 78) (args := #[.pointer (some ⟨w.heap.size, 0, none⟩)]) (by simp) (by simp [go_sem]) ?_
  refine (door_no w.heap.size false [] w5 HX5.out).mono ?_
  rintro e u' w6 ⟨rfl, rfl, hw⟩
  have hX6 : w6.heap[w.heap.size]? = some (.cells #[.bool false] 4 (0, 0)) := hw ▸ blk_put (blk_alloc HX5.out _) 0 _ rfl
  have hB6 : Below w.heap.size w w6 := hw ▸ below_set (below_alloc HB5.out _) (Nat.le_refl _)
  have hP6 : w6.heap[P]? = some (.cells #[o, m, s, p, a, b, n] 29 (0, 0)) := hw ▸ blk_far (blk_alloc HP5.out _) (Nat.ne_of_lt HPL.out) _
  have e0 : w6.cell? ⟨w.heap.size, 0, none⟩ = some (.bool false) := (blk_cell hX6 0).trans rfl
  refine ⟨.tuple #[.int .i64 2, .bool false], ?_, rfl, Kept.of hB6 (Nat.le_of_lt HPL.out), hP6⟩
  simp [results, Tryz.results32, e0, go_sem]
theorem read_oxides (P : Nat) (o m s p a b n : Value) (mx : Int) (w : World) (hm : w.cell? ⟨0, 0, none⟩ = some (.int .i64 mx)) (hP : w.heap[P]? = some (.cells #[o, m, s, p, a, b, n] 29 (0, 0))) :
    Calls Tryz.prog 32 #[.pointer (some ⟨P, 0, none⟩), .string ⟨#[111, 120, 105, 100, 101, 115, 32, 115, 105]⟩, .int .i64 (-1)] w fun e w' => ∃ v, e = .returned (.tuple #[.int .i64 0, .bool true]) ∧ Kept P w w' ∧ w'.heap[P]? = some (.cells #[v, m, s, p, a, b, n] 29 (0, 0)) := by
  have hmf := fun (fn : Fn) (first cap : Array Value) (W : World) => show (Instr.makeFunc fn first cap).run Tryz.prog W = .ok (.func fn first cap) W from rfl
  have HX := Sd.mk (blk_new w (.cells #[.bool false] 4))
  have HB := Sd.mk (below_alloc (Below.refl w.heap.size w) (.cells #[.bool false] 4))
  have HP := Sd.mk (blk_alloc hP (.cells #[.bool false] 4))
  have HM := Sd.mk (mem_cell HB.out hm)
  have HPL := Sd.mk (blk_lt hP)
  clear hm hP
  go_enter_defers Tryz.func32, Tryz.ntmps32
  go_upto_region 4 with (first
    | (go_at_call 31; refine (sh_strings_Split ⟨#[111, 120, 105, 100, 101, 115, 32, 115, 105]⟩ ⟨#[32]⟩ mx _ (by decide) HM.out (by decide)).mono ?_; rw [show Lib.splitB ⟨#[32]⟩ 0 (Lib.countB ⟨#[111, 120, 105, 100, 101, 115, 32, 115, 105]⟩ ⟨#[32]⟩) ⟨#[111, 120, 105, 100, 101, 115, 32, 115, 105]⟩ = [⟨#[111, 120, 105, 100, 101, 115]⟩, ⟨#[115, 105]⟩] from by kernel_rfl, show Lib.countB ⟨#[111, 120, 105, 100, 101, 115, 32, 115, 105]⟩ ⟨#[32]⟩ = 1 from by kernel_rfl]; rintro e w1 ⟨rfl, hw1⟩; have HLP := Sd.mk (show (w.alloc (.cells #[.bool false] 4)).heap.size ≠ P by have := HPL.out; rw [World.size_alloc]; omega); have HL := Sd.mk (show w1.heap[(w.alloc (.cells #[.bool false] 4)).heap.size]? = some (.cells #[.string ⟨#[111, 120, 105, 100, 101, 115]⟩, .string ⟨#[115, 105]⟩] 9 (0, 0)) from hw1 ▸ blk_new _ _); have hb1 : Below (w.alloc (.cells #[.bool false] 4)).heap.size (w.alloc (.cells #[.bool false] 4)) w1 := hw1 ▸ below_alloc (Below.refl _ _) _; have HB1 := Sd.mk (below_then HB.out HB.out.size hb1); have HX1 := Sd.mk (blk_below HX.out hb1); have HP1 := Sd.mk (blk_below HP.out hb1); clear hb1 hw1; generalize (w.alloc (.cells #[.bool false] 4)).heap.size = L at HL HLP ⊢)
    | (go_at_call 80; refine (slices_Contains_string_string.calls 20 (some ⟨L, 0, none⟩) 2 [⟨#[111, 120, 105, 100, 101, 115]⟩, ⟨#[115, 105]⟩] ⟨#[]⟩ false _ (C_strs [⟨#[111, 120, 105, 100, 101, 115]⟩, ⟨#[115, 105]⟩] HL.out (by decide)) (by decide) (by kernel_rfl)).mono ?_; rintro e w2 ⟨rfl, hd⟩; have HL2 := Sd.mk (blk_below HL.out hd.below); have HB2 := Sd.mk (below_then HB1.out HB1.out.size hd.below); have HX2 := Sd.mk (blk_below HX1.out hd.below); have HP2 := Sd.mk (blk_below HP1.out hd.below); clear hd HL HB1 HX1 HP1)
    | (go_at_call 79; refine (demand_ok _).mono ?_; rintro e w' ⟨rfl, hw⟩; subst w'))
  clear HX HB HP
  refine start_ (n := 7) (S := fun w' => w'.heap[L]? = some (.cells #[.string ⟨#[111, 120, 105, 100, 101, 115]⟩, .string ⟨#[115, 105]⟩] 9 (0, 0))) (ds := []) #[false, false, false, false, false, false, false] (by kernel_rfl) rfl rfl (blk_drew HL2.out) (fun hHeld => ?_)
  refine with_tabW rd4_tab rd4_bits (fun HT_ HW_ => ?_)
  have HX3 := Sd.mk (blk_drew HX2.out)
  have HP3 := Sd.mk (blk_drew HP2.out)
  have HB3 := Sd.mk (below_drew1 HB2.out)
  clear HX2 HP2 HB2 HL2
  generalize w2.drew = w3 at HX3 HP3 HB3 hHeld ⊢
  refine pure_ (i := 2) (N := some 18) (v := ?_) (a' := ?_) #[false, false, true, false, false, false, false] rfl rfl (any_of HT_.out (by kernel_rfl)) (fun _ _ _ h => leaves_put (res32 _ (by decide) (by decide)) _ _ _ h) (Or.inl ⟨by rfl, ?_⟩) ?_ ?_
  rotate_left
  · intro w'
    go_simp
    with_reducible rfl
  rotate_left
  · simp only [Act.put, List.setIfInBounds_toArray, List.set_cons_zero, List.set_cons_succ, i64_w, i32_w]
    rfl
  refine pure_ (i := 3) (N := some 19) (v := ?_) (a' := ?_) #[false, false, true, true, false, false, false] rfl rfl (any_of HT_.out (by kernel_rfl)) (fun _ _ _ h => leaves_put (res32 _ (by decide) (by decide)) _ _ _ h) (Or.inl ⟨by rfl, ?_⟩) ?_ ?_
  rotate_left
  · intro w'
    go_simp
    with_reducible rfl
  rotate_left
  · simp only [Act.put, List.setIfInBounds_toArray, List.set_cons_zero, List.set_cons_succ, i64_w, i32_w]
    rfl
  refine take_ (i := 4) (N := some 20) (v := ?_) (a' := ?_) #[false, false, true, true, true, false, false] rfl rfl (take_ofW HT_.out HW_.out (by kernel_rfl)) (fun _ _ _ h => leaves_put (res32 _ (by decide) (by decide)) _ _ _ h) (Or.inl ⟨by rfl, ?_⟩) hHeld ?_ ?_
  rotate_left
  · rintro w' hx
    have s0 : w'.cell? ⟨L, 0, none⟩ = some (.string ⟨#[111, 120, 105, 100, 101, 115]⟩) := (blk_cell hx 0).trans rfl
    go_simp
    with_reducible rfl
  rotate_left
  · simp only [Act.put, List.setIfInBounds_toArray, List.set_cons_zero, List.set_cons_succ, i64_w, i32_w]
    rfl
  refine one_ (i := 0) (N := some 16) #[true, false, true, true, true, false, false] rfl rfl (one_of HT_.out (by kernel_rfl)) (by decide) (fun K hK => ?_)
  refine goes_ Tryz.func82 (by kernel_rfl) rfl #[] (by (try simp only [Array.map_toArray, List.map_toArray, List.map_cons, List.map_nil]); rfl) rfl rfl (by (try simp only [List.map_toArray, List.map_cons, List.map_nil]); first | done | rfl) ?_
  refine (orderAll_calls w3).mono ?_
  rintro e w4 ⟨g5, rfl, ho, _, hb⟩
  have HO := Sd.mk ho
  clear ho
  refine ⟨_, rfl, ?_⟩
  have HX4 := Sd.mk (blk_below HX3.out hb)
  have HP4 := Sd.mk (blk_below HP3.out hb)
  have HB4 := Sd.mk (below_then HB3.out HB3.out.size hb)
  have hh := blk_below hHeld hb
  clear hb hHeld HX3 HP3 HB3
  refine hK.out _ _ hh (fun hHeld => ?_)
  clear hh
  clear hK K
  refine norm_ (a' := ?_) ?_ ?_
  rotate_left
  · show Act.put _ (some 16) _ = _
    simp only [Act.put, List.setIfInBounds_toArray, List.set_cons_zero, List.set_cons_succ, i64_w, i32_w]
    rfl
  refine pure_ (i := 1) (N := some 17) (v := ?_) (a' := ?_) #[true, true, true, true, true, false, false] rfl rfl (any_of HT_.out (by kernel_rfl)) (fun _ _ _ h => leaves_put (res32 _ (by decide) (by decide)) _ _ _ h) (Or.inl ⟨by rfl, ?_⟩) ?_ ?_
  rotate_left
  · intro w'
    go_simp
    with_reducible rfl
  rotate_left
  · simp only [Act.put, List.setIfInBounds_toArray, List.set_cons_zero, List.set_cons_succ, i64_w, i32_w]
    rfl
  refine one_ (i := 5) (N := some 21) #[true, true, true, true, true, true, false] rfl rfl (one_of HT_.out (by kernel_rfl)) (by decide) (fun K hK => ?_)
  refine goes_ Tryz.func81 (by kernel_rfl) rfl #[.slice (some ⟨g5, 0, none⟩) 6 6, .string ⟨#[111, 120, 105, 100, 101, 115]⟩] (by (try simp only [Array.map_toArray, List.map_toArray, List.map_cons, List.map_nil]); rfl) rfl rfl (by (try simp only [List.map_toArray, List.map_cons, List.map_nil]); first | done | rfl) ?_
  refine (slices_Index_string_string.calls 20 (some ⟨g5, 0, none⟩) 6 ordL ⟨#[111, 120, 105, 100, 101, 115]⟩ 0 w4 (C_strs ordL HO.out (by decide)) (by decide) (by kernel_rfl)).mono ?_
  rintro e w5 ⟨rfl, hd⟩
  have hb := hd.below
  clear hd HO
  refine ⟨_, rfl, ?_⟩
  have HX5 := Sd.mk (blk_below HX4.out hb)
  have HP5 := Sd.mk (blk_below HP4.out hb)
  have HB5 := Sd.mk (below_then HB4.out HB4.out.size hb)
  have hh := blk_below hHeld hb
  clear hb hHeld HX4 HP4 HB4
  refine hK.out _ _ hh (fun hHeld => ?_)
  clear hh
  clear hK K
  refine norm_ (a' := ?_) ?_ ?_
  rotate_left
  · show Act.put _ (some 21) _ = _
    simp only [Act.put, List.setIfInBounds_toArray, List.set_cons_zero, List.set_cons_succ, i64_w, i32_w]
    rfl
  refine one_ (i := 6) (N := some 6) #[true, true, true, true, true, true, true] rfl rfl (one_of HT_.out (by kernel_rfl)) (by decide) (fun K hK => ?_)
  go_simp
  refine hK.out _ _ hHeld (fun hHeld => ?_)
  clear hK K
  refine done_ (done_of HT_.out (by kernel_rfl)) ?_
  clear HT_ HW_
  go_upto_region 6 with (go_at_call 79; refine (demand_ok _).mono ?_; rintro e w' ⟨rfl, hw⟩; subst w')
  have HH5 := Sd.mk hHeld
  clear hHeld
  refine start_ (n := 9) (S := fun w' => w'.heap[L]? = some (.cells #[.string ⟨#[111, 120, 105, 100, 101, 115]⟩, .string ⟨#[115, 105]⟩] 9 (0, 0))) (ds := []) #[false, false, false, false, false, false, false, false, false] (by kernel_rfl) rfl rfl (blk_drew HH5.out) (fun hHeld => ?_)
  refine with_tabW rd6_tab rd6_bits (fun HT_ HW_ => ?_)
  have HX6 := Sd.mk (blk_drew HX5.out)
  have HP6 := Sd.mk (blk_drew HP5.out)
  have HB6 := Sd.mk (below_drew1 HB5.out)
  clear HX5 HP5 HB5 HH5
  generalize w5.drew = w6 at HX6 HP6 HB6 hHeld ⊢
  refine pure_ (i := 0) (N := some 45) (v := ?_) (a' := ?_) #[true, false, false, false, false, false, false, false, false] rfl rfl (any_of HT_.out (by kernel_rfl)) (fun _ _ _ h => leaves_put (res32 _ (by decide) (by decide)) _ _ _ h) (Or.inl ⟨by rfl, ?_⟩) ?_ ?_
  rotate_left
  · intro w'
    go_simp
    with_reducible rfl
  rotate_left
  · simp only [Act.put, List.setIfInBounds_toArray, List.set_cons_zero, List.set_cons_succ, i64_w, i32_w]
    rfl
  refine pure_ (i := 2) (N := some 47) (v := ?_) (a' := ?_) #[true, false, true, false, false, false, false, false, false] rfl rfl (any_of HT_.out (by kernel_rfl)) (fun _ _ _ h => leaves_put (res32 _ (by decide) (by decide)) _ _ _ h) (Or.inl ⟨by rfl, ?_⟩) ?_ ?_
  rotate_left
  · intro w'
    go_simp
    with_reducible rfl
  rotate_left
  · simp only [Act.put, List.setIfInBounds_toArray, List.set_cons_zero, List.set_cons_succ, i64_w, i32_w]
    rfl
  refine pure_ (i := 3) (N := some 48) (v := ?_) (a' := ?_) #[true, false, true, true, false, false, false, false, false] rfl rfl (any_of HT_.out (by kernel_rfl)) (fun _ _ _ h => leaves_put (res32 _ (by decide) (by decide)) _ _ _ h) (Or.inl ⟨by rfl, ?_⟩) ?_ ?_
  rotate_left
  · intro w'
    go_simp
    with_reducible rfl
  rotate_left
  · simp only [Act.put, List.setIfInBounds_toArray, List.set_cons_zero, List.set_cons_succ, i64_w, i32_w]
    rfl
  refine take_ (i := 4) (N := some 49) (v := ?_) (a' := ?_) #[true, false, true, true, true, false, false, false, false] rfl rfl (take_ofW HT_.out HW_.out (by kernel_rfl)) (fun _ _ _ h => leaves_put (res32 _ (by decide) (by decide)) _ _ _ h) (Or.inl ⟨by rfl, ?_⟩) hHeld ?_ ?_
  rotate_left
  · rintro w' hx
    have s0 : w'.cell? ⟨L, 0, none⟩ = some (.string ⟨#[111, 120, 105, 100, 101, 115]⟩) := (blk_cell hx 0).trans rfl
    go_simp
    with_reducible rfl
  rotate_left
  · simp only [Act.put, List.setIfInBounds_toArray, List.set_cons_zero, List.set_cons_succ, i64_w, i32_w]
    rfl
  refine pure_ (i := 6) (N := some 51) (v := ?_) (a' := ?_) #[true, false, true, true, true, false, true, false, false] rfl rfl (any_of HT_.out (by kernel_rfl)) (fun _ _ _ h => leaves_put (res32 _ (by decide) (by decide)) _ _ _ h) (Or.inl ⟨by rfl, ?_⟩) ?_ ?_
  rotate_left
  · intro w'
    go_simp
    with_reducible rfl
  rotate_left
  · simp only [Act.put, List.setIfInBounds_toArray, List.set_cons_zero, List.set_cons_succ, i64_w, i32_w]
    rfl
  refine pure_ (i := 7) (N := some 52) (v := ?_) (a' := ?_) #[true, false, true, true, true, false, true, true, false] rfl rfl (any_of HT_.out (by kernel_rfl)) (fun _ _ _ h => leaves_put (res32 _ (by decide) (by decide)) _ _ _ h) (Or.inl ⟨by rfl, ?_⟩) ?_ ?_
  rotate_left
  · intro w'
    go_simp
    with_reducible rfl
  rotate_left
  · simp only [Act.put, List.setIfInBounds_toArray, List.set_cons_zero, List.set_cons_succ, i64_w, i32_w]
    rfl
  refine one_ (i := 1) (N := some 46) #[true, true, true, true, true, false, true, true, false] rfl rfl (one_of HT_.out (by kernel_rfl)) (by decide) (fun K hK => ?_)
  refine goes_ Tryz.func83 (by kernel_rfl) rfl #[.pointer (some ⟨P, 0, none⟩)] (by (try simp only [Array.map_toArray, List.map_toArray, List.map_cons, List.map_nil]); rfl) rfl rfl (by (try simp only [List.map_toArray, List.map_cons, List.map_nil]); first | done | rfl) ?_
  refine (kinds_calls P w6).mono ?_
  rintro e w7 ⟨rfl, hq, hmm, hb⟩
  have HQ7 := Sd.mk hq
  have hlk : (Instr.lookup 128 (.map (some (w6.heap.size + 1))) (.string ⟨#[111, 120, 105, 100, 101, 115]⟩) false).run Tryz.prog w7 = .ok (.func (.func 115) #[] #[.pointer (some ⟨w6.heap.size, 0, none⟩)]) w7 := run_look w7 (w6.heap.size + 1) w6.heap.size 0 (by decide) hmm
  clear hq hmm
  refine ⟨_, rfl, ?_⟩
  have HX7 := Sd.mk (blk_below HX6.out hb)
  have HP7 := Sd.mk (blk_below HP6.out hb)
  have HB7 := Sd.mk (below_then HB6.out HB6.out.size hb)
  have hh := blk_below hHeld hb
  clear hb hHeld HX6 HP6 HB6
  generalize w6.heap.size = Q at HQ7 hlk ⊢
  refine hK.out _ _ hh (fun hHeld => ?_)
  clear hh
  clear hK K
  refine norm_ (a' := ?_) ?_ ?_
  rotate_left
  · show Act.put _ (some 46) _ = _
    simp only [Act.put, List.setIfInBounds_toArray, List.set_cons_zero, List.set_cons_succ, i64_w, i32_w]
    rfl
  refine one_ (i := 5) (N := some 50) #[true, true, true, true, true, true, true, true, false] rfl rfl (one_of HT_.out (by kernel_rfl)) (by decide) (fun K hK => ?_)
  refine value_ (w1 := w7) (v := .func (.func 115) #[] #[.pointer (some ⟨Q, 0, none⟩)]) (by rfl) rfl (by go_simp) ?_
  refine hK.out _ _ hHeld (fun hHeld => ?_)
  clear hK K
  refine norm_ (a' := ?_) ?_ ?_
  rotate_left
  · show Act.put _ (some 50) _ = _
    simp only [Act.put, List.setIfInBounds_toArray, List.set_cons_zero, List.set_cons_succ, i64_w, i32_w]
    rfl
  refine one_ (i := 8) (N := some 53) #[true, true, true, true, true, true, true, true, true] rfl rfl (one_of HT_.out (by kernel_rfl)) (by decide) (fun K hK => ?_)
  refine goesV_ 115 #[.pointer (some ⟨Q, 0, none⟩)] (enters_of Tryz.func115 (by kernel_rfl) rfl) #[.slice (some ⟨L, 1, none⟩) 1 1] (by rfl) rfl rfl (by rfl) (by (try simp only [List.map_toArray, List.map_cons, List.map_nil]); first | done | rfl) ?_
  have HL7 := Sd.mk hHeld
  refine (oxides_ok Q P o m s p a b n L 1 1 [⟨#[115, 105]⟩] (by decide) w7 HQ7.out HP7.out (C_tail2 HL7.out)).mono ?_
  rintro e w8 ⟨rfl, v, w1x, hw, _, hb⟩
  have hP8 : w8.heap[P]? = some (.cells #[v, m, s, p, a, b, n] 29 (0, 0)) := hw ▸ blk_put (blk_below HP7.out hb) 0 _ rfl
  have hk8 : Kept P w7 w8 := hw ▸ (Kept.of hb (Nat.le_of_lt (blk_lt HP7.out))).set _ _
  refine ⟨_, rfl, ?_⟩
  have HP8 := Sd.mk hP8
  have HK8 := Sd.mk ((Kept.of HB7.out (Nat.le_of_lt HPL.out)).trans hk8)
  have HX8 := Sd.mk (hk8.obj HX7.out (Nat.ne_of_gt HPL.out))
  have hh := hk8.obj hHeld HLP.out
  clear hw hb hP8 hk8 hHeld HP7 HB7 HX7 HQ7 HL7 hlk
  refine hK.out _ _ hh (fun hHeld => ?_)
  clear hh
  clear hK K
  refine norm_ (a' := ?_) ?_ ?_
  rotate_left
  · show Act.put _ (some 53) _ = _
    simp only [Act.put, List.setIfInBounds_toArray, List.set_cons_zero, List.set_cons_succ, i64_w, i32_w]
    rfl
  refine done_ (done_of HT_.out (by kernel_rfl)) ?_
  clear HT_ HW_ hHeld
  have e0 : w8.cell? ⟨w.heap.size, 0, none⟩ = some (.bool false) := (blk_cell HX8.out 0).trans rfl
  have f0 := blk_frozen HX8.out 0
  go_wp2
  refine leaves_cons (f := 78) (args := #[.pointer (some ⟨w.heap.size, 0, none⟩)]) (by simp) (by simp [go_sem]) ?_
  refine (door_ok _ _).mono ?_
  rintro e u' w9 ⟨rfl, rfl, hw⟩
  have hX9 : w9.heap[w.heap.size]? = some (.cells #[.bool true] 4 (0, 0)) := hw ▸ blk_put HX8.out 0 _ rfl
  have e9 : w9.cell? ⟨w.heap.size, 0, none⟩ = some (.bool true) := (blk_cell hX9 0).trans rfl
  have hP9 : w9.heap[P]? = some (.cells #[v, m, s, p, a, b, n] 29 (0, 0)) := hw ▸ blk_far HP8.out (Nat.ne_of_lt HPL.out) _
  have hK9 : Kept P w w9 := hw ▸ HK8.out.far (Nat.le_refl _) (Nat.le_of_lt HPL.out) 0 _
  refine ⟨.tuple #[.int .i64 0, .bool true], ?_, v, rfl, hK9, hP9⟩
  simp [results, Tryz.results32, e9, go_sem]
theorem read_wanted (P : Nat) (o m s p a b n : Value) (mx : Int) (w : World) (hm : w.cell? ⟨0, 0, none⟩ = some (.int .i64 mx)) (hP : w.heap[P]? = some (.cells #[o, m, s, p, a, b, n] 29 (0, 0))) :
    Calls Tryz.prog 32 #[.pointer (some ⟨P, 0, none⟩), .string ⟨#[119, 97, 110, 116, 101, 100, 32, 49]⟩, .int .i64 (0)] w fun e w' => e = .returned (.tuple #[.int .i64 1, .bool true]) ∧ Kept P w w' ∧ w'.heap[P]? = some (.cells #[o, m, s, p, a, b, .int .i64 ((1 : Nat) : Int)] 29 (0, 0)) := by
  have hmf := fun (fn : Fn) (first cap : Array Value) (W : World) => show (Instr.makeFunc fn first cap).run Tryz.prog W = .ok (.func fn first cap) W from rfl
  have HX := Sd.mk (blk_new w (.cells #[.bool false] 4))
  have HB := Sd.mk (below_alloc (Below.refl w.heap.size w) (.cells #[.bool false] 4))
  have HP := Sd.mk (blk_alloc hP (.cells #[.bool false] 4))
  have HM := Sd.mk (mem_cell HB.out hm)
  have HPL := Sd.mk (blk_lt hP)
  clear hm hP
  go_enter_defers Tryz.func32, Tryz.ntmps32
  go_upto_region 4 with (first
    | (go_at_call 31; refine (sh_strings_Split ⟨#[119, 97, 110, 116, 101, 100, 32, 49]⟩ ⟨#[32]⟩ mx _ (by decide) HM.out (by decide)).mono ?_; rw [show Lib.splitB ⟨#[32]⟩ 0 (Lib.countB ⟨#[119, 97, 110, 116, 101, 100, 32, 49]⟩ ⟨#[32]⟩) ⟨#[119, 97, 110, 116, 101, 100, 32, 49]⟩ = [⟨#[119, 97, 110, 116, 101, 100]⟩, ⟨#[49]⟩] from by kernel_rfl, show Lib.countB ⟨#[119, 97, 110, 116, 101, 100, 32, 49]⟩ ⟨#[32]⟩ = 1 from by kernel_rfl]; rintro e w1 ⟨rfl, hw1⟩; have HLP := Sd.mk (show (w.alloc (.cells #[.bool false] 4)).heap.size ≠ P by have := HPL.out; rw [World.size_alloc]; omega); have HL := Sd.mk (show w1.heap[(w.alloc (.cells #[.bool false] 4)).heap.size]? = some (.cells #[.string ⟨#[119, 97, 110, 116, 101, 100]⟩, .string ⟨#[49]⟩] 9 (0, 0)) from hw1 ▸ blk_new _ _); have hb1 : Below (w.alloc (.cells #[.bool false] 4)).heap.size (w.alloc (.cells #[.bool false] 4)) w1 := hw1 ▸ below_alloc (Below.refl _ _) _; have HB1 := Sd.mk (below_then HB.out HB.out.size hb1); have HX1 := Sd.mk (blk_below HX.out hb1); have HP1 := Sd.mk (blk_below HP.out hb1); clear hb1 hw1; generalize (w.alloc (.cells #[.bool false] 4)).heap.size = L at HL HLP ⊢)
    | (go_at_call 80; refine (slices_Contains_string_string.calls 20 (some ⟨L, 0, none⟩) 2 [⟨#[119, 97, 110, 116, 101, 100]⟩, ⟨#[49]⟩] ⟨#[]⟩ false _ (C_strs [⟨#[119, 97, 110, 116, 101, 100]⟩, ⟨#[49]⟩] HL.out (by decide)) (by decide) (by kernel_rfl)).mono ?_; rintro e w2 ⟨rfl, hd⟩; have HL2 := Sd.mk (blk_below HL.out hd.below); have HB2 := Sd.mk (below_then HB1.out HB1.out.size hd.below); have HX2 := Sd.mk (blk_below HX1.out hd.below); have HP2 := Sd.mk (blk_below HP1.out hd.below); clear hd HL HB1 HX1 HP1)
    | (go_at_call 79; refine (demand_ok _).mono ?_; rintro e w' ⟨rfl, hw⟩; subst w'))
  clear HX HB HP
  refine start_ (n := 7) (S := fun w' => w'.heap[L]? = some (.cells #[.string ⟨#[119, 97, 110, 116, 101, 100]⟩, .string ⟨#[49]⟩] 9 (0, 0))) (ds := []) #[false, false, false, false, false, false, false] (by kernel_rfl) rfl rfl (blk_drew HL2.out) (fun hHeld => ?_)
  refine with_tabW rd4_tab rd4_bits (fun HT_ HW_ => ?_)
  have HX3 := Sd.mk (blk_drew HX2.out)
  have HP3 := Sd.mk (blk_drew HP2.out)
  have HB3 := Sd.mk (below_drew1 HB2.out)
  clear HX2 HP2 HB2 HL2
  generalize w2.drew = w3 at HX3 HP3 HB3 hHeld ⊢
  refine pure_ (i := 2) (N := some 18) (v := ?_) (a' := ?_) #[false, false, true, false, false, false, false] rfl rfl (any_of HT_.out (by kernel_rfl)) (fun _ _ _ h => leaves_put (res32 _ (by decide) (by decide)) _ _ _ h) (Or.inl ⟨by rfl, ?_⟩) ?_ ?_
  rotate_left
  · intro w'
    go_simp
    with_reducible rfl
  rotate_left
  · simp only [Act.put, List.setIfInBounds_toArray, List.set_cons_zero, List.set_cons_succ, i64_w, i32_w]
    rfl
  refine pure_ (i := 3) (N := some 19) (v := ?_) (a' := ?_) #[false, false, true, true, false, false, false] rfl rfl (any_of HT_.out (by kernel_rfl)) (fun _ _ _ h => leaves_put (res32 _ (by decide) (by decide)) _ _ _ h) (Or.inl ⟨by rfl, ?_⟩) ?_ ?_
  rotate_left
  · intro w'
    go_simp
    with_reducible rfl
  rotate_left
  · simp only [Act.put, List.setIfInBounds_toArray, List.set_cons_zero, List.set_cons_succ, i64_w, i32_w]
    rfl
  refine take_ (i := 4) (N := some 20) (v := ?_) (a' := ?_) #[false, false, true, true, true, false, false] rfl rfl (take_ofW HT_.out HW_.out (by kernel_rfl)) (fun _ _ _ h => leaves_put (res32 _ (by decide) (by decide)) _ _ _ h) (Or.inl ⟨by rfl, ?_⟩) hHeld ?_ ?_
  rotate_left
  · rintro w' hx
    have s0 : w'.cell? ⟨L, 0, none⟩ = some (.string ⟨#[119, 97, 110, 116, 101, 100]⟩) := (blk_cell hx 0).trans rfl
    go_simp
    with_reducible rfl
  rotate_left
  · simp only [Act.put, List.setIfInBounds_toArray, List.set_cons_zero, List.set_cons_succ, i64_w, i32_w]
    rfl
  refine one_ (i := 0) (N := some 16) #[true, false, true, true, true, false, false] rfl rfl (one_of HT_.out (by kernel_rfl)) (by decide) (fun K hK => ?_)
  refine goes_ Tryz.func82 (by kernel_rfl) rfl #[] (by (try simp only [Array.map_toArray, List.map_toArray, List.map_cons, List.map_nil]); rfl) rfl rfl (by (try simp only [List.map_toArray, List.map_cons, List.map_nil]); first | done | rfl) ?_
  refine (orderAll_calls w3).mono ?_
  rintro e w4 ⟨g5, rfl, ho, _, hb⟩
  have HO := Sd.mk ho
  clear ho
  refine ⟨_, rfl, ?_⟩
  have HX4 := Sd.mk (blk_below HX3.out hb)
  have HP4 := Sd.mk (blk_below HP3.out hb)
  have HB4 := Sd.mk (below_then HB3.out HB3.out.size hb)
  have hh := blk_below hHeld hb
  clear hb hHeld HX3 HP3 HB3
  refine hK.out _ _ hh (fun hHeld => ?_)
  clear hh
  clear hK K
  refine norm_ (a' := ?_) ?_ ?_
  rotate_left
  · show Act.put _ (some 16) _ = _
    simp only [Act.put, List.setIfInBounds_toArray, List.set_cons_zero, List.set_cons_succ, i64_w, i32_w]
    rfl
  refine pure_ (i := 1) (N := some 17) (v := ?_) (a' := ?_) #[true, true, true, true, true, false, false] rfl rfl (any_of HT_.out (by kernel_rfl)) (fun _ _ _ h => leaves_put (res32 _ (by decide) (by decide)) _ _ _ h) (Or.inl ⟨by rfl, ?_⟩) ?_ ?_
  rotate_left
  · intro w'
    go_simp
    with_reducible rfl
  rotate_left
  · simp only [Act.put, List.setIfInBounds_toArray, List.set_cons_zero, List.set_cons_succ, i64_w, i32_w]
    rfl
  refine one_ (i := 5) (N := some 21) #[true, true, true, true, true, true, false] rfl rfl (one_of HT_.out (by kernel_rfl)) (by decide) (fun K hK => ?_)
  refine goes_ Tryz.func81 (by kernel_rfl) rfl #[.slice (some ⟨g5, 0, none⟩) 6 6, .string ⟨#[119, 97, 110, 116, 101, 100]⟩] (by (try simp only [Array.map_toArray, List.map_toArray, List.map_cons, List.map_nil]); rfl) rfl rfl (by (try simp only [List.map_toArray, List.map_cons, List.map_nil]); first | done | rfl) ?_
  refine (slices_Index_string_string.calls 20 (some ⟨g5, 0, none⟩) 6 ordL ⟨#[119, 97, 110, 116, 101, 100]⟩ 1 w4 (C_strs ordL HO.out (by decide)) (by decide) (by kernel_rfl)).mono ?_
  rintro e w5 ⟨rfl, hd⟩
  have hb := hd.below
  clear hd HO
  refine ⟨_, rfl, ?_⟩
  have HX5 := Sd.mk (blk_below HX4.out hb)
  have HP5 := Sd.mk (blk_below HP4.out hb)
  have HB5 := Sd.mk (below_then HB4.out HB4.out.size hb)
  have hh := blk_below hHeld hb
  clear hb hHeld HX4 HP4 HB4
  refine hK.out _ _ hh (fun hHeld => ?_)
  clear hh
  clear hK K
  refine norm_ (a' := ?_) ?_ ?_
  rotate_left
  · show Act.put _ (some 21) _ = _
    simp only [Act.put, List.setIfInBounds_toArray, List.set_cons_zero, List.set_cons_succ, i64_w, i32_w]
    rfl
  refine one_ (i := 6) (N := some 6) #[true, true, true, true, true, true, true] rfl rfl (one_of HT_.out (by kernel_rfl)) (by decide) (fun K hK => ?_)
  go_simp
  refine hK.out _ _ hHeld (fun hHeld => ?_)
  clear hK K
  refine done_ (done_of HT_.out (by kernel_rfl)) ?_
  clear HT_ HW_
  go_upto_region 6 with (go_at_call 79; refine (demand_ok _).mono ?_; rintro e w' ⟨rfl, hw⟩; subst w')
  have HH5 := Sd.mk hHeld
  clear hHeld
  refine start_ (n := 9) (S := fun w' => w'.heap[L]? = some (.cells #[.string ⟨#[119, 97, 110, 116, 101, 100]⟩, .string ⟨#[49]⟩] 9 (0, 0))) (ds := []) #[false, false, false, false, false, false, false, false, false] (by kernel_rfl) rfl rfl (blk_drew HH5.out) (fun hHeld => ?_)
  refine with_tabW rd6_tab rd6_bits (fun HT_ HW_ => ?_)
  have HX6 := Sd.mk (blk_drew HX5.out)
  have HP6 := Sd.mk (blk_drew HP5.out)
  have HB6 := Sd.mk (below_drew1 HB5.out)
  clear HX5 HP5 HB5 HH5
  generalize w5.drew = w6 at HX6 HP6 HB6 hHeld ⊢
  refine pure_ (i := 0) (N := some 45) (v := ?_) (a' := ?_) #[true, false, false, false, false, false, false, false, false] rfl rfl (any_of HT_.out (by kernel_rfl)) (fun _ _ _ h => leaves_put (res32 _ (by decide) (by decide)) _ _ _ h) (Or.inl ⟨by rfl, ?_⟩) ?_ ?_
  rotate_left
  · intro w'
    go_simp
    with_reducible rfl
  rotate_left
  · simp only [Act.put, List.setIfInBounds_toArray, List.set_cons_zero, List.set_cons_succ, i64_w, i32_w]
    rfl
  refine pure_ (i := 2) (N := some 47) (v := ?_) (a' := ?_) #[true, false, true, false, false, false, false, false, false] rfl rfl (any_of HT_.out (by kernel_rfl)) (fun _ _ _ h => leaves_put (res32 _ (by decide) (by decide)) _ _ _ h) (Or.inl ⟨by rfl, ?_⟩) ?_ ?_
  rotate_left
  · intro w'
    go_simp
    with_reducible rfl
  rotate_left
  · simp only [Act.put, List.setIfInBounds_toArray, List.set_cons_zero, List.set_cons_succ, i64_w, i32_w]
    rfl
  refine pure_ (i := 3) (N := some 48) (v := ?_) (a' := ?_) #[true, false, true, true, false, false, false, false, false] rfl rfl (any_of HT_.out (by kernel_rfl)) (fun _ _ _ h => leaves_put (res32 _ (by decide) (by decide)) _ _ _ h) (Or.inl ⟨by rfl, ?_⟩) ?_ ?_
  rotate_left
  · intro w'
    go_simp
    with_reducible rfl
  rotate_left
  · simp only [Act.put, List.setIfInBounds_toArray, List.set_cons_zero, List.set_cons_succ, i64_w, i32_w]
    rfl
  refine take_ (i := 4) (N := some 49) (v := ?_) (a' := ?_) #[true, false, true, true, true, false, false, false, false] rfl rfl (take_ofW HT_.out HW_.out (by kernel_rfl)) (fun _ _ _ h => leaves_put (res32 _ (by decide) (by decide)) _ _ _ h) (Or.inl ⟨by rfl, ?_⟩) hHeld ?_ ?_
  rotate_left
  · rintro w' hx
    have s0 : w'.cell? ⟨L, 0, none⟩ = some (.string ⟨#[119, 97, 110, 116, 101, 100]⟩) := (blk_cell hx 0).trans rfl
    go_simp
    with_reducible rfl
  rotate_left
  · simp only [Act.put, List.setIfInBounds_toArray, List.set_cons_zero, List.set_cons_succ, i64_w, i32_w]
    rfl
  refine pure_ (i := 6) (N := some 51) (v := ?_) (a' := ?_) #[true, false, true, true, true, false, true, false, false] rfl rfl (any_of HT_.out (by kernel_rfl)) (fun _ _ _ h => leaves_put (res32 _ (by decide) (by decide)) _ _ _ h) (Or.inl ⟨by rfl, ?_⟩) ?_ ?_
  rotate_left
  · intro w'
    go_simp
    with_reducible rfl
  rotate_left
  · simp only [Act.put, List.setIfInBounds_toArray, List.set_cons_zero, List.set_cons_succ, i64_w, i32_w]
    rfl
  refine pure_ (i := 7) (N := some 52) (v := ?_) (a' := ?_) #[true, false, true, true, true, false, true, true, false] rfl rfl (any_of HT_.out (by kernel_rfl)) (fun _ _ _ h => leaves_put (res32 _ (by decide) (by decide)) _ _ _ h) (Or.inl ⟨by rfl, ?_⟩) ?_ ?_
  rotate_left
  · intro w'
    go_simp
    with_reducible rfl
  rotate_left
  · simp only [Act.put, List.setIfInBounds_toArray, List.set_cons_zero, List.set_cons_succ, i64_w, i32_w]
    rfl
  refine one_ (i := 1) (N := some 46) #[true, true, true, true, true, false, true, true, false] rfl rfl (one_of HT_.out (by kernel_rfl)) (by decide) (fun K hK => ?_)
  refine goes_ Tryz.func83 (by kernel_rfl) rfl #[.pointer (some ⟨P, 0, none⟩)] (by (try simp only [Array.map_toArray, List.map_toArray, List.map_cons, List.map_nil]); rfl) rfl rfl (by (try simp only [List.map_toArray, List.map_cons, List.map_nil]); first | done | rfl) ?_
  refine (kinds_calls P w6).mono ?_
  rintro e w7 ⟨rfl, hq, hmm, hb⟩
  have HQ7 := Sd.mk hq
  have hlk : (Instr.lookup 128 (.map (some (w6.heap.size + 1))) (.string ⟨#[119, 97, 110, 116, 101, 100]⟩) false).run Tryz.prog w7 = .ok (.func (.func 117) #[] #[.pointer (some ⟨w6.heap.size, 0, none⟩)]) w7 := run_look w7 (w6.heap.size + 1) w6.heap.size 1 (by decide) hmm
  clear hq hmm
  refine ⟨_, rfl, ?_⟩
  have HX7 := Sd.mk (blk_below HX6.out hb)
  have HP7 := Sd.mk (blk_below HP6.out hb)
  have HB7 := Sd.mk (below_then HB6.out HB6.out.size hb)
  have hh := blk_below hHeld hb
  clear hb hHeld HX6 HP6 HB6
  generalize w6.heap.size = Q at HQ7 hlk ⊢
  refine hK.out _ _ hh (fun hHeld => ?_)
  clear hh
  clear hK K
  refine norm_ (a' := ?_) ?_ ?_
  rotate_left
  · show Act.put _ (some 46) _ = _
    simp only [Act.put, List.setIfInBounds_toArray, List.set_cons_zero, List.set_cons_succ, i64_w, i32_w]
    rfl
  refine one_ (i := 5) (N := some 50) #[true, true, true, true, true, true, true, true, false] rfl rfl (one_of HT_.out (by kernel_rfl)) (by decide) (fun K hK => ?_)
  refine value_ (w1 := w7) (v := .func (.func 117) #[] #[.pointer (some ⟨Q, 0, none⟩)]) (by rfl) rfl (by go_simp) ?_
  refine hK.out _ _ hHeld (fun hHeld => ?_)
  clear hK K
  refine norm_ (a' := ?_) ?_ ?_
  rotate_left
  · show Act.put _ (some 50) _ = _
    simp only [Act.put, List.setIfInBounds_toArray, List.set_cons_zero, List.set_cons_succ, i64_w, i32_w]
    rfl
  refine one_ (i := 8) (N := some 53) #[true, true, true, true, true, true, true, true, true] rfl rfl (one_of HT_.out (by kernel_rfl)) (by decide) (fun K hK => ?_)
  refine goesV_ 117 #[.pointer (some ⟨Q, 0, none⟩)] (enters_of Tryz.func117 (by kernel_rfl) rfl) #[.slice (some ⟨L, 1, none⟩) 1 1] (by rfl) rfl rfl (by rfl) (by (try simp only [List.map_toArray, List.map_cons, List.map_nil]); first | done | rfl) ?_
  have HL7 := Sd.mk hHeld
  refine (wanted_ok Q P o m s p a b n L 1 1 ⟨#[49]⟩ 1 num1 w7 HQ7.out HP7.out (C_tail2 HL7.out)).mono ?_
  rintro e w8 ⟨rfl, w1x, hw, hb⟩
  have hP8 : w8.heap[P]? = some (.cells #[o, m, s, p, a, b, .int .i64 ((1 : Nat) : Int)] 29 (0, 0)) := hw ▸ blk_put (blk_below HP7.out hb) 6 _ rfl
  have hk8 : Kept P w7 w8 := hw ▸ (Kept.of hb (Nat.le_of_lt (blk_lt HP7.out))).set _ _
  refine ⟨_, rfl, ?_⟩
  have HP8 := Sd.mk hP8
  have HK8 := Sd.mk ((Kept.of HB7.out (Nat.le_of_lt HPL.out)).trans hk8)
  have HX8 := Sd.mk (hk8.obj HX7.out (Nat.ne_of_gt HPL.out))
  have hh := hk8.obj hHeld HLP.out
  clear hw hb hP8 hk8 hHeld HP7 HB7 HX7 HQ7 HL7 hlk
  refine hK.out _ _ hh (fun hHeld => ?_)
  clear hh
  clear hK K
  refine norm_ (a' := ?_) ?_ ?_
  rotate_left
  · show Act.put _ (some 53) _ = _
    simp only [Act.put, List.setIfInBounds_toArray, List.set_cons_zero, List.set_cons_succ, i64_w, i32_w]
    rfl
  refine done_ (done_of HT_.out (by kernel_rfl)) ?_
  clear HT_ HW_ hHeld
  have e0 : w8.cell? ⟨w.heap.size, 0, none⟩ = some (.bool false) := (blk_cell HX8.out 0).trans rfl
  have f0 := blk_frozen HX8.out 0
  go_wp2
  refine leaves_cons (f := 78) (args := #[.pointer (some ⟨w.heap.size, 0, none⟩)]) (by simp) (by simp [go_sem]) ?_
  refine (door_ok _ _).mono ?_
  rintro e u' w9 ⟨rfl, rfl, hw⟩
  have hX9 : w9.heap[w.heap.size]? = some (.cells #[.bool true] 4 (0, 0)) := hw ▸ blk_put HX8.out 0 _ rfl
  have e9 : w9.cell? ⟨w.heap.size, 0, none⟩ = some (.bool true) := (blk_cell hX9 0).trans rfl
  have hP9 : w9.heap[P]? = some (.cells #[o, m, s, p, a, b, .int .i64 ((1 : Nat) : Int)] 29 (0, 0)) := hw ▸ blk_far HP8.out (Nat.ne_of_lt HPL.out) _
  have hK9 : Kept P w w9 := hw ▸ HK8.out.far (Nat.le_refl _) (Nat.le_of_lt HPL.out) 0 _
  refine ⟨.tuple #[.int .i64 1, .bool true], ?_, rfl, hK9, hP9⟩
  simp [results, Tryz.results32, e9, go_sem]
theorem read_redox (P : Nat) (o m s p a b n : Value) (mx : Int) (w : World) (hm : w.cell? ⟨0, 0, none⟩ = some (.int .i64 mx)) (hP : w.heap[P]? = some (.cells #[o, m, s, p, a, b, n] 29 (0, 0))) :
    Calls Tryz.prog 32 #[.pointer (some ⟨P, 0, none⟩), .string ⟨#[114, 101, 100, 111, 120, 32, 48, 32, 49]⟩, .int .i64 (1)] w fun e w' => e = .returned (.tuple #[.int .i64 2, .bool true]) ∧ Kept P w w' ∧ w'.heap[P]? = some (.cells #[o, m, s, p, .int .i64 ((0 : Nat) : Int), .int .i64 ((1 : Nat) : Int), n] 29 (0, 0)) := by
  have hmf := fun (fn : Fn) (first cap : Array Value) (W : World) => show (Instr.makeFunc fn first cap).run Tryz.prog W = .ok (.func fn first cap) W from rfl
  have HX := Sd.mk (blk_new w (.cells #[.bool false] 4))
  have HB := Sd.mk (below_alloc (Below.refl w.heap.size w) (.cells #[.bool false] 4))
  have HP := Sd.mk (blk_alloc hP (.cells #[.bool false] 4))
  have HM := Sd.mk (mem_cell HB.out hm)
  have HPL := Sd.mk (blk_lt hP)
  clear hm hP
  go_enter_defers Tryz.func32, Tryz.ntmps32
  go_upto_region 4 with (first
    | (go_at_call 31; refine (sh_strings_Split ⟨#[114, 101, 100, 111, 120, 32, 48, 32, 49]⟩ ⟨#[32]⟩ mx _ (by decide) HM.out (by decide)).mono ?_; rw [show Lib.splitB ⟨#[32]⟩ 0 (Lib.countB ⟨#[114, 101, 100, 111, 120, 32, 48, 32, 49]⟩ ⟨#[32]⟩) ⟨#[114, 101, 100, 111, 120, 32, 48, 32, 49]⟩ = [⟨#[114, 101, 100, 111, 120]⟩, ⟨#[48]⟩, ⟨#[49]⟩] from by kernel_rfl, show Lib.countB ⟨#[114, 101, 100, 111, 120, 32, 48, 32, 49]⟩ ⟨#[32]⟩ = 2 from by kernel_rfl]; rintro e w1 ⟨rfl, hw1⟩; have HLP := Sd.mk (show (w.alloc (.cells #[.bool false] 4)).heap.size ≠ P by have := HPL.out; rw [World.size_alloc]; omega); have HL := Sd.mk (show w1.heap[(w.alloc (.cells #[.bool false] 4)).heap.size]? = some (.cells #[.string ⟨#[114, 101, 100, 111, 120]⟩, .string ⟨#[48]⟩, .string ⟨#[49]⟩] 9 (0, 0)) from hw1 ▸ blk_new _ _); have hb1 : Below (w.alloc (.cells #[.bool false] 4)).heap.size (w.alloc (.cells #[.bool false] 4)) w1 := hw1 ▸ below_alloc (Below.refl _ _) _; have HB1 := Sd.mk (below_then HB.out HB.out.size hb1); have HX1 := Sd.mk (blk_below HX.out hb1); have HP1 := Sd.mk (blk_below HP.out hb1); clear hb1 hw1; generalize (w.alloc (.cells #[.bool false] 4)).heap.size = L at HL HLP ⊢)
    | (go_at_call 80; refine (slices_Contains_string_string.calls 20 (some ⟨L, 0, none⟩) 3 [⟨#[114, 101, 100, 111, 120]⟩, ⟨#[48]⟩, ⟨#[49]⟩] ⟨#[]⟩ false _ (C_strs [⟨#[114, 101, 100, 111, 120]⟩, ⟨#[48]⟩, ⟨#[49]⟩] HL.out (by decide)) (by decide) (by kernel_rfl)).mono ?_; rintro e w2 ⟨rfl, hd⟩; have HL2 := Sd.mk (blk_below HL.out hd.below); have HB2 := Sd.mk (below_then HB1.out HB1.out.size hd.below); have HX2 := Sd.mk (blk_below HX1.out hd.below); have HP2 := Sd.mk (blk_below HP1.out hd.below); clear hd HL HB1 HX1 HP1)
    | (go_at_call 79; refine (demand_ok _).mono ?_; rintro e w' ⟨rfl, hw⟩; subst w'))
  clear HX HB HP
  refine start_ (n := 7) (S := fun w' => w'.heap[L]? = some (.cells #[.string ⟨#[114, 101, 100, 111, 120]⟩, .string ⟨#[48]⟩, .string ⟨#[49]⟩] 9 (0, 0))) (ds := []) #[false, false, false, false, false, false, false] (by kernel_rfl) rfl rfl (blk_drew HL2.out) (fun hHeld => ?_)
  refine with_tabW rd4_tab rd4_bits (fun HT_ HW_ => ?_)
  have HX3 := Sd.mk (blk_drew HX2.out)
  have HP3 := Sd.mk (blk_drew HP2.out)
  have HB3 := Sd.mk (below_drew1 HB2.out)
  clear HX2 HP2 HB2 HL2
  generalize w2.drew = w3 at HX3 HP3 HB3 hHeld ⊢
  refine pure_ (i := 2) (N := some 18) (v := ?_) (a' := ?_) #[false, false, true, false, false, false, false] rfl rfl (any_of HT_.out (by kernel_rfl)) (fun _ _ _ h => leaves_put (res32 _ (by decide) (by decide)) _ _ _ h) (Or.inl ⟨by rfl, ?_⟩) ?_ ?_
  rotate_left
  · intro w'
    go_simp
    with_reducible rfl
  rotate_left
  · simp only [Act.put, List.setIfInBounds_toArray, List.set_cons_zero, List.set_cons_succ, i64_w, i32_w]
    rfl
  refine pure_ (i := 3) (N := some 19) (v := ?_) (a' := ?_) #[false, false, true, true, false, false, false] rfl rfl (any_of HT_.out (by kernel_rfl)) (fun _ _ _ h => leaves_put (res32 _ (by decide) (by decide)) _ _ _ h) (Or.inl ⟨by rfl, ?_⟩) ?_ ?_
  rotate_left
  · intro w'
    go_simp
    with_reducible rfl
  rotate_left
  · simp only [Act.put, List.setIfInBounds_toArray, List.set_cons_zero, List.set_cons_succ, i64_w, i32_w]
    rfl
  refine take_ (i := 4) (N := some 20) (v := ?_) (a' := ?_) #[false, false, true, true, true, false, false] rfl rfl (take_ofW HT_.out HW_.out (by kernel_rfl)) (fun _ _ _ h => leaves_put (res32 _ (by decide) (by decide)) _ _ _ h) (Or.inl ⟨by rfl, ?_⟩) hHeld ?_ ?_
  rotate_left
  · rintro w' hx
    have s0 : w'.cell? ⟨L, 0, none⟩ = some (.string ⟨#[114, 101, 100, 111, 120]⟩) := (blk_cell hx 0).trans rfl
    go_simp
    with_reducible rfl
  rotate_left
  · simp only [Act.put, List.setIfInBounds_toArray, List.set_cons_zero, List.set_cons_succ, i64_w, i32_w]
    rfl
  refine one_ (i := 0) (N := some 16) #[true, false, true, true, true, false, false] rfl rfl (one_of HT_.out (by kernel_rfl)) (by decide) (fun K hK => ?_)
  refine goes_ Tryz.func82 (by kernel_rfl) rfl #[] (by (try simp only [Array.map_toArray, List.map_toArray, List.map_cons, List.map_nil]); rfl) rfl rfl (by (try simp only [List.map_toArray, List.map_cons, List.map_nil]); first | done | rfl) ?_
  refine (orderAll_calls w3).mono ?_
  rintro e w4 ⟨g5, rfl, ho, _, hb⟩
  have HO := Sd.mk ho
  clear ho
  refine ⟨_, rfl, ?_⟩
  have HX4 := Sd.mk (blk_below HX3.out hb)
  have HP4 := Sd.mk (blk_below HP3.out hb)
  have HB4 := Sd.mk (below_then HB3.out HB3.out.size hb)
  have hh := blk_below hHeld hb
  clear hb hHeld HX3 HP3 HB3
  refine hK.out _ _ hh (fun hHeld => ?_)
  clear hh
  clear hK K
  refine norm_ (a' := ?_) ?_ ?_
  rotate_left
  · show Act.put _ (some 16) _ = _
    simp only [Act.put, List.setIfInBounds_toArray, List.set_cons_zero, List.set_cons_succ, i64_w, i32_w]
    rfl
  refine pure_ (i := 1) (N := some 17) (v := ?_) (a' := ?_) #[true, true, true, true, true, false, false] rfl rfl (any_of HT_.out (by kernel_rfl)) (fun _ _ _ h => leaves_put (res32 _ (by decide) (by decide)) _ _ _ h) (Or.inl ⟨by rfl, ?_⟩) ?_ ?_
  rotate_left
  · intro w'
    go_simp
    with_reducible rfl
  rotate_left
  · simp only [Act.put, List.setIfInBounds_toArray, List.set_cons_zero, List.set_cons_succ, i64_w, i32_w]
    rfl
  refine one_ (i := 5) (N := some 21) #[true, true, true, true, true, true, false] rfl rfl (one_of HT_.out (by kernel_rfl)) (by decide) (fun K hK => ?_)
  refine goes_ Tryz.func81 (by kernel_rfl) rfl #[.slice (some ⟨g5, 0, none⟩) 6 6, .string ⟨#[114, 101, 100, 111, 120]⟩] (by (try simp only [Array.map_toArray, List.map_toArray, List.map_cons, List.map_nil]); rfl) rfl rfl (by (try simp only [List.map_toArray, List.map_cons, List.map_nil]); first | done | rfl) ?_
  refine (slices_Index_string_string.calls 20 (some ⟨g5, 0, none⟩) 6 ordL ⟨#[114, 101, 100, 111, 120]⟩ 2 w4 (C_strs ordL HO.out (by decide)) (by decide) (by kernel_rfl)).mono ?_
  rintro e w5 ⟨rfl, hd⟩
  have hb := hd.below
  clear hd HO
  refine ⟨_, rfl, ?_⟩
  have HX5 := Sd.mk (blk_below HX4.out hb)
  have HP5 := Sd.mk (blk_below HP4.out hb)
  have HB5 := Sd.mk (below_then HB4.out HB4.out.size hb)
  have hh := blk_below hHeld hb
  clear hb hHeld HX4 HP4 HB4
  refine hK.out _ _ hh (fun hHeld => ?_)
  clear hh
  clear hK K
  refine norm_ (a' := ?_) ?_ ?_
  rotate_left
  · show Act.put _ (some 21) _ = _
    simp only [Act.put, List.setIfInBounds_toArray, List.set_cons_zero, List.set_cons_succ, i64_w, i32_w]
    rfl
  refine one_ (i := 6) (N := some 6) #[true, true, true, true, true, true, true] rfl rfl (one_of HT_.out (by kernel_rfl)) (by decide) (fun K hK => ?_)
  go_simp
  refine hK.out _ _ hHeld (fun hHeld => ?_)
  clear hK K
  refine done_ (done_of HT_.out (by kernel_rfl)) ?_
  clear HT_ HW_
  go_upto_region 6 with (go_at_call 79; refine (demand_ok _).mono ?_; rintro e w' ⟨rfl, hw⟩; subst w')
  have HH5 := Sd.mk hHeld
  clear hHeld
  refine start_ (n := 9) (S := fun w' => w'.heap[L]? = some (.cells #[.string ⟨#[114, 101, 100, 111, 120]⟩, .string ⟨#[48]⟩, .string ⟨#[49]⟩] 9 (0, 0))) (ds := []) #[false, false, false, false, false, false, false, false, false] (by kernel_rfl) rfl rfl (blk_drew HH5.out) (fun hHeld => ?_)
  refine with_tabW rd6_tab rd6_bits (fun HT_ HW_ => ?_)
  have HX6 := Sd.mk (blk_drew HX5.out)
  have HP6 := Sd.mk (blk_drew HP5.out)
  have HB6 := Sd.mk (below_drew1 HB5.out)
  clear HX5 HP5 HB5 HH5
  generalize w5.drew = w6 at HX6 HP6 HB6 hHeld ⊢
  refine pure_ (i := 0) (N := some 45) (v := ?_) (a' := ?_) #[true, false, false, false, false, false, false, false, false] rfl rfl (any_of HT_.out (by kernel_rfl)) (fun _ _ _ h => leaves_put (res32 _ (by decide) (by decide)) _ _ _ h) (Or.inl ⟨by rfl, ?_⟩) ?_ ?_
  rotate_left
  · intro w'
    go_simp
    with_reducible rfl
  rotate_left
  · simp only [Act.put, List.setIfInBounds_toArray, List.set_cons_zero, List.set_cons_succ, i64_w, i32_w]
    rfl
  refine pure_ (i := 2) (N := some 47) (v := ?_) (a' := ?_) #[true, false, true, false, false, false, false, false, false] rfl rfl (any_of HT_.out (by kernel_rfl)) (fun _ _ _ h => leaves_put (res32 _ (by decide) (by decide)) _ _ _ h) (Or.inl ⟨by rfl, ?_⟩) ?_ ?_
  rotate_left
  · intro w'
    go_simp
    with_reducible rfl
  rotate_left
  · simp only [Act.put, List.setIfInBounds_toArray, List.set_cons_zero, List.set_cons_succ, i64_w, i32_w]
    rfl
  refine pure_ (i := 3) (N := some 48) (v := ?_) (a' := ?_) #[true, false, true, true, false, false, false, false, false] rfl rfl (any_of HT_.out (by kernel_rfl)) (fun _ _ _ h => leaves_put (res32 _ (by decide) (by decide)) _ _ _ h) (Or.inl ⟨by rfl, ?_⟩) ?_ ?_
  rotate_left
  · intro w'
    go_simp
    with_reducible rfl
  rotate_left
  · simp only [Act.put, List.setIfInBounds_toArray, List.set_cons_zero, List.set_cons_succ, i64_w, i32_w]
    rfl
  refine take_ (i := 4) (N := some 49) (v := ?_) (a' := ?_) #[true, false, true, true, true, false, false, false, false] rfl rfl (take_ofW HT_.out HW_.out (by kernel_rfl)) (fun _ _ _ h => leaves_put (res32 _ (by decide) (by decide)) _ _ _ h) (Or.inl ⟨by rfl, ?_⟩) hHeld ?_ ?_
  rotate_left
  · rintro w' hx
    have s0 : w'.cell? ⟨L, 0, none⟩ = some (.string ⟨#[114, 101, 100, 111, 120]⟩) := (blk_cell hx 0).trans rfl
    go_simp
    with_reducible rfl
  rotate_left
  · simp only [Act.put, List.setIfInBounds_toArray, List.set_cons_zero, List.set_cons_succ, i64_w, i32_w]
    rfl
  refine pure_ (i := 6) (N := some 51) (v := ?_) (a' := ?_) #[true, false, true, true, true, false, true, false, false] rfl rfl (any_of HT_.out (by kernel_rfl)) (fun _ _ _ h => leaves_put (res32 _ (by decide) (by decide)) _ _ _ h) (Or.inl ⟨by rfl, ?_⟩) ?_ ?_
  rotate_left
  · intro w'
    go_simp
    with_reducible rfl
  rotate_left
  · simp only [Act.put, List.setIfInBounds_toArray, List.set_cons_zero, List.set_cons_succ, i64_w, i32_w]
    rfl
  refine pure_ (i := 7) (N := some 52) (v := ?_) (a' := ?_) #[true, false, true, true, true, false, true, true, false] rfl rfl (any_of HT_.out (by kernel_rfl)) (fun _ _ _ h => leaves_put (res32 _ (by decide) (by decide)) _ _ _ h) (Or.inl ⟨by rfl, ?_⟩) ?_ ?_
  rotate_left
  · intro w'
    go_simp
    with_reducible rfl
  rotate_left
  · simp only [Act.put, List.setIfInBounds_toArray, List.set_cons_zero, List.set_cons_succ, i64_w, i32_w]
    rfl
  refine one_ (i := 1) (N := some 46) #[true, true, true, true, true, false, true, true, false] rfl rfl (one_of HT_.out (by kernel_rfl)) (by decide) (fun K hK => ?_)
  refine goes_ Tryz.func83 (by kernel_rfl) rfl #[.pointer (some ⟨P, 0, none⟩)] (by (try simp only [Array.map_toArray, List.map_toArray, List.map_cons, List.map_nil]); rfl) rfl rfl (by (try simp only [List.map_toArray, List.map_cons, List.map_nil]); first | done | rfl) ?_
  refine (kinds_calls P w6).mono ?_
  rintro e w7 ⟨rfl, hq, hmm, hb⟩
  have HQ7 := Sd.mk hq
  have hlk : (Instr.lookup 128 (.map (some (w6.heap.size + 1))) (.string ⟨#[114, 101, 100, 111, 120]⟩) false).run Tryz.prog w7 = .ok (.func (.func 119) #[] #[.pointer (some ⟨w6.heap.size, 0, none⟩)]) w7 := run_look w7 (w6.heap.size + 1) w6.heap.size 2 (by decide) hmm
  clear hq hmm
  refine ⟨_, rfl, ?_⟩
  have HX7 := Sd.mk (blk_below HX6.out hb)
  have HP7 := Sd.mk (blk_below HP6.out hb)
  have HB7 := Sd.mk (below_then HB6.out HB6.out.size hb)
  have hh := blk_below hHeld hb
  clear hb hHeld HX6 HP6 HB6
  generalize w6.heap.size = Q at HQ7 hlk ⊢
  refine hK.out _ _ hh (fun hHeld => ?_)
  clear hh
  clear hK K
  refine norm_ (a' := ?_) ?_ ?_
  rotate_left
  · show Act.put _ (some 46) _ = _
    simp only [Act.put, List.setIfInBounds_toArray, List.set_cons_zero, List.set_cons_succ, i64_w, i32_w]
    rfl
  refine one_ (i := 5) (N := some 50) #[true, true, true, true, true, true, true, true, false] rfl rfl (one_of HT_.out (by kernel_rfl)) (by decide) (fun K hK => ?_)
  refine value_ (w1 := w7) (v := .func (.func 119) #[] #[.pointer (some ⟨Q, 0, none⟩)]) (by rfl) rfl (by go_simp) ?_
  refine hK.out _ _ hHeld (fun hHeld => ?_)
  clear hK K
  refine norm_ (a' := ?_) ?_ ?_
  rotate_left
  · show Act.put _ (some 50) _ = _
    simp only [Act.put, List.setIfInBounds_toArray, List.set_cons_zero, List.set_cons_succ, i64_w, i32_w]
    rfl
  refine one_ (i := 8) (N := some 53) #[true, true, true, true, true, true, true, true, true] rfl rfl (one_of HT_.out (by kernel_rfl)) (by decide) (fun K hK => ?_)
  refine goesV_ 119 #[.pointer (some ⟨Q, 0, none⟩)] (enters_of Tryz.func119 (by kernel_rfl) rfl) #[.slice (some ⟨L, 1, none⟩) 2 2] (by rfl) rfl rfl (by rfl) (by (try simp only [List.map_toArray, List.map_cons, List.map_nil]); first | done | rfl) ?_
  have HL7 := Sd.mk hHeld
  refine (redox_ok Q P o m s p a b n L 1 2 ⟨#[48]⟩ ⟨#[49]⟩ 0 1 num0 num1 w7 HQ7.out HP7.out (C_tail3 HL7.out)).mono ?_
  rintro e w8 ⟨rfl, w1x, hw, hb⟩
  have hP8 : w8.heap[P]? = some (.cells #[o, m, s, p, .int .i64 ((0 : Nat) : Int), .int .i64 ((1 : Nat) : Int), n] 29 (0, 0)) := hw ▸ blk_put (blk_put (blk_below HP7.out hb) 4 _ rfl) 5 _ rfl
  have hk8 : Kept P w7 w8 := hw ▸ ((Kept.of hb (Nat.le_of_lt (blk_lt HP7.out))).set _ _).set _ _
  refine ⟨_, rfl, ?_⟩
  have HP8 := Sd.mk hP8
  have HK8 := Sd.mk ((Kept.of HB7.out (Nat.le_of_lt HPL.out)).trans hk8)
  have HX8 := Sd.mk (hk8.obj HX7.out (Nat.ne_of_gt HPL.out))
  have hh := hk8.obj hHeld HLP.out
  clear hw hb hP8 hk8 hHeld HP7 HB7 HX7 HQ7 HL7 hlk
  refine hK.out _ _ hh (fun hHeld => ?_)
  clear hh
  clear hK K
  refine norm_ (a' := ?_) ?_ ?_
  rotate_left
  · show Act.put _ (some 53) _ = _
    simp only [Act.put, List.setIfInBounds_toArray, List.set_cons_zero, List.set_cons_succ, i64_w, i32_w]
    rfl
  refine done_ (done_of HT_.out (by kernel_rfl)) ?_
  clear HT_ HW_ hHeld
  have e0 : w8.cell? ⟨w.heap.size, 0, none⟩ = some (.bool false) := (blk_cell HX8.out 0).trans rfl
  have f0 := blk_frozen HX8.out 0
  go_wp2
  refine leaves_cons (f := 78) (args := #[.pointer (some ⟨w.heap.size, 0, none⟩)]) (by simp) (by simp [go_sem]) ?_
  refine (door_ok _ _).mono ?_
  rintro e u' w9 ⟨rfl, rfl, hw⟩
  have hX9 : w9.heap[w.heap.size]? = some (.cells #[.bool true] 4 (0, 0)) := hw ▸ blk_put HX8.out 0 _ rfl
  have e9 : w9.cell? ⟨w.heap.size, 0, none⟩ = some (.bool true) := (blk_cell hX9 0).trans rfl
  have hP9 : w9.heap[P]? = some (.cells #[o, m, s, p, .int .i64 ((0 : Nat) : Int), .int .i64 ((1 : Nat) : Int), n] 29 (0, 0)) := hw ▸ blk_far HP8.out (Nat.ne_of_lt HPL.out) _
  have hK9 : Kept P w w9 := hw ▸ HK8.out.far (Nat.le_refl _) (Nat.le_of_lt HPL.out) 0 _
  refine ⟨.tuple #[.int .i64 2, .bool true], ?_, rfl, hK9, hP9⟩
  simp [results, Tryz.results32, e9, go_sem]
end
section
def b_Lines.f (k : Nat) (l0_0 : List ByteArray) (l0_1 : List (S50)) (l0_2 : List (S27)) (l0_3 : List (S77)) (a0_4 : Int) (a0_5 : Int) (a0_6 : Int) : Option ((List (S40)) × Int) := (b_Check.f k l0_0 l0_1 l0_2 l0_3 a0_4 a0_5 a0_6).bind fun t168 => (if t168 = 0 then ((x_lines.f l0_0 l0_1 l0_2 l0_3 a0_4 a0_5 a0_6).bind fun t169 => (some (t169, 0))) else (some (([] : List (S40)), t168)))
theorem b_Lines.calls (k : Nat) (A0_0 : Option Addr) (c0_0 : Nat) (l0_0 : List ByteArray) (A0_1 : Option Addr) (c0_1 : Nat) (l0_1 : List (S50)) (A0_2 : Option Addr) (c0_2 : Nat) (l0_2 : List (S27)) (A0_3 : Option Addr) (c0_3 : Nat) (l0_3 : List (S77)) (a0_4 : Int) (a0_5 : Int) (a0_6 : Int) (r1 : List (S40)) (r2 : Int) (w : World) (hr0_0 : Kd.C Kd.string w A0_0 l0_0.length l0_0) (hc0_0 : l0_0.length ≤ c0_0) (hr0_1 : Kd.C k50 w A0_1 l0_1.length l0_1) (hc0_1 : l0_1.length ≤ c0_1) (hr0_2 : Kd.C k27 w A0_2 l0_2.length l0_2) (hc0_2 : l0_2.length ≤ c0_2) (hr0_3 : Kd.C k77 w A0_3 l0_3.length l0_3) (hc0_3 : l0_3.length ≤ c0_3) (h : b_Lines.f k l0_0 l0_1 l0_2 l0_3 a0_4 a0_5 a0_6 = some (r1, r2)) :
  Calls Tryz.prog 8 #[.agg #[.slice A0_0 l0_0.length c0_0, .slice A0_1 l0_1.length c0_1, .slice A0_2 l0_2.length c0_2, .slice A0_3 l0_3.length c0_3, .int .i64 a0_4, .int .i64 a0_5, .int .i64 a0_6]] w fun e w' => ∃ v0_ : Value, e = .returned (.tuple #[v0_, .int .i64 r2]) ∧ Kd.R k40 40 w' w.heap.size (fun _ => True) v0_ r1 ∧ Below w.heap.size w w' := by
 have hu29 := Tryz.underlying29; have HR0_0 := Sd.mk hr0_0; have HC0_0 := Sd.mk hc0_0; clear hr0_0 hc0_0; have HR0_1 := Sd.mk hr0_1; have HC0_1 := Sd.mk hc0_1; clear hr0_1 hc0_1; have HR0_2 := Sd.mk hr0_2; have HC0_2 := Sd.mk hc0_2; clear hr0_2 hc0_2; have HR0_3 := Sd.mk hr0_3; have HC0_3 := Sd.mk hc0_3; clear hr0_3 hc0_3; have HB := Sd.mk (Below.refl w.heap.size w)
 have H : ((b_Check.f k l0_0 l0_1 l0_2 l0_3 a0_4 a0_5 a0_6).bind fun t168 => (if t168 = 0 then ((x_lines.f l0_0 l0_1 l0_2 l0_3 a0_4 a0_5 a0_6).bind fun t169 => (some (t169, 0))) else (some (([] : List (S40)), t168)))) = some (r1, r2) := h
 clear h; replace H := Option.bind_eq_some_iff.mp H; obtain ⟨t168, A20, H⟩ := H
 try dsimp only at H
 have A2 := Sd.mk A20; clear A20
 by_cases c3 : t168 = 0
 ·rw [if_pos c3] at H
  have c3b0 : (t168 == 0) = true := beq_iff_eq.mpr c3
  have c3b1 : (t168 != 0) = false := bne_eq_false_iff_eq.mpr c3
  clear c3; replace H := Option.bind_eq_some_iff.mp H; obtain ⟨t169, A40, H⟩ := H
  try dsimp only at H
  have A4 := Sd.mk A40; clear A40
  simp only [Option.some.injEq, Prod.mk.injEq] at H
  obtain ⟨rfl, rfl⟩ := H
  go_enter Tryz.func8, Tryz.ntmps8
  go_wp2_with (first | ((with_reducible refine gate_dst (N := 1) rfl ?_); refine box_event ?hg (N := 1) ?hd (cs := #[.slice A0_0 l0_0.length c0_0, .slice A0_1 l0_1.length c0_1, .slice A0_2 l0_2.length c0_2, .slice A0_3 l0_3.length c0_3, .int .i64 a0_4, .int .i64 a0_5, .int .i64 a0_6]) (t := 29) ?hr ?_; (case hd => rfl); (case hg => rfl); (case hr => exact tG); intro gb167 hg w5 hbox hb; have BK167 := Sd.mk (hbox); have GW167 := Sd.mk (bSz hg (bBl HB.out)); have GE167 := Sd.mk (bSz hg (bBl HB.out)); replace HB := Sd.mk (below_step (bBl HB.out) hb); clear hb hbox hg; obtain ⟨u6_0, u6_1, u6_2, u6_3, u6_4, u6_5, u6_6, o6_0, o6_1, o6_2, o6_3, o6_4, o6_5, o6_6⟩ := bc7 (w := w5) BK167.out) | ((with_reducible refine gate_callee (f := 13) rfl ?_); refine goesL_ (some 6) rfl rfl Tryz.func13 (by kernel_rfl) rfl #[.agg #[.slice A0_0 l0_0.length c0_0, .slice A0_1 l0_1.length c0_1, .slice A0_2 l0_2.length c0_2, .slice A0_3 l0_3.length c0_3, .int .i64 a0_4, .int .i64 a0_5, .int .i64 a0_6]] rfl tM ?_; (with_reducible refine (b_Check.calls k _ _ l0_0 _ _ l0_1 _ _ l0_2 _ _ l0_3 a0_4 a0_5 a0_6 t168 _ (cS (Kd.C_below HR0_0.out HB.out)) HC0_0.out (cS (Kd.C_below HR0_1.out HB.out)) HC0_1.out (cS (Kd.C_below HR0_2.out HB.out)) HC0_2.out (cS (Kd.C_below HR0_3.out HB.out)) HC0_3.out A2.out).mono ?_); rintro e w7 ⟨rfl, hb⟩; refine ⟨_, rfl, ?_⟩; replace BK167 := Sd.mk (blk_below (bkA BK167.out) hb); replace HB := Sd.mk (below_step (bBl HB.out) hb); (try clear hb); (try clear hb2); (try clear hk); (try clear hi); obtain ⟨u8_0, u8_1, u8_2, u8_3, u8_4, u8_5, u8_6, o8_0, o8_1, o8_2, o8_3, o8_4, o8_5, o8_6⟩ := bc7 (w := w7) BK167.out) | ((with_reducible refine gate_callee (f := 22) rfl ?_); refine goesL_ (some 11) rfl rfl Tryz.func22 (by kernel_rfl) rfl #[.agg #[.slice A0_0 l0_0.length c0_0, .slice A0_1 l0_1.length c0_1, .slice A0_2 l0_2.length c0_2, .slice A0_3 l0_3.length c0_3, .int .i64 a0_4, .int .i64 a0_5, .int .i64 a0_6]] rfl tM ?_; (with_reducible refine (x_lines.calls _ _ l0_0 _ _ l0_1 _ _ l0_2 _ _ l0_3 a0_4 a0_5 a0_6 t169 _ (cS (Kd.C_below HR0_0.out HB.out)) HC0_0.out (cS (Kd.C_below HR0_1.out HB.out)) HC0_1.out (cS (Kd.C_below HR0_2.out HB.out)) HC0_2.out (cS (Kd.C_below HR0_3.out HB.out)) HC0_3.out A4.out).mono ?_); rintro e w9 ⟨v170, rfl, ho0, hb⟩; refine ⟨_, rfl, ?_⟩; have HO171 := Sd.mk (Kd.R_lower ho0 (below_size (bBl HB.out))); replace BK167 := Sd.mk (blk_below (bkA BK167.out) hb); replace HB := Sd.mk (below_step (bBl HB.out) hb); (try clear hb); (try clear hb2); (try clear hk); (try clear hi); (try clear ho0)))
  go_ret2
  exact ⟨_, tE, by (with_reducible repeat (first | apply Kd.R_alloc | apply Kd.R_drewN | apply Kd.R_drew)); exact HO171.out, bBl HB.out⟩
 ·rw [if_neg c3] at H
  have c3b0 : (t168 == 0) = false := beq_eq_false_iff_ne.mpr c3
  have c3b1 : (t168 != 0) = true := bne_iff_ne.mpr c3
  simp only [Option.some.injEq, Prod.mk.injEq] at H
  obtain ⟨rfl, rfl⟩ := H
  go_enter Tryz.func8, Tryz.ntmps8
  go_wp2_with (first | ((with_reducible refine gate_dst (N := 1) rfl ?_); refine box_event ?hg (N := 1) ?hd (cs := #[.slice A0_0 l0_0.length c0_0, .slice A0_1 l0_1.length c0_1, .slice A0_2 l0_2.length c0_2, .slice A0_3 l0_3.length c0_3, .int .i64 a0_4, .int .i64 a0_5, .int .i64 a0_6]) (t := 29) ?hr ?_; (case hd => rfl); (case hg => rfl); (case hr => exact tG); intro gb167 hg w10 hbox hb; have BK167 := Sd.mk (hbox); have GW167 := Sd.mk (bSz hg (bBl HB.out)); have GE167 := Sd.mk (bSz hg (bBl HB.out)); replace HB := Sd.mk (below_step (bBl HB.out) hb); clear hb hbox hg; obtain ⟨u11_0, u11_1, u11_2, u11_3, u11_4, u11_5, u11_6, o11_0, o11_1, o11_2, o11_3, o11_4, o11_5, o11_6⟩ := bc7 (w := w10) BK167.out) | ((with_reducible refine gate_callee (f := 13) rfl ?_); refine goesL_ (some 6) rfl rfl Tryz.func13 (by kernel_rfl) rfl #[.agg #[.slice A0_0 l0_0.length c0_0, .slice A0_1 l0_1.length c0_1, .slice A0_2 l0_2.length c0_2, .slice A0_3 l0_3.length c0_3, .int .i64 a0_4, .int .i64 a0_5, .int .i64 a0_6]] rfl tM ?_; (with_reducible refine (b_Check.calls k _ _ l0_0 _ _ l0_1 _ _ l0_2 _ _ l0_3 a0_4 a0_5 a0_6 t168 _ (cS (Kd.C_below HR0_0.out HB.out)) HC0_0.out (cS (Kd.C_below HR0_1.out HB.out)) HC0_1.out (cS (Kd.C_below HR0_2.out HB.out)) HC0_2.out (cS (Kd.C_below HR0_3.out HB.out)) HC0_3.out A2.out).mono ?_); rintro e w12 ⟨rfl, hb⟩; refine ⟨_, rfl, ?_⟩; replace BK167 := Sd.mk (blk_below (bkA BK167.out) hb); replace HB := Sd.mk (below_step (bBl HB.out) hb); (try clear hb); (try clear hb2); (try clear hk); (try clear hi)))
  go_ret2
  exact ⟨_, tE, by first | exact Kd.R_nil _ _ _ _ _ | exact Kd.N_nil _ _ _ _ _ | exact Kd.V_nil _ _ _ _ _ | exact Kd.Q_nil _ _ _ _ _ | exact Kd.S_nil _ _ _ _ _, bBl HB.out⟩
end
end Go.Proofs.YtnmdojgfedddbaaGreatDoor.PB
