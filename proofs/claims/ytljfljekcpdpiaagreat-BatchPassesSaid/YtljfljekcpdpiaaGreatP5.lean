import Derived.Test.YtljfljekcpdpiaaGreatP4
import Derived.Shelf.Abstract
import Derived.Laws.EntriesVeiled
import Derived.Deep.RegionWith
import Derived.Deep.DeepCutAuto
set_option linter.unusedVariables false
set_option linter.unusedSimpArgs false
namespace Go.Proofs.YtljfljekcpdpiaaGreat.PB
open Go.RowKit Go.Proofs.YtljfljekcpdpiaaGreatW.PrintWords Go.Proofs.YtljfljekcpdpiaaGreatW.PrintLast Go.Proofs.YtljfljekcpdpiaaGreatW.PrintMore
attribute [local go_sem] max2_int min2_int max_two min_two
def tgOf (s : List S27) (p : List S89) (j : Nat) : S27 := if j < s.length then rd_T27 s (j : Int) else (rd_T89 p ((j - s.length : Nat) : Int)).f2
def upF (s : List S27) (p : List S89) (j : Nat) (x : S70) : Int := gTS (fun k => coefOf s p j k - (tgOf s p j).f1) x.f6 x.f6.length
def dnF (s : List S27) (p : List S89) (j : Nat) (x : S70) : Int := gTS (fun k => (tgOf s p j).f0 - coefOf s p j k) x.f6 x.f6.length
def pairL (mt : List S70) (s : List S27) (p : List S89) (j : Nat) : List S168 := [⟨mt.map (upF s p j), 0⟩, ⟨mt.map (dnF s p j), 0⟩]
def headL (mt : List S70) (s : List S27) (p : List S89) (a6 : Int) : Nat → List S168
 | 0 => [⟨mt.map (fun x => -lowM x), -1000 * a6⟩]
 | n + 1 => headL mt s p a6 n ++ pairL mt s p n
def linesV (mt : List S70) (s : List S27) (p : List S89) (a4 a5 a6 : Int) : List S168 := headL mt s p a6 (s.length + p.length) ++ [⟨mt.map (rUp a5), 0⟩, ⟨mt.map (rDn a4), 0⟩]
theorem headL_len (mt : List S70) (s : List S27) (p : List S89) (a6 : Int) : ∀ n, (headL mt s p a6 n).length = 1 + 2 * n
 | 0 => rfl
 | n + 1 => by simp only [headL, List.length_append, headL_len mt s p a6 n, pairL, List.length_cons, List.length_nil]; omega
section
variable {o : List ByteArray} {mt : List S70} {s : List S27} {p : List S89} {a4 a5 a6 : Int}
theorem mat_gok (H : BatchOk o mt s p a4 a5 a6) {i : Nat} (hi : i < mt.length) : GOk (rd_T70 mt (i : Int)).f6 := by
 have M := H.mats i hi
 refine ⟨by rw [M.len]; exact H.o12, fun j hj => ?_⟩
 have := M.con j (by rw [← M.len]; exact hj)
 omega
theorem coef_cfok (H : BatchOk o mt s p a4 a5 a6) {j : Nat} (hj : j < s.length + p.length) : CfOk (coefOf s p j) o.length := by
 refine ⟨fun i hi => ?_⟩
 unfold coefOf
 by_cases h : j < s.length
 ·rw [if_pos h]; split <;> omega
 ·rw [if_neg h]
  exact (H.pros (j - s.length) (by omega)).coef i hi
theorem tg_ok (H : BatchOk o mt s p a4 a5 a6) {j : Nat} (hj : j < s.length + p.length) : (-10000 ≤ (tgOf s p j).f0 ∧ (tgOf s p j).f0 ≤ 10000) ∧ -10000 ≤ (tgOf s p j).f1 ∧ (tgOf s p j).f1 ≤ 10000 := by
 unfold tgOf
 by_cases h : j < s.length
 ·rw [if_pos h]
  have := H.shares j h
  omega
 ·rw [if_neg h]
  have := (H.pros (j - s.length) (by omega)).target
  omega
theorem form_tg {w W : World} {j : Nat} {f : F128} (h : FormAt w W s p j f) : f.tg = tgOf s p j := by
 unfold tgOf
 by_cases hj : j < s.length
 ·obtain ⟨I, e, _⟩ := h.1 hj
  rw [if_pos hj, e]
 ·obtain ⟨P, A, c, e, _⟩ := h.2 (by omega)
  rw [if_neg hj, e]
theorem form_enters {w W : World} {j : Nat} {f : F128} (h : FormAt w W s p j f) : ∀ args w, (callFunc f.fn args).run Tryz.prog w = .ok (.enter f.fn args) w := by
 by_cases hj : j < s.length
 ·obtain ⟨I, e, _⟩ := h.1 hj
  rw [e]
  exact enters_of Tryz.func165 (by kernel_rfl) rfl
 ·obtain ⟨P, A, c, e, _⟩ := h.2 (by omega)
  rw [e]
  exact enters_of Tryz.func166 (by kernel_rfl) rfl
theorem facQ118 (H : BatchOk o mt s p a4 a5 a6) (w : World) : FacQ 139 #[] (fun x => -lowM x) mt w := by
 intro W hW i hi A c hC hc
 have h := l118_calls (rd_T70 mt (i : Int)) A c W hC hc (mat_gok H hi)
 simpa using h
theorem facQ_form (H : BatchOk o mt s p a4 a5 a6) {w W0 W1 : World} {j F : Nat} {f : F128} (hF : FormAt w W0 s p j f) (hj : j < s.length + p.length) (hb : Below w.heap.size w W0)
  (hFc : W1.heap[F]? = some (.cells #[.func (.func f.fn) #[] f.lb, .int .i64 f.tg.f0, .int .i64 f.tg.f1] 128 (0, 0))) (hb1 : Below W0.heap.size W0 W1) :
  FacQ 141 #[.pointer (some ⟨F, 0, none⟩)] (upF s p j) mt W1 ∧ FacQ 144 #[.pointer (some ⟨F, 0, none⟩)] (dnF s p j) mt W1 := by
 have T := tg_ok H hj
 have hco : ∀ i : Nat, i < mt.length → CoefQ f.fn f.lb (coefOf s p j) (rd_T70 mt (i : Int)).f6.length W0 ∧ CfOk (coefOf s p j) (rd_T70 mt (i : Int)).f6.length := by
  intro i hi
  have M := H.mats i hi
  refine ⟨hF.coef hb _ (fun hh => ?_), by rw [M.len]; exact coef_cfok H hj⟩
  have := (H.pros (j - s.length) (by omega)).len
  rw [M.len, this]
  exact Int.le_refl _
 constructor
 ·intro W hW i hi A c hC hc
  have h := l120_calls (rd_T70 mt (i : Int)) A c F f.fn f.lb (coefOf s p j) f.tg.f0 f.tg.f1 W0 W (form_enters hF) (hco i hi).1 (below_trans' hb1 hW) (blk_below hFc hW) hC hc (mat_gok H hi) (hco i hi).2 (by rw [form_tg hF]; exact T)
  rw [form_tg hF] at h
  exact h
 ·intro W hW i hi A c hC hc
  have h := l123_calls (rd_T70 mt (i : Int)) A c F f.fn f.lb (coefOf s p j) f.tg.f0 f.tg.f1 W0 W (form_enters hF) (hco i hi).1 (below_trans' hb1 hW) (blk_below hFc hW) hC hc (mat_gok H hi) (hco i hi).2 (by rw [form_tg hF]; exact T)
  rw [form_tg hF] at h
  exact h
theorem facQ125 (H : BatchOk o mt s p a4 a5 a6) {W1 : World} {U : Nat} {u : Int} (hu : -10000 ≤ u ∧ u ≤ 10000) (hU : W1.heap[U]? = some (.cells #[.int .i64 u] 3 (0, 0))) :
  FacQ 146 #[.pointer (some ⟨U, 0, none⟩)] (rUp u) mt W1 ∧ FacQ 147 #[.pointer (some ⟨U, 0, none⟩)] (rDn u) mt W1 :=
 ⟨fun W hW i hi A c hC hc => l125_calls (rd_T70 mt (i : Int)) A c U u W (blk_below hU hW) hC hc (mat_gok H hi) hu (H.mats i hi).redox,
  fun W hW i hi A c hC hc => l126_calls (rd_T70 mt (i : Int)) A c U u W (blk_below hU hW) hC hc (mat_gok H hi) hu (H.mats i hi).redox⟩
end
theorem R_litW {α : Type} (d : Kd α) (base e : Nat) {W : World} {xs : List α} {inner : List Value} {ok okp : Nat → Prop} (hrep : Reps (d.M W base okp) d.sz xs inner) (hok : ∀ k, okp k → ok k) (hfresh : ok W.heap.size) (hbase : base ≤ W.heap.size) (hm : xs.length ≤ 9223372036854775807) :
  d.R e (W.alloc (.cells inner.toArray e)) base ok (.slice (some ⟨W.heap.size, 0, none⟩) xs.length xs.length) xs := by
 refine ⟨fun k hk => ?_, inner, ?_, ?_⟩
 ·have : W.heap.size = k := by simpa [Value.ownBlock] using hk
  subst this
  exact hfresh
 ·have h2 := World.ownsRow_lit (base := base) (e := e) (size := d.sz) W inner.toArray xs.length hbase (by simpa [maxLen] using hm) (by simpa using hrep.1)
  simpa using h2
 ·refine hrep.imp_ (fun p c hp => d.M_mono (fun k hk => ⟨hok k hk.1, fun he => ?_⟩) (Kd.M_below (d.M_bound hp) (below_alloc (Below.refl _ _) _)))
  have h3 : k = W.heap.size := by simpa [Value.ownBlock] using he
  have := hk.2.2.1
  omega
theorem R_one51 {W : World} {base : Nat} {v : Value} {x : S168} (h : (Kd.int .i64).R 3 W base (fun _ => True) v x.f0) (hbase : base ≤ W.heap.size) :
  k168.R 168 (W.alloc (.cells #[v, .int .i64 x.f1] 168)) base (fun _ => True) (.slice (some ⟨W.heap.size, 0, none⟩) 1 1) [x] := by
 have hr : Reps (k168.M W base (fun _ => True)) k168.sz [x] [v, .int .i64 x.f1] := Reps.snoc (Reps.none _ _) (k168_mkM W base _ x h) rfl
 exact R_litW k168 base 168 hr (fun _ h => h) trivial hbase (by simp)
theorem pair_reads {W : World} {base : Nat} {v3 v1 v2 : Value} {xs : List S168} {x x' : S168} (HL : k168.R 168 W base (fun _ => True) v3 xs) (hx : 0 < xs.length) (h1 : (Kd.int .i64).R 3 W base (fun _ => True) v1 x.f0) (h2 : (Kd.int .i64).R 3 W base (fun _ => True) v2 x'.f0) (hbase : base ≤ W.heap.size) :
  ReadsRow (k168.M (W.alloc (.cells #[v1, .int .i64 x.f1, v2, .int .i64 x'.f1] 168)) base (fun j => some j ≠ v3.ownBlock)) k168.sz (W.alloc (.cells #[v1, .int .i64 x.f1, v2, .int .i64 x'.f1] 168)) (some ⟨W.heap.size, 0, none⟩) 2 [x, x'] := by
 obtain ⟨g, cap, rfl, _, hlt, cells, hg⟩ := Kd.R_form HL hx
 have e : ∀ j, j ≠ g → some j ≠ (Value.slice (some ⟨g, 0, none⟩) xs.length cap).ownBlock := by
  intro j hj he
  have : g = j := by simpa [Value.ownBlock] using he.symm
  exact hj this.symm
 have r1 := Kd.R_mono (Kd.R_types (t := 168) h1 hg (by decide)) (fun j hj => e j hj.2)
 have r2 := Kd.R_mono (Kd.R_types (t := 168) h2 hg (by decide)) (fun j hj => e j hj.2)
 have hr : Reps (k168.M W base (fun j => some j ≠ (Value.slice (some ⟨g, 0, none⟩) xs.length cap).ownBlock)) k168.sz [x, x'] [v1, .int .i64 x.f1, v2, .int .i64 x'.f1] := Reps.snoc (Reps.snoc (Reps.none _ _) (k168_mkM W base _ x r1) rfl) (k168_mkM W base _ x' r2) rfl
 have r := R_litW k168 base 168 hr (fun _ h => h) (e _ (Nat.ne_of_gt hlt)) hbase (by simp)
 obtain ⟨A, c, he, _, hrd⟩ := OwnRow.reads r.2
 cases he
 exact ReadsRow.imp_ hrd (Below.refl _ _) (fun _ _ hp => k168.M_mono (fun _ hk => hk.1) hp)
theorem info168 : (Tryz.prog.info? 168).map (fun i => (i.zero, i.size, i.bytes)) = some (some (.agg #[.slice none 0 0, .int .i64 0]), 2, 32) := by kernel_rfl
structure LinesW (w W : World) (cs : Array Value) (xs : List S168) (v : Value) : Prop where
 below : Below w.heap.size w W
 box : W.heap[w.heap.size]? = some (.cells cs 29 (0, 0))
 list : k168.R 168 W w.heap.size (fun _ => True) v xs
theorem LinesW.later {w W W' : World} {cs : Array Value} {xs : List S168} {v : Value} (h : LinesW w W cs xs v) (hb : Below W.heap.size W W') : LinesW w W' cs xs v :=
 ⟨below_step h.below hb, blk_below h.box hb, Kd.R_below h.list hb⟩
structure FormsOk (w W : World) (s : List S27) (p : List S89) (A : Option Addr) (c : Nat) (fs : List F128) : Prop where
 row : k128.R 128 W w.heap.size (fun _ => True) (.slice A fs.length c) fs
 at_ : ∀ j (hj : j < fs.length), FormAt w W s p j fs[j]
theorem FormsOk.reads {w W : World} {s : List S27} {p : List S89} {A : Option Addr} {c : Nat} {fs : List F128} (h : FormsOk w W s p A c fs) : Kd.C k128 W A fs.length fs := by
 obtain ⟨A', c', he, _, hC⟩ := Kd.R_reads h.row
 cases he
 exact hC
theorem FormsOk.later {w W W' : World} {s : List S27} {p : List S89} {A : Option Addr} {c : Nat} {fs : List F128} (h : FormsOk w W s p A c fs) (hb : Below W.heap.size W W') : FormsOk w W' s p A c fs :=
 ⟨Kd.R_below h.row hb, fun j hj => (h.at_ j hj).below hb⟩
theorem FormsOk.grown {w W W' : World} {s : List S27} {p : List S89} {A : Option Addr} {c : Nat} {fs : List F128} {base : Nat} {v3 : Value} {xs : List S168} (h : FormsOk w W s p A c fs) (HL : k168.R 168 W base (fun _ => True) v3 xs) (hx : 0 < xs.length) (hg : W.grownBy W' v3.ownBlock) : FormsOk w W' s p A c fs := by
 refine ⟨?_, fun j hj => ⟨fun hh => ?_, fun hh => ?_⟩⟩
 ·obtain ⟨g, cap, rfl, _, hlt, cells, hgb⟩ := Kd.R_form HL hx
  refine Kd.R_mono (Kd.R_grown (Kd.R_types (t := 168) h.row hgb (by decide)) hg (fun k hk he => hk.2 ?_)) (fun _ _ => trivial)
  have : g = k := by simpa [Value.ownBlock] using he.symm
  exact this.symm
 ·obtain ⟨I, e, hI⟩ := (h.at_ j hj).1 hh
  exact ⟨I, e, blk_grown hI hg (Kd.R_ne HL hI (by decide))⟩
 ·obtain ⟨P, A1, c1, e, hP, hC⟩ := (h.at_ j hj).2 hh
  exact ⟨P, A1, c1, e, blk_grown hP hg (Kd.R_ne HL hP (by decide)), hC⟩
def linesT : Bool × List (List Nat × List Nat) := (true, [([], []), ([], []), ([], []), ([1, 2], [1, 2]), ([], []), ([], []), ([4, 5, 3], [4, 5]), ([3, 6], [3, 6]), ([0, 7, 6], [0, 7]), ([8, 8, 0, 1, 2, 3, 4, 5, 6, 7, 8], [0, 8])])
def linesB : List Nat := [0, 0, 0, 6, 0, 0, 62, 126, 255, 511]
theorem lines_tab : rtab .any (opsOf Tryz.f52 5) = linesT := by kernel_rfl
theorem lines_bits : waitsOk linesT.2 linesB = true := by kernel_rfl
def lines7T : Bool × List (List Nat × List Nat) := (true, [([], []), ([0], [0]), ([1], [1]), ([], []), ([3], [3]), ([4], [4]), ([], []), ([], []), ([6, 2, 0, 1, 2, 6, 7], [2, 6]), ([7, 5, 8, 0, 1, 2, 3, 4, 5, 6, 7, 8], [5, 7])])
def lines7B : List Nat := [0, 1, 3, 0, 8, 24, 0, 0, 199, 511]
theorem lines7_tab : rtab .any (opsOf Tryz.f52 7) = lines7T := by kernel_rfl
theorem lines7_bits : waitsOk lines7T.2 lines7B = true := by kernel_rfl
def lines8T : Bool × List (List Nat × List Nat) := (true, [([], []), ([], []), ([], []), ([1, 2], [1, 2]), ([], []), ([], []), ([4, 5, 3], [4, 5]), ([3, 6], [3, 6]), ([0, 7, 6], [0, 7]), ([8, 8, 0, 1, 2, 3, 4, 5, 6, 7, 8], [8])])
theorem lines8_tab : rtab .any (opsOf Tryz.f52 8) = lines8T := by kernel_rfl
theorem lines8_bits : waitsOk lines8T.2 linesB = true := by kernel_rfl
set_option maxHeartbeats 8000000 in
set_option maxRecDepth 100000 in
theorem lines_calls (A0_0 : Option Addr) (c0_0 : Nat) (l0_0 : List ByteArray) (A0_1 : Option Addr) (c0_1 : Nat) (l0_1 : List (S70)) (A0_2 : Option Addr) (c0_2 : Nat) (l0_2 : List (S27)) (A0_3 : Option Addr) (c0_3 : Nat) (l0_3 : List (S89)) (a0_4 : Int) (a0_5 : Int) (a0_6 : Int) (w : World) (hr0_0 : Kd.C Kd.string w A0_0 l0_0.length l0_0) (hc0_0 : l0_0.length ≤ c0_0) (hr0_1 : Kd.C k70 w A0_1 l0_1.length l0_1) (hc0_1 : l0_1.length ≤ c0_1) (hr0_2 : Kd.C k27 w A0_2 l0_2.length l0_2) (hc0_2 : l0_2.length ≤ c0_2) (hr0_3 : Kd.C k89 w A0_3 l0_3.length l0_3) (hc0_3 : l0_3.length ≤ c0_3)
  (H : BatchOk l0_0 l0_1 l0_2 l0_3 a0_4 a0_5 a0_6) :
  Calls Tryz.prog 52 #[.agg #[.slice A0_0 l0_0.length c0_0, .slice A0_1 l0_1.length c0_1, .slice A0_2 l0_2.length c0_2, .slice A0_3 l0_3.length c0_3, .int .i64 a0_4, .int .i64 a0_5, .int .i64 a0_6]] w fun e w' => ∃ v0_ : Value, e = .returned v0_ ∧ Kd.R k168 168 w' w.heap.size (fun _ => True) v0_ (linesV l0_1 l0_2 l0_3 a0_4 a0_5 a0_6) ∧ Below w.heap.size w w' := by
 have hb0 : Below w.heap.size w (w.alloc (.cells #[.slice A0_0 l0_0.length c0_0, .slice A0_1 l0_1.length c0_1, .slice A0_2 l0_2.length c0_2, .slice A0_3 l0_3.length c0_3, .int .i64 a0_4, .int .i64 a0_5, .int .i64 a0_6] 29)) := below_alloc (Below.refl _ _) _
 have hbk := blk_new w (.cells #[.slice A0_0 l0_0.length c0_0, .slice A0_1 l0_1.length c0_1, .slice A0_2 l0_2.length c0_2, .slice A0_3 l0_3.length c0_3, .int .i64 a0_4, .int .i64 a0_5, .int .i64 a0_6] 29)
 have hgo := line_calls A0_0 A0_1 A0_2 A0_3 l0_0.length c0_0 c0_1 l0_2.length c0_2 l0_3.length c0_3 l0_1 a0_4 a0_5 a0_6 (-1000 * a0_6) 139 #[] (fun x => -lowM x) (w.alloc (.cells #[.slice A0_0 l0_0.length c0_0, .slice A0_1 l0_1.length c0_1, .slice A0_2 l0_2.length c0_2, .slice A0_3 l0_3.length c0_3, .int .i64 a0_4, .int .i64 a0_5, .int .i64 a0_6] 29)) (enters_of Tryz.func139 (by kernel_rfl) rfl) (facQ118 H _) (Kd.C_below hr0_1 hb0) H.m12
 have HR0 := Sd.mk hr0_0
 have HC0 := Sd.mk hc0_0
 have HR1 := Sd.mk hr0_1
 have HC1 := Sd.mk hc0_1
 have HR2 := Sd.mk hr0_2
 have HC2 := Sd.mk hc0_2
 have HR3 := Sd.mk hr0_3
 have HC3 := Sd.mk hc0_3
 have HH := Sd.mk H
 have HB := Sd.mk hb0
 have BK := Sd.mk hbk
 have hw6 := H.wanted
 obtain ⟨hw6a, hw6b⟩ := hw6
 have k0 : (w.alloc (.cells #[.slice A0_0 l0_0.length c0_0, .slice A0_1 l0_1.length c0_1, .slice A0_2 l0_2.length c0_2, .slice A0_3 l0_3.length c0_3, .int .i64 a0_4, .int .i64 a0_5, .int .i64 a0_6] 29)).cell? ⟨w.heap.size, 0, none⟩ = some (.slice A0_0 l0_0.length c0_0) := (blk_cell hbk 0).trans rfl
 have k1 : (w.alloc (.cells #[.slice A0_0 l0_0.length c0_0, .slice A0_1 l0_1.length c0_1, .slice A0_2 l0_2.length c0_2, .slice A0_3 l0_3.length c0_3, .int .i64 a0_4, .int .i64 a0_5, .int .i64 a0_6] 29)).cell? ⟨w.heap.size, 1, none⟩ = some (.slice A0_1 l0_1.length c0_1) := (blk_cell hbk 1).trans rfl
 have k2 : (w.alloc (.cells #[.slice A0_0 l0_0.length c0_0, .slice A0_1 l0_1.length c0_1, .slice A0_2 l0_2.length c0_2, .slice A0_3 l0_3.length c0_3, .int .i64 a0_4, .int .i64 a0_5, .int .i64 a0_6] 29)).cell? ⟨w.heap.size, 2, none⟩ = some (.slice A0_2 l0_2.length c0_2) := (blk_cell hbk 2).trans rfl
 have k3 : (w.alloc (.cells #[.slice A0_0 l0_0.length c0_0, .slice A0_1 l0_1.length c0_1, .slice A0_2 l0_2.length c0_2, .slice A0_3 l0_3.length c0_3, .int .i64 a0_4, .int .i64 a0_5, .int .i64 a0_6] 29)).cell? ⟨w.heap.size, 3, none⟩ = some (.slice A0_3 l0_3.length c0_3) := (blk_cell hbk 3).trans rfl
 have k4 : (w.alloc (.cells #[.slice A0_0 l0_0.length c0_0, .slice A0_1 l0_1.length c0_1, .slice A0_2 l0_2.length c0_2, .slice A0_3 l0_3.length c0_3, .int .i64 a0_4, .int .i64 a0_5, .int .i64 a0_6] 29)).cell? ⟨w.heap.size, 4, none⟩ = some (.int .i64 a0_4) := (blk_cell hbk 4).trans rfl
 have k5 : (w.alloc (.cells #[.slice A0_0 l0_0.length c0_0, .slice A0_1 l0_1.length c0_1, .slice A0_2 l0_2.length c0_2, .slice A0_3 l0_3.length c0_3, .int .i64 a0_4, .int .i64 a0_5, .int .i64 a0_6] 29)).cell? ⟨w.heap.size, 5, none⟩ = some (.int .i64 a0_5) := (blk_cell hbk 5).trans rfl
 have k6 : (w.alloc (.cells #[.slice A0_0 l0_0.length c0_0, .slice A0_1 l0_1.length c0_1, .slice A0_2 l0_2.length c0_2, .slice A0_3 l0_3.length c0_3, .int .i64 a0_4, .int .i64 a0_5, .int .i64 a0_6] 29)).cell? ⟨w.heap.size, 6, none⟩ = some (.int .i64 a0_6) := (blk_cell hbk 6).trans rfl
 have k6' : (w.alloc (.cells #[.slice A0_0 l0_0.length c0_0, .slice A0_1 l0_1.length c0_1, .slice A0_2 l0_2.length c0_2, .slice A0_3 l0_3.length c0_3, .int .i64 a0_4, .int .i64 a0_5, .int .i64 a0_6] 29)).cell? ⟨w.heap.size, 0 + 6, none⟩ = some (.int .i64 a0_6) := (blk_cell hbk 6).trans rfl
 clear hr0_0 hc0_0 hr0_1 hc0_1 hr0_2 hc0_2 hr0_3 hc0_3 H hb0 hbk
 go_enter Tryz.func52, Tryz.ntmps52
 go_wp2_with fail
 clear k0 k1 k2 k3 k4 k5 k6 k6' hw6a hw6b
 generalize w.alloc (.cells #[.slice A0_0 l0_0.length c0_0, .slice A0_1 l0_1.length c0_1, .slice A0_2 l0_2.length c0_2, .slice A0_3 l0_3.length c0_3, .int .i64 a0_4, .int .i64 a0_5, .int .i64 a0_6] 29) = w0 at *
 refine hgo.mono ?_
 clear hgo
 rintro e w1 ⟨v, rfl, hR, hb⟩
 have hlw : LinesW w (w1.alloc (.cells #[v, .int .i64 (-1000 * a0_6)] 168)) #[.slice A0_0 l0_0.length c0_0, .slice A0_1 l0_1.length c0_1, .slice A0_2 l0_2.length c0_2, .slice A0_3 l0_3.length c0_3, .int .i64 a0_4, .int .i64 a0_5, .int .i64 a0_6] (headL l0_1 l0_2 l0_3 a0_6 0) (.slice (some ⟨w1.heap.size, 0, none⟩) 1 1) :=
  ⟨below_alloc (below_step HB.out hb) _, blk_alloc (blk_below BK.out hb) _, R_one51 (x := ⟨List.map (fun x => -lowM x) l0_1, -1000 * a0_6⟩) (Kd.R_lower hR (below_size HB.out)) (below_size (below_step HB.out hb))⟩
 have HLW := Sd.mk hlw
 have hbA : Below w.heap.size w (w1.alloc (.cells #[v, .int .i64 (-1000 * a0_6)] 168)) := hlw.below
 have H := HH.out
 have hsz : (l0_2.length + l0_3.length + 1) * 24 ≤ 140737488355328 := Nat.le_trans (Nat.mul_le_mul_right 24 (show l0_2.length + l0_3.length + 1 ≤ 19 by have := H.slen; have := H.o12; have := H.p6; omega)) (by decide)
 have hgo := forms_calls A0_0 c0_0 l0_0 A0_1 c0_1 l0_1 A0_2 c0_2 l0_2 A0_3 c0_3 l0_3 a0_4 a0_5 a0_6 w (w1.alloc (.cells #[v, .int .i64 (-1000 * a0_6)] 168)) hbA (Kd.C_below HR0.out hbA) HC0.out (Kd.C_below HR1.out hbA) HC1.out (Kd.C_below HR2.out hbA) HC2.out HR3.out HC3.out hsz
 have k0 : (w1.alloc (.cells #[v, .int .i64 (-1000 * a0_6)] 168)).cell? ⟨w.heap.size, 0, none⟩ = some (.slice A0_0 l0_0.length c0_0) := (blk_cell hlw.box 0).trans rfl
 have k1 : (w1.alloc (.cells #[v, .int .i64 (-1000 * a0_6)] 168)).cell? ⟨w.heap.size, 1, none⟩ = some (.slice A0_1 l0_1.length c0_1) := (blk_cell hlw.box 1).trans rfl
 have k2 : (w1.alloc (.cells #[v, .int .i64 (-1000 * a0_6)] 168)).cell? ⟨w.heap.size, 2, none⟩ = some (.slice A0_2 l0_2.length c0_2) := (blk_cell hlw.box 2).trans rfl
 have k3 : (w1.alloc (.cells #[v, .int .i64 (-1000 * a0_6)] 168)).cell? ⟨w.heap.size, 3, none⟩ = some (.slice A0_3 l0_3.length c0_3) := (blk_cell hlw.box 3).trans rfl
 have k4 : (w1.alloc (.cells #[v, .int .i64 (-1000 * a0_6)] 168)).cell? ⟨w.heap.size, 4, none⟩ = some (.int .i64 a0_4) := (blk_cell hlw.box 4).trans rfl
 have k5 : (w1.alloc (.cells #[v, .int .i64 (-1000 * a0_6)] 168)).cell? ⟨w.heap.size, 5, none⟩ = some (.int .i64 a0_5) := (blk_cell hlw.box 5).trans rfl
 have k6 : (w1.alloc (.cells #[v, .int .i64 (-1000 * a0_6)] 168)).cell? ⟨w.heap.size, 6, none⟩ = some (.int .i64 a0_6) := (blk_cell hlw.box 6).trans rfl
 clear hlw hbA H hsz hR hb HB BK
 go_wp2_with fail
 clear k0 k1 k2 k3 k4 k5 k6
 generalize w1.alloc (.cells #[v, .int .i64 (-1000 * a0_6)] 168) = wA at *
 refine hgo.mono ?_
 clear hgo
 rintro e w2 ⟨Af, cf, fs, rfl, hfc, hfC, hfl, hF, hb2, hfR⟩
 have HLW2 := Sd.mk (HLW.out.later hb2)
 have HFO := Sd.mk (FormsOk.mk (Kd.R_lower hfR (below_size HLW.out.below)) hF)
 have HFL := Sd.mk hfl
 have hfz : (fs.length : Int) < 9223372036854775807 := by have H := HH.out; have := H.slen; have := H.o12; have := H.p6; omega
 have HFZ := Sd.mk hfz
 clear HLW hb2 hfC hfl hF hfR
 go_wp2
 clear hfc hfz
 go_loopg [3, 17] fs.length (fun gq v3 v17 wr => ∃ k : Nat, v17 = .int .i64 k ∧ k ≤ fs.length ∧ fs.length - k ≤ gq ∧ Sd (LinesW w wr #[.slice A0_0 l0_0.length c0_0, .slice A0_1 l0_1.length c0_1, .slice A0_2 l0_2.length c0_2, .slice A0_3 l0_3.length c0_3, .int .i64 a0_4, .int .i64 a0_5, .int .i64 a0_6] (headL l0_1 l0_2 l0_3 a0_6 k) v3) ∧ Sd (FormsOk w wr l0_2 l0_3 Af cf fs))
 case atStart => exact ⟨0, rfl, Nat.zero_le _, by omega, HLW2, HFO⟩
 case round =>
  clear HLW2 HFO
  obtain ⟨k, rfl, hk, hgk, HW, HFO⟩ := hrel
  have hfz := HFZ.out
  by_cases hlt : k < fs.length
  ·have hltz : (k : Int) < (fs.length : Int) := by omega
   obtain ⟨ad, rfl, hx0, hx1, hx2⟩ := at_T128 HFO.out.reads k hlt
   have HFK := Sd.mk (HFO.out.at_ k hlt)
   generalize hff : fs[k] = f at *
   clear hff
   have HLX := Sd.mk (HW.out.later (below_alloc (Below.refl _ _) (.cells #[.func (.func f.fn) #[] f.lb, .int .i64 f.tg.f0, .int .i64 f.tg.f1] 128)))
   have BF := Sd.mk (blk_new wr (.cells #[.func (.func f.fn) #[] f.lb, .int .i64 f.tg.f0, .int .i64 f.tg.f1] 128))
   have H := HH.out
   have hkl : k < l0_2.length + l0_3.length := by have := HFL.out; omega
   have hfq := facQ_form H (F := wr.heap.size) (W1 := wr.alloc (.cells #[.func (.func f.fn) #[] f.lb, .int .i64 f.tg.f0, .int .i64 f.tg.f1] 128)) HFK.out hkl HW.out.below (blk_new wr (.cells #[.func (.func f.fn) #[] f.lb, .int .i64 f.tg.f0, .int .i64 f.tg.f1] 128)) (below_alloc (Below.refl _ _) _)
   have HQ := Sd.mk hfq
   have HFY := Sd.mk (HFO.out.later (below_alloc (Below.refl _ _) (.cells #[.func (.func f.fn) #[] f.lb, .int .i64 f.tg.f0, .int .i64 f.tg.f1] 128)))
   have HKL := Sd.mk hkl
   have HK := Sd.mk hgk
   have HLT := Sd.mk hlt
   have HM12 := Sd.mk H.m12
   clear HW HFO H hkl hfq hgk hlt
   go_upto_region 5 with (fail)
   clear hx0 hx1 hx2
   generalize wr.alloc (.cells #[.func (.func f.fn) #[] f.lb, .int .i64 f.tg.f0, .int .i64 f.tg.f1] 128) = WX at *
   generalize hXX : wr.heap.size = X at *
   clear hXX
   have HB := Sd.mk HLX.out.below
   have BK := Sd.mk HLX.out.box
   have HL := Sd.mk HLX.out.list
   have HBZ := Sd.mk (Below.refl WX.heap.size WX)
   clear HLX BF
   refine start_ (n := 10) (S := fun w' => w'.cell? ⟨w.heap.size, 0, none⟩ = some (.slice A0_0 l0_0.length c0_0) ∧ w'.cell? ⟨w.heap.size, 1, none⟩ = some (.slice A0_1 l0_1.length c0_1) ∧ w'.cell? ⟨w.heap.size, 2, none⟩ = some (.slice A0_2 l0_2.length c0_2) ∧ w'.cell? ⟨w.heap.size, 3, none⟩ = some (.slice A0_3 l0_3.length c0_3) ∧ w'.cell? ⟨w.heap.size, 4, none⟩ = some (.int .i64 a0_4) ∧ w'.cell? ⟨w.heap.size, 5, none⟩ = some (.int .i64 a0_5) ∧ w'.cell? ⟨w.heap.size, 6, none⟩ = some (.int .i64 a0_6)) (ds := []) #[false, false, false, false, false, false, false, false, false, false] (by kernel_rfl) rfl rfl ⟨(blk_cell BK.out 0).trans rfl, (blk_cell BK.out 1).trans rfl, (blk_cell BK.out 2).trans rfl, (blk_cell BK.out 3).trans rfl, (blk_cell BK.out 4).trans rfl, (blk_cell BK.out 5).trans rfl, (blk_cell BK.out 6).trans rfl⟩ (fun hHeld => ?_); refine with_tabW lines_tab lines_bits (fun HT_ HW_ => ?_)
   replace BK := Sd.mk (blk_drew BK.out)
   replace HL := Sd.mk (Kd.R_drew HL.out)
   replace HB := Sd.mk (below_drew1 HB.out)
   replace HBZ := Sd.mk (below_drew1 HBZ.out)
   replace HFY := Sd.mk (HFY.out.later (below_drew1 (Below.refl WX.heap.size WX)))
   generalize WX.drew = W0 at BK HL HB HBZ HFY hHeld ⊢
   refine pure_ (i := 0) (N := some 21) (v := ?_) (a' := ?_) #[true, false, false, false, false, false, false, false, false, false] rfl rfl (any_of HT_.out (by kernel_rfl)) (fun _ _ _ h => h) (Or.inl ⟨by rfl, ?_⟩) ?_ ?_
   rotate_left
   ·exact tW
   rotate_left
   ·exact tP
   refine take_ (i := 1) (N := some 22) (v := ?_) (a' := ?_) #[true, true, false, false, false, false, false, false, false, false] rfl rfl (take_ofW HT_.out HW_.out (by kernel_rfl)) (fun _ _ _ h => h) (Or.inl ⟨by rfl, ?_⟩) hHeld ?_ ?_
   rotate_left
   ·rintro w' ⟨s0, s1, s2, s3, s4, s5, s6⟩
    go_simp
    with_reducible rfl
   rotate_left
   ·exact tP
   refine pure_ (i := 2) (N := some 23) (v := ?_) (a' := ?_) #[true, true, true, false, false, false, false, false, false, false] rfl rfl (any_of HT_.out (by kernel_rfl)) (fun _ _ _ h => h) (Or.inl ⟨by rfl, ?_⟩) ?_ ?_
   rotate_left
   ·exact tW
   rotate_left
   ·exact tP
   refine take_ (i := 4) (N := some 25) (v := ?_) (a' := ?_) #[true, true, true, false, true, false, false, false, false, false] rfl rfl (take_ofW HT_.out HW_.out (by kernel_rfl)) (fun _ _ _ h => h) (Or.inl ⟨by rfl, ?_⟩) hHeld ?_ ?_
   rotate_left
   ·rintro w' ⟨s0, s1, s2, s3, s4, s5, s6⟩
    go_simp
    with_reducible rfl
   rotate_left
   ·exact tP
   refine pure_ (i := 5) (N := some 26) (v := ?_) (a' := ?_) #[true, true, true, false, true, true, false, false, false, false] rfl rfl (any_of HT_.out (by kernel_rfl)) (fun _ _ _ h => h) (Or.inl ⟨by rfl, ?_⟩) ?_ ?_
   rotate_left
   ·exact tW
   rotate_left
   ·exact tP
   refine one_ (i := 3) (N := some 24) #[true, true, true, true, true, true, false, false, false, false] rfl rfl (one_of HT_.out (by kernel_rfl)) (by decide) (fun K hK => ?_)
   refine goes_ Tryz.func138 (by kernel_rfl) rfl #[.agg #[.slice A0_0 l0_0.length c0_0, .slice A0_1 l0_1.length c0_1, .slice A0_2 l0_2.length c0_2, .slice A0_3 l0_3.length c0_3, .int .i64 a0_4, .int .i64 a0_5, .int .i64 a0_6], .int .i64 0, .func (.func 141) #[] #[.pointer (some ⟨X, 0, none⟩)]] (by rfl) rfl rfl (by (try simp only [List.map_toArray, List.map_cons, List.map_nil]); first | done | rfl) ?_
   refine (line_calls A0_0 A0_1 A0_2 A0_3 l0_0.length c0_0 c0_1 l0_2.length c0_2 l0_3.length c0_3 l0_1 a0_4 a0_5 a0_6 0 141 #[.pointer (some ⟨X, 0, none⟩)] (upF l0_2 l0_3 k) _ (enters_of Tryz.func141 (by kernel_rfl) rfl) (fun W hW => HQ.out.1 W (below_trans' HBZ.out hW)) (Kd.C_below HR1.out HB.out) HM12.out).mono ?_
   rintro e w4 ⟨v1, rfl, hR, hb⟩
   refine ⟨_, rfl, ?_⟩
   have Hv1 := Sd.mk (Kd.R_lower hR (below_size HB.out))
   replace BK := Sd.mk (blk_below BK.out hb)
   replace HL := Sd.mk (Kd.R_below HL.out hb)
   replace HBZ := Sd.mk (below_step HBZ.out hb)
   replace HFY := Sd.mk (HFY.out.later hb)
   replace HB := Sd.mk (below_step HB.out hb)
   clear hb hR
   refine hK.out _ _ ⟨(blk_cell BK.out 0).trans rfl, (blk_cell BK.out 1).trans rfl, (blk_cell BK.out 2).trans rfl, (blk_cell BK.out 3).trans rfl, (blk_cell BK.out 4).trans rfl, (blk_cell BK.out 5).trans rfl, (blk_cell BK.out 6).trans rfl⟩ (fun hHeld => ?_)
   clear hK K
   refine norm_ (a' := ?_) ?_ ?_
   rotate_left
   ·show Act.put _ (some 24) _ = _
    exact tP
   refine one_ (i := 6) (N := some 27) #[true, true, true, true, true, true, true, false, false, false] rfl rfl (one_of HT_.out (by kernel_rfl)) (by decide) (fun K hK => ?_)
   refine goes_ Tryz.func138 (by kernel_rfl) rfl #[.agg #[.slice A0_0 l0_0.length c0_0, .slice A0_1 l0_1.length c0_1, .slice A0_2 l0_2.length c0_2, .slice A0_3 l0_3.length c0_3, .int .i64 a0_4, .int .i64 a0_5, .int .i64 a0_6], .int .i64 0, .func (.func 144) #[] #[.pointer (some ⟨X, 0, none⟩)]] (by rfl) rfl rfl (by (try simp only [List.map_toArray, List.map_cons, List.map_nil]); first | done | rfl) ?_
   refine (line_calls A0_0 A0_1 A0_2 A0_3 l0_0.length c0_0 c0_1 l0_2.length c0_2 l0_3.length c0_3 l0_1 a0_4 a0_5 a0_6 0 144 #[.pointer (some ⟨X, 0, none⟩)] (dnF l0_2 l0_3 k) _ (enters_of Tryz.func144 (by kernel_rfl) rfl) (fun W hW => HQ.out.2 W (below_trans' HBZ.out hW)) (Kd.C_below HR1.out HB.out) HM12.out).mono ?_
   rintro e w4 ⟨v2, rfl, hR, hb⟩
   refine ⟨_, rfl, ?_⟩
   have Hv2 := Sd.mk (Kd.R_lower hR (below_size HB.out))
   replace Hv1 := Sd.mk (Kd.R_below Hv1.out hb)
   replace BK := Sd.mk (blk_below BK.out hb)
   replace HL := Sd.mk (Kd.R_below HL.out hb)
   replace HBZ := Sd.mk (below_step HBZ.out hb)
   replace HFY := Sd.mk (HFY.out.later hb)
   replace HB := Sd.mk (below_step HB.out hb)
   clear hb hR
   refine hK.out _ _ ⟨(blk_cell BK.out 0).trans rfl, (blk_cell BK.out 1).trans rfl, (blk_cell BK.out 2).trans rfl, (blk_cell BK.out 3).trans rfl, (blk_cell BK.out 4).trans rfl, (blk_cell BK.out 5).trans rfl, (blk_cell BK.out 6).trans rfl⟩ (fun hHeld => ?_)
   clear hK K
   refine norm_ (a' := ?_) ?_ ?_
   rotate_left
   ·show Act.put _ (some 27) _ = _
    exact tP
   refine one_ (i := 7) (N := some 28) #[true, true, true, true, true, true, true, true, false, false] rfl rfl (one_of HT_.out (by kernel_rfl)) (by decide) (fun K hK => ?_)
   refine value_ (w1 := ?_) (v := ?_) (by rfl) rfl ?_ ?_
   rotate_left 2
   ·go_simp
    constructor
    ·rfl
    ·rfl
   refine hK.out _ _ ⟨(blk_cell (blk_alloc BK.out _) 0).trans rfl, (blk_cell (blk_alloc BK.out _) 1).trans rfl, (blk_cell (blk_alloc BK.out _) 2).trans rfl, (blk_cell (blk_alloc BK.out _) 3).trans rfl, (blk_cell (blk_alloc BK.out _) 4).trans rfl, (blk_cell (blk_alloc BK.out _) 5).trans rfl, (blk_cell (blk_alloc BK.out _) 6).trans rfl⟩ (fun hHeld => ?_)
   clear hK K
   refine norm_ (a' := ?_) ?_ ?_
   rotate_left
   ·show Act.put _ (some 28) _ = _
    exact tP
   refine one_ (i := 8) (N := some 29) #[true, true, true, true, true, true, true, true, true, false] rfl rfl (one_of HT_.out (by kernel_rfl)) (by decide) (fun K hK => ?_)
   refine Kd.R_append_rows_step k168 (w0 := w) w.heap.size (by rfl) (.tmp 21) (.tmp 28) 100 168 (.agg #[.slice none 0 0, .int .i64 0]) 32 rfl Tryz.underlying100 info168 rfl (by decide) (by omega) u3 (headL l0_1 l0_2 l0_3 a0_6 k) (pairL l0_1 l0_2 l0_3 k) (some ⟨_, 0, none⟩) 2 2 (fun _ => True) (fun j => some j ≠ u3.ownBlock) rfl rfl (Kd.R_alloc HL.out _) (pair_reads HL.out (by rw [headL_len]; omega) Hv1.out Hv2.out (below_size HB.out)) (fun _ _ hp => hp) (fun _ hk => ⟨trivial, hk⟩) (fun _ _ => trivial) (below_alloc HB.out _) ?aS ?aL ?_
   (case aS => exact below_size (below_alloc HB.out _))
   (case aL => exact (by rw [headL_len]; exact Nat.le_trans (Nat.mul_le_mul_right 32 (show 1 + 2 * k + 2 ≤ 100 by have := HKL.out; have H := HH.out; have := H.slen; have := H.o12; have := H.p6; omega)) (by decide)))
   intro v5 w5 ho hb hg hat
   have BK2 := Sd.mk (blk_grown (blk_alloc BK.out _) hg (Kd.R_ne HL.out BK.out (by decide)))
   have HLW := Sd.mk (LinesW.mk hb BK2.out ho)
   have HFX := Sd.mk ((HFY.out.later (below_alloc (Below.refl _ _) _)).grown (Kd.R_alloc HL.out _) (by rw [headL_len]; omega) hg)
   clear BK HL HB Hv1 Hv2 HFY hb ho hat hg
   refine hK.out _ _ ⟨(blk_cell BK2.out 0).trans rfl, (blk_cell BK2.out 1).trans rfl, (blk_cell BK2.out 2).trans rfl, (blk_cell BK2.out 3).trans rfl, (blk_cell BK2.out 4).trans rfl, (blk_cell BK2.out 5).trans rfl, (blk_cell BK2.out 6).trans rfl⟩ (fun hHeld => ?_)
   clear hK K
   refine norm_ (a' := ?_) ?_ ?_
   rotate_left
   ·show Act.put _ (some 29) _ = _
    exact tP
   refine pure_ (i := 9) (N := some 3) (v := ?_) (a' := ?_) #[true, true, true, true, true, true, true, true, true, true] rfl rfl (any_of HT_.out (by kernel_rfl)) (fun _ _ _ h => h) (Or.inl ⟨by rfl, ?_⟩) ?_ ?_
   rotate_left
   ·exact tW
   rotate_left
   ·exact tP
   refine done_ (done_of HT_.out (by kernel_rfl)) ?_
   have hfz := HFZ.out
   have hlt := HLT.out
   have hgk := HK.out
   go_wp2
   go_roundg (fs.length - (k + 1))
   case measure => omega
   case rel => exact ⟨k + 1, by first | rfl | (rw [wrap_id (by omega) (by omega)]; rfl), by omega, by omega, HLW, HFX⟩
  ·have H := HH.out
   have hkn : k = l0_2.length + l0_3.length := by have := HFL.out; omega
   have hltz : ¬ (k : Int) < (fs.length : Int) := by omega
   have HB := Sd.mk HW.out.below
   have BK := Sd.mk HW.out.box
   have HL := Sd.mk HW.out.list
   have HM12 := Sd.mk H.m12
   have HRX := Sd.mk H.redox
   have HKN := Sd.mk hkn
   have HSZ := Sd.mk (show 1 + 2 * k + 2 ≤ 100 by have := H.slen; have := H.o12; have := H.p6; omega)
   clear HW HFO H hkn hgk
   go_upto_region 7 with (fail)
   refine start_ (n := 10) (S := fun w' => w'.cell? ⟨w.heap.size, 0, none⟩ = some (.slice A0_0 l0_0.length c0_0) ∧ w'.cell? ⟨w.heap.size, 1, none⟩ = some (.slice A0_1 l0_1.length c0_1) ∧ w'.cell? ⟨w.heap.size, 2, none⟩ = some (.slice A0_2 l0_2.length c0_2) ∧ w'.cell? ⟨w.heap.size, 3, none⟩ = some (.slice A0_3 l0_3.length c0_3) ∧ w'.cell? ⟨w.heap.size, 4, none⟩ = some (.int .i64 a0_4) ∧ w'.cell? ⟨w.heap.size, 5, none⟩ = some (.int .i64 a0_5) ∧ w'.cell? ⟨w.heap.size, 6, none⟩ = some (.int .i64 a0_6)) (ds := []) #[false, false, false, false, false, false, false, false, false, false] (by kernel_rfl) rfl rfl ⟨(blk_cell BK.out 0).trans rfl, (blk_cell BK.out 1).trans rfl, (blk_cell BK.out 2).trans rfl, (blk_cell BK.out 3).trans rfl, (blk_cell BK.out 4).trans rfl, (blk_cell BK.out 5).trans rfl, (blk_cell BK.out 6).trans rfl⟩ (fun hHeld => ?_); refine with_tabW lines7_tab lines7_bits (fun HT_ HW_ => ?_)
   replace BK := Sd.mk (blk_drew BK.out)
   replace HL := Sd.mk (Kd.R_drew HL.out)
   replace HB := Sd.mk (below_drew1 HB.out)
   generalize wr.drew = W0 at BK HL HB hHeld ⊢
   refine pure_ (i := 0) (N := some 31) (v := ?_) (a' := ?_) #[true, false, false, false, false, false, false, false, false, false] rfl rfl (any_of HT_.out (by kernel_rfl)) (fun _ _ _ h => h) (Or.inl ⟨by rfl, ?_⟩) ?_ ?_
   rotate_left
   ·exact tW
   rotate_left
   ·exact tP
   refine pure_ (i := 1) (N := some 32) (v := ?_) (a' := ?_) #[true, true, false, false, false, false, false, false, false, false] rfl rfl (any_of HT_.out (by kernel_rfl)) (fun _ _ _ h => h) (Or.inl ⟨by rfl, ?_⟩) ?_ ?_
   rotate_left
   ·exact tW
   rotate_left
   ·exact tP
   refine take_ (i := 2) (N := some 33) (v := ?_) (a' := ?_) #[true, true, true, false, false, false, false, false, false, false] rfl rfl (take_ofW HT_.out HW_.out (by kernel_rfl)) (fun _ _ _ h => h) (Or.inl ⟨by rfl, ?_⟩) hHeld ?_ ?_
   rotate_left
   ·rintro w' ⟨s0, s1, s2, s3, s4, s5, s6⟩
    go_simp
    with_reducible rfl
   rotate_left
   ·exact tP
   refine pure_ (i := 3) (N := some 34) (v := ?_) (a' := ?_) #[true, true, true, true, false, false, false, false, false, false] rfl rfl (any_of HT_.out (by kernel_rfl)) (fun _ _ _ h => h) (Or.inl ⟨by rfl, ?_⟩) ?_ ?_
   rotate_left
   ·exact tW
   rotate_left
   ·exact tP
   refine pure_ (i := 4) (N := some 35) (v := ?_) (a' := ?_) #[true, true, true, true, true, false, false, false, false, false] rfl rfl (any_of HT_.out (by kernel_rfl)) (fun _ _ _ h => h) (Or.inl ⟨by rfl, ?_⟩) ?_ ?_
   rotate_left
   ·exact tW
   rotate_left
   ·exact tP
   refine take_ (i := 5) (N := some 36) (v := ?_) (a' := ?_) #[true, true, true, true, true, true, false, false, false, false] rfl rfl (take_ofW HT_.out HW_.out (by kernel_rfl)) (fun _ _ _ h => h) (Or.inl ⟨by rfl, ?_⟩) hHeld ?_ ?_
   rotate_left
   ·rintro w' ⟨s0, s1, s2, s3, s4, s5, s6⟩
    go_simp
    with_reducible rfl
   rotate_left
   ·exact tP
   refine join_ (σ := Nat × Nat) 2 #[true, true, true, true, true, true, true, true, false, false] (fun s_ => [(6, .pointer (some ⟨s_.1, 0, none⟩)), (7, .pointer (some ⟨s_.2, 0, none⟩))]) (fun s_ w' => (w'.cell? ⟨w.heap.size, 0, none⟩ = some (.slice A0_0 l0_0.length c0_0) ∧ w'.cell? ⟨w.heap.size, 1, none⟩ = some (.slice A0_1 l0_1.length c0_1) ∧ w'.cell? ⟨w.heap.size, 2, none⟩ = some (.slice A0_2 l0_2.length c0_2) ∧ w'.cell? ⟨w.heap.size, 3, none⟩ = some (.slice A0_3 l0_3.length c0_3) ∧ w'.cell? ⟨w.heap.size, 4, none⟩ = some (.int .i64 a0_4) ∧ w'.cell? ⟨w.heap.size, 5, none⟩ = some (.int .i64 a0_5) ∧ w'.cell? ⟨w.heap.size, 6, none⟩ = some (.int .i64 a0_6)) ∧ Below w.heap.size w w' ∧ w'.heap[w.heap.size]? = some (.cells #[.slice A0_0 l0_0.length c0_0, .slice A0_1 l0_1.length c0_1, .slice A0_2 l0_2.length c0_2, .slice A0_3 l0_3.length c0_3, .int .i64 a0_4, .int .i64 a0_5, .int .i64 a0_6] 29 (0, 0)) ∧ k168.R 168 w' w.heap.size (fun j => j ≠ s_.1 ∧ j ≠ s_.2) u3 (headL l0_1 l0_2 l0_3 a0_6 k) ∧ w'.heap[s_.1]? = some (.cells #[.int .i64 0] 3 (0, 0)) ∧ w'.heap[s_.2]? = some (.cells #[.int .i64 0] 3 (0, 0)) ∧ s_.1 ≠ s_.2 ∧ w.heap.size < s_.1 ∧ w.heap.size < s_.2) ?_ ?_
   rotate_left
   ·skip
    intro hCont
    refine two_ (i := 6) (j := 7) (Ni := some 6) (Nj := some 7) #[true, true, true, true, true, true, true, false, false, false] #[true, true, true, true, true, true, false, true, false, false] rfl rfl rfl rfl (two_of HT_.out (by kernel_rfl)) (by decide) (by decide) (fun K hK => ?_) (fun K hK => ?_)
    ·skip
     refine box_step ?hg (N := 6) ?hd (cs := #[.int .i64 0]) (t := 3) ?hr ?_; (case hd => rfl); (case hg => rfl); (case hr => first | (go_simp; done) | (go_simp; rfl))
     intro U6 hg6 w6 hbox6 hb6
     have BK6 := Sd.mk (blk_below BK.out hb6)
     refine hK.out _ _ ⟨(blk_cell BK6.out 0).trans rfl, (blk_cell BK6.out 1).trans rfl, (blk_cell BK6.out 2).trans rfl, (blk_cell BK6.out 3).trans rfl, (blk_cell BK6.out 4).trans rfl, (blk_cell BK6.out 5).trans rfl, (blk_cell BK6.out 6).trans rfl⟩ (fun hHeld => ?_)
     clear hK K
     refine norm_ (a' := ?_) ?_ ?_
     rotate_left
     ·show Act.put _ (some 6) _ = _
      exact tP
     refine one_ (i := 7) (N := some 7) #[true, true, true, true, true, true, true, true, false, false] rfl rfl (one_of HT_.out (by kernel_rfl)) (by decide) (fun K hK => ?_)
     refine box_step ?hg (N := 7) ?hd (cs := #[.int .i64 0]) (t := 3) ?hr ?_; (case hd => rfl); (case hg => rfl); (case hr => first | (go_simp; done) | (go_simp; rfl))
     intro U7 hg7 w7 hbox7 hb7
     have BK7 := Sd.mk (blk_below BK6.out hb7)
     refine hK.out _ _ ⟨(blk_cell BK7.out 0).trans rfl, (blk_cell BK7.out 1).trans rfl, (blk_cell BK7.out 2).trans rfl, (blk_cell BK7.out 3).trans rfl, (blk_cell BK7.out 4).trans rfl, (blk_cell BK7.out 5).trans rfl, (blk_cell BK7.out 6).trans rfl⟩ (fun hHeld => ?_)
     clear hK K
     refine norm_ (a' := ?_) ?_ ?_
     rotate_left
     ·show Act.put _ (some 7) _ = _
      exact tP
     have hl1 := blk_lt BK.out
     have hl2 := blk_lt hbox6
     have hokk : ∀ j, (True ∧ w.heap.size ≤ j ∧ j < W0.heap.size ∧ ∃ q, q ∈ 168 :: k168.E ∧ ∃ cells, W0.heap[j]? = some (.cells cells q (0, 0))) → j ≠ U6 ∧ j ≠ U7 := fun j hj => ⟨by have := hj.2.2.1; omega, by have := hj.2.2.1; omega⟩
     exact norm_ (by simp only [putAll, Act.put, List.setIfInBounds_toArray, List.set_cons_zero, List.set_cons_succ]) (hCont (U6, U7) _ ⟨⟨(blk_cell BK7.out 0).trans rfl, (blk_cell BK7.out 1).trans rfl, (blk_cell BK7.out 2).trans rfl, (blk_cell BK7.out 3).trans rfl, (blk_cell BK7.out 4).trans rfl, (blk_cell BK7.out 5).trans rfl, (blk_cell BK7.out 6).trans rfl⟩, below_step (below_step HB.out hb6) hb7, BK7.out, Kd.R_below (Kd.R_below (Kd.R_mono (Kd.R_bound HL.out) hokk) hb6) hb7, blk_below hbox6 hb7, hbox7, by omega, by have := hb6.size; omega, by have := hb6.size; omega⟩)
    ·skip
     refine box_step ?hg (N := 7) ?hd (cs := #[.int .i64 0]) (t := 3) ?hr ?_; (case hd => rfl); (case hg => rfl); (case hr => first | (go_simp; done) | (go_simp; rfl))
     intro U7 hg7 w7 hbox7 hb7
     have BK7 := Sd.mk (blk_below BK.out hb7)
     refine hK.out _ _ ⟨(blk_cell BK7.out 0).trans rfl, (blk_cell BK7.out 1).trans rfl, (blk_cell BK7.out 2).trans rfl, (blk_cell BK7.out 3).trans rfl, (blk_cell BK7.out 4).trans rfl, (blk_cell BK7.out 5).trans rfl, (blk_cell BK7.out 6).trans rfl⟩ (fun hHeld => ?_)
     clear hK K
     refine norm_ (a' := ?_) ?_ ?_
     rotate_left
     ·show Act.put _ (some 7) _ = _
      exact tP
     refine one_ (i := 6) (N := some 6) #[true, true, true, true, true, true, true, true, false, false] rfl rfl (one_of HT_.out (by kernel_rfl)) (by decide) (fun K hK => ?_)
     refine box_step ?hg (N := 6) ?hd (cs := #[.int .i64 0]) (t := 3) ?hr ?_; (case hd => rfl); (case hg => rfl); (case hr => first | (go_simp; done) | (go_simp; rfl))
     intro U6 hg6 w6 hbox6 hb6
     have BK6 := Sd.mk (blk_below BK7.out hb6)
     refine hK.out _ _ ⟨(blk_cell BK6.out 0).trans rfl, (blk_cell BK6.out 1).trans rfl, (blk_cell BK6.out 2).trans rfl, (blk_cell BK6.out 3).trans rfl, (blk_cell BK6.out 4).trans rfl, (blk_cell BK6.out 5).trans rfl, (blk_cell BK6.out 6).trans rfl⟩ (fun hHeld => ?_)
     clear hK K
     refine norm_ (a' := ?_) ?_ ?_
     rotate_left
     ·show Act.put _ (some 6) _ = _
      exact tP
     have hl1 := blk_lt BK.out
     have hl2 := blk_lt hbox7
     have hokk : ∀ j, (True ∧ w.heap.size ≤ j ∧ j < W0.heap.size ∧ ∃ q, q ∈ 168 :: k168.E ∧ ∃ cells, W0.heap[j]? = some (.cells cells q (0, 0))) → j ≠ U6 ∧ j ≠ U7 := fun j hj => ⟨by have := hj.2.2.1; omega, by have := hj.2.2.1; omega⟩
     exact norm_ (by simp only [putAll, Act.put, List.setIfInBounds_toArray, List.set_cons_zero, List.set_cons_succ]) (hCont (U6, U7) _ ⟨⟨(blk_cell BK6.out 0).trans rfl, (blk_cell BK6.out 1).trans rfl, (blk_cell BK6.out 2).trans rfl, (blk_cell BK6.out 3).trans rfl, (blk_cell BK6.out 4).trans rfl, (blk_cell BK6.out 5).trans rfl, (blk_cell BK6.out 6).trans rfl⟩, below_step (below_step HB.out hb7) hb6, BK6.out, Kd.R_below (Kd.R_below (Kd.R_mono (Kd.R_bound HL.out) hokk) hb7) hb6, hbox6, blk_below hbox7 hb6, by omega, by have := hb7.size; omega, by have := hb7.size; omega⟩)
   rintro ⟨U6, U7⟩ w7 ⟨hS_, hB, hBK, hL, h6, h7, hne, hg6, hg7⟩
   dsimp only at hB hBK hL h6 h7 hne hg6 hg7
   clear HB BK HL
   refine norm_ (a' := ?_) ?_ ?_
   rotate_left
   ·simp only [putAll, Act.put, List.setIfInBounds_toArray, List.set_cons_zero, List.set_cons_succ]
    rfl
   have h60 : w7.cell? ⟨U6, 0, none⟩ = some (.int .i64 0) := (blk_cell h6 0).trans rfl
   have f60 := blk_frozen h6 0
   refine one_ (i := 8) (N := none) #[true, true, true, true, true, true, true, true, true, false] rfl rfl (one_of HT_.out (by kernel_rfl)) (by decide) (fun K hK => ?_)
   refine skip_ (w1 := ?_) (by rfl) rfl ?_ ?_
   rotate_left
   ·go_simp
    rfl
   have hBK8 := blk_far hBK (p := ⟨U6, 0, none⟩) (show w.heap.size ≠ U6 by omega) (.int .i64 a0_4)
   have hL8 := Kd.R_far hL (p := ⟨U6, 0, none⟩) (fun j hj => hj.1) (.int .i64 a0_4)
   have hB8 := below_set (j := 0) (v := .int .i64 a0_4) hB (show w.heap.size ≤ U6 by omega)
   have h68 := blk_put (cs := #[.int .i64 0]) h6 0 (.int .i64 a0_4) rfl
   have h78 := blk_far h7 (p := ⟨U6, 0, none⟩) (Ne.symm hne) (.int .i64 a0_4)
   refine hK.out _ _ ⟨(blk_cell hBK8 0).trans rfl, (blk_cell hBK8 1).trans rfl, (blk_cell hBK8 2).trans rfl, (blk_cell hBK8 3).trans rfl, (blk_cell hBK8 4).trans rfl, (blk_cell hBK8 5).trans rfl, (blk_cell hBK8 6).trans rfl⟩ (fun hHeld => ?_)
   clear hK K h60 f60
   have h70 : (w7.setCell ⟨U6, 0, none⟩ (.int .i64 a0_4)).cell? ⟨U7, 0, none⟩ = some (.int .i64 0) := (blk_cell h78 0).trans rfl
   have f70 := blk_frozen h78 0
   refine one_ (i := 9) (N := none) #[true, true, true, true, true, true, true, true, true, true] rfl rfl (one_of HT_.out (by kernel_rfl)) (by decide) (fun K hK => ?_)
   refine skip_ (w1 := ?_) (by rfl) rfl ?_ ?_
   rotate_left
   ·go_simp
    rfl
   have BK := Sd.mk (blk_far hBK8 (p := ⟨U7, 0, none⟩) (show w.heap.size ≠ U7 by omega) (.int .i64 a0_5))
   have HL := Sd.mk (Kd.R_mono (ok' := fun _ => True) (Kd.R_far hL8 (p := ⟨U7, 0, none⟩) (fun j hj => hj.2) (.int .i64 a0_5)) (fun _ _ => trivial))
   have HB := Sd.mk (below_set (j := 0) (v := .int .i64 a0_5) hB8 (show w.heap.size ≤ U7 by omega))
   have B6 := Sd.mk (blk_far h68 (p := ⟨U7, 0, none⟩) hne (.int .i64 a0_5))
   have B7 := Sd.mk (blk_put (cs := #[.int .i64 0]) h78 0 (.int .i64 a0_5) rfl)
   refine hK.out _ _ ⟨(blk_cell BK.out 0).trans rfl, (blk_cell BK.out 1).trans rfl, (blk_cell BK.out 2).trans rfl, (blk_cell BK.out 3).trans rfl, (blk_cell BK.out 4).trans rfl, (blk_cell BK.out 5).trans rfl, (blk_cell BK.out 6).trans rfl⟩ (fun hHeld => ?_)
   clear hK K h70 f70 hBK8 hL8 hB8 h68 h78 hB hBK hL h6 h7 hne hg6 hg7 hS_
   refine done_ (done_of HT_.out (by kernel_rfl)) ?_
   go_upto_region 8 with (fail)
   generalize ((w7.setCell ⟨U6, 0, none⟩ (.int .i64 a0_4)).setCell ⟨U7, 0, none⟩ (.int .i64 a0_5)) = WX at *
   have H := HH.out
   have hr := HRX.out
   have HQ5 := Sd.mk (facQ125 H (u := a0_5) (by omega) B7.out).1
   have HQ6 := Sd.mk (facQ125 H (u := a0_4) (by omega) B6.out).2
   have HBZ := Sd.mk (Below.refl WX.heap.size WX)
   clear B6 B7 H hr
   refine start_ (n := 10) (S := fun w' => w'.cell? ⟨w.heap.size, 0, none⟩ = some (.slice A0_0 l0_0.length c0_0) ∧ w'.cell? ⟨w.heap.size, 1, none⟩ = some (.slice A0_1 l0_1.length c0_1) ∧ w'.cell? ⟨w.heap.size, 2, none⟩ = some (.slice A0_2 l0_2.length c0_2) ∧ w'.cell? ⟨w.heap.size, 3, none⟩ = some (.slice A0_3 l0_3.length c0_3) ∧ w'.cell? ⟨w.heap.size, 4, none⟩ = some (.int .i64 a0_4) ∧ w'.cell? ⟨w.heap.size, 5, none⟩ = some (.int .i64 a0_5) ∧ w'.cell? ⟨w.heap.size, 6, none⟩ = some (.int .i64 a0_6)) (ds := []) #[false, false, false, false, false, false, false, false, false, false] (by kernel_rfl) rfl rfl ⟨(blk_cell BK.out 0).trans rfl, (blk_cell BK.out 1).trans rfl, (blk_cell BK.out 2).trans rfl, (blk_cell BK.out 3).trans rfl, (blk_cell BK.out 4).trans rfl, (blk_cell BK.out 5).trans rfl, (blk_cell BK.out 6).trans rfl⟩ (fun hHeld => ?_); refine with_tabW lines8_tab lines8_bits (fun HT_ HW_ => ?_)
   replace BK := Sd.mk (blk_drew BK.out)
   replace HL := Sd.mk (Kd.R_drew HL.out)
   replace HB := Sd.mk (below_drew1 HB.out)
   replace HBZ := Sd.mk (below_drew1 HBZ.out)
   generalize WX.drew = W9 at BK HL HB HBZ hHeld ⊢
   refine pure_ (i := 0) (N := some 37) (v := ?_) (a' := ?_) #[true, false, false, false, false, false, false, false, false, false] rfl rfl (any_of HT_.out (by kernel_rfl)) (fun _ _ _ h => h) (Or.inl ⟨by rfl, ?_⟩) ?_ ?_
   rotate_left
   ·exact tW
   rotate_left
   ·exact tP
   refine take_ (i := 1) (N := some 38) (v := ?_) (a' := ?_) #[true, true, false, false, false, false, false, false, false, false] rfl rfl (take_ofW HT_.out HW_.out (by kernel_rfl)) (fun _ _ _ h => h) (Or.inl ⟨by rfl, ?_⟩) hHeld ?_ ?_
   rotate_left
   ·rintro w' ⟨s0, s1, s2, s3, s4, s5, s6⟩
    go_simp
    with_reducible rfl
   rotate_left
   ·exact tP
   refine pure_ (i := 2) (N := some 39) (v := ?_) (a' := ?_) #[true, true, true, false, false, false, false, false, false, false] rfl rfl (any_of HT_.out (by kernel_rfl)) (fun _ _ _ h => h) (Or.inl ⟨by rfl, ?_⟩) ?_ ?_
   rotate_left
   ·exact tW
   rotate_left
   ·exact tP
   refine take_ (i := 4) (N := some 41) (v := ?_) (a' := ?_) #[true, true, true, false, true, false, false, false, false, false] rfl rfl (take_ofW HT_.out HW_.out (by kernel_rfl)) (fun _ _ _ h => h) (Or.inl ⟨by rfl, ?_⟩) hHeld ?_ ?_
   rotate_left
   ·rintro w' ⟨s0, s1, s2, s3, s4, s5, s6⟩
    go_simp
    with_reducible rfl
   rotate_left
   ·exact tP
   refine pure_ (i := 5) (N := some 42) (v := ?_) (a' := ?_) #[true, true, true, false, true, true, false, false, false, false] rfl rfl (any_of HT_.out (by kernel_rfl)) (fun _ _ _ h => h) (Or.inl ⟨by rfl, ?_⟩) ?_ ?_
   rotate_left
   ·exact tW
   rotate_left
   ·exact tP
   refine one_ (i := 3) (N := some 40) #[true, true, true, true, true, true, false, false, false, false] rfl rfl (one_of HT_.out (by kernel_rfl)) (by decide) (fun K hK => ?_)
   refine goes_ Tryz.func138 (by kernel_rfl) rfl #[.agg #[.slice A0_0 l0_0.length c0_0, .slice A0_1 l0_1.length c0_1, .slice A0_2 l0_2.length c0_2, .slice A0_3 l0_3.length c0_3, .int .i64 a0_4, .int .i64 a0_5, .int .i64 a0_6], .int .i64 0, .func (.func 146) #[] #[.pointer (some ⟨U7, 0, none⟩)]] (by rfl) rfl rfl (by (try simp only [List.map_toArray, List.map_cons, List.map_nil]); first | done | rfl) ?_
   refine (line_calls A0_0 A0_1 A0_2 A0_3 l0_0.length c0_0 c0_1 l0_2.length c0_2 l0_3.length c0_3 l0_1 a0_4 a0_5 a0_6 0 146 #[.pointer (some ⟨U7, 0, none⟩)] (rUp a0_5) _ (enters_of Tryz.func146 (by kernel_rfl) rfl) (fun W hW => HQ5.out W (below_trans' HBZ.out hW)) (Kd.C_below HR1.out HB.out) HM12.out).mono ?_
   rintro e w4 ⟨v1, rfl, hR, hb⟩
   refine ⟨_, rfl, ?_⟩
   have Hv1 := Sd.mk (Kd.R_lower hR (below_size HB.out))
   replace BK := Sd.mk (blk_below BK.out hb)
   replace HL := Sd.mk (Kd.R_below HL.out hb)
   replace HBZ := Sd.mk (below_step HBZ.out hb)
   replace HB := Sd.mk (below_step HB.out hb)
   clear hb hR
   refine hK.out _ _ ⟨(blk_cell BK.out 0).trans rfl, (blk_cell BK.out 1).trans rfl, (blk_cell BK.out 2).trans rfl, (blk_cell BK.out 3).trans rfl, (blk_cell BK.out 4).trans rfl, (blk_cell BK.out 5).trans rfl, (blk_cell BK.out 6).trans rfl⟩ (fun hHeld => ?_)
   clear hK K
   refine norm_ (a' := ?_) ?_ ?_
   rotate_left
   ·show Act.put _ (some 40) _ = _
    exact tP
   refine one_ (i := 6) (N := some 43) #[true, true, true, true, true, true, true, false, false, false] rfl rfl (one_of HT_.out (by kernel_rfl)) (by decide) (fun K hK => ?_)
   refine goes_ Tryz.func138 (by kernel_rfl) rfl #[.agg #[.slice A0_0 l0_0.length c0_0, .slice A0_1 l0_1.length c0_1, .slice A0_2 l0_2.length c0_2, .slice A0_3 l0_3.length c0_3, .int .i64 a0_4, .int .i64 a0_5, .int .i64 a0_6], .int .i64 0, .func (.func 147) #[] #[.pointer (some ⟨U6, 0, none⟩)]] (by rfl) rfl rfl (by (try simp only [List.map_toArray, List.map_cons, List.map_nil]); first | done | rfl) ?_
   refine (line_calls A0_0 A0_1 A0_2 A0_3 l0_0.length c0_0 c0_1 l0_2.length c0_2 l0_3.length c0_3 l0_1 a0_4 a0_5 a0_6 0 147 #[.pointer (some ⟨U6, 0, none⟩)] (rDn a0_4) _ (enters_of Tryz.func147 (by kernel_rfl) rfl) (fun W hW => HQ6.out W (below_trans' HBZ.out hW)) (Kd.C_below HR1.out HB.out) HM12.out).mono ?_
   rintro e w4 ⟨v2, rfl, hR, hb⟩
   refine ⟨_, rfl, ?_⟩
   have Hv2 := Sd.mk (Kd.R_lower hR (below_size HB.out))
   replace Hv1 := Sd.mk (Kd.R_below Hv1.out hb)
   replace BK := Sd.mk (blk_below BK.out hb)
   replace HL := Sd.mk (Kd.R_below HL.out hb)
   replace HBZ := Sd.mk (below_step HBZ.out hb)
   replace HB := Sd.mk (below_step HB.out hb)
   clear hb hR
   refine hK.out _ _ ⟨(blk_cell BK.out 0).trans rfl, (blk_cell BK.out 1).trans rfl, (blk_cell BK.out 2).trans rfl, (blk_cell BK.out 3).trans rfl, (blk_cell BK.out 4).trans rfl, (blk_cell BK.out 5).trans rfl, (blk_cell BK.out 6).trans rfl⟩ (fun hHeld => ?_)
   clear hK K
   refine norm_ (a' := ?_) ?_ ?_
   rotate_left
   ·show Act.put _ (some 43) _ = _
    exact tP
   refine one_ (i := 7) (N := some 44) #[true, true, true, true, true, true, true, true, false, false] rfl rfl (one_of HT_.out (by kernel_rfl)) (by decide) (fun K hK => ?_)
   refine value_ (w1 := ?_) (v := ?_) (by rfl) rfl ?_ ?_
   rotate_left 2
   ·go_simp
    constructor
    ·rfl
    ·rfl
   refine hK.out _ _ ⟨(blk_cell (blk_alloc BK.out _) 0).trans rfl, (blk_cell (blk_alloc BK.out _) 1).trans rfl, (blk_cell (blk_alloc BK.out _) 2).trans rfl, (blk_cell (blk_alloc BK.out _) 3).trans rfl, (blk_cell (blk_alloc BK.out _) 4).trans rfl, (blk_cell (blk_alloc BK.out _) 5).trans rfl, (blk_cell (blk_alloc BK.out _) 6).trans rfl⟩ (fun hHeld => ?_)
   clear hK K
   refine norm_ (a' := ?_) ?_ ?_
   rotate_left
   ·show Act.put _ (some 44) _ = _
    exact tP
   refine one_ (i := 8) (N := some 45) #[true, true, true, true, true, true, true, true, true, false] rfl rfl (one_of HT_.out (by kernel_rfl)) (by decide) (fun K hK => ?_)
   refine Kd.R_append_rows_step k168 (w0 := w) w.heap.size (by rfl) (.tmp 37) (.tmp 44) 100 168 (.agg #[.slice none 0 0, .int .i64 0]) 32 rfl Tryz.underlying100 info168 rfl (by decide) (by omega) u3 (headL l0_1 l0_2 l0_3 a0_6 k) [⟨l0_1.map (rUp a0_5), 0⟩, ⟨l0_1.map (rDn a0_4), 0⟩] (some ⟨_, 0, none⟩) 2 2 (fun _ => True) (fun j => some j ≠ u3.ownBlock) rfl rfl (Kd.R_alloc HL.out _) (pair_reads (x := ⟨l0_1.map (rUp a0_5), 0⟩) (x' := ⟨l0_1.map (rDn a0_4), 0⟩) HL.out (by rw [headL_len]; omega) Hv1.out Hv2.out (below_size HB.out)) (fun _ _ hp => hp) (fun _ hk => ⟨trivial, hk⟩) (fun _ _ => trivial) (below_alloc HB.out _) ?aS ?aL ?_
   (case aS => exact below_size (below_alloc HB.out _))
   (case aL => exact (by rw [headL_len]; exact Nat.le_trans (Nat.mul_le_mul_right 32 HSZ.out) (by decide)))
   intro v5 w5 ho hb hg hat
   have BK2 := Sd.mk (blk_grown (blk_alloc BK.out _) hg (Kd.R_ne HL.out BK.out (by decide)))
   have HO := Sd.mk ho
   have HB2 := Sd.mk hb
   clear BK HL HB Hv1 Hv2 hb ho hat hg
   refine hK.out _ _ ⟨(blk_cell BK2.out 0).trans rfl, (blk_cell BK2.out 1).trans rfl, (blk_cell BK2.out 2).trans rfl, (blk_cell BK2.out 3).trans rfl, (blk_cell BK2.out 4).trans rfl, (blk_cell BK2.out 5).trans rfl, (blk_cell BK2.out 6).trans rfl⟩ (fun hHeld => ?_)
   clear hK K
   refine norm_ (a' := ?_) ?_ ?_
   rotate_left
   ·show Act.put _ (some 45) _ = _
    exact tP
   refine pure_ (i := 9) (N := some 2) (v := ?_) (a' := ?_) #[true, true, true, true, true, true, true, true, true, true] rfl rfl (any_of HT_.out (by kernel_rfl)) (fun _ _ _ h => h) (Or.inl ⟨by rfl, ?_⟩) ?_ ?_
   rotate_left
   ·exact tW
   rotate_left
   ·exact tP
   refine done_ (done_of HT_.out (by kernel_rfl)) ?_
   go_wp2
   go_ret
   have hkn := HKN.out
   subst hkn
   exact ⟨v5, rfl, HO.out, HB2.out⟩
end Go.Proofs.YtljfljekcpdpiaaGreat.PB

namespace Go.Proofs.YtljfljekcpdpiaaGreat.PB
open Go.RowKit Go.Proofs.YtljfljekcpdpiaaGreatW.PrintWords Go.Proofs.YtljfljekcpdpiaaGreatW.PrintLast Go.Proofs.YtljfljekcpdpiaaGreatW.PrintMore
def x_lines.f (l0_0 : List ByteArray) (l0_1 : List (S70)) (l0_2 : List (S27)) (l0_3 : List (S89)) (a0_4 : Int) (a0_5 : Int) (a0_6 : Int) : Option (List S168) :=
  if checkV l0_0 l0_1 l0_2 l0_3 a0_4 a0_5 a0_6 = 0 then some (linesV l0_1 l0_2 l0_3 a0_4 a0_5 a0_6) else none
theorem x_lines.calls (A0_0 : Option Addr) (c0_0 : Nat) (l0_0 : List ByteArray) (A0_1 : Option Addr) (c0_1 : Nat) (l0_1 : List (S70)) (A0_2 : Option Addr) (c0_2 : Nat) (l0_2 : List (S27)) (A0_3 : Option Addr) (c0_3 : Nat) (l0_3 : List (S89)) (a0_4 : Int) (a0_5 : Int) (a0_6 : Int) (r : List S168) (w : World) (hr0_0 : Kd.C Kd.string w A0_0 l0_0.length l0_0) (hc0_0 : l0_0.length ≤ c0_0) (hr0_1 : Kd.C k70 w A0_1 l0_1.length l0_1) (hc0_1 : l0_1.length ≤ c0_1) (hr0_2 : Kd.C k27 w A0_2 l0_2.length l0_2) (hc0_2 : l0_2.length ≤ c0_2) (hr0_3 : Kd.C k89 w A0_3 l0_3.length l0_3) (hc0_3 : l0_3.length ≤ c0_3) (h : x_lines.f l0_0 l0_1 l0_2 l0_3 a0_4 a0_5 a0_6 = some r) :
    Calls Tryz.prog 52 #[.agg #[.slice A0_0 l0_0.length c0_0, .slice A0_1 l0_1.length c0_1, .slice A0_2 l0_2.length c0_2, .slice A0_3 l0_3.length c0_3, .int .i64 a0_4, .int .i64 a0_5, .int .i64 a0_6]] w fun e w' => ∃ v0_ : Value, e = .returned v0_ ∧ Kd.R k168 168 w' w.heap.size (fun _ => True) v0_ r ∧ Below w.heap.size w w' := by
  unfold x_lines.f at h
  by_cases hc : checkV l0_0 l0_1 l0_2 l0_3 a0_4 a0_5 a0_6 = 0
  · rw [if_pos hc] at h
    obtain rfl := Option.some.inj h
    exact lines_calls A0_0 c0_0 l0_0 A0_1 c0_1 l0_1 A0_2 c0_2 l0_2 A0_3 c0_3 l0_3 a0_4 a0_5 a0_6 w hr0_0 hc0_0 hr0_1 hc0_1 hr0_2 hc0_2 hr0_3 hc0_3 (check_ok hc)
  · rw [if_neg hc] at h; cases h
end Go.Proofs.YtljfljekcpdpiaaGreat.PB

namespace Go.Proofs.YtljfljekcpdpiaaGreat.PB
open Go.RowKit Go.Proofs.YtljfljekcpdpiaaGreatW.PrintWords Go.Proofs.YtljfljekcpdpiaaGreatW.PrintLast Go.Proofs.YtljfljekcpdpiaaGreatW.PrintMore
attribute [local go_sem] max2_int min2_int max_two min_two max_three min_three max_four min_four
def batch_value.l0 : Nat → List Int → Int → List Int → Int → Int → Option (Int)
 | 0, _, _, _, _, _ => none
 | k + 1, x1, x5, x9, x10, x11 => if x11 < x10 then (if 0 ≤ x11 then (if x11 < (x9.length : Int) then (if x11 < (x1.length : Int) then (batch_value.l0 k x1 (wrap64 (x5 + (wrap64 ((rd x1 x11) * (rd x9 x11))))) x9 x10 (wrap64 (x11 + 1))) else (none)) else (none)) else (none)) else (some x5)
def batch_value.f (k : Nat) (l0_0 : List Int) (a0_1 : Int) (l1 : List Int) : Option (Int) := batch_value.l0 k l1 0 l0_0 (l0_0.length : Int) 0
set_option maxHeartbeats 8000000 in
set_option maxRecDepth 100000 in
theorem batch_value.calls (k : Nat) (A0_0 : Option Addr) (c0_0 : Nat) (l0_0 : List Int) (a0_1 : Int) (A1 : Option Addr) (c1 : Nat) (l1 : List Int) (r : Int) (w : World) (hr0_0 : Kd.C (Kd.int .i64) w A0_0 l0_0.length l0_0) (hc0_0 : l0_0.length ≤ c0_0) (hr1 : Kd.C (Kd.int .i64) w A1 l1.length l1) (hc1 : l1.length ≤ c1) (h : batch_value.f k l0_0 a0_1 l1 = some r) :
  Calls Tryz.prog 137 #[.agg #[.slice A0_0 l0_0.length c0_0, .int .i64 a0_1], .slice A1 l1.length c1] w fun e w' => e = .returned (.int .i64 r) ∧ Below w.heap.size w w' := by
 have hu168 := Tryz.underlying168; have HR0_0 := Sd.mk hr0_0; have HC0_0 := Sd.mk hc0_0; clear hr0_0 hc0_0; have HR1 := Sd.mk hr1; have HC1 := Sd.mk hc1; clear hr1 hc1; have HB := Sd.mk (Below.refl w.heap.size w)
 have H : (batch_value.l0 k l1 0 l0_0 (l0_0.length : Int) 0) = some r := h
 clear h; have H' := Sd.mk H; clear H
 go_enter Tryz.func137, Tryz.ntmps137
 go_wp2_with (first | ((with_reducible refine gate_dst (N := 2) rfl ?_); refine box_event ?hg (N := 2) ?hd (cs := #[.slice A0_0 l0_0.length c0_0, .int .i64 a0_1]) (t := 168) ?hr ?_; (case hd => rfl); (case hg => rfl); (case hr => exact tG); intro gb1009 hg w3 hbox hb; have BK1009 := Sd.mk (hbox); have GW1009 := Sd.mk (bSz hg (bBl HB.out)); have GE1009 := Sd.mk (bSz hg (bBl HB.out)); replace HB := Sd.mk (below_step (bBl HB.out) hb); clear hb hbox hg; obtain ⟨u4_0, u4_1, o4_0, o4_1⟩ := bc2 (w := w3) BK1009.out))
 go_loopg [5, 11] k (fun kq v5 v11 w' => ∃ (x5_1 : Int) (x11_1 : Int), v5 = .int .i64 x5_1 ∧ v11 = .int .i64 x11_1 ∧ Sd (batch_value.l0 kq l1 x5_1 l0_0 (l0_0.length : Int) x11_1 = some r) ∧ Sd (kq ≤ k) ∧ Sd (w'.heap[gb1009]? = some (.cells #[(.slice A0_0 l0_0.length c0_0), .int .i64 a0_1] 168 (0, 0))) ∧ Sd (Below w.heap.size w w'))
 case atStart => exact ⟨(0), (0), tS, tS, H', ⟨Nat.le_refl _⟩, ⟨bkA BK1009.out⟩, ⟨bBl HB.out⟩⟩
 case round =>
  clear H'; (try clear c1); (try clear p2); (try clear u4_0 u4_1); (try clear o4_0 o4_1); obtain ⟨x5_1, x11_1, rfl, rfl, HA, HK1, BK1009, HB⟩ := hrel
  cases gk with
  | zero => exact absurd HA.out (by simp [batch_value.l0])
  | succ k1 =>
   have H := HA.out; clear HA
   simp only [batch_value.l0] at H
   by_cases c5 : x11_1 < (l0_0.length : Int)
   ·rw [if_pos c5] at H
    have c5b0 : decide (x11_1 < (l0_0.length : Int)) = true := decide_eq_true c5
    clear c5
    by_cases c6 : 0 ≤ x11_1
    ·rw [if_pos c6] at H
     have c6b0 : decide (0 ≤ x11_1) = true := decide_eq_true c6
     clear c6
     by_cases c7 : x11_1 < (l0_0.length : Int)
     ·rw [if_pos c7] at H
      have c7b0 : decide (x11_1 < (l0_0.length : Int)) = true := decide_eq_true c7
      clear c7
      by_cases c8 : x11_1 < (l1.length : Int)
      ·rw [if_pos c8] at H
       have c8b0 : decide (x11_1 < (l1.length : Int)) = true := decide_eq_true c8
       clear c8; have H' := Sd.mk H; clear H
       have p1010 : 0 ≤ (x11_1 : Int) := tB
       have q1010 : x11_1 < (l0_0.length : Int) := tB
       obtain ⟨ad1010, e1010, hx1010_0⟩ := Kd.at_int HR0_0.out x11_1 p1010 q1010; cases e1010; replace hx1010_0 := cU HB hx1010_0; replace p1010 := eq_true p1010; replace q1010 := eq_true q1010
       have p1011 : 0 ≤ (x11_1 : Int) := tB
       have q1011 : x11_1 < (l1.length : Int) := tB
       obtain ⟨ad1011, e1011, hx1011_0⟩ := Kd.at_int HR1.out x11_1 p1011 q1011; cases e1011; replace hx1011_0 := cU HB hx1011_0; replace p1011 := eq_true p1011; replace q1011 := eq_true q1011
       go_wp2
       go_roundg k1
       case measure => have := HK1.out; omega
       case rel => exact ⟨(wrap64 (x5_1 + (wrap64 ((rd l1 x11_1) * (rd l0_0 x11_1))))), (wrap64 (x11_1 + 1)), tS, tS, H', ⟨by have := HK1.out; omega⟩, ⟨bkA BK1009.out⟩, ⟨bBl HB.out⟩⟩
      ·rw [if_neg c8] at H
       exact absurd H (by simp)
     ·rw [if_neg c7] at H
      exact absurd H (by simp)
    ·rw [if_neg c6] at H
     exact absurd H (by simp)
   ·rw [if_neg c5] at H
    have c5b0 : decide (x11_1 < (l0_0.length : Int)) = false := decide_eq_false c5
    clear c5; obtain rfl := Option.some.inj H
    go_wp2
    go_ret
    exact ⟨tE, bBl HB.out⟩
end Go.Proofs.YtljfljekcpdpiaaGreat.PB

namespace Go.Proofs.YtljfljekcpdpiaaGreat.PB
open Go.RowKit Go.Proofs.YtljfljekcpdpiaaGreatW.PrintWords Go.Proofs.YtljfljekcpdpiaaGreatW.PrintLast Go.Proofs.YtljfljekcpdpiaaGreatW.PrintMore
def vW (r fs : List Int) : Nat → Int
 | 0 => 0
 | i + 1 => wrap64 (vW r fs i + wrap64 (rd r (i : Int) * rd fs (i : Int)))
theorem value_l0 (r fs : List Int) (h1 : fs.length ≤ r.length) (h2 : fs.length ≤ 1000000) : ∀ (m i : Nat), i + m = fs.length → Ev (fun k => batch_value.l0 k r (vW r fs i) fs (fs.length : Int) (i : Int)) (vW r fs fs.length)
 | 0, i, hi => by
  apply Ev.step
  simp only [batch_value.l0, if_neg (show ¬ (i : Int) < (fs.length : Int) by omega)]
  rw [show i = fs.length by omega]
  exact Ev.const _
 | m + 1, i, hi => by
  have ih := value_l0 r fs h1 h2 m (i + 1) (by omega)
  apply Ev.step
  simp only [batch_value.l0, if_pos (show (i : Int) < (fs.length : Int) by omega), if_pos (i_pos i), if_pos (show (i : Int) < (r.length : Int) by omega), wrap_succ (i_pos i) (show (i : Int) ≤ 1000000000 by omega)]
  exact ih
theorem value_calls (x : S168) (r : List Int) (Ax A1 : Option Addr) (cx c1 : Nat) (w : World) (hx : Kd.C (Kd.int .i64) w Ax x.f0.length x.f0) (hcx : x.f0.length ≤ cx) (hr : Kd.C (Kd.int .i64) w A1 r.length r) (hc1 : r.length ≤ c1) (h1 : x.f0.length ≤ r.length) (h2 : x.f0.length ≤ 1000000) :
  Calls Tryz.prog 137 (#[.agg #[.slice Ax x.f0.length cx, .int .i64 x.f1]] ++ #[.slice A1 r.length c1]) w fun e w' => e = .returned (.int .i64 (vW r x.f0 x.f0.length)) ∧ Below w.heap.size w w' := by
 obtain ⟨K, hK⟩ := value_l0 r x.f0 h1 h2 x.f0.length 0 (by omega)
 exact batch_value.calls K Ax cx x.f0 x.f1 A1 c1 r _ w hx hcx hr hc1 (hK K (Nat.le_refl _))
def keepT : Bool × List (List Nat × List Nat) := (true, [([], []), ([], []), ([0, 1], [0, 1]), ([], []), ([], []), ([4], [4]), ([3, 5], [3, 5]), ([2, 6], [2, 6]), ([7, 2, 0, 1, 2, 3, 4, 5, 6, 7], [7])])
def keepB : List Nat := [0, 0, 3, 0, 0, 16, 56, 127, 255]
theorem keep_tab : rtab .any (opsOf Tryz.f136 1) = keepT := by kernel_rfl
theorem keep_bits : waitsOk keepT.2 keepB = true := by kernel_rfl
set_option maxHeartbeats 2000000 in
set_option maxRecDepth 100000 in
theorem k110_calls (x : S168) (r : List Int) (Ax A1 : Option Addr) (cx c1 R T_ : Nat) (t : Int) (w : World) (hx : Kd.C (Kd.int .i64) w Ax x.f0.length x.f0) (hcx : x.f0.length ≤ cx) (hr : Kd.C (Kd.int .i64) w A1 r.length r) (hc1 : r.length ≤ c1) (h1 : x.f0.length ≤ r.length) (h2 : x.f0.length ≤ 1000000)
  (hR : w.heap[R]? = some (.cells #[.slice A1 r.length c1] 30 (0, 0))) (hT : w.heap[T_]? = some (.cells #[.int .i64 t] 3 (0, 0))) :
  Calls Tryz.prog 136 #[.agg #[.slice Ax x.f0.length cx, .int .i64 x.f1], .pointer (some ⟨R, 0, none⟩), .pointer (some ⟨T_, 0, none⟩)] w fun e w' => e = .returned (.bool (decide (wrap64 (t * x.f1) < vW r x.f0 x.f0.length))) ∧ Below w.heap.size w w' := by
 have hb0 : Below w.heap.size w (w.alloc (.cells #[.slice Ax x.f0.length cx, .int .i64 x.f1] 168)) := below_alloc (Below.refl _ _) _
 have HB := Sd.mk hb0
 have BX := Sd.mk (blk_new w (.cells #[.slice Ax x.f0.length cx, .int .i64 x.f1] 168))
 have BR := Sd.mk (blk_below hR hb0)
 have BT := Sd.mk (blk_below hT hb0)
 have HX := Sd.mk (Kd.C_below hx hb0)
 have HR := Sd.mk (Kd.C_below hr hb0)
 have HCX := Sd.mk hcx
 have HC1 := Sd.mk hc1
 have H1 := Sd.mk h1
 have H2 := Sd.mk h2
 clear hx hcx hr hc1 h1 h2 hR hT hb0
 go_enter Tryz.func136, Tryz.ntmps136
 go_upto_region 1 with (fail)
 generalize w.alloc (.cells #[.slice Ax x.f0.length cx, .int .i64 x.f1] 168) = WX at *
 generalize hXX : w.heap.size = X at BX ⊢
 generalize hv : vW r x.f0 x.f0.length = v at *
 refine start_ (n := 9) (S := fun w' => w'.cell? ⟨X, 0, none⟩ = some (.slice Ax x.f0.length cx) ∧ w'.cell? ⟨X, 1, none⟩ = some (.int .i64 x.f1) ∧ w'.cell? ⟨R, 0, none⟩ = some (.slice A1 r.length c1) ∧ w'.cell? ⟨T_, 0, none⟩ = some (.int .i64 t)) (ds := []) #[false, false, false, false, false, false, false, false, false] (by kernel_rfl) rfl rfl ⟨(blk_cell BX.out 0).trans rfl, (blk_cell BX.out 1).trans rfl, (blk_cell BR.out 0).trans rfl, (blk_cell BT.out 0).trans rfl⟩ (fun hHeld => ?_); refine with_tabW keep_tab keep_bits (fun HT_ HW_ => ?_)
 replace BX := Sd.mk (blk_drew BX.out)
 replace BR := Sd.mk (blk_drew BR.out)
 replace BT := Sd.mk (blk_drew BT.out)
 replace HX := Sd.mk (Kd.C_drew HX.out)
 replace HR := Sd.mk (Kd.C_drew HR.out)
 replace HB := Sd.mk (below_drew1 HB.out)
 generalize WX.drew = W0 at BX BR BT HX HR HB hHeld ⊢
 refine take_ (i := 0) (N := some 5) (v := ?_) (a' := ?_) #[true, false, false, false, false, false, false, false, false] rfl rfl (take_ofW HT_.out HW_.out (by kernel_rfl)) (fun _ _ _ h => h) (Or.inl ⟨by rfl, ?_⟩) hHeld ?_ ?_
 rotate_left
 ·rintro w' ⟨s0, s1, s2, s3⟩
  go_simp
  with_reducible rfl
 rotate_left
 ·exact tP
 refine take_ (i := 1) (N := some 6) (v := ?_) (a' := ?_) #[true, true, false, false, false, false, false, false, false] rfl rfl (take_ofW HT_.out HW_.out (by kernel_rfl)) (fun _ _ _ h => h) (Or.inl ⟨by rfl, ?_⟩) hHeld ?_ ?_
 rotate_left
 ·rintro w' ⟨s0, s1, s2, s3⟩
  go_simp
  with_reducible rfl
 rotate_left
 ·exact tP
 refine take_ (i := 3) (N := some 8) (v := ?_) (a' := ?_) #[true, true, false, true, false, false, false, false, false] rfl rfl (take_ofW HT_.out HW_.out (by kernel_rfl)) (fun _ _ _ h => h) (Or.inl ⟨by rfl, ?_⟩) hHeld ?_ ?_
 rotate_left
 ·rintro w' ⟨s0, s1, s2, s3⟩
  go_simp
  with_reducible rfl
 rotate_left
 ·exact tP
 refine pure_ (i := 4) (N := some 9) (v := ?_) (a' := ?_) #[true, true, false, true, true, false, false, false, false] rfl rfl (any_of HT_.out (by kernel_rfl)) (fun _ _ _ h => h) (Or.inl ⟨by rfl, ?_⟩) ?_ ?_
 rotate_left
 ·exact tW
 rotate_left
 ·exact tP
 refine take_ (i := 5) (N := some 10) (v := ?_) (a' := ?_) #[true, true, false, true, true, true, false, false, false] rfl rfl (take_ofW HT_.out HW_.out (by kernel_rfl)) (fun _ _ _ h => h) (Or.inl ⟨by rfl, ?_⟩) hHeld ?_ ?_
 rotate_left
 ·rintro w' ⟨s0, s1, s2, s3⟩
  go_simp
  with_reducible rfl
 rotate_left
 ·exact tP
 refine pure_ (i := 6) (N := some 11) (v := ?_) (a' := ?_) #[true, true, false, true, true, true, true, false, false] rfl rfl (any_of HT_.out (by kernel_rfl)) (fun _ _ _ h => h) (Or.inl ⟨by rfl, ?_⟩) ?_ ?_
 rotate_left
 ·exact tW
 rotate_left
 ·exact tP
 refine one_ (i := 2) (N := some 7) #[true, true, true, true, true, true, true, false, false] rfl rfl (one_of HT_.out (by kernel_rfl)) (by decide) (fun K hK => ?_)
 refine goes_ Tryz.func137 (by kernel_rfl) rfl (#[.agg #[.slice Ax x.f0.length cx, .int .i64 x.f1]] ++ #[.slice A1 r.length c1]) (by rfl) rfl rfl (by (try simp only [List.map_toArray, List.map_cons, List.map_nil]); first | done | rfl) ?_
 refine (value_calls x r Ax A1 cx c1 W0 HX.out HCX.out HR.out HC1.out H1.out H2.out).mono ?_
 rintro e w4 ⟨rfl, hb⟩
 refine ⟨_, rfl, ?_⟩
 replace BX := Sd.mk (blk_below BX.out hb)
 replace BR := Sd.mk (blk_below BR.out hb)
 replace BT := Sd.mk (blk_below BT.out hb)
 replace HB := Sd.mk (below_step HB.out hb)
 clear hb HX HR
 refine hK.out _ _ ⟨(blk_cell BX.out 0).trans rfl, (blk_cell BX.out 1).trans rfl, (blk_cell BR.out 0).trans rfl, (blk_cell BT.out 0).trans rfl⟩ (fun hHeld => ?_)
 clear hK K
 refine norm_ (a' := ?_) ?_ ?_
 rotate_left
 ·show Act.put _ (some 7) _ = _
  exact tP
 refine pure_ (i := 7) (N := some 12) (v := ?_) (a' := ?_) #[true, true, true, true, true, true, true, true, false] rfl rfl (any_of HT_.out (by kernel_rfl)) (fun _ _ _ h => h) (Or.inl ⟨by rfl, ?_⟩) ?_ ?_
 rotate_left
 ·exact tW
 rotate_left
 ·exact tP
 refine pure_ (i := 8) (N := some 4) (v := ?_) (a' := ?_) #[true, true, true, true, true, true, true, true, true] rfl rfl (any_of HT_.out (by kernel_rfl)) (fun _ _ _ h => h) (Or.inl ⟨by rfl, ?_⟩) ?_ ?_
 rotate_left
 ·exact tW
 rotate_left
 ·exact tP
 refine done_ (done_of HT_.out (by kernel_rfl)) ?_
 go_wp2
 go_ret
 subst hv
 exact ⟨by first | rfl | simp, HB.out⟩
def TellsL (g : Nat) (lb : Array Value) (x : S168) (b : Bool) (w : World) : Prop :=
 ∀ W, Below w.heap.size w W → ∀ (Ax : Option Addr) (cx : Nat), Kd.C (Kd.int .i64) W Ax x.f0.length x.f0 → x.f0.length ≤ cx →
  Calls Tryz.prog g (#[.agg #[.slice Ax x.f0.length cx, .int .i64 x.f1]] ++ lb) W fun e W' => e = .returned (.bool b) ∧ Below W.heap.size W W'
set_option maxHeartbeats 1000000 in
theorem indexFunc_line (p : S168 → Bool) (g : Nat) (lb : Array Value) (eg : ∀ args w, (callFunc g args).run Tryz.prog w = .ok (.enter g args) w)
  (A : Option Addr) (c : Nat) (l : List S168) (w : World) (hr : Kd.C k168 w A l.length l) (hg : ∀ x ∈ l, TellsL g lb x (p x) w) :
  Calls Tryz.prog 197 #[.slice A l.length c, .func (.func g) #[] lb] w fun e w' => e = .returned (.int .i64 (idxFrom p l 0)) ∧ Below w.heap.size w w' := by
 have HR := Sd.mk hr
 have HG := Sd.mk hg
 have hmax := Kd.C_max hr
 clear hr hg
 go_enter Tryz.func197, Tryz.ntmps197
 go_wp2
 go_loopg [5, 8] l.length (fun kq _ v8 w' => ∃ k : Nat, v8 = .int .i64 k ∧ k ≤ l.length ∧ Sd (l.length - k ≤ kq) ∧ Sd (idxFrom p l 0 = idxFrom p (l.drop k) k) ∧ Sd (Below w.heap.size w w'))
 case atStart => exact ⟨0, rfl, Nat.zero_le _, ⟨by omega⟩, ⟨rfl⟩, ⟨Below.refl _ _⟩⟩
 case round =>
  obtain ⟨k, rfl, hk, HM, HI, HB⟩ := hrel
  by_cases hlt : k < l.length
  ·have hltz : (k : Int) < (l.length : Int) := by omega
   obtain ⟨ad, Ax, cx, e, hc0, hc1, hlx, hix⟩ := at_T168 (Kd.C_below HR.out HB.out) (k : Int) (by omega) hltz
   cases e
   have HD := idxFrom_drop p z168 l k hlt k
   have hx : rd_T168 l (k : Int) = l.getD k z168 := by simp [rd_T168]
   have hmem : l.getD k z168 ∈ l := by
    rw [List.getD_eq_getElem?_getD, List.getElem?_eq_getElem hlt]; exact List.getElem_mem hlt
   rw [hx] at hc0 hc1 hlx hix
   have hcall := HG.out _ hmem _ HB.out Ax cx hix hlx
   generalize hxx : l.getD k z168 = x at hc0 hc1 hcall HD
   have HX := Sd.mk hxx
   have HD' := Sd.mk HD
   clear hxx HD hx hmem hlx hix
   simp only [Int.toNat_natCast] at hc0 hc1
   cases hp : p x with
   | true =>
    rw [hp] at hcall
    have HP := Sd.mk hp
    clear hp
    go_wp2_with (go_at_fn g; refine (hcall).mono ?_; rintro e w1 ⟨rfl, hb1⟩)
    go_ret
    exact ⟨by rw [HI.out, HD'.out, if_pos HP.out]; rfl, below_trans' HB.out hb1⟩
   | false =>
    rw [hp] at hcall
    have HP := Sd.mk hp
    clear hp
    go_wp2_with (go_at_fn g; refine (hcall).mono ?_; rintro e w1 ⟨rfl, hb1⟩)
    go_roundg (l.length - (k + 1))
    case measure => have := HM.out; omega
    case rel =>
     exact ⟨k + 1, by go_num, by omega, ⟨by omega⟩, ⟨by rw [HI.out, HD'.out, if_neg (by rw [HP.out]; simp)]; simp⟩, ⟨below_trans' HB.out hb1⟩⟩
  ·have hltz : ¬ (k : Int) < (l.length : Int) := by omega
   go_wp2
   go_ret
   exact ⟨by rw [HI.out, List.drop_eq_nil_of_le (by omega)]; rfl, HB.out⟩
set_option maxHeartbeats 400000 in
theorem containsFunc_line (p : S168 → Bool) (g : Nat) (lb : Array Value) (eg : ∀ args w, (callFunc g args).run Tryz.prog w = .ok (.enter g args) w)
  (A : Option Addr) (c : Nat) (l : List S168) (w : World) (hr : Kd.C k168 w A l.length l) (hg : ∀ x ∈ l, TellsL g lb x (p x) w) :
  Calls Tryz.prog 135 #[.slice A l.length c, .func (.func g) #[] lb] w fun e w' => e = .returned (.bool (l.any p)) ∧ Below w.heap.size w w' := by
 have H := indexFunc_line p g lb eg A c l w hr hg
 have HA := Sd.mk (idxFrom_any p l 0 (Int.le_refl 0))
 clear hr hg eg
 go_enter Tryz.func135, Tryz.ntmps135
 go_wp2_with (go_at_call 197; refine H.mono ?_; rintro e w1 ⟨rfl, hb1⟩)
 go_ret
 exact ⟨by rw [← HA.out]; rfl, hb1⟩
def x_keeps.f (l : List S168) (r : List Int) (t : Int) : Option Bool :=
 if (l.all fun x => decide (x.f0.length ≤ r.length) && decide (x.f0.length ≤ 1000000)) = true then some (!(l.any fun x => decide (wrap64 (t * x.f1) < vW r x.f0 x.f0.length))) else none
set_option maxHeartbeats 1000000 in
theorem x_keeps.calls (A0 : Option Addr) (c0 : Nat) (l0 : List S168) (A1 : Option Addr) (c1 : Nat) (l1 : List Int) (a2 : Int) (r : Bool) (w : World) (hr0 : Kd.C k168 w A0 l0.length l0) (hc0 : l0.length ≤ c0) (hr1 : Kd.C (Kd.int .i64) w A1 l1.length l1) (hc1 : l1.length ≤ c1) (h : x_keeps.f l0 l1 a2 = some r) :
  Calls Tryz.prog 51 #[.slice A0 l0.length c0, .slice A1 l1.length c1, .int .i64 a2] w fun e w' => e = .returned (.bool r) ∧ Below w.heap.size w w' := by
 unfold x_keeps.f at h
 by_cases hall : (l0.all fun x => decide (x.f0.length ≤ l1.length) && decide (x.f0.length ≤ 1000000)) = true
 ·rw [if_pos hall] at h
  obtain rfl := Option.some.inj h
  have hb0 : Below w.heap.size w ((w.alloc (.cells #[.slice A1 l1.length c1] 30)).alloc (.cells #[.int .i64 a2] 3)) := below_alloc (below_alloc (Below.refl _ _) _) _
  have hR : ((w.alloc (.cells #[.slice A1 l1.length c1] 30)).alloc (.cells #[.int .i64 a2] 3)).heap[w.heap.size]? = some (.cells #[.slice A1 l1.length c1] 30 (0, 0)) := blk_alloc (blk_new w _) _
  have hT : ((w.alloc (.cells #[.slice A1 l1.length c1] 30)).alloc (.cells #[.int .i64 a2] 3)).heap[w.heap.size + 1]? = some (.cells #[.int .i64 a2] 3 (0, 0)) := by
   have := blk_new (w.alloc (.cells #[.slice A1 l1.length c1] 30)) (.cells #[.int .i64 a2] 3)
   simpa using this
  have hgo := containsFunc_line (fun x => decide (wrap64 (a2 * x.f1) < vW l1 x.f0 x.f0.length)) 136 #[.pointer (some ⟨w.heap.size, 0, none⟩), .pointer (some ⟨w.heap.size + 1, 0, none⟩)] (enters_of Tryz.func136 (by kernel_rfl) rfl) A0 c0 l0 _ (Kd.C_below hr0 hb0) (fun x hx W hW Ax cx hix hlx => by
   have hh := List.all_eq_true.1 hall x hx
   simp only [Bool.and_eq_true, decide_eq_true_eq] at hh
   exact k110_calls x l1 Ax A1 cx c1 w.heap.size (w.heap.size + 1) a2 W hix hlx (Kd.C_below (Kd.C_below hr1 hb0) hW) hc1 hh.1 hh.2 (blk_below hR hW) (blk_below hT hW))
  have HB := Sd.mk hb0
  clear hb0 hR hT hr0 hr1 hc0 hc1 h hall
  go_enter Tryz.func51, Tryz.ntmps51
  go_wp2_with (go_at_call 135; refine hgo.mono ?_; rintro e w1 ⟨rfl, hb1⟩)
  go_ret
  exact ⟨by first | rfl | simp, below_trans' HB.out hb1⟩
 ·rw [if_neg hall] at h; cases h
end Go.Proofs.YtljfljekcpdpiaaGreat.PB

namespace Go.Proofs.YtljfljekcpdpiaaGreat.PB
open Go.RowKit Go.Proofs.YtljfljekcpdpiaaGreatW.PrintWords Go.Proofs.YtljfljekcpdpiaaGreatW.PrintLast Go.Proofs.YtljfljekcpdpiaaGreatW.PrintMore
attribute [local go_sem] max2_int min2_int max_two min_two max_three min_three max_four min_four
def batch_Passes.f (k : Nat) (l0_0 : List ByteArray) (l0_1 : List (S70)) (l0_2 : List (S27)) (l0_3 : List (S89)) (a0_4 : Int) (a0_5 : Int) (a0_6 : Int) (l1 : List Int) : Option (Bool × Int) := (batch_asked.f k l0_0 l0_1 l0_2 l0_3 a0_4 a0_5 a0_6 l1).bind fun t221 => (if t221 = 0 then ((x_lines.f l0_0 l0_1 l0_2 l0_3 a0_4 a0_5 a0_6).bind fun t222 => ((x_keeps.f t222 l1 1).bind fun t225 => (some (t225, 0)))) else (some (false, t221)))
set_option maxHeartbeats 8000000 in
set_option maxRecDepth 100000 in
theorem batch_Passes.calls (k : Nat) (A0_0 : Option Addr) (c0_0 : Nat) (l0_0 : List ByteArray) (A0_1 : Option Addr) (c0_1 : Nat) (l0_1 : List (S70)) (A0_2 : Option Addr) (c0_2 : Nat) (l0_2 : List (S27)) (A0_3 : Option Addr) (c0_3 : Nat) (l0_3 : List (S89)) (a0_4 : Int) (a0_5 : Int) (a0_6 : Int) (A1 : Option Addr) (c1 : Nat) (l1 : List Int) (r1 : Bool) (r2 : Int) (w : World) (hr0_0 : Kd.C Kd.string w A0_0 l0_0.length l0_0) (hc0_0 : l0_0.length ≤ c0_0) (hr0_1 : Kd.C k70 w A0_1 l0_1.length l0_1) (hc0_1 : l0_1.length ≤ c0_1) (hr0_2 : Kd.C k27 w A0_2 l0_2.length l0_2) (hc0_2 : l0_2.length ≤ c0_2) (hr0_3 : Kd.C k89 w A0_3 l0_3.length l0_3) (hc0_3 : l0_3.length ≤ c0_3) (hr1 : Kd.C (Kd.int .i64) w A1 l1.length l1) (hc1 : l1.length ≤ c1) (h : batch_Passes.f k l0_0 l0_1 l0_2 l0_3 a0_4 a0_5 a0_6 l1 = some (r1, r2)) :
  Calls Tryz.prog 13 #[.agg #[.slice A0_0 l0_0.length c0_0, .slice A0_1 l0_1.length c0_1, .slice A0_2 l0_2.length c0_2, .slice A0_3 l0_3.length c0_3, .int .i64 a0_4, .int .i64 a0_5, .int .i64 a0_6], .slice A1 l1.length c1] w fun e w' => e = .returned (.tuple #[.bool r1, .int .i64 r2]) ∧ Below w.heap.size w w' := by
 have hu29 := Tryz.underlying29; have HR0_0 := Sd.mk hr0_0; have HC0_0 := Sd.mk hc0_0; clear hr0_0 hc0_0; have HR0_1 := Sd.mk hr0_1; have HC0_1 := Sd.mk hc0_1; clear hr0_1 hc0_1; have HR0_2 := Sd.mk hr0_2; have HC0_2 := Sd.mk hc0_2; clear hr0_2 hc0_2; have HR0_3 := Sd.mk hr0_3; have HC0_3 := Sd.mk hc0_3; clear hr0_3 hc0_3; have HR1 := Sd.mk hr1; have HC1 := Sd.mk hc1; clear hr1 hc1; have HB := Sd.mk (Below.refl w.heap.size w)
 have H : ((batch_asked.f k l0_0 l0_1 l0_2 l0_3 a0_4 a0_5 a0_6 l1).bind fun t221 => (if t221 = 0 then ((x_lines.f l0_0 l0_1 l0_2 l0_3 a0_4 a0_5 a0_6).bind fun t222 => ((x_keeps.f t222 l1 1).bind fun t225 => (some (t225, 0)))) else (some (false, t221)))) = some (r1, r2) := h
 clear h; replace H := Option.bind_eq_some_iff.mp H; obtain ⟨t221, A30, H⟩ := H
 try dsimp only at H
 have A3 := Sd.mk A30; clear A30
 by_cases c4 : t221 = 0
 ·rw [if_pos c4] at H
  have c4b0 : (t221 == 0) = true := beq_iff_eq.mpr c4
  have c4b1 : (t221 != 0) = false := bne_eq_false_iff_eq.mpr c4
  clear c4; replace H := Option.bind_eq_some_iff.mp H; obtain ⟨t222, A50, H⟩ := H
  try dsimp only at H
  have A5 := Sd.mk A50; clear A50; replace H := Option.bind_eq_some_iff.mp H; obtain ⟨t225, A60, H⟩ := H
  try dsimp only at H
  have A6 := Sd.mk A60; clear A60
  simp only [Option.some.injEq, Prod.mk.injEq] at H
  obtain ⟨rfl, rfl⟩ := H
  go_enter Tryz.func13, Tryz.ntmps13
  go_wp2_with (first | ((with_reducible refine gate_dst (N := 2) rfl ?_); refine box_event ?hg (N := 2) ?hd (cs := #[.slice A0_0 l0_0.length c0_0, .slice A0_1 l0_1.length c0_1, .slice A0_2 l0_2.length c0_2, .slice A0_3 l0_3.length c0_3, .int .i64 a0_4, .int .i64 a0_5, .int .i64 a0_6]) (t := 29) ?hr ?_; (case hd => rfl); (case hg => rfl); (case hr => exact tG); intro gb220 hg w7 hbox hb; have BK220 := Sd.mk (hbox); have GW220 := Sd.mk (bSz hg (bBl HB.out)); have GE220 := Sd.mk (bSz hg (bBl HB.out)); replace HB := Sd.mk (below_step (bBl HB.out) hb); clear hb hbox hg; obtain ⟨u8_0, u8_1, u8_2, u8_3, u8_4, u8_5, u8_6, o8_0, o8_1, o8_2, o8_3, o8_4, o8_5, o8_6⟩ := bc7 (w := w7) BK220.out) | ((with_reducible refine gate_callee (f := 50) rfl ?_); refine goesL_ (some 9) rfl rfl Tryz.func50 (by kernel_rfl) rfl #[.agg #[.slice A0_0 l0_0.length c0_0, .slice A0_1 l0_1.length c0_1, .slice A0_2 l0_2.length c0_2, .slice A0_3 l0_3.length c0_3, .int .i64 a0_4, .int .i64 a0_5, .int .i64 a0_6], .slice A1 l1.length c1] rfl tM ?_; (with_reducible refine (batch_asked.calls k _ _ l0_0 _ _ l0_1 _ _ l0_2 _ _ l0_3 a0_4 a0_5 a0_6 _ _ l1 t221 _ (cS (Kd.C_below HR0_0.out HB.out)) HC0_0.out (cS (Kd.C_below HR0_1.out HB.out)) HC0_1.out (cS (Kd.C_below HR0_2.out HB.out)) HC0_2.out (cS (Kd.C_below HR0_3.out HB.out)) HC0_3.out (cS (Kd.C_below HR1.out HB.out)) HC1.out A3.out).mono ?_); rintro e w9 ⟨rfl, hb⟩; refine ⟨_, rfl, ?_⟩; replace BK220 := Sd.mk (blk_below (bkA BK220.out) hb); replace HB := Sd.mk (below_step (bBl HB.out) hb); (try clear hb); (try clear hb2); (try clear hk); (try clear hi); obtain ⟨u10_0, u10_1, u10_2, u10_3, u10_4, u10_5, u10_6, o10_0, o10_1, o10_2, o10_3, o10_4, o10_5, o10_6⟩ := bc7 (w := w9) BK220.out) | ((with_reducible refine gate_callee (f := 52) rfl ?_); refine goesL_ (some 14) rfl rfl Tryz.func52 (by kernel_rfl) rfl #[.agg #[.slice A0_0 l0_0.length c0_0, .slice A0_1 l0_1.length c0_1, .slice A0_2 l0_2.length c0_2, .slice A0_3 l0_3.length c0_3, .int .i64 a0_4, .int .i64 a0_5, .int .i64 a0_6]] rfl tM ?_; (with_reducible refine (x_lines.calls _ _ l0_0 _ _ l0_1 _ _ l0_2 _ _ l0_3 a0_4 a0_5 a0_6 t222 _ (cS (Kd.C_below HR0_0.out HB.out)) HC0_0.out (cS (Kd.C_below HR0_1.out HB.out)) HC0_1.out (cS (Kd.C_below HR0_2.out HB.out)) HC0_2.out (cS (Kd.C_below HR0_3.out HB.out)) HC0_3.out A5.out).mono ?_); rintro e w11 ⟨v223, rfl, ho0, hb⟩; refine ⟨_, rfl, ?_⟩; have HO224 := Sd.mk (Kd.R_lower ho0 (below_size (bBl HB.out))); replace BK220 := Sd.mk (blk_below (bkA BK220.out) hb); replace HB := Sd.mk (below_step (bBl HB.out) hb); (try clear hb); (try clear hb2); (try clear hk); (try clear hi); (try clear ho0); obtain ⟨Ao12, co12, eo12⟩ := Kd.R_slice HO224.out; subst eo12) | ((with_reducible refine gate_callee (f := 51) rfl ?_); refine goesL_ (some 16) rfl rfl Tryz.func51 (by kernel_rfl) rfl #[.slice Ao12 t222.length co12, .slice A1 l1.length c1, .int .i64 1] rfl tM ?_; (with_reducible refine (x_keeps.calls _ _ t222 _ _ l1 1 t225 _ (cS ((Kd.R_reads' HO224.out).2.2)) ((Kd.R_reads' HO224.out).2.1) (cS (Kd.C_below HR1.out HB.out)) HC1.out A6.out).mono ?_); rintro e w13 ⟨rfl, hb⟩; refine ⟨_, rfl, ?_⟩; replace HO224 := Sd.mk (Kd.R_below (by (with_reducible repeat (first | apply Kd.R_alloc | apply Kd.R_drewN | apply Kd.R_drew)); exact HO224.out) hb); replace BK220 := Sd.mk (blk_below (bkA BK220.out) hb); replace HB := Sd.mk (below_step (bBl HB.out) hb); (try clear hb); (try clear hb2); (try clear hk); (try clear hi)))
  go_ret2
  exact ⟨tE, bBl HB.out⟩
 ·rw [if_neg c4] at H
  have c4b0 : (t221 == 0) = false := beq_eq_false_iff_ne.mpr c4
  have c4b1 : (t221 != 0) = true := bne_iff_ne.mpr c4
  simp only [Option.some.injEq, Prod.mk.injEq] at H
  obtain ⟨rfl, rfl⟩ := H
  go_enter Tryz.func13, Tryz.ntmps13
  go_wp2_with (first | ((with_reducible refine gate_dst (N := 2) rfl ?_); refine box_event ?hg (N := 2) ?hd (cs := #[.slice A0_0 l0_0.length c0_0, .slice A0_1 l0_1.length c0_1, .slice A0_2 l0_2.length c0_2, .slice A0_3 l0_3.length c0_3, .int .i64 a0_4, .int .i64 a0_5, .int .i64 a0_6]) (t := 29) ?hr ?_; (case hd => rfl); (case hg => rfl); (case hr => exact tG); intro gb220 hg w14 hbox hb; have BK220 := Sd.mk (hbox); have GW220 := Sd.mk (bSz hg (bBl HB.out)); have GE220 := Sd.mk (bSz hg (bBl HB.out)); replace HB := Sd.mk (below_step (bBl HB.out) hb); clear hb hbox hg; obtain ⟨u15_0, u15_1, u15_2, u15_3, u15_4, u15_5, u15_6, o15_0, o15_1, o15_2, o15_3, o15_4, o15_5, o15_6⟩ := bc7 (w := w14) BK220.out) | ((with_reducible refine gate_callee (f := 50) rfl ?_); refine goesL_ (some 9) rfl rfl Tryz.func50 (by kernel_rfl) rfl #[.agg #[.slice A0_0 l0_0.length c0_0, .slice A0_1 l0_1.length c0_1, .slice A0_2 l0_2.length c0_2, .slice A0_3 l0_3.length c0_3, .int .i64 a0_4, .int .i64 a0_5, .int .i64 a0_6], .slice A1 l1.length c1] rfl tM ?_; (with_reducible refine (batch_asked.calls k _ _ l0_0 _ _ l0_1 _ _ l0_2 _ _ l0_3 a0_4 a0_5 a0_6 _ _ l1 t221 _ (cS (Kd.C_below HR0_0.out HB.out)) HC0_0.out (cS (Kd.C_below HR0_1.out HB.out)) HC0_1.out (cS (Kd.C_below HR0_2.out HB.out)) HC0_2.out (cS (Kd.C_below HR0_3.out HB.out)) HC0_3.out (cS (Kd.C_below HR1.out HB.out)) HC1.out A3.out).mono ?_); rintro e w16 ⟨rfl, hb⟩; refine ⟨_, rfl, ?_⟩; replace BK220 := Sd.mk (blk_below (bkA BK220.out) hb); replace HB := Sd.mk (below_step (bBl HB.out) hb); (try clear hb); (try clear hb2); (try clear hk); (try clear hi)))
  go_ret2
  exact ⟨tE, bBl HB.out⟩
end Go.Proofs.YtljfljekcpdpiaaGreat.PB

namespace Go.Proofs.YtljfljekcpdpiaaGreat.PB
open Go.RowKit Go.Proofs.YtljfljekcpdpiaaGreatW.PrintWords Go.Proofs.YtljfljekcpdpiaaGreatW.PrintLast Go.Proofs.YtljfljekcpdpiaaGreatW.PrintMore
theorem rd_map (mt : List S70) (fc : S70 → Int) (j : Nat) (h : j < mt.length) : rd (mt.map fc) (j : Int) = fc (rd_T70 mt (j : Int)) := by
  simp [rd, rd_T70, List.getD, h]
structure LineOk (n : Nat) (x : S168) : Prop where
  len : x.f0.length = n
  at_ : ∀ j : Nat, j < n → -50000000000000 ≤ rd x.f0 (j : Int) ∧ rd x.f0 (j : Int) ≤ 50000000000000
  b0 : x.f1 ≤ 0
  b1 : -10000000 ≤ x.f1
theorem line_ok {mt : List S70} {fc : S70 → Int} {b : Int} (h : ∀ i : Nat, i < mt.length → -50000000000000 ≤ fc (rd_T70 mt (i : Int)) ∧ fc (rd_T70 mt (i : Int)) ≤ 50000000000000) (h0 : b ≤ 0) (h1 : -10000000 ≤ b) : LineOk mt.length ⟨mt.map fc, b⟩ := by
  refine ⟨List.length_map _, fun j hj => ?_, h0, h1⟩
  show -50000000000000 ≤ rd (mt.map fc) (j : Int) ∧ rd (mt.map fc) (j : Int) ≤ 50000000000000
  rw [rd_map mt fc j hj]
  exact h j hj
theorem gTS_bound {df : Int → Int} {l : List S27} (H : GOk l) (C : DfOk df l.length) : -50000000000000 ≤ gTS df l l.length ∧ gTS df l l.length ≤ 50000000000000 := by
  have h := sumTo_bound (f := gT df l) (M := 3600000000000) (n := l.length) (gT_bound H C) l.length (Nat.le_refl _)
  have hn := H.n12
  unfold gTS
  omega
section
variable {o : List ByteArray} {mt : List S70} {s : List S27} {p : List S89} {a4 a5 a6 : Int}
theorem pair_ok (H : BatchOk o mt s p a4 a5 a6) {j : Nat} (hj : j < s.length + p.length) : ∀ x ∈ pairL mt s p j, LineOk mt.length x := by
  have T := tg_ok H hj
  have C := coef_cfok H hj
  intro x hx
  simp only [pairL, List.mem_cons, List.not_mem_nil, or_false] at hx
  rcases hx with rfl | rfl
  · refine line_ok (fun i hi => ?_) (by omega) (by omega)
    refine gTS_bound (mat_gok H hi) ⟨fun j' hj' => ?_⟩
    rw [(H.mats i hi).len] at hj'
    have := C.at_ j' hj'
    omega
  · refine line_ok (fun i hi => ?_) (by omega) (by omega)
    refine gTS_bound (mat_gok H hi) ⟨fun j' hj' => ?_⟩
    rw [(H.mats i hi).len] at hj'
    have := C.at_ j' hj'
    omega
theorem head_ok (H : BatchOk o mt s p a4 a5 a6) : ∀ n, n ≤ s.length + p.length → ∀ x ∈ headL mt s p a6 n, LineOk mt.length x := by
  intro n
  induction n with
  | zero =>
    intro _ x hx
    simp only [headL, List.mem_cons, List.not_mem_nil, or_false] at hx
    subst hx
    have hw := H.wanted
    refine line_ok (fun i hi => ?_) (by omega) (by omega)
    have := lowM_bound (mat_gok H hi)
    omega
  | succ n ih =>
    intro hn x hx
    simp only [headL, List.mem_append] at hx
    rcases hx with hx | hx
    · exact ih (by omega) x hx
    · exact pair_ok H (by omega) x hx
theorem red_ok (H : BatchOk o mt s p a4 a5 a6) {u : Int} (hu : -10000 ≤ u ∧ u ≤ 10000) {i : Nat} (hi : i < mt.length) :
    (-50000000000000 ≤ rUp u (rd_T70 mt (i : Int)) ∧ rUp u (rd_T70 mt (i : Int)) ≤ 50000000000000) ∧ -50000000000000 ≤ rDn u (rd_T70 mt (i : Int)) ∧ rDn u (rd_T70 mt (i : Int)) ≤ 50000000000000 := by
  have hl := lowM_bound (mat_gok H hi)
  have hr := (H.mats i hi).redox
  have h1 := mulr hu.1 hu.2 hl.1 (Int.le_trans hl.2.1 hl.2.2)
  have h2 := mulr hu.1 hu.2 (Int.le_trans hl.1 hl.2.1) hl.2.2
  unfold rUp rDn mn mx
  constructor <;> split <;> omega
theorem lines_ok (H : BatchOk o mt s p a4 a5 a6) : ∀ x ∈ linesV mt s p a4 a5 a6, LineOk mt.length x := by
  have hr := H.redox
  intro x hx
  simp only [linesV, List.mem_append, List.mem_cons, List.not_mem_nil, or_false] at hx
  rcases hx with hx | rfl | rfl
  · exact head_ok H _ (Nat.le_refl _) x hx
  · exact line_ok (fun i hi => (red_ok H (by omega) hi).1) (by omega) (by omega)
  · exact line_ok (fun i hi => (red_ok H (by omega) hi).2) (by omega) (by omega)
end
def tot (r fs : List Int) (i : Nat) : Int := sumTo (fun j => rd r (j : Int) * rd fs (j : Int)) i
theorem prod_bound {a b : Int} (h0 : 0 ≤ a) (h1 : a ≤ 10000) (h2 : -50000000000000 ≤ b) (h3 : b ≤ 50000000000000) : -500000000000000000 ≤ a * b ∧ a * b ≤ 500000000000000000 := by
  have e1 := Int.mul_le_mul_of_nonneg_left h2 h0
  have e2 := Int.mul_le_mul_of_nonneg_left h3 h0
  omega
theorem vW_tot {mt : List S70} {r : List Int} {x : S168} (hm : mt.length ≤ 12) (hr : RecOk mt r) (hx : LineOk mt.length x) : ∀ i, i ≤ mt.length → vW r x.f0 i = tot r x.f0 i := by
  have hb : ∀ j, j < mt.length → -500000000000000000 ≤ rd r (j : Int) * rd x.f0 (j : Int) ∧ rd r (j : Int) * rd x.f0 (j : Int) ≤ 500000000000000000 := fun j hj => prod_bound (hr.kilos j hj).1 (hr.kilos j hj).2 (hx.at_ j hj).1 (hx.at_ j hj).2
  intro i
  induction i with
  | zero => intro _; rfl
  | succ i ih =>
    intro hi
    have h1 := hb i (by omega)
    have h2 := sumTo_bound (f := fun j => rd r (j : Int) * rd x.f0 (j : Int)) (M := 500000000000000000) (n := mt.length) hb i (by omega)
    have h3 := ih (by omega)
    unfold tot at *
    simp only [vW, sumTo, h3]
    rw [wrap_id (x := rd r (i : Int) * rd x.f0 (i : Int)) (by omega) (by omega), wrap_id (by omega) (by omega)]
theorem not_any_all {α : Type} {l : List α} {f g : α → Bool} (h : ∀ x ∈ l, f x = !(g x)) : (!(l.any f)) = l.all g := by
  induction l with
  | nil => rfl
  | cons x l ih =>
    rw [List.any_cons, List.all_cons, ← ih fun y hy => h y (List.mem_cons_of_mem _ hy), h x List.mem_cons_self]
    cases g x <;> simp
section
variable (o : List ByteArray) (mt : List S70) (s : List S27) (p : List S89) (a4 a5 a6 : Int) (r : List Int)
def passB : Bool := (linesV mt s p a4 a5 a6).all fun x => decide (tot r x.f0 mt.length ≤ x.f1)
theorem keeps_f (H : BatchOk o mt s p a4 a5 a6) (hr : RecOk mt r) : x_keeps.f (linesV mt s p a4 a5 a6) r 1 = some (passB mt s p a4 a5 a6 r) := by
  have L := lines_ok H
  have hm := H.m12
  have hrl := hr.len
  unfold x_keeps.f passB
  rw [if_pos (List.all_eq_true.2 fun x hx => by have h := (L x hx).len; simp only [Bool.and_eq_true, decide_eq_true_eq]; omega)]
  congr 1
  refine not_any_all fun x hx => ?_
  have h := L x hx
  rw [h.len, vW_tot hm hr h mt.length (Nat.le_refl _), wrap_id (x := 1 * x.f1) (by have := h.b0; have := h.b1; omega) (by have := h.b0; omega), Int.one_mul]
  by_cases hc : tot r x.f0 mt.length ≤ x.f1
  · rw [decide_eq_true hc, decide_eq_false (by omega)]; rfl
  · rw [decide_eq_false hc, decide_eq_true (by omega)]; rfl
def PassV : Bool × Int := if askV o mt s p a4 a5 a6 r = 0 then (passB mt s p a4 a5 a6 r, 0) else (false, askV o mt s p a4 a5 a6 r)
theorem ask_check (h : askV o mt s p a4 a5 a6 r = 0) : checkV o mt s p a4 a5 a6 = 0 := by
  unfold askV at h
  by_cases hc : checkV o mt s p a4 a5 a6 = 0
  · exact hc
  · rw [if_neg hc] at h; exact absurd h hc
theorem bPasses : Ev (fun k => batch_Passes.f k o mt s p a4 a5 a6 r) (PassV o mt s p a4 a5 a6 r) := by
  unfold batch_Passes.f PassV
  refine Ev.bind (basked o mt s p a4 a5 a6 r) ?_
  by_cases h : askV o mt s p a4 a5 a6 r = 0
  · obtain ⟨H, hr⟩ := ask_ok h
    simp only [if_pos h, x_lines.f, if_pos (ask_check o mt s p a4 a5 a6 r h), Option.bind_some, keeps_f o mt s p a4 a5 a6 r H hr]
    exact Ev.const _
  · simp only [if_neg h]; exact Ev.const _
end
end Go.Proofs.YtljfljekcpdpiaaGreat.PB

namespace Go.Proofs.YtljfljekcpdpiaaGreat.PB
open Go.RowKit Go.Proofs.YtljfljekcpdpiaaGreatW.PrintWords Go.Proofs.YtljfljekcpdpiaaGreatW.PrintLast Go.Proofs.YtljfljekcpdpiaaGreatW.PrintMore
section
variable {o : List ByteArray} {mt : List S70} {s : List S27} {p : List S89} {a4 a5 a6 : Int}
def refForms (n : Nat) (s : List S27) (p : List S89) : List S89 := formL n s n ++ p
theorem refForms_len (H : BatchOk o mt s p a4 a5 a6) : (refForms o.length s p).length = s.length + p.length := by
 simp only [refForms, List.length_append, formL_len, H.slen]
theorem refForms_lo (H : BatchOk o mt s p a4 a5 a6) {j : Nat} (hj : j < s.length) : rd_T89 (refForms o.length s p) (j : Int) = ⟨(⟨#[]⟩ : ByteArray), (List.replicate o.length 0).set j 1000, ⟨(rd_T27 s (j : Int)).f0, (rd_T27 s (j : Int)).f1⟩⟩ := by
 have h : j < o.length := by rw [← H.slen]; exact hj
 simp [rd_T89, List.getD, refForms, formL, List.getElem?_append, h]
theorem refForms_hi (H : BatchOk o mt s p a4 a5 a6) {j : Nat} (hj : s.length ≤ j) : rd_T89 (refForms o.length s p) (j : Int) = rd_T89 p ((j - s.length : Nat) : Int) := by
 have h : ¬ j < o.length := by rw [← H.slen]; omega
 simp [rd_T89, List.getD, refForms, List.getElem?_append, formL_len, h, H.slen]
theorem refForms_tg (H : BatchOk o mt s p a4 a5 a6) {j : Nat} (hj : j < s.length + p.length) : (rd_T89 (refForms o.length s p) (j : Int)).f2 = tgOf s p j := by
 unfold tgOf
 by_cases h : j < s.length
 ·rw [if_pos h, refForms_lo H h]
 ·rw [if_neg h, refForms_hi H (by omega)]
theorem refForms_clen (H : BatchOk o mt s p a4 a5 a6) {j : Nat} (hj : j < s.length + p.length) : (rd_T89 (refForms o.length s p) (j : Int)).f1.length = o.length := by
 by_cases h : j < s.length
 ·rw [refForms_lo H h]; simp
 ·rw [refForms_hi H (by omega)]; exact (H.pros (j - s.length) (by omega)).len
theorem refForms_cf (H : BatchOk o mt s p a4 a5 a6) {j : Nat} (hj : j < s.length + p.length) {i : Nat} (hi : i < o.length) : rd (rd_T89 (refForms o.length s p) (j : Int)).f1 (i : Int) = coefOf s p j (i : Int) := by
 unfold coefOf
 by_cases h : j < s.length
 ·rw [if_pos h, refForms_lo H h, unit_rd _ _ _ hi]; rfl
 ·rw [if_neg h, refForms_hi H (by omega)]
theorem aboveF (H : BatchOk o mt s p a4 a5 a6) {j : Nat} (hj : j < s.length + p.length) {i : Nat} (hi : i < mt.length) :
  ∃ K, rf_above.f K (rd_T89 (refForms o.length s p) (j : Int)).f1 (rd_T70 mt (i : Int)).f6 (rd_T89 (refForms o.length s p) (j : Int)).f2.f1 = some (upF s p j (rd_T70 mt (i : Int))) := by
 have M := (H.mats i hi).len
 have T := tg_ok H hj
 have C := coef_cfok H hj
 rw [refForms_tg H hj]
 obtain ⟨K, hK⟩ := rabove_l0 (cf := coefOf s p j) (m := (tgOf s p j).f1) (mat_gok H hi) (by rw [M]; exact C) (by rw [M, refForms_clen H hj]; exact Nat.le_refl _) (fun j' hj' => refForms_cf H hj (by rw [← M]; exact hj')) (by omega) (by omega) (rd_T70 mt (i : Int)).f6.length 0 (by omega)
 refine ⟨K, (hK K (Nat.le_refl _)).trans ?_⟩
 rw [aboveS_sum]
 rfl
theorem belowF (H : BatchOk o mt s p a4 a5 a6) {j : Nat} (hj : j < s.length + p.length) {i : Nat} (hi : i < mt.length) :
  ∃ K, rf_below.f K (rd_T89 (refForms o.length s p) (j : Int)).f1 (rd_T70 mt (i : Int)).f6 (rd_T89 (refForms o.length s p) (j : Int)).f2.f0 = some (dnF s p j (rd_T70 mt (i : Int))) := by
 have M := (H.mats i hi).len
 have T := tg_ok H hj
 have C := coef_cfok H hj
 rw [refForms_tg H hj]
 obtain ⟨K, hK⟩ := rbelow_l0 (cf := coefOf s p j) (m := (tgOf s p j).f0) (mat_gok H hi) (by rw [M]; exact C) (by rw [M, refForms_clen H hj]; exact Nat.le_refl _) (fun j' hj' => refForms_cf H hj (by rw [← M]; exact hj')) (by omega) (by omega) (rd_T70 mt (i : Int)).f6.length 0 (by omega)
 refine ⟨K, (hK K (Nat.le_refl _)).trans ?_⟩
 rw [belowS_sum]
 rfl
theorem sumsF (H : BatchOk o mt s p a4 a5 a6) {i : Nat} (hi : i < mt.length) : ∃ K, rf_sums.f K (rd_T70 mt (i : Int)).f6 = some (lowM (rd_T70 mt (i : Int)), highM (rd_T70 mt (i : Int))) := by
 obtain ⟨K, hK⟩ := rsums (mat_gok H hi)
 exact ⟨K, hK K (Nat.le_refl _)⟩
theorem formsF (H : BatchOk o mt s p a4 a5 a6) : ∃ K, rf_Forms.f K o mt s p a4 a5 a6 = some (refForms o.length s p) := by
 obtain ⟨K, hK⟩ := rforms H
 exact ⟨K, hK K (Nat.le_refl _)⟩
end
structure RowAt (w W : World) (g : Nat) (b : Int) (fl : List Int) : Prop where
 ge : w.heap.size ≤ g
 row : ∃ A c, W.heap[g]? = some (.cells #[.slice A fl.length c, .int .i64 b] 168 (0, 0)) ∧ (Kd.int .i64).R 3 W w.heap.size (fun _ => True) (.slice A fl.length c) fl
theorem RowAt.below {w W W' : World} {g : Nat} {b : Int} {fl : List Int} (h : RowAt w W g b fl) (hb : Below W.heap.size W W') : RowAt w W' g b fl := by
 obtain ⟨A, c, h1, h2⟩ := h.row
 exact ⟨h.ge, A, c, blk_below h1 hb, Kd.R_below h2 hb⟩
theorem R_int_own {W : World} {base : Nat} {ok : Nat → Prop} {v : Value} {xs : List Int} (h : (Kd.int .i64).R 3 W base ok v xs) : (Kd.int .i64).R 3 W base (fun k => v.ownBlock = some k) v xs :=
 ⟨fun _ hk => hk, h.2.imp_ (fun _ _ hp => hp)⟩
structure AllW (w Wc Wf W : World) (cs : Array Value) (okN okL : Nat → Prop) (vF : Value) (forms : List S89) (v7 : Value) (xs : List S168) : Prop where
 below : Below w.heap.size w W
 size : Wf.heap.size ≤ W.heap.size
 box : W.heap[w.heap.size]? = some (.cells cs 29 (0, 0))
 forms : k89.N 89 W Wc.heap.size okN vF forms
 list : k168.R 168 W w.heap.size okL v7 xs
theorem AllW.later {w Wc Wf W W' : World} {cs : Array Value} {okN okL : Nat → Prop} {vF v7 : Value} {forms : List S89} {xs : List S168} (h : AllW w Wc Wf W cs okN okL vF forms v7 xs) (hb : Below W.heap.size W W') : AllW w Wc Wf W' cs okN okL vF forms v7 xs :=
 ⟨below_step h.below hb, Nat.le_trans h.size hb.size, blk_below h.box hb, Kd.N_below h.forms hb, Kd.R_below h.list hb⟩
theorem AllW.set {w Wc Wf W : World} {cs : Array Value} {okN okL : Nat → Prop} {vF v7 : Value} {forms : List S89} {xs : List S168} (h : AllW w Wc Wf W cs okN okL vF forms v7 xs) {g : Nat} (u : Value) (h1 : w.heap.size < g) (h2 : ∀ k, okN k → k ≠ g) (h3 : ∀ k, okL k → k ≠ g) : AllW w Wc Wf (W.setCell ⟨g, 0, none⟩ u) cs okN okL vF forms v7 xs :=
 ⟨below_set h.below (Nat.le_of_lt h1), Nat.le_trans h.size (by simp only [World.size_setCell]; exact Nat.le_refl _), blk_far (p := ⟨g, 0, none⟩) h.box (Nat.ne_of_lt h1) u, Kd.N_far (p := ⟨g, 0, none⟩) h.forms h2 u, Kd.R_far (p := ⟨g, 0, none⟩) h.list h3 u⟩
theorem AllW.grown {w Wc Wf W W' : World} {cs : Array Value} {okN okL : Nat → Prop} {vF v7 : Value} {forms : List S89} {xs : List S168} (h : AllW w Wc Wf W cs okN okL vF forms v7 xs) {row : Option Nat} (hb : Below w.heap.size w W') (hg : W.grownBy W' row) (h1 : some w.heap.size ≠ row) (h2 : ∀ k, okN k → some k ≠ row) (h3 : ∀ k, okL k → some k ≠ row) : AllW w Wc Wf W' cs okN okL vF forms v7 xs :=
 ⟨hb, Nat.le_trans h.size hg.size, blk_grown h.box hg h1, Kd.N_grown h.forms hg h2, Kd.R_grown h.list hg h3⟩
structure RowAt3 (w WB W : World) (g : Nat) (v : Value) (fl : List Int) : Prop where
 ge : WB.heap.size ≤ g
 cell : W.heap[g]? = some (.cells #[v, .int .i64 0] 168 (0, 0))
 row : (Kd.int .i64).R 3 W w.heap.size (fun k => v.ownBlock = some k) v fl
 own : ∀ k, v.ownBlock = some k → WB.heap.size ≤ k
theorem RowAt3.later {w WB W W' : World} {g : Nat} {v : Value} {fl : List Int} (h : RowAt3 w WB W g v fl) (hb : Below W.heap.size W W') : RowAt3 w WB W' g v fl :=
 ⟨h.ge, blk_below h.cell hb, Kd.R_below h.row hb, h.own⟩
theorem RowAt3.grown {w WB W W' : World} {g : Nat} {v : Value} {fl : List Int} (h : RowAt3 w WB W g v fl) {row : Option Nat} (hg : W.grownBy W' row) (h1 : some g ≠ row) (h2 : ∀ k, v.ownBlock = some k → some k ≠ row) : RowAt3 w WB W' g v fl :=
 ⟨h.ge, blk_grown h.cell hg h1, Kd.R_grown h.row hg h2, h.own⟩
theorem RowAt3.set {w WB W : World} {g : Nat} {v : Value} {fl : List Int} (h : RowAt3 w WB W g v fl) {g' : Nat} {cs : Array Value} (u : Value) (h1 : g ≠ g') (h2 : W.heap[g']? = some (.cells cs 168 (0, 0))) : RowAt3 w WB (W.setCell ⟨g', 0, none⟩ u) g v fl :=
 ⟨h.ge, blk_far (p := ⟨g', 0, none⟩) h.cell h1 u, Kd.R_mono (Kd.R_far (p := ⟨g', 0, none⟩) (Kd.R_types (t := 168) h.row h2 (by decide)) (fun _ hk => hk.2) u) (fun _ hk => hk.1), h.own⟩
end Go.Proofs.YtljfljekcpdpiaaGreat.PB

namespace Go.Proofs.YtljfljekcpdpiaaGreat.PB
open Go.RowKit Go.Proofs.YtljfljekcpdpiaaGreatW.PrintWords Go.Proofs.YtljfljekcpdpiaaGreatW.PrintLast Go.Proofs.YtljfljekcpdpiaaGreatW.PrintMore
theorem k27_heap : Kd.Heap k27 := Kd.heap_iso _ (Kd.heap_pair (Kd.heap_int .i64) (Kd.heap_int .i64))
theorem k89_heap : Kd.Heap k89 := Kd.heap_iso _ (Kd.heap_pair Kd.heap_string (Kd.heap_pair (Kd.heap_slice 3 (Kd.heap_int .i64)) k27_heap))
end Go.Proofs.YtljfljekcpdpiaaGreat.PB

namespace Go.Proofs.YtljfljekcpdpiaaGreat.PB
open Go.RowKit Go.Proofs.YtljfljekcpdpiaaGreatW.PrintWords Go.Proofs.YtljfljekcpdpiaaGreatW.PrintLast Go.Proofs.YtljfljekcpdpiaaGreatW.PrintMore
theorem max2_mx (k k' : IntKind) (x y : Int) : Builtin.max2 (.int k x) (.int k' y) = pure (.int k (mx x y)) := max2_int k k' x y
theorem min2_mn (k k' : IntKind) (x y : Int) : Builtin.min2 (.int k x) (.int k' y) = pure (.int k (mn x y)) := min2_int k k' x y
theorem mn_in {a b l u : Int} (h1 : l ≤ a ∧ a ≤ u) (h2 : l ≤ b ∧ b ≤ u) : l ≤ mn a b ∧ mn a b ≤ u := by unfold mn; split <;> assumption
theorem mx_in {a b l u : Int} (h1 : l ≤ a ∧ a ≤ u) (h2 : l ≤ b ∧ b ≤ u) : l ≤ mx a b ∧ mx a b ≤ u := by unfold mx; split <;> assumption
attribute [local go_sem] max2_mx min2_mn max_two min_two
def allLT : Bool × List (List Nat × List Nat) := (true, [([], []), ([0], [0]), ([], []), ([], []), ([2, 3], [2, 3]), ([4], [4]), ([5], [5]), ([], []), ([7], [7]), ([], []), ([8, 9], [8, 9]), ([10], [10]), ([11], [11]), ([], []), ([], []), ([13, 14], [13, 14]), ([15], [15]), ([16], [16]), ([17], [17]), ([6, 12, 18], [6, 12, 18]), ([19], [19]), ([1, 20, 19], [1, 20]), ([0, 1, 2, 3, 4, 5, 6, 7, 8, 9, 10, 11, 12, 13, 14, 15, 16, 17, 18, 19, 20, 21], []), ([22, 21, 21, 0, 1, 2, 3, 4, 5, 6, 7, 8, 9, 10, 11, 12, 13, 14, 15, 16, 17, 18, 19, 20, 21], [21, 22])])
def allLB : List Nat := [0, 1, 0, 0, 12, 28, 60, 0, 128, 0, 896, 1920, 3968, 0, 0, 24576, 57344, 122880, 253952, 524284, 1048572, 2097151, 4194303, 8388607]
theorem allL16_tab : rtab .any (opsOf Tryz.f55 16) = allLT := by kernel_rfl
theorem allL17_tab : rtab .any (opsOf Tryz.f55 17) = allLT := by kernel_rfl
theorem allL_bits : waitsOk allLT.2 allLB = true := by kernel_rfl
theorem World.cell?_drew_ {w : World} {a : Addr} {v : Value} (h : w.cell? a = some v) : w.drew.cell? a = some v := h
theorem cellB {W W' : World} (hb : Below W.heap.size W W') {a : Addr} {v : Value} (h : W.cell? a = some v) : W'.cell? a = some v := (hb.cell (World.block_lt_of_cell? W a h)).trans h
theorem cellG {W W' : World} {row : Option Nat} (hg : W.grownBy W' row) {a : Addr} {v : Value} (h : W.cell? a = some v) (hne : some a.block ≠ row) : W'.cell? a = some v := (World.cell?_of_block (hg.block a.block (World.block_lt_of_cell? W a h) hne)).trans h
theorem addB {g k : Nat} : (Addr.add ⟨g, 0, none⟩ k).block = g := by first | rfl | (unfold Addr.add; split <;> rfl)
theorem pair_reads2 {W : World} {base : Nat} {ok : Nat → Prop} {v3 v1 v2 : Value} {xs : List S168} {x x' : S168} (HL : k168.R 168 W base ok v3 xs) (hx : 0 < xs.length) (h1 : (Kd.int .i64).R 3 W base ok v1 x.f0) (h2 : (Kd.int .i64).R 3 W base ok v2 x'.f0) (hok : ok W.heap.size) (hbase : base ≤ W.heap.size) :
  ReadsRow (k168.M (W.alloc (.cells #[v1, .int .i64 x.f1, v2, .int .i64 x'.f1] 168)) base (fun j => ok j ∧ some j ≠ v3.ownBlock)) k168.sz (W.alloc (.cells #[v1, .int .i64 x.f1, v2, .int .i64 x'.f1] 168)) (some ⟨W.heap.size, 0, none⟩) 2 [x, x'] := by
 obtain ⟨g, cap, rfl, _, hlt, cells, hg⟩ := Kd.R_form HL hx
 have e : ∀ j, j ≠ g → some j ≠ (Value.slice (some ⟨g, 0, none⟩) xs.length cap).ownBlock := by
  intro j hj he
  have : g = j := by simpa [Value.ownBlock] using he.symm
  exact hj this.symm
 have r1 := Kd.R_mono (Kd.R_types (t := 168) h1 hg (by decide)) (ok' := fun j => ok j ∧ some j ≠ (Value.slice (some ⟨g, 0, none⟩) xs.length cap).ownBlock) (fun j hj => ⟨hj.1, e j hj.2⟩)
 have r2 := Kd.R_mono (Kd.R_types (t := 168) h2 hg (by decide)) (ok' := fun j => ok j ∧ some j ≠ (Value.slice (some ⟨g, 0, none⟩) xs.length cap).ownBlock) (fun j hj => ⟨hj.1, e j hj.2⟩)
 have hr : Reps (k168.M W base (fun j => ok j ∧ some j ≠ (Value.slice (some ⟨g, 0, none⟩) xs.length cap).ownBlock)) k168.sz [x, x'] [v1, .int .i64 x.f1, v2, .int .i64 x'.f1] := Reps.snoc (Reps.snoc (Reps.none _ _) (k168_mkM W base _ x r1) rfl) (k168_mkM W base _ x' r2) rfl
 have r := R_litW k168 base 168 hr (fun _ h => h) ⟨hok, e _ (Nat.ne_of_gt hlt)⟩ hbase (by simp)
 obtain ⟨A, c, he, _, hrd⟩ := OwnRow.reads r.2
 cases he
 exact ReadsRow.imp_ hrd (Below.refl _ _) (fun _ _ hp => k168.M_mono (fun _ hk => hk.1) hp)
set_option maxHeartbeats 8000000 in
set_option maxRecDepth 100000 in
theorem allLines_calls (A0_0 : Option Addr) (c0_0 : Nat) (l0_0 : List ByteArray) (A0_1 : Option Addr) (c0_1 : Nat) (l0_1 : List (S70)) (A0_2 : Option Addr) (c0_2 : Nat) (l0_2 : List (S27)) (A0_3 : Option Addr) (c0_3 : Nat) (l0_3 : List (S89)) (a0_4 : Int) (a0_5 : Int) (a0_6 : Int) (w : World) (hr0_0 : Kd.C Kd.string w A0_0 l0_0.length l0_0) (hc0_0 : l0_0.length ≤ c0_0) (hr0_1 : Kd.C k70 w A0_1 l0_1.length l0_1) (hc0_1 : l0_1.length ≤ c0_1) (hr0_2 : Kd.C k27 w A0_2 l0_2.length l0_2) (hc0_2 : l0_2.length ≤ c0_2) (hr0_3 : Kd.C k89 w A0_3 l0_3.length l0_3) (hc0_3 : l0_3.length ≤ c0_3)
  (H : BatchOk l0_0 l0_1 l0_2 l0_3 a0_4 a0_5 a0_6) :
  Calls Tryz.prog 55 #[.agg #[.slice A0_0 l0_0.length c0_0, .slice A0_1 l0_1.length c0_1, .slice A0_2 l0_2.length c0_2, .slice A0_3 l0_3.length c0_3, .int .i64 a0_4, .int .i64 a0_5, .int .i64 a0_6]] w fun e w' => ∃ v0_ : Value, e = .returned v0_ ∧ Kd.R k168 168 w' w.heap.size (fun _ => True) v0_ (linesV l0_1 l0_2 l0_3 a0_4 a0_5 a0_6) ∧ Below w.heap.size w w' := by
 have hb0 : Below w.heap.size w (w.alloc (.cells #[.slice A0_0 l0_0.length c0_0, .slice A0_1 l0_1.length c0_1, .slice A0_2 l0_2.length c0_2, .slice A0_3 l0_3.length c0_3, .int .i64 a0_4, .int .i64 a0_5, .int .i64 a0_6] 29)) := below_alloc (Below.refl _ _) _
 have hbk := blk_new w (.cells #[.slice A0_0 l0_0.length c0_0, .slice A0_1 l0_1.length c0_1, .slice A0_2 l0_2.length c0_2, .slice A0_3 l0_3.length c0_3, .int .i64 a0_4, .int .i64 a0_5, .int .i64 a0_6] 29)
 have HR0 := Sd.mk hr0_0
 have HC0 := Sd.mk hc0_0
 have HR1 := Sd.mk hr0_1
 have HC1 := Sd.mk hc0_1
 have HR2 := Sd.mk hr0_2
 have HC2 := Sd.mk hc0_2
 have HR3 := Sd.mk hr0_3
 have HC3 := Sd.mk hc0_3
 have HH := Sd.mk H
 have hw6 := H.wanted
 have HM12 := Sd.mk H.m12
 obtain ⟨hw6a, hw6b⟩ := hw6
 have k6' : (w.alloc (.cells #[.slice A0_0 l0_0.length c0_0, .slice A0_1 l0_1.length c0_1, .slice A0_2 l0_2.length c0_2, .slice A0_3 l0_3.length c0_3, .int .i64 a0_4, .int .i64 a0_5, .int .i64 a0_6] 29)).cell? ⟨w.heap.size, 0 + 6, none⟩ = some (.int .i64 a0_6) := (blk_cell hbk 6).trans rfl
 have hf := blk_new (w.alloc (.cells #[.slice A0_0 l0_0.length c0_0, .slice A0_1 l0_1.length c0_1, .slice A0_2 l0_2.length c0_2, .slice A0_3 l0_3.length c0_3, .int .i64 a0_4, .int .i64 a0_5, .int .i64 a0_6] 29)) (.cells #[.slice none 0 0, .int .i64 (-1000 * a0_6)] 168)
 have HB := Sd.mk (below_alloc hb0 (.cells #[.slice none 0 0, .int .i64 (-1000 * a0_6)] 168))
 have BK := Sd.mk (blk_alloc hbk (.cells #[.slice none 0 0, .int .i64 (-1000 * a0_6)] 168))
 have HF : Sd (RowAt w ((w.alloc (.cells #[.slice A0_0 l0_0.length c0_0, .slice A0_1 l0_1.length c0_1, .slice A0_2 l0_2.length c0_2, .slice A0_3 l0_3.length c0_3, .int .i64 a0_4, .int .i64 a0_5, .int .i64 a0_6] 29)).alloc (.cells #[.slice none 0 0, .int .i64 (-1000 * a0_6)] 168)) (w.heap.size + 1) (-1000 * a0_6) (List.map (fun x => -lowM x) (l0_1.take 0))) :=
  ⟨⟨Nat.le_succ _, none, 0, by simpa using hf, Kd.R_nil _ _ _ _ _⟩⟩
 clear hr0_0 hc0_0 hr0_1 hc0_1 hr0_2 hc0_2 hr0_3 hc0_3 H hb0 hbk hf
 go_enter Tryz.func55, Tryz.ntmps55
 go_wp2
 clear k6' hw6a hw6b
 generalize (w.alloc (.cells #[.slice A0_0 l0_0.length c0_0, .slice A0_1 l0_1.length c0_1, .slice A0_2 l0_2.length c0_2, .slice A0_3 l0_3.length c0_3, .int .i64 a0_4, .int .i64 a0_5, .int .i64 a0_6] 29)).alloc (.cells #[.slice none 0 0, .int .i64 (-1000 * a0_6)] 168) = w0 at *
 go_loopg [4] l0_1.length (fun gq v4 wr => ∃ k : Nat, v4 = .int .i64 k ∧ k ≤ l0_1.length ∧ l0_1.length - k ≤ gq ∧ Sd (Below w.heap.size w wr) ∧ Sd (wr.heap[w.heap.size]? = some (.cells #[.slice A0_0 l0_0.length c0_0, .slice A0_1 l0_1.length c0_1, .slice A0_2 l0_2.length c0_2, .slice A0_3 l0_3.length c0_3, .int .i64 a0_4, .int .i64 a0_5, .int .i64 a0_6] 29 (0, 0))) ∧ Sd (RowAt w wr (w.heap.size + 1) (-1000 * a0_6) (List.map (fun x => -lowM x) (l0_1.take k))))
 case atStart => exact ⟨0, rfl, Nat.zero_le _, by omega, HB, BK, HF⟩
 case round =>
  clear HB BK HF
  obtain ⟨k, rfl, hk, hgk, HB, BK, HF⟩ := hrel
  have hm12 := HM12.out
  have kz1 : wr.cell? ⟨w.heap.size, 0 + 1, none⟩ = some (.slice A0_1 l0_1.length c0_1) := (blk_cell BK.out 1).trans rfl
  by_cases hlt : k < l0_1.length
  ·have hltz : (k : Int) < (l0_1.length : Int) := by omega
   obtain ⟨ad, A6, c6, rfl, hx0, hx1, hx2, hx3, hx4, hx5, hx6, hl6, hi6⟩ := at_T70 (Kd.C_below HR1.out HB.out) (k : Int) (by omega) hltz
   simp only [Int.toNat_natCast] at hx6
   clear hx0 hx1 hx2 hx3 hx4 hx5
   obtain ⟨K, hK⟩ := sumsF HH.out hlt
   have hgo := rf_sums.calls K A6 c6 (rd_T70 l0_1 (k : Int)).f6 (lowM (rd_T70 l0_1 (k : Int))) (highM (rd_T70 l0_1 (k : Int))) wr hi6 hl6 hK
   have hlb := lowM_bound (mat_gok HH.out hlt)
   have HLB := Sd.mk hlb
   clear hK hl6 hi6 hlb
   go_wp2_with fail
   refine hgo.mono ?_
   clear hgo
   rintro e w1 ⟨rfl, ⟨nd, rfl⟩⟩
   obtain ⟨A, c, hO, hR⟩ := HF.out.row
   have hlb := HLB.out
   have hfl : (List.map (fun x => -lowM x) (l0_1.take k)).length = k := by simp; omega
   have hstep : List.map (fun x => -lowM x) (l0_1.take k) ++ [-lowM (rd_T70 l0_1 (k : Int))] = List.map (fun x => -lowM x) (l0_1.take (k + 1)) := by rw [List.take_succ_eq_append_getElem hlt, List.map_append]; simp [rd_T70, hlt]
   have HSTEP := Sd.mk hstep
   have HFL := Sd.mk hfl
   clear hstep
   have c0 : (wr.drewN nd).cell? ⟨w.heap.size + 1, 0, none⟩ = some (.slice A (List.map (fun x => -lowM x) (l0_1.take k)).length c) := (blk_cell hO 0).trans rfl
   generalize hflv : List.map (fun x => -lowM x) (l0_1.take k) = fl at *
   clear hflv
   have hlm : (fl.length + 1) * 8 ≤ 140737488355328 := by rw [HFL.out]; exact Nat.le_trans (Nat.mul_le_mul_right 8 (show k + 1 ≤ 13 by omega)) (by decide)
   have HOO := Sd.mk hO
   have HRR := Sd.mk (Kd.R_drewN hR nd)
   have HBD := Sd.mk (pw_below_drewN HB.out nd)
   have HNE := Sd.mk (Kd.R_ne hR hO (by decide))
   have HNB := Sd.mk (Kd.R_ne hR BK.out (by decide))
   clear hO hR HF hfl
   go_wp2_with ((with_reducible refine gate_builtin (b := .append) (xs := #[.tmp 41, .tmp 44]) rfl ?_); at_builtin; refine Kd.R_append (Kd.int .i64) (w0 := w) w.heap.size rfl (.tmp 41) (.tmp 44) 30 3 (.int .i64 0) 8 rfl Tryz.underlying30 info3 rfl (by decide) (by omega) (.slice A fl.length c) (fl) (-lowM (rd_T70 l0_1 (k : Int))) [.int .i64 (-lowM (rd_T70 l0_1 (k : Int)))] (fun _ => True) (fun _ => False) rfl rfl ?aP (fun _ hk => hk.elim) ?aF ?aO ?aB ?aS ?aL ?_; (case aP => exact rfl); (case aB => exact (by repeat (first | (with_reducible first | exact HBD.out | apply below_alloc | apply pw_below_drewN | apply below_drew1) | exact HBD.out))); (case aF => exact (fun _ _ => trivial)); (case aO => exact (by (with_reducible repeat (first | apply Kd.R_alloc | apply Kd.R_drewN | apply Kd.R_drew)); exact HRR.out)); (case aS => exact below_size (by repeat (first | (with_reducible first | exact HBD.out | apply below_alloc | apply pw_below_drewN | apply below_drew1) | exact HBD.out))); (case aL => exact hlm); intro v5 w5 ho hb hg hat; obtain ⟨A1', c1', rfl⟩ := Kd.R_slice ho; have bo := blk_grown (blk_drewN HOO.out nd) hg HNE.out; have hw0 : w5.cell? ⟨w.heap.size + 1, 0, none⟩ = some (.slice A fl.length c) := (blk_cell bo 0).trans rfl; have hwf := blk_frozen bo 0)
   have HB5 := Sd.mk (below_set (j := 0) (v := .slice A1' (fl.length + 1) c1') hb (Nat.le_succ w.heap.size))
   have BK5 := Sd.mk (blk_far (p := ⟨w.heap.size + 1, 0, none⟩) (blk_grown (blk_drewN BK.out nd) hg HNB.out) (by simp) (.slice A1' (fl.length + 1) c1'))
   have HO' := Sd.mk (Kd.R_types (t := 168) ho bo (by decide))
   have bo' := Sd.mk bo
   clear ho hb hg hat bo hw0 hwf hlm c0 kz1
   go_roundg (l0_1.length - (k + 1))
   case measure => omega
   case rel =>
    refine ⟨k + 1, by first | rfl | (rw [wrap_id (by omega) (by omega)]; rfl), by omega, by omega, HB5, BK5, ⟨?_⟩⟩
    rw [← HSTEP.out]
    refine ⟨Nat.le_succ _, A1', c1', ?_, ?_⟩
    ·have h_ := blk_put (cs := #[.slice A fl.length c, .int .i64 (-1000 * a0_6)]) bo'.out 0 (.slice A1' (fl.length + 1) c1') rfl
     simpa using h_
    ·have h_ := Kd.R_mono (ok' := fun _ => True) (Kd.R_far HO'.out (fun _ hk => hk.2) (.slice A1' (fl.length + 1) c1') (p := ⟨w.heap.size + 1, 0, none⟩)) (fun _ _ => trivial)
     simpa using h_
  ·skip
   have hltz : ¬ (k : Int) < (l0_1.length : Int) := by omega
   obtain rfl : k = l0_1.length := by omega
   obtain ⟨A, c, hO, hR⟩ := HF.out.row
   have hT : List.map (fun x => -lowM x) (l0_1.take l0_1.length) = List.map (fun x => -lowM x) l0_1 := by rw [List.take_length]
   rw [hT] at hO hR
   have hlen : (List.map (fun x => -lowM x) l0_1).length = l0_1.length := List.length_map _
   rw [hlen] at hO hR
   have c0 : wr.cell? ⟨w.heap.size + 1, 0, none⟩ = some (.slice A l0_1.length c) := (blk_cell hO 0).trans rfl
   have c1 : wr.cell? ⟨w.heap.size + 1, 1, none⟩ = some (.int .i64 (-1000 * a0_6)) := (blk_cell hO 1).trans rfl
   have hLC := R_one51 (x := ⟨List.map (fun x => -lowM x) l0_1, -1000 * a0_6⟩) hR (below_size HB.out)
   have hbC := below_alloc HB.out (.cells #[.slice A l0_1.length c, .int .i64 (-1000 * a0_6)] 168)
   have hkC := blk_alloc BK.out (.cells #[.slice A l0_1.length c, .int .i64 (-1000 * a0_6)] 168)
   obtain ⟨K, hK⟩ := formsF HH.out
   have hs3 : Kd.V k89 89 (wr.alloc (.cells #[.slice A l0_1.length c, .int .i64 (-1000 * a0_6)] 168)) (wr.alloc (.cells #[.slice A l0_1.length c, .int .i64 (-1000 * a0_6)] 168)).heap.size (fun k_ => k_ < w.heap.size) (.slice A0_3 l0_3.length c0_3) l0_3 :=
    ⟨A0_3, c0_3, rfl, HC3.out, Kd.F_below (Kd.C_F k89_heap HR3.out) hbC⟩
   have hgo := rf_Forms.calls K A0_0 c0_0 l0_0 A0_1 c0_1 l0_1 A0_2 c0_2 l0_2 (fun k_ => k_ < w.heap.size) A0_3 c0_3 l0_3 a0_4 a0_5 a0_6 (refForms l0_0.length l0_2 l0_3) (wr.alloc (.cells #[.slice A l0_1.length c, .int .i64 (-1000 * a0_6)] 168)) (Kd.C_below HR0.out hbC) HC0.out (Kd.C_below HR1.out hbC) HC1.out (Kd.C_below HR2.out hbC) HC2.out hs3 hK
   have k0 : (wr.alloc (.cells #[.slice A l0_1.length c, .int .i64 (-1000 * a0_6)] 168)).cell? ⟨w.heap.size, 0, none⟩ = some (.slice A0_0 l0_0.length c0_0) := (blk_cell hkC 0).trans rfl
   have k1 : (wr.alloc (.cells #[.slice A l0_1.length c, .int .i64 (-1000 * a0_6)] 168)).cell? ⟨w.heap.size, 1, none⟩ = some (.slice A0_1 l0_1.length c0_1) := (blk_cell hkC 1).trans rfl
   have k2 : (wr.alloc (.cells #[.slice A l0_1.length c, .int .i64 (-1000 * a0_6)] 168)).cell? ⟨w.heap.size, 2, none⟩ = some (.slice A0_2 l0_2.length c0_2) := (blk_cell hkC 2).trans rfl
   have k3 : (wr.alloc (.cells #[.slice A l0_1.length c, .int .i64 (-1000 * a0_6)] 168)).cell? ⟨w.heap.size, 3, none⟩ = some (.slice A0_3 l0_3.length c0_3) := (blk_cell hkC 3).trans rfl
   have k4 : (wr.alloc (.cells #[.slice A l0_1.length c, .int .i64 (-1000 * a0_6)] 168)).cell? ⟨w.heap.size, 4, none⟩ = some (.int .i64 a0_4) := (blk_cell hkC 4).trans rfl
   have k5 : (wr.alloc (.cells #[.slice A l0_1.length c, .int .i64 (-1000 * a0_6)] 168)).cell? ⟨w.heap.size, 5, none⟩ = some (.int .i64 a0_5) := (blk_cell hkC 5).trans rfl
   have k6 : (wr.alloc (.cells #[.slice A l0_1.length c, .int .i64 (-1000 * a0_6)] 168)).cell? ⟨w.heap.size, 6, none⟩ = some (.int .i64 a0_6) := (blk_cell hkC 6).trans rfl
   have HLC := Sd.mk hLC
   have HBC := Sd.mk hbC
   have HKC := Sd.mk hkC
   clear hO hR hT hlen hLC hbC hkC hK hs3 HB BK HF
   go_wp2_with fail
   clear k0 k1 k2 k3 k4 k5 k6 c0 c1 kz1
   generalize (wr.alloc (.cells #[.slice A l0_1.length c, .int .i64 (-1000 * a0_6)] 168)) = Wc at *
   refine hgo.mono ?_
   clear hgo
   rintro e Wf ⟨vF, rfl, hN, hb⟩
   obtain ⟨Af, cf, rfl⟩ := Kd.N_slice hN
   have hAW : AllW w Wc Wf Wf #[.slice A0_0 l0_0.length c0_0, .slice A0_1 l0_1.length c0_1, .slice A0_2 l0_2.length c0_2, .slice A0_3 l0_3.length c0_3, .int .i64 a0_4, .int .i64 a0_5, .int .i64 a0_6] (fun j => (j < w.heap.size ∨ Wc.heap.size ≤ j) ∧ j < Wf.heap.size) (fun j => (w.heap.size ≤ j ∧ j < Wc.heap.size) ∨ Wf.heap.size ≤ j) (.slice Af (refForms l0_0.length l0_2 l0_3).length cf) (refForms l0_0.length l0_2 l0_3) (.slice (some ⟨wr.heap.size, 0, none⟩) 1 1) (headL l0_1 l0_2 l0_3 a0_6 0) :=
    ⟨below_step HBC.out hb, Nat.le_refl _, blk_below HKC.out hb, Kd.N_bound hN, Kd.R_below (Kd.R_mono (Kd.R_bound HLC.out) (fun j hj => Or.inl ⟨hj.2.1, hj.2.2.1⟩)) hb⟩
   have HAW := Sd.mk hAW
   have HBF := Sd.mk hb
   have HLF := Sd.mk (refForms_len HH.out)
   have HWC := Sd.mk (below_size HBC.out)
   have hfz : ((refForms l0_0.length l0_2 l0_3).length : Int) < 9223372036854775807 := by have H := HH.out; have := HLF.out; have := H.slen; have := H.o12; have := H.p6; omega
   have HFZ := Sd.mk hfz
   clear hAW hb hN HBC HKC HLC hfz
   generalize hfm : refForms l0_0.length l0_2 l0_3 = fm at *
   have HFM := Sd.mk hfm
   clear hfm
   go_wp2
   go_loopg [9, 7] fm.length (fun gq v9 v7 wr => ∃ j : Nat, v9 = .int .i64 j ∧ j ≤ fm.length ∧ fm.length - j ≤ gq ∧ Sd (AllW w Wc Wf wr #[.slice A0_0 l0_0.length c0_0, .slice A0_1 l0_1.length c0_1, .slice A0_2 l0_2.length c0_2, .slice A0_3 l0_3.length c0_3, .int .i64 a0_4, .int .i64 a0_5, .int .i64 a0_6] (fun j => (j < w.heap.size ∨ Wc.heap.size ≤ j) ∧ j < Wf.heap.size) (fun j => (w.heap.size ≤ j ∧ j < Wc.heap.size) ∨ Wf.heap.size ≤ j) (.slice Af fm.length cf) fm v7 (headL l0_1 l0_2 l0_3 a0_6 j)))
   case atStart => exact ⟨0, rfl, Nat.zero_le _, by omega, HAW⟩
   case round =>
    clear HAW
    obtain ⟨j, rfl, hj, hgj, HAW⟩ := hrel
    have hfz := HFZ.out
    by_cases hjt : j < fm.length
    ·have hjz : (j : Int) < (fm.length : Int) := by omega
     obtain ⟨wo, rfl⟩ : ∃ wo : World, wo = wr := ⟨_, rfl⟩
     have hU2 : (wo.alloc (.cells #[.slice none 0 0, .int .i64 0] 168)).heap.size = wo.heap.size + 1 := by simp
     have hA0 : AllW w Wc Wf wo #[.slice A0_0 l0_0.length c0_0, .slice A0_1 l0_1.length c0_1, .slice A0_2 l0_2.length c0_2, .slice A0_3 l0_3.length c0_3, .int .i64 a0_4, .int .i64 a0_5, .int .i64 a0_6] (fun j => (j < w.heap.size ∨ Wc.heap.size ≤ j) ∧ j < Wf.heap.size) (fun j => ((w.heap.size ≤ j ∧ j < Wc.heap.size) ∨ Wf.heap.size ≤ j) ∧ j < wo.heap.size) (.slice Af fm.length cf) fm u7 (headL l0_1 l0_2 l0_3 a0_6 j) := by
      have h_ := HAW.out
      exact ⟨h_.below, h_.size, h_.box, h_.forms, Kd.R_mono (Kd.R_bound h_.list) (fun j hj => ⟨hj.1, hj.2.2.1⟩)⟩
     have HA := Sd.mk (hA0.later (below_alloc (below_alloc (Below.refl _ _) (.cells #[.slice none 0 0, .int .i64 0] 168)) (.cells #[.slice none 0 0, .int .i64 0] 168)))
     have HU1 : Sd (RowAt3 w wo ((wo.alloc (.cells #[.slice none 0 0, .int .i64 0] 168)).alloc (.cells #[.slice none 0 0, .int .i64 0] 168)) wo.heap.size (.slice none 0 0) (List.map (upF l0_2 l0_3 j) (l0_1.take 0))) :=
      ⟨⟨Nat.le_refl _, blk_alloc (blk_new wo _) _, R_int_own (Kd.R_nil _ _ _ _ (fun _ => True)), fun k hk => by simp [Value.ownBlock] at hk⟩⟩
     have HU2 : Sd (RowAt3 w wo ((wo.alloc (.cells #[.slice none 0 0, .int .i64 0] 168)).alloc (.cells #[.slice none 0 0, .int .i64 0] 168)) (wo.heap.size + 1) (.slice none 0 0) (List.map (dnF l0_2 l0_3 j) (l0_1.take 0))) :=
      ⟨⟨Nat.le_succ _, by have h_ := blk_new (wo.alloc (.cells #[.slice none 0 0, .int .i64 0] 168)) (.cells #[.slice none 0 0, .int .i64 0] 168); rw [hU2] at h_; exact h_, R_int_own (Kd.R_nil _ _ _ _ (fun _ => True)), fun k hk => by simp [Value.ownBlock] at hk⟩⟩
     have HDI : Sd (∀ k, (Value.slice none 0 0).ownBlock = some k → (Value.slice none 0 0).ownBlock = some k → False) := ⟨fun k hk => by simp [Value.ownBlock] at hk⟩
     have HGJ := Sd.mk hgj
     have HJT := Sd.mk hjt
     have HSO := Sd.mk hA0.size
     have HWO := Sd.mk (show w.heap.size < wo.heap.size from blk_lt hA0.box)
     clear hU2 hA0 HAW hgj
     go_wp2
     generalize (wo.alloc (.cells #[.slice none 0 0, .int .i64 0] 168)).alloc (.cells #[.slice none 0 0, .int .i64 0] 168) = w1 at *
     go_loopg [12] l0_1.length (fun gq v12 wr => ∃ i : Nat, ∃ vu vd : Value, v12 = .int .i64 i ∧ i ≤ l0_1.length ∧ l0_1.length - i ≤ gq ∧ Sd (AllW w Wc Wf wr #[.slice A0_0 l0_0.length c0_0, .slice A0_1 l0_1.length c0_1, .slice A0_2 l0_2.length c0_2, .slice A0_3 l0_3.length c0_3, .int .i64 a0_4, .int .i64 a0_5, .int .i64 a0_6] (fun j => (j < w.heap.size ∨ Wc.heap.size ≤ j) ∧ j < Wf.heap.size) (fun j => ((w.heap.size ≤ j ∧ j < Wc.heap.size) ∨ Wf.heap.size ≤ j) ∧ j < wo.heap.size) (.slice Af fm.length cf) fm u7 (headL l0_1 l0_2 l0_3 a0_6 j)) ∧ Sd (RowAt3 w wo wr wo.heap.size vu (List.map (upF l0_2 l0_3 j) (l0_1.take i))) ∧ Sd (RowAt3 w wo wr (wo.heap.size + 1) vd (List.map (dnF l0_2 l0_3 j) (l0_1.take i))) ∧ Sd (∀ k, vu.ownBlock = some k → vd.ownBlock = some k → False))
     case atStart => exact ⟨0, _, _, rfl, Nat.zero_le _, by omega, HA, HU1, HU2, HDI⟩
     case round =>
      clear HA HU1 HU2 HDI
      obtain ⟨i, vu, vd, rfl, hi, hgi, HA, HU1, HU2, HDI⟩ := hrel
      have hm12 := HM12.out
      have kz1 : wr.cell? ⟨w.heap.size, 0 + 1, none⟩ = some (.slice A0_1 l0_1.length c0_1) := (blk_cell HA.out.box 1).trans rfl
      by_cases hit : i < l0_1.length
      ·have hiz : (i : Int) < (l0_1.length : Int) := by omega
       obtain ⟨adM, A6, c6, rfl, hx0, hx1, hx2, hx3, hx4, hx5, hx6, hl6, hi6⟩ := at_T70 (Kd.C_below HR1.out HA.out.below) (i : Int) (by omega) hiz
       simp only [Int.toNat_natCast] at hx6
       clear hx0 hx1 hx2 hx3 hx4 hx5
       obtain ⟨Af', cf', he, _, hCF⟩ := Kd.N_reads HA.out.forms
       cases he
       obtain ⟨adF, Ac, cc, rfl, hy0, hy1, hy2, hy3, hlc, hic⟩ := at_T89 hCF (j : Int) (by omega) hjz
       simp only [Int.toNat_natCast] at hy0 hy1 hy2 hy3
       go_upto_region 16 with (fail)
       have hbF : (adF.add (j * 4)).block < wo.heap.size := by
        obtain ⟨g_, cap_, e_, _, _, _⟩ := Kd.N_form HA.out.forms (by have := HJT.out; omega)
        have hok := HA.out.forms.1 g_ (by rw [e_]; rfl)
        injection e_ with e1_ e2_ e3_
        injection e1_ with e1_
        subst e1_
        rw [addB]
        exact Nat.lt_of_lt_of_le hok.2 HSO.out
       have hbM : (adM.add (i * 7)).block < wo.heap.size := by
        obtain ⟨ad_, A_, c_, e_, _, _, _, _, _, _, hz6, _, _⟩ := at_T70 HR1.out (i : Int) (by omega) hiz
        cases e_
        have h_ := World.block_lt_of_cell? w _ hz6
        have := HWO.out
        simp only [Int.toNat_natCast] at h_
        exact Nat.lt_trans h_ this
       have HBF := Sd.mk hbF
       have HBM := Sd.mk hbM
       clear hbF hbM
       obtain ⟨Ax, cx, rfl⟩ := Kd.R_slice HU1.out.row
       have hfl : (List.map (upF l0_2 l0_3 j) (l0_1.take i)).length = i := by simp; omega
       have HFL := Sd.mk hfl
       have HSTEP : Sd (List.map (upF l0_2 l0_3 j) (l0_1.take i) ++ [upF l0_2 l0_3 j (rd_T70 l0_1 (i : Int))] = List.map (upF l0_2 l0_3 j) (l0_1.take (i + 1))) := ⟨by rw [List.take_succ_eq_append_getElem hit, List.map_append]; simp [rd_T70, hit]⟩
       have hjl : j < l0_2.length + l0_3.length := by have := HJT.out; have := HLF.out; omega
       obtain ⟨Kf, hKf⟩ := aboveF HH.out hjl hit
       rw [HFM.out] at hKf
       have HKF := Sd.mk hKf
       have HS0 := Sd.mk (show wr.cell? ⟨wo.heap.size, 0, none⟩ = some (.slice Ax (List.map (upF l0_2 l0_3 j) (l0_1.take i)).length cx) from (blk_cell HU1.out.cell 0).trans rfl)
       have HS1 := Sd.mk (show wr.cell? ⟨w.heap.size, 1, none⟩ = some (.slice (some adM) l0_1.length c0_1) from (blk_cell HA.out.box 1).trans rfl)
       have HS2 := Sd.mk hy1
       have HS3 := Sd.mk hy2
       have HS4 := Sd.mk hy3
       have HS6 := Sd.mk hx6
       have HIC := Sd.mk hic
       have HLCC := Sd.mk hlc
       have HI6 := Sd.mk hi6
       have HL6 := Sd.mk hl6
       have HNE1 := Sd.mk (Kd.R_ne HU1.out.row HU1.out.cell (by decide))
       have HNE2 := Sd.mk (Kd.R_ne HU1.out.row HU2.out.cell (by decide))
       have HNE3 := Sd.mk (Kd.R_ne HU1.out.row HA.out.box (by decide))
       have HNEB : Sd (∀ b, b < wo.heap.size → some b ≠ (Value.slice Ax (List.map (upF l0_2 l0_3 j) (l0_1.take i)).length cx).ownBlock) := ⟨fun b hb he => Nat.not_le_of_lt hb (HU1.out.own b he.symm)⟩
       clear hfl hjl hKf hic hlc hi6 hl6 hy0 hy1 hy2 hy3 hx6
       generalize hflv : List.map (upF l0_2 l0_3 j) (l0_1.take i) = flu at *
       clear hflv
       refine start_ (n := 24) (S := fun w' => w'.cell? ⟨wo.heap.size, 0, none⟩ = some (.slice Ax flu.length cx) ∧ w'.cell? ⟨w.heap.size, 1, none⟩ = some (.slice (some adM) l0_1.length c0_1) ∧ w'.cell? ⟨(adF.add (j * 4)).block, (adF.add (j * 4)).off + 1, none⟩ = some (.slice Ac (rd_T89 fm (j : Int)).f1.length cc) ∧ w'.cell? ⟨(adF.add (j * 4)).block, (adF.add (j * 4)).off + 2, none⟩ = some (.int .i64 (rd_T89 fm (j : Int)).f2.f0) ∧ w'.cell? ⟨(adF.add (j * 4)).block, (adF.add (j * 4)).off + 3, none⟩ = some (.int .i64 (rd_T89 fm (j : Int)).f2.f1) ∧ w'.cell? ⟨(adF.add (j * 4)).block, (adF.add (j * 4)).off + 2 + 1, none⟩ = some (.int .i64 (rd_T89 fm (j : Int)).f2.f1) ∧ w'.cell? ⟨(adM.add (i * 7)).block, (adM.add (i * 7)).off + 6, none⟩ = some (.slice A6 (rd_T70 l0_1 (i : Int)).f6.length c6)) (ds := [23]) #[false, false, false, false, false, false, false, false, false, false, false, false, false, false, false, false, false, false, false, false, false, false, false, false] (by kernel_rfl) rfl rfl ⟨HS0.out, HS1.out, HS2.out, HS3.out, HS4.out, HS4.out, HS6.out⟩ (fun hHeld => ?_); refine with_tabW allL16_tab allL_bits (fun HT_ HW_ => ?_)
       replace HA := Sd.mk (HA.out.later (below_drew1 (Below.refl _ _)))
       replace HU1 := Sd.mk (HU1.out.later (below_drew1 (Below.refl _ _)))
       replace HU2 := Sd.mk (HU2.out.later (below_drew1 (Below.refl _ _)))
       replace HIC := Sd.mk (Kd.C_drew HIC.out)
       replace HI6 := Sd.mk (Kd.C_drew HI6.out)
       replace HS0 := Sd.mk (World.cell?_drew_ HS0.out)
       replace HS1 := Sd.mk (World.cell?_drew_ HS1.out)
       replace HS2 := Sd.mk (World.cell?_drew_ HS2.out)
       replace HS3 := Sd.mk (World.cell?_drew_ HS3.out)
       replace HS4 := Sd.mk (World.cell?_drew_ HS4.out)
       replace HS6 := Sd.mk (World.cell?_drew_ HS6.out)
       generalize wr.drew = W0 at HA HU1 HU2 HIC HI6 HS0 HS1 HS2 HS3 HS4 HS6 hHeld ⊢
       refine pure_ (i := 0) (N := some 64) (v := ?_) (a' := ?_) #[true, false, false, false, false, false, false, false, false, false, false, false, false, false, false, false, false, false, false, false, false, false, false, false] rfl rfl (any_of HT_.out (by kernel_rfl)) (fun _ _ _ h => h) (Or.inl ⟨by rfl, ?_⟩) ?_ ?_
       rotate_left
       ·exact tW
       rotate_left
       ·exact tP
       refine take_ (i := 1) (N := some 65) (v := ?_) (a' := ?_) #[true, true, false, false, false, false, false, false, false, false, false, false, false, false, false, false, false, false, false, false, false, false, false, false] rfl rfl (take_ofW HT_.out HW_.out (by kernel_rfl)) (fun _ _ _ h => h) (Or.inl ⟨by rfl, ?_⟩) hHeld ?_ ?_
       rotate_left
       ·rintro w' ⟨s0, s1, s2, s3, s4, s5, s6⟩
        go_simp
        with_reducible rfl
       rotate_left
       ·exact tP
       refine pure_ (i := 2) (N := some 66) (v := ?_) (a' := ?_) #[true, true, true, false, false, false, false, false, false, false, false, false, false, false, false, false, false, false, false, false, false, false, false, false] rfl rfl (any_of HT_.out (by kernel_rfl)) (fun _ _ _ h => h) (Or.inl ⟨by rfl, ?_⟩) ?_ ?_
       rotate_left
       ·exact tW
       rotate_left
       ·exact tP
       refine pure_ (i := 3) (N := some 67) (v := ?_) (a' := ?_) #[true, true, true, true, false, false, false, false, false, false, false, false, false, false, false, false, false, false, false, false, false, false, false, false] rfl rfl (any_of HT_.out (by kernel_rfl)) (fun _ _ _ h => h) (Or.inl ⟨by rfl, ?_⟩) ?_ ?_
       rotate_left
       ·exact tW
       rotate_left
       ·exact tP
       refine pure_ (i := 4) (N := some 68) (v := ?_) (a' := ?_) #[true, true, true, true, true, false, false, false, false, false, false, false, false, false, false, false, false, false, false, false, false, false, false, false] rfl rfl (any_of HT_.out (by kernel_rfl)) (fun _ _ _ h => h) (Or.inl ⟨by rfl, ?_⟩) ?_ ?_
       rotate_left
       ·exact tW
       rotate_left
       ·exact tP
       refine pure_ (i := 5) (N := some 69) (v := ?_) (a' := ?_) #[true, true, true, true, true, true, false, false, false, false, false, false, false, false, false, false, false, false, false, false, false, false, false, false] rfl rfl (any_of HT_.out (by kernel_rfl)) (fun _ _ _ h => h) (Or.inl ⟨by rfl, ?_⟩) ?_ ?_
       rotate_left
       ·exact tW
       rotate_left
       ·exact tP
       refine take_ (i := 6) (N := some 70) (v := ?_) (a' := ?_) #[true, true, true, true, true, true, true, false, false, false, false, false, false, false, false, false, false, false, false, false, false, false, false, false] rfl rfl (take_ofW HT_.out HW_.out (by kernel_rfl)) (fun _ _ _ h => h) (Or.inl ⟨by rfl, ?_⟩) hHeld ?_ ?_
       rotate_left
       ·rintro w' ⟨s0, s1, s2, s3, s4, s5, s6⟩
        go_simp
        with_reducible rfl
       rotate_left
       ·exact tP
       refine pure_ (i := 7) (N := some 71) (v := ?_) (a' := ?_) #[true, true, true, true, true, true, true, true, false, false, false, false, false, false, false, false, false, false, false, false, false, false, false, false] rfl rfl (any_of HT_.out (by kernel_rfl)) (fun _ _ _ h => h) (Or.inl ⟨by rfl, ?_⟩) ?_ ?_
       rotate_left
       ·exact tW
       rotate_left
       ·exact tP
       refine take_ (i := 8) (N := some 72) (v := ?_) (a' := ?_) #[true, true, true, true, true, true, true, true, true, false, false, false, false, false, false, false, false, false, false, false, false, false, false, false] rfl rfl (take_ofW HT_.out HW_.out (by kernel_rfl)) (fun _ _ _ h => h) (Or.inl ⟨by rfl, ?_⟩) hHeld ?_ ?_
       rotate_left
       ·rintro w' ⟨s0, s1, s2, s3, s4, s5, s6⟩
        go_simp
        with_reducible rfl
       rotate_left
       ·exact tP
       refine pure_ (i := 9) (N := some 73) (v := ?_) (a' := ?_) #[true, true, true, true, true, true, true, true, true, true, false, false, false, false, false, false, false, false, false, false, false, false, false, false] rfl rfl (any_of HT_.out (by kernel_rfl)) (fun _ _ _ h => h) (Or.inl ⟨by rfl, ?_⟩) ?_ ?_
       rotate_left
       ·exact tW
       rotate_left
       ·exact tP
       refine pure_ (i := 10) (N := some 74) (v := ?_) (a' := ?_) #[true, true, true, true, true, true, true, true, true, true, true, false, false, false, false, false, false, false, false, false, false, false, false, false] rfl rfl (any_of HT_.out (by kernel_rfl)) (fun _ _ _ h => h) (Or.inl ⟨by rfl, ?_⟩) ?_ ?_
       rotate_left
       ·exact tW
       rotate_left
       ·exact tP
       refine pure_ (i := 11) (N := some 75) (v := ?_) (a' := ?_) #[true, true, true, true, true, true, true, true, true, true, true, true, false, false, false, false, false, false, false, false, false, false, false, false] rfl rfl (any_of HT_.out (by kernel_rfl)) (fun _ _ _ h => h) (Or.inl ⟨by rfl, ?_⟩) ?_ ?_
       rotate_left
       ·exact tW
       rotate_left
       ·exact tP
       refine take_ (i := 12) (N := some 76) (v := ?_) (a' := ?_) #[true, true, true, true, true, true, true, true, true, true, true, true, true, false, false, false, false, false, false, false, false, false, false, false] rfl rfl (take_ofW HT_.out HW_.out (by kernel_rfl)) (fun _ _ _ h => h) (Or.inl ⟨by rfl, ?_⟩) hHeld ?_ ?_
       rotate_left
       ·rintro w' ⟨s0, s1, s2, s3, s4, s5, s6⟩
        go_simp
        with_reducible rfl
       rotate_left
       ·exact tP
       refine pure_ (i := 13) (N := some 77) (v := ?_) (a' := ?_) #[true, true, true, true, true, true, true, true, true, true, true, true, true, true, false, false, false, false, false, false, false, false, false, false] rfl rfl (any_of HT_.out (by kernel_rfl)) (fun _ _ _ h => h) (Or.inl ⟨by rfl, ?_⟩) ?_ ?_
       rotate_left
       ·exact tW
       rotate_left
       ·exact tP
       refine pure_ (i := 14) (N := some 78) (v := ?_) (a' := ?_) #[true, true, true, true, true, true, true, true, true, true, true, true, true, true, true, false, false, false, false, false, false, false, false, false] rfl rfl (any_of HT_.out (by kernel_rfl)) (fun _ _ _ h => h) (Or.inl ⟨by rfl, ?_⟩) ?_ ?_
       rotate_left
       ·exact tW
       rotate_left
       ·exact tP
       refine pure_ (i := 15) (N := some 79) (v := ?_) (a' := ?_) #[true, true, true, true, true, true, true, true, true, true, true, true, true, true, true, true, false, false, false, false, false, false, false, false] rfl rfl (any_of HT_.out (by kernel_rfl)) (fun _ _ _ h => h) (Or.inl ⟨by rfl, ?_⟩) ?_ ?_
       rotate_left
       ·exact tW
       rotate_left
       ·exact tP
       refine pure_ (i := 16) (N := some 80) (v := ?_) (a' := ?_) #[true, true, true, true, true, true, true, true, true, true, true, true, true, true, true, true, true, false, false, false, false, false, false, false] rfl rfl (any_of HT_.out (by kernel_rfl)) (fun _ _ _ h => h) (Or.inl ⟨by rfl, ?_⟩) ?_ ?_
       rotate_left
       ·exact tW
       rotate_left
       ·exact tP
       refine pure_ (i := 17) (N := some 81) (v := ?_) (a' := ?_) #[true, true, true, true, true, true, true, true, true, true, true, true, true, true, true, true, true, true, false, false, false, false, false, false] rfl rfl (any_of HT_.out (by kernel_rfl)) (fun _ _ _ h => h) (Or.inl ⟨by rfl, ?_⟩) ?_ ?_
       rotate_left
       ·exact tW
       rotate_left
       ·exact tP
       refine take_ (i := 18) (N := some 82) (v := ?_) (a' := ?_) #[true, true, true, true, true, true, true, true, true, true, true, true, true, true, true, true, true, true, true, false, false, false, false, false] rfl rfl (take_ofW HT_.out HW_.out (by kernel_rfl)) (fun _ _ _ h => h) (Or.inl ⟨by rfl, ?_⟩) hHeld ?_ ?_
       rotate_left
       ·rintro w' ⟨s0, s1, s2, s3, s4, s5, s6⟩
        go_simp
        with_reducible rfl
       rotate_left
       ·exact tP
       refine one_ (i := 19) (N := some 83) #[true, true, true, true, true, true, true, true, true, true, true, true, true, true, true, true, true, true, true, true, false, false, false, false] rfl rfl (one_of HT_.out (by kernel_rfl)) (by decide) (fun K hK => ?_)
       refine goes_ Tryz.func152 (by kernel_rfl) rfl #[.slice Ac (rd_T89 fm (j : Int)).f1.length cc, .slice A6 (rd_T70 l0_1 (i : Int)).f6.length c6, .int .i64 (rd_T89 fm (j : Int)).f2.f1] (by rfl) rfl rfl (by (try simp only [List.map_toArray, List.map_cons, List.map_nil]); first | done | rfl) ?_
       refine (rf_above.calls Kf Ac cc (rd_T89 fm (j : Int)).f1 A6 c6 (rd_T70 l0_1 (i : Int)).f6 (rd_T89 fm (j : Int)).f2.f1 (upF l0_2 l0_3 j (rd_T70 l0_1 (i : Int))) W0 HIC.out HLCC.out HI6.out HL6.out HKF.out).mono ?_
       rintro e w4 ⟨rfl, hb⟩
       refine ⟨_, rfl, ?_⟩
       replace HA := Sd.mk (HA.out.later hb)
       replace HU1 := Sd.mk (HU1.out.later hb)
       replace HU2 := Sd.mk (HU2.out.later hb)
       replace HS0 := Sd.mk (cellB hb HS0.out)
       replace HS1 := Sd.mk (cellB hb HS1.out)
       replace HS2 := Sd.mk (cellB hb HS2.out)
       replace HS3 := Sd.mk (cellB hb HS3.out)
       replace HS4 := Sd.mk (cellB hb HS4.out)
       replace HS6 := Sd.mk (cellB hb HS6.out)
       clear hb HIC HI6 HKF HLCC HL6
       refine hK.out _ _ ⟨HS0.out, HS1.out, HS2.out, HS3.out, HS4.out, HS4.out, HS6.out⟩ (fun hHeld => ?_)
       clear hK K
       refine norm_ (a' := ?_) ?_ ?_
       rotate_left
       ·show Act.put _ (some 83) _ = _
        exact tP
       refine one_ (i := 20) (N := some 84) #[true, true, true, true, true, true, true, true, true, true, true, true, true, true, true, true, true, true, true, true, true, false, false, false] rfl rfl (one_of HT_.out (by kernel_rfl)) (by decide) (fun K hK => ?_)
       refine value_ (w1 := ?_) (v := ?_) (by rfl) rfl ?_ ?_
       rotate_left 2
       ·go_simp
        constructor
        ·rfl
        ·rfl
       have hba := below_alloc (Below.refl w4.heap.size w4) (.cells #[.int .i64 (upF l0_2 l0_3 j (rd_T70 l0_1 (i : Int)))] 3)
       refine hK.out _ _ ⟨cellB hba HS0.out, cellB hba HS1.out, cellB hba HS2.out, cellB hba HS3.out, cellB hba HS4.out, cellB hba HS4.out, cellB hba HS6.out⟩ (fun hHeld => ?_)
       clear hba
       clear hK K
       refine norm_ (a' := ?_) ?_ ?_
       rotate_left
       ·show Act.put _ (some 84) _ = _
        exact tP
       refine one_ (i := 21) (N := some 85) #[true, true, true, true, true, true, true, true, true, true, true, true, true, true, true, true, true, true, true, true, true, true, false, false] rfl rfl (one_of HT_.out (by kernel_rfl)) (by decide) (fun K hK => ?_)
       refine Kd.R_append_step (Kd.int .i64) (w0 := w) w.heap.size (by rfl) (.tmp 65) (.tmp 84) 30 3 (.int .i64 0) 8 rfl Tryz.underlying30 info3 rfl (by decide) (by omega) (.slice Ax flu.length cx) flu (upF l0_2 l0_3 j (rd_T70 l0_1 (i : Int))) [.int .i64 (upF l0_2 l0_3 j (rd_T70 l0_1 (i : Int)))] (fun q => wo.heap.size ≤ q) (fun _ => False) rfl rfl ?aP (fun _ hk => hk.elim) ?aF ?aO ?aB ?aS ?aL ?_
       (case aP => exact rfl)
       (case aB => exact HA.out.below)
       (case aF => exact (fun q hq => Nat.le_trans (by have h1 := HU1.out.cell; have h2 := blk_lt h1; have h3 := HU1.out.ge; omega) hq))
       (case aO => exact Kd.R_mono HU1.out.row (fun q hq => HU1.out.own q hq))
       (case aS => exact below_size HA.out.below)
       (case aL => exact (by rw [HFL.out]; exact Nat.le_trans (Nat.mul_le_mul_right 8 (show i + 1 ≤ 13 by omega)) (by decide)))
       intro v1 w5 ho hb hg hat
       have HDJ : Sd (∀ q, v1.ownBlock = some q → vd.ownBlock = some q → False) := ⟨fun q hq hk => by
        have hlt := ((Kd.R_bound HU2.out.row).1 q hk).2.2.1
        rcases hat with hat | ⟨b, hat, hb_⟩
        ·rw [hat] at hq; exact HDI.out q hq hk
        ·rw [hat] at hq; injection hq with hq; omega⟩
       have HV' := Sd.mk (HU2.out.grown hg HNE2.out (fun q hk hq => by first | exact HDI.out q hq.symm hk | exact HDI.out q hk hq.symm))
       replace HA := Sd.mk (HA.out.grown hb hg HNE3.out (fun q hk => HNEB.out q (Nat.lt_of_lt_of_le hk.2 HSO.out)) (fun q hk => HNEB.out q hk.2))
       have HBU := Sd.mk (blk_grown HU1.out.cell hg HNE1.out)
       have HGE := Sd.mk HU1.out.ge
       replace HS0 := Sd.mk (cellG hg HS0.out HNE1.out)
       replace HS1 := Sd.mk (cellG hg HS1.out HNE3.out)
       replace HS2 := Sd.mk (cellG hg HS2.out (HNEB.out _ HBF.out))
       replace HS3 := Sd.mk (cellG hg HS3.out (HNEB.out _ HBF.out))
       replace HS4 := Sd.mk (cellG hg HS4.out (HNEB.out _ HBF.out))
       replace HS6 := Sd.mk (cellG hg HS6.out (HNEB.out _ HBM.out))
       have HO := Sd.mk (Kd.R_types (t := 168) ho HBU.out (by decide))
       have HOW := Sd.mk ho.1
       clear hb ho hg hat HNE1 HNE2 HNE3 HNEB HU1 HU2 HDI
       refine hK.out _ _ ⟨HS0.out, HS1.out, HS2.out, HS3.out, HS4.out, HS4.out, HS6.out⟩ (fun hHeld => ?_)
       clear hK K
       refine norm_ (a' := ?_) ?_ ?_
       rotate_left
       ·show Act.put _ (some 85) _ = _
        exact tP
       refine pure_ (i := 22) (N := some 86) (v := ?_) (a' := ?_) #[true, true, true, true, true, true, true, true, true, true, true, true, true, true, true, true, true, true, true, true, true, true, true, false] rfl rfl (any_of HT_.out (by kernel_rfl)) (fun _ _ _ h => h) (Or.inl ⟨by rfl, ?_⟩) ?_ ?_
       rotate_left
       ·exact tW
       rotate_left
       ·exact tP
       obtain ⟨A1', c1', rfl⟩ := Kd.R_slice HO.out
       have hw0 : w5.cell? ⟨wo.heap.size, 0, none⟩ = some (.slice Ax flu.length cx) := HS0.out
       have hwf := blk_frozen HBU.out 0
       refine last_ (i := 23) (N := none) #[true, true, true, true, true, true, true, true, true, true, true, true, true, true, true, true, true, true, true, true, true, true, true, true] rfl rfl (one_of HT_.out (by kernel_rfl)) (by decide) (fun K hK => ?_)
       refine skip_ (w1 := ?_) (by rfl) rfl ?_ ?_
       rotate_left
       ·go_simp
        rfl
       refine hK.out _ _ ?_
       clear hK K hw0 hwf
       refine done_ (done_of HT_.out (by kernel_rfl)) ?_
       clear HT_ HW_ hHeld HS0 HS1 HS2 HS3 HS4 HS6
       have HU2 := Sd.mk (HV'.out.set (.slice A1' (flu.length + 1) c1') (by omega) HBU.out)
       have HBK := Sd.mk (blk_put (cs' := #[.slice A1' (flu.length + 1) c1', .int .i64 0]) HBU.out 0 (.slice A1' (flu.length + 1) c1') (by rfl))
       replace HA := Sd.mk (HA.out.set (g := wo.heap.size) (.slice A1' (flu.length + 1) c1') (by have := HWO.out; omega) (fun q hk => by have := hk.2; have := HSO.out; omega) (fun q hk => by have := hk.2; omega))
       have HU1 : Sd (RowAt3 w wo (w5.setCell ⟨wo.heap.size, 0, none⟩ (.slice A1' (flu.length + 1) c1')) wo.heap.size (.slice A1' (flu.length + 1) c1') (List.map (upF l0_2 l0_3 j) (l0_1.take (i + 1)))) :=
        ⟨⟨HGE.out, HBK.out, by
         have h_ := Kd.R_far (p := ⟨wo.heap.size, 0, none⟩) HO.out (fun _ hk => hk.2) (.slice A1' (flu.length + 1) c1')
         rw [← HSTEP.out]
         simpa using R_int_own h_, fun k hk => HOW.out k (by simpa using hk)⟩⟩
       have HDI : Sd (∀ k, (Value.slice A1' (flu.length + 1) c1').ownBlock = some k → vd.ownBlock = some k → False) := ⟨fun k h1 h2 => HDJ.out k (by simpa using h1) h2⟩
       clear HV' HBK HBU HGE HO HOW HDJ HFL HSTEP
       generalize w5.setCell ⟨wo.heap.size, 0, none⟩ (.slice A1' (flu.length + 1) c1') = Wu at *
       generalize Value.slice A1' (flu.length + 1) c1' = vu2 at *
       obtain ⟨adM2, A6, c6, ea_, hx0, hx1, hx2, hx3, hx4, hx5, hx6, hl6, hi6⟩ := at_T70 (Kd.C_below HR1.out HA.out.below) (i : Int) (by omega) hiz
       injection ea_ with ea_; subst ea_
       simp only [Int.toNat_natCast] at hx6
       clear hx0 hx1 hx2 hx3 hx4 hx5
       obtain ⟨Af', cf', he, _, hCF⟩ := Kd.N_reads HA.out.forms
       cases he
       obtain ⟨adF2, Ac, cc, ea_, hy0, hy1, hy2, hy3, hlc, hic⟩ := at_T89 hCF (j : Int) (by omega) hjz
       injection ea_ with ea_; subst ea_
       simp only [Int.toNat_natCast] at hy0 hy1 hy2 hy3
       clear hCF
       go_upto_region 17 with (fail)
       have hbF : (adF.add (j * 4)).block < wo.heap.size := by
        obtain ⟨g_, cap_, e_, _, _, _⟩ := Kd.N_form HA.out.forms (by have := HJT.out; omega)
        have hok := HA.out.forms.1 g_ (by rw [e_]; rfl)
        injection e_ with e1_ e2_ e3_
        injection e1_ with e1_
        subst e1_
        rw [addB]
        exact Nat.lt_of_lt_of_le hok.2 HSO.out
       have hbM : (adM.add (i * 7)).block < wo.heap.size := by
        obtain ⟨ad_, A_, c_, e_, _, _, _, _, _, _, hz6, _, _⟩ := at_T70 HR1.out (i : Int) (by omega) hiz
        cases e_
        have h_ := World.block_lt_of_cell? w _ hz6
        have := HWO.out
        simp only [Int.toNat_natCast] at h_
        exact Nat.lt_trans h_ this
       have HBF := Sd.mk hbF
       have HBM := Sd.mk hbM
       clear hbF hbM
       obtain ⟨Ax, cx, rfl⟩ := Kd.R_slice HU2.out.row
       have hfl : (List.map (dnF l0_2 l0_3 j) (l0_1.take i)).length = i := by simp; omega
       have HFL := Sd.mk hfl
       have HSTEP : Sd (List.map (dnF l0_2 l0_3 j) (l0_1.take i) ++ [dnF l0_2 l0_3 j (rd_T70 l0_1 (i : Int))] = List.map (dnF l0_2 l0_3 j) (l0_1.take (i + 1))) := ⟨by rw [List.take_succ_eq_append_getElem hit, List.map_append]; simp [rd_T70, hit]⟩
       have hjl : j < l0_2.length + l0_3.length := by have := HJT.out; have := HLF.out; omega
       obtain ⟨Kf, hKf⟩ := belowF HH.out hjl hit
       rw [HFM.out] at hKf
       have HKF := Sd.mk hKf
       have HS0 := Sd.mk (show Wu.cell? ⟨(wo.heap.size + 1), 0, none⟩ = some (.slice Ax (List.map (dnF l0_2 l0_3 j) (l0_1.take i)).length cx) from (blk_cell HU2.out.cell 0).trans rfl)
       have HS1 := Sd.mk (show Wu.cell? ⟨w.heap.size, 1, none⟩ = some (.slice (some adM) l0_1.length c0_1) from (blk_cell HA.out.box 1).trans rfl)
       have HS2 := Sd.mk hy1
       have HS3 := Sd.mk hy2
       have HS4 := Sd.mk hy3
       have HS6 := Sd.mk hx6
       have HIC := Sd.mk hic
       have HLCC := Sd.mk hlc
       have HI6 := Sd.mk hi6
       have HL6 := Sd.mk hl6
       have HNE1 := Sd.mk (Kd.R_ne HU2.out.row HU2.out.cell (by decide))
       have HNE2 := Sd.mk (Kd.R_ne HU2.out.row HU1.out.cell (by decide))
       have HNE3 := Sd.mk (Kd.R_ne HU2.out.row HA.out.box (by decide))
       have HNEB : Sd (∀ b, b < wo.heap.size → some b ≠ (Value.slice Ax (List.map (dnF l0_2 l0_3 j) (l0_1.take i)).length cx).ownBlock) := ⟨fun b hb he => Nat.not_le_of_lt hb (HU2.out.own b he.symm)⟩
       clear hfl hjl hKf hic hlc hi6 hl6 hy0 hy1 hy2 hy3 hx6
       generalize hflv : List.map (dnF l0_2 l0_3 j) (l0_1.take i) = fld at *
       clear hflv
       refine start_ (n := 24) (S := fun w' => w'.cell? ⟨(wo.heap.size + 1), 0, none⟩ = some (.slice Ax fld.length cx) ∧ w'.cell? ⟨w.heap.size, 1, none⟩ = some (.slice (some adM) l0_1.length c0_1) ∧ w'.cell? ⟨(adF.add (j * 4)).block, (adF.add (j * 4)).off + 1, none⟩ = some (.slice Ac (rd_T89 fm (j : Int)).f1.length cc) ∧ w'.cell? ⟨(adF.add (j * 4)).block, (adF.add (j * 4)).off + 2, none⟩ = some (.int .i64 (rd_T89 fm (j : Int)).f2.f0) ∧ w'.cell? ⟨(adF.add (j * 4)).block, (adF.add (j * 4)).off + 3, none⟩ = some (.int .i64 (rd_T89 fm (j : Int)).f2.f1) ∧ w'.cell? ⟨(adF.add (j * 4)).block, (adF.add (j * 4)).off + 2 + 1, none⟩ = some (.int .i64 (rd_T89 fm (j : Int)).f2.f1) ∧ w'.cell? ⟨(adM.add (i * 7)).block, (adM.add (i * 7)).off + 6, none⟩ = some (.slice A6 (rd_T70 l0_1 (i : Int)).f6.length c6)) (ds := [23]) #[false, false, false, false, false, false, false, false, false, false, false, false, false, false, false, false, false, false, false, false, false, false, false, false] (by kernel_rfl) rfl rfl ⟨HS0.out, HS1.out, HS2.out, HS3.out, HS4.out, HS4.out, HS6.out⟩ (fun hHeld => ?_); refine with_tabW allL17_tab allL_bits (fun HT_ HW_ => ?_)
       replace HA := Sd.mk (HA.out.later (below_drew1 (Below.refl _ _)))
       replace HU1 := Sd.mk (HU1.out.later (below_drew1 (Below.refl _ _)))
       replace HU2 := Sd.mk (HU2.out.later (below_drew1 (Below.refl _ _)))
       replace HIC := Sd.mk (Kd.C_drew HIC.out)
       replace HI6 := Sd.mk (Kd.C_drew HI6.out)
       replace HS0 := Sd.mk (World.cell?_drew_ HS0.out)
       replace HS1 := Sd.mk (World.cell?_drew_ HS1.out)
       replace HS2 := Sd.mk (World.cell?_drew_ HS2.out)
       replace HS3 := Sd.mk (World.cell?_drew_ HS3.out)
       replace HS4 := Sd.mk (World.cell?_drew_ HS4.out)
       replace HS6 := Sd.mk (World.cell?_drew_ HS6.out)
       generalize Wu.drew = W0 at HA HU1 HU2 HIC HI6 HS0 HS1 HS2 HS3 HS4 HS6 hHeld ⊢
       refine pure_ (i := 0) (N := some 87) (v := ?_) (a' := ?_) #[true, false, false, false, false, false, false, false, false, false, false, false, false, false, false, false, false, false, false, false, false, false, false, false] rfl rfl (any_of HT_.out (by kernel_rfl)) (fun _ _ _ h => h) (Or.inl ⟨by rfl, ?_⟩) ?_ ?_
       rotate_left
       ·exact tW
       rotate_left
       ·exact tP
       refine take_ (i := 1) (N := some 88) (v := ?_) (a' := ?_) #[true, true, false, false, false, false, false, false, false, false, false, false, false, false, false, false, false, false, false, false, false, false, false, false] rfl rfl (take_ofW HT_.out HW_.out (by kernel_rfl)) (fun _ _ _ h => h) (Or.inl ⟨by rfl, ?_⟩) hHeld ?_ ?_
       rotate_left
       ·rintro w' ⟨s0, s1, s2, s3, s4, s5, s6⟩
        go_simp
        with_reducible rfl
       rotate_left
       ·exact tP
       refine pure_ (i := 2) (N := some 89) (v := ?_) (a' := ?_) #[true, true, true, false, false, false, false, false, false, false, false, false, false, false, false, false, false, false, false, false, false, false, false, false] rfl rfl (any_of HT_.out (by kernel_rfl)) (fun _ _ _ h => h) (Or.inl ⟨by rfl, ?_⟩) ?_ ?_
       rotate_left
       ·exact tW
       rotate_left
       ·exact tP
       refine pure_ (i := 3) (N := some 90) (v := ?_) (a' := ?_) #[true, true, true, true, false, false, false, false, false, false, false, false, false, false, false, false, false, false, false, false, false, false, false, false] rfl rfl (any_of HT_.out (by kernel_rfl)) (fun _ _ _ h => h) (Or.inl ⟨by rfl, ?_⟩) ?_ ?_
       rotate_left
       ·exact tW
       rotate_left
       ·exact tP
       refine pure_ (i := 4) (N := some 91) (v := ?_) (a' := ?_) #[true, true, true, true, true, false, false, false, false, false, false, false, false, false, false, false, false, false, false, false, false, false, false, false] rfl rfl (any_of HT_.out (by kernel_rfl)) (fun _ _ _ h => h) (Or.inl ⟨by rfl, ?_⟩) ?_ ?_
       rotate_left
       ·exact tW
       rotate_left
       ·exact tP
       refine pure_ (i := 5) (N := some 92) (v := ?_) (a' := ?_) #[true, true, true, true, true, true, false, false, false, false, false, false, false, false, false, false, false, false, false, false, false, false, false, false] rfl rfl (any_of HT_.out (by kernel_rfl)) (fun _ _ _ h => h) (Or.inl ⟨by rfl, ?_⟩) ?_ ?_
       rotate_left
       ·exact tW
       rotate_left
       ·exact tP
       refine take_ (i := 6) (N := some 93) (v := ?_) (a' := ?_) #[true, true, true, true, true, true, true, false, false, false, false, false, false, false, false, false, false, false, false, false, false, false, false, false] rfl rfl (take_ofW HT_.out HW_.out (by kernel_rfl)) (fun _ _ _ h => h) (Or.inl ⟨by rfl, ?_⟩) hHeld ?_ ?_
       rotate_left
       ·rintro w' ⟨s0, s1, s2, s3, s4, s5, s6⟩
        go_simp
        with_reducible rfl
       rotate_left
       ·exact tP
       refine pure_ (i := 7) (N := some 94) (v := ?_) (a' := ?_) #[true, true, true, true, true, true, true, true, false, false, false, false, false, false, false, false, false, false, false, false, false, false, false, false] rfl rfl (any_of HT_.out (by kernel_rfl)) (fun _ _ _ h => h) (Or.inl ⟨by rfl, ?_⟩) ?_ ?_
       rotate_left
       ·exact tW
       rotate_left
       ·exact tP
       refine take_ (i := 8) (N := some 95) (v := ?_) (a' := ?_) #[true, true, true, true, true, true, true, true, true, false, false, false, false, false, false, false, false, false, false, false, false, false, false, false] rfl rfl (take_ofW HT_.out HW_.out (by kernel_rfl)) (fun _ _ _ h => h) (Or.inl ⟨by rfl, ?_⟩) hHeld ?_ ?_
       rotate_left
       ·rintro w' ⟨s0, s1, s2, s3, s4, s5, s6⟩
        go_simp
        with_reducible rfl
       rotate_left
       ·exact tP
       refine pure_ (i := 9) (N := some 96) (v := ?_) (a' := ?_) #[true, true, true, true, true, true, true, true, true, true, false, false, false, false, false, false, false, false, false, false, false, false, false, false] rfl rfl (any_of HT_.out (by kernel_rfl)) (fun _ _ _ h => h) (Or.inl ⟨by rfl, ?_⟩) ?_ ?_
       rotate_left
       ·exact tW
       rotate_left
       ·exact tP
       refine pure_ (i := 10) (N := some 97) (v := ?_) (a' := ?_) #[true, true, true, true, true, true, true, true, true, true, true, false, false, false, false, false, false, false, false, false, false, false, false, false] rfl rfl (any_of HT_.out (by kernel_rfl)) (fun _ _ _ h => h) (Or.inl ⟨by rfl, ?_⟩) ?_ ?_
       rotate_left
       ·exact tW
       rotate_left
       ·exact tP
       refine pure_ (i := 11) (N := some 98) (v := ?_) (a' := ?_) #[true, true, true, true, true, true, true, true, true, true, true, true, false, false, false, false, false, false, false, false, false, false, false, false] rfl rfl (any_of HT_.out (by kernel_rfl)) (fun _ _ _ h => h) (Or.inl ⟨by rfl, ?_⟩) ?_ ?_
       rotate_left
       ·exact tW
       rotate_left
       ·exact tP
       refine take_ (i := 12) (N := some 99) (v := ?_) (a' := ?_) #[true, true, true, true, true, true, true, true, true, true, true, true, true, false, false, false, false, false, false, false, false, false, false, false] rfl rfl (take_ofW HT_.out HW_.out (by kernel_rfl)) (fun _ _ _ h => h) (Or.inl ⟨by rfl, ?_⟩) hHeld ?_ ?_
       rotate_left
       ·rintro w' ⟨s0, s1, s2, s3, s4, s5, s6⟩
        go_simp
        with_reducible rfl
       rotate_left
       ·exact tP
       refine pure_ (i := 13) (N := some 100) (v := ?_) (a' := ?_) #[true, true, true, true, true, true, true, true, true, true, true, true, true, true, false, false, false, false, false, false, false, false, false, false] rfl rfl (any_of HT_.out (by kernel_rfl)) (fun _ _ _ h => h) (Or.inl ⟨by rfl, ?_⟩) ?_ ?_
       rotate_left
       ·exact tW
       rotate_left
       ·exact tP
       refine pure_ (i := 14) (N := some 101) (v := ?_) (a' := ?_) #[true, true, true, true, true, true, true, true, true, true, true, true, true, true, true, false, false, false, false, false, false, false, false, false] rfl rfl (any_of HT_.out (by kernel_rfl)) (fun _ _ _ h => h) (Or.inl ⟨by rfl, ?_⟩) ?_ ?_
       rotate_left
       ·exact tW
       rotate_left
       ·exact tP
       refine pure_ (i := 15) (N := some 102) (v := ?_) (a' := ?_) #[true, true, true, true, true, true, true, true, true, true, true, true, true, true, true, true, false, false, false, false, false, false, false, false] rfl rfl (any_of HT_.out (by kernel_rfl)) (fun _ _ _ h => h) (Or.inl ⟨by rfl, ?_⟩) ?_ ?_
       rotate_left
       ·exact tW
       rotate_left
       ·exact tP
       refine pure_ (i := 16) (N := some 103) (v := ?_) (a' := ?_) #[true, true, true, true, true, true, true, true, true, true, true, true, true, true, true, true, true, false, false, false, false, false, false, false] rfl rfl (any_of HT_.out (by kernel_rfl)) (fun _ _ _ h => h) (Or.inl ⟨by rfl, ?_⟩) ?_ ?_
       rotate_left
       ·exact tW
       rotate_left
       ·exact tP
       refine pure_ (i := 17) (N := some 104) (v := ?_) (a' := ?_) #[true, true, true, true, true, true, true, true, true, true, true, true, true, true, true, true, true, true, false, false, false, false, false, false] rfl rfl (any_of HT_.out (by kernel_rfl)) (fun _ _ _ h => h) (Or.inl ⟨by rfl, ?_⟩) ?_ ?_
       rotate_left
       ·exact tW
       rotate_left
       ·exact tP
       refine take_ (i := 18) (N := some 105) (v := ?_) (a' := ?_) #[true, true, true, true, true, true, true, true, true, true, true, true, true, true, true, true, true, true, true, false, false, false, false, false] rfl rfl (take_ofW HT_.out HW_.out (by kernel_rfl)) (fun _ _ _ h => h) (Or.inl ⟨by rfl, ?_⟩) hHeld ?_ ?_
       rotate_left
       ·rintro w' ⟨s0, s1, s2, s3, s4, s5, s6⟩
        go_simp
        with_reducible rfl
       rotate_left
       ·exact tP
       refine one_ (i := 19) (N := some 106) #[true, true, true, true, true, true, true, true, true, true, true, true, true, true, true, true, true, true, true, true, false, false, false, false] rfl rfl (one_of HT_.out (by kernel_rfl)) (by decide) (fun K hK => ?_)
       refine goes_ Tryz.func153 (by kernel_rfl) rfl #[.slice Ac (rd_T89 fm (j : Int)).f1.length cc, .slice A6 (rd_T70 l0_1 (i : Int)).f6.length c6, .int .i64 (rd_T89 fm (j : Int)).f2.f0] (by rfl) rfl rfl (by (try simp only [List.map_toArray, List.map_cons, List.map_nil]); first | done | rfl) ?_
       refine (rf_below.calls Kf Ac cc (rd_T89 fm (j : Int)).f1 A6 c6 (rd_T70 l0_1 (i : Int)).f6 (rd_T89 fm (j : Int)).f2.f0 (dnF l0_2 l0_3 j (rd_T70 l0_1 (i : Int))) W0 HIC.out HLCC.out HI6.out HL6.out HKF.out).mono ?_
       rintro e w4 ⟨rfl, hb⟩
       refine ⟨_, rfl, ?_⟩
       replace HA := Sd.mk (HA.out.later hb)
       replace HU1 := Sd.mk (HU1.out.later hb)
       replace HU2 := Sd.mk (HU2.out.later hb)
       replace HS0 := Sd.mk (cellB hb HS0.out)
       replace HS1 := Sd.mk (cellB hb HS1.out)
       replace HS2 := Sd.mk (cellB hb HS2.out)
       replace HS3 := Sd.mk (cellB hb HS3.out)
       replace HS4 := Sd.mk (cellB hb HS4.out)
       replace HS6 := Sd.mk (cellB hb HS6.out)
       clear hb HIC HI6 HKF HLCC HL6
       refine hK.out _ _ ⟨HS0.out, HS1.out, HS2.out, HS3.out, HS4.out, HS4.out, HS6.out⟩ (fun hHeld => ?_)
       clear hK K
       refine norm_ (a' := ?_) ?_ ?_
       rotate_left
       ·show Act.put _ (some 106) _ = _
        exact tP
       refine one_ (i := 20) (N := some 107) #[true, true, true, true, true, true, true, true, true, true, true, true, true, true, true, true, true, true, true, true, true, false, false, false] rfl rfl (one_of HT_.out (by kernel_rfl)) (by decide) (fun K hK => ?_)
       refine value_ (w1 := ?_) (v := ?_) (by rfl) rfl ?_ ?_
       rotate_left 2
       ·go_simp
        constructor
        ·rfl
        ·rfl
       have hba := below_alloc (Below.refl w4.heap.size w4) (.cells #[.int .i64 (dnF l0_2 l0_3 j (rd_T70 l0_1 (i : Int)))] 3)
       refine hK.out _ _ ⟨cellB hba HS0.out, cellB hba HS1.out, cellB hba HS2.out, cellB hba HS3.out, cellB hba HS4.out, cellB hba HS4.out, cellB hba HS6.out⟩ (fun hHeld => ?_)
       clear hba
       clear hK K
       refine norm_ (a' := ?_) ?_ ?_
       rotate_left
       ·show Act.put _ (some 107) _ = _
        exact tP
       refine one_ (i := 21) (N := some 108) #[true, true, true, true, true, true, true, true, true, true, true, true, true, true, true, true, true, true, true, true, true, true, false, false] rfl rfl (one_of HT_.out (by kernel_rfl)) (by decide) (fun K hK => ?_)
       refine Kd.R_append_step (Kd.int .i64) (w0 := w) w.heap.size (by rfl) (.tmp 88) (.tmp 107) 30 3 (.int .i64 0) 8 rfl Tryz.underlying30 info3 rfl (by decide) (by omega) (.slice Ax fld.length cx) fld (dnF l0_2 l0_3 j (rd_T70 l0_1 (i : Int))) [.int .i64 (dnF l0_2 l0_3 j (rd_T70 l0_1 (i : Int)))] (fun q => wo.heap.size ≤ q) (fun _ => False) rfl rfl ?aP (fun _ hk => hk.elim) ?aF ?aO ?aB ?aS ?aL ?_
       (case aP => exact rfl)
       (case aB => exact HA.out.below)
       (case aF => exact (fun q hq => Nat.le_trans (by have h1 := HU1.out.cell; have h2 := blk_lt h1; have h3 := HU1.out.ge; omega) hq))
       (case aO => exact Kd.R_mono HU2.out.row (fun q hq => HU2.out.own q hq))
       (case aS => exact below_size HA.out.below)
       (case aL => exact (by rw [HFL.out]; exact Nat.le_trans (Nat.mul_le_mul_right 8 (show i + 1 ≤ 13 by omega)) (by decide)))
       intro v1 w5 ho hb hg hat
       have HDJ : Sd (∀ q, v1.ownBlock = some q → vu2.ownBlock = some q → False) := ⟨fun q hq hk => by
        have hlt := ((Kd.R_bound HU1.out.row).1 q hk).2.2.1
        rcases hat with hat | ⟨b, hat, hb_⟩
        ·rw [hat] at hq; exact HDI.out q hk hq
        ·rw [hat] at hq; injection hq with hq; omega⟩
       have HV' := Sd.mk (HU1.out.grown hg HNE2.out (fun q hk hq => by first | exact HDI.out q hq.symm hk | exact HDI.out q hk hq.symm))
       replace HA := Sd.mk (HA.out.grown hb hg HNE3.out (fun q hk => HNEB.out q (Nat.lt_of_lt_of_le hk.2 HSO.out)) (fun q hk => HNEB.out q hk.2))
       have HBU := Sd.mk (blk_grown HU2.out.cell hg HNE1.out)
       have HGE := Sd.mk HU2.out.ge
       replace HS0 := Sd.mk (cellG hg HS0.out HNE1.out)
       replace HS1 := Sd.mk (cellG hg HS1.out HNE3.out)
       replace HS2 := Sd.mk (cellG hg HS2.out (HNEB.out _ HBF.out))
       replace HS3 := Sd.mk (cellG hg HS3.out (HNEB.out _ HBF.out))
       replace HS4 := Sd.mk (cellG hg HS4.out (HNEB.out _ HBF.out))
       replace HS6 := Sd.mk (cellG hg HS6.out (HNEB.out _ HBM.out))
       have HO := Sd.mk (Kd.R_types (t := 168) ho HBU.out (by decide))
       have HOW := Sd.mk ho.1
       clear hb ho hg hat HNE1 HNE2 HNE3 HNEB HU1 HU2 HDI
       refine hK.out _ _ ⟨HS0.out, HS1.out, HS2.out, HS3.out, HS4.out, HS4.out, HS6.out⟩ (fun hHeld => ?_)
       clear hK K
       refine norm_ (a' := ?_) ?_ ?_
       rotate_left
       ·show Act.put _ (some 108) _ = _
        exact tP
       refine pure_ (i := 22) (N := some 109) (v := ?_) (a' := ?_) #[true, true, true, true, true, true, true, true, true, true, true, true, true, true, true, true, true, true, true, true, true, true, true, false] rfl rfl (any_of HT_.out (by kernel_rfl)) (fun _ _ _ h => h) (Or.inl ⟨by rfl, ?_⟩) ?_ ?_
       rotate_left
       ·exact tW
       rotate_left
       ·exact tP
       obtain ⟨A1', c1', rfl⟩ := Kd.R_slice HO.out
       have hw0 : w5.cell? ⟨(wo.heap.size + 1), 0, none⟩ = some (.slice Ax fld.length cx) := HS0.out
       have hwf := blk_frozen HBU.out 0
       refine last_ (i := 23) (N := none) #[true, true, true, true, true, true, true, true, true, true, true, true, true, true, true, true, true, true, true, true, true, true, true, true] rfl rfl (one_of HT_.out (by kernel_rfl)) (by decide) (fun K hK => ?_)
       refine skip_ (w1 := ?_) (by rfl) rfl ?_ ?_
       rotate_left
       ·go_simp
        rfl
       refine hK.out _ _ ?_
       clear hK K hw0 hwf
       refine done_ (done_of HT_.out (by kernel_rfl)) ?_
       clear HT_ HW_ hHeld HS0 HS1 HS2 HS3 HS4 HS6
       have HU1 := Sd.mk (HV'.out.set (.slice A1' (fld.length + 1) c1') (by omega) HBU.out)
       have HBK := Sd.mk (blk_put (cs' := #[.slice A1' (fld.length + 1) c1', .int .i64 0]) HBU.out 0 (.slice A1' (fld.length + 1) c1') (by rfl))
       replace HA := Sd.mk (HA.out.set (g := (wo.heap.size + 1)) (.slice A1' (fld.length + 1) c1') (by have := HWO.out; omega) (fun q hk => by have := hk.2; have := HSO.out; omega) (fun q hk => by have := hk.2; omega))
       have HU2 : Sd (RowAt3 w wo (w5.setCell ⟨(wo.heap.size + 1), 0, none⟩ (.slice A1' (fld.length + 1) c1')) (wo.heap.size + 1) (.slice A1' (fld.length + 1) c1') (List.map (dnF l0_2 l0_3 j) (l0_1.take (i + 1)))) :=
        ⟨⟨HGE.out, HBK.out, by
         have h_ := Kd.R_far (p := ⟨(wo.heap.size + 1), 0, none⟩) HO.out (fun _ hk => hk.2) (.slice A1' (fld.length + 1) c1')
         rw [← HSTEP.out]
         simpa using R_int_own h_, fun k hk => HOW.out k (by simpa using hk)⟩⟩
       have HDI : Sd (∀ k, vu2.ownBlock = some k → (Value.slice A1' (fld.length + 1) c1').ownBlock = some k → False) := ⟨fun k h1 h2 => HDJ.out k (by simpa using h2) h1⟩
       clear HV' HBK HBU HGE HO HOW HDJ HFL HSTEP
       generalize w5.setCell ⟨(wo.heap.size + 1), 0, none⟩ (.slice A1' (fld.length + 1) c1') = Wd at *
       generalize Value.slice A1' (fld.length + 1) c1' = vd2 at *
       clear kz1 hm12
       go_wp2
       go_roundg (l0_1.length - (i + 1))
       case measure => omega
       case rel => exact ⟨i + 1, _, _, by first | rfl | (rw [wrap_id (by omega) (by omega)]; rfl), by omega, by omega, HA, HU1, HU2, HDI⟩
      ·skip
       have hiz : ¬ (i : Int) < (l0_1.length : Int) := by omega
       obtain rfl : i = l0_1.length := by omega
       rw [List.take_length] at HU1 HU2
       have cu0 : wr.cell? ⟨wo.heap.size, 0, none⟩ = some vu := (blk_cell HU1.out.cell 0).trans rfl
       have cu1 : wr.cell? ⟨wo.heap.size, 1, none⟩ = some (.int .i64 0) := (blk_cell HU1.out.cell 1).trans rfl
       have cd0 : wr.cell? ⟨wo.heap.size + 1, 0, none⟩ = some vd := (blk_cell HU2.out.cell 0).trans rfl
       have cd1 : wr.cell? ⟨wo.heap.size + 1, 1, none⟩ = some (.int .i64 0) := (blk_cell HU2.out.cell 1).trans rfl
       have HL1 : Sd (k168.R 168 wr w.heap.size (fun j => (w.heap.size ≤ j ∧ j < Wc.heap.size) ∨ Wf.heap.size ≤ j) u7 (headL l0_1 l0_2 l0_3 a0_6 j)) := ⟨Kd.R_mono HA.out.list (fun k hk => hk.1)⟩
       have Hv1 : Sd ((Kd.int .i64).R 3 wr w.heap.size (fun j => (w.heap.size ≤ j ∧ j < Wc.heap.size) ∨ Wf.heap.size ≤ j) vu (List.map (upF l0_2 l0_3 j) l0_1)) := ⟨Kd.R_mono HU1.out.row (fun k hk => Or.inr (Nat.le_trans HSO.out (HU1.out.own k hk)))⟩
       have Hv2 : Sd ((Kd.int .i64).R 3 wr w.heap.size (fun j => (w.heap.size ≤ j ∧ j < Wc.heap.size) ∨ Wf.heap.size ≤ j) vd (List.map (dnF l0_2 l0_3 j) l0_1)) := ⟨Kd.R_mono HU2.out.row (fun k hk => Or.inr (Nat.le_trans HSO.out (HU2.out.own k hk)))⟩
       have HSZ := Sd.mk (show 1 + 2 * j + 2 ≤ 100 by have H := HH.out; have := H.slen; have := H.o12; have := H.p6; have := HLF.out; have := HJT.out; omega)
       go_upto_region 18 with (fail)
       clear kz1 hm12
       go_wp2_with ((with_reducible refine gate_builtin (b := .append) (xs := #[.tmp 110, .tmp 113]) rfl ?_); at_builtin; refine Kd.R_append_rows k168 (w0 := w) w.heap.size rfl (.tmp 110) (.tmp 113) 100 168 (.agg #[.slice none 0 0, .int .i64 0]) 32 rfl Tryz.underlying100 info168 rfl (by decide) (by omega) u7 (headL l0_1 l0_2 l0_3 a0_6 j) (pairL l0_1 l0_2 l0_3 j) (some ⟨_, 0, none⟩) 2 2 (fun j => (w.heap.size ≤ j ∧ j < Wc.heap.size) ∨ Wf.heap.size ≤ j) (fun k => (fun j => (w.heap.size ≤ j ∧ j < Wc.heap.size) ∨ Wf.heap.size ≤ j) k ∧ some k ≠ u7.ownBlock) rfl rfl ?aO ?aR (fun _ _ hp => hp) (fun _ hk => hk) ?aF ?aB ?aS ?aL ?_; (case aO => exact (by (with_reducible repeat (first | apply Kd.R_alloc | apply Kd.R_drewN | apply Kd.R_drew)); exact HL1.out)); (case aR => exact pair_reads2 (x := ⟨List.map (upF l0_2 l0_3 j) l0_1, 0⟩) (x' := ⟨List.map (dnF l0_2 l0_3 j) l0_1, 0⟩) HL1.out (by rw [headL_len]; omega) Hv1.out Hv2.out (Or.inr HA.out.size) (below_size HA.out.below)); (case aB => exact (by repeat (first | (with_reducible first | exact HA.out.below | apply below_alloc | apply pw_below_drewN | apply below_drew1) | exact HA.out.below))); (case aF => exact (fun _ hk => Or.inr (Nat.le_trans (Nat.le_trans HA.out.size (by simp)) hk))); (case aS => exact below_size (by repeat (first | (with_reducible first | exact HA.out.below | apply below_alloc | apply pw_below_drewN | apply below_drew1) | exact HA.out.below))); (case aL => exact (by rw [headL_len]; exact Nat.le_trans (Nat.mul_le_mul_right 32 HSZ.out) (by decide))); intro v5 w5 ho hb hg hat; have BOX5 := blk_grown (blk_alloc HA.out.box _) hg (Kd.R_ne HA.out.list HA.out.box (by decide)); have HAX := Sd.mk (AllW.mk (okN := (fun j => (j < w.heap.size ∨ Wc.heap.size ≤ j) ∧ j < Wf.heap.size)) (okL := (fun j => (w.heap.size ≤ j ∧ j < Wc.heap.size) ∨ Wf.heap.size ≤ j)) hb (Nat.le_trans HA.out.size (Nat.le_trans (below_alloc (Below.refl _ _) _).size hg.size)) BOX5 (Kd.N_grown (Kd.N_below HA.out.forms (below_alloc (Below.refl _ _) _)) hg (fun k hk he => by have h1 : (k < w.heap.size ∨ Wc.heap.size ≤ k) ∧ k < Wf.heap.size := hk; have h2 : (w.heap.size ≤ k ∧ k < Wc.heap.size) ∨ Wf.heap.size ≤ k := HL1.out.1 k he.symm; omega)) ho); clear cu0 cu1 cd0 cd1 ho hb hg hat BOX5)
       have hfz := HFZ.out
       have hjt := HJT.out
       have hgj := HGJ.out
       try go_wp2
       go_roundg (fm.length - (j + 1))
       case measure => omega
       case rel => exact ⟨j + 1, by first | rfl | (rw [wrap_id (by omega) (by omega)]; rfl), by omega, by omega, HAX⟩
    ·skip
     have hjz : ¬ (j : Int) < (fm.length : Int) := by omega
     obtain rfl : j = fm.length := by omega
     obtain ⟨wo, rfl⟩ : ∃ wo : World, wo = wr := ⟨_, rfl⟩
     have hU2 : (wo.alloc (.cells #[.slice none 0 0, .int .i64 0] 168)).heap.size = wo.heap.size + 1 := by simp
     have hA0 : AllW w Wc Wf wo #[.slice A0_0 l0_0.length c0_0, .slice A0_1 l0_1.length c0_1, .slice A0_2 l0_2.length c0_2, .slice A0_3 l0_3.length c0_3, .int .i64 a0_4, .int .i64 a0_5, .int .i64 a0_6] (fun j => (j < w.heap.size ∨ Wc.heap.size ≤ j) ∧ j < Wf.heap.size) (fun j => ((w.heap.size ≤ j ∧ j < Wc.heap.size) ∨ Wf.heap.size ≤ j) ∧ j < wo.heap.size) (.slice Af fm.length cf) fm u7 (headL l0_1 l0_2 l0_3 a0_6 fm.length) := by
      have h_ := HAW.out
      exact ⟨h_.below, h_.size, h_.box, h_.forms, Kd.R_mono (Kd.R_bound h_.list) (fun j hj => ⟨hj.1, hj.2.2.1⟩)⟩
     have HA := Sd.mk (hA0.later (below_alloc (below_alloc (Below.refl _ _) (.cells #[.slice none 0 0, .int .i64 0] 168)) (.cells #[.slice none 0 0, .int .i64 0] 168)))
     have HU1 : Sd (RowAt3 w wo ((wo.alloc (.cells #[.slice none 0 0, .int .i64 0] 168)).alloc (.cells #[.slice none 0 0, .int .i64 0] 168)) wo.heap.size (.slice none 0 0) (List.map (rUp a0_5) (l0_1.take 0))) :=
      ⟨⟨Nat.le_refl _, blk_alloc (blk_new wo _) _, R_int_own (Kd.R_nil _ _ _ _ (fun _ => True)), fun k hk => by simp [Value.ownBlock] at hk⟩⟩
     have HU2 : Sd (RowAt3 w wo ((wo.alloc (.cells #[.slice none 0 0, .int .i64 0] 168)).alloc (.cells #[.slice none 0 0, .int .i64 0] 168)) (wo.heap.size + 1) (.slice none 0 0) (List.map (rDn a0_4) (l0_1.take 0))) :=
      ⟨⟨Nat.le_succ _, by have h_ := blk_new (wo.alloc (.cells #[.slice none 0 0, .int .i64 0] 168)) (.cells #[.slice none 0 0, .int .i64 0] 168); rw [hU2] at h_; exact h_, R_int_own (Kd.R_nil _ _ _ _ (fun _ => True)), fun k hk => by simp [Value.ownBlock] at hk⟩⟩
     have HDI : Sd (∀ k, (Value.slice none 0 0).ownBlock = some k → (Value.slice none 0 0).ownBlock = some k → False) := ⟨fun k hk => by simp [Value.ownBlock] at hk⟩
     have HSO := Sd.mk hA0.size
     have HWO := Sd.mk (show w.heap.size < wo.heap.size from blk_lt hA0.box)
     have hrx := HH.out.redox
     have HRX := Sd.mk hrx
     clear hU2 hA0 HAW hgj hrx
     go_wp2
     generalize (wo.alloc (.cells #[.slice none 0 0, .int .i64 0] 168)).alloc (.cells #[.slice none 0 0, .int .i64 0] 168) = w1 at *
     go_loopg [15] l0_1.length (fun gq v15 wr => ∃ i : Nat, ∃ vu vd : Value, v15 = .int .i64 i ∧ i ≤ l0_1.length ∧ l0_1.length - i ≤ gq ∧ Sd (AllW w Wc Wf wr #[.slice A0_0 l0_0.length c0_0, .slice A0_1 l0_1.length c0_1, .slice A0_2 l0_2.length c0_2, .slice A0_3 l0_3.length c0_3, .int .i64 a0_4, .int .i64 a0_5, .int .i64 a0_6] (fun j => (j < w.heap.size ∨ Wc.heap.size ≤ j) ∧ j < Wf.heap.size) (fun j => ((w.heap.size ≤ j ∧ j < Wc.heap.size) ∨ Wf.heap.size ≤ j) ∧ j < wo.heap.size) (.slice Af fm.length cf) fm u7 (headL l0_1 l0_2 l0_3 a0_6 fm.length)) ∧ Sd (RowAt3 w wo wr wo.heap.size vu (List.map (rUp a0_5) (l0_1.take i))) ∧ Sd (RowAt3 w wo wr (wo.heap.size + 1) vd (List.map (rDn a0_4) (l0_1.take i))) ∧ Sd (∀ k, vu.ownBlock = some k → vd.ownBlock = some k → False))
     case atStart => exact ⟨0, _, _, rfl, Nat.zero_le _, by omega, HA, HU1, HU2, HDI⟩
     case round =>
      clear HA HU1 HU2 HDI
      obtain ⟨i, vu, vd, rfl, hi, hgi, HA, HU1, HU2, HDI⟩ := hrel
      have hm12 := HM12.out
      have kz1 : wr.cell? ⟨w.heap.size, 0 + 1, none⟩ = some (.slice A0_1 l0_1.length c0_1) := (blk_cell HA.out.box 1).trans rfl
      by_cases hit : i < l0_1.length
      ·have hiz : (i : Int) < (l0_1.length : Int) := by omega
       obtain ⟨adM, A6, c6, rfl, hx0, hx1, hx2, hx3, hx4, hx5, hx6, hl6, hi6⟩ := at_T70 (Kd.C_below HR1.out HA.out.below) (i : Int) (by omega) hiz
       simp only [Int.toNat_natCast] at hx0 hx1 hx2 hx3 hx4 hx5 hx6
       go_upto_region 24 with (fail)
       clear hx0 hx1 hx2 hx3 hx4 hx5 hx6 kz1 hm12
       obtain ⟨M, hM⟩ : ∃ M : Nat, M = wr.heap.size := ⟨_, rfl⟩
       have hb1 := below_alloc (Below.refl wr.heap.size wr) (.cells #[.string (rd_T70 l0_1 (i : Int)).f0, .int .i64 (rd_T70 l0_1 (i : Int)).f1, .int .i64 (rd_T70 l0_1 (i : Int)).f2, .int .i64 (rd_T70 l0_1 (i : Int)).f3, .int .i64 (rd_T70 l0_1 (i : Int)).f4, .int .i64 (rd_T70 l0_1 (i : Int)).f5, .slice A6 (rd_T70 l0_1 (i : Int)).f6.length c6] 70)
       have bm := blk_new wr (.cells #[.string (rd_T70 l0_1 (i : Int)).f0, .int .i64 (rd_T70 l0_1 (i : Int)).f1, .int .i64 (rd_T70 l0_1 (i : Int)).f2, .int .i64 (rd_T70 l0_1 (i : Int)).f3, .int .i64 (rd_T70 l0_1 (i : Int)).f4, .int .i64 (rd_T70 l0_1 (i : Int)).f5, .slice A6 (rd_T70 l0_1 (i : Int)).f6.length c6] 70)
       have hu1 := blk_lt HU1.out.cell
       have hu2 := blk_lt HU2.out.cell
       have HMU1 := Sd.mk (show M ≠ wo.heap.size by omega)
       have HMU2 := Sd.mk (show M ≠ wo.heap.size + 1 by omega)
       clear hu1 hu2
       have hlb := lowM_bound (mat_gok HH.out hit)
       have hrr := (HH.out.mats i hit).redox
       have hrx := HRX.out
       have hp1 := mulr (c := a0_5) (by omega) (by omega) hlb.1 (Int.le_trans hlb.2.1 hlb.2.2)
       have hp2 := mulr (c := a0_5) (by omega) (by omega) (Int.le_trans hlb.1 hlb.2.1) hlb.2.2
       have hp3 := mulr (c := a0_4) (by omega) (by omega) hlb.1 (Int.le_trans hlb.2.1 hlb.2.2)
       have hp4 := mulr (c := a0_4) (by omega) (by omega) (Int.le_trans hlb.1 hlb.2.1) hlb.2.2
       have HP1 := Sd.mk (And.intro hp1 (And.intro hp2 (mn_in hp1 hp2)))
       have HP2 := Sd.mk (And.intro hp3 (And.intro hp4 (mx_in hp3 hp4)))
       have HRR := Sd.mk hrr
       clear hlb hrr hrx hp1 hp2 hp3 hp4
       obtain ⟨Kf, hKf⟩ := sumsF HH.out hit
       have hgo := rf_sums.calls Kf A6 c6 (rd_T70 l0_1 (i : Int)).f6 (lowM (rd_T70 l0_1 (i : Int))) (highM (rd_T70 l0_1 (i : Int))) (wr.alloc (.cells #[.string (rd_T70 l0_1 (i : Int)).f0, .int .i64 (rd_T70 l0_1 (i : Int)).f1, .int .i64 (rd_T70 l0_1 (i : Int)).f2, .int .i64 (rd_T70 l0_1 (i : Int)).f3, .int .i64 (rd_T70 l0_1 (i : Int)).f4, .int .i64 (rd_T70 l0_1 (i : Int)).f5, .slice A6 (rd_T70 l0_1 (i : Int)).f6.length c6] 70)) (Kd.C_below hi6 hb1) hl6 hKf
       have hm6 : (wr.alloc (.cells #[.string (rd_T70 l0_1 (i : Int)).f0, .int .i64 (rd_T70 l0_1 (i : Int)).f1, .int .i64 (rd_T70 l0_1 (i : Int)).f2, .int .i64 (rd_T70 l0_1 (i : Int)).f3, .int .i64 (rd_T70 l0_1 (i : Int)).f4, .int .i64 (rd_T70 l0_1 (i : Int)).f5, .slice A6 (rd_T70 l0_1 (i : Int)).f6.length c6] 70)).cell? ⟨wr.heap.size, 6, none⟩ = some (.slice A6 (rd_T70 l0_1 (i : Int)).f6.length c6) := (blk_cell bm 6).trans rfl
       replace HA := Sd.mk (HA.out.later hb1)
       replace HU1 := Sd.mk (HU1.out.later hb1)
       replace HU2 := Sd.mk (HU2.out.later hb1)
       have HM := Sd.mk bm
       clear hKf hi6 hl6 hb1 bm
       go_wp2_with fail
       clear hm6
       generalize wr.alloc (.cells #[.string (rd_T70 l0_1 (i : Int)).f0, .int .i64 (rd_T70 l0_1 (i : Int)).f1, .int .i64 (rd_T70 l0_1 (i : Int)).f2, .int .i64 (rd_T70 l0_1 (i : Int)).f3, .int .i64 (rd_T70 l0_1 (i : Int)).f4, .int .i64 (rd_T70 l0_1 (i : Int)).f5, .slice A6 (rd_T70 l0_1 (i : Int)).f6.length c6] 70) = W1 at *
       rw [← hM] at HM
       refine hgo.mono ?_
       clear hgo
       rintro e W2 ⟨rfl, ⟨nd, rfl⟩⟩
       have hb1 := pw_below_drewN (Below.refl W1.heap.size W1) nd
       replace HA := Sd.mk (HA.out.later hb1)
       replace HU1 := Sd.mk (HU1.out.later hb1)
       replace HU2 := Sd.mk (HU2.out.later hb1)
       replace HM := Sd.mk (blk_below HM.out hb1)
       clear hb1
       generalize W1.drewN nd = W2 at *
       rw [← hM]
       clear hM
       go_upto_region 25 with (fail)
       obtain ⟨Ax, cx, rfl⟩ := Kd.R_slice HU1.out.row
       have hfl : (List.map (rUp a0_5) (l0_1.take i)).length = i := by simp; omega
       have HFL := Sd.mk hfl
       have HSTEP : Sd (List.map (rUp a0_5) (l0_1.take i) ++ [1000000 * (rd_T70 l0_1 (i : Int)).f2 - mn (a0_5 * lowM (rd_T70 l0_1 (i : Int))) (a0_5 * highM (rd_T70 l0_1 (i : Int)))] = List.map (rUp a0_5) (l0_1.take (i + 1))) := ⟨by rw [List.take_succ_eq_append_getElem hit, List.map_append]; simp [rd_T70, hit]; rfl⟩
       have HNE1 := Sd.mk (Kd.R_ne HU1.out.row HU1.out.cell (by decide))
       have HNE2 := Sd.mk (Kd.R_ne HU1.out.row HU2.out.cell (by decide))
       have HNE3 := Sd.mk (Kd.R_ne HU1.out.row HA.out.box (by decide))
       have HNE4 := Sd.mk (Kd.R_ne HU1.out.row HM.out (by decide))
       have HNEB : Sd (∀ b, b < wo.heap.size → some b ≠ (Value.slice Ax (List.map (rUp a0_5) (l0_1.take i)).length cx).ownBlock) := ⟨fun b hb he => Nat.not_le_of_lt hb (HU1.out.own b he.symm)⟩
       have cu : W2.cell? ⟨wo.heap.size, 0, none⟩ = some (.slice Ax (List.map (rUp a0_5) (l0_1.take i)).length cx) := (blk_cell HU1.out.cell 0).trans rfl
       have cm : W2.cell? ⟨M, 2, none⟩ = some (.int .i64 (rd_T70 l0_1 (i : Int)).f2) := (blk_cell HM.out 2).trans rfl
       have cb : W2.cell? ⟨w.heap.size, 4 + 1, none⟩ = some (.int .i64 a0_5) := (blk_cell HA.out.box 5).trans rfl
       have cb2 : W2.cell? ⟨w.heap.size, 5, none⟩ = some (.int .i64 a0_5) := (blk_cell HA.out.box 5).trans rfl
       obtain ⟨⟨hq1, hq2⟩, ⟨hq3, hq4⟩, hq5, hq6⟩ := HP1.out
       obtain ⟨hq7, hq8⟩ := HRR.out
       clear hfl
       generalize hflv : List.map (rUp a0_5) (l0_1.take i) = flu at *
       clear hflv
       go_upto_region 26 with ((with_reducible refine gate_builtin (b := .append) (xs := #[.tmp 134, .tmp 150]) rfl ?_); at_builtin; refine Kd.R_append (Kd.int .i64) (w0 := w) w.heap.size rfl (.tmp 134) (.tmp 150) 30 3 (.int .i64 0) 8 rfl Tryz.underlying30 info3 rfl (by decide) (by omega) (.slice Ax flu.length cx) flu (1000000 * (rd_T70 l0_1 (i : Int)).f2 - mn (a0_5 * lowM (rd_T70 l0_1 (i : Int))) (a0_5 * highM (rd_T70 l0_1 (i : Int)))) [.int .i64 (1000000 * (rd_T70 l0_1 (i : Int)).f2 - mn (a0_5 * lowM (rd_T70 l0_1 (i : Int))) (a0_5 * highM (rd_T70 l0_1 (i : Int))))] (fun q => wo.heap.size ≤ q) (fun _ => False) rfl rfl ?aP (fun _ hk => hk.elim) ?aF ?aO ?aB ?aS ?aL ?_; (case aP => exact rfl); (case aB => exact HA.out.below); (case aF => exact (fun q hq => Nat.le_trans (by have h1 := HU1.out.cell; have h2 := blk_lt h1; have h3 := HU1.out.ge; omega) hq)); (case aO => exact Kd.R_mono HU1.out.row (fun q hq => HU1.out.own q hq)); (case aS => exact below_size HA.out.below); (case aL => exact (by rw [HFL.out]; exact Nat.le_trans (Nat.mul_le_mul_right 8 (show i + 1 ≤ 13 by have := HM12.out; omega)) (by decide))); intro v1 w5 ho hb hg hat; have HDJ : Sd (∀ q, v1.ownBlock = some q → vd.ownBlock = some q → False) := ⟨fun q hq hk => by (have hlt := ((Kd.R_bound HU2.out.row).1 q hk).2.2.1); (rcases hat with hat | ⟨b, hat, hb_⟩; exact (by (rw [hat] at hq); exact HDI.out q hq hk); (rw [hat] at hq); injection hq with hq; omega)⟩; have HV' := Sd.mk (HU2.out.grown hg HNE2.out (fun q hk hq => by first | exact HDI.out q hq.symm hk | exact HDI.out q hk hq.symm)); have HA' := Sd.mk (HA.out.grown hb hg HNE3.out (fun q hk => HNEB.out q (Nat.lt_of_lt_of_le hk.2 HSO.out)) (fun q hk => HNEB.out q hk.2)); have HM' := Sd.mk (blk_grown HM.out hg HNE4.out); have HBU := Sd.mk (blk_grown HU1.out.cell hg HNE1.out); have HGE := Sd.mk HU1.out.ge; have HO := Sd.mk (Kd.R_types (t := 168) ho HBU.out (by decide)); have HOW := Sd.mk ho.1; obtain ⟨A1', c1', rfl⟩ := Kd.R_slice ho; have hw0 : w5.cell? ⟨wo.heap.size, 0, none⟩ = some (.slice Ax flu.length cx) := (blk_cell HBU.out 0).trans rfl; have hwf := blk_frozen HBU.out 0; clear hb ho hg hat HNE1 HNE2 HNE3 HNE4 HNEB HU1 HU2 HDI HA HM cu cm cb cb2)
       clear hw0 hwf hq1 hq2 hq3 hq4 hq5 hq6 hq7 hq8
       have HU2 := Sd.mk (HV'.out.set (.slice A1' (flu.length + 1) c1') (by omega) HBU.out)
       have HBK := Sd.mk (blk_put (cs' := #[.slice A1' (flu.length + 1) c1', .int .i64 0]) HBU.out 0 (.slice A1' (flu.length + 1) c1') (by rfl))
       have HM := Sd.mk (blk_far (p := ⟨wo.heap.size, 0, none⟩) HM'.out HMU1.out (.slice A1' (flu.length + 1) c1'))
       have HA := Sd.mk (HA'.out.set (g := wo.heap.size) (.slice A1' (flu.length + 1) c1') (by have := HWO.out; omega) (fun q hk => by have := hk.2; have := HSO.out; omega) (fun q hk => by have := hk.2; omega))
       have HU1 : Sd (RowAt3 w wo (w5.setCell ⟨wo.heap.size, 0, none⟩ (.slice A1' (flu.length + 1) c1')) wo.heap.size (.slice A1' (flu.length + 1) c1') (List.map (rUp a0_5) (l0_1.take (i + 1)))) :=
        ⟨⟨HGE.out, HBK.out, by
         have h_ := Kd.R_far (p := ⟨wo.heap.size, 0, none⟩) HO.out (fun _ hk => hk.2) (.slice A1' (flu.length + 1) c1')
         rw [← HSTEP.out]
         simpa using R_int_own h_, fun k hk => HOW.out k (by simpa using hk)⟩⟩
       have HDI : Sd (∀ k, (Value.slice A1' (flu.length + 1) c1').ownBlock = some k → vd.ownBlock = some k → False) := ⟨fun k h1 h2 => HDJ.out k (by simpa using h1) h2⟩
       clear HV' HBK HBU HGE HO HOW HDJ HFL HSTEP HA' HM'
       generalize w5.setCell ⟨wo.heap.size, 0, none⟩ (.slice A1' (flu.length + 1) c1') = Wu at *
       generalize Value.slice A1' (flu.length + 1) c1' = vu2 at *
       obtain ⟨Ax, cx, rfl⟩ := Kd.R_slice HU2.out.row
       have hfl : (List.map (rDn a0_4) (l0_1.take i)).length = i := by simp; omega
       have HFL := Sd.mk hfl
       have HSTEP : Sd (List.map (rDn a0_4) (l0_1.take i) ++ [mx (a0_4 * lowM (rd_T70 l0_1 (i : Int))) (a0_4 * highM (rd_T70 l0_1 (i : Int))) - 1000000 * (rd_T70 l0_1 (i : Int)).f2] = List.map (rDn a0_4) (l0_1.take (i + 1))) := ⟨by rw [List.take_succ_eq_append_getElem hit, List.map_append]; simp [rd_T70, hit]; rfl⟩
       have HNE1 := Sd.mk (Kd.R_ne HU2.out.row HU2.out.cell (by decide))
       have HNE2 := Sd.mk (Kd.R_ne HU2.out.row HU1.out.cell (by decide))
       have HNE3 := Sd.mk (Kd.R_ne HU2.out.row HA.out.box (by decide))
       have HNE4 := Sd.mk (Kd.R_ne HU2.out.row HM.out (by decide))
       have HNEB : Sd (∀ b, b < wo.heap.size → some b ≠ (Value.slice Ax (List.map (rDn a0_4) (l0_1.take i)).length cx).ownBlock) := ⟨fun b hb he => Nat.not_le_of_lt hb (HU2.out.own b he.symm)⟩
       have cu : Wu.cell? ⟨(wo.heap.size + 1), 0, none⟩ = some (.slice Ax (List.map (rDn a0_4) (l0_1.take i)).length cx) := (blk_cell HU2.out.cell 0).trans rfl
       have cm : Wu.cell? ⟨M, 2, none⟩ = some (.int .i64 (rd_T70 l0_1 (i : Int)).f2) := (blk_cell HM.out 2).trans rfl
       have cb : Wu.cell? ⟨w.heap.size, 4 + 0, none⟩ = some (.int .i64 a0_4) := (blk_cell HA.out.box 4).trans rfl
       have cb2 : Wu.cell? ⟨w.heap.size, 4, none⟩ = some (.int .i64 a0_4) := (blk_cell HA.out.box 4).trans rfl
       obtain ⟨⟨hq1, hq2⟩, ⟨hq3, hq4⟩, hq5, hq6⟩ := HP2.out
       obtain ⟨hq7, hq8⟩ := HRR.out
       clear hfl
       generalize hflv : List.map (rDn a0_4) (l0_1.take i) = fld at *
       clear hflv
       go_upto_region 22 with ((with_reducible refine gate_builtin (b := .append) (xs := #[.tmp 154, .tmp 170]) rfl ?_); at_builtin; refine Kd.R_append (Kd.int .i64) (w0 := w) w.heap.size rfl (.tmp 154) (.tmp 170) 30 3 (.int .i64 0) 8 rfl Tryz.underlying30 info3 rfl (by decide) (by omega) (.slice Ax fld.length cx) fld (mx (a0_4 * lowM (rd_T70 l0_1 (i : Int))) (a0_4 * highM (rd_T70 l0_1 (i : Int))) - 1000000 * (rd_T70 l0_1 (i : Int)).f2) [.int .i64 (mx (a0_4 * lowM (rd_T70 l0_1 (i : Int))) (a0_4 * highM (rd_T70 l0_1 (i : Int))) - 1000000 * (rd_T70 l0_1 (i : Int)).f2)] (fun q => wo.heap.size ≤ q) (fun _ => False) rfl rfl ?aP (fun _ hk => hk.elim) ?aF ?aO ?aB ?aS ?aL ?_; (case aP => exact rfl); (case aB => exact HA.out.below); (case aF => exact (fun q hq => Nat.le_trans (by have h1 := HU1.out.cell; have h2 := blk_lt h1; have h3 := HU1.out.ge; omega) hq)); (case aO => exact Kd.R_mono HU2.out.row (fun q hq => HU2.out.own q hq)); (case aS => exact below_size HA.out.below); (case aL => exact (by rw [HFL.out]; exact Nat.le_trans (Nat.mul_le_mul_right 8 (show i + 1 ≤ 13 by have := HM12.out; omega)) (by decide))); intro v1 w5 ho hb hg hat; have HDJ : Sd (∀ q, v1.ownBlock = some q → vu2.ownBlock = some q → False) := ⟨fun q hq hk => by (have hlt := ((Kd.R_bound HU1.out.row).1 q hk).2.2.1); (rcases hat with hat | ⟨b, hat, hb_⟩; exact (by (rw [hat] at hq); exact HDI.out q hk hq); (rw [hat] at hq); injection hq with hq; omega)⟩; have HV' := Sd.mk (HU1.out.grown hg HNE2.out (fun q hk hq => by first | exact HDI.out q hq.symm hk | exact HDI.out q hk hq.symm)); have HA' := Sd.mk (HA.out.grown hb hg HNE3.out (fun q hk => HNEB.out q (Nat.lt_of_lt_of_le hk.2 HSO.out)) (fun q hk => HNEB.out q hk.2)); have HM' := Sd.mk (blk_grown HM.out hg HNE4.out); have HBU := Sd.mk (blk_grown HU2.out.cell hg HNE1.out); have HGE := Sd.mk HU2.out.ge; have HO := Sd.mk (Kd.R_types (t := 168) ho HBU.out (by decide)); have HOW := Sd.mk ho.1; obtain ⟨A1', c1', rfl⟩ := Kd.R_slice ho; have hw0 : w5.cell? ⟨(wo.heap.size + 1), 0, none⟩ = some (.slice Ax fld.length cx) := (blk_cell HBU.out 0).trans rfl; have hwf := blk_frozen HBU.out 0; clear hb ho hg hat HNE1 HNE2 HNE3 HNE4 HNEB HU1 HU2 HDI HA HM cu cm cb cb2)
       clear hw0 hwf hq1 hq2 hq3 hq4 hq5 hq6 hq7 hq8
       have HU1 := Sd.mk (HV'.out.set (.slice A1' (fld.length + 1) c1') (by omega) HBU.out)
       have HBK := Sd.mk (blk_put (cs' := #[.slice A1' (fld.length + 1) c1', .int .i64 0]) HBU.out 0 (.slice A1' (fld.length + 1) c1') (by rfl))
       have HM := Sd.mk (blk_far (p := ⟨(wo.heap.size + 1), 0, none⟩) HM'.out HMU2.out (.slice A1' (fld.length + 1) c1'))
       have HA := Sd.mk (HA'.out.set (g := (wo.heap.size + 1)) (.slice A1' (fld.length + 1) c1') (by have := HWO.out; omega) (fun q hk => by have := hk.2; have := HSO.out; omega) (fun q hk => by have := hk.2; omega))
       have HU2 : Sd (RowAt3 w wo (w5.setCell ⟨(wo.heap.size + 1), 0, none⟩ (.slice A1' (fld.length + 1) c1')) (wo.heap.size + 1) (.slice A1' (fld.length + 1) c1') (List.map (rDn a0_4) (l0_1.take (i + 1)))) :=
        ⟨⟨HGE.out, HBK.out, by
         have h_ := Kd.R_far (p := ⟨(wo.heap.size + 1), 0, none⟩) HO.out (fun _ hk => hk.2) (.slice A1' (fld.length + 1) c1')
         rw [← HSTEP.out]
         simpa using R_int_own h_, fun k hk => HOW.out k (by simpa using hk)⟩⟩
       have HDI : Sd (∀ k, vu2.ownBlock = some k → (Value.slice A1' (fld.length + 1) c1').ownBlock = some k → False) := ⟨fun k h1 h2 => HDJ.out k (by simpa using h2) h1⟩
       clear HV' HBK HBU HGE HO HOW HDJ HFL HSTEP HA' HM'
       generalize w5.setCell ⟨(wo.heap.size + 1), 0, none⟩ (.slice A1' (fld.length + 1) c1') = Wd at *
       generalize Value.slice A1' (fld.length + 1) c1' = vd2 at *
       go_wp2
       go_roundg (l0_1.length - (i + 1))
       case measure => omega
       case rel => exact ⟨i + 1, _, _, by first | rfl | (rw [wrap_id (by omega) (by omega)]; rfl), by omega, by omega, HA, HU1, HU2, HDI⟩
      ·skip
       have hiz : ¬ (i : Int) < (l0_1.length : Int) := by omega
       obtain rfl : i = l0_1.length := by omega
       rw [List.take_length] at HU1 HU2
       have cu0 : wr.cell? ⟨wo.heap.size, 0, none⟩ = some vu := (blk_cell HU1.out.cell 0).trans rfl
       have cu1 : wr.cell? ⟨wo.heap.size, 1, none⟩ = some (.int .i64 0) := (blk_cell HU1.out.cell 1).trans rfl
       have cd0 : wr.cell? ⟨wo.heap.size + 1, 0, none⟩ = some vd := (blk_cell HU2.out.cell 0).trans rfl
       have cd1 : wr.cell? ⟨wo.heap.size + 1, 1, none⟩ = some (.int .i64 0) := (blk_cell HU2.out.cell 1).trans rfl
       have HL1 : Sd (k168.R 168 wr w.heap.size (fun _ => True) u7 (headL l0_1 l0_2 l0_3 a0_6 fm.length)) := ⟨Kd.R_mono HA.out.list (fun _ _ => trivial)⟩
       have Hv1 : Sd ((Kd.int .i64).R 3 wr w.heap.size (fun _ => True) vu (List.map (rUp a0_5) l0_1)) := ⟨Kd.R_mono HU1.out.row (fun _ _ => trivial)⟩
       have Hv2 : Sd ((Kd.int .i64).R 3 wr w.heap.size (fun _ => True) vd (List.map (rDn a0_4) l0_1)) := ⟨Kd.R_mono HU2.out.row (fun _ _ => trivial)⟩
       have HSZ := Sd.mk (show 1 + 2 * fm.length + 2 ≤ 100 by have H := HH.out; have := H.slen; have := H.o12; have := H.p6; have := HLF.out; omega)
       go_upto_region 27 with (fail)
       clear kz1 hm12
       go_wp2_with ((with_reducible refine gate_builtin (b := .append) (xs := #[.tmp 173, .tmp 176]) rfl ?_); at_builtin; refine Kd.R_append_rows k168 (w0 := w) w.heap.size rfl (.tmp 173) (.tmp 176) 100 168 (.agg #[.slice none 0 0, .int .i64 0]) 32 rfl Tryz.underlying100 info168 rfl (by decide) (by omega) u7 (headL l0_1 l0_2 l0_3 a0_6 fm.length) [⟨l0_1.map (rUp a0_5), 0⟩, ⟨l0_1.map (rDn a0_4), 0⟩] (some ⟨_, 0, none⟩) 2 2 (fun _ => True) (fun k => some k ≠ u7.ownBlock) rfl rfl ?aO ?aR (fun _ _ hp => hp) (fun _ hk => ⟨trivial, hk⟩) ?aF ?aB ?aS ?aL ?_; (case aO => exact Kd.R_alloc HL1.out _); (case aR => exact pair_reads (x := ⟨l0_1.map (rUp a0_5), 0⟩) (x' := ⟨l0_1.map (rDn a0_4), 0⟩) HL1.out (by rw [headL_len]; omega) Hv1.out Hv2.out (below_size HA.out.below)); (case aB => exact below_alloc HA.out.below _); (case aF => exact (fun _ _ => trivial)); (case aS => exact below_size (below_alloc HA.out.below _)); (case aL => exact (by rw [headL_len]; exact Nat.le_trans (Nat.mul_le_mul_right 32 HSZ.out) (by decide))); intro v5 w5 ho hb hg hat; have HO := Sd.mk ho; have HB5 := Sd.mk hb; clear cu0 cu1 cd0 cd1 ho hb hg hat)
       go_ret
       exact ⟨v5, rfl, by rw [linesV, ← HLF.out]; exact HO.out, HB5.out⟩
end Go.Proofs.YtljfljekcpdpiaaGreat.PB

namespace Go.Proofs.YtljfljekcpdpiaaGreat.PB
open Go.RowKit Go.Proofs.YtljfljekcpdpiaaGreatW.PrintWords Go.Proofs.YtljfljekcpdpiaaGreatW.PrintLast Go.Proofs.YtljfljekcpdpiaaGreatW.PrintMore
def x_AllLines.f (l0_0 : List ByteArray) (l0_1 : List (S70)) (l0_2 : List (S27)) (l0_3 : List (S89)) (a0_4 : Int) (a0_5 : Int) (a0_6 : Int) : Option (List S168) :=
  if checkV l0_0 l0_1 l0_2 l0_3 a0_4 a0_5 a0_6 = 0 then some (linesV l0_1 l0_2 l0_3 a0_4 a0_5 a0_6) else none
theorem x_AllLines.calls (A0_0 : Option Addr) (c0_0 : Nat) (l0_0 : List ByteArray) (A0_1 : Option Addr) (c0_1 : Nat) (l0_1 : List (S70)) (A0_2 : Option Addr) (c0_2 : Nat) (l0_2 : List (S27)) (A0_3 : Option Addr) (c0_3 : Nat) (l0_3 : List (S89)) (a0_4 : Int) (a0_5 : Int) (a0_6 : Int) (r : List S168) (w : World) (hr0_0 : Kd.C Kd.string w A0_0 l0_0.length l0_0) (hc0_0 : l0_0.length ≤ c0_0) (hr0_1 : Kd.C k70 w A0_1 l0_1.length l0_1) (hc0_1 : l0_1.length ≤ c0_1) (hr0_2 : Kd.C k27 w A0_2 l0_2.length l0_2) (hc0_2 : l0_2.length ≤ c0_2) (hr0_3 : Kd.C k89 w A0_3 l0_3.length l0_3) (hc0_3 : l0_3.length ≤ c0_3) (h : x_AllLines.f l0_0 l0_1 l0_2 l0_3 a0_4 a0_5 a0_6 = some r) :
    Calls Tryz.prog 55 #[.agg #[.slice A0_0 l0_0.length c0_0, .slice A0_1 l0_1.length c0_1, .slice A0_2 l0_2.length c0_2, .slice A0_3 l0_3.length c0_3, .int .i64 a0_4, .int .i64 a0_5, .int .i64 a0_6]] w fun e w' => ∃ v0_ : Value, e = .returned v0_ ∧ Kd.R k168 168 w' w.heap.size (fun _ => True) v0_ r ∧ Below w.heap.size w w' := by
  unfold x_AllLines.f at h
  by_cases hc : checkV l0_0 l0_1 l0_2 l0_3 a0_4 a0_5 a0_6 = 0
  · rw [if_pos hc] at h
    obtain rfl := Option.some.inj h
    exact allLines_calls A0_0 c0_0 l0_0 A0_1 c0_1 l0_1 A0_2 c0_2 l0_2 A0_3 c0_3 l0_3 a0_4 a0_5 a0_6 w hr0_0 hc0_0 hr0_1 hc0_1 hr0_2 hc0_2 hr0_3 hc0_3 (check_ok hc)
  · rw [if_neg hc] at h; cases h
end Go.Proofs.YtljfljekcpdpiaaGreat.PB

namespace Go.Proofs.YtljfljekcpdpiaaGreat.PB
open Go.RowKit Go.Proofs.YtljfljekcpdpiaaGreatW.PrintWords Go.Proofs.YtljfljekcpdpiaaGreatW.PrintLast Go.Proofs.YtljfljekcpdpiaaGreatW.PrintMore
def batch_cost.l0 : Nat → List Int → Int → List (S70) → Int → Int → Option (Int)
 | 0, _, _, _, _, _ => none
 | k + 1, x1, x5, x9, x10, x11 => if x11 < x10 then (if 0 ≤ x11 then (if x11 < (x9.length : Int) then (if x11 < (x1.length : Int) then (batch_cost.l0 k x1 (wrap64 (x5 + (wrap64 ((rd x1 x11) * ((rd_T70 x9 x11).f1))))) x9 x10 (wrap64 (x11 + 1))) else (none)) else (none)) else (none)) else (some x5)
def batch_cost.f (k : Nat) (l0_0 : List ByteArray) (l0_1 : List (S70)) (l0_2 : List (S27)) (l0_3 : List (S89)) (a0_4 : Int) (a0_5 : Int) (a0_6 : Int) (l1 : List Int) : Option (Int) := batch_cost.l0 k l1 0 l0_1 (l0_1.length : Int) 0
set_option maxHeartbeats 4000000 in
set_option maxRecDepth 100000 in
theorem batch_cost.calls (k : Nat) (A0_0 : Option Addr) (c0_0 : Nat) (l0_0 : List ByteArray) (A0_1 : Option Addr) (c0_1 : Nat) (l0_1 : List (S70)) (A0_2 : Option Addr) (c0_2 : Nat) (l0_2 : List (S27)) (A0_3 : Option Addr) (c0_3 : Nat) (l0_3 : List (S89)) (a0_4 : Int) (a0_5 : Int) (a0_6 : Int) (A1 : Option Addr) (c1 : Nat) (l1 : List Int) (r : Int) (w : World) (hr0_0 : Kd.C Kd.string w A0_0 l0_0.length l0_0) (hc0_0 : l0_0.length ≤ c0_0) (hr0_1 : Kd.C k70 w A0_1 l0_1.length l0_1) (hc0_1 : l0_1.length ≤ c0_1) (hr0_2 : Kd.C k27 w A0_2 l0_2.length l0_2) (hc0_2 : l0_2.length ≤ c0_2) (hr0_3 : Kd.C k89 w A0_3 l0_3.length l0_3) (hc0_3 : l0_3.length ≤ c0_3) (hr1 : Kd.C (Kd.int .i64) w A1 l1.length l1) (hc1 : l1.length ≤ c1) (h : batch_cost.f k l0_0 l0_1 l0_2 l0_3 a0_4 a0_5 a0_6 l1 = some r) :
  Calls Tryz.prog 58 #[.agg #[.slice A0_0 l0_0.length c0_0, .slice A0_1 l0_1.length c0_1, .slice A0_2 l0_2.length c0_2, .slice A0_3 l0_3.length c0_3, .int .i64 a0_4, .int .i64 a0_5, .int .i64 a0_6], .slice A1 l1.length c1] w fun e w' => e = .returned (.int .i64 r) ∧ Below w.heap.size w w' := by
 have hbx : (w.alloc (.cells #[.slice A0_0 l0_0.length c0_0, .slice A0_1 l0_1.length c0_1, .slice A0_2 l0_2.length c0_2, .slice A0_3 l0_3.length c0_3, .int .i64 a0_4, .int .i64 a0_5, .int .i64 a0_6] 29)).cell? ⟨w.heap.size, 0 + 1, none⟩ = some (.slice A0_1 l0_1.length c0_1) := (blk_cell (blk_new w (.cells #[.slice A0_0 l0_0.length c0_0, .slice A0_1 l0_1.length c0_1, .slice A0_2 l0_2.length c0_2, .slice A0_3 l0_3.length c0_3, .int .i64 a0_4, .int .i64 a0_5, .int .i64 a0_6] 29)) 1).trans rfl
 have HB0 := Sd.mk (below_alloc (Below.refl w.heap.size w) (.cells #[.slice A0_0 l0_0.length c0_0, .slice A0_1 l0_1.length c0_1, .slice A0_2 l0_2.length c0_2, .slice A0_3 l0_3.length c0_3, .int .i64 a0_4, .int .i64 a0_5, .int .i64 a0_6] 29))
 have HR := Sd.mk hr0_1
 have HR1 := Sd.mk hr1
 have HA0 : Sd (batch_cost.l0 k l1 0 l0_1 (l0_1.length : Int) 0 = some r) := ⟨h⟩
 clear hr0_0 hr0_1 hr0_2 hr0_3 hr1 h
 go_enter Tryz.func58, Tryz.ntmps58
 go_wp2
 clear hbx
 generalize w.alloc (.cells #[.slice A0_0 l0_0.length c0_0, .slice A0_1 l0_1.length c0_1, .slice A0_2 l0_2.length c0_2, .slice A0_3 l0_3.length c0_3, .int .i64 a0_4, .int .i64 a0_5, .int .i64 a0_6] 29) = w0 at HB0 ⊢
 go_loopg [5, 11] k (fun kq v5 v11 w' => ∃ (x5 : Int) (x11 : Int), v5 = .int .i64 x5 ∧ v11 = .int .i64 x11 ∧ Sd (batch_cost.l0 kq l1 x5 l0_1 (l0_1.length : Int) x11 = some r) ∧ Sd (Below w.heap.size w w'))
 case atStart => exact ⟨0, 0, rfl, rfl, HA0, HB0⟩
 case round =>
  clear HA0 HB0
  obtain ⟨x5, x11, rfl, rfl, HA, HB⟩ := hrel
  cases gk with
  | zero => exact absurd HA.out (by simp [batch_cost.l0])
  | succ k1 =>
   have H := HA.out
   clear HA
   simp only [batch_cost.l0] at H
   by_cases c5 : x11 < (l0_1.length : Int)
   ·rw [if_pos c5] at H
    by_cases c6 : 0 ≤ x11
    ·rw [if_pos c6, if_pos c5] at H
     by_cases c8 : x11 < (l1.length : Int)
     ·rw [if_pos c8] at H
      have H' := Sd.mk H
      clear H
      obtain ⟨ad, A6, c6', rfl, hx0, hx1, hx2, hx3, hx4, hx5, hx6, hl6, hi6⟩ := at_T70 (Kd.C_below HR.out HB.out) x11 c6 c5
      obtain ⟨ae, rfl, hy0⟩ := Kd.at_int (Kd.C_alloc (Kd.C_below HR1.out HB.out) (.cells #[.string (rd_T70 l0_1 x11).f0, .int .i64 (rd_T70 l0_1 x11).f1, .int .i64 (rd_T70 l0_1 x11).f2, .int .i64 (rd_T70 l0_1 x11).f3, .int .i64 (rd_T70 l0_1 x11).f4, .int .i64 (rd_T70 l0_1 x11).f5, .slice A6 (rd_T70 l0_1 x11).f6.length c6'] 70)) x11 c6 c8
      have BM := (blk_cell (blk_new wr (.cells #[.string (rd_T70 l0_1 x11).f0, .int .i64 (rd_T70 l0_1 x11).f1, .int .i64 (rd_T70 l0_1 x11).f2, .int .i64 (rd_T70 l0_1 x11).f3, .int .i64 (rd_T70 l0_1 x11).f4, .int .i64 (rd_T70 l0_1 x11).f5, .slice A6 (rd_T70 l0_1 x11).f6.length c6'] 70)) 1).trans rfl
      have HB1 := Sd.mk (below_alloc HB.out (.cells #[.string (rd_T70 l0_1 x11).f0, .int .i64 (rd_T70 l0_1 x11).f1, .int .i64 (rd_T70 l0_1 x11).f2, .int .i64 (rd_T70 l0_1 x11).f3, .int .i64 (rd_T70 l0_1 x11).f4, .int .i64 (rd_T70 l0_1 x11).f5, .slice A6 (rd_T70 l0_1 x11).f6.length c6'] 70))
      clear HB hl6 hi6
      have BM' : (wr.alloc (.cells #[.string (rd_T70 l0_1 x11).f0, .int .i64 (rd_T70 l0_1 x11).f1, .int .i64 (rd_T70 l0_1 x11).f2, .int .i64 (rd_T70 l0_1 x11).f3, .int .i64 (rd_T70 l0_1 x11).f4, .int .i64 (rd_T70 l0_1 x11).f5, .slice A6 (rd_T70 l0_1 x11).f6.length c6'] 70)).cell? ⟨wr.heap.size, 1, none⟩ = some (.int .i64 (rd_T70 l0_1 x11).f1) := BM
      clear BM
      go_upto_region 5 with (fail)
      clear hx0 hx1 hx2 hx3 hx4 hx5 hx6
      generalize wr.alloc (.cells #[.string (rd_T70 l0_1 x11).f0, .int .i64 (rd_T70 l0_1 x11).f1, .int .i64 (rd_T70 l0_1 x11).f2, .int .i64 (rd_T70 l0_1 x11).f3, .int .i64 (rd_T70 l0_1 x11).f4, .int .i64 (rd_T70 l0_1 x11).f5, .slice A6 (rd_T70 l0_1 x11).f6.length c6'] 70) = WX at BM' hy0 HB1 ⊢
      generalize wr.heap.size = X at BM' ⊢
      have BM := BM'
      go_quiet (fail)
      go_wp2
      go_roundg k1
      case measure => omega
      case rel => exact ⟨_, _, rfl, rfl, H', ⟨by first | exact HB1.out | exact pw_below_drewN HB1.out _⟩⟩
     ·rw [if_neg c8] at H
      exact absurd H (by simp)
    ·rw [if_neg c6] at H
     exact absurd H (by simp)
   ·rw [if_neg c5] at H
    have c5b0 : decide (x11 < (l0_1.length : Int)) = false := decide_eq_false c5
    clear c5
    obtain rfl := Option.some.inj H
    go_wp2
    go_ret
    exact ⟨rfl, HB.out⟩
end Go.Proofs.YtljfljekcpdpiaaGreat.PB

namespace Go.Proofs.YtljfljekcpdpiaaGreat.PB
open Go.RowKit Go.Proofs.YtljfljekcpdpiaaGreatW.PrintWords Go.Proofs.YtljfljekcpdpiaaGreatW.PrintLast Go.Proofs.YtljfljekcpdpiaaGreatW.PrintMore
def batch_Allowed.l0 : Nat → List Int → List (S70) → Int → Int → Option (Bool × Int)
 | 0, _, _, _, _ => none
 | k + 1, x1, x16, x17, x18 => if x18 < x17 then (if 0 ≤ x18 then (if x18 < (x16.length : Int) then (if x18 < (x1.length : Int) then ((batch_within.f (rd x1 x18) ((rd_T70 x16 x18).f3) ((rd_T70 x16 x18).f4)).bind fun t311 => (if t311 = true then (if ((rd_T70 x16 x18).f5) = 0 then (none) else (if (Int.tmod (wrap64 ((rd x1 x18) - ((rd_T70 x16 x18).f3))) ((rd_T70 x16 x18).f5)) = 0 then (batch_Allowed.l0 k x1 x16 x17 (wrap64 (x18 + 1))) else (some (false, 0)))) else (some (false, 0)))) else (none)) else (none)) else (none)) else (some (true, 0))
def batch_Allowed.f (k : Nat) (l0_0 : List ByteArray) (l0_1 : List (S70)) (l0_2 : List (S27)) (l0_3 : List (S89)) (a0_4 : Int) (a0_5 : Int) (a0_6 : Int) (l1 : List Int) : Option (Bool × Int) := (batch_asked.f k l0_0 l0_1 l0_2 l0_3 a0_4 a0_5 a0_6 l1).bind fun t307 => (if t307 = 0 then (batch_Allowed.l0 k l1 l0_1 (l0_1.length : Int) 0) else (some (false, t307)))
theorem within_q (a b c : Int) (r : Bool) (w : World) (h : batch_within.f a b c = some r) : Calls Tryz.prog 56 #[.int .i64 a, .int .i64 b, .int .i64 c] w fun e w' => e = .returned (.bool r) ∧ ∃ q, w' = w.drewN q :=
 (batch_within.calls a b c r w h).mono fun e w' he => ⟨he.1, he.2.out⟩
set_option maxHeartbeats 4000000 in
set_option maxRecDepth 100000 in
theorem batch_Allowed.calls (k : Nat) (A0_0 : Option Addr) (c0_0 : Nat) (l0_0 : List ByteArray) (A0_1 : Option Addr) (c0_1 : Nat) (l0_1 : List (S70)) (A0_2 : Option Addr) (c0_2 : Nat) (l0_2 : List (S27)) (A0_3 : Option Addr) (c0_3 : Nat) (l0_3 : List (S89)) (a0_4 : Int) (a0_5 : Int) (a0_6 : Int) (A1 : Option Addr) (c1 : Nat) (l1 : List Int) (r1 : Bool) (r2 : Int) (w : World) (hr0_0 : Kd.C Kd.string w A0_0 l0_0.length l0_0) (hc0_0 : l0_0.length ≤ c0_0) (hr0_1 : Kd.C k70 w A0_1 l0_1.length l0_1) (hc0_1 : l0_1.length ≤ c0_1) (hr0_2 : Kd.C k27 w A0_2 l0_2.length l0_2) (hc0_2 : l0_2.length ≤ c0_2) (hr0_3 : Kd.C k89 w A0_3 l0_3.length l0_3) (hc0_3 : l0_3.length ≤ c0_3) (hr1 : Kd.C (Kd.int .i64) w A1 l1.length l1) (hc1 : l1.length ≤ c1) (h : batch_Allowed.f k l0_0 l0_1 l0_2 l0_3 a0_4 a0_5 a0_6 l1 = some (r1, r2)) :
  Calls Tryz.prog 15 #[.agg #[.slice A0_0 l0_0.length c0_0, .slice A0_1 l0_1.length c0_1, .slice A0_2 l0_2.length c0_2, .slice A0_3 l0_3.length c0_3, .int .i64 a0_4, .int .i64 a0_5, .int .i64 a0_6], .slice A1 l1.length c1] w fun e w' => e = .returned (.tuple #[.bool r1, .int .i64 r2]) ∧ Below w.heap.size w w' := by
 unfold batch_Allowed.f at h
 obtain ⟨ea, ha, H⟩ := Option.bind_eq_some_iff.mp h
 have hx0 : (w.alloc (.cells #[.slice A0_0 l0_0.length c0_0, .slice A0_1 l0_1.length c0_1, .slice A0_2 l0_2.length c0_2, .slice A0_3 l0_3.length c0_3, .int .i64 a0_4, .int .i64 a0_5, .int .i64 a0_6] 29)).cell? ⟨w.heap.size, 0, none⟩ = some (.slice A0_0 l0_0.length c0_0) := (blk_cell (blk_new w (.cells #[.slice A0_0 l0_0.length c0_0, .slice A0_1 l0_1.length c0_1, .slice A0_2 l0_2.length c0_2, .slice A0_3 l0_3.length c0_3, .int .i64 a0_4, .int .i64 a0_5, .int .i64 a0_6] 29)) 0).trans rfl
 have hb0 := below_alloc (Below.refl w.heap.size w) (.cells #[.slice A0_0 l0_0.length c0_0, .slice A0_1 l0_1.length c0_1, .slice A0_2 l0_2.length c0_2, .slice A0_3 l0_3.length c0_3, .int .i64 a0_4, .int .i64 a0_5, .int .i64 a0_6] 29)
 have BX := Sd.mk (blk_new w (.cells #[.slice A0_0 l0_0.length c0_0, .slice A0_1 l0_1.length c0_1, .slice A0_2 l0_2.length c0_2, .slice A0_3 l0_3.length c0_3, .int .i64 a0_4, .int .i64 a0_5, .int .i64 a0_6] 29))
 have HB0 := Sd.mk hb0
 have HR := Sd.mk hr0_1
 have HR1 := Sd.mk hr1
 have HASK := batch_asked.calls k A0_0 c0_0 l0_0 A0_1 c0_1 l0_1 A0_2 c0_2 l0_2 A0_3 c0_3 l0_3 a0_4 a0_5 a0_6 A1 c1 l1 ea (w.alloc (.cells #[.slice A0_0 l0_0.length c0_0, .slice A0_1 l0_1.length c0_1, .slice A0_2 l0_2.length c0_2, .slice A0_3 l0_3.length c0_3, .int .i64 a0_4, .int .i64 a0_5, .int .i64 a0_6] 29)) (Kd.C_alloc hr0_0 _) hc0_0 (Kd.C_alloc hr0_1 _) hc0_1 (Kd.C_alloc hr0_2 _) hc0_2 (Kd.C_alloc hr0_3 _) hc0_3 (Kd.C_alloc hr1 _) hc1 ha
 have HH := Sd.mk H
 clear hr0_0 hr0_1 hr0_2 hr0_3 hr1 h ha H hb0
 have hbc := blk_cell BX.out
 have hx1 : (w.alloc (.cells #[.slice A0_0 l0_0.length c0_0, .slice A0_1 l0_1.length c0_1, .slice A0_2 l0_2.length c0_2, .slice A0_3 l0_3.length c0_3, .int .i64 a0_4, .int .i64 a0_5, .int .i64 a0_6] 29)).cell? ⟨w.heap.size, 1, none⟩ = some (.slice A0_1 l0_1.length c0_1) := (hbc 1).trans rfl
 have hx2 : (w.alloc (.cells #[.slice A0_0 l0_0.length c0_0, .slice A0_1 l0_1.length c0_1, .slice A0_2 l0_2.length c0_2, .slice A0_3 l0_3.length c0_3, .int .i64 a0_4, .int .i64 a0_5, .int .i64 a0_6] 29)).cell? ⟨w.heap.size, 2, none⟩ = some (.slice A0_2 l0_2.length c0_2) := (hbc 2).trans rfl
 have hx3 : (w.alloc (.cells #[.slice A0_0 l0_0.length c0_0, .slice A0_1 l0_1.length c0_1, .slice A0_2 l0_2.length c0_2, .slice A0_3 l0_3.length c0_3, .int .i64 a0_4, .int .i64 a0_5, .int .i64 a0_6] 29)).cell? ⟨w.heap.size, 3, none⟩ = some (.slice A0_3 l0_3.length c0_3) := (hbc 3).trans rfl
 have hx4 : (w.alloc (.cells #[.slice A0_0 l0_0.length c0_0, .slice A0_1 l0_1.length c0_1, .slice A0_2 l0_2.length c0_2, .slice A0_3 l0_3.length c0_3, .int .i64 a0_4, .int .i64 a0_5, .int .i64 a0_6] 29)).cell? ⟨w.heap.size, 4, none⟩ = some (.int .i64 a0_4) := (hbc 4).trans rfl
 have hx5 : (w.alloc (.cells #[.slice A0_0 l0_0.length c0_0, .slice A0_1 l0_1.length c0_1, .slice A0_2 l0_2.length c0_2, .slice A0_3 l0_3.length c0_3, .int .i64 a0_4, .int .i64 a0_5, .int .i64 a0_6] 29)).cell? ⟨w.heap.size, 5, none⟩ = some (.int .i64 a0_5) := (hbc 5).trans rfl
 have hx6 : (w.alloc (.cells #[.slice A0_0 l0_0.length c0_0, .slice A0_1 l0_1.length c0_1, .slice A0_2 l0_2.length c0_2, .slice A0_3 l0_3.length c0_3, .int .i64 a0_4, .int .i64 a0_5, .int .i64 a0_6] 29)).cell? ⟨w.heap.size, 6, none⟩ = some (.int .i64 a0_6) := (hbc 6).trans rfl
 clear hbc
 have HSZ := Sd.mk (show (w.alloc (.cells #[.slice A0_0 l0_0.length c0_0, .slice A0_1 l0_1.length c0_1, .slice A0_2 l0_2.length c0_2, .slice A0_3 l0_3.length c0_3, .int .i64 a0_4, .int .i64 a0_5, .int .i64 a0_6] 29)).heap.size = w.heap.size + 1 from World.size_alloc _ _)
 go_enter Tryz.func15, Tryz.ntmps15
 go_upto_region 1 with (fail)
 generalize w.alloc (.cells #[.slice A0_0 l0_0.length c0_0, .slice A0_1 l0_1.length c0_1, .slice A0_2 l0_2.length c0_2, .slice A0_3 l0_3.length c0_3, .int .i64 a0_4, .int .i64 a0_5, .int .i64 a0_6] 29) = w0 at *
 by_cases he : ea = 0
 ·subst he
  rw [if_pos rfl] at HH
  go_wp2_with (go_at_call 50; refine HASK.mono ?_; rintro e w1 ⟨rfl, hbl⟩; have BX1 := blk_below BX.out hbl; have hy1 : w1.cell? ⟨w.heap.size, 1, none⟩ = some (.slice A0_1 l0_1.length c0_1) := (blk_cell BX1 1).trans rfl)
  have HB1 := Sd.mk (below_then HB0.out (by have := HSZ.out; omega) hbl)
  clear HASK hx0 hx1 hx2 hx3 hx4 hx5 hx6 hbl BX BX1 HB0
  go_wp2
  clear hy1
  go_loopg [18] k (fun kq v11 w' => ∃ (x11 : Int), v11 = .int .i64 x11 ∧ Sd (batch_Allowed.l0 kq l1 l0_1 (l0_1.length : Int) x11 = some (r1, r2)) ∧ Sd (Below w.heap.size w w'))
  case atStart => exact ⟨0, rfl, HH, HB1⟩
  case round =>
   clear HH HB1
   obtain ⟨x11, rfl, HA, HB⟩ := hrel
   cases gk with
   | zero => exact absurd HA.out (by simp [batch_Allowed.l0])
   | succ k1 =>
    have H := HA.out
    clear HA
    simp only [batch_Allowed.l0] at H
    by_cases c5 : x11 < (l0_1.length : Int)
    ·rw [if_pos c5] at H
     by_cases c6 : 0 ≤ x11
     ·rw [if_pos c6, if_pos c5] at H
      by_cases c8 : x11 < (l1.length : Int)
      ·rw [if_pos c8] at H
       obtain ⟨b, hb, H⟩ := Option.bind_eq_some_iff.mp H
       obtain ⟨ad, A6, c6', rfl, hx0, hx1, hx2, hx3, hx4, hx5, hx6, hl6, hi6⟩ := at_T70 (Kd.C_below HR.out HB.out) x11 c6 c5
       obtain ⟨ae, rfl, hy0⟩ := Kd.at_int (Kd.C_alloc (Kd.C_below HR1.out HB.out) (.cells #[.string (rd_T70 l0_1 x11).f0, .int .i64 (rd_T70 l0_1 x11).f1, .int .i64 (rd_T70 l0_1 x11).f2, .int .i64 (rd_T70 l0_1 x11).f3, .int .i64 (rd_T70 l0_1 x11).f4, .int .i64 (rd_T70 l0_1 x11).f5, .slice A6 (rd_T70 l0_1 x11).f6.length c6'] 70)) x11 c6 c8
       have BN := blk_new wr (.cells #[.string (rd_T70 l0_1 x11).f0, .int .i64 (rd_T70 l0_1 x11).f1, .int .i64 (rd_T70 l0_1 x11).f2, .int .i64 (rd_T70 l0_1 x11).f3, .int .i64 (rd_T70 l0_1 x11).f4, .int .i64 (rd_T70 l0_1 x11).f5, .slice A6 (rd_T70 l0_1 x11).f6.length c6'] 70)
       have BM3 : (wr.alloc (.cells #[.string (rd_T70 l0_1 x11).f0, .int .i64 (rd_T70 l0_1 x11).f1, .int .i64 (rd_T70 l0_1 x11).f2, .int .i64 (rd_T70 l0_1 x11).f3, .int .i64 (rd_T70 l0_1 x11).f4, .int .i64 (rd_T70 l0_1 x11).f5, .slice A6 (rd_T70 l0_1 x11).f6.length c6'] 70)).cell? ⟨wr.heap.size, 3, none⟩ = some (.int .i64 (rd_T70 l0_1 x11).f3) := (blk_cell BN 3).trans rfl
       have BM4 : (wr.alloc (.cells #[.string (rd_T70 l0_1 x11).f0, .int .i64 (rd_T70 l0_1 x11).f1, .int .i64 (rd_T70 l0_1 x11).f2, .int .i64 (rd_T70 l0_1 x11).f3, .int .i64 (rd_T70 l0_1 x11).f4, .int .i64 (rd_T70 l0_1 x11).f5, .slice A6 (rd_T70 l0_1 x11).f6.length c6'] 70)).cell? ⟨wr.heap.size, 4, none⟩ = some (.int .i64 (rd_T70 l0_1 x11).f4) := (blk_cell BN 4).trans rfl
       have BM5 : (wr.alloc (.cells #[.string (rd_T70 l0_1 x11).f0, .int .i64 (rd_T70 l0_1 x11).f1, .int .i64 (rd_T70 l0_1 x11).f2, .int .i64 (rd_T70 l0_1 x11).f3, .int .i64 (rd_T70 l0_1 x11).f4, .int .i64 (rd_T70 l0_1 x11).f5, .slice A6 (rd_T70 l0_1 x11).f6.length c6'] 70)).cell? ⟨wr.heap.size, 5, none⟩ = some (.int .i64 (rd_T70 l0_1 x11).f5) := (blk_cell BN 5).trans rfl
       have HB1 := Sd.mk (below_alloc HB.out (.cells #[.string (rd_T70 l0_1 x11).f0, .int .i64 (rd_T70 l0_1 x11).f1, .int .i64 (rd_T70 l0_1 x11).f2, .int .i64 (rd_T70 l0_1 x11).f3, .int .i64 (rd_T70 l0_1 x11).f4, .int .i64 (rd_T70 l0_1 x11).f5, .slice A6 (rd_T70 l0_1 x11).f6.length c6'] 70))
       have HW := Sd.mk hb
       clear HB hl6 hi6 BN hb
       have H' := Sd.mk H
       clear H
       go_upto_region 7 with (fail)
       clear hx0 hx1 hx2 hx3 hx4 hx5 hx6
       generalize wr.alloc (.cells #[.string (rd_T70 l0_1 x11).f0, .int .i64 (rd_T70 l0_1 x11).f1, .int .i64 (rd_T70 l0_1 x11).f2, .int .i64 (rd_T70 l0_1 x11).f3, .int .i64 (rd_T70 l0_1 x11).f4, .int .i64 (rd_T70 l0_1 x11).f5, .slice A6 (rd_T70 l0_1 x11).f6.length c6'] 70) = WX at BM3 BM4 BM5 hy0 HB1 ⊢
       generalize wr.heap.size = X at BM3 BM4 BM5 ⊢
       generalize rd_T70 l0_1 x11 = m at *
       generalize hv : rd l1 x11 = v at *
       clear hv
       cases b with
       | true =>
        have H2 := H'.out
        rw [if_pos rfl] at H2
        by_cases c9 : m.f5 = 0
        ·rw [if_pos c9] at H2
         exact absurd H2 (by simp)
        ·rw [if_neg c9] at H2
         by_cases c10 : Int.tmod (wrap64 (v - m.f3)) m.f5 = 0
         ·rw [if_pos c10] at H2
          have H3 := Sd.mk H2
          have HC10 : ((Int.tmod (wrap64 (v - m.f3)) m.f5) != 0) = false := by simp [c10]
          have C10 := Sd.mk c10
          clear H2 H' c10
          go_quiet (first | (go_at_call 56; exact Calls.quiet_of (within_q _ _ _ _ _ HW.out)))
          go_wp2
          go_roundg k1
          case measure => omega
          case rel => exact ⟨_, rfl, H3, ⟨by first | exact HB1.out | exact pw_below_drewN HB1.out _⟩⟩
         ·rw [if_neg c10] at H2
          have H3 := Sd.mk H2
          have HC10 : ((Int.tmod (wrap64 (v - m.f3)) m.f5) != 0) = true := by simp [c10]
          have C10 := Sd.mk c10
          clear H2 H' c10
          go_quiet (first | (go_at_call 56; exact Calls.quiet_of (within_q _ _ _ _ _ HW.out)))
          go_wp2
          go_ret2
          have := H3.out
          simp only [Option.some.injEq, Prod.mk.injEq] at this
          obtain ⟨rfl, rfl⟩ := this
          exact ⟨rfl, by first | exact HB1.out | exact pw_below_drewN HB1.out _⟩
       | false =>
        have H2 := H'.out
        rw [if_neg (by simp)] at H2
        have H3 := Sd.mk H2
        clear H2 H'
        go_quiet (first | (go_at_call 56; exact Calls.quiet_of (within_q _ _ _ _ _ HW.out)))
        go_wp2
        go_ret2
        have := H3.out
        simp only [Option.some.injEq, Prod.mk.injEq] at this
        obtain ⟨rfl, rfl⟩ := this
        exact ⟨rfl, by first | exact HB1.out | exact pw_below_drewN HB1.out _⟩
      ·rw [if_neg c8] at H
       exact absurd H (by simp)
     ·rw [if_neg c6] at H
      exact absurd H (by simp)
    ·rw [if_neg c5] at H
     have c5b0 : decide (x11 < (l0_1.length : Int)) = false := decide_eq_false c5
     clear c5
     simp only [Option.some.injEq, Prod.mk.injEq] at H
     obtain ⟨rfl, rfl⟩ := H
     go_wp2
     go_ret2
     exact ⟨rfl, HB.out⟩
 ·rw [if_neg he] at HH
  have heb : (ea != 0) = true := by simp [he]
  have := HH.out
  simp only [Option.some.injEq, Prod.mk.injEq] at this
  obtain ⟨rfl, rfl⟩ := this
  go_wp2_with (go_at_call 50; refine HASK.mono ?_; rintro e w1 ⟨rfl, hbl⟩)
  have HB1 := Sd.mk (below_then HB0.out (by have := HSZ.out; omega) hbl)
  clear HASK hx0 hx1 hx2 hx3 hx4 hx5 hx6 hbl
  go_wp2
  go_ret2
  exact ⟨rfl, HB1.out⟩
end Go.Proofs.YtljfljekcpdpiaaGreat.PB

namespace Go.Proofs.YtljfljekcpdpiaaGreat.PB
open Go.RowKit Go.Proofs.YtljfljekcpdpiaaGreatW.PrintWords Go.Proofs.YtljfljekcpdpiaaGreatW.PrintLast Go.Proofs.YtljfljekcpdpiaaGreatW.PrintMore
attribute [local go_sem] max2_int min2_int max_two min_two max_three min_three max_four min_four
def rf_Total.l0 : Nat → List Int → Int → Int → List Int → Int → Option (Int)
 | 0, _, _, _, _, _ => none
 | k + 1, x1, x5, x6, x274q0, x274q1 => if x6 < (x1.length : Int) then (if 0 ≤ x6 then (if x6 < (x274q0.length : Int) then (rf_Total.l0 k x1 (wrap64 (x5 + (wrap64 ((rd x1 x6) * (rd x274q0 x6))))) (wrap64 (x6 + 1)) x274q0 x274q1) else (none)) else (none)) else (some x5)
def rf_Total.f (k : Nat) (l0_0 : List Int) (a0_1 : Int) (l1 : List Int) : Option (Int) := rf_Total.l0 k l1 0 0 l0_0 a0_1
set_option maxHeartbeats 8000000 in
set_option maxRecDepth 100000 in
theorem rf_Total.calls (k : Nat) (A0_0 : Option Addr) (c0_0 : Nat) (l0_0 : List Int) (a0_1 : Int) (A1 : Option Addr) (c1 : Nat) (l1 : List Int) (r : Int) (w : World) (hr0_0 : Kd.C (Kd.int .i64) w A0_0 l0_0.length l0_0) (hc0_0 : l0_0.length ≤ c0_0) (hr1 : Kd.C (Kd.int .i64) w A1 l1.length l1) (hc1 : l1.length ≤ c1) (h : rf_Total.f k l0_0 a0_1 l1 = some r) :
  Calls Tryz.prog 149 #[.agg #[.slice A0_0 l0_0.length c0_0, .int .i64 a0_1], .slice A1 l1.length c1] w fun e w' => e = .returned (.int .i64 r) ∧ Below w.heap.size w w' := by
 have hu168 := Tryz.underlying168; have HR0_0 := Sd.mk hr0_0; have HC0_0 := Sd.mk hc0_0; clear hr0_0 hc0_0; have HR1 := Sd.mk hr1; have HC1 := Sd.mk hc1; clear hr1 hc1; have HB := Sd.mk (Below.refl w.heap.size w)
 have H : (rf_Total.l0 k l1 0 0 l0_0 a0_1) = some r := h
 clear h; have H' := Sd.mk H; clear H
 go_enter Tryz.func149, Tryz.ntmps149
 go_wp2_with (first | ((with_reducible refine gate_dst (N := 2) rfl ?_); refine box_event ?hg (N := 2) ?hd (cs := #[.slice A0_0 l0_0.length c0_0, .int .i64 a0_1]) (t := 168) ?hr ?_; (case hd => rfl); (case hg => rfl); (case hr => exact tG); intro gb273 hg w3 hbox hb; have BK273 := Sd.mk (hbox); have GW273 := Sd.mk (bSz hg (bBl HB.out)); have GE273 := Sd.mk (bSz hg (bBl HB.out)); replace HB := Sd.mk (below_step (bBl HB.out) hb); clear hb hbox hg))
 repeat (go_quiet (first | ((with_reducible refine gate_dst (N := 2) rfl ?_); refine box_event ?hg (N := 2) ?hd (cs := #[.slice A0_0 l0_0.length c0_0, .int .i64 a0_1]) (t := 168) ?hr ?_; (case hd => rfl); (case hg => rfl); (case hr => exact tG); intro gb273 hg w3 hbox hb; have BK273 := Sd.mk (hbox); have GW273 := Sd.mk (bSz hg (bBl HB.out)); have GE273 := Sd.mk (bSz hg (bBl HB.out)); replace HB := Sd.mk (below_step (bBl HB.out) hb); clear hb hbox hg)); try go_wp2_with (first | ((with_reducible refine gate_dst (N := 2) rfl ?_); refine box_event ?hg (N := 2) ?hd (cs := #[.slice A0_0 l0_0.length c0_0, .int .i64 a0_1]) (t := 168) ?hr ?_; (case hd => rfl); (case hg => rfl); (case hr => exact tG); intro gb273 hg w3 hbox hb; have BK273 := Sd.mk (hbox); have GW273 := Sd.mk (bSz hg (bBl HB.out)); have GE273 := Sd.mk (bSz hg (bBl HB.out)); replace HB := Sd.mk (below_step (bBl HB.out) hb); clear hb hbox hg)))
 go_loopg [5, 6] k (fun kq v5 v6 w' => ∃ (x5_1 : Int) (x6_1 : Int), v5 = .int .i64 x5_1 ∧ v6 = .int .i64 x6_1 ∧ Sd (rf_Total.l0 kq l1 x5_1 x6_1 l0_0 a0_1 = some r) ∧ Sd (kq ≤ k) ∧ Sd (w'.heap[gb273]? = some (.cells #[(.slice A0_0 l0_0.length c0_0), .int .i64 a0_1] 168 (0, 0))) ∧ Sd (Below w.heap.size w w'))
 case atStart => exact ⟨(0), (0), tS, tS, H', ⟨Nat.le_refl _⟩, ⟨bkA BK273.out⟩, ⟨bBl HB.out⟩⟩
 case round =>
  clear H'; (try clear c1); (try clear p2); obtain ⟨x5_1, x6_1, rfl, rfl, HA, HK1, BK273, HB⟩ := hrel
  cases gk with
  | zero => exact absurd HA.out (by simp [rf_Total.l0])
  | succ k1 =>
   have H := HA.out; clear HA
   simp only [rf_Total.l0] at H
   by_cases c4 : x6_1 < (l1.length : Int)
   ·rw [if_pos c4] at H
    have c4b0 : decide (x6_1 < (l1.length : Int)) = true := decide_eq_true c4
    clear c4
    by_cases c5 : 0 ≤ x6_1
    ·rw [if_pos c5] at H
     have c5b0 : decide (0 ≤ x6_1) = true := decide_eq_true c5
     clear c5
     by_cases c6 : x6_1 < (l0_0.length : Int)
     ·rw [if_pos c6] at H
      have c6b0 : decide (x6_1 < (l0_0.length : Int)) = true := decide_eq_true c6
      clear c6; have H' := Sd.mk H; clear H
      have p274 : 0 ≤ (x6_1 : Int) := tB
      have q274 : x6_1 < (l1.length : Int) := tB
      obtain ⟨ad274, e274, hx274_0⟩ := Kd.at_int HR1.out x6_1 p274 q274; cases e274; replace hx274_0 := cU HB hx274_0; replace p274 := eq_true p274; replace q274 := eq_true q274; obtain ⟨u7_0, u7_1, o7_0, o7_1⟩ := bc2 (w := wr) BK273.out
      have p275 : 0 ≤ (x6_1 : Int) := tB
      have q275 : x6_1 < (l0_0.length : Int) := tB
      obtain ⟨ad275, e275, hx275_0⟩ := Kd.at_int HR0_0.out x6_1 p275 q275; cases e275; replace hx275_0 := cU HB hx275_0; replace p275 := eq_true p275; replace q275 := eq_true q275
      go_wp2
      repeat (go_quiet (fail); try go_wp2)
      go_roundg k1
      case measure => have := HK1.out; omega
      case rel => exact ⟨(wrap64 (x5_1 + (wrap64 ((rd l1 x6_1) * (rd l0_0 x6_1))))), (wrap64 (x6_1 + 1)), tS, tS, H', ⟨by have := HK1.out; omega⟩, ⟨bkA BK273.out⟩, ⟨bBl HB.out⟩⟩
     ·rw [if_neg c6] at H
      exact absurd H (by simp)
    ·rw [if_neg c5] at H
     exact absurd H (by simp)
   ·rw [if_neg c4] at H
    have c4b0 : decide (x6_1 < (l1.length : Int)) = false := decide_eq_false c4
    clear c4; obtain rfl := Option.some.inj H
    go_wp2
    repeat (go_quiet (fail); try go_wp2)
    go_ret
    exact ⟨tE, bBl HB.out⟩
end Go.Proofs.YtljfljekcpdpiaaGreat.PB

namespace Go.Proofs.YtljfljekcpdpiaaGreat.PB
open Go.RowKit Go.Proofs.YtljfljekcpdpiaaGreatW.PrintWords Go.Proofs.YtljfljekcpdpiaaGreatW.PrintLast Go.Proofs.YtljfljekcpdpiaaGreatW.PrintMore
attribute [local go_sem] max2_int min2_int max_two min_two max_three min_three max_four min_four
def rf_Keeps.l0 : Nat → List (S168) → List Int → Int → Int → Option (Bool)
 | 0, _, _, _, _ => none
 | k + 1, x0, x1, x2, x7 => if x7 < (x0.length : Int) then (if 0 ≤ x7 then ((rf_Total.f k ((rd_T168 x0 x7).f0) ((rd_T168 x0 x7).f1) x1).bind fun t277 => (if t277 > (wrap64 (x2 * ((rd_T168 x0 x7).f1))) then (some false) else (rf_Keeps.l0 k x0 x1 x2 (wrap64 (x7 + 1))))) else (none)) else (some true)
def rf_Keeps.f (k : Nat) (l0 : List (S168)) (l1 : List Int) (a2 : Int) : Option (Bool) := rf_Keeps.l0 k l0 l1 a2 0
def rf_Keeps.T4 : Bool × List (List Nat × List Nat) := (true, [([], []), ([], []), ([0, 1], [0, 1]), ([2], [2]), ([], []), ([3, 4], [3, 4]), ([], []), ([], []), ([], []), ([7, 8], [7, 8]), ([9], [9]), ([10], [10]), ([6, 11], [6, 11]), ([5, 12], [5, 12])])
def rf_Keeps.B4 : List Nat := [0, 0, 3, 7, 0, 31, 0, 0, 0, 384, 896, 1920, 4032, 8191]
theorem rf_Keeps.tab4 : rtab .any (opsOf Tryz.f54 4) = rf_Keeps.T4 := by kernel_rfl
theorem rf_Keeps.bits4 : waitsOk rf_Keeps.T4.2 rf_Keeps.B4 = true := by kernel_rfl
set_option maxHeartbeats 8000000 in
set_option maxRecDepth 100000 in
theorem rf_Keeps.calls (k : Nat) (A0 : Option Addr) (c0 : Nat) (l0 : List (S168)) (A1 : Option Addr) (c1 : Nat) (l1 : List Int) (a2 : Int) (r : Bool) (w : World) (hr0 : Kd.C k168 w A0 l0.length l0) (hc0 : l0.length ≤ c0) (hr1 : Kd.C (Kd.int .i64) w A1 l1.length l1) (hc1 : l1.length ≤ c1) (h : rf_Keeps.f k l0 l1 a2 = some r) :
  Calls Tryz.prog 54 #[.slice A0 l0.length c0, .slice A1 l1.length c1, .int .i64 a2] w fun e w' => e = .returned (.bool r) ∧ Below w.heap.size w w' := by
 have hu168 := Tryz.underlying168; have HR0 := Sd.mk hr0; have HC0 := Sd.mk hc0; clear hr0 hc0; have HR1 := Sd.mk hr1; have HC1 := Sd.mk hc1; clear hr1 hc1; have HB := Sd.mk (Below.refl w.heap.size w)
 have H : (rf_Keeps.l0 k l0 l1 a2 0) = some r := h
 clear h; have H' := Sd.mk H; clear H
 go_enter Tryz.func54, Tryz.ntmps54
 go_wp2
 go_loopg [7] k (fun kq v7 w' => ∃ (x7_1 : Int), v7 = .int .i64 x7_1 ∧ Sd (rf_Keeps.l0 kq l0 l1 a2 x7_1 = some r) ∧ Sd (kq ≤ k) ∧ Sd (Below w.heap.size w w'))
 case atStart => exact ⟨(0), tS, H', ⟨Nat.le_refl _⟩, ⟨bBl HB.out⟩⟩
 case round =>
  clear H'; (try clear c1); (try clear p2); obtain ⟨x7_1, rfl, HA, HK1, HB⟩ := hrel
  cases gk with
  | zero => exact absurd HA.out (by simp [rf_Keeps.l0])
  | succ k1 =>
   have H := HA.out; clear HA
   simp only [rf_Keeps.l0] at H
   by_cases c4 : x7_1 < (l0.length : Int)
   ·rw [if_pos c4] at H
    have c4b0 : decide (x7_1 < (l0.length : Int)) = true := decide_eq_true c4
    clear c4
    by_cases c5 : 0 ≤ x7_1
    ·rw [if_pos c5] at H
     have c5b0 : decide (0 ≤ x7_1) = true := decide_eq_true c5
     clear c5; replace H := Option.bind_eq_some_iff.mp H; obtain ⟨t277, A60, H⟩ := H
     try dsimp only at H
     have A6 := Sd.mk A60; clear A60
     by_cases c7 : t277 > (wrap64 (a2 * ((rd_T168 l0 x7_1).f1)))
     ·rw [if_pos c7] at H
      have c7b0 : decide ((wrap64 (a2 * ((rd_T168 l0 x7_1).f1))) < t277) = true := decide_eq_true c7
      clear c7; obtain rfl := Option.some.inj H
      try go_wp2
      replace HB := Sd.mk (below_drew1 HB.out)
      have p276 : 0 ≤ (x7_1 : Int) := tB
      have q276 : x7_1 < (l0.length : Int) := tB
      obtain ⟨ad276, A276_0, c276_0, e276, hx276_0, hx276_1, hl276_0, hi276_0⟩ := at_T168 HR0.out x7_1 p276 q276; have hw276_1 := hx276_1; have hw276_0 := hx276_0; cases e276; replace hx276_0 := cU HB hx276_0; replace hx276_1 := cU HB hx276_1; have HR276_0 := Sd.mk hi276_0; have HC276_0 := Sd.mk hl276_0; clear hi276_0 hl276_0; replace p276 := eq_true p276; replace q276 := eq_true q276
      have p278 : 0 ≤ (x7_1 : Int) := tB
      have q278 : x7_1 < (l0.length : Int) := tB
      obtain ⟨ad278, A278_0, c278_0, e278, hx278_0, hx278_1, hl278_0, hi278_0⟩ := at_T168 HR0.out x7_1 p278 q278; have hw278_1 := hx278_1; have hw278_0 := hx278_0
      obtain rfl : ad276 = ad278 := (by injection e278)
      replace hx278_0 := cU HB hx278_0; replace hx278_1 := cU HB hx278_1; have HR278_0 := Sd.mk hi278_0; have HC278_0 := Sd.mk hl278_0; clear hi278_0 hl278_0; replace p278 := eq_true p278; replace q278 := eq_true q278; have ea_ := Option.some.inj (hx276_0.symm.trans hx278_0)
      injection ea_ with ea_ en_ ec_
      subst ea_; subst ec_; clear en_
      refine start_ (n := 14) (S := fun w' => w'.cell? (ad276.add ((x7_1).toNat * 2)) = some (.slice A276_0 ((rd_T168 l0 x7_1).f0).length c276_0) ∧ w'.cell? ⟨(ad276.add ((x7_1).toNat * 2)).block, (ad276.add ((x7_1).toNat * 2)).off + 1, none⟩ = some (.int .i64 ((rd_T168 l0 x7_1).f1)) ∧ w'.cell? (ad276.add ((x7_1).toNat * 2)) = some (.slice A276_0 ((rd_T168 l0 x7_1).f0).length c276_0) ∧ w'.cell? ⟨(ad276.add ((x7_1).toNat * 2)).block, (ad276.add ((x7_1).toNat * 2)).off + 1, none⟩ = some (.int .i64 ((rd_T168 l0 x7_1).f1))) (ds := []) #[false, false, false, false, false, false, false, false, false, false, false, false, false, false] (by kernel_rfl) rfl rfl ⟨((HB.out.cell (World.block_lt_of_cell? w _ hw276_0)).trans hw276_0), ((HB.out.cell (World.block_lt_of_cell? w _ hw276_1)).trans hw276_1), ((HB.out.cell (World.block_lt_of_cell? w _ hw278_0)).trans hw278_0), ((HB.out.cell (World.block_lt_of_cell? w _ hw278_1)).trans hw278_1)⟩ (fun hHeld => ?_); refine with_tabW rf_Keeps.tab4 rf_Keeps.bits4 (fun HT_ HW_ => ?_)
      generalize wr.drew = w8 at HB HR276_0 HR278_0 hx276_0 hx276_1 hx278_0 hx278_1 hHeld ⊢
      refine pure_ (i := 0) (N := some 14) (v := ?_) (a' := ?_) #[true, false, false, false, false, false, false, false, false, false, false, false, false, false] rfl rfl (any_of HT_.out (by kernel_rfl)) (fun _ _ _ h => h) (Or.inl ⟨by rfl, ?_⟩) ?_ ?_
      rotate_left
      ·exact tW
      rotate_left
      ·exact tP
      refine pure_ (i := 1) (N := some 15) (v := ?_) (a' := ?_) #[true, true, false, false, false, false, false, false, false, false, false, false, false, false] rfl rfl (any_of HT_.out (by kernel_rfl)) (fun _ _ _ h => h) (Or.inl ⟨by rfl, ?_⟩) ?_ ?_
      rotate_left
      ·exact tW
      rotate_left
      ·exact tP
      refine pure_ (i := 2) (N := some 16) (v := ?_) (a' := ?_) #[true, true, true, false, false, false, false, false, false, false, false, false, false, false] rfl rfl (any_of HT_.out (by kernel_rfl)) (fun _ _ _ h => h) (Or.inl ⟨by rfl, ?_⟩) ?_ ?_
      rotate_left
      ·exact tW
      rotate_left
      ·exact tP
      refine pure_ (i := 4) (N := some 18) (v := ?_) (a' := ?_) #[true, true, true, false, true, false, false, false, false, false, false, false, false, false] rfl rfl (any_of HT_.out (by kernel_rfl)) (fun _ _ _ h => h) (Or.inl ⟨by rfl, ?_⟩) ?_ ?_
      rotate_left
      ·exact tW
      rotate_left
      ·exact tP
      refine pure_ (i := 6) (N := some 20) (v := ?_) (a' := ?_) #[true, true, true, false, true, false, true, false, false, false, false, false, false, false] rfl rfl (any_of HT_.out (by kernel_rfl)) (fun _ _ _ h => h) (Or.inl ⟨by rfl, ?_⟩) ?_ ?_
      rotate_left
      ·exact tW
      rotate_left
      ·exact tP
      refine pure_ (i := 7) (N := some 21) (v := ?_) (a' := ?_) #[true, true, true, false, true, false, true, true, false, false, false, false, false, false] rfl rfl (any_of HT_.out (by kernel_rfl)) (fun _ _ _ h => h) (Or.inl ⟨by rfl, ?_⟩) ?_ ?_
      rotate_left
      ·exact tW
      rotate_left
      ·exact tP
      refine pure_ (i := 8) (N := some 22) (v := ?_) (a' := ?_) #[true, true, true, false, true, false, true, true, true, false, false, false, false, false] rfl rfl (any_of HT_.out (by kernel_rfl)) (fun _ _ _ h => h) (Or.inl ⟨by rfl, ?_⟩) ?_ ?_
      rotate_left
      ·exact tW
      rotate_left
      ·exact tP
      refine pure_ (i := 9) (N := some 23) (v := ?_) (a' := ?_) #[true, true, true, false, true, false, true, true, true, true, false, false, false, false] rfl rfl (any_of HT_.out (by kernel_rfl)) (fun _ _ _ h => h) (Or.inl ⟨by rfl, ?_⟩) ?_ ?_
      rotate_left
      ·exact tW
      rotate_left
      ·exact tP
      refine pure_ (i := 10) (N := some 24) (v := ?_) (a' := ?_) #[true, true, true, false, true, false, true, true, true, true, true, false, false, false] rfl rfl (any_of HT_.out (by kernel_rfl)) (fun _ _ _ h => h) (Or.inl ⟨by rfl, ?_⟩) ?_ ?_
      rotate_left
      ·exact tW
      rotate_left
      ·exact tP
      refine take_ (i := 3) (N := some 17) (v := ?_) (a' := ?_) #[true, true, true, true, true, false, true, true, true, true, true, false, false, false] rfl rfl (take_ofW HT_.out HW_.out (by kernel_rfl)) (fun _ _ _ h => h) (Or.inl ⟨by rfl, ?_⟩) hHeld ?_ ?_
      rotate_left
      ·rintro w' ⟨s0, s1, s2, s3⟩
       go_simp
       with_reducible rfl
      rotate_left
      ·exact tP
      refine take_ (i := 11) (N := some 25) (v := ?_) (a' := ?_) #[true, true, true, true, true, false, true, true, true, true, true, true, false, false] rfl rfl (take_ofW HT_.out HW_.out (by kernel_rfl)) (fun _ _ _ h => h) (Or.inl ⟨by rfl, ?_⟩) hHeld ?_ ?_
      rotate_left
      ·rintro w' ⟨s0, s1, s2, s3⟩
       go_simp
       with_reducible rfl
      rotate_left
      ·exact tP
      refine pure_ (i := 12) (N := some 26) (v := ?_) (a' := ?_) #[true, true, true, true, true, false, true, true, true, true, true, true, true, false] rfl rfl (any_of HT_.out (by kernel_rfl)) (fun _ _ _ h => h) (Or.inl ⟨by rfl, ?_⟩) ?_ ?_
      rotate_left
      ·exact tW
      rotate_left
      ·exact tP
      refine one_ (i := 5) (N := some 19) #[true, true, true, true, true, true, true, true, true, true, true, true, true, false] rfl rfl (one_of HT_.out (by kernel_rfl)) (by decide) (fun K hK => ?_)
      refine goes_ Tryz.func149 (by kernel_rfl) rfl #[.agg #[.slice A276_0 ((rd_T168 l0 x7_1).f0).length c276_0, .int .i64 ((rd_T168 l0 x7_1).f1)], .slice A1 l1.length c1] (by rfl) rfl rfl tM ?_
      with_reducible refine (rf_Total.calls k1 _ _ ((rd_T168 l0 x7_1).f0) ((rd_T168 l0 x7_1).f1) _ _ l1 t277 _ ?side1 ?side2 ?side3 ?side4 A6.out).mono ?_
      (case side1 => exact cS (Kd.C_below HR276_0.out HB.out))
      (case side2 => exact HC276_0.out)
      (case side3 => exact cS (Kd.C_below HR1.out HB.out))
      (case side4 => exact HC1.out)
      rintro e w9 ⟨rfl, hb⟩
      refine ⟨_, rfl, ?_⟩
      replace HB := Sd.mk (below_step (bBl HB.out) hb)
      (try clear hb)
      (try clear hb2)
      (try clear hk)
      (try clear hi)
      refine hK.out _ _ ⟨((HB.out.cell (World.block_lt_of_cell? w _ hw276_0)).trans hw276_0), ((HB.out.cell (World.block_lt_of_cell? w _ hw276_1)).trans hw276_1), ((HB.out.cell (World.block_lt_of_cell? w _ hw278_0)).trans hw278_0), ((HB.out.cell (World.block_lt_of_cell? w _ hw278_1)).trans hw278_1)⟩ (fun hHeld => ?_)
      clear hK K
      refine norm_ (a' := ?_) ?_ ?_
      rotate_left
      ·show Act.put _ (some 19) _ = _
       exact tP
      refine pure_ (i := 13) (N := some 27) (v := ?_) (a' := ?_) #[true, true, true, true, true, true, true, true, true, true, true, true, true, true] rfl rfl (any_of HT_.out (by kernel_rfl)) (fun _ _ _ h => h) (Or.inl ⟨by rfl, ?_⟩) ?_ ?_
      rotate_left
      ·exact tW
      rotate_left
      ·exact tP
      refine done_ (done_of HT_.out (by kernel_rfl)) ?_
      try go_wp2
      go_ret
      exact ⟨tE, bBl HB.out⟩
     ·rw [if_neg c7] at H
      have c7b0 : decide ((wrap64 (a2 * ((rd_T168 l0 x7_1).f1))) < t277) = false := decide_eq_false c7
      clear c7; have H' := Sd.mk H; clear H
      try go_wp2
      replace HB := Sd.mk (below_drew1 HB.out)
      have p276 : 0 ≤ (x7_1 : Int) := tB
      have q276 : x7_1 < (l0.length : Int) := tB
      obtain ⟨ad276, A276_0, c276_0, e276, hx276_0, hx276_1, hl276_0, hi276_0⟩ := at_T168 HR0.out x7_1 p276 q276; have hw276_1 := hx276_1; have hw276_0 := hx276_0; cases e276; replace hx276_0 := cU HB hx276_0; replace hx276_1 := cU HB hx276_1; have HR276_0 := Sd.mk hi276_0; have HC276_0 := Sd.mk hl276_0; clear hi276_0 hl276_0; replace p276 := eq_true p276; replace q276 := eq_true q276
      have p278 : 0 ≤ (x7_1 : Int) := tB
      have q278 : x7_1 < (l0.length : Int) := tB
      obtain ⟨ad278, A278_0, c278_0, e278, hx278_0, hx278_1, hl278_0, hi278_0⟩ := at_T168 HR0.out x7_1 p278 q278; have hw278_1 := hx278_1; have hw278_0 := hx278_0
      obtain rfl : ad276 = ad278 := (by injection e278)
      replace hx278_0 := cU HB hx278_0; replace hx278_1 := cU HB hx278_1; have HR278_0 := Sd.mk hi278_0; have HC278_0 := Sd.mk hl278_0; clear hi278_0 hl278_0; replace p278 := eq_true p278; replace q278 := eq_true q278; have ea_ := Option.some.inj (hx276_0.symm.trans hx278_0)
      injection ea_ with ea_ en_ ec_
      subst ea_; subst ec_; clear en_
      refine start_ (n := 14) (S := fun w' => w'.cell? (ad276.add ((x7_1).toNat * 2)) = some (.slice A276_0 ((rd_T168 l0 x7_1).f0).length c276_0) ∧ w'.cell? ⟨(ad276.add ((x7_1).toNat * 2)).block, (ad276.add ((x7_1).toNat * 2)).off + 1, none⟩ = some (.int .i64 ((rd_T168 l0 x7_1).f1)) ∧ w'.cell? (ad276.add ((x7_1).toNat * 2)) = some (.slice A276_0 ((rd_T168 l0 x7_1).f0).length c276_0) ∧ w'.cell? ⟨(ad276.add ((x7_1).toNat * 2)).block, (ad276.add ((x7_1).toNat * 2)).off + 1, none⟩ = some (.int .i64 ((rd_T168 l0 x7_1).f1))) (ds := []) #[false, false, false, false, false, false, false, false, false, false, false, false, false, false] (by kernel_rfl) rfl rfl ⟨((HB.out.cell (World.block_lt_of_cell? w _ hw276_0)).trans hw276_0), ((HB.out.cell (World.block_lt_of_cell? w _ hw276_1)).trans hw276_1), ((HB.out.cell (World.block_lt_of_cell? w _ hw278_0)).trans hw278_0), ((HB.out.cell (World.block_lt_of_cell? w _ hw278_1)).trans hw278_1)⟩ (fun hHeld => ?_); refine with_tabW rf_Keeps.tab4 rf_Keeps.bits4 (fun HT_ HW_ => ?_)
      generalize wr.drew = w10 at HB HR276_0 HR278_0 hx276_0 hx276_1 hx278_0 hx278_1 hHeld ⊢
      refine pure_ (i := 0) (N := some 14) (v := ?_) (a' := ?_) #[true, false, false, false, false, false, false, false, false, false, false, false, false, false] rfl rfl (any_of HT_.out (by kernel_rfl)) (fun _ _ _ h => h) (Or.inl ⟨by rfl, ?_⟩) ?_ ?_
      rotate_left
      ·exact tW
      rotate_left
      ·exact tP
      refine pure_ (i := 1) (N := some 15) (v := ?_) (a' := ?_) #[true, true, false, false, false, false, false, false, false, false, false, false, false, false] rfl rfl (any_of HT_.out (by kernel_rfl)) (fun _ _ _ h => h) (Or.inl ⟨by rfl, ?_⟩) ?_ ?_
      rotate_left
      ·exact tW
      rotate_left
      ·exact tP
      refine pure_ (i := 2) (N := some 16) (v := ?_) (a' := ?_) #[true, true, true, false, false, false, false, false, false, false, false, false, false, false] rfl rfl (any_of HT_.out (by kernel_rfl)) (fun _ _ _ h => h) (Or.inl ⟨by rfl, ?_⟩) ?_ ?_
      rotate_left
      ·exact tW
      rotate_left
      ·exact tP
      refine pure_ (i := 4) (N := some 18) (v := ?_) (a' := ?_) #[true, true, true, false, true, false, false, false, false, false, false, false, false, false] rfl rfl (any_of HT_.out (by kernel_rfl)) (fun _ _ _ h => h) (Or.inl ⟨by rfl, ?_⟩) ?_ ?_
      rotate_left
      ·exact tW
      rotate_left
      ·exact tP
      refine pure_ (i := 6) (N := some 20) (v := ?_) (a' := ?_) #[true, true, true, false, true, false, true, false, false, false, false, false, false, false] rfl rfl (any_of HT_.out (by kernel_rfl)) (fun _ _ _ h => h) (Or.inl ⟨by rfl, ?_⟩) ?_ ?_
      rotate_left
      ·exact tW
      rotate_left
      ·exact tP
      refine pure_ (i := 7) (N := some 21) (v := ?_) (a' := ?_) #[true, true, true, false, true, false, true, true, false, false, false, false, false, false] rfl rfl (any_of HT_.out (by kernel_rfl)) (fun _ _ _ h => h) (Or.inl ⟨by rfl, ?_⟩) ?_ ?_
      rotate_left
      ·exact tW
      rotate_left
      ·exact tP
      refine pure_ (i := 8) (N := some 22) (v := ?_) (a' := ?_) #[true, true, true, false, true, false, true, true, true, false, false, false, false, false] rfl rfl (any_of HT_.out (by kernel_rfl)) (fun _ _ _ h => h) (Or.inl ⟨by rfl, ?_⟩) ?_ ?_
      rotate_left
      ·exact tW
      rotate_left
      ·exact tP
      refine pure_ (i := 9) (N := some 23) (v := ?_) (a' := ?_) #[true, true, true, false, true, false, true, true, true, true, false, false, false, false] rfl rfl (any_of HT_.out (by kernel_rfl)) (fun _ _ _ h => h) (Or.inl ⟨by rfl, ?_⟩) ?_ ?_
      rotate_left
      ·exact tW
      rotate_left
      ·exact tP
      refine pure_ (i := 10) (N := some 24) (v := ?_) (a' := ?_) #[true, true, true, false, true, false, true, true, true, true, true, false, false, false] rfl rfl (any_of HT_.out (by kernel_rfl)) (fun _ _ _ h => h) (Or.inl ⟨by rfl, ?_⟩) ?_ ?_
      rotate_left
      ·exact tW
      rotate_left
      ·exact tP
      refine take_ (i := 3) (N := some 17) (v := ?_) (a' := ?_) #[true, true, true, true, true, false, true, true, true, true, true, false, false, false] rfl rfl (take_ofW HT_.out HW_.out (by kernel_rfl)) (fun _ _ _ h => h) (Or.inl ⟨by rfl, ?_⟩) hHeld ?_ ?_
      rotate_left
      ·rintro w' ⟨s0, s1, s2, s3⟩
       go_simp
       with_reducible rfl
      rotate_left
      ·exact tP
      refine take_ (i := 11) (N := some 25) (v := ?_) (a' := ?_) #[true, true, true, true, true, false, true, true, true, true, true, true, false, false] rfl rfl (take_ofW HT_.out HW_.out (by kernel_rfl)) (fun _ _ _ h => h) (Or.inl ⟨by rfl, ?_⟩) hHeld ?_ ?_
      rotate_left
      ·rintro w' ⟨s0, s1, s2, s3⟩
       go_simp
       with_reducible rfl
      rotate_left
      ·exact tP
      refine pure_ (i := 12) (N := some 26) (v := ?_) (a' := ?_) #[true, true, true, true, true, false, true, true, true, true, true, true, true, false] rfl rfl (any_of HT_.out (by kernel_rfl)) (fun _ _ _ h => h) (Or.inl ⟨by rfl, ?_⟩) ?_ ?_
      rotate_left
      ·exact tW
      rotate_left
      ·exact tP
      refine one_ (i := 5) (N := some 19) #[true, true, true, true, true, true, true, true, true, true, true, true, true, false] rfl rfl (one_of HT_.out (by kernel_rfl)) (by decide) (fun K hK => ?_)
      refine goes_ Tryz.func149 (by kernel_rfl) rfl #[.agg #[.slice A276_0 ((rd_T168 l0 x7_1).f0).length c276_0, .int .i64 ((rd_T168 l0 x7_1).f1)], .slice A1 l1.length c1] (by rfl) rfl rfl tM ?_
      with_reducible refine (rf_Total.calls k1 _ _ ((rd_T168 l0 x7_1).f0) ((rd_T168 l0 x7_1).f1) _ _ l1 t277 _ ?side1 ?side2 ?side3 ?side4 A6.out).mono ?_
      (case side1 => exact cS (Kd.C_below HR276_0.out HB.out))
      (case side2 => exact HC276_0.out)
      (case side3 => exact cS (Kd.C_below HR1.out HB.out))
      (case side4 => exact HC1.out)
      rintro e w11 ⟨rfl, hb⟩
      refine ⟨_, rfl, ?_⟩
      replace HB := Sd.mk (below_step (bBl HB.out) hb)
      (try clear hb)
      (try clear hb2)
      (try clear hk)
      (try clear hi)
      refine hK.out _ _ ⟨((HB.out.cell (World.block_lt_of_cell? w _ hw276_0)).trans hw276_0), ((HB.out.cell (World.block_lt_of_cell? w _ hw276_1)).trans hw276_1), ((HB.out.cell (World.block_lt_of_cell? w _ hw278_0)).trans hw278_0), ((HB.out.cell (World.block_lt_of_cell? w _ hw278_1)).trans hw278_1)⟩ (fun hHeld => ?_)
      clear hK K
      refine norm_ (a' := ?_) ?_ ?_
      rotate_left
      ·show Act.put _ (some 19) _ = _
       exact tP
      refine pure_ (i := 13) (N := some 27) (v := ?_) (a' := ?_) #[true, true, true, true, true, true, true, true, true, true, true, true, true, true] rfl rfl (any_of HT_.out (by kernel_rfl)) (fun _ _ _ h => h) (Or.inl ⟨by rfl, ?_⟩) ?_ ?_
      rotate_left
      ·exact tW
      rotate_left
      ·exact tP
      refine done_ (done_of HT_.out (by kernel_rfl)) ?_
      try go_wp2
      go_roundg k1
      case measure => have := HK1.out; omega
      case rel => exact ⟨(wrap64 (x7_1 + 1)), tS, H', ⟨by have := HK1.out; omega⟩, ⟨bBl HB.out⟩⟩
    ·rw [if_neg c5] at H
     exact absurd H (by simp)
   ·rw [if_neg c4] at H
    have c4b0 : decide (x7_1 < (l0.length : Int)) = false := decide_eq_false c4
    clear c4; obtain rfl := Option.some.inj H
    go_wp2
    go_ret
    exact ⟨tE, bBl HB.out⟩
end Go.Proofs.YtljfljekcpdpiaaGreat.PB

namespace Go.Proofs.YtljfljekcpdpiaaGreat.PB
open Go.RowKit Go.Proofs.YtljfljekcpdpiaaGreatW.PrintWords Go.Proofs.YtljfljekcpdpiaaGreatW.PrintLast Go.Proofs.YtljfljekcpdpiaaGreatW.PrintMore
attribute [local go_sem] max2_int min2_int max_two min_two max_three min_three max_four min_four
def rf_Passes.f (k : Nat) (l0_0 : List ByteArray) (l0_1 : List (S70)) (l0_2 : List (S27)) (l0_3 : List (S89)) (a0_4 : Int) (a0_5 : Int) (a0_6 : Int) (l1 : List Int) : Option (Bool × Int) := (rf_asked.f k l0_0 l0_1 l0_2 l0_3 a0_4 a0_5 a0_6 l1).bind fun t301 => (if t301 = 0 then ((x_AllLines.f l0_0 l0_1 l0_2 l0_3 a0_4 a0_5 a0_6).bind fun t302 => ((rf_Keeps.f k t302 l1 1).bind fun t305 => (some (t305, 0)))) else (some (false, t301)))
set_option maxHeartbeats 8000000 in
set_option maxRecDepth 100000 in
theorem rf_Passes.calls (k : Nat) (A0_0 : Option Addr) (c0_0 : Nat) (l0_0 : List ByteArray) (A0_1 : Option Addr) (c0_1 : Nat) (l0_1 : List (S70)) (A0_2 : Option Addr) (c0_2 : Nat) (l0_2 : List (S27)) (A0_3 : Option Addr) (c0_3 : Nat) (l0_3 : List (S89)) (a0_4 : Int) (a0_5 : Int) (a0_6 : Int) (A1 : Option Addr) (c1 : Nat) (l1 : List Int) (r1 : Bool) (r2 : Int) (w : World) (hr0_0 : Kd.C Kd.string w A0_0 l0_0.length l0_0) (hc0_0 : l0_0.length ≤ c0_0) (hr0_1 : Kd.C k70 w A0_1 l0_1.length l0_1) (hc0_1 : l0_1.length ≤ c0_1) (hr0_2 : Kd.C k27 w A0_2 l0_2.length l0_2) (hc0_2 : l0_2.length ≤ c0_2) (hr0_3 : Kd.C k89 w A0_3 l0_3.length l0_3) (hc0_3 : l0_3.length ≤ c0_3) (hr1 : Kd.C (Kd.int .i64) w A1 l1.length l1) (hc1 : l1.length ≤ c1) (h : rf_Passes.f k l0_0 l0_1 l0_2 l0_3 a0_4 a0_5 a0_6 l1 = some (r1, r2)) :
  Calls Tryz.prog 14 #[.agg #[.slice A0_0 l0_0.length c0_0, .slice A0_1 l0_1.length c0_1, .slice A0_2 l0_2.length c0_2, .slice A0_3 l0_3.length c0_3, .int .i64 a0_4, .int .i64 a0_5, .int .i64 a0_6], .slice A1 l1.length c1] w fun e w' => e = .returned (.tuple #[.bool r1, .int .i64 r2]) ∧ Below w.heap.size w w' := by
 have hu29 := Tryz.underlying29; have HR0_0 := Sd.mk hr0_0; have HC0_0 := Sd.mk hc0_0; clear hr0_0 hc0_0; have HR0_1 := Sd.mk hr0_1; have HC0_1 := Sd.mk hc0_1; clear hr0_1 hc0_1; have HR0_2 := Sd.mk hr0_2; have HC0_2 := Sd.mk hc0_2; clear hr0_2 hc0_2; have HR0_3 := Sd.mk hr0_3; have HC0_3 := Sd.mk hc0_3; clear hr0_3 hc0_3; have HR1 := Sd.mk hr1; have HC1 := Sd.mk hc1; clear hr1 hc1; have HB := Sd.mk (Below.refl w.heap.size w)
 have H : ((rf_asked.f k l0_0 l0_1 l0_2 l0_3 a0_4 a0_5 a0_6 l1).bind fun t301 => (if t301 = 0 then ((x_AllLines.f l0_0 l0_1 l0_2 l0_3 a0_4 a0_5 a0_6).bind fun t302 => ((rf_Keeps.f k t302 l1 1).bind fun t305 => (some (t305, 0)))) else (some (false, t301)))) = some (r1, r2) := h
 clear h; replace H := Option.bind_eq_some_iff.mp H; obtain ⟨t301, A30, H⟩ := H
 try dsimp only at H
 have A3 := Sd.mk A30; clear A30
 by_cases c4 : t301 = 0
 ·rw [if_pos c4] at H
  have c4b0 : (t301 == 0) = true := beq_iff_eq.mpr c4
  have c4b1 : (t301 != 0) = false := bne_eq_false_iff_eq.mpr c4
  clear c4; replace H := Option.bind_eq_some_iff.mp H; obtain ⟨t302, A50, H⟩ := H
  try dsimp only at H
  have A5 := Sd.mk A50; clear A50; replace H := Option.bind_eq_some_iff.mp H; obtain ⟨t305, A60, H⟩ := H
  try dsimp only at H
  have A6 := Sd.mk A60; clear A60
  simp only [Option.some.injEq, Prod.mk.injEq] at H
  obtain ⟨rfl, rfl⟩ := H
  go_enter Tryz.func14, Tryz.ntmps14
  go_wp2_with (first | ((with_reducible refine gate_dst (N := 2) rfl ?_); refine box_event ?hg (N := 2) ?hd (cs := #[.slice A0_0 l0_0.length c0_0, .slice A0_1 l0_1.length c0_1, .slice A0_2 l0_2.length c0_2, .slice A0_3 l0_3.length c0_3, .int .i64 a0_4, .int .i64 a0_5, .int .i64 a0_6]) (t := 29) ?hr ?_; (case hd => rfl); (case hg => rfl); (case hr => exact tG); intro gb300 hg w7 hbox hb; have BK300 := Sd.mk (hbox); have GW300 := Sd.mk (bSz hg (bBl HB.out)); have GE300 := Sd.mk (bSz hg (bBl HB.out)); replace HB := Sd.mk (below_step (bBl HB.out) hb); clear hb hbox hg; obtain ⟨u8_0, u8_1, u8_2, u8_3, u8_4, u8_5, u8_6, o8_0, o8_1, o8_2, o8_3, o8_4, o8_5, o8_6⟩ := bc7 (w := w7) BK300.out) | ((with_reducible refine gate_callee (f := 53) rfl ?_); refine goesL_ (some 9) rfl rfl Tryz.func53 (by kernel_rfl) rfl #[.agg #[.slice A0_0 l0_0.length c0_0, .slice A0_1 l0_1.length c0_1, .slice A0_2 l0_2.length c0_2, .slice A0_3 l0_3.length c0_3, .int .i64 a0_4, .int .i64 a0_5, .int .i64 a0_6], .slice A1 l1.length c1] rfl tM ?_; (with_reducible refine (rf_asked.calls k _ _ l0_0 _ _ l0_1 _ _ l0_2 _ _ l0_3 a0_4 a0_5 a0_6 _ _ l1 t301 _ (cS (Kd.C_below HR0_0.out HB.out)) HC0_0.out (cS (Kd.C_below HR0_1.out HB.out)) HC0_1.out (cS (Kd.C_below HR0_2.out HB.out)) HC0_2.out (cS (Kd.C_below HR0_3.out HB.out)) HC0_3.out (cS (Kd.C_below HR1.out HB.out)) HC1.out A3.out).mono ?_); rintro e w9 ⟨rfl, hb⟩; refine ⟨_, rfl, ?_⟩; replace BK300 := Sd.mk (blk_below (bkA BK300.out) hb); replace HB := Sd.mk (below_step (bBl HB.out) hb); (try clear hb); (try clear hb2); (try clear hk); (try clear hi); obtain ⟨u10_0, u10_1, u10_2, u10_3, u10_4, u10_5, u10_6, o10_0, o10_1, o10_2, o10_3, o10_4, o10_5, o10_6⟩ := bc7 (w := w9) BK300.out) | ((with_reducible refine gate_callee (f := 55) rfl ?_); refine goesL_ (some 14) rfl rfl Tryz.func55 (by kernel_rfl) rfl #[.agg #[.slice A0_0 l0_0.length c0_0, .slice A0_1 l0_1.length c0_1, .slice A0_2 l0_2.length c0_2, .slice A0_3 l0_3.length c0_3, .int .i64 a0_4, .int .i64 a0_5, .int .i64 a0_6]] rfl tM ?_; (with_reducible refine (x_AllLines.calls _ _ l0_0 _ _ l0_1 _ _ l0_2 _ _ l0_3 a0_4 a0_5 a0_6 t302 _ (cS (Kd.C_below HR0_0.out HB.out)) HC0_0.out (cS (Kd.C_below HR0_1.out HB.out)) HC0_1.out (cS (Kd.C_below HR0_2.out HB.out)) HC0_2.out (cS (Kd.C_below HR0_3.out HB.out)) HC0_3.out A5.out).mono ?_); rintro e w11 ⟨v303, rfl, ho0, hb⟩; refine ⟨_, rfl, ?_⟩; have HO304 := Sd.mk (Kd.R_lower ho0 (below_size (bBl HB.out))); replace BK300 := Sd.mk (blk_below (bkA BK300.out) hb); replace HB := Sd.mk (below_step (bBl HB.out) hb); (try clear hb); (try clear hb2); (try clear hk); (try clear hi); (try clear ho0); obtain ⟨Ao12, co12, eo12⟩ := Kd.R_slice HO304.out; subst eo12) | ((with_reducible refine gate_callee (f := 54) rfl ?_); refine goesL_ (some 16) rfl rfl Tryz.func54 (by kernel_rfl) rfl #[.slice Ao12 t302.length co12, .slice A1 l1.length c1, .int .i64 1] rfl tM ?_; (with_reducible refine (rf_Keeps.calls k _ _ t302 _ _ l1 1 t305 _ (cS ((Kd.R_reads' HO304.out).2.2)) ((Kd.R_reads' HO304.out).2.1) (cS (Kd.C_below HR1.out HB.out)) HC1.out A6.out).mono ?_); rintro e w13 ⟨rfl, hb⟩; refine ⟨_, rfl, ?_⟩; replace HO304 := Sd.mk (Kd.R_below (by (with_reducible repeat (first | apply Kd.R_alloc | apply Kd.R_drewN | apply Kd.R_drew)); exact HO304.out) hb); replace BK300 := Sd.mk (blk_below (bkA BK300.out) hb); replace HB := Sd.mk (below_step (bBl HB.out) hb); (try clear hb); (try clear hb2); (try clear hk); (try clear hi)))
  go_ret2
  exact ⟨tE, bBl HB.out⟩
 ·rw [if_neg c4] at H
  have c4b0 : (t301 == 0) = false := beq_eq_false_iff_ne.mpr c4
  have c4b1 : (t301 != 0) = true := bne_iff_ne.mpr c4
  simp only [Option.some.injEq, Prod.mk.injEq] at H
  obtain ⟨rfl, rfl⟩ := H
  go_enter Tryz.func14, Tryz.ntmps14
  go_wp2_with (first | ((with_reducible refine gate_dst (N := 2) rfl ?_); refine box_event ?hg (N := 2) ?hd (cs := #[.slice A0_0 l0_0.length c0_0, .slice A0_1 l0_1.length c0_1, .slice A0_2 l0_2.length c0_2, .slice A0_3 l0_3.length c0_3, .int .i64 a0_4, .int .i64 a0_5, .int .i64 a0_6]) (t := 29) ?hr ?_; (case hd => rfl); (case hg => rfl); (case hr => exact tG); intro gb300 hg w14 hbox hb; have BK300 := Sd.mk (hbox); have GW300 := Sd.mk (bSz hg (bBl HB.out)); have GE300 := Sd.mk (bSz hg (bBl HB.out)); replace HB := Sd.mk (below_step (bBl HB.out) hb); clear hb hbox hg; obtain ⟨u15_0, u15_1, u15_2, u15_3, u15_4, u15_5, u15_6, o15_0, o15_1, o15_2, o15_3, o15_4, o15_5, o15_6⟩ := bc7 (w := w14) BK300.out) | ((with_reducible refine gate_callee (f := 53) rfl ?_); refine goesL_ (some 9) rfl rfl Tryz.func53 (by kernel_rfl) rfl #[.agg #[.slice A0_0 l0_0.length c0_0, .slice A0_1 l0_1.length c0_1, .slice A0_2 l0_2.length c0_2, .slice A0_3 l0_3.length c0_3, .int .i64 a0_4, .int .i64 a0_5, .int .i64 a0_6], .slice A1 l1.length c1] rfl tM ?_; (with_reducible refine (rf_asked.calls k _ _ l0_0 _ _ l0_1 _ _ l0_2 _ _ l0_3 a0_4 a0_5 a0_6 _ _ l1 t301 _ (cS (Kd.C_below HR0_0.out HB.out)) HC0_0.out (cS (Kd.C_below HR0_1.out HB.out)) HC0_1.out (cS (Kd.C_below HR0_2.out HB.out)) HC0_2.out (cS (Kd.C_below HR0_3.out HB.out)) HC0_3.out (cS (Kd.C_below HR1.out HB.out)) HC1.out A3.out).mono ?_); rintro e w16 ⟨rfl, hb⟩; refine ⟨_, rfl, ?_⟩; replace BK300 := Sd.mk (blk_below (bkA BK300.out) hb); replace HB := Sd.mk (below_step (bBl HB.out) hb); (try clear hb); (try clear hb2); (try clear hk); (try clear hi)))
  go_ret2
  exact ⟨tE, bBl HB.out⟩
end Go.Proofs.YtljfljekcpdpiaaGreat.PB

namespace Go.Proofs.YtljfljekcpdpiaaGreat.PB
open Go.RowKit Go.Proofs.YtljfljekcpdpiaaGreatW.PrintWords Go.Proofs.YtljfljekcpdpiaaGreatW.PrintLast Go.Proofs.YtljfljekcpdpiaaGreatW.PrintMore
attribute [local go_sem] max2_int min2_int max_two min_two max_three min_three max_four min_four
def rf_allowed.f (a0_0 : ByteArray) (a0_1 : Int) (a0_2 : Int) (a0_3 : Int) (a0_4 : Int) (a0_5 : Int) (l0_6 : List (S27)) (a1 : Int) : Option (Bool) := if a1 ≥ a0_3 then (if a1 ≤ a0_4 then (if a0_5 = 0 then (none) else (some ((Int.tmod (wrap64 (a1 - a0_3)) a0_5) == 0))) else (some false)) else (some false)
set_option maxHeartbeats 8000000 in
set_option maxRecDepth 100000 in
theorem rf_allowed.calls (a0_0 : ByteArray) (a0_1 : Int) (a0_2 : Int) (a0_3 : Int) (a0_4 : Int) (a0_5 : Int) (A0_6 : Option Addr) (c0_6 : Nat) (l0_6 : List (S27)) (a1 : Int) (r : Bool) (w : World) (hr0_6 : Kd.C k27 w A0_6 l0_6.length l0_6) (hc0_6 : l0_6.length ≤ c0_6) (h : rf_allowed.f a0_0 a0_1 a0_2 a0_3 a0_4 a0_5 l0_6 a1 = some r) :
  Calls Tryz.prog 57 #[.agg #[.string a0_0, .int .i64 a0_1, .int .i64 a0_2, .int .i64 a0_3, .int .i64 a0_4, .int .i64 a0_5, .slice A0_6 l0_6.length c0_6], .int .i64 a1] w fun e w' => e = .returned (.bool r) ∧ Below w.heap.size w w' := by
 have hu70 := Tryz.underlying70; have HR0_6 := Sd.mk hr0_6; have HC0_6 := Sd.mk hc0_6; clear hr0_6 hc0_6; have HB := Sd.mk (Below.refl w.heap.size w)
 have H : (if a1 ≥ a0_3 then (if a1 ≤ a0_4 then (if a0_5 = 0 then (none) else (some ((Int.tmod (wrap64 (a1 - a0_3)) a0_5) == 0))) else (some false)) else (some false)) = some r := h
 clear h
 by_cases c3 : a1 ≥ a0_3
 ·rw [if_pos c3] at H
  have c3b0 : decide (a0_3 ≤ a1) = true := decide_eq_true c3
  clear c3
  by_cases c4 : a1 ≤ a0_4
  ·rw [if_pos c4] at H
   have c4b0 : decide (a1 ≤ a0_4) = true := decide_eq_true c4
   clear c4
   by_cases c5 : a0_5 = 0
   ·rw [if_pos c5] at H
    exact absurd H (by simp)
   ·rw [if_neg c5] at H
    have c5b0 : (a0_5 == 0) = false := beq_eq_false_iff_ne.mpr c5
    have c5b1 : (a0_5 != 0) = true := bne_iff_ne.mpr c5
    obtain rfl := Option.some.inj H
    go_enter Tryz.func57, Tryz.ntmps57
    go_wp2_with (first | ((with_reducible refine gate_dst (N := 2) rfl ?_); refine box_event ?hg (N := 2) ?hd (cs := #[.string a0_0, .int .i64 a0_1, .int .i64 a0_2, .int .i64 a0_3, .int .i64 a0_4, .int .i64 a0_5, .slice A0_6 l0_6.length c0_6]) (t := 70) ?hr ?_; (case hd => rfl); (case hg => rfl); (case hr => exact tG); intro gb306 hg w6 hbox hb; have BK306 := Sd.mk (hbox); have GW306 := Sd.mk (bSz hg (bBl HB.out)); have GE306 := Sd.mk (bSz hg (bBl HB.out)); replace HB := Sd.mk (below_step (bBl HB.out) hb); clear hb hbox hg; obtain ⟨u7_0, u7_1, u7_2, u7_3, u7_4, u7_5, u7_6, o7_0, o7_1, o7_2, o7_3, o7_4, o7_5, o7_6⟩ := bc7 (w := w6) BK306.out))
    go_ret
    exact ⟨tE, bBl HB.out⟩
  ·rw [if_neg c4] at H
   have c4b0 : decide (a1 ≤ a0_4) = false := decide_eq_false c4
   clear c4; obtain rfl := Option.some.inj H
   go_enter Tryz.func57, Tryz.ntmps57
   go_wp2_with (first | ((with_reducible refine gate_dst (N := 2) rfl ?_); refine box_event ?hg (N := 2) ?hd (cs := #[.string a0_0, .int .i64 a0_1, .int .i64 a0_2, .int .i64 a0_3, .int .i64 a0_4, .int .i64 a0_5, .slice A0_6 l0_6.length c0_6]) (t := 70) ?hr ?_; (case hd => rfl); (case hg => rfl); (case hr => exact tG); intro gb306 hg w8 hbox hb; have BK306 := Sd.mk (hbox); have GW306 := Sd.mk (bSz hg (bBl HB.out)); have GE306 := Sd.mk (bSz hg (bBl HB.out)); replace HB := Sd.mk (below_step (bBl HB.out) hb); clear hb hbox hg; obtain ⟨u9_0, u9_1, u9_2, u9_3, u9_4, u9_5, u9_6, o9_0, o9_1, o9_2, o9_3, o9_4, o9_5, o9_6⟩ := bc7 (w := w8) BK306.out))
   go_ret
   exact ⟨tE, bBl HB.out⟩
 ·rw [if_neg c3] at H
  have c3b0 : decide (a0_3 ≤ a1) = false := decide_eq_false c3
  clear c3; obtain rfl := Option.some.inj H
  go_enter Tryz.func57, Tryz.ntmps57
  go_wp2_with (first | ((with_reducible refine gate_dst (N := 2) rfl ?_); refine box_event ?hg (N := 2) ?hd (cs := #[.string a0_0, .int .i64 a0_1, .int .i64 a0_2, .int .i64 a0_3, .int .i64 a0_4, .int .i64 a0_5, .slice A0_6 l0_6.length c0_6]) (t := 70) ?hr ?_; (case hd => rfl); (case hg => rfl); (case hr => exact tG); intro gb306 hg w10 hbox hb; have BK306 := Sd.mk (hbox); have GW306 := Sd.mk (bSz hg (bBl HB.out)); have GE306 := Sd.mk (bSz hg (bBl HB.out)); replace HB := Sd.mk (below_step (bBl HB.out) hb); clear hb hbox hg; obtain ⟨u11_0, u11_1, u11_2, u11_3, u11_4, u11_5, u11_6, o11_0, o11_1, o11_2, o11_3, o11_4, o11_5, o11_6⟩ := bc7 (w := w10) BK306.out))
  go_ret
  exact ⟨tE, bBl HB.out⟩
end Go.Proofs.YtljfljekcpdpiaaGreat.PB

namespace Go.Proofs.YtljfljekcpdpiaaGreat.PB
open Go.RowKit Go.Proofs.YtljfljekcpdpiaaGreatW.PrintWords Go.Proofs.YtljfljekcpdpiaaGreatW.PrintLast Go.Proofs.YtljfljekcpdpiaaGreatW.PrintMore
attribute [local go_sem] max2_int min2_int max_two min_two max_three min_three max_four min_four
def rf_Allowed.l0 : Nat → List Int → Int → List ByteArray → List (S70) → List (S27) → List (S89) → Int → Int → Int → Option (Bool × Int)
 | 0, _, _, _, _, _, _, _, _, _ => none
 | k + 1, x1, x7, x308q0, x308q1, x308q2, x308q3, x308q4, x308q5, x308q6 => if x7 < (x1.length : Int) then (if 0 ≤ x7 then (if x7 < (x308q1.length : Int) then ((rf_allowed.f ((rd_T70 x308q1 x7).f0) ((rd_T70 x308q1 x7).f1) ((rd_T70 x308q1 x7).f2) ((rd_T70 x308q1 x7).f3) ((rd_T70 x308q1 x7).f4) ((rd_T70 x308q1 x7).f5) ((rd_T70 x308q1 x7).f6) (rd x1 x7)).bind fun t311 => (if t311 = true then (rf_Allowed.l0 k x1 (wrap64 (x7 + 1)) x308q0 x308q1 x308q2 x308q3 x308q4 x308q5 x308q6) else (some (false, 0)))) else (none)) else (none)) else (some (true, 0))
def rf_Allowed.f (k : Nat) (l0_0 : List ByteArray) (l0_1 : List (S70)) (l0_2 : List (S27)) (l0_3 : List (S89)) (a0_4 : Int) (a0_5 : Int) (a0_6 : Int) (l1 : List Int) : Option (Bool × Int) := (rf_asked.f k l0_0 l0_1 l0_2 l0_3 a0_4 a0_5 a0_6 l1).bind fun t308 => (if t308 = 0 then (rf_Allowed.l0 k l1 0 l0_0 l0_1 l0_2 l0_3 a0_4 a0_5 a0_6) else (some (false, t308)))
def rf_Allowed.T7 : Bool × List (List Nat × List Nat) := (true, [([], []), ([0], [0]), ([], []), ([1, 2], [1, 2]), ([3], [3]), ([], []), ([], []), ([5, 6], [5, 6]), ([7], [7]), ([4, 8], [4, 8]), ([9], [9])])
def rf_Allowed.B7 : List Nat := [0, 1, 0, 7, 15, 0, 0, 96, 224, 511, 1023]
theorem rf_Allowed.tab7 : rtab .any (opsOf Tryz.f16 7) = rf_Allowed.T7 := by kernel_rfl
theorem rf_Allowed.bits7 : waitsOk rf_Allowed.T7.2 rf_Allowed.B7 = true := by kernel_rfl
set_option maxHeartbeats 8000000 in
set_option maxRecDepth 100000 in
theorem rf_Allowed.calls (k : Nat) (A0_0 : Option Addr) (c0_0 : Nat) (l0_0 : List ByteArray) (A0_1 : Option Addr) (c0_1 : Nat) (l0_1 : List (S70)) (A0_2 : Option Addr) (c0_2 : Nat) (l0_2 : List (S27)) (A0_3 : Option Addr) (c0_3 : Nat) (l0_3 : List (S89)) (a0_4 : Int) (a0_5 : Int) (a0_6 : Int) (A1 : Option Addr) (c1 : Nat) (l1 : List Int) (r1 : Bool) (r2 : Int) (w : World) (hr0_0 : Kd.C Kd.string w A0_0 l0_0.length l0_0) (hc0_0 : l0_0.length ≤ c0_0) (hr0_1 : Kd.C k70 w A0_1 l0_1.length l0_1) (hc0_1 : l0_1.length ≤ c0_1) (hr0_2 : Kd.C k27 w A0_2 l0_2.length l0_2) (hc0_2 : l0_2.length ≤ c0_2) (hr0_3 : Kd.C k89 w A0_3 l0_3.length l0_3) (hc0_3 : l0_3.length ≤ c0_3) (hr1 : Kd.C (Kd.int .i64) w A1 l1.length l1) (hc1 : l1.length ≤ c1) (h : rf_Allowed.f k l0_0 l0_1 l0_2 l0_3 a0_4 a0_5 a0_6 l1 = some (r1, r2)) :
  Calls Tryz.prog 16 #[.agg #[.slice A0_0 l0_0.length c0_0, .slice A0_1 l0_1.length c0_1, .slice A0_2 l0_2.length c0_2, .slice A0_3 l0_3.length c0_3, .int .i64 a0_4, .int .i64 a0_5, .int .i64 a0_6], .slice A1 l1.length c1] w fun e w' => e = .returned (.tuple #[.bool r1, .int .i64 r2]) ∧ Below w.heap.size w w' := by
 have hu29 := Tryz.underlying29; have hu70 := Tryz.underlying70; have HR0_0 := Sd.mk hr0_0; have HC0_0 := Sd.mk hc0_0; clear hr0_0 hc0_0; have HR0_1 := Sd.mk hr0_1; have HC0_1 := Sd.mk hc0_1; clear hr0_1 hc0_1; have HR0_2 := Sd.mk hr0_2; have HC0_2 := Sd.mk hc0_2; clear hr0_2 hc0_2; have HR0_3 := Sd.mk hr0_3; have HC0_3 := Sd.mk hc0_3; clear hr0_3 hc0_3; have HR1 := Sd.mk hr1; have HC1 := Sd.mk hc1; clear hr1 hc1; have HB := Sd.mk (Below.refl w.heap.size w)
 have H : ((rf_asked.f k l0_0 l0_1 l0_2 l0_3 a0_4 a0_5 a0_6 l1).bind fun t308 => (if t308 = 0 then (rf_Allowed.l0 k l1 0 l0_0 l0_1 l0_2 l0_3 a0_4 a0_5 a0_6) else (some (false, t308)))) = some (r1, r2) := h
 clear h; replace H := Option.bind_eq_some_iff.mp H; obtain ⟨t308, A30, H⟩ := H
 try dsimp only at H
 have A3 := Sd.mk A30; clear A30
 by_cases c4 : t308 = 0
 ·rw [if_pos c4] at H
  have c4b0 : (t308 == 0) = true := beq_iff_eq.mpr c4
  have c4b1 : (t308 != 0) = false := bne_eq_false_iff_eq.mpr c4
  clear c4; have H' := Sd.mk H; clear H
  go_enter Tryz.func16, Tryz.ntmps16
  go_wp2_with (first | ((with_reducible refine gate_dst (N := 2) rfl ?_); refine box_event ?hg (N := 2) ?hd (cs := #[.slice A0_0 l0_0.length c0_0, .slice A0_1 l0_1.length c0_1, .slice A0_2 l0_2.length c0_2, .slice A0_3 l0_3.length c0_3, .int .i64 a0_4, .int .i64 a0_5, .int .i64 a0_6]) (t := 29) ?hr ?_; (case hd => rfl); (case hg => rfl); (case hr => exact tG); intro gb307 hg w5 hbox hb; have BK307 := Sd.mk (hbox); have GW307 := Sd.mk (bSz hg (bBl HB.out)); have GE307 := Sd.mk (bSz hg (bBl HB.out)); replace HB := Sd.mk (below_step (bBl HB.out) hb); clear hb hbox hg; obtain ⟨u6_0, u6_1, u6_2, u6_3, u6_4, u6_5, u6_6, o6_0, o6_1, o6_2, o6_3, o6_4, o6_5, o6_6⟩ := bc7 (w := w5) BK307.out) | ((with_reducible refine gate_callee (f := 53) rfl ?_); refine goesL_ (some 10) rfl rfl Tryz.func53 (by kernel_rfl) rfl #[.agg #[.slice A0_0 l0_0.length c0_0, .slice A0_1 l0_1.length c0_1, .slice A0_2 l0_2.length c0_2, .slice A0_3 l0_3.length c0_3, .int .i64 a0_4, .int .i64 a0_5, .int .i64 a0_6], .slice A1 l1.length c1] rfl tM ?_; (with_reducible refine (rf_asked.calls k _ _ l0_0 _ _ l0_1 _ _ l0_2 _ _ l0_3 a0_4 a0_5 a0_6 _ _ l1 t308 _ (cS (Kd.C_below HR0_0.out HB.out)) HC0_0.out (cS (Kd.C_below HR0_1.out HB.out)) HC0_1.out (cS (Kd.C_below HR0_2.out HB.out)) HC0_2.out (cS (Kd.C_below HR0_3.out HB.out)) HC0_3.out (cS (Kd.C_below HR1.out HB.out)) HC1.out A3.out).mono ?_); rintro e w7 ⟨rfl, hb⟩; refine ⟨_, rfl, ?_⟩; replace BK307 := Sd.mk (blk_below (bkA BK307.out) hb); replace HB := Sd.mk (below_step (bBl HB.out) hb); (try clear hb); (try clear hb2); (try clear hk); (try clear hi)))
  go_loopg [7] k (fun kq v7 w' => ∃ (x7_1 : Int), v7 = .int .i64 x7_1 ∧ Sd (rf_Allowed.l0 kq l1 x7_1 l0_0 l0_1 l0_2 l0_3 a0_4 a0_5 a0_6 = some (r1, r2)) ∧ Sd (kq ≤ k) ∧ Sd (w'.heap[gb307]? = some (.cells #[(.slice A0_0 l0_0.length c0_0), (.slice A0_1 l0_1.length c0_1), (.slice A0_2 l0_2.length c0_2), (.slice A0_3 l0_3.length c0_3), .int .i64 a0_4, .int .i64 a0_5, .int .i64 a0_6] 29 (0, 0))) ∧ Sd (Below w.heap.size w w'))
  case atStart => exact ⟨(0), tS, H', ⟨Nat.le_refl _⟩, ⟨bkA BK307.out⟩, ⟨bBl HB.out⟩⟩
  case round =>
   clear H'; (try clear c1); (try clear p2); (try clear c4); (try clear c4b0); (try clear c4b1); (try clear c5); (try clear u6_0 u6_1 u6_2 u6_3 u6_4 u6_5 u6_6); (try clear o6_0 o6_1 o6_2 o6_3 o6_4 o6_5 o6_6); obtain ⟨x7_1, rfl, HA, HK1, BK307, HB⟩ := hrel
   cases gk with
   | zero => exact absurd HA.out (by simp [rf_Allowed.l0])
   | succ k1 =>
    have H := HA.out; clear HA
    simp only [rf_Allowed.l0] at H
    by_cases c8 : x7_1 < (l1.length : Int)
    ·rw [if_pos c8] at H
     have c8b0 : decide (x7_1 < (l1.length : Int)) = true := decide_eq_true c8
     clear c8
     by_cases c9 : 0 ≤ x7_1
     ·rw [if_pos c9] at H
      have c9b0 : decide (0 ≤ x7_1) = true := decide_eq_true c9
      clear c9
      by_cases c10 : x7_1 < (l0_1.length : Int)
      ·rw [if_pos c10] at H
       have c10b0 : decide (x7_1 < (l0_1.length : Int)) = true := decide_eq_true c10
       clear c10; replace H := Option.bind_eq_some_iff.mp H; obtain ⟨t311, A110, H⟩ := H
       try dsimp only at H
       have A11 := Sd.mk A110; clear A110
       by_cases c12 : t311 = true
       ·subst c12
        have H1 : (rf_Allowed.l0 k1 l1 (wrap64 (x7_1 + 1)) l0_0 l0_1 l0_2 l0_3 a0_4 a0_5 a0_6) = some (r1, r2) := by rw [if_pos rfl] at H; exact H
        clear H; have H := H1; clear H1; have H' := Sd.mk H; clear H
        try go_wp2
        replace BK307 := Sd.mk (blk_drew BK307.out); replace HB := Sd.mk (below_drew1 HB.out)
        have p309 : 0 ≤ (x7_1 : Int) := tB
        have q309 : x7_1 < (l0_1.length : Int) := tB
        obtain ⟨ad309, A309_6, c309_6, e309, hx309_0, hx309_1, hx309_2, hx309_3, hx309_4, hx309_5, hx309_6, hl309_6, hi309_6⟩ := at_T70 HR0_1.out x7_1 p309 q309; have hw309_6 := hx309_6; have hw309_5 := hx309_5; have hw309_4 := hx309_4; have hw309_3 := hx309_3; have hw309_2 := hx309_2; have hw309_1 := hx309_1; have hw309_0 := hx309_0; cases e309; replace hx309_0 := cU HB hx309_0; replace hx309_1 := cU HB hx309_1; replace hx309_2 := cU HB hx309_2; replace hx309_3 := cU HB hx309_3; replace hx309_4 := cU HB hx309_4; replace hx309_5 := cU HB hx309_5; replace hx309_6 := cU HB hx309_6; have HR309_6 := Sd.mk hi309_6; have HC309_6 := Sd.mk hl309_6; clear hi309_6 hl309_6; replace p309 := eq_true p309; replace q309 := eq_true q309
        have p310 : 0 ≤ (x7_1 : Int) := tB
        have q310 : x7_1 < (l1.length : Int) := tB
        obtain ⟨ad310, e310, hx310_0⟩ := Kd.at_int HR1.out x7_1 p310 q310; have hw310_0 := hx310_0; cases e310; replace hx310_0 := cU HB hx310_0; replace p310 := eq_true p310; replace q310 := eq_true q310
        refine start_ (n := 11) (S := fun w' => w'.cell? ⟨gb307, 0, none⟩ = some (.slice A0_0 l0_0.length c0_0) ∧ w'.cell? ⟨gb307, 1, none⟩ = some (.slice (some ad309) l0_1.length c0_1) ∧ w'.cell? ⟨gb307, 2, none⟩ = some (.slice A0_2 l0_2.length c0_2) ∧ w'.cell? ⟨gb307, 3, none⟩ = some (.slice A0_3 l0_3.length c0_3) ∧ w'.cell? ⟨gb307, 4, none⟩ = some (.int .i64 a0_4) ∧ w'.cell? ⟨gb307, 5, none⟩ = some (.int .i64 a0_5) ∧ w'.cell? ⟨gb307, 6, none⟩ = some (.int .i64 a0_6) ∧ w'.cell? (ad309.add ((x7_1).toNat * 7)) = some (.string ((rd_T70 l0_1 x7_1).f0)) ∧ w'.cell? ⟨(ad309.add ((x7_1).toNat * 7)).block, (ad309.add ((x7_1).toNat * 7)).off + 1, none⟩ = some (.int .i64 ((rd_T70 l0_1 x7_1).f1)) ∧ w'.cell? ⟨(ad309.add ((x7_1).toNat * 7)).block, (ad309.add ((x7_1).toNat * 7)).off + 2, none⟩ = some (.int .i64 ((rd_T70 l0_1 x7_1).f2)) ∧ w'.cell? ⟨(ad309.add ((x7_1).toNat * 7)).block, (ad309.add ((x7_1).toNat * 7)).off + 3, none⟩ = some (.int .i64 ((rd_T70 l0_1 x7_1).f3)) ∧ w'.cell? ⟨(ad309.add ((x7_1).toNat * 7)).block, (ad309.add ((x7_1).toNat * 7)).off + 4, none⟩ = some (.int .i64 ((rd_T70 l0_1 x7_1).f4)) ∧ w'.cell? ⟨(ad309.add ((x7_1).toNat * 7)).block, (ad309.add ((x7_1).toNat * 7)).off + 5, none⟩ = some (.int .i64 ((rd_T70 l0_1 x7_1).f5)) ∧ w'.cell? ⟨(ad309.add ((x7_1).toNat * 7)).block, (ad309.add ((x7_1).toNat * 7)).off + 6, none⟩ = some (.slice A309_6 ((rd_T70 l0_1 x7_1).f6).length c309_6) ∧ w'.cell? (ad310.add (x7_1).toNat) = some (.int .i64 (rd l1 x7_1))) (ds := []) #[false, false, false, false, false, false, false, false, false, false, false] (by kernel_rfl) rfl rfl ⟨(blk_cell BK307.out 0).trans rfl, (blk_cell BK307.out 1).trans rfl, (blk_cell BK307.out 2).trans rfl, (blk_cell BK307.out 3).trans rfl, (blk_cell BK307.out 4).trans rfl, (blk_cell BK307.out 5).trans rfl, (blk_cell BK307.out 6).trans rfl, ((HB.out.cell (World.block_lt_of_cell? w _ hw309_0)).trans hw309_0), ((HB.out.cell (World.block_lt_of_cell? w _ hw309_1)).trans hw309_1), ((HB.out.cell (World.block_lt_of_cell? w _ hw309_2)).trans hw309_2), ((HB.out.cell (World.block_lt_of_cell? w _ hw309_3)).trans hw309_3), ((HB.out.cell (World.block_lt_of_cell? w _ hw309_4)).trans hw309_4), ((HB.out.cell (World.block_lt_of_cell? w _ hw309_5)).trans hw309_5), ((HB.out.cell (World.block_lt_of_cell? w _ hw309_6)).trans hw309_6), ((HB.out.cell (World.block_lt_of_cell? w _ hw310_0)).trans hw310_0)⟩ (fun hHeld => ?_); refine with_tabW rf_Allowed.tab7 rf_Allowed.bits7 (fun HT_ HW_ => ?_)
        generalize wr.drew = w13 at BK307 HB HR309_6 hx309_0 hx309_1 hx309_2 hx309_3 hx309_4 hx309_5 hx309_6 hx310_0 hHeld ⊢
        refine pure_ (i := 0) (N := some 20) (v := ?_) (a' := ?_) #[true, false, false, false, false, false, false, false, false, false, false] rfl rfl (any_of HT_.out (by kernel_rfl)) (fun _ _ _ h => h) (Or.inl ⟨by rfl, ?_⟩) ?_ ?_
        rotate_left
        ·exact tW
        rotate_left
        ·exact tP
        refine pure_ (i := 2) (N := some 22) (v := ?_) (a' := ?_) #[true, false, true, false, false, false, false, false, false, false, false] rfl rfl (any_of HT_.out (by kernel_rfl)) (fun _ _ _ h => h) (Or.inl ⟨by rfl, ?_⟩) ?_ ?_
        rotate_left
        ·exact tW
        rotate_left
        ·exact tP
        refine pure_ (i := 5) (N := some 25) (v := ?_) (a' := ?_) #[true, false, true, false, false, true, false, false, false, false, false] rfl rfl (any_of HT_.out (by kernel_rfl)) (fun _ _ _ h => h) (Or.inl ⟨by rfl, ?_⟩) ?_ ?_
        rotate_left
        ·exact tW
        rotate_left
        ·exact tP
        refine pure_ (i := 6) (N := some 26) (v := ?_) (a' := ?_) #[true, false, true, false, false, true, true, false, false, false, false] rfl rfl (any_of HT_.out (by kernel_rfl)) (fun _ _ _ h => h) (Or.inl ⟨by rfl, ?_⟩) ?_ ?_
        rotate_left
        ·exact tW
        rotate_left
        ·exact tP
        refine pure_ (i := 7) (N := some 27) (v := ?_) (a' := ?_) #[true, false, true, false, false, true, true, true, false, false, false] rfl rfl (any_of HT_.out (by kernel_rfl)) (fun _ _ _ h => h) (Or.inl ⟨by rfl, ?_⟩) ?_ ?_
        rotate_left
        ·exact tW
        rotate_left
        ·exact tP
        refine take_ (i := 1) (N := some 21) (v := ?_) (a' := ?_) #[true, true, true, false, false, true, true, true, false, false, false] rfl rfl (take_ofW HT_.out HW_.out (by kernel_rfl)) (fun _ _ _ h => h) (Or.inl ⟨by rfl, ?_⟩) hHeld ?_ ?_
        rotate_left
        ·rintro w' ⟨s0, s1, s2, s3, s4, s5, s6, s7, s8, s9, s10, s11, s12, s13, s14⟩
         go_simp
         with_reducible rfl
        rotate_left
        ·exact tP
        refine pure_ (i := 3) (N := some 23) (v := ?_) (a' := ?_) #[true, true, true, true, false, true, true, true, false, false, false] rfl rfl (any_of HT_.out (by kernel_rfl)) (fun _ _ _ h => h) (Or.inl ⟨by rfl, ?_⟩) ?_ ?_
        rotate_left
        ·exact tW
        rotate_left
        ·exact tP
        refine take_ (i := 4) (N := some 24) (v := ?_) (a' := ?_) #[true, true, true, true, true, true, true, true, false, false, false] rfl rfl (take_ofW HT_.out HW_.out (by kernel_rfl)) (fun _ _ _ h => h) (Or.inl ⟨by rfl, ?_⟩) hHeld ?_ ?_
        rotate_left
        ·rintro w' ⟨s0, s1, s2, s3, s4, s5, s6, s7, s8, s9, s10, s11, s12, s13, s14⟩
         go_simp
         with_reducible rfl
        rotate_left
        ·exact tP
        refine take_ (i := 8) (N := some 28) (v := ?_) (a' := ?_) #[true, true, true, true, true, true, true, true, true, false, false] rfl rfl (take_ofW HT_.out HW_.out (by kernel_rfl)) (fun _ _ _ h => h) (Or.inl ⟨by rfl, ?_⟩) hHeld ?_ ?_
        rotate_left
        ·rintro w' ⟨s0, s1, s2, s3, s4, s5, s6, s7, s8, s9, s10, s11, s12, s13, s14⟩
         go_simp
         with_reducible rfl
        rotate_left
        ·exact tP
        refine one_ (i := 9) (N := some 29) #[true, true, true, true, true, true, true, true, true, true, false] rfl rfl (one_of HT_.out (by kernel_rfl)) (by decide) (fun K hK => ?_)
        refine goes_ Tryz.func57 (by kernel_rfl) rfl #[.agg #[.string ((rd_T70 l0_1 x7_1).f0), .int .i64 ((rd_T70 l0_1 x7_1).f1), .int .i64 ((rd_T70 l0_1 x7_1).f2), .int .i64 ((rd_T70 l0_1 x7_1).f3), .int .i64 ((rd_T70 l0_1 x7_1).f4), .int .i64 ((rd_T70 l0_1 x7_1).f5), .slice A309_6 ((rd_T70 l0_1 x7_1).f6).length c309_6], .int .i64 (rd l1 x7_1)] (by rfl) rfl rfl tM ?_
        with_reducible refine (rf_allowed.calls ((rd_T70 l0_1 x7_1).f0) ((rd_T70 l0_1 x7_1).f1) ((rd_T70 l0_1 x7_1).f2) ((rd_T70 l0_1 x7_1).f3) ((rd_T70 l0_1 x7_1).f4) ((rd_T70 l0_1 x7_1).f5) _ _ ((rd_T70 l0_1 x7_1).f6) (rd l1 x7_1) true _ ?side1 ?side2 A11.out).mono ?_
        (case side1 => exact cS (Kd.C_below HR309_6.out HB.out))
        (case side2 => exact HC309_6.out)
        rintro e w14 ⟨rfl, hb⟩
        refine ⟨_, rfl, ?_⟩
        replace BK307 := Sd.mk (blk_below (bkA BK307.out) hb); replace HB := Sd.mk (below_step (bBl HB.out) hb)
        (try clear hb)
        (try clear hb2)
        (try clear hk)
        (try clear hi)
        refine hK.out _ _ ⟨(blk_cell BK307.out 0).trans rfl, (blk_cell BK307.out 1).trans rfl, (blk_cell BK307.out 2).trans rfl, (blk_cell BK307.out 3).trans rfl, (blk_cell BK307.out 4).trans rfl, (blk_cell BK307.out 5).trans rfl, (blk_cell BK307.out 6).trans rfl, ((HB.out.cell (World.block_lt_of_cell? w _ hw309_0)).trans hw309_0), ((HB.out.cell (World.block_lt_of_cell? w _ hw309_1)).trans hw309_1), ((HB.out.cell (World.block_lt_of_cell? w _ hw309_2)).trans hw309_2), ((HB.out.cell (World.block_lt_of_cell? w _ hw309_3)).trans hw309_3), ((HB.out.cell (World.block_lt_of_cell? w _ hw309_4)).trans hw309_4), ((HB.out.cell (World.block_lt_of_cell? w _ hw309_5)).trans hw309_5), ((HB.out.cell (World.block_lt_of_cell? w _ hw309_6)).trans hw309_6), ((HB.out.cell (World.block_lt_of_cell? w _ hw310_0)).trans hw310_0)⟩ (fun hHeld => ?_)
        clear hK K
        refine norm_ (a' := ?_) ?_ ?_
        rotate_left
        ·show Act.put _ (some 29) _ = _
         exact tP
        refine pure_ (i := 10) (N := some 30) (v := ?_) (a' := ?_) #[true, true, true, true, true, true, true, true, true, true, true] rfl rfl (any_of HT_.out (by kernel_rfl)) (fun _ _ _ h => h) (Or.inl ⟨by rfl, ?_⟩) ?_ ?_
        rotate_left
        ·exact tW
        rotate_left
        ·exact tP
        refine done_ (done_of HT_.out (by kernel_rfl)) ?_
        try go_wp2
        go_roundg k1
        case measure => have := HK1.out; omega
        case rel => exact ⟨(wrap64 (x7_1 + 1)), tS, H', ⟨by have := HK1.out; omega⟩, ⟨bkA BK307.out⟩, ⟨bBl HB.out⟩⟩
       ·replace c12 := Bool.eq_false_iff.mpr c12
        subst c12
        have H1 : (some (false, 0)) = some (r1, r2) := by rw [if_neg (show ¬ (false = true) by decide)] at H; exact H
        clear H; have H := H1; clear H1
        simp only [Option.some.injEq, Prod.mk.injEq] at H
        obtain ⟨rfl, rfl⟩ := H
        try go_wp2
        replace BK307 := Sd.mk (blk_drew BK307.out); replace HB := Sd.mk (below_drew1 HB.out)
        have p309 : 0 ≤ (x7_1 : Int) := tB
        have q309 : x7_1 < (l0_1.length : Int) := tB
        obtain ⟨ad309, A309_6, c309_6, e309, hx309_0, hx309_1, hx309_2, hx309_3, hx309_4, hx309_5, hx309_6, hl309_6, hi309_6⟩ := at_T70 HR0_1.out x7_1 p309 q309; have hw309_6 := hx309_6; have hw309_5 := hx309_5; have hw309_4 := hx309_4; have hw309_3 := hx309_3; have hw309_2 := hx309_2; have hw309_1 := hx309_1; have hw309_0 := hx309_0; cases e309; replace hx309_0 := cU HB hx309_0; replace hx309_1 := cU HB hx309_1; replace hx309_2 := cU HB hx309_2; replace hx309_3 := cU HB hx309_3; replace hx309_4 := cU HB hx309_4; replace hx309_5 := cU HB hx309_5; replace hx309_6 := cU HB hx309_6; have HR309_6 := Sd.mk hi309_6; have HC309_6 := Sd.mk hl309_6; clear hi309_6 hl309_6; replace p309 := eq_true p309; replace q309 := eq_true q309
        have p310 : 0 ≤ (x7_1 : Int) := tB
        have q310 : x7_1 < (l1.length : Int) := tB
        obtain ⟨ad310, e310, hx310_0⟩ := Kd.at_int HR1.out x7_1 p310 q310; have hw310_0 := hx310_0; cases e310; replace hx310_0 := cU HB hx310_0; replace p310 := eq_true p310; replace q310 := eq_true q310
        refine start_ (n := 11) (S := fun w' => w'.cell? ⟨gb307, 0, none⟩ = some (.slice A0_0 l0_0.length c0_0) ∧ w'.cell? ⟨gb307, 1, none⟩ = some (.slice (some ad309) l0_1.length c0_1) ∧ w'.cell? ⟨gb307, 2, none⟩ = some (.slice A0_2 l0_2.length c0_2) ∧ w'.cell? ⟨gb307, 3, none⟩ = some (.slice A0_3 l0_3.length c0_3) ∧ w'.cell? ⟨gb307, 4, none⟩ = some (.int .i64 a0_4) ∧ w'.cell? ⟨gb307, 5, none⟩ = some (.int .i64 a0_5) ∧ w'.cell? ⟨gb307, 6, none⟩ = some (.int .i64 a0_6) ∧ w'.cell? (ad309.add ((x7_1).toNat * 7)) = some (.string ((rd_T70 l0_1 x7_1).f0)) ∧ w'.cell? ⟨(ad309.add ((x7_1).toNat * 7)).block, (ad309.add ((x7_1).toNat * 7)).off + 1, none⟩ = some (.int .i64 ((rd_T70 l0_1 x7_1).f1)) ∧ w'.cell? ⟨(ad309.add ((x7_1).toNat * 7)).block, (ad309.add ((x7_1).toNat * 7)).off + 2, none⟩ = some (.int .i64 ((rd_T70 l0_1 x7_1).f2)) ∧ w'.cell? ⟨(ad309.add ((x7_1).toNat * 7)).block, (ad309.add ((x7_1).toNat * 7)).off + 3, none⟩ = some (.int .i64 ((rd_T70 l0_1 x7_1).f3)) ∧ w'.cell? ⟨(ad309.add ((x7_1).toNat * 7)).block, (ad309.add ((x7_1).toNat * 7)).off + 4, none⟩ = some (.int .i64 ((rd_T70 l0_1 x7_1).f4)) ∧ w'.cell? ⟨(ad309.add ((x7_1).toNat * 7)).block, (ad309.add ((x7_1).toNat * 7)).off + 5, none⟩ = some (.int .i64 ((rd_T70 l0_1 x7_1).f5)) ∧ w'.cell? ⟨(ad309.add ((x7_1).toNat * 7)).block, (ad309.add ((x7_1).toNat * 7)).off + 6, none⟩ = some (.slice A309_6 ((rd_T70 l0_1 x7_1).f6).length c309_6) ∧ w'.cell? (ad310.add (x7_1).toNat) = some (.int .i64 (rd l1 x7_1))) (ds := []) #[false, false, false, false, false, false, false, false, false, false, false] (by kernel_rfl) rfl rfl ⟨(blk_cell BK307.out 0).trans rfl, (blk_cell BK307.out 1).trans rfl, (blk_cell BK307.out 2).trans rfl, (blk_cell BK307.out 3).trans rfl, (blk_cell BK307.out 4).trans rfl, (blk_cell BK307.out 5).trans rfl, (blk_cell BK307.out 6).trans rfl, ((HB.out.cell (World.block_lt_of_cell? w _ hw309_0)).trans hw309_0), ((HB.out.cell (World.block_lt_of_cell? w _ hw309_1)).trans hw309_1), ((HB.out.cell (World.block_lt_of_cell? w _ hw309_2)).trans hw309_2), ((HB.out.cell (World.block_lt_of_cell? w _ hw309_3)).trans hw309_3), ((HB.out.cell (World.block_lt_of_cell? w _ hw309_4)).trans hw309_4), ((HB.out.cell (World.block_lt_of_cell? w _ hw309_5)).trans hw309_5), ((HB.out.cell (World.block_lt_of_cell? w _ hw309_6)).trans hw309_6), ((HB.out.cell (World.block_lt_of_cell? w _ hw310_0)).trans hw310_0)⟩ (fun hHeld => ?_); refine with_tabW rf_Allowed.tab7 rf_Allowed.bits7 (fun HT_ HW_ => ?_)
        generalize wr.drew = w15 at BK307 HB HR309_6 hx309_0 hx309_1 hx309_2 hx309_3 hx309_4 hx309_5 hx309_6 hx310_0 hHeld ⊢
        refine pure_ (i := 0) (N := some 20) (v := ?_) (a' := ?_) #[true, false, false, false, false, false, false, false, false, false, false] rfl rfl (any_of HT_.out (by kernel_rfl)) (fun _ _ _ h => h) (Or.inl ⟨by rfl, ?_⟩) ?_ ?_
        rotate_left
        ·exact tW
        rotate_left
        ·exact tP
        refine pure_ (i := 2) (N := some 22) (v := ?_) (a' := ?_) #[true, false, true, false, false, false, false, false, false, false, false] rfl rfl (any_of HT_.out (by kernel_rfl)) (fun _ _ _ h => h) (Or.inl ⟨by rfl, ?_⟩) ?_ ?_
        rotate_left
        ·exact tW
        rotate_left
        ·exact tP
        refine pure_ (i := 5) (N := some 25) (v := ?_) (a' := ?_) #[true, false, true, false, false, true, false, false, false, false, false] rfl rfl (any_of HT_.out (by kernel_rfl)) (fun _ _ _ h => h) (Or.inl ⟨by rfl, ?_⟩) ?_ ?_
        rotate_left
        ·exact tW
        rotate_left
        ·exact tP
        refine pure_ (i := 6) (N := some 26) (v := ?_) (a' := ?_) #[true, false, true, false, false, true, true, false, false, false, false] rfl rfl (any_of HT_.out (by kernel_rfl)) (fun _ _ _ h => h) (Or.inl ⟨by rfl, ?_⟩) ?_ ?_
        rotate_left
        ·exact tW
        rotate_left
        ·exact tP
        refine pure_ (i := 7) (N := some 27) (v := ?_) (a' := ?_) #[true, false, true, false, false, true, true, true, false, false, false] rfl rfl (any_of HT_.out (by kernel_rfl)) (fun _ _ _ h => h) (Or.inl ⟨by rfl, ?_⟩) ?_ ?_
        rotate_left
        ·exact tW
        rotate_left
        ·exact tP
        refine take_ (i := 1) (N := some 21) (v := ?_) (a' := ?_) #[true, true, true, false, false, true, true, true, false, false, false] rfl rfl (take_ofW HT_.out HW_.out (by kernel_rfl)) (fun _ _ _ h => h) (Or.inl ⟨by rfl, ?_⟩) hHeld ?_ ?_
        rotate_left
        ·rintro w' ⟨s0, s1, s2, s3, s4, s5, s6, s7, s8, s9, s10, s11, s12, s13, s14⟩
         go_simp
         with_reducible rfl
        rotate_left
        ·exact tP
        refine pure_ (i := 3) (N := some 23) (v := ?_) (a' := ?_) #[true, true, true, true, false, true, true, true, false, false, false] rfl rfl (any_of HT_.out (by kernel_rfl)) (fun _ _ _ h => h) (Or.inl ⟨by rfl, ?_⟩) ?_ ?_
        rotate_left
        ·exact tW
        rotate_left
        ·exact tP
        refine take_ (i := 4) (N := some 24) (v := ?_) (a' := ?_) #[true, true, true, true, true, true, true, true, false, false, false] rfl rfl (take_ofW HT_.out HW_.out (by kernel_rfl)) (fun _ _ _ h => h) (Or.inl ⟨by rfl, ?_⟩) hHeld ?_ ?_
        rotate_left
        ·rintro w' ⟨s0, s1, s2, s3, s4, s5, s6, s7, s8, s9, s10, s11, s12, s13, s14⟩
         go_simp
         with_reducible rfl
        rotate_left
        ·exact tP
        refine take_ (i := 8) (N := some 28) (v := ?_) (a' := ?_) #[true, true, true, true, true, true, true, true, true, false, false] rfl rfl (take_ofW HT_.out HW_.out (by kernel_rfl)) (fun _ _ _ h => h) (Or.inl ⟨by rfl, ?_⟩) hHeld ?_ ?_
        rotate_left
        ·rintro w' ⟨s0, s1, s2, s3, s4, s5, s6, s7, s8, s9, s10, s11, s12, s13, s14⟩
         go_simp
         with_reducible rfl
        rotate_left
        ·exact tP
        refine one_ (i := 9) (N := some 29) #[true, true, true, true, true, true, true, true, true, true, false] rfl rfl (one_of HT_.out (by kernel_rfl)) (by decide) (fun K hK => ?_)
        refine goes_ Tryz.func57 (by kernel_rfl) rfl #[.agg #[.string ((rd_T70 l0_1 x7_1).f0), .int .i64 ((rd_T70 l0_1 x7_1).f1), .int .i64 ((rd_T70 l0_1 x7_1).f2), .int .i64 ((rd_T70 l0_1 x7_1).f3), .int .i64 ((rd_T70 l0_1 x7_1).f4), .int .i64 ((rd_T70 l0_1 x7_1).f5), .slice A309_6 ((rd_T70 l0_1 x7_1).f6).length c309_6], .int .i64 (rd l1 x7_1)] (by rfl) rfl rfl tM ?_
        with_reducible refine (rf_allowed.calls ((rd_T70 l0_1 x7_1).f0) ((rd_T70 l0_1 x7_1).f1) ((rd_T70 l0_1 x7_1).f2) ((rd_T70 l0_1 x7_1).f3) ((rd_T70 l0_1 x7_1).f4) ((rd_T70 l0_1 x7_1).f5) _ _ ((rd_T70 l0_1 x7_1).f6) (rd l1 x7_1) false _ ?side1 ?side2 A11.out).mono ?_
        (case side1 => exact cS (Kd.C_below HR309_6.out HB.out))
        (case side2 => exact HC309_6.out)
        rintro e w16 ⟨rfl, hb⟩
        refine ⟨_, rfl, ?_⟩
        replace BK307 := Sd.mk (blk_below (bkA BK307.out) hb); replace HB := Sd.mk (below_step (bBl HB.out) hb)
        (try clear hb)
        (try clear hb2)
        (try clear hk)
        (try clear hi)
        refine hK.out _ _ ⟨(blk_cell BK307.out 0).trans rfl, (blk_cell BK307.out 1).trans rfl, (blk_cell BK307.out 2).trans rfl, (blk_cell BK307.out 3).trans rfl, (blk_cell BK307.out 4).trans rfl, (blk_cell BK307.out 5).trans rfl, (blk_cell BK307.out 6).trans rfl, ((HB.out.cell (World.block_lt_of_cell? w _ hw309_0)).trans hw309_0), ((HB.out.cell (World.block_lt_of_cell? w _ hw309_1)).trans hw309_1), ((HB.out.cell (World.block_lt_of_cell? w _ hw309_2)).trans hw309_2), ((HB.out.cell (World.block_lt_of_cell? w _ hw309_3)).trans hw309_3), ((HB.out.cell (World.block_lt_of_cell? w _ hw309_4)).trans hw309_4), ((HB.out.cell (World.block_lt_of_cell? w _ hw309_5)).trans hw309_5), ((HB.out.cell (World.block_lt_of_cell? w _ hw309_6)).trans hw309_6), ((HB.out.cell (World.block_lt_of_cell? w _ hw310_0)).trans hw310_0)⟩ (fun hHeld => ?_)
        clear hK K
        refine norm_ (a' := ?_) ?_ ?_
        rotate_left
        ·show Act.put _ (some 29) _ = _
         exact tP
        refine pure_ (i := 10) (N := some 30) (v := ?_) (a' := ?_) #[true, true, true, true, true, true, true, true, true, true, true] rfl rfl (any_of HT_.out (by kernel_rfl)) (fun _ _ _ h => h) (Or.inl ⟨by rfl, ?_⟩) ?_ ?_
        rotate_left
        ·exact tW
        rotate_left
        ·exact tP
        refine done_ (done_of HT_.out (by kernel_rfl)) ?_
        try go_wp2
        go_ret2
        exact ⟨tE, bBl HB.out⟩
      ·rw [if_neg c10] at H
       exact absurd H (by simp)
     ·rw [if_neg c9] at H
      exact absurd H (by simp)
    ·rw [if_neg c8] at H
     have c8b0 : decide (x7_1 < (l1.length : Int)) = false := decide_eq_false c8
     clear c8
     simp only [Option.some.injEq, Prod.mk.injEq] at H
     obtain ⟨rfl, rfl⟩ := H
     go_wp2
     go_ret2
     exact ⟨tE, bBl HB.out⟩
 ·rw [if_neg c4] at H
  have c4b0 : (t308 == 0) = false := beq_eq_false_iff_ne.mpr c4
  have c4b1 : (t308 != 0) = true := bne_iff_ne.mpr c4
  simp only [Option.some.injEq, Prod.mk.injEq] at H
  obtain ⟨rfl, rfl⟩ := H
  go_enter Tryz.func16, Tryz.ntmps16
  go_wp2_with (first | ((with_reducible refine gate_dst (N := 2) rfl ?_); refine box_event ?hg (N := 2) ?hd (cs := #[.slice A0_0 l0_0.length c0_0, .slice A0_1 l0_1.length c0_1, .slice A0_2 l0_2.length c0_2, .slice A0_3 l0_3.length c0_3, .int .i64 a0_4, .int .i64 a0_5, .int .i64 a0_6]) (t := 29) ?hr ?_; (case hd => rfl); (case hg => rfl); (case hr => exact tG); intro gb307 hg w17 hbox hb; have BK307 := Sd.mk (hbox); have GW307 := Sd.mk (bSz hg (bBl HB.out)); have GE307 := Sd.mk (bSz hg (bBl HB.out)); replace HB := Sd.mk (below_step (bBl HB.out) hb); clear hb hbox hg; obtain ⟨u18_0, u18_1, u18_2, u18_3, u18_4, u18_5, u18_6, o18_0, o18_1, o18_2, o18_3, o18_4, o18_5, o18_6⟩ := bc7 (w := w17) BK307.out) | ((with_reducible refine gate_callee (f := 53) rfl ?_); refine goesL_ (some 10) rfl rfl Tryz.func53 (by kernel_rfl) rfl #[.agg #[.slice A0_0 l0_0.length c0_0, .slice A0_1 l0_1.length c0_1, .slice A0_2 l0_2.length c0_2, .slice A0_3 l0_3.length c0_3, .int .i64 a0_4, .int .i64 a0_5, .int .i64 a0_6], .slice A1 l1.length c1] rfl tM ?_; (with_reducible refine (rf_asked.calls k _ _ l0_0 _ _ l0_1 _ _ l0_2 _ _ l0_3 a0_4 a0_5 a0_6 _ _ l1 t308 _ (cS (Kd.C_below HR0_0.out HB.out)) HC0_0.out (cS (Kd.C_below HR0_1.out HB.out)) HC0_1.out (cS (Kd.C_below HR0_2.out HB.out)) HC0_2.out (cS (Kd.C_below HR0_3.out HB.out)) HC0_3.out (cS (Kd.C_below HR1.out HB.out)) HC1.out A3.out).mono ?_); rintro e w19 ⟨rfl, hb⟩; refine ⟨_, rfl, ?_⟩; replace BK307 := Sd.mk (blk_below (bkA BK307.out) hb); replace HB := Sd.mk (below_step (bBl HB.out) hb); (try clear hb); (try clear hb2); (try clear hk); (try clear hi)))
  go_ret2
  exact ⟨tE, bBl HB.out⟩
end Go.Proofs.YtljfljekcpdpiaaGreat.PB

