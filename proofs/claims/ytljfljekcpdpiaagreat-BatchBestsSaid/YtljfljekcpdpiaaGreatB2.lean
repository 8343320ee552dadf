import Derived.Test.YtljfljekcpdpiaaGreatB1
import Derived.Shelf.Abstract
import Derived.Below
import Derived.Sort.WalkA
import Derived.Sort.WalkC
import Derived.Sort.LotA
import Derived.BigRegion
import Derived.Laws.BitsLemmas
import Derived.Shelf.Small.Bits
import Derived.Shelf.Strconv.Itoa0
import Derived.Lib.Hide
import Derived.Deep.RegionWith
import Derived.Deep.DeepCutAuto
set_option linter.unusedVariables false
set_option linter.unusedSimpArgs false
set_option maxHeartbeats 8000000
set_option maxRecDepth 1000000
namespace Go.Proofs.YtljfljekcpdpiaaGreat.PB
open Go.RowKit Go.Proofs.YtljfljekcpdpiaaGreatW.PrintWords Go.Proofs.YtljfljekcpdpiaaGreatW.PrintLast Go.Proofs.YtljfljekcpdpiaaGreatW.PrintMore
section
def idxFrom {α : Type} (p : α → Bool) : List α → Int → Int
 | [], _ => -1
 | x :: l, i => if p x = true then i else idxFrom p l (i + 1)
theorem idxFrom_any {α : Type} (p : α → Bool) : ∀ (l : List α) (i : Int), 0 ≤ i → (decide (0 ≤ idxFrom p l i) = l.any p) := by
 intro l
 induction l with
 | nil => intro i _; simp [idxFrom]
 | cons x l ih =>
  intro i hi
  simp only [idxFrom, List.any_cons]
  by_cases h : p x = true
  ·simp [h, hi]
  ·simp only [h, Bool.false_or]
   exact ih (i + 1) (by omega)
theorem idxFrom_drop {α : Type} (p : α → Bool) (z : α) (l : List α) (k : Nat) (hk : k < l.length) (i : Int) :
  idxFrom p (l.drop k) i = if p (l.getD k z) = true then i else idxFrom p (l.drop (k + 1)) (i + 1) := by
 rw [List.drop_eq_getElem_cons hk]
 simp only [idxFrom]
 rw [show l.getD k z = l[k] from by simp [List.getD_eq_getElem?_getD, List.getElem?_eq_getElem hk]]
def Tells (g : Nat) (lb : Array Value) (v : Value) (b : Bool) (w : World) : Prop :=
 ∀ W, Below w.heap.size w W → Calls Tryz.prog g (#[v] ++ lb) W fun e W' => e = .returned (.bool b) ∧ Below W.heap.size W W'
theorem below_trans' {w W W' : World} (h : Below w.heap.size w W) (h' : Below W.heap.size W W') : Below w.heap.size w W' := below_then h h.size h'
theorem indexFunc_int (p : Int → Bool) (g : Nat) (lb : Array Value) (eg : ∀ args w, (callFunc g args).run Tryz.prog w = .ok (.enter g args) w)
  (A : Option Addr) (c : Nat) (l : List Int) (w : World) (hr : Kd.C (Kd.int .i64) w A l.length l) (hg : ∀ x ∈ l, Tells g lb (.int .i64 x) (p x) w) :
  Calls Tryz.prog 185 #[.slice A l.length c, .func (.func g) #[] lb] w fun e w' => e = .returned (.int .i64 (idxFrom p l 0)) ∧ Below w.heap.size w w' := by
 have HR := Sd.mk hr
 have HG := Sd.mk hg
 have hmax := Kd.C_max hr
 clear hr hg
 go_enter Tryz.func185, Tryz.ntmps185
 go_wp2
 go_loopg [5, 8] l.length (fun kq _ v8 w' => ∃ k : Nat, v8 = .int .i64 k ∧ k ≤ l.length ∧ Sd (l.length - k ≤ kq) ∧ Sd (idxFrom p l 0 = idxFrom p (l.drop k) k) ∧ Sd (Below w.heap.size w w'))
 case atStart => exact ⟨0, rfl, Nat.zero_le _, ⟨by omega⟩, ⟨rfl⟩, ⟨Below.refl _ _⟩⟩
 case round =>
  obtain ⟨k, rfl, hk, HM, HI, HB⟩ := hrel
  by_cases hlt : k < l.length
  ·have hltz : (k : Int) < (l.length : Int) := by omega
   obtain ⟨ad, e, hc⟩ := Kd.at_int (Kd.C_below HR.out HB.out) (k : Int) (by omega) hltz
   cases e
   have HD := idxFrom_drop p 0 l k hlt k
   have hx : rd l (k : Int) = l.getD k 0 := by simp [rd]
   have hmem : l.getD k 0 ∈ l := by
    rw [List.getD_eq_getElem?_getD, List.getElem?_eq_getElem hlt]; exact List.getElem_mem hlt
   have hcall := HG.out _ hmem _ HB.out
   rw [hx] at hc
   generalize hxx : l.getD k 0 = x at hc hcall HD
   have HX := Sd.mk hxx
   have HD' := Sd.mk HD
   clear hxx HD hx hmem
   simp only [Int.toNat_natCast] at hc
   cases hp : p x with
   | true =>
    rw [hp] at hcall
    have HP := Sd.mk hp
    clear hp
    go_wp2_with (go_at_fn g; refine (hcall).mono ?_; rintro e w1 ⟨rfl, hb1⟩)
    go_ret
    exact ⟨by rw [HI.out, HD'.out, if_pos HP.out]; rfl, below_trans' HB.out hb1⟩
   | false =>
    rw [hp] at hcall
    have HP := Sd.mk hp
    clear hp
    go_wp2_with (go_at_fn g; refine (hcall).mono ?_; rintro e w1 ⟨rfl, hb1⟩)
    go_roundg (l.length - (k + 1))
    case measure => have := HM.out; omega
    case rel =>
     exact ⟨k + 1, by go_num, by omega, ⟨by omega⟩, ⟨by rw [HI.out, HD'.out, if_neg (by rw [HP.out]; simp)]; simp⟩, ⟨below_trans' HB.out hb1⟩⟩
  ·have hltz : ¬ (k : Int) < (l.length : Int) := by omega
   go_wp2
   go_ret
   exact ⟨by rw [HI.out, List.drop_eq_nil_of_le (by omega)]; rfl, HB.out⟩
theorem containsFunc_int (p : Int → Bool) (g : Nat) (lb : Array Value) (eg : ∀ args w, (callFunc g args).run Tryz.prog w = .ok (.enter g args) w)
  (A : Option Addr) (c : Nat) (l : List Int) (w : World) (hr : Kd.C (Kd.int .i64) w A l.length l) (hg : ∀ x ∈ l, Tells g lb (.int .i64 x) (p x) w) :
  Calls Tryz.prog 106 #[.slice A l.length c, .func (.func g) #[] lb] w fun e w' => e = .returned (.bool (l.any p)) ∧ Below w.heap.size w w' := by
 have H := indexFunc_int p g lb eg A c l w hr hg
 have HA := Sd.mk (idxFrom_any p l 0 (Int.le_refl 0))
 clear hr hg eg
 go_enter Tryz.func106, Tryz.ntmps106
 go_wp2_with (go_at_call 185; refine H.mono ?_; rintro e w1 ⟨rfl, hb1⟩)
 go_ret
 exact ⟨by rw [← HA.out]; rfl, hb1⟩
theorem indexFunc_span (p : S27 → Bool) (g : Nat) (lb : Array Value) (eg : ∀ args w, (callFunc g args).run Tryz.prog w = .ok (.enter g args) w)
  (A : Option Addr) (c : Nat) (l : List S27) (w : World) (hr : Kd.C k27 w A l.length l) (hg : ∀ x ∈ l, Tells g lb (.agg #[.int .i64 x.f0, .int .i64 x.f1]) (p x) w) :
  Calls Tryz.prog 181 #[.slice A l.length c, .func (.func g) #[] lb] w fun e w' => e = .returned (.int .i64 (idxFrom p l 0)) ∧ Below w.heap.size w w' := by
 have HR := Sd.mk hr
 have HG := Sd.mk hg
 have hmax := Kd.C_max hr
 clear hr hg
 go_enter Tryz.func181, Tryz.ntmps181
 go_wp2
 go_loopg [5, 8] l.length (fun kq _ v8 w' => ∃ k : Nat, v8 = .int .i64 k ∧ k ≤ l.length ∧ Sd (l.length - k ≤ kq) ∧ Sd (idxFrom p l 0 = idxFrom p (l.drop k) k) ∧ Sd (Below w.heap.size w w'))
 case atStart => exact ⟨0, rfl, Nat.zero_le _, ⟨by omega⟩, ⟨rfl⟩, ⟨Below.refl _ _⟩⟩
 case round =>
  obtain ⟨k, rfl, hk, HM, HI, HB⟩ := hrel
  by_cases hlt : k < l.length
  ·have hltz : (k : Int) < (l.length : Int) := by omega
   obtain ⟨ad, e, hc0, hc1⟩ := at_T27 (Kd.C_below HR.out HB.out) (k : Int) (by omega) hltz
   cases e
   have HD := idxFrom_drop p z27 l k hlt k
   have hx : rd_T27 l (k : Int) = l.getD k z27 := by simp [rd_T27]
   have hmem : l.getD k z27 ∈ l := by
    rw [List.getD_eq_getElem?_getD, List.getElem?_eq_getElem hlt]; exact List.getElem_mem hlt
   have hcall := HG.out _ hmem _ HB.out
   rw [hx] at hc0 hc1
   generalize hxx : l.getD k z27 = x at hc0 hc1 hcall HD
   have HX := Sd.mk hxx
   have HD' := Sd.mk HD
   clear hxx HD hx hmem
   simp only [Int.toNat_natCast] at hc0 hc1
   cases hp : p x with
   | true =>
    rw [hp] at hcall
    have HP := Sd.mk hp
    clear hp
    go_wp2_with (go_at_fn g; refine (hcall).mono ?_; rintro e w1 ⟨rfl, hb1⟩)
    go_ret
    exact ⟨by rw [HI.out, HD'.out, if_pos HP.out]; rfl, below_trans' HB.out hb1⟩
   | false =>
    rw [hp] at hcall
    have HP := Sd.mk hp
    clear hp
    go_wp2_with (go_at_fn g; refine (hcall).mono ?_; rintro e w1 ⟨rfl, hb1⟩)
    go_roundg (l.length - (k + 1))
    case measure => have := HM.out; omega
    case rel =>
     exact ⟨k + 1, by go_num, by omega, ⟨by omega⟩, ⟨by rw [HI.out, HD'.out, if_neg (by rw [HP.out]; simp)]; simp⟩, ⟨below_trans' HB.out hb1⟩⟩
  ·have hltz : ¬ (k : Int) < (l.length : Int) := by omega
   go_wp2
   go_ret
   exact ⟨by rw [HI.out, List.drop_eq_nil_of_le (by omega)]; rfl, HB.out⟩
theorem containsFunc_span (p : S27 → Bool) (g : Nat) (lb : Array Value) (eg : ∀ args w, (callFunc g args).run Tryz.prog w = .ok (.enter g args) w)
  (A : Option Addr) (c : Nat) (l : List S27) (w : World) (hr : Kd.C k27 w A l.length l) (hg : ∀ x ∈ l, Tells g lb (.agg #[.int .i64 x.f0, .int .i64 x.f1]) (p x) w) :
  Calls Tryz.prog 99 #[.slice A l.length c, .func (.func g) #[] lb] w fun e w' => e = .returned (.bool (l.any p)) ∧ Below w.heap.size w w' := by
 have H := indexFunc_span p g lb eg A c l w hr hg
 have HA := Sd.mk (idxFrom_any p l 0 (Int.le_refl 0))
 clear hr hg eg
 go_enter Tryz.func99, Tryz.ntmps99
 go_wp2_with (go_at_call 181; refine H.mono ?_; rintro e w1 ⟨rfl, hb1⟩)
 go_ret
 exact ⟨by rw [← HA.out]; rfl, hb1⟩
theorem indexFunc_mat (p : S70 → Bool) (g : Nat) (lb : Array Value) (eg : ∀ args w, (callFunc g args).run Tryz.prog w = .ok (.enter g args) w)
  (A : Option Addr) (c : Nat) (l : List S70) (w : World) (hr : Kd.C k70 w A l.length l) (hg : ∀ x ∈ l, ∀ (A6 : Option Addr) (c6 : Nat), Tells g lb (.agg #[.string x.f0, .int .i64 x.f1, .int .i64 x.f2, .int .i64 x.f3, .int .i64 x.f4, .int .i64 x.f5, .slice A6 x.f6.length c6]) (p x) w) :
  Calls Tryz.prog 236 #[.slice A l.length c, .func (.func g) #[] lb] w fun e w' => e = .returned (.int .i64 (idxFrom p l 0)) ∧ Below w.heap.size w w' := by
 have HR := Sd.mk hr
 have HG := Sd.mk hg
 have hmax := Kd.C_max hr
 clear hr hg
 go_enter Tryz.func236, Tryz.ntmps236
 go_wp2
 go_loopg [5, 8] l.length (fun kq _ v8 w' => ∃ k : Nat, v8 = .int .i64 k ∧ k ≤ l.length ∧ Sd (l.length - k ≤ kq) ∧ Sd (idxFrom p l 0 = idxFrom p (l.drop k) k) ∧ Sd (Below w.heap.size w w'))
 case atStart => exact ⟨0, rfl, Nat.zero_le _, ⟨by omega⟩, ⟨rfl⟩, ⟨Below.refl _ _⟩⟩
 case round =>
  obtain ⟨k, rfl, hk, HM, HI, HB⟩ := hrel
  by_cases hlt : k < l.length
  ·have hltz : (k : Int) < (l.length : Int) := by omega
   obtain ⟨ad, A6, c6, e, hc0, hc1, hc2, hc3, hc4, hc5, hc6, _, _⟩ := at_T70 (Kd.C_below HR.out HB.out) (k : Int) (by omega) hltz
   cases e
   have HD := idxFrom_drop p z70 l k hlt k
   have hx : rd_T70 l (k : Int) = l.getD k z70 := by simp [rd_T70]
   have hmem : l.getD k z70 ∈ l := by
    rw [List.getD_eq_getElem?_getD, List.getElem?_eq_getElem hlt]; exact List.getElem_mem hlt
   have hcall := HG.out _ hmem A6 c6 _ HB.out
   rw [hx] at hc0 hc1 hc2 hc3 hc4 hc5 hc6
   generalize hxx : l.getD k z70 = x at hc0 hc1 hc2 hc3 hc4 hc5 hc6 hcall HD
   have HX := Sd.mk hxx
   have HD' := Sd.mk HD
   clear hxx HD hx hmem
   simp only [Int.toNat_natCast] at hc0 hc1 hc2 hc3 hc4 hc5 hc6
   cases hp : p x with
   | true =>
    rw [hp] at hcall
    have HP := Sd.mk hp
    clear hp
    go_wp2_with (go_at_fn g; refine (hcall).mono ?_; rintro e w1 ⟨rfl, hb1⟩)
    go_ret
    exact ⟨by rw [HI.out, HD'.out, if_pos HP.out]; rfl, below_trans' HB.out hb1⟩
   | false =>
    rw [hp] at hcall
    have HP := Sd.mk hp
    clear hp
    go_wp2_with (go_at_fn g; refine (hcall).mono ?_; rintro e w1 ⟨rfl, hb1⟩)
    go_roundg (l.length - (k + 1))
    case measure => have := HM.out; omega
    case rel =>
     exact ⟨k + 1, by go_num, by omega, ⟨by omega⟩, ⟨by rw [HI.out, HD'.out, if_neg (by rw [HP.out]; simp)]; simp⟩, ⟨below_trans' HB.out hb1⟩⟩
  ·have hltz : ¬ (k : Int) < (l.length : Int) := by omega
   go_wp2
   go_ret
   exact ⟨by rw [HI.out, List.drop_eq_nil_of_le (by omega)]; rfl, HB.out⟩
theorem containsFunc_mat (p : S70 → Bool) (g : Nat) (lb : Array Value) (eg : ∀ args w, (callFunc g args).run Tryz.prog w = .ok (.enter g args) w)
  (A : Option Addr) (c : Nat) (l : List S70) (w : World) (hr : Kd.C k70 w A l.length l) (hg : ∀ x ∈ l, ∀ (A6 : Option Addr) (c6 : Nat), Tells g lb (.agg #[.string x.f0, .int .i64 x.f1, .int .i64 x.f2, .int .i64 x.f3, .int .i64 x.f4, .int .i64 x.f5, .slice A6 x.f6.length c6]) (p x) w) :
  Calls Tryz.prog 209 #[.slice A l.length c, .func (.func g) #[] lb] w fun e w' => e = .returned (.bool (l.any p)) ∧ Below w.heap.size w w' := by
 have H := indexFunc_mat p g lb eg A c l w hr hg
 have HA := Sd.mk (idxFrom_any p l 0 (Int.le_refl 0))
 clear hr hg eg
 go_enter Tryz.func209, Tryz.ntmps209
 go_wp2_with (go_at_call 236; refine H.mono ?_; rintro e w1 ⟨rfl, hb1⟩)
 go_ret
 exact ⟨by rw [← HA.out]; rfl, hb1⟩
theorem indexFunc_prop (p : S89 → Bool) (g : Nat) (lb : Array Value) (eg : ∀ args w, (callFunc g args).run Tryz.prog w = .ok (.enter g args) w)
  (A : Option Addr) (c : Nat) (l : List S89) (w : World) (hr : Kd.C k89 w A l.length l) (hg : ∀ x ∈ l, ∀ (A1 : Option Addr) (c1 : Nat), Tells g lb (.agg #[.string x.f0, .slice A1 x.f1.length c1, .int .i64 x.f2.f0, .int .i64 x.f2.f1]) (p x) w) :
  Calls Tryz.prog 211 #[.slice A l.length c, .func (.func g) #[] lb] w fun e w' => e = .returned (.int .i64 (idxFrom p l 0)) ∧ Below w.heap.size w w' := by
 have HR := Sd.mk hr
 have HG := Sd.mk hg
 have hmax := Kd.C_max hr
 clear hr hg
 go_enter Tryz.func211, Tryz.ntmps211
 go_wp2
 go_loopg [5, 8] l.length (fun kq _ v8 w' => ∃ k : Nat, v8 = .int .i64 k ∧ k ≤ l.length ∧ Sd (l.length - k ≤ kq) ∧ Sd (idxFrom p l 0 = idxFrom p (l.drop k) k) ∧ Sd (Below w.heap.size w w'))
 case atStart => exact ⟨0, rfl, Nat.zero_le _, ⟨by omega⟩, ⟨rfl⟩, ⟨Below.refl _ _⟩⟩
 case round =>
  obtain ⟨k, rfl, hk, HM, HI, HB⟩ := hrel
  by_cases hlt : k < l.length
  ·have hltz : (k : Int) < (l.length : Int) := by omega
   obtain ⟨ad, A1, c1, e, hc0, hc1, hc2, hc3, _, _⟩ := at_T89 (Kd.C_below HR.out HB.out) (k : Int) (by omega) hltz
   cases e
   have HD := idxFrom_drop p z89 l k hlt k
   have hx : rd_T89 l (k : Int) = l.getD k z89 := by simp [rd_T89]
   have hmem : l.getD k z89 ∈ l := by
    rw [List.getD_eq_getElem?_getD, List.getElem?_eq_getElem hlt]; exact List.getElem_mem hlt
   have hcall := HG.out _ hmem A1 c1 _ HB.out
   rw [hx] at hc0 hc1 hc2 hc3
   generalize hxx : l.getD k z89 = x at hc0 hc1 hc2 hc3 hcall HD
   have HX := Sd.mk hxx
   have HD' := Sd.mk HD
   clear hxx HD hx hmem
   simp only [Int.toNat_natCast] at hc0 hc1 hc2 hc3
   cases hp : p x with
   | true =>
    rw [hp] at hcall
    have HP := Sd.mk hp
    clear hp
    go_wp2_with (go_at_fn g; refine (hcall).mono ?_; rintro e w1 ⟨rfl, hb1⟩)
    go_ret
    exact ⟨by rw [HI.out, HD'.out, if_pos HP.out]; rfl, below_trans' HB.out hb1⟩
   | false =>
    rw [hp] at hcall
    have HP := Sd.mk hp
    clear hp
    go_wp2_with (go_at_fn g; refine (hcall).mono ?_; rintro e w1 ⟨rfl, hb1⟩)
    go_roundg (l.length - (k + 1))
    case measure => have := HM.out; omega
    case rel =>
     exact ⟨k + 1, by go_num, by omega, ⟨by omega⟩, ⟨by rw [HI.out, HD'.out, if_neg (by rw [HP.out]; simp)]; simp⟩, ⟨below_trans' HB.out hb1⟩⟩
  ·have hltz : ¬ (k : Int) < (l.length : Int) := by omega
   go_wp2
   go_ret
   exact ⟨by rw [HI.out, List.drop_eq_nil_of_le (by omega)]; rfl, HB.out⟩
theorem containsFunc_prop (p : S89 → Bool) (g : Nat) (lb : Array Value) (eg : ∀ args w, (callFunc g args).run Tryz.prog w = .ok (.enter g args) w)
  (A : Option Addr) (c : Nat) (l : List S89) (w : World) (hr : Kd.C k89 w A l.length l) (hg : ∀ x ∈ l, ∀ (A1 : Option Addr) (c1 : Nat), Tells g lb (.agg #[.string x.f0, .slice A1 x.f1.length c1, .int .i64 x.f2.f0, .int .i64 x.f2.f1]) (p x) w) :
  Calls Tryz.prog 182 #[.slice A l.length c, .func (.func g) #[] lb] w fun e w' => e = .returned (.bool (l.any p)) ∧ Below w.heap.size w w' := by
 have H := indexFunc_prop p g lb eg A c l w hr hg
 have HA := Sd.mk (idxFrom_any p l 0 (Int.le_refl 0))
 clear hr hg eg
 go_enter Tryz.func182, Tryz.ntmps182
 go_wp2_with (go_at_call 211; refine H.mono ?_; rintro e w1 ⟨rfl, hb1⟩)
 go_ret
 exact ⟨by rw [← HA.out]; rfl, hb1⟩
end
end Go.Proofs.YtljfljekcpdpiaaGreat.PB
namespace Go.Proofs.YtljfljekcpdpiaaGreat.MeanMath
def lsum {α : Type} (f : α → Int) : List α → Int
  | [] => 0
  | x :: l => f x + lsum f l
variable {α : Type}
@[simp] theorem lsum_nil (f : α → Int) : lsum f [] = 0 := rfl
@[simp] theorem lsum_cons (f : α → Int) (x : α) (l : List α) : lsum f (x :: l) = f x + lsum f l := rfl
theorem lsum_append (f : α → Int) (l m : List α) : lsum f (l ++ m) = lsum f l + lsum f m := by
  induction l with
  | nil => simp
  | cons x l ih => simp [ih]; omega
theorem lsum_perm (f : α → Int) {l m : List α} (h : l.Perm m) : lsum f l = lsum f m := by
  induction h with
  | nil => rfl
  | cons x _ ih => simp [ih]
  | swap x y l => simp; omega
  | trans _ _ h1 h2 => exact h1.trans h2
def below (c lo hi : α → Int) (m : Int) (o : List α) : Int := lsum (fun a => max ((m - c a) * lo a) ((m - c a) * hi a)) o
end Go.Proofs.YtljfljekcpdpiaaGreat.MeanMath

namespace Go.Proofs.YtljfljekcpdpiaaGreat.PB
open Go.RowKit Go.Proofs.YtljfljekcpdpiaaGreatW.PrintWords Go.Proofs.YtljfljekcpdpiaaGreatW.PrintLast Go.Proofs.YtljfljekcpdpiaaGreatW.PrintMore
section
section
open Go.Shelf
def lays125_ren : Go.Shelf.Ren := ⟨fun | 125 => 206 | 128 => 234 | 129 => 235 | n => n, fun | 46 => 219 | 3 => 3 | 51 => 243 | 53 => 245 | 4 => 4 | 5 => 5 | 9 => 9 | n => n, fun | n => n⟩
theorem lays125 : Go.Proofs.Lays.n125 Tryz.prog lays125_ren := {
 mixed := by kernel_rfl
 f125 := Tryz.func206.trans (congrArg some (by kernel_rfl))
 f128 := Tryz.func234.trans (congrArg some (by kernel_rfl))
 f129 := Tryz.func235.trans (congrArg some (by kernel_rfl))
 t3 := Tryz.underlying3
 a3 := Tryz.isAgg3
 z3 := Tryz.sizeOf3
 v3 := Tryz.zeroValue3
 t4 := Tryz.underlying4
 a4 := Tryz.isAgg4
 z4 := Tryz.sizeOf4
 v4 := Tryz.zeroValue4
 t5 := Tryz.underlying5
 a5 := Tryz.isAgg5
 z5 := Tryz.sizeOf5
 v5 := Tryz.zeroValue5
 t9 := Tryz.underlying9
 a9 := Tryz.isAgg9
 z9 := Tryz.sizeOf9
 v9 := Tryz.zeroValue9
 t46 := Tryz.underlying219
 a46 := Tryz.isAgg219
 z46 := Tryz.sizeOf219
 v46 := Tryz.zeroValue219
 t51 := Tryz.underlying243
 a51 := Tryz.isAgg243
 z51 := Tryz.sizeOf243
 v51 := Tryz.zeroValue243
 t53 := Tryz.underlying245
 a53 := Tryz.isAgg245
 z53 := Tryz.sizeOf245
 v53 := Tryz.zeroValue245 }
theorem lib_bits_Len (x : Int) (w : World) (h0 : 0 ≤ x) (h1 : x ≤ 18446744073709551615) :
  Calls Tryz.prog 206 #[.int .u64 x] w fun e w' => e = .returned (.int .i64 (Lib.bitLen x.toNat)) ∧ w' = w := Any.bits_Len lays125 x w h0 h1
end
open Go.Lib Go.Sort
def ltC (cf : Int → Int → Int) (x y : Int) : Bool := decide (cf x y < 0)
def CmpQ (g : Nat) (cb : Array Value) (cf : Int → Int → Int) (N : Int) (blk off size : Nat) (w : World) : Prop :=
 ∀ (m : Nat) (dk : Array Int), dk.size = size → ∀ x y : Int, 0 ≤ x → x < N → 0 ≤ y → y < N →
  Calls Tryz.prog g #[.int .i64 x, .int .i64 y, cb[0]!] ((putRow (Value.int .i64) w blk off dk).drewN m) fun e w' => e = .returned (.int .i64 (cf x y)) ∧ ∃ q, w' = ((putRow (Value.int .i64) w blk off dk).drewN m).drewN q
def AllIn (N : Int) (d : Array Int) : Prop := ∀ j, j < d.size → 0 ≤ d[j]! ∧ d[j]! < N
theorem allIn_swp {N : Int} {d : Array Int} {i j : Nat} (h : AllIn N d) (hi : i < d.size) (hj : j < d.size) : AllIn N (swp d i j) := by
 intro k hk
 rw [size_swp] at hk
 by_cases h1 : k = j
 ·subst h1
  rw [swp_right _ _ _ hj]
  exact h i hi
 ·by_cases h2 : k = i
  ·subst h2
   rw [swp_left _ _ _ hi h1]
   exact h j hj
  ·rw [swp_other _ _ _ _ h2 h1]
   exact h k hk
theorem insertionSort_calls (cf : Int → Int → Int) (N : Int) (g : Nat) (cb : Array Value) (hcb : cb = #[cb[0]!]) (blk off cap b : Nat) (d : Array Int) (w : World)
  (eg : ∀ args w, (callFunc g args).run Tryz.prog w = .ok (.enter g args) w) (hcmp : CmpQ g cb cf N blk off d.size w) (hH : Holds (Value.int .i64) w blk off d) (hN : AllIn N d) (hb : b ≤ d.size) (hsz : d.size < 4611686018427387904) :
  Calls Tryz.prog 226 #[.slice (some ⟨blk, off, none⟩) d.size cap, .int .i64 0, .int .i64 b, .func (.func g) #[] cb] w fun e w' =>
   e = .returned (.tuple #[]) ∧ ∃ n, w' = (putRow (Value.int .i64) w blk off (Sort.insertionSort (ltC cf) d 0 b)).drewN n := by
 generalize hk0 : cb[0]! = cv at hcb
 subst hcb
 have hcAt : ∀ (X : Array Int) (x y : Int), X.size = d.size → 0 ≤ x → x < N → 0 ≤ y → y < N → ∀ m n, Calls Tryz.prog g #[.int .i64 x, .int .i64 y, cv] (((putRow (Value.int .i64) w blk off X).drewN m).drewN n) fun e w' => e = .returned (.int .i64 (cf x y)) ∧ ∃ q, w' = (((putRow (Value.int .i64) w blk off X).drewN m).drewN n).drewN q := fun X x y hX h1 h2 h3 h4 m n => by
  have := hcmp (m + n) X hX x y h1 h2 h3 h4
  rw [← World.drewN_drewN] at this
  exact this
 have HC : Sd _ := ⟨hcAt⟩
 have HST : Sd (w = (putRow (Value.int .i64) w blk off d).drewN 0) := ⟨(putRow_self (Value.int .i64) w blk off d hH).symm⟩
 have HH : Sd (Holds (Value.int .i64) w blk off d) := ⟨hH⟩
 have HN : Sd (AllIn N d) := ⟨hN⟩
 clear hcAt hcmp hH hN hk0
 go_enter Tryz.func226, Tryz.ntmps226
 go_wp2
 go_loopg [8] b (fun g1 vi wr => ∃ (i n : Nat) (dk : Array Int), vi = .int .i64 i ∧ 0 < i ∧ i ≤ b + 1 ∧ b + 1 - i ≤ g1 + 1 ∧ dk.size = d.size ∧ wr = (putRow (Value.int .i64) w blk off dk).drewN n ∧ Sd (insOuter (ltC cf) 0 b i dk = insOuter (ltC cf) 0 b (0 + 1) d) ∧ Sd (AllIn N dk))
 case atStart => exact ⟨1, 0, d, by first | rfl | go_num, by omega, by omega, by omega, rfl, HST.out, ⟨rfl⟩, HN⟩
 case round =>
  obtain ⟨i, n, dk, rfl, hai, hib, hg1, hsk, rfl, HO, HNk⟩ := hrel
  by_cases hlt : i < b
  ·have hltz : (i : Int) < (b : Int) := by omega
   go_wp2
   go_loopg [9] i (fun g2 vj wr2 => ∃ (j m : Nat) (dj : Array Int), vj = .int .i64 j ∧ 0 ≤ j ∧ j ≤ i ∧ j ≤ g2 ∧ dj.size = d.size ∧ wr2 = (putRow (Value.int .i64) w blk off dj).drewN m ∧ Sd (insInner (ltC cf) 0 j dj = insInner (ltC cf) 0 i dk) ∧ Sd (AllIn N dj))
   case atStart => exact ⟨i, n, dk, rfl, by omega, Nat.le_refl _, Nat.le_refl _, hsk, rfl, ⟨rfl⟩, HNk⟩
   case round =>
    obtain ⟨j, m, dj, rfl, haj, hji, hg2, hsj, rfl, HI, HNj⟩ := hrel
    have out : (j ≤ 0 ∨ ltC cf dj[j]! dj[j - 1]! = false) → Sd (insOuter (ltC cf) 0 b (i + 1) dj = insOuter (ltC cf) 0 b (0 + 1) d) := fun hs => ⟨by
     rw [← HO.out, insOuter_go _ _ _ _ _ hlt, ← HI.out, insInner_stop _ _ _ _ hs]⟩
    have OUT : Sd _ := ⟨out⟩
    clear out
    by_cases hja : 0 < j
    ·have hjaz : (0 : Int) < (j : Int) := by omega
     have hHj := holds_putRow (Value.int .i64) w blk off d dj HH.out hsj
     have hxr := HNj.out j (by omega)
     have hpr := HNj.out (j - 1) (by omega)
     obtain ⟨xj, hxj⟩ : ∃ x, dj[j]! = x := ⟨_, rfl⟩
     obtain ⟨xp, hxp⟩ : ∃ x, dj[j - 1]! = x := ⟨_, rfl⟩
     obtain ⟨cj, fj⟩ := hHj j (by omega)
     obtain ⟨cp, fp⟩ := hHj (j - 1) (by omega)
     rw [hxj] at cj hxr
     rw [hxp] at cp hpr
     obtain ⟨jp, rfl⟩ : ∃ jp, j = jp + 1 := ⟨j - 1, by omega⟩
     simp only [Nat.add_sub_cancel] at cp fp hxp
     have hwp : IntKind.i64.wrap (jp : Int) = (jp : Int) := by rw [IntKind.wrap_i64]; omega
     have jz : (jp : Int) + 1 < (d.size : Int) := by omega
     have jz1 : (jp : Int) < (d.size : Int) := by omega
     have hjaz' : (0 : Int) < (jp : Int) + 1 := by omega
     have p0 : (0 : Int) ≤ (jp : Int) + 1 := by omega
     have e0 : ((jp : Int) + 1).toNat = jp + 1 := by omega
     have hc := HC.out dj xj xp hsj hxr.1 hxr.2 hpr.1 hpr.2 m
     clear hHj hxr hpr
     have cj' : ((putRow (Value.int .i64) w blk off dj).drewN m).cell? ⟨blk, off + (jp + 1), none⟩ = some (.int .i64 xj) := cj
     have cp' : ((putRow (Value.int .i64) w blk off dj).drewN m).cell? ⟨blk, off + jp, none⟩ = some (.int .i64 xp) := cp
     have fj' : ((putRow (Value.int .i64) w blk off dj).drewN m).frozen? ⟨blk, off + (jp + 1), none⟩ = false := fj
     have fp' : ((putRow (Value.int .i64) w blk off dj).drewN m).frozen? ⟨blk, off + jp, none⟩ = false := fp
     clear cj cp fj fp
     have HXJ : Sd _ := ⟨hxj⟩
     have HXP : Sd _ := ⟨hxp⟩
     generalize hwq : (putRow (Value.int .i64) w blk off dj).drewN m = wq at cj' cp' fj' fp' hc ⊢
     have HWQ : Sd _ := ⟨hwq⟩
     clear hwq hxj hxp
     by_cases hlv : cf xj xp < 0
     ·have hlvb : decide (cf xj xp < 0) = true := decide_eq_true hlv
      go_wp2_with fail
      go_quiet (first | (go_at_fn g; refine Calls.quiet_of (hc _)))
      go_wp2_with fail
      have hw2 : wq.drewN nq = (putRow (Value.int .i64) w blk off dj).drewN (m + nq) := by rw [← HWQ.out, World.drewN_drewN]
      have cj2 : (wq.drewN nq).cell? ⟨blk, off + (jp + 1), none⟩ = some (.int .i64 xj) := cj'
      have cp2 : (wq.drewN nq).cell? ⟨blk, off + jp, none⟩ = some (.int .i64 xp) := cp'
      have fj2 : (wq.drewN nq).frozen? ⟨blk, off + (jp + 1), none⟩ = false := fj'
      have fp2 : (wq.drewN nq).frozen? ⟨blk, off + jp, none⟩ = false := fp'
      clear cj' cp' fj' fp' hc
      generalize wq.drewN nq = wq2 at hw2 cj2 cp2 fj2 fp2 ⊢
      obtain ⟨j1, hj1⟩ : ∃ j1, j1 = jp + 1 := ⟨_, rfl⟩
      rw [← hj1] at cj2 fj2 e0
      have J1 : Sd (j1 = jp + 1) := ⟨hj1⟩
      have HW2 : Sd (wq2 = (putRow (Value.int .i64) w blk off dj).drewN (m + nq)) := ⟨hw2⟩
      clear hj1 hw2
      go_region
      all_goals go_wp2
      go_roundg jp
      case measure => omega
      case rel =>
       refine ⟨jp, m + nq + 1, swp dj (jp + 1) jp, by first | rfl | go_num | (congr 1; omega), by omega, by omega, Nat.le_refl _, by rw [size_swp]; exact hsj, ?_, ⟨?_⟩, ⟨allIn_swp HNj.out (by omega) (by omega)⟩⟩
       ·rw [J1.out, HW2.out, ← HXP.out, ← HXJ.out]
        exact swap_worldC (Value.int .i64) w blk off dj (m + nq) (jp + 1) jp (by omega) (by omega)
       ·have := insInner_go (ltC cf) 0 (jp + 1) dj hja (by simp only [Nat.add_sub_cancel]; rw [HXJ.out, HXP.out]; exact decide_eq_true hlv)
        simp only [Nat.add_sub_cancel] at this
        rw [← HI.out, this]
     ·have hlvb : decide (cf xj xp < 0) = false := decide_eq_false hlv
      go_wp2_with fail
      go_quiet (first | (go_at_fn g; refine Calls.quiet_of (hc _)))
      go_wp2
      go_roundg (b - (i + 1))
      case measure => omega
      case rel => exact ⟨i + 1, _, dj, by go_num, by omega, by omega, by omega, hsj, by rw [← HWQ.out, World.drewN_drewN], OUT.out (Or.inr (by simp only [Nat.add_sub_cancel]; rw [HXJ.out, HXP.out]; exact decide_eq_false (by omega))), HNj⟩
    ·have hjaz : decide ((j : Int) > (0 : Int)) = false := decide_eq_false (by omega)
     have hjaz' : ¬ (0 : Int) < (j : Int) := by omega
     generalize hwq : (putRow (Value.int .i64) w blk off dj).drewN m = wq
     have HWQ : Sd _ := ⟨hwq⟩
     clear hwq
     go_wp2_with fail
     go_region
     all_goals go_wp2
     go_roundg (b - (i + 1))
     case measure => omega
     case rel => exact ⟨i + 1, _, dj, by go_num, by omega, by omega, by omega, hsj, (show _ = (putRow (Value.int .i64) w blk off dj).drewN (m + 1) from by first | rfl | (rw [← HWQ.out]; rfl)), OUT.out (Or.inl (by omega)), HNj⟩
  ·have hltz : ¬ (i : Int) < (b : Int) := by omega
   go_wp2
   go_end0
   exact ⟨rfl, n, by unfold Sort.insertionSort; rw [← HO.out, insOuter_stop _ _ _ _ _ hlt]⟩
theorem pdq_calls (cf : Int → Int → Int) (N : Int) (g : Nat) (cb : Array Value) (hcb : cb = #[cb[0]!]) (blk off cap b : Nat) (lim : Int) (d : Array Int) (w : World)
  (eg : ∀ args w, (callFunc g args).run Tryz.prog w = .ok (.enter g args) w) (hcmp : CmpQ g cb cf N blk off d.size w) (hH : Holds (Value.int .i64) w blk off d) (hN : AllIn N d) (hb : b ≤ d.size) (h12 : b ≤ 12) (hd : d.size ≤ 12) :
  Calls Tryz.prog 205 #[.slice (some ⟨blk, off, none⟩) d.size cap, .int .i64 0, .int .i64 b, .int .i64 lim, .func (.func g) #[] cb] w fun e w' =>
   e = .returned (.tuple #[]) ∧ ∃ n, w' = (putRow (Value.int .i64) w blk off (Sort.insertionSort (ltC cf) d 0 b)).drewN n := by
 have hi := insertionSort_calls cf N g cb hcb blk off cap b d w eg hcmp hH hN hb (by omega)
 clear hH hcmp hN hcb
 go_enter Tryz.func205, Tryz.ntmps205
 go_wp2
 refine wp_loop_rounds 1 ?_
 rw [rounds_succ]
 go_wp2_with (go_at_call 226; refine hi.mono ?_; rintro e w' ⟨rfl, n, rfl⟩)
 (try simp only [Exit.inBlock, Exit.then]); refine bodyPost_ret (results_none rfl _ _ _) rfl ?_
 exact ⟨rfl, n, rfl⟩
theorem sortFunc_calls (cf : Int → Int → Int) (N : Int) (g : Nat) (cb : Array Value) (hcb : cb = #[cb[0]!]) (blk off cap : Nat) (d : Array Int) (w : World)
  (eg : ∀ args w, (callFunc g args).run Tryz.prog w = .ok (.enter g args) w) (hcmp : CmpQ g cb cf N blk off d.size w) (hH : Holds (Value.int .i64) w blk off d) (hN : AllIn N d) (hd : d.size ≤ 12) :
  Calls Tryz.prog 167 #[.slice (some ⟨blk, off, none⟩) d.size cap, .func (.func g) #[] cb] w fun e w' =>
   e = .returned (.tuple #[]) ∧ ∃ n, w' = (putRow (Value.int .i64) w blk off (Sort.insertionSort (ltC cf) d 0 d.size)).drewN n := by
 have hp := fun lim => pdq_calls cf N g cb hcb blk off cap d.size lim d w eg hcmp hH hN (Nat.le_refl _) hd hd
 have hl := lib_bits_Len (d.size : Int) w (by omega) (by omega)
 generalize Lib.bitLen (d.size : Int).toNat = bl at hl
 clear hH hcmp hN hcb
 go_enter Tryz.func167, Tryz.ntmps167
 go_wp2_with (first | (go_at_call 206; refine hl.mono ?_; rintro e w' ⟨rfl, rfl⟩) | (go_at_call 205; refine (hp _).mono ?_; rintro e w' ⟨rfl, n, rfl⟩))
 go_end0
 exact ⟨rfl, n, rfl⟩
end
section
def b_down.f (a0 : Int) (a1 : Int) : Option (Int) := if a1 = 0 then (none) else (if (Int.tmod a0 a1) < 0 then (some (wrap64 ((wrap64 (Int.tdiv a0 a1)) - 1))) else (some (wrap64 (Int.tdiv a0 a1))))
theorem b_down.calls (a0 : Int) (a1 : Int) (r : Int) (w : World) (h : b_down.f a0 a1 = some r) :
  Calls Tryz.prog 169 #[.int .i64 a0, .int .i64 a1] w fun e w' => e = .returned (.int .i64 r) ∧ Drawn0 w w' := by
 have H : (if a1 = 0 then (none) else (if (Int.tmod a0 a1) < 0 then (some (wrap64 ((wrap64 (Int.tdiv a0 a1)) - 1))) else (some (wrap64 (Int.tdiv a0 a1))))) = some r := h
 clear h
 by_cases c3 : a1 = 0
 ·rw [if_pos c3] at H
  exact absurd H (by simp)
 ·rw [if_neg c3] at H
  have c3b0 : (a1 == 0) = false := beq_eq_false_iff_ne.mpr c3
  have c3b1 : (a1 != 0) = true := bne_iff_ne.mpr c3
  by_cases c4 : (Int.tmod a0 a1) < 0
  ·rw [if_pos c4] at H
   have c4b0 : decide ((Int.tmod a0 a1) < 0) = true := decide_eq_true c4
   clear c4; obtain rfl := Option.some.inj H
   go_enter Tryz.func169, Tryz.ntmps169
   go_wp2
   go_ret
   exact ⟨by first | rfl | (simp; done) | (simp [*]; done), by repeat (first | exact Drawn0.refl _ | apply Drawn0.step)⟩
  ·rw [if_neg c4] at H
   have c4b0 : decide ((Int.tmod a0 a1) < 0) = false := decide_eq_false c4
   clear c4; obtain rfl := Option.some.inj H
   go_enter Tryz.func169, Tryz.ntmps169
   go_wp2
   go_ret
   exact ⟨by first | rfl | (simp; done) | (simp [*]; done), by repeat (first | exact Drawn0.refl _ | apply Drawn0.step)⟩
end
section
def b_up.f (a0 : Int) (a1 : Int) : Option (Int) := (b_down.f (wrap64 (-a0)) a1).bind fun t175 => (some (wrap64 (-t175)))
theorem b_up.calls (a0 : Int) (a1 : Int) (r : Int) (w : World) (h : b_up.f a0 a1 = some r) :
  Calls Tryz.prog 96 #[.int .i64 a0, .int .i64 a1] w fun e w' => e = .returned (.int .i64 r) ∧ Drawn0 w w' := by
 have H : ((b_down.f (wrap64 (-a0)) a1).bind fun t175 => (some (wrap64 (-t175)))) = some r := h
 clear h; replace H := Option.bind_eq_some_iff.mp H; obtain ⟨t175, A30, H⟩ := H
 try dsimp only at H
 have A3 := Sd.mk A30; clear A30; obtain rfl := Option.some.inj H
 go_enter Tryz.func96, Tryz.ntmps96
 go_wp2_with (first | ((with_reducible refine gate_callee (f := 169) rfl ?_); refine goesL_ (some 8) rfl rfl Tryz.func169 (by kernel_rfl) rfl #[.int .i64 (wrap64 (-a0)), .int .i64 a1] rfl tM ?_; (with_reducible refine (b_down.calls (wrap64 (-a0)) a1 t175 _ A3.out).mono ?_); rintro e w' ⟨rfl, ⟨nd, rfl⟩⟩; refine ⟨_, rfl, ?_⟩))
 go_ret
 exact ⟨by first | rfl | (simp; done) | (simp [*]; done), by repeat (first | exact Drawn0.refl _ | apply Drawn0.step)⟩
end
section
open Go.RowKit Go.Proofs.YtljfljekcpdpiaaGreatW.PrintWords Go.Proofs.YtljfljekcpdpiaaGreatW.PrintLast Go.Proofs.YtljfljekcpdpiaaGreatW.PrintMore
open Go.Sort (putRow Holds)
attribute [local go_sem] max2_int min2_int max_two min_two
theorem wrap_id {x : Int} (h1 : -9223372036854775808 ≤ x) (h2 : x ≤ 9223372036854775807) : wrap64 x = x := by unfold wrap64; omega
theorem down_f (n d : Int) (hd : 0 < d) (hn1 : -1000000000000000000 ≤ n) (hn2 : n ≤ 1000000000000000000) : b_down.f n d = some (n / d) := by
  unfold b_down.f
  rw [if_neg (by omega)]
  have hq : Int.tdiv n d = if 0 ≤ n then n / d else -((-n) / d) := by
    split
    · rename_i h; exact Int.tdiv_eq_ediv_of_nonneg h
    · rename_i h
      have := Int.neg_tdiv (a := -n) (b := d)
      rw [Int.neg_neg] at this
      rw [this, Int.tdiv_eq_ediv_of_nonneg (by omega)]
  have hr : Int.tmod n d = n - d * Int.tdiv n d := by have := Int.mul_tdiv_add_tmod n d; omega
  have e1 := Int.mul_ediv_add_emod n d
  have e2 := Int.emod_nonneg n (show d ≠ 0 by omega)
  have e3 := Int.emod_lt_of_pos n hd
  have f1 := Int.mul_ediv_add_emod (-n) d
  have f2 := Int.emod_nonneg (-n) (show d ≠ 0 by omega)
  have f3 := Int.emod_lt_of_pos (-n) hd
  have habs : ∀ m : Int, -1000000000000000000 ≤ m → m ≤ 1000000000000000000 → -1000000000000000000 ≤ m / d ∧ m / d ≤ 1000000000000000000 := by
    intro m h1 h2
    constructor
    · exact (Int.le_ediv_iff_mul_le hd).2 (by have := Int.mul_le_mul_of_nonpos_left (show (-1000000000000000000 : Int) ≤ 0 by omega) (show (1:Int) ≤ d by omega); omega)
    · by_cases hm : 0 ≤ m
      · exact Int.le_trans (Int.ediv_le_self _ hm) h2
      · have : m / d < 0 := Int.ediv_neg_of_neg_of_pos (by omega) hd
        omega
  have g1 := habs n hn1 hn2
  have g2 := habs (-n) (by omega) (by omega)
  by_cases h0 : 0 ≤ n
  · rw [if_pos h0] at hq
    rw [hq] at hr ⊢
    rw [if_neg (by omega), wrap_id (by omega) (by omega)]
  · rw [if_neg h0] at hq
    rw [hq] at hr ⊢
    rw [wrap_id (x := -(-n / d)) (by omega) (by omega)]
    by_cases hz : Int.tmod n d < 0
    · rw [if_pos hz, wrap_id (by omega) (by omega)]
      congr 1
      have h1 : n - d * (-(-n / d)) < 0 := by omega
      have h2 : d * (-(-n/d)) = -(d * (-n / d)) := Int.mul_neg ..
      have h3 : d * (n / d + (-n) / d) = -(n % d + (-n) % d) := by rw [Int.mul_add]; omega
      have h4 : n / d + (-n) / d < 0 := by
        apply Int.not_le.1; intro hle
        have := Int.mul_nonneg (show 0 ≤ d by omega) hle
        omega
      have h5 : -2 < n / d + (-n) / d := by
        apply Int.not_le.1; intro hle
        have := Int.mul_le_mul_of_nonneg_left hle (show 0 ≤ d by omega)
        omega
      omega
    · rw [if_neg hz]
      congr 1
      have h2 : d * (-(-n/d)) = -(d * (-n / d)) := Int.mul_neg ..
      have h3 : d * (n / d + (-n) / d) = -(n % d + (-n) % d) := by rw [Int.mul_add]; omega
      have hs : (-n) % d = 0 := by omega
      have hs2 : n % d = 0 := by
        have hdv : d ∣ -n := Int.dvd_of_emod_eq_zero hs
        exact Int.emod_eq_zero_of_dvd (Int.dvd_neg.1 hdv)
      have h4 : d * (n / d + (-n) / d) = 0 := by omega
      rcases Int.mul_eq_zero.1 h4 with h | h <;> omega
theorem up_f (n d : Int) (hd : 0 < d) (hn1 : -1000000000000000000 ≤ n) (hn2 : n ≤ 1000000000000000000) : b_up.f n d = some (-((-n) / d)) := by
  unfold b_up.f
  rw [wrap_id (by omega) (by omega), down_f (-n) d hd (by omega) (by omega)]
  simp only [Option.bind_some]
  congr 1
  apply wrap_id
  · have : -n / d ≤ 1000000000000000000 := by
      by_cases hm : 0 ≤ -n
      · exact Int.le_trans (Int.ediv_le_self _ hm) (by omega)
      · have : -n / d < 0 := Int.ediv_neg_of_neg_of_pos (by omega) hd
        omega
    omega
  · have : -1000000000000000000 ≤ -n / d := (Int.le_ediv_iff_mul_le hd).2 (by have := Int.mul_le_mul_of_nonpos_left (show (-1000000000000000000 : Int) ≤ 0 by omega) (show (1:Int) ≤ d by omega); omega)
    omega
def sumTo (f : Nat → Int) : Nat → Int
  | 0 => 0
  | n + 1 => sumTo f n + f n
theorem sumTo_bound {f : Nat → Int} {M : Int} {n : Nat} (h : ∀ j, j < n → -M ≤ f j ∧ f j ≤ M) : ∀ k, k ≤ n → -(k * M) ≤ sumTo f k ∧ sumTo f k ≤ k * M := by
  intro k
  induction k with
  | zero => intro _; simp [sumTo]
  | succ k ih =>
    intro hk
    have h1 := ih (by omega)
    have h2 := h k (by omega)
    have h3 : ((k + 1 : Nat) : Int) * M = k * M + M := by rw [Int.natCast_succ, Int.add_mul, Int.one_mul]
    rw [h3]
    simp only [sumTo]
    omega
theorem sumTo_pos {f : Nat → Int} {n : Nat} (h : ∀ j, j < n → 0 ≤ f j) : ∀ k, k ≤ n → 0 ≤ sumTo f k := by
  intro k
  induction k with
  | zero => intro _; simp [sumTo]
  | succ k ih => intro hk; have := ih (by omega); have := h k (by omega); simp only [sumTo]; omega
def wX (l : List S27) (D : Array Int) (cut j : Nat) : Int := if (j : Int) < (cut : Int) then (rd_T27 l D[j]!).f1 else (rd_T27 l D[j]!).f0
def wY (l : List S27) (D : Array Int) (cut j : Nat) : Int := if (j : Int) < (cut : Int) then (rd_T27 l D[j]!).f0 else (rd_T27 l D[j]!).f1
def lowN (cf : Int → Int) (l : List S27) (D : Array Int) (cut : Nat) : Nat → Int := sumTo fun j => cf D[j]! * wX l D cut j
def lowD (l : List S27) (D : Array Int) (cut : Nat) : Nat → Int := sumTo (wX l D cut)
def highN (cf : Int → Int) (l : List S27) (D : Array Int) (cut : Nat) : Nat → Int := sumTo fun j => cf D[j]! * wY l D cut j
def highD (l : List S27) (D : Array Int) (cut : Nat) : Nat → Int := sumTo (wY l D cut)
def lowQ (cf : Int → Int) (l : List S27) (D : Array Int) (cut : Nat) : Int := lowN cf l D cut l.length / lowD l D cut l.length
def highQ (cf : Int → Int) (l : List S27) (D : Array Int) (cut : Nat) : Int := -((-highN cf l D cut l.length) / highD l D cut l.length)
def minF (F : Nat → Int) : Nat → Int
  | 0 => F 0
  | n + 1 => if F (n + 1) < minF F n then F (n + 1) else minF F n
def maxF (F : Nat → Int) : Nat → Int
  | 0 => F 0
  | n + 1 => if maxF F n < F (n + 1) then F (n + 1) else maxF F n
def atCut (F : Nat → Int) (g : (Nat → Int) → Nat → Int) : Nat → Int
  | 0 => 0
  | n + 1 => g F n
def orderOf (cf : Int → Int) (n : Nat) : Array Int := Sort.insertionSort (ltC fun a b => cf a - cf b) (Array.ofFn fun j : Fin n => (j.val : Int)) 0 n
def meanLo (cf : Int → Int) (l : List S27) : Int := minF (lowQ cf l (orderOf cf l.length)) l.length
def meanHi (cf : Int → Int) (l : List S27) : Int := maxF (highQ cf l (orderOf cf l.length)) l.length
structure MeanOk (cf : Int → Int) (l : List S27) : Prop where
  n12 : l.length ≤ 12
  lo : ∀ k : Int, 0 ≤ k → k < l.length → 0 ≤ (rd_T27 l k).f0
  le : ∀ k : Int, 0 ≤ k → k < l.length → (rd_T27 l k).f0 ≤ (rd_T27 l k).f1
  hi : ∀ k : Int, 0 ≤ k → k < l.length → (rd_T27 l k).f1 ≤ 1000000000
  c1 : ∀ k : Int, 0 ≤ k → k < l.length → -100000 ≤ cf k
  c2 : ∀ k : Int, 0 ≤ k → k < l.length → cf k ≤ 100000
  pos : 0 < MeanMath.lsum S27.f0 l
end
section
mutual
def b_name.j0 : Nat → ByteArray → Bool → Option (Bool)
 | 0, _, _ => none
 | k + 1, x0, x22 => if x22 = true then (some false) else (b_name.l0 k x0 (x0.size : Int) 0)
def b_name.l0 : Nat → ByteArray → Int → Int → Option (Bool)
 | 0, _, _, _ => none
 | k + 1, x0, x24, x25 => if x25 < x24 then (if 0 ≤ x25 then (if x25 < (x0.size : Int) then (if (bt x0 x25) ≥ 97 then (if (bt x0 x25) ≤ 122 then (b_name.l0 k x0 x24 (wrap64 (x25 + 1))) else (if (bt x0 x25) ≥ 48 then (if (bt x0 x25) ≤ 57 then (b_name.l0 k x0 x24 (wrap64 (x25 + 1))) else (if ((bt x0 x25) = 45) then (b_name.l0 k x0 x24 (wrap64 (x25 + 1))) else (some false))) else (if ((bt x0 x25) = 45) then (b_name.l0 k x0 x24 (wrap64 (x25 + 1))) else (some false)))) else (if (bt x0 x25) ≥ 48 then (if (bt x0 x25) ≤ 57 then (b_name.l0 k x0 x24 (wrap64 (x25 + 1))) else (if ((bt x0 x25) = 45) then (b_name.l0 k x0 x24 (wrap64 (x25 + 1))) else (some false))) else (if ((bt x0 x25) = 45) then (b_name.l0 k x0 x24 (wrap64 (x25 + 1))) else (some false)))) else (none)) else (none)) else (some true)
end
def b_name.f (k : Nat) (a0 : ByteArray) : Option (Bool) := if (a0.size : Int) < 1 then (b_name.j0 k a0 true) else (if (a0.size : Int) > 16 then (b_name.j0 k a0 true) else (if 0 < (a0.size : Int) then (if (bt a0 0) < 97 then (b_name.j0 k a0 true) else (b_name.j0 k a0 (decide ((bt a0 0) > 122)))) else (none)))
theorem b_name.mono_l : ∀ k, (∀ y0 y1, LeO (b_name.j0 k y0 y1) (b_name.j0 (k + 1) y0 y1)) ∧ (∀ y0 y1 y2, LeO (b_name.l0 k y0 y1 y2) (b_name.l0 (k + 1) y0 y1 y2))
 | 0 => ⟨fun _ _ r h => by simp [b_name.j0] at h, fun _ _ _ r h => by simp [b_name.l0] at h⟩
 | k + 1 => by
  obtain ⟨ih0, ih1⟩ := b_name.mono_l k
  refine ⟨?_, ?_⟩
  ·intro y0 y1
   unfold b_name.j0
   repeat' first
   | (with_reducible exact ih0 _ _)
   | (with_reducible exact ih1 _ _ _)
   | (with_reducible exact LeO.refl _)
   | (with_reducible exact LeO.none _)
   | (with_reducible refine LeO.ite ?_ ?_)
   | (with_reducible refine LeO.bind ?_ (fun _ => ?_))
   | exact LeO.none _
   | refine LeO.ite ?_ ?_
   | refine LeO.bind ?_ (fun _ => ?_)
  ·intro y0 y1 y2
   unfold b_name.l0
   repeat' first
   | (with_reducible exact ih0 _ _)
   | (with_reducible exact ih1 _ _ _)
   | (with_reducible exact LeO.refl _)
   | (with_reducible exact LeO.none _)
   | (with_reducible refine LeO.ite ?_ ?_)
   | (with_reducible refine LeO.bind ?_ (fun _ => ?_))
   | exact LeO.none _
   | refine LeO.ite ?_ ?_
   | refine LeO.bind ?_ (fun _ => ?_)
theorem b_name.mono : ∀ a0 k, LeO (b_name.f k a0) (b_name.f (k + 1) a0) := by
 intro a0 k
 obtain ⟨ih0, ih1⟩ := b_name.mono_l k
 unfold b_name.f
 repeat' first
   | (with_reducible exact ih0 _ _)
   | (with_reducible exact ih1 _ _ _)
   | (with_reducible exact LeO.refl _)
   | (with_reducible exact LeO.none _)
   | (with_reducible refine LeO.ite ?_ ?_)
   | (with_reducible refine LeO.bind ?_ (fun _ => ?_))
   | exact LeO.none _
   | refine LeO.ite ?_ ?_
   | refine LeO.bind ?_ (fun _ => ?_)
theorem b_name.calls (k : Nat) (a0 : ByteArray) (r : Bool) (w : World) (h : b_name.f k a0 = some r) :
  Calls Tryz.prog 102 #[.string a0] w fun e w' => e = .returned (.bool r) ∧ Drawn0 w w' := by
 have H : (if (a0.size : Int) < 1 then (b_name.j0 k a0 true) else (if (a0.size : Int) > 16 then (b_name.j0 k a0 true) else (if 0 < (a0.size : Int) then (if (bt a0 0) < 97 then (b_name.j0 k a0 true) else (b_name.j0 k a0 (decide ((bt a0 0) > 122)))) else (none)))) = some r := h
 clear h; have HC2 := Sd.mk H; clear H
 go_enter Tryz.func102, Tryz.ntmps102
 go_upto_region 1 with (fail)
 go_cut [22] (fun v22 wc => ∃ (kq : Nat) (x221 : Bool), v22 = .bool x221 ∧ Sd (b_name.j0 kq a0 x221 = some r) ∧ Sd (kq ≤ k) ∧ Drawn0 w wc)
 case first =>
  have H := HC2.out; clear HC2
  by_cases c3 : (a0.size : Int) < 1
  ·rw [if_pos c3] at H
   have c3b0 : decide ((a0.size : Int) < 1) = true := decide_eq_true c3
   have c3b1 : decide (a0.size < 1) = true := decide_eq_true (by omega)
   clear c3
   (first | rw [c3b0] | (simp only [i64_w, i32_w]; rw [c3b0]) | skip)
   have H' := Sd.mk H; clear H
   go_wp2
   go_meet
   case rel => exact ⟨_, (true), tS, H', ⟨by first | omega | exact Nat.le_refl _⟩, by repeat (first | exact Drawn0.refl _ | apply Drawn0.step)⟩
  ·rw [if_neg c3] at H
   have c3b0 : decide ((a0.size : Int) < 1) = false := decide_eq_false c3
   have c3b1 : decide (a0.size < 1) = false := decide_eq_false (by omega)
   clear c3
   (first | rw [c3b0] | (simp only [i64_w, i32_w]; rw [c3b0]) | skip)
   by_cases c4 : (a0.size : Int) > 16
   ·rw [if_pos c4] at H
    have c4b0 : decide (16 < (a0.size : Int)) = true := decide_eq_true c4
    have c4b1 : decide (16 < a0.size) = true := decide_eq_true (by omega)
    clear c4; have H' := Sd.mk H; clear H
    go_wp2
    go_meet
    case rel => exact ⟨_, (true), tS, H', ⟨by first | omega | exact Nat.le_refl _⟩, by repeat (first | exact Drawn0.refl _ | apply Drawn0.step)⟩
   ·rw [if_neg c4] at H
    have c4b0 : decide (16 < (a0.size : Int)) = false := decide_eq_false c4
    have c4b1 : decide (16 < a0.size) = false := decide_eq_false (by omega)
    clear c4
    by_cases c5 : 0 < (a0.size : Int)
    ·rw [if_pos c5] at H
     have c5b0 : decide (0 < (a0.size : Int)) = true := decide_eq_true c5
     have c5b1 : decide (0 < a0.size) = true := decide_eq_true (by omega)
     clear c5
     by_cases c7 : (bt a0 0) < 97
     ·rw [if_pos c7] at H
      have c7b0 : decide ((bt a0 0) < 97) = true := decide_eq_true c7
      clear c7; have H' := Sd.mk H; clear H
      have p6 : 0 ≤ (0 : Int) := (by omega)
      have q6 : 0 < a0.size := (by have : (0 : Int) < (a0.size : Int) := tB; omega)
      have hx6 : ∀ h : 0 < a0.size, ((a0[0]'h).toNat : Int) = bt a0 0 := bt_at a0 0
      clear p6
      have qi6 : (0 < (a0.size : Int)) = True := eq_true (tB)
      replace q6 := eq_true q6
      go_wp2
      go_meet
      case rel => exact ⟨_, (true), tS, H', ⟨by first | omega | exact Nat.le_refl _⟩, by repeat (first | exact Drawn0.refl _ | apply Drawn0.step)⟩
     ·rw [if_neg c7] at H
      have c7b0 : decide ((bt a0 0) < 97) = false := decide_eq_false c7
      clear c7; have H' := Sd.mk H; clear H
      have p6 : 0 ≤ (0 : Int) := (by omega)
      have q6 : 0 < a0.size := (by have : (0 : Int) < (a0.size : Int) := tB; omega)
      have hx6 : ∀ h : 0 < a0.size, ((a0[0]'h).toNat : Int) = bt a0 0 := bt_at a0 0
      clear p6
      have qi6 : (0 < (a0.size : Int)) = True := eq_true (tB)
      replace q6 := eq_true q6
      have p8 : 0 ≤ (0 : Int) := (by omega)
      have q8 : 0 < a0.size := (by have : (0 : Int) < (a0.size : Int) := tB; omega)
      have hx8 : ∀ h : 0 < a0.size, ((a0[0]'h).toNat : Int) = bt a0 0 := bt_at a0 0
      clear p8
      have qi8 : (0 < (a0.size : Int)) = True := eq_true (tB)
      replace q8 := eq_true q8
      go_wp2
      go_meet
      case rel => exact ⟨_, (decide ((bt a0 0) > 122)), tS, H', ⟨by first | omega | exact Nat.le_refl _⟩, by repeat (first | exact Drawn0.refl _ | apply Drawn0.step)⟩
    ·rw [if_neg c5] at H
     exact absurd H (by simp)
 case rest =>
  clear HC2; (try clear c1); (try clear p2); (try clear c3); (try clear c3b0); (try clear c3b1); (try clear c4); (try clear c4b0); (try clear c4b1); (try clear c5); (try clear c5b0); (try clear c5b1); (try clear p6 p6); (try clear q6 q6); (try clear hx6); (try clear qi6); (try clear c7); (try clear c7b0); (try clear p8 p8); (try clear q8 q8); (try clear hx8); (try clear qi8)
  obtain ⟨kq, x221, rfl, HA, HJ1, ⟨mc1, rfl⟩⟩ := hcut
  cases kq with
  | zero => exact absurd HA.out (by simp [b_name.j0])
  | succ kj1 =>
   have H := HA.out; clear HA
   simp only [b_name.j0] at H
   by_cases c9 : x221 = true
   ·subst c9
    have H1 : (some false) = some r := by rw [if_pos rfl] at H; exact H
    clear H; have H := H1; clear H1; obtain rfl := Option.some.inj H
    go_wp2
    go_ret
    exact ⟨by first | rfl | (simp; done) | (simp [*]; done), by repeat (first | exact Drawn0.refl _ | apply Drawn0.step)⟩
   ·replace c9 := Bool.eq_false_iff.mpr c9
    subst c9
    have H1 : (b_name.l0 kj1 a0 (a0.size : Int) 0) = some r := by rw [if_neg (show ¬ (false = true) by decide)] at H; exact H
    clear H; have H := H1; clear H1; have H' := Sd.mk H; clear H
    go_wp2
    go_loopg [25] kj1 (fun kq v25 w' => ∃ (x252 : Int), v25 = .int .i64 x252 ∧ Sd (b_name.l0 kq a0 (a0.size : Int) x252 = some r) ∧ Sd (kq ≤ kj1) ∧ Drawn0 w w')
    case atStart => exact ⟨(0), tS, H', ⟨Nat.le_refl _⟩, by repeat (first | exact Drawn0.refl _ | apply Drawn0.step)⟩
    case round =>
     clear H'; (try clear c1); (try clear p2 p2); (try clear c3); (try clear c3b0); (try clear c3b1); (try clear c4); (try clear c4b0); (try clear c4b1); (try clear c5); (try clear c5b0); (try clear c5b1); (try clear p6 p6); (try clear q6 q6); (try clear hx6); (try clear qi6); (try clear c7); (try clear c7b0); (try clear p8 p8); (try clear q8 q8); (try clear hx8); (try clear qi8); (try clear c9)
     obtain ⟨x252, rfl, HA, HK2, ⟨m2, rfl⟩⟩ := hrel
     cases gk with
     | zero => exact absurd HA.out (by simp [b_name.l0])
     | succ k2 =>
      have H := HA.out; clear HA
      simp only [b_name.l0] at H
      by_cases c10 : x252 < (a0.size : Int)
      ·rw [if_pos c10] at H
       have c10b0 : decide (x252 < (a0.size : Int)) = true := decide_eq_true c10
       clear c10
       by_cases c11 : 0 ≤ x252
       ·rw [if_pos c11] at H
        have c11b0 : decide (0 ≤ x252) = true := decide_eq_true c11
        clear c11
        by_cases c12 : x252 < (a0.size : Int)
        ·rw [if_pos c12] at H
         have c12b0 : decide (x252 < (a0.size : Int)) = true := decide_eq_true c12
         clear c12
         by_cases c14 : (bt a0 x252) ≥ 97
         ·rw [if_pos c14] at H
          have c14b0 : decide (97 ≤ (bt a0 x252)) = true := decide_eq_true c14
          clear c14
          by_cases c15 : (bt a0 x252) ≤ 122
          ·rw [if_pos c15] at H
           have c15b0 : decide ((bt a0 x252) ≤ 122) = true := decide_eq_true c15
           clear c15; have H' := Sd.mk H; clear H
           have p13 : 0 ≤ (x252 : Int) := tB
           have q13 : x252 < (a0.size : Int) := tB
           have hx13 := bt_at a0 x252; replace p13 := eq_true p13; replace q13 := eq_true q13
           go_wp2
           go_roundg k2
           case measure => have := HJ1.out; have := HK2.out; omega
           case rel => exact ⟨(wrap64 (x252 + 1)), tS, H', ⟨by have := HJ1.out; have := HK2.out; omega⟩, by repeat (first | exact Drawn0.refl _ | apply Drawn0.step)⟩
          ·rw [if_neg c15] at H
           have c15b0 : decide ((bt a0 x252) ≤ 122) = false := decide_eq_false c15
           clear c15
           by_cases c16 : (bt a0 x252) ≥ 48
           ·rw [if_pos c16] at H
            have c16b0 : decide (48 ≤ (bt a0 x252)) = true := decide_eq_true c16
            clear c16
            by_cases c17 : (bt a0 x252) ≤ 57
            ·rw [if_pos c17] at H
             have c17b0 : decide ((bt a0 x252) ≤ 57) = true := decide_eq_true c17
             clear c17; have H' := Sd.mk H; clear H
             have p13 : 0 ≤ (x252 : Int) := tB
             have q13 : x252 < (a0.size : Int) := tB
             have hx13 := bt_at a0 x252; replace p13 := eq_true p13; replace q13 := eq_true q13
             go_wp2
             go_roundg k2
             case measure => have := HJ1.out; have := HK2.out; omega
             case rel => exact ⟨(wrap64 (x252 + 1)), tS, H', ⟨by have := HJ1.out; have := HK2.out; omega⟩, by repeat (first | exact Drawn0.refl _ | apply Drawn0.step)⟩
            ·rw [if_neg c17] at H
             have c17b0 : decide ((bt a0 x252) ≤ 57) = false := decide_eq_false c17
             clear c17
             by_cases c18 : ((bt a0 x252) = 45)
             ·rw [if_pos c18] at H
              have c18b0 : ((bt a0 x252) == 45) = true := beq_iff_eq.mpr c18
              have c18b1 : ((bt a0 x252) != 45) = false := bne_eq_false_iff_eq.mpr c18
              clear c18; have H' := Sd.mk H; clear H
              have p13 : 0 ≤ (x252 : Int) := tB
              have q13 : x252 < (a0.size : Int) := tB
              have hx13 := bt_at a0 x252; replace p13 := eq_true p13; replace q13 := eq_true q13
              go_wp2
              go_roundg k2
              case measure => have := HJ1.out; have := HK2.out; omega
              case rel => exact ⟨(wrap64 (x252 + 1)), tS, H', ⟨by have := HJ1.out; have := HK2.out; omega⟩, by repeat (first | exact Drawn0.refl _ | apply Drawn0.step)⟩
             ·rw [if_neg c18] at H
              have c18b0 : ((bt a0 x252) == 45) = false := beq_eq_false_iff_ne.mpr c18
              have c18b1 : ((bt a0 x252) != 45) = true := bne_iff_ne.mpr c18
              obtain rfl := Option.some.inj H
              have p13 : 0 ≤ (x252 : Int) := tB
              have q13 : x252 < (a0.size : Int) := tB
              have hx13 := bt_at a0 x252; replace p13 := eq_true p13; replace q13 := eq_true q13
              go_wp2
              go_ret
              exact ⟨by first | rfl | (simp; done) | (simp [*]; done), by repeat (first | exact Drawn0.refl _ | apply Drawn0.step)⟩
           ·rw [if_neg c16] at H
            have c16b0 : decide (48 ≤ (bt a0 x252)) = false := decide_eq_false c16
            clear c16
            by_cases c19 : ((bt a0 x252) = 45)
            ·rw [if_pos c19] at H
             have c19b0 : ((bt a0 x252) == 45) = true := beq_iff_eq.mpr c19
             have c19b1 : ((bt a0 x252) != 45) = false := bne_eq_false_iff_eq.mpr c19
             clear c19; have H' := Sd.mk H; clear H
             have p13 : 0 ≤ (x252 : Int) := tB
             have q13 : x252 < (a0.size : Int) := tB
             have hx13 := bt_at a0 x252; replace p13 := eq_true p13; replace q13 := eq_true q13
             go_wp2
             go_roundg k2
             case measure => have := HJ1.out; have := HK2.out; omega
             case rel => exact ⟨(wrap64 (x252 + 1)), tS, H', ⟨by have := HJ1.out; have := HK2.out; omega⟩, by repeat (first | exact Drawn0.refl _ | apply Drawn0.step)⟩
            ·rw [if_neg c19] at H
             have c19b0 : ((bt a0 x252) == 45) = false := beq_eq_false_iff_ne.mpr c19
             have c19b1 : ((bt a0 x252) != 45) = true := bne_iff_ne.mpr c19
             obtain rfl := Option.some.inj H
             have p13 : 0 ≤ (x252 : Int) := tB
             have q13 : x252 < (a0.size : Int) := tB
             have hx13 := bt_at a0 x252; replace p13 := eq_true p13; replace q13 := eq_true q13
             go_wp2
             go_ret
             exact ⟨by first | rfl | (simp; done) | (simp [*]; done), by repeat (first | exact Drawn0.refl _ | apply Drawn0.step)⟩
         ·rw [if_neg c14] at H
          have c14b0 : decide (97 ≤ (bt a0 x252)) = false := decide_eq_false c14
          clear c14
          by_cases c20 : (bt a0 x252) ≥ 48
          ·rw [if_pos c20] at H
           have c20b0 : decide (48 ≤ (bt a0 x252)) = true := decide_eq_true c20
           clear c20
           by_cases c21 : (bt a0 x252) ≤ 57
           ·rw [if_pos c21] at H
            have c21b0 : decide ((bt a0 x252) ≤ 57) = true := decide_eq_true c21
            clear c21; have H' := Sd.mk H; clear H
            have p13 : 0 ≤ (x252 : Int) := tB
            have q13 : x252 < (a0.size : Int) := tB
            have hx13 := bt_at a0 x252; replace p13 := eq_true p13; replace q13 := eq_true q13
            go_wp2
            go_roundg k2
            case measure => have := HJ1.out; have := HK2.out; omega
            case rel => exact ⟨(wrap64 (x252 + 1)), tS, H', ⟨by have := HJ1.out; have := HK2.out; omega⟩, by repeat (first | exact Drawn0.refl _ | apply Drawn0.step)⟩
           ·rw [if_neg c21] at H
            have c21b0 : decide ((bt a0 x252) ≤ 57) = false := decide_eq_false c21
            clear c21
            by_cases c22 : ((bt a0 x252) = 45)
            ·rw [if_pos c22] at H
             have c22b0 : ((bt a0 x252) == 45) = true := beq_iff_eq.mpr c22
             have c22b1 : ((bt a0 x252) != 45) = false := bne_eq_false_iff_eq.mpr c22
             clear c22; have H' := Sd.mk H; clear H
             have p13 : 0 ≤ (x252 : Int) := tB
             have q13 : x252 < (a0.size : Int) := tB
             have hx13 := bt_at a0 x252; replace p13 := eq_true p13; replace q13 := eq_true q13
             go_wp2
             go_roundg k2
             case measure => have := HJ1.out; have := HK2.out; omega
             case rel => exact ⟨(wrap64 (x252 + 1)), tS, H', ⟨by have := HJ1.out; have := HK2.out; omega⟩, by repeat (first | exact Drawn0.refl _ | apply Drawn0.step)⟩
            ·rw [if_neg c22] at H
             have c22b0 : ((bt a0 x252) == 45) = false := beq_eq_false_iff_ne.mpr c22
             have c22b1 : ((bt a0 x252) != 45) = true := bne_iff_ne.mpr c22
             obtain rfl := Option.some.inj H
             have p13 : 0 ≤ (x252 : Int) := tB
             have q13 : x252 < (a0.size : Int) := tB
             have hx13 := bt_at a0 x252; replace p13 := eq_true p13; replace q13 := eq_true q13
             go_wp2
             go_ret
             exact ⟨by first | rfl | (simp; done) | (simp [*]; done), by repeat (first | exact Drawn0.refl _ | apply Drawn0.step)⟩
          ·rw [if_neg c20] at H
           have c20b0 : decide (48 ≤ (bt a0 x252)) = false := decide_eq_false c20
           clear c20
           by_cases c23 : ((bt a0 x252) = 45)
           ·rw [if_pos c23] at H
            have c23b0 : ((bt a0 x252) == 45) = true := beq_iff_eq.mpr c23
            have c23b1 : ((bt a0 x252) != 45) = false := bne_eq_false_iff_eq.mpr c23
            clear c23; have H' := Sd.mk H; clear H
            have p13 : 0 ≤ (x252 : Int) := tB
            have q13 : x252 < (a0.size : Int) := tB
            have hx13 := bt_at a0 x252; replace p13 := eq_true p13; replace q13 := eq_true q13
            go_wp2
            go_roundg k2
            case measure => have := HJ1.out; have := HK2.out; omega
            case rel => exact ⟨(wrap64 (x252 + 1)), tS, H', ⟨by have := HJ1.out; have := HK2.out; omega⟩, by repeat (first | exact Drawn0.refl _ | apply Drawn0.step)⟩
           ·rw [if_neg c23] at H
            have c23b0 : ((bt a0 x252) == 45) = false := beq_eq_false_iff_ne.mpr c23
            have c23b1 : ((bt a0 x252) != 45) = true := bne_iff_ne.mpr c23
            obtain rfl := Option.some.inj H
            have p13 : 0 ≤ (x252 : Int) := tB
            have q13 : x252 < (a0.size : Int) := tB
            have hx13 := bt_at a0 x252; replace p13 := eq_true p13; replace q13 := eq_true q13
            go_wp2
            go_ret
            exact ⟨by first | rfl | (simp; done) | (simp [*]; done), by repeat (first | exact Drawn0.refl _ | apply Drawn0.step)⟩
        ·rw [if_neg c12] at H
         exact absurd H (by simp)
       ·rw [if_neg c11] at H
        exact absurd H (by simp)
      ·rw [if_neg c10] at H
       have c10b0 : decide (x252 < (a0.size : Int)) = false := decide_eq_false c10
       clear c10; obtain rfl := Option.some.inj H
       go_wp2
       go_ret
       exact ⟨by first | rfl | (simp; done) | (simp [*]; done), by repeat (first | exact Drawn0.refl _ | apply Drawn0.step)⟩
end
end Go.Proofs.YtljfljekcpdpiaaGreat.PB
namespace Go.Proofs.YtljfljekcpdpiaaGreat.PB
open Go.RowKit Go.Proofs.YtljfljekcpdpiaaGreatW.PrintWords Go.Proofs.YtljfljekcpdpiaaGreatW.PrintLast Go.Proofs.YtljfljekcpdpiaaGreatW.PrintMore
def Ev {α : Type} (f : Nat → Option α) (v : α) : Prop := ∃ K, ∀ k, K ≤ k → f k = some v
namespace Ev
variable {α β : Type} {v u : α} {b : β}
theorem const (v : α) : Ev (fun _ => some v) v := ⟨0, fun _ _ => rfl⟩
theorem bind {f : Nat → Option α} {g : Nat → α → Option β} (h : Ev f v) (h' : Ev (fun k => g k v) b) : Ev (fun k => (f k).bind (g k)) b := by
  obtain ⟨K, h⟩ := h
  obtain ⟨K', h'⟩ := h'
  exact ⟨max K K', fun k hk => by show (f k).bind (g k) = some b; rw [h k (by omega)]; exact h' k (by omega)⟩
theorem step {f : Nat → Option α} (h : Ev (fun k => f (k + 1)) v) : Ev f v := by
  obtain ⟨K, h⟩ := h
  exact ⟨K + 1, fun k hk => by cases k with | zero => omega | succ k => exact h k (by omega)⟩
theorem cast {f : Nat → Option α} (h : Ev f v) (e : v = u) : Ev f u := e ▸ h
end Ev
theorem wrap_succ {i : Int} (h0 : 0 ≤ i) (h : i ≤ 1000000000) : wrap64 (i + 1) = i + 1 := wrap_id (by omega) (by omega)
def charB (c : Int) : Bool := decide (97 ≤ c ∧ c ≤ 122) || decide (48 ≤ c ∧ c ≤ 57) || decide (c = 45)
def nameFrom (x : ByteArray) : Nat → Int → Bool
  | 0, _ => true
  | m + 1, i => charB (bt x i) && nameFrom x m (i + 1)
def nameOk (x : ByteArray) : Bool := decide (1 ≤ x.size) && decide (x.size ≤ 16) && decide (97 ≤ bt x 0) && decide (bt x 0 ≤ 122) && nameFrom x x.size 0
theorem bname_l0 (x : ByteArray) (hx : x.size ≤ 16) : ∀ (m : Nat) (i : Int), 0 ≤ i → i + m = x.size → Ev (fun k => b_name.l0 k x x.size i) (nameFrom x m i)
  | 0, i, h0, hi => by
    apply Ev.step
    simp only [b_name.l0, if_neg (show ¬ i < (x.size : Int) by omega)]
    exact Ev.const _
  | m + 1, i, h0, hi => by
    have ih := bname_l0 x hx m (i + 1) (by omega) (by omega)
    apply Ev.step
    simp only [b_name.l0, if_pos (show i < (x.size : Int) by omega), if_pos h0, wrap_succ h0 (show i ≤ 1000000000 by omega)]
    by_cases h1 : bt x i ≥ 97 <;> by_cases h2 : bt x i ≤ 122 <;> by_cases h3 : bt x i ≥ 48 <;> by_cases h4 : bt x i ≤ 57 <;> by_cases h5 : bt x i = 45 <;> first
      | omega
      | (simp only [h1, h2, h3, h4, h5, if_true, if_false, ite_true, ite_false]
         first
           | exact ih.cast (by have hc : charB (bt x i) = true := (by simp only [charB, Bool.or_eq_true, decide_eq_true_eq]; omega); simp [nameFrom, hc])
           | exact (Ev.const false).cast (by have hc : charB (bt x i) = false := (by simp only [charB, Bool.or_eq_false_iff, decide_eq_false_iff_not]; omega); simp [nameFrom, hc]))
theorem bname (x : ByteArray) : Ev (fun k => b_name.f k x) (nameOk x) := by
  unfold b_name.f
  have hj : ∀ b : Bool, (b = false → x.size ≤ 16) → Ev (fun k => b_name.j0 k x b) (!b && nameFrom x x.size 0) := by
    intro b hb
    apply Ev.step
    cases b with
    | true => simp only [b_name.j0, if_true]; exact Ev.const _
    | false => simp only [b_name.j0, Bool.false_eq_true, if_false]; exact (bname_l0 x (hb rfl) x.size 0 (by omega) (by omega)).cast (by simp)
  by_cases h1 : (x.size : Int) < 1
  · simp only [if_pos h1]; exact (hj true (by simp)).cast (by simp [nameOk]; omega)
  · simp only [if_neg h1]
    by_cases h2 : (x.size : Int) > 16
    · simp only [if_pos h2]; exact (hj true (by simp)).cast (by simp [nameOk]; omega)
    · simp only [if_neg h2, if_pos (show 0 < (x.size : Int) by omega)]
      by_cases h3 : bt x 0 < 97
      · simp only [if_pos h3]; exact (hj true (by simp)).cast (by simp [nameOk]; omega)
      · simp only [if_neg h3]
        refine (hj _ (fun _ => by omega)).cast ?_
        by_cases h4 : bt x 0 > 122
        · simp [nameOk, h4]; try omega
        · have : 97 ≤ bt x 0 := by omega
          have : bt x 0 ≤ 122 := by omega
          have : x.size ≤ 16 := by omega
          have : 1 ≤ x.size := by omega
          simp [nameOk, *]
end Go.Proofs.YtljfljekcpdpiaaGreat.PB

namespace Go.Proofs.YtljfljekcpdpiaaGreat.PB
open Go.RowKit Go.Proofs.YtljfljekcpdpiaaGreatW.PrintWords Go.Proofs.YtljfljekcpdpiaaGreatW.PrintLast Go.Proofs.YtljfljekcpdpiaaGreatW.PrintMore
section
mutual
def rf_Name.j0 : Nat → ByteArray → Bool → Option (Bool)
 | 0, _, _ => none
 | k + 1, x0, x22 => if x22 = true then (some false) else (rf_Name.l0 k x0 0)
def rf_Name.l0 : Nat → ByteArray → Int → Option (Bool)
 | 0, _, _ => none
 | k + 1, x0, x3 => if x3 < (x0.size : Int) then (if 0 ≤ x3 then (if (bt x0 x3) ≥ 97 then (if (bt x0 x3) ≥ 48 then (if ((bt x0 x3) ≤ 122) then (rf_Name.l0 k x0 (wrap64 (x3 + 1))) else (if ((bt x0 x3) ≤ 57) then (rf_Name.l0 k x0 (wrap64 (x3 + 1))) else (if (bt x0 x3) = 45 then (rf_Name.l0 k x0 (wrap64 (x3 + 1))) else (some false)))) else (if ((bt x0 x3) ≤ 122) then (rf_Name.l0 k x0 (wrap64 (x3 + 1))) else (if (bt x0 x3) = 45 then (rf_Name.l0 k x0 (wrap64 (x3 + 1))) else (some false)))) else (if (bt x0 x3) ≥ 48 then (if ((bt x0 x3) ≤ 57) then (rf_Name.l0 k x0 (wrap64 (x3 + 1))) else (if (bt x0 x3) = 45 then (rf_Name.l0 k x0 (wrap64 (x3 + 1))) else (some false))) else (if (bt x0 x3) = 45 then (rf_Name.l0 k x0 (wrap64 (x3 + 1))) else (some false)))) else (none)) else (some true)
end
def rf_Name.f (k : Nat) (a0 : ByteArray) : Option (Bool) := if a0.toList = ([] : List UInt8) then (rf_Name.j0 k a0 true) else (if (a0.size : Int) > 16 then (rf_Name.j0 k a0 true) else (if 0 < (a0.size : Int) then (if (bt a0 0) < 97 then (rf_Name.j0 k a0 true) else (rf_Name.j0 k a0 (decide ((bt a0 0) > 122)))) else (none)))
theorem rf_Name.calls (k : Nat) (a0 : ByteArray) (r : Bool) (w : World) (h : rf_Name.f k a0 = some r) :
  Calls Tryz.prog 170 #[.string a0] w fun e w' => e = .returned (.bool r) ∧ Drawn0 w w' := by
 have H : (if a0.toList = ([] : List UInt8) then (rf_Name.j0 k a0 true) else (if (a0.size : Int) > 16 then (rf_Name.j0 k a0 true) else (if 0 < (a0.size : Int) then (if (bt a0 0) < 97 then (rf_Name.j0 k a0 true) else (rf_Name.j0 k a0 (decide ((bt a0 0) > 122)))) else (none)))) = some r := h
 clear h; have HC2 := Sd.mk H; clear H
 go_enter Tryz.func170, Tryz.ntmps170
 go_upto_region 1 with (fail)
 go_cut [22] (fun v22 wc => ∃ (kq : Nat) (x221 : Bool), v22 = .bool x221 ∧ Sd (rf_Name.j0 kq a0 x221 = some r) ∧ Sd (kq ≤ k) ∧ Drawn0 w wc)
 case first =>
  have H := HC2.out; clear HC2
  by_cases c3 : a0.toList = ([] : List UInt8)
  ·rw [if_pos c3] at H
   have c3b0 : (a0.toList == ([] : List UInt8)) = true := beq_iff_eq.mpr c3
   have c3b1 : (a0.toList != ([] : List UInt8)) = false := bne_eq_false_iff_eq.mpr c3
   clear c3
   (first | rw [c3b0] | (simp only [i64_w, i32_w]; rw [c3b0]) | skip)
   have H' := Sd.mk H; clear H
   go_wp2
   go_meet
   case rel => exact ⟨_, (true), tS, H', ⟨by first | omega | exact Nat.le_refl _⟩, by repeat (first | exact Drawn0.refl _ | apply Drawn0.step)⟩
  ·rw [if_neg c3] at H
   have c3b0 : (a0.toList == ([] : List UInt8)) = false := beq_eq_false_iff_ne.mpr c3
   have c3b1 : (a0.toList != ([] : List UInt8)) = true := bne_iff_ne.mpr c3
   (first | rw [c3b0] | (simp only [i64_w, i32_w]; rw [c3b0]) | skip)
   by_cases c4 : (a0.size : Int) > 16
   ·rw [if_pos c4] at H
    have c4b0 : decide (16 < (a0.size : Int)) = true := decide_eq_true c4
    have c4b1 : decide (16 < a0.size) = true := decide_eq_true (by omega)
    clear c4; have H' := Sd.mk H; clear H
    go_wp2
    go_meet
    case rel => exact ⟨_, (true), tS, H', ⟨by first | omega | exact Nat.le_refl _⟩, by repeat (first | exact Drawn0.refl _ | apply Drawn0.step)⟩
   ·rw [if_neg c4] at H
    have c4b0 : decide (16 < (a0.size : Int)) = false := decide_eq_false c4
    have c4b1 : decide (16 < a0.size) = false := decide_eq_false (by omega)
    clear c4
    by_cases c5 : 0 < (a0.size : Int)
    ·rw [if_pos c5] at H
     have c5b0 : decide (0 < (a0.size : Int)) = true := decide_eq_true c5
     have c5b1 : decide (0 < a0.size) = true := decide_eq_true (by omega)
     clear c5
     by_cases c7 : (bt a0 0) < 97
     ·rw [if_pos c7] at H
      have c7b0 : decide ((bt a0 0) < 97) = true := decide_eq_true c7
      clear c7; have H' := Sd.mk H; clear H
      have p6 : 0 ≤ (0 : Int) := (by omega)
      have q6 : 0 < a0.size := (by have : (0 : Int) < (a0.size : Int) := tB; omega)
      have hx6 : ∀ h : 0 < a0.size, ((a0[0]'h).toNat : Int) = bt a0 0 := bt_at a0 0
      clear p6
      have qi6 : (0 < (a0.size : Int)) = True := eq_true (tB)
      replace q6 := eq_true q6
      go_wp2
      go_meet
      case rel => exact ⟨_, (true), tS, H', ⟨by first | omega | exact Nat.le_refl _⟩, by repeat (first | exact Drawn0.refl _ | apply Drawn0.step)⟩
     ·rw [if_neg c7] at H
      have c7b0 : decide ((bt a0 0) < 97) = false := decide_eq_false c7
      clear c7; have H' := Sd.mk H; clear H
      have p6 : 0 ≤ (0 : Int) := (by omega)
      have q6 : 0 < a0.size := (by have : (0 : Int) < (a0.size : Int) := tB; omega)
      have hx6 : ∀ h : 0 < a0.size, ((a0[0]'h).toNat : Int) = bt a0 0 := bt_at a0 0
      clear p6
      have qi6 : (0 < (a0.size : Int)) = True := eq_true (tB)
      replace q6 := eq_true q6
      have p8 : 0 ≤ (0 : Int) := (by omega)
      have q8 : 0 < a0.size := (by have : (0 : Int) < (a0.size : Int) := tB; omega)
      have hx8 : ∀ h : 0 < a0.size, ((a0[0]'h).toNat : Int) = bt a0 0 := bt_at a0 0
      clear p8
      have qi8 : (0 < (a0.size : Int)) = True := eq_true (tB)
      replace q8 := eq_true q8
      go_wp2
      go_meet
      case rel => exact ⟨_, (decide ((bt a0 0) > 122)), tS, H', ⟨by first | omega | exact Nat.le_refl _⟩, by repeat (first | exact Drawn0.refl _ | apply Drawn0.step)⟩
    ·rw [if_neg c5] at H
     exact absurd H (by simp)
 case rest =>
  clear HC2; (try clear c1); (try clear p2); (try clear c3); (try clear c3b0); (try clear c3b1); (try clear c4); (try clear c4b0); (try clear c4b1); (try clear c5); (try clear c5b0); (try clear c5b1); (try clear p6 p6); (try clear q6 q6); (try clear hx6); (try clear qi6); (try clear c7); (try clear c7b0); (try clear p8 p8); (try clear q8 q8); (try clear hx8); (try clear qi8)
  obtain ⟨kq, x221, rfl, HA, HJ1, ⟨mc1, rfl⟩⟩ := hcut
  cases kq with
  | zero => exact absurd HA.out (by simp [rf_Name.j0])
  | succ kj1 =>
   have H := HA.out; clear HA
   simp only [rf_Name.j0] at H
   by_cases c9 : x221 = true
   ·subst c9
    have H1 : (some false) = some r := by rw [if_pos rfl] at H; exact H
    clear H; have H := H1; clear H1; obtain rfl := Option.some.inj H
    go_wp2
    go_ret
    exact ⟨by first | rfl | (simp; done) | (simp [*]; done), by repeat (first | exact Drawn0.refl _ | apply Drawn0.step)⟩
   ·replace c9 := Bool.eq_false_iff.mpr c9
    subst c9
    have H1 : (rf_Name.l0 kj1 a0 0) = some r := by rw [if_neg (show ¬ (false = true) by decide)] at H; exact H
    clear H; have H := H1; clear H1; have H' := Sd.mk H; clear H
    go_wp2
    go_loopg [3] kj1 (fun kq v3 w' => ∃ (x32 : Int), v3 = .int .i64 x32 ∧ Sd (rf_Name.l0 kq a0 x32 = some r) ∧ Sd (kq ≤ kj1) ∧ Drawn0 w w')
    case atStart => exact ⟨(0), tS, H', ⟨Nat.le_refl _⟩, by repeat (first | exact Drawn0.refl _ | apply Drawn0.step)⟩
    case round =>
     clear H'; (try clear c1); (try clear p2 p2); (try clear c3); (try clear c3b0); (try clear c3b1); (try clear c4); (try clear c4b0); (try clear c4b1); (try clear c5); (try clear c5b0); (try clear c5b1); (try clear p6 p6); (try clear q6 q6); (try clear hx6); (try clear qi6); (try clear c7); (try clear c7b0); (try clear p8 p8); (try clear q8 q8); (try clear hx8); (try clear qi8); (try clear c9)
     obtain ⟨x32, rfl, HA, HK2, ⟨m2, rfl⟩⟩ := hrel
     cases gk with
     | zero => exact absurd HA.out (by simp [rf_Name.l0])
     | succ k2 =>
      have H := HA.out; clear HA
      simp only [rf_Name.l0] at H
      by_cases c10 : x32 < (a0.size : Int)
      ·rw [if_pos c10] at H
       have c10b0 : decide (x32 < (a0.size : Int)) = true := decide_eq_true c10
       clear c10
       by_cases c11 : 0 ≤ x32
       ·rw [if_pos c11] at H
        have c11b0 : decide (0 ≤ x32) = true := decide_eq_true c11
        clear c11
        by_cases c13 : (bt a0 x32) ≥ 97
        ·rw [if_pos c13] at H
         have c13b0 : decide (97 ≤ (bt a0 x32)) = true := decide_eq_true c13
         clear c13
         by_cases c16 : (bt a0 x32) ≥ 48
         ·rw [if_pos c16] at H
          have c16b0 : decide (48 ≤ (bt a0 x32)) = true := decide_eq_true c16
          clear c16
          by_cases c18 : ((bt a0 x32) ≤ 122)
          ·rw [if_pos c18] at H
           have c18b0 : decide ((bt a0 x32) ≤ 122) = true := decide_eq_true c18
           clear c18; have H' := Sd.mk H; clear H
           have p12 : 0 ≤ (x32 : Int) := tB
           have q12 : x32 < (a0.size : Int) := tB
           have hx12 := bt_at a0 x32; replace p12 := eq_true p12; replace q12 := eq_true q12
           have p14 : 0 ≤ (x32 : Int) := tB
           have q14 : x32 < (a0.size : Int) := tB
           have hx14 := bt_at a0 x32; replace p14 := eq_true p14; replace q14 := eq_true q14
           have p15 : 0 ≤ (x32 : Int) := tB
           have q15 : x32 < (a0.size : Int) := tB
           have hx15 := bt_at a0 x32; replace p15 := eq_true p15; replace q15 := eq_true q15
           have p17 : 0 ≤ (x32 : Int) := tB
           have q17 : x32 < (a0.size : Int) := tB
           have hx17 := bt_at a0 x32; replace p17 := eq_true p17; replace q17 := eq_true q17
           go_wp2
           go_roundg k2
           case measure => have := HJ1.out; have := HK2.out; omega
           case rel => exact ⟨(wrap64 (x32 + 1)), tS, H', ⟨by have := HJ1.out; have := HK2.out; omega⟩, by repeat (first | exact Drawn0.refl _ | apply Drawn0.step)⟩
          ·rw [if_neg c18] at H
           have c18b0 : decide ((bt a0 x32) ≤ 122) = false := decide_eq_false c18
           clear c18
           by_cases c19 : ((bt a0 x32) ≤ 57)
           ·rw [if_pos c19] at H
            have c19b0 : decide ((bt a0 x32) ≤ 57) = true := decide_eq_true c19
            clear c19; have H' := Sd.mk H; clear H
            have p12 : 0 ≤ (x32 : Int) := tB
            have q12 : x32 < (a0.size : Int) := tB
            have hx12 := bt_at a0 x32; replace p12 := eq_true p12; replace q12 := eq_true q12
            have p14 : 0 ≤ (x32 : Int) := tB
            have q14 : x32 < (a0.size : Int) := tB
            have hx14 := bt_at a0 x32; replace p14 := eq_true p14; replace q14 := eq_true q14
            have p15 : 0 ≤ (x32 : Int) := tB
            have q15 : x32 < (a0.size : Int) := tB
            have hx15 := bt_at a0 x32; replace p15 := eq_true p15; replace q15 := eq_true q15
            have p17 : 0 ≤ (x32 : Int) := tB
            have q17 : x32 < (a0.size : Int) := tB
            have hx17 := bt_at a0 x32; replace p17 := eq_true p17; replace q17 := eq_true q17
            go_wp2
            go_roundg k2
            case measure => have := HJ1.out; have := HK2.out; omega
            case rel => exact ⟨(wrap64 (x32 + 1)), tS, H', ⟨by have := HJ1.out; have := HK2.out; omega⟩, by repeat (first | exact Drawn0.refl _ | apply Drawn0.step)⟩
           ·rw [if_neg c19] at H
            have c19b0 : decide ((bt a0 x32) ≤ 57) = false := decide_eq_false c19
            clear c19
            by_cases c21 : (bt a0 x32) = 45
            ·rw [if_pos c21] at H
             have c21b0 : ((bt a0 x32) == 45) = true := beq_iff_eq.mpr c21
             have c21b1 : ((bt a0 x32) != 45) = false := bne_eq_false_iff_eq.mpr c21
             clear c21; have H' := Sd.mk H; clear H
             have p12 : 0 ≤ (x32 : Int) := tB
             have q12 : x32 < (a0.size : Int) := tB
             have hx12 := bt_at a0 x32; replace p12 := eq_true p12; replace q12 := eq_true q12
             have p14 : 0 ≤ (x32 : Int) := tB
             have q14 : x32 < (a0.size : Int) := tB
             have hx14 := bt_at a0 x32; replace p14 := eq_true p14; replace q14 := eq_true q14
             have p15 : 0 ≤ (x32 : Int) := tB
             have q15 : x32 < (a0.size : Int) := tB
             have hx15 := bt_at a0 x32; replace p15 := eq_true p15; replace q15 := eq_true q15
             have p17 : 0 ≤ (x32 : Int) := tB
             have q17 : x32 < (a0.size : Int) := tB
             have hx17 := bt_at a0 x32; replace p17 := eq_true p17; replace q17 := eq_true q17
             have p20 : 0 ≤ (x32 : Int) := tB
             have q20 : x32 < (a0.size : Int) := tB
             have hx20 := bt_at a0 x32; replace p20 := eq_true p20; replace q20 := eq_true q20
             go_wp2
             go_roundg k2
             case measure => have := HJ1.out; have := HK2.out; omega
             case rel => exact ⟨(wrap64 (x32 + 1)), tS, H', ⟨by have := HJ1.out; have := HK2.out; omega⟩, by repeat (first | exact Drawn0.refl _ | apply Drawn0.step)⟩
            ·rw [if_neg c21] at H
             have c21b0 : ((bt a0 x32) == 45) = false := beq_eq_false_iff_ne.mpr c21
             have c21b1 : ((bt a0 x32) != 45) = true := bne_iff_ne.mpr c21
             obtain rfl := Option.some.inj H
             have p12 : 0 ≤ (x32 : Int) := tB
             have q12 : x32 < (a0.size : Int) := tB
             have hx12 := bt_at a0 x32; replace p12 := eq_true p12; replace q12 := eq_true q12
             have p14 : 0 ≤ (x32 : Int) := tB
             have q14 : x32 < (a0.size : Int) := tB
             have hx14 := bt_at a0 x32; replace p14 := eq_true p14; replace q14 := eq_true q14
             have p15 : 0 ≤ (x32 : Int) := tB
             have q15 : x32 < (a0.size : Int) := tB
             have hx15 := bt_at a0 x32; replace p15 := eq_true p15; replace q15 := eq_true q15
             have p17 : 0 ≤ (x32 : Int) := tB
             have q17 : x32 < (a0.size : Int) := tB
             have hx17 := bt_at a0 x32; replace p17 := eq_true p17; replace q17 := eq_true q17
             have p20 : 0 ≤ (x32 : Int) := tB
             have q20 : x32 < (a0.size : Int) := tB
             have hx20 := bt_at a0 x32; replace p20 := eq_true p20; replace q20 := eq_true q20
             go_wp2
             go_ret
             exact ⟨by first | rfl | (simp; done) | (simp [*]; done), by repeat (first | exact Drawn0.refl _ | apply Drawn0.step)⟩
         ·rw [if_neg c16] at H
          have c16b0 : decide (48 ≤ (bt a0 x32)) = false := decide_eq_false c16
          clear c16
          by_cases c22 : ((bt a0 x32) ≤ 122)
          ·rw [if_pos c22] at H
           have c22b0 : decide ((bt a0 x32) ≤ 122) = true := decide_eq_true c22
           clear c22; have H' := Sd.mk H; clear H
           have p12 : 0 ≤ (x32 : Int) := tB
           have q12 : x32 < (a0.size : Int) := tB
           have hx12 := bt_at a0 x32; replace p12 := eq_true p12; replace q12 := eq_true q12
           have p14 : 0 ≤ (x32 : Int) := tB
           have q14 : x32 < (a0.size : Int) := tB
           have hx14 := bt_at a0 x32; replace p14 := eq_true p14; replace q14 := eq_true q14
           have p15 : 0 ≤ (x32 : Int) := tB
           have q15 : x32 < (a0.size : Int) := tB
           have hx15 := bt_at a0 x32; replace p15 := eq_true p15; replace q15 := eq_true q15
           go_wp2
           go_roundg k2
           case measure => have := HJ1.out; have := HK2.out; omega
           case rel => exact ⟨(wrap64 (x32 + 1)), tS, H', ⟨by have := HJ1.out; have := HK2.out; omega⟩, by repeat (first | exact Drawn0.refl _ | apply Drawn0.step)⟩
          ·rw [if_neg c22] at H
           have c22b0 : decide ((bt a0 x32) ≤ 122) = false := decide_eq_false c22
           clear c22
           by_cases c24 : (bt a0 x32) = 45
           ·rw [if_pos c24] at H
            have c24b0 : ((bt a0 x32) == 45) = true := beq_iff_eq.mpr c24
            have c24b1 : ((bt a0 x32) != 45) = false := bne_eq_false_iff_eq.mpr c24
            clear c24; have H' := Sd.mk H; clear H
            have p12 : 0 ≤ (x32 : Int) := tB
            have q12 : x32 < (a0.size : Int) := tB
            have hx12 := bt_at a0 x32; replace p12 := eq_true p12; replace q12 := eq_true q12
            have p14 : 0 ≤ (x32 : Int) := tB
            have q14 : x32 < (a0.size : Int) := tB
            have hx14 := bt_at a0 x32; replace p14 := eq_true p14; replace q14 := eq_true q14
            have p15 : 0 ≤ (x32 : Int) := tB
            have q15 : x32 < (a0.size : Int) := tB
            have hx15 := bt_at a0 x32; replace p15 := eq_true p15; replace q15 := eq_true q15
            have p23 : 0 ≤ (x32 : Int) := tB
            have q23 : x32 < (a0.size : Int) := tB
            have hx23 := bt_at a0 x32; replace p23 := eq_true p23; replace q23 := eq_true q23
            go_wp2
            go_roundg k2
            case measure => have := HJ1.out; have := HK2.out; omega
            case rel => exact ⟨(wrap64 (x32 + 1)), tS, H', ⟨by have := HJ1.out; have := HK2.out; omega⟩, by repeat (first | exact Drawn0.refl _ | apply Drawn0.step)⟩
           ·rw [if_neg c24] at H
            have c24b0 : ((bt a0 x32) == 45) = false := beq_eq_false_iff_ne.mpr c24
            have c24b1 : ((bt a0 x32) != 45) = true := bne_iff_ne.mpr c24
            obtain rfl := Option.some.inj H
            have p12 : 0 ≤ (x32 : Int) := tB
            have q12 : x32 < (a0.size : Int) := tB
            have hx12 := bt_at a0 x32; replace p12 := eq_true p12; replace q12 := eq_true q12
            have p14 : 0 ≤ (x32 : Int) := tB
            have q14 : x32 < (a0.size : Int) := tB
            have hx14 := bt_at a0 x32; replace p14 := eq_true p14; replace q14 := eq_true q14
            have p15 : 0 ≤ (x32 : Int) := tB
            have q15 : x32 < (a0.size : Int) := tB
            have hx15 := bt_at a0 x32; replace p15 := eq_true p15; replace q15 := eq_true q15
            have p23 : 0 ≤ (x32 : Int) := tB
            have q23 : x32 < (a0.size : Int) := tB
            have hx23 := bt_at a0 x32; replace p23 := eq_true p23; replace q23 := eq_true q23
            go_wp2
            go_ret
            exact ⟨by first | rfl | (simp; done) | (simp [*]; done), by repeat (first | exact Drawn0.refl _ | apply Drawn0.step)⟩
        ·rw [if_neg c13] at H
         have c13b0 : decide (97 ≤ (bt a0 x32)) = false := decide_eq_false c13
         clear c13
         by_cases c26 : (bt a0 x32) ≥ 48
         ·rw [if_pos c26] at H
          have c26b0 : decide (48 ≤ (bt a0 x32)) = true := decide_eq_true c26
          clear c26
          by_cases c28 : ((bt a0 x32) ≤ 57)
          ·rw [if_pos c28] at H
           have c28b0 : decide ((bt a0 x32) ≤ 57) = true := decide_eq_true c28
           clear c28; have H' := Sd.mk H; clear H
           have p12 : 0 ≤ (x32 : Int) := tB
           have q12 : x32 < (a0.size : Int) := tB
           have hx12 := bt_at a0 x32; replace p12 := eq_true p12; replace q12 := eq_true q12
           have p25 : 0 ≤ (x32 : Int) := tB
           have q25 : x32 < (a0.size : Int) := tB
           have hx25 := bt_at a0 x32; replace p25 := eq_true p25; replace q25 := eq_true q25
           have p27 : 0 ≤ (x32 : Int) := tB
           have q27 : x32 < (a0.size : Int) := tB
           have hx27 := bt_at a0 x32; replace p27 := eq_true p27; replace q27 := eq_true q27
           go_wp2
           go_roundg k2
           case measure => have := HJ1.out; have := HK2.out; omega
           case rel => exact ⟨(wrap64 (x32 + 1)), tS, H', ⟨by have := HJ1.out; have := HK2.out; omega⟩, by repeat (first | exact Drawn0.refl _ | apply Drawn0.step)⟩
          ·rw [if_neg c28] at H
           have c28b0 : decide ((bt a0 x32) ≤ 57) = false := decide_eq_false c28
           clear c28
           by_cases c30 : (bt a0 x32) = 45
           ·rw [if_pos c30] at H
            have c30b0 : ((bt a0 x32) == 45) = true := beq_iff_eq.mpr c30
            have c30b1 : ((bt a0 x32) != 45) = false := bne_eq_false_iff_eq.mpr c30
            clear c30; have H' := Sd.mk H; clear H
            have p12 : 0 ≤ (x32 : Int) := tB
            have q12 : x32 < (a0.size : Int) := tB
            have hx12 := bt_at a0 x32; replace p12 := eq_true p12; replace q12 := eq_true q12
            have p25 : 0 ≤ (x32 : Int) := tB
            have q25 : x32 < (a0.size : Int) := tB
            have hx25 := bt_at a0 x32; replace p25 := eq_true p25; replace q25 := eq_true q25
            have p27 : 0 ≤ (x32 : Int) := tB
            have q27 : x32 < (a0.size : Int) := tB
            have hx27 := bt_at a0 x32; replace p27 := eq_true p27; replace q27 := eq_true q27
            have p29 : 0 ≤ (x32 : Int) := tB
            have q29 : x32 < (a0.size : Int) := tB
            have hx29 := bt_at a0 x32; replace p29 := eq_true p29; replace q29 := eq_true q29
            go_wp2
            go_roundg k2
            case measure => have := HJ1.out; have := HK2.out; omega
            case rel => exact ⟨(wrap64 (x32 + 1)), tS, H', ⟨by have := HJ1.out; have := HK2.out; omega⟩, by repeat (first | exact Drawn0.refl _ | apply Drawn0.step)⟩
           ·rw [if_neg c30] at H
            have c30b0 : ((bt a0 x32) == 45) = false := beq_eq_false_iff_ne.mpr c30
            have c30b1 : ((bt a0 x32) != 45) = true := bne_iff_ne.mpr c30
            obtain rfl := Option.some.inj H
            have p12 : 0 ≤ (x32 : Int) := tB
            have q12 : x32 < (a0.size : Int) := tB
            have hx12 := bt_at a0 x32; replace p12 := eq_true p12; replace q12 := eq_true q12
            have p25 : 0 ≤ (x32 : Int) := tB
            have q25 : x32 < (a0.size : Int) := tB
            have hx25 := bt_at a0 x32; replace p25 := eq_true p25; replace q25 := eq_true q25
            have p27 : 0 ≤ (x32 : Int) := tB
            have q27 : x32 < (a0.size : Int) := tB
            have hx27 := bt_at a0 x32; replace p27 := eq_true p27; replace q27 := eq_true q27
            have p29 : 0 ≤ (x32 : Int) := tB
            have q29 : x32 < (a0.size : Int) := tB
            have hx29 := bt_at a0 x32; replace p29 := eq_true p29; replace q29 := eq_true q29
            go_wp2
            go_ret
            exact ⟨by first | rfl | (simp; done) | (simp [*]; done), by repeat (first | exact Drawn0.refl _ | apply Drawn0.step)⟩
         ·rw [if_neg c26] at H
          have c26b0 : decide (48 ≤ (bt a0 x32)) = false := decide_eq_false c26
          clear c26
          by_cases c32 : (bt a0 x32) = 45
          ·rw [if_pos c32] at H
           have c32b0 : ((bt a0 x32) == 45) = true := beq_iff_eq.mpr c32
           have c32b1 : ((bt a0 x32) != 45) = false := bne_eq_false_iff_eq.mpr c32
           clear c32; have H' := Sd.mk H; clear H
           have p12 : 0 ≤ (x32 : Int) := tB
           have q12 : x32 < (a0.size : Int) := tB
           have hx12 := bt_at a0 x32; replace p12 := eq_true p12; replace q12 := eq_true q12
           have p25 : 0 ≤ (x32 : Int) := tB
           have q25 : x32 < (a0.size : Int) := tB
           have hx25 := bt_at a0 x32; replace p25 := eq_true p25; replace q25 := eq_true q25
           have p31 : 0 ≤ (x32 : Int) := tB
           have q31 : x32 < (a0.size : Int) := tB
           have hx31 := bt_at a0 x32; replace p31 := eq_true p31; replace q31 := eq_true q31
           go_wp2
           go_roundg k2
           case measure => have := HJ1.out; have := HK2.out; omega
           case rel => exact ⟨(wrap64 (x32 + 1)), tS, H', ⟨by have := HJ1.out; have := HK2.out; omega⟩, by repeat (first | exact Drawn0.refl _ | apply Drawn0.step)⟩
          ·rw [if_neg c32] at H
           have c32b0 : ((bt a0 x32) == 45) = false := beq_eq_false_iff_ne.mpr c32
           have c32b1 : ((bt a0 x32) != 45) = true := bne_iff_ne.mpr c32
           obtain rfl := Option.some.inj H
           have p12 : 0 ≤ (x32 : Int) := tB
           have q12 : x32 < (a0.size : Int) := tB
           have hx12 := bt_at a0 x32; replace p12 := eq_true p12; replace q12 := eq_true q12
           have p25 : 0 ≤ (x32 : Int) := tB
           have q25 : x32 < (a0.size : Int) := tB
           have hx25 := bt_at a0 x32; replace p25 := eq_true p25; replace q25 := eq_true q25
           have p31 : 0 ≤ (x32 : Int) := tB
           have q31 : x32 < (a0.size : Int) := tB
           have hx31 := bt_at a0 x32; replace p31 := eq_true p31; replace q31 := eq_true q31
           go_wp2
           go_ret
           exact ⟨by first | rfl | (simp; done) | (simp [*]; done), by repeat (first | exact Drawn0.refl _ | apply Drawn0.step)⟩
       ·rw [if_neg c11] at H
        exact absurd H (by simp)
      ·rw [if_neg c10] at H
       have c10b0 : decide (x32 < (a0.size : Int)) = false := decide_eq_false c10
       clear c10; obtain rfl := Option.some.inj H
       go_wp2
       go_ret
       exact ⟨by first | rfl | (simp; done) | (simp [*]; done), by repeat (first | exact Drawn0.refl _ | apply Drawn0.step)⟩
end
section
def rf_in.l0 : Nat → List ByteArray → ByteArray → Int → Option (Bool)
 | 0, _, _, _ => none
 | k + 1, x0, x1, x5 => if x5 < (x0.length : Int) then (if 0 ≤ x5 then (if (rdOf ByteArray.empty x0 x5).toList = x1.toList then (some true) else (rf_in.l0 k x0 x1 (wrap64 (x5 + 1)))) else (none)) else (some false)
def rf_in.f (k : Nat) (l0 : List ByteArray) (a1 : ByteArray) : Option (Bool) := rf_in.l0 k l0 a1 0
theorem rf_in.calls (k : Nat) (A0 : Option Addr) (c0 : Nat) (l0 : List ByteArray) (a1 : ByteArray) (r : Bool) (w : World) (hr0 : Kd.C Kd.string w A0 l0.length l0) (hc0 : l0.length ≤ c0) (h : rf_in.f k l0 a1 = some r) :
  Calls Tryz.prog 171 #[.slice A0 l0.length c0, .string a1] w fun e w' => e = .returned (.bool r) ∧ Drawn0 w w' := by
 have HR0 := Sd.mk hr0; have HC0 := Sd.mk hc0; clear hr0 hc0
 have H : (rf_in.l0 k l0 a1 0) = some r := h
 clear h; have H' := Sd.mk H; clear H
 go_enter Tryz.func171, Tryz.ntmps171
 go_wp2
 go_loopg [5] k (fun kq v5 w' => ∃ (x51 : Int), v5 = .int .i64 x51 ∧ Sd (rf_in.l0 kq l0 a1 x51 = some r) ∧ Sd (kq ≤ k) ∧ Drawn0 w w')
 case atStart => exact ⟨(0), tS, H', ⟨Nat.le_refl _⟩, by repeat (first | exact Drawn0.refl _ | apply Drawn0.step)⟩
 case round =>
  clear H'; (try clear c1); (try clear p2)
  obtain ⟨x51, rfl, HA, HK1, ⟨m1, rfl⟩⟩ := hrel
  cases gk with
  | zero => exact absurd HA.out (by simp [rf_in.l0])
  | succ k1 =>
   have H := HA.out; clear HA
   simp only [rf_in.l0] at H
   by_cases c3 : x51 < (l0.length : Int)
   ·rw [if_pos c3] at H
    have c3b0 : decide (x51 < (l0.length : Int)) = true := decide_eq_true c3
    clear c3
    by_cases c4 : 0 ≤ x51
    ·rw [if_pos c4] at H
     have c4b0 : decide (0 ≤ x51) = true := decide_eq_true c4
     clear c4
     by_cases c5 : (rdOf ByteArray.empty l0 x51).toList = a1.toList
     ·rw [if_pos c5] at H
      have c5b0 : ((rdOf ByteArray.empty l0 x51).toList == a1.toList) = true := beq_iff_eq.mpr c5
      have c5b1 : ((rdOf ByteArray.empty l0 x51).toList != a1.toList) = false := bne_eq_false_iff_eq.mpr c5
      clear c5; obtain rfl := Option.some.inj H
      have p226 : 0 ≤ (x51 : Int) := tB
      have q226 : x51 < (l0.length : Int) := tB
      obtain ⟨ad226, e226, hx2260⟩ := Kd.at_string HR0.out x51 p226 q226; cases e226; replace p226 := eq_true p226; replace q226 := eq_true q226
      go_wp2
      go_ret
      exact ⟨by first | rfl | (simp; done) | (simp [*]; done), by repeat (first | exact Drawn0.refl _ | apply Drawn0.step)⟩
     ·rw [if_neg c5] at H
      have c5b0 : ((rdOf ByteArray.empty l0 x51).toList == a1.toList) = false := beq_eq_false_iff_ne.mpr c5
      have c5b1 : ((rdOf ByteArray.empty l0 x51).toList != a1.toList) = true := bne_iff_ne.mpr c5
      have H' := Sd.mk H; clear H
      have p226 : 0 ≤ (x51 : Int) := tB
      have q226 : x51 < (l0.length : Int) := tB
      obtain ⟨ad226, e226, hx2260⟩ := Kd.at_string HR0.out x51 p226 q226; cases e226; replace p226 := eq_true p226; replace q226 := eq_true q226
      go_wp2
      go_roundg k1
      case measure => have := HK1.out; omega
      case rel => exact ⟨(wrap64 (x51 + 1)), tS, H', ⟨by have := HK1.out; omega⟩, by repeat (first | exact Drawn0.refl _ | apply Drawn0.step)⟩
    ·rw [if_neg c4] at H
     exact absurd H (by simp)
   ·rw [if_neg c3] at H
    have c3b0 : decide (x51 < (l0.length : Int)) = false := decide_eq_false c3
    clear c3; obtain rfl := Option.some.inj H
    go_wp2
    go_ret
    exact ⟨by first | rfl | (simp; done) | (simp [*]; done), by repeat (first | exact Drawn0.refl _ | apply Drawn0.step)⟩
end
section
def slices_Index_string_string.l0 : Nat → List ByteArray → ByteArray → Int → Int → Option (Int)
 | 0, _, _, _, _ => none
 | k + 1, x0, x1, x7, x8 => if x8 < x7 then (if 0 ≤ x8 then (if x8 < (x0.length : Int) then (if x1.toList = (rdOf ByteArray.empty x0 x8).toList then (some x8) else (slices_Index_string_string.l0 k x0 x1 x7 (wrap64 (x8 + 1)))) else (none)) else (none)) else (some (-1))
def slices_Index_string_string.f (k : Nat) (l0 : List ByteArray) (a1 : ByteArray) : Option (Int) := slices_Index_string_string.l0 k l0 a1 (l0.length : Int) 0
theorem slices_Index_string_string.mono_l : ∀ k, (∀ y0 y1 y2 y3, LeO (slices_Index_string_string.l0 k y0 y1 y2 y3) (slices_Index_string_string.l0 (k + 1) y0 y1 y2 y3))
 | 0 => fun _ _ _ _ r h => by simp [slices_Index_string_string.l0] at h
 | k + 1 => by
  have ih0 := slices_Index_string_string.mono_l k
  ·intro y0 y1 y2 y3
   unfold slices_Index_string_string.l0
   repeat' first
   | (with_reducible exact ih0 _ _ _ _)
   | (with_reducible exact LeO.refl _)
   | (with_reducible exact LeO.none _)
   | (with_reducible refine LeO.ite ?_ ?_)
   | (with_reducible refine LeO.bind ?_ (fun _ => ?_))
   | exact LeO.none _
   | refine LeO.ite ?_ ?_
   | refine LeO.bind ?_ (fun _ => ?_)
theorem slices_Index_string_string.mono : ∀ a0 a1 k, LeO (slices_Index_string_string.f k a0 a1) (slices_Index_string_string.f (k + 1) a0 a1) := by
 intro a0 a1 k
 have ih0 := slices_Index_string_string.mono_l k
 unfold slices_Index_string_string.f
 repeat' first
   | (with_reducible exact ih0 _ _ _ _)
   | (with_reducible exact LeO.refl _)
   | (with_reducible exact LeO.none _)
   | (with_reducible refine LeO.ite ?_ ?_)
   | (with_reducible refine LeO.bind ?_ (fun _ => ?_))
   | exact LeO.none _
   | refine LeO.ite ?_ ?_
   | refine LeO.bind ?_ (fun _ => ?_)
theorem slices_Index_string_string.calls (k : Nat) (A0 : Option Addr) (c0 : Nat) (l0 : List ByteArray) (a1 : ByteArray) (r : Int) (w : World) (hr0 : Kd.C Kd.string w A0 l0.length l0) (hc0 : l0.length ≤ c0) (h : slices_Index_string_string.f k l0 a1 = some r) :
  Calls Tryz.prog 208 #[.slice A0 l0.length c0, .string a1] w fun e w' => e = .returned (.int .i64 r) ∧ Drawn0 w w' := by
 have HR0 := Sd.mk hr0; have HC0 := Sd.mk hc0; clear hr0 hc0
 have H : (slices_Index_string_string.l0 k l0 a1 (l0.length : Int) 0) = some r := h
 clear h; have H' := Sd.mk H; clear H
 go_enter Tryz.func208, Tryz.ntmps208
 go_wp2
 go_loopg [8] k (fun kq v8 w' => ∃ (x81 : Int), v8 = .int .i64 x81 ∧ Sd (slices_Index_string_string.l0 kq l0 a1 (l0.length : Int) x81 = some r) ∧ Sd (kq ≤ k) ∧ Drawn0 w w')
 case atStart => exact ⟨(0), tS, H', ⟨Nat.le_refl _⟩, by repeat (first | exact Drawn0.refl _ | apply Drawn0.step)⟩
 case round =>
  clear H'; (try clear c2); (try clear p2)
  obtain ⟨x81, rfl, HA, HK1, ⟨m1, rfl⟩⟩ := hrel
  cases gk with
  | zero => exact absurd HA.out (by simp [slices_Index_string_string.l0])
  | succ k1 =>
   have H := HA.out; clear HA
   simp only [slices_Index_string_string.l0] at H
   by_cases c3 : x81 < (l0.length : Int)
   ·rw [if_pos c3] at H
    have c3b0 : decide (x81 < (l0.length : Int)) = true := decide_eq_true c3
    clear c3
    by_cases c4 : 0 ≤ x81
    ·rw [if_pos c4] at H
     have c4b0 : decide (0 ≤ x81) = true := decide_eq_true c4
     clear c4
     by_cases c5 : x81 < (l0.length : Int)
     ·rw [if_pos c5] at H
      have c5b0 : decide (x81 < (l0.length : Int)) = true := decide_eq_true c5
      clear c5
      by_cases c6 : a1.toList = (rdOf ByteArray.empty l0 x81).toList
      ·rw [if_pos c6] at H
       have c6b0 : (a1.toList == (rdOf ByteArray.empty l0 x81).toList) = true := beq_iff_eq.mpr c6
       have c6b1 : (a1.toList != (rdOf ByteArray.empty l0 x81).toList) = false := bne_eq_false_iff_eq.mpr c6
       clear c6; obtain rfl := Option.some.inj H
       have p108 : 0 ≤ (x81 : Int) := tB
       have q108 : x81 < (l0.length : Int) := tB
       obtain ⟨ad108, e108, hx1080⟩ := Kd.at_string HR0.out x81 p108 q108; cases e108; replace p108 := eq_true p108; replace q108 := eq_true q108
       go_wp2
       go_ret
       exact ⟨by first | rfl | (simp; done) | (simp [*]; done), by repeat (first | exact Drawn0.refl _ | apply Drawn0.step)⟩
      ·rw [if_neg c6] at H
       have c6b0 : (a1.toList == (rdOf ByteArray.empty l0 x81).toList) = false := beq_eq_false_iff_ne.mpr c6
       have c6b1 : (a1.toList != (rdOf ByteArray.empty l0 x81).toList) = true := bne_iff_ne.mpr c6
       have H' := Sd.mk H; clear H
       have p108 : 0 ≤ (x81 : Int) := tB
       have q108 : x81 < (l0.length : Int) := tB
       obtain ⟨ad108, e108, hx1080⟩ := Kd.at_string HR0.out x81 p108 q108; cases e108; replace p108 := eq_true p108; replace q108 := eq_true q108
       go_wp2
       go_roundg k1
       case measure => have := HK1.out; omega
       case rel => exact ⟨(wrap64 (x81 + 1)), tS, H', ⟨by have := HK1.out; omega⟩, by repeat (first | exact Drawn0.refl _ | apply Drawn0.step)⟩
     ·rw [if_neg c5] at H
      exact absurd H (by simp)
    ·rw [if_neg c4] at H
     exact absurd H (by simp)
   ·rw [if_neg c3] at H
    have c3b0 : decide (x81 < (l0.length : Int)) = false := decide_eq_false c3
    clear c3; obtain rfl := Option.some.inj H
    go_wp2
    go_ret
    exact ⟨by first | rfl | (simp; done) | (simp [*]; done), by repeat (first | exact Drawn0.refl _ | apply Drawn0.step)⟩
end
section
def slices_Contains_string_string.f (k : Nat) (l0 : List ByteArray) (a1 : ByteArray) : Option (Bool) := (slices_Index_string_string.f k l0 a1).bind fun t109 => (some (decide (t109 ≥ 0)))
theorem slices_Contains_string_string.mono : ∀ a0 a1 k, LeO (slices_Contains_string_string.f k a0 a1) (slices_Contains_string_string.f (k + 1) a0 a1) := by
 intro a0 a1 k
 unfold slices_Contains_string_string.f
 repeat' first
   | (with_reducible exact slices_Index_string_string.mono _ _ _)
   | (with_reducible exact LeO.refl _)
   | (with_reducible exact LeO.none _)
   | (with_reducible refine LeO.ite ?_ ?_)
   | (with_reducible refine LeO.bind ?_ (fun _ => ?_))
   | exact LeO.none _
   | refine LeO.ite ?_ ?_
   | refine LeO.bind ?_ (fun _ => ?_)
theorem slices_Contains_string_string.calls (k : Nat) (A0 : Option Addr) (c0 : Nat) (l0 : List ByteArray) (a1 : ByteArray) (r : Bool) (w : World) (hr0 : Kd.C Kd.string w A0 l0.length l0) (hc0 : l0.length ≤ c0) (h : slices_Contains_string_string.f k l0 a1 = some r) :
  Calls Tryz.prog 177 #[.slice A0 l0.length c0, .string a1] w fun e w' => e = .returned (.bool r) ∧ Drawn0 w w' := by
 have HR0 := Sd.mk hr0; have HC0 := Sd.mk hc0; clear hr0 hc0
 have H : ((slices_Index_string_string.f k l0 a1).bind fun t109 => (some (decide (t109 ≥ 0)))) = some r := h
 clear h; replace H := Option.bind_eq_some_iff.mp H; obtain ⟨t109, A30, H⟩ := H
 try dsimp only at H
 have A3 := Sd.mk A30; clear A30; obtain rfl := Option.some.inj H
 go_enter Tryz.func177, Tryz.ntmps177
 go_wp2_with (first | ((with_reducible refine gate_callee (f := 208) rfl ?_); refine goesL_ (some 7) rfl rfl Tryz.func208 (by kernel_rfl) rfl #[.slice A0 l0.length c0, .string a1] rfl tM ?_; (with_reducible refine (slices_Index_string_string.calls k _ _ l0 a1 t109 _ ?side1 ?side2 A3.out).mono ?_); (case side1 => repeat (first | exact HR0.out | (with_reducible refine Kd.C_alloc ?_ _) | (with_reducible refine Kd.C_drewN ?_ _) | (with_reducible refine Kd.C_drew ?_))); (case side2 => exact HC0.out); rintro e w' ⟨rfl, ⟨nd, rfl⟩⟩; refine ⟨_, rfl, ?_⟩))
 go_ret
 exact ⟨by first | rfl | (simp; done) | (simp [*]; done), by repeat (first | exact Drawn0.refl _ | apply Drawn0.step)⟩
end
section
theorem toList_loop (x : ByteArray) : ∀ (m i : Nat) (r : List UInt8), i + m = x.size → (ByteArray.toList.loop x i r).length = r.length + m
  | 0, i, r, h => by
    unfold ByteArray.toList.loop
    rw [if_neg (by omega)]; simp
  | m + 1, i, r, h => by
    unfold ByteArray.toList.loop
    rw [if_pos (by omega), toList_loop x m (i + 1) _ (by omega)]; simp; omega
theorem toList_len (x : ByteArray) : x.toList.length = x.size := by
  have := toList_loop x x.size 0 [] (by omega)
  simpa [ByteArray.toList] using this
theorem toList_nil (x : ByteArray) : x.toList = [] ↔ x.size = 0 := by
  rw [← toList_len]; exact List.length_eq_zero_iff.symm
theorem rname_l0 (x : ByteArray) (hx : x.size ≤ 16) : ∀ (m : Nat) (i : Int), 0 ≤ i → i + m = x.size → Ev (fun k => rf_Name.l0 k x i) (nameFrom x m i)
  | 0, i, h0, hi => by
    apply Ev.step
    simp only [rf_Name.l0, if_neg (show ¬ i < (x.size : Int) by omega)]
    exact Ev.const _
  | m + 1, i, h0, hi => by
    have ih := rname_l0 x hx m (i + 1) (by omega) (by omega)
    apply Ev.step
    simp only [rf_Name.l0, if_pos (show i < (x.size : Int) by omega), if_pos h0, wrap_succ h0 (show i ≤ 1000000000 by omega)]
    by_cases h1 : bt x i ≥ 97 <;> by_cases h2 : bt x i ≤ 122 <;> by_cases h3 : bt x i ≥ 48 <;> by_cases h4 : bt x i ≤ 57 <;> by_cases h5 : bt x i = 45 <;> first
      | omega
      | (simp only [h1, h2, h3, h4, h5, if_true, if_false, ite_true, ite_false]
         first
           | exact ih.cast (by have hc : charB (bt x i) = true := (by simp only [charB, Bool.or_eq_true, decide_eq_true_eq]; omega); simp [nameFrom, hc])
           | exact (Ev.const false).cast (by have hc : charB (bt x i) = false := (by simp only [charB, Bool.or_eq_false_iff, decide_eq_false_iff_not]; omega); simp [nameFrom, hc]))
theorem rname (x : ByteArray) : Ev (fun k => rf_Name.f k x) (nameOk x) := by
  unfold rf_Name.f
  have hj : ∀ b : Bool, (b = false → x.size ≤ 16) → Ev (fun k => rf_Name.j0 k x b) (!b && nameFrom x x.size 0) := by
    intro b hb
    apply Ev.step
    cases b with
    | true => simp only [rf_Name.j0, if_true]; exact Ev.const _
    | false => simp only [rf_Name.j0, Bool.false_eq_true, if_false]; exact (rname_l0 x (hb rfl) x.size 0 (by omega) (by omega)).cast (by simp)
  by_cases h1 : x.toList = []
  · have := (toList_nil x).1 h1
    simp only [if_pos h1]; exact (hj true (by simp)).cast (by simp [nameOk]; omega)
  · have : ¬ x.size = 0 := fun h => h1 ((toList_nil x).2 h)
    simp only [if_neg h1]
    by_cases h2 : (x.size : Int) > 16
    · simp only [if_pos h2]; exact (hj true (by simp)).cast (by simp [nameOk]; omega)
    · simp only [if_neg h2, if_pos (show 0 < (x.size : Int) by omega)]
      by_cases h3 : bt x 0 < 97
      · simp only [if_pos h3]; exact (hj true (by simp)).cast (by simp [nameOk]; omega)
      · simp only [if_neg h3]
        refine (hj _ (fun _ => by omega)).cast ?_
        by_cases h4 : bt x 0 > 122
        · simp [nameOk, h4]; try omega
        · have : 97 ≤ bt x 0 := by omega
          have : bt x 0 ≤ 122 := by omega
          have : x.size ≤ 16 := by omega
          have : 1 ≤ x.size := by omega
          simp [nameOk, *]
theorem rin_l0 (l : List ByteArray) (x : ByteArray) (hl : l.length ≤ 1000) : ∀ (m : Nat) (i : Nat), i + m = l.length → Ev (fun k => rf_in.l0 k l x (i : Int)) ((l.drop i).any fun y => y.toList == x.toList)
  | 0, i, hi => by
    apply Ev.step
    simp only [rf_in.l0, if_neg (show ¬ (i : Int) < (l.length : Int) by omega)]
    exact (Ev.const _).cast (by rw [List.drop_eq_nil_of_le (by omega)]; rfl)
  | m + 1, i, hi => by
    have ih := rin_l0 l x hl m (i + 1) (by omega)
    have hlt : i < l.length := by omega
    apply Ev.step
    simp only [rf_in.l0, if_pos (show (i : Int) < (l.length : Int) by omega), if_pos (show 0 ≤ (i : Int) by omega), wrap_succ (show 0 ≤ (i : Int) by omega) (show (i : Int) ≤ 1000000000 by omega)]
    have hr : rdOf ByteArray.empty l (i : Int) = l[i] := by simp [rdOf, hlt]
    rw [hr, List.drop_eq_getElem_cons hlt]
    by_cases h : l[i].toList = x.toList
    · simp only [if_pos h]
      exact (Ev.const _).cast (by rw [List.any_cons, h, beq_self_eq_true, Bool.true_or])
    · simp only [if_neg h]
      exact ih.cast (by rw [List.any_cons, beq_eq_false_iff_ne.mpr h, Bool.false_or])
theorem rin (l : List ByteArray) (x : ByteArray) (hl : l.length ≤ 1000) : Ev (fun k => rf_in.f k l x) (l.any fun y => y.toList == x.toList) := by
  unfold rf_in.f
  exact (rin_l0 l x hl l.length 0 (by omega)).cast (by simp)
theorem bidx_l0 (l : List ByteArray) (x : ByteArray) (hl : l.length ≤ 1000) : ∀ (m : Nat) (i : Nat), i + m = l.length → ∃ r : Int, Ev (fun k => slices_Index_string_string.l0 k l x (l.length : Int) (i : Int)) r ∧ (decide (r ≥ 0) = (l.drop i).any fun y => y.toList == x.toList)
  | 0, i, hi => by
    refine ⟨-1, ?_, by rw [List.drop_eq_nil_of_le (by omega)]; rfl⟩
    apply Ev.step
    simp only [slices_Index_string_string.l0, if_neg (show ¬ (i : Int) < (l.length : Int) by omega)]
    exact Ev.const _
  | m + 1, i, hi => by
    obtain ⟨r, ih, hr'⟩ := bidx_l0 l x hl m (i + 1) (by omega)
    have hlt : i < l.length := by omega
    have hr : rdOf ByteArray.empty l (i : Int) = l[i] := by simp [rdOf, hlt]
    by_cases h : x.toList = l[i].toList
    · refine ⟨i, ?_, ?_⟩
      · apply Ev.step
        simp only [slices_Index_string_string.l0, if_pos (show (i : Int) < (l.length : Int) by omega), if_pos (show 0 ≤ (i : Int) by omega), hr, if_pos h]
        exact Ev.const _
      · rw [List.drop_eq_getElem_cons hlt, List.any_cons, h, beq_self_eq_true, Bool.true_or]; simp
    · refine ⟨r, ?_, ?_⟩
      · apply Ev.step
        simp only [slices_Index_string_string.l0, if_pos (show (i : Int) < (l.length : Int) by omega), if_pos (show 0 ≤ (i : Int) by omega), hr, if_neg h, wrap_succ (show 0 ≤ (i : Int) by omega) (show (i : Int) ≤ 1000000000 by omega)]
        exact ih
      · rw [List.drop_eq_getElem_cons hlt, hr']
        have h' : ¬ l[i].toList = x.toList := fun e => h e.symm
        rw [List.any_cons, beq_eq_false_iff_ne.mpr h', Bool.false_or]
theorem bcontains (l : List ByteArray) (x : ByteArray) (hl : l.length ≤ 1000) : Ev (fun k => slices_Contains_string_string.f k l x) (l.any fun y => y.toList == x.toList) := by
  unfold slices_Contains_string_string.f slices_Index_string_string.f
  obtain ⟨r, h, e⟩ := bidx_l0 l x hl l.length 0 (by omega)
  refine Ev.bind h ?_
  exact (Ev.const _).cast (by rw [e]; simp)
end
section
def b_within.f (a0 : Int) (a1 : Int) (a2 : Int) : Option (Bool) := if a0 ≥ a1 then (some (decide (a0 ≤ a2))) else (some false)
theorem b_within.calls (a0 : Int) (a1 : Int) (a2 : Int) (r : Bool) (w : World) (h : b_within.f a0 a1 a2 = some r) :
  Calls Tryz.prog 56 #[.int .i64 a0, .int .i64 a1, .int .i64 a2] w fun e w' => e = .returned (.bool r) ∧ Drawn0 w w' := by
 have H : (if a0 ≥ a1 then (some (decide (a0 ≤ a2))) else (some false)) = some r := h
 clear h
 by_cases c4 : a0 ≥ a1
 ·rw [if_pos c4] at H
  have c4b0 : decide (a1 ≤ a0) = true := decide_eq_true c4
  clear c4; obtain rfl := Option.some.inj H
  go_enter Tryz.func56, Tryz.ntmps56
  go_wp2
  go_ret
  exact ⟨by first | rfl | (simp; done) | (simp [*]; done), by repeat (first | exact Drawn0.refl _ | apply Drawn0.step)⟩
 ·rw [if_neg c4] at H
  have c4b0 : decide (a1 ≤ a0) = false := decide_eq_false c4
  clear c4; obtain rfl := Option.some.inj H
  go_enter Tryz.func56, Tryz.ntmps56
  go_wp2
  go_ret
  exact ⟨by first | rfl | (simp; done) | (simp [*]; done), by repeat (first | exact Drawn0.refl _ | apply Drawn0.step)⟩
end
section
def b_span.f (a00 : Int) (a01 : Int) (a1 : Int) (a2 : Int) : Option (Bool) := if a00 ≥ a1 then (if a00 ≤ a01 then (some (decide (a01 ≤ a2))) else (some false)) else (some false)
theorem b_span.calls (a00 : Int) (a01 : Int) (a1 : Int) (a2 : Int) (r : Bool) (w : World) (h : b_span.f a00 a01 a1 a2 = some r) :
  Calls Tryz.prog 101 #[.agg #[.int .i64 a00, .int .i64 a01], .int .i64 a1, .int .i64 a2] w fun e w' => e = .returned (.bool r) ∧ Below w.heap.size w w' := by
 have hu27 := Tryz.underlying27; have HB := Sd.mk (Below.refl w.heap.size w)
 have H : (if a00 ≥ a1 then (if a00 ≤ a01 then (some (decide (a01 ≤ a2))) else (some false)) else (some false)) = some r := h
 clear h
 by_cases c4 : a00 ≥ a1
 ·rw [if_pos c4] at H
  have c4b0 : decide (a1 ≤ a00) = true := decide_eq_true c4
  clear c4
  by_cases c5 : a00 ≤ a01
  ·rw [if_pos c5] at H
   have c5b0 : decide (a00 ≤ a01) = true := decide_eq_true c5
   clear c5; obtain rfl := Option.some.inj H
   go_enter Tryz.func101, Tryz.ntmps101
   go_wp2_with (first | ((with_reducible refine gate_dst (N := 3) rfl ?_); refine box_event ?hg (N := 3) ?hd (cs := #[.int .i64 a00, .int .i64 a01]) (t := 27) ?hr ?_; (case hd => rfl); (case hg => rfl); (case hr => exact tG); intro gb115 hg w6 hbox hb; have BK115 := Sd.mk (hbox); have GW115 := Sd.mk (bSz hg (bBl HB.out)); have GE115 := Sd.mk (bSz hg (bBl HB.out)); replace HB := Sd.mk (below_step (bBl HB.out) hb); clear hb hbox hg; obtain ⟨u7_0, u7_1, o70, o71⟩ := bc2 (w := w6) BK115.out))
   go_ret
   exact ⟨tE, bBl HB.out⟩
  ·rw [if_neg c5] at H
   have c5b0 : decide (a00 ≤ a01) = false := decide_eq_false c5
   clear c5; obtain rfl := Option.some.inj H
   go_enter Tryz.func101, Tryz.ntmps101
   go_wp2_with (first | ((with_reducible refine gate_dst (N := 3) rfl ?_); refine box_event ?hg (N := 3) ?hd (cs := #[.int .i64 a00, .int .i64 a01]) (t := 27) ?hr ?_; (case hd => rfl); (case hg => rfl); (case hr => exact tG); intro gb115 hg w8 hbox hb; have BK115 := Sd.mk (hbox); have GW115 := Sd.mk (bSz hg (bBl HB.out)); have GE115 := Sd.mk (bSz hg (bBl HB.out)); replace HB := Sd.mk (below_step (bBl HB.out) hb); clear hb hbox hg; obtain ⟨u9_0, u9_1, o90, o91⟩ := bc2 (w := w8) BK115.out))
   go_ret
   exact ⟨tE, bBl HB.out⟩
 ·rw [if_neg c4] at H
  have c4b0 : decide (a1 ≤ a00) = false := decide_eq_false c4
  clear c4; obtain rfl := Option.some.inj H
  go_enter Tryz.func101, Tryz.ntmps101
  go_wp2_with (first | ((with_reducible refine gate_dst (N := 3) rfl ?_); refine box_event ?hg (N := 3) ?hd (cs := #[.int .i64 a00, .int .i64 a01]) (t := 27) ?hr ?_; (case hd => rfl); (case hg => rfl); (case hr => exact tG); intro gb115 hg w10 hbox hb; have BK115 := Sd.mk (hbox); have GW115 := Sd.mk (bSz hg (bBl HB.out)); have GE115 := Sd.mk (bSz hg (bBl HB.out)); replace HB := Sd.mk (below_step (bBl HB.out) hb); clear hb hbox hg; obtain ⟨u11_0, u11_1, o110, o111⟩ := bc2 (w := w10) BK115.out))
  go_ret
  exact ⟨tE, bBl HB.out⟩
end
section
def outside (lo hi x : Int) : Bool := !(decide (lo ≤ x) && decide (x ≤ hi))
theorem within_f (a lo hi : Int) : b_within.f a lo hi = some (decide (lo ≤ a) && decide (a ≤ hi)) := by
  unfold b_within.f
  by_cases h : lo ≤ a <;> simp [h]
theorem span_f (a b lo hi : Int) : b_span.f a b lo hi = some (decide (lo ≤ a) && decide (a ≤ b) && decide (b ≤ hi)) := by
  unfold b_span.f
  by_cases h : lo ≤ a <;> by_cases h' : a ≤ b <;> simp [h, h']
theorem tells_coefs (x : Int) (w : World) : Tells 184 #[] (.int .i64 x) (outside (-10000) 10000 x) w := by
  intro W _
  have H := Sd.mk (b_within.calls x (-10000) 10000 _ W (within_f _ _ _))
  show Calls Tryz.prog 184 #[.int .i64 x] W _
  unfold outside
  go_enter Tryz.func184, Tryz.ntmps184
  go_wp2_with (go_at_call 56; refine H.out.mono ?_; rintro e w1 ⟨rfl, hb⟩)
  go_ret
  exact ⟨by first | rfl | simp [Bool.not_and], Drawn0.below hb⟩
def x_coefs.f (l : List Int) : Option Bool := some (l.any (outside (-10000) 10000))
theorem x_coefs.calls (A0 : Option Addr) (c0 : Nat) (l0 : List Int) (r : Bool) (w : World) (hr0 : Kd.C (Kd.int .i64) w A0 l0.length l0) (hc0 : l0.length ≤ c0) (h : x_coefs.f l0 = some r) :
    Calls Tryz.prog 106 #[.slice A0 l0.length c0, .func (.func 184) #[] #[]] w fun e w' => e = .returned (.bool r) ∧ Below w.heap.size w w' := by
  obtain rfl := Option.some.inj h
  exact containsFunc_int _ 184 #[] (enters_of Tryz.func184 (by kernel_rfl) rfl) A0 c0 l0 w hr0 (fun x _ => tells_coefs x w)
theorem tells_kilos (x : Int) (w : World) : Tells 196 #[] (.int .i64 x) (outside (0) 10000 x) w := by
  intro W _
  have H := Sd.mk (b_within.calls x (0) 10000 _ W (within_f _ _ _))
  show Calls Tryz.prog 196 #[.int .i64 x] W _
  unfold outside
  go_enter Tryz.func196, Tryz.ntmps196
  go_wp2_with (go_at_call 56; refine H.out.mono ?_; rintro e w1 ⟨rfl, hb⟩)
  go_ret
  exact ⟨by first | rfl | simp [Bool.not_and], Drawn0.below hb⟩
def x_kilos.f (l : List Int) : Option Bool := some (l.any (outside (0) 10000))
theorem x_kilos.calls (A0 : Option Addr) (c0 : Nat) (l0 : List Int) (r : Bool) (w : World) (hr0 : Kd.C (Kd.int .i64) w A0 l0.length l0) (hc0 : l0.length ≤ c0) (h : x_kilos.f l0 = some r) :
    Calls Tryz.prog 106 #[.slice A0 l0.length c0, .func (.func 196) #[] #[]] w fun e w' => e = .returned (.bool r) ∧ Below w.heap.size w w' := by
  obtain rfl := Option.some.inj h
  exact containsFunc_int _ 196 #[] (enters_of Tryz.func196 (by kernel_rfl) rfl) A0 c0 l0 w hr0 (fun x _ => tells_kilos x w)
def badSpan (s : S27) : Bool := !(decide (0 ≤ s.f0) && decide (s.f0 ≤ s.f1) && decide (s.f1 ≤ 1000))
theorem tells_spans (x : S27) (w : World) : Tells 100 #[] (.agg #[.int .i64 x.f0, .int .i64 x.f1]) (badSpan x) w := by
  intro W _
  have H := fun W => b_span.calls x.f0 x.f1 0 1000 _ W (span_f _ _ _ _)
  have H' := Sd.mk H
  clear H
  show Calls Tryz.prog 100 #[.agg #[.int .i64 x.f0, .int .i64 x.f1]] W _
  unfold badSpan
  generalize x.f0 = a at *
  generalize x.f1 = b at *
  go_enter Tryz.func100, Tryz.ntmps100
  go_wp2_with (go_at_call 101; refine (H'.out _).mono ?_; rintro e w1 ⟨rfl, hb⟩)
  go_ret
  exact ⟨by first | rfl | simp [Bool.not_and], below_trans' (below_alloc (Below.refl _ _) _) hb⟩
def x_spans.f (l : List S27) : Option Bool := some (l.any badSpan)
theorem x_spans.calls (A0 : Option Addr) (c0 : Nat) (l0 : List S27) (r : Bool) (w : World) (hr0 : Kd.C k27 w A0 l0.length l0) (hc0 : l0.length ≤ c0) (h : x_spans.f l0 = some r) :
    Calls Tryz.prog 99 #[.slice A0 l0.length c0, .func (.func 100) #[] #[]] w fun e w' => e = .returned (.bool r) ∧ Below w.heap.size w w' := by
  obtain rfl := Option.some.inj h
  exact containsFunc_span _ 100 #[] (enters_of Tryz.func100 (by kernel_rfl) rfl) A0 c0 l0 w hr0 (fun x _ => tells_spans x w)
end
section
def bA (n k : Nat) : Array Bool := ((List.range n).map fun i => Nat.testBit k i).toArray
theorem nX {w : World} {a : Addr} {v : Value} {g : Nat} (h : w.cell? a = some v) (hg : w.heap.size ≤ g) : a.block ≠ g := Nat.ne_of_lt (Nat.lt_of_lt_of_le (World.block_lt_of_cell? w _ h) hg)
theorem bkZ {a b : World} {g : Nat} {o : Obj} (h : a.heap[g]? = some o) (q : HX a b := by with_reducible repeat (first | apply HX.drewN | apply HX.drew | apply HX.alloc | exact HX.refl _)) : b.heap[g]? = some o := q g o h
section
variable {P : Program} {ops : Array Oper} {Q : Exit → Act → World → Prop} {md : Region.Mode} {S : World → Prop} {ds : List Nat} {T : Bool × List (List Nat × List Nat)} {B : List Nat} {oi : Oper} {v : Value} {fuel : Nat} {l : Array Bool} {a a' : Act} {w : World}
theorem pQ (i : Nat) (N : Option Tmp) (l' : Array Bool) (h : wpAnyLast P md ops Q S ds fuel l' a' w) (hT : Sd (rtab md ops = T) := by assumption) (hi : ops[i]? = some oi := by rfl) (hN : oi.dst = N := by rfl) (hc : anyT T l.toList l'.toList i = true := by kernel_rfl)
    (hQ : ∀ c a w, Q (.panic c) (a.put oi.dst v) w → Q (.panic c) a w := by exact fun _ _ _ h => h) (h1 : Region.wanted oi (yielded ops a.tmps) = true := by rfl) (h2 : ∀ w, (execOp a.eval oi).run P w = .ok (.value v) w := by intro w'; go_simp; with_reducible rfl)
    (ha : a.put N v = a' := by simp only [Act.put, List.setIfInBounds_toArray, List.set_cons_zero, List.set_cons_succ, i64_w, i32_w]; rfl) : wpAnyLast P md ops Q S ds (fuel + 1) l a w :=
  pure_ l' hi hN (any_of hT.out hc) hQ (Or.inl ⟨h1, h2⟩) ha h
theorem tQ (i : Nat) (N : Option Tmp) (l' : Array Bool) (h : wpAnyLast P md ops Q S ds fuel l' a' w) (hT : Sd (rtab md ops = T) := by assumption) (hB : Sd (waitsOk T.2 B = true) := by assumption) (hS : S w := by assumption) (hi : ops[i]? = some oi := by rfl) (hN : oi.dst = N := by rfl) (hc : takeW T B ds l.toList l'.toList i = true := by kernel_rfl)
    (hQ : ∀ c a w, Q (.panic c) (a.put oi.dst v) w → Q (.panic c) a w := by exact fun _ _ _ h => h) (h1 : Region.wanted oi (yielded ops a.tmps) = true := by rfl) (h2 : ∀ w, S w → (execOp a.eval oi).run P w = .ok (.value v) w := by intro w' hs; (repeat (obtain ⟨_, hs⟩ := hs)); go_simp; with_reducible rfl)
    (ha : a.put N v = a' := by simp only [Act.put, List.setIfInBounds_toArray, List.set_cons_zero, List.set_cons_succ, i64_w, i32_w]; rfl) : wpAnyLast P md ops Q S ds (fuel + 1) l a w :=
  take_ l' hi hN (take_ofW hT.out hB.out hc) hQ (Or.inl ⟨h1, h2⟩) hS ha h
end
end
section
mutual
def b_checkMaterial.j0 : Nat → Bool → ByteArray → Int → Int → Int → Int → Int → List (S27) → Option (Int)
 | 0, _, _, _, _, _, _, _, _ => none
 | k + 1, x46, x118q0, x118q1, x118q2, x118q3, x118q4, x118q5, x118q6 => if x46 = true then (some 1) else (b_checkMaterial.l0 k 0 x118q6 (x118q6.length : Int) 0)
def b_checkMaterial.l0 : Nat → Int → List (S27) → Int → Int → Option (Int)
 | 0, _, _, _, _ => none
 | k + 1, x5, x48, x49, x50 => if x50 < x49 then (if 0 ≤ x50 then (if x50 < (x48.length : Int) then ((b_span.f ((rd_T27 x48 x50).f0) ((rd_T27 x48 x50).f1) 0 1000).bind fun t125 => (if t125 = true then (b_checkMaterial.l0 k (wrap64 (x5 + ((rd_T27 x48 x50).f0))) x48 x49 (wrap64 (x50 + 1))) else (some 1))) else (none)) else (none)) else (if x5 > 1000 then (some 12) else (some 0))
end
def b_checkMaterial.f (k : Nat) (l00 : List ByteArray) (l01 : List (S70)) (l02 : List (S27)) (l03 : List (S89)) (a04 : Int) (a05 : Int) (a06 : Int) (a1_0 : ByteArray) (a1_1 : Int) (a1_2 : Int) (a1_3 : Int) (a14 : Int) (a15 : Int) (l16 : List (S27)) : Option (Int) := (b_within.f a1_1 0 10000).bind fun t118 => (if t118 = true then ((b_within.f a1_2 (-1000) 1000).bind fun t119 => (if t119 = true then ((b_within.f a1_3 0 10000).bind fun t120 => (if t120 = true then ((b_within.f a14 a1_3 10000).bind fun t121 => (if t121 = true then ((b_within.f a15 1 10000).bind fun t122 => (if t122 = true then (b_checkMaterial.j0 k ((l16.length : Int) != (l00.length : Int)) a1_0 a1_1 a1_2 a1_3 a14 a15 l16) else (b_checkMaterial.j0 k true a1_0 a1_1 a1_2 a1_3 a14 a15 l16))) else (b_checkMaterial.j0 k true a1_0 a1_1 a1_2 a1_3 a14 a15 l16))) else (b_checkMaterial.j0 k true a1_0 a1_1 a1_2 a1_3 a14 a15 l16))) else (b_checkMaterial.j0 k true a1_0 a1_1 a1_2 a1_3 a14 a15 l16))) else (b_checkMaterial.j0 k true a1_0 a1_1 a1_2 a1_3 a14 a15 l16))
theorem b_checkMaterial.mono_l : ∀ k, (∀ y0 y1 y2 y3 y4 y5 y6 y7, LeO (b_checkMaterial.j0 k y0 y1 y2 y3 y4 y5 y6 y7) (b_checkMaterial.j0 (k + 1) y0 y1 y2 y3 y4 y5 y6 y7)) ∧ (∀ y0 y1 y2 y3, LeO (b_checkMaterial.l0 k y0 y1 y2 y3) (b_checkMaterial.l0 (k + 1) y0 y1 y2 y3))
 | 0 => ⟨fun _ _ _ _ _ _ _ _ r h => by simp [b_checkMaterial.j0] at h, fun _ _ _ _ r h => by simp [b_checkMaterial.l0] at h⟩
 | k + 1 => by
  obtain ⟨ih0, ih1⟩ := b_checkMaterial.mono_l k
  refine ⟨?_, ?_⟩
  ·intro y0 y1 y2 y3 y4 y5 y6 y7
   unfold b_checkMaterial.j0
   repeat' first
   | (with_reducible exact ih0 _ _ _ _ _ _ _ _)
   | (with_reducible exact ih1 _ _ _ _)
   | (with_reducible exact LeO.refl _)
   | (with_reducible exact LeO.none _)
   | (with_reducible refine LeO.ite ?_ ?_)
   | (with_reducible refine LeO.bind ?_ (fun _ => ?_))
   | exact LeO.none _
   | refine LeO.ite ?_ ?_
   | refine LeO.bind ?_ (fun _ => ?_)
  ·intro y0 y1 y2 y3
   unfold b_checkMaterial.l0
   repeat' first
   | (with_reducible exact ih0 _ _ _ _ _ _ _ _)
   | (with_reducible exact ih1 _ _ _ _)
   | (with_reducible exact LeO.refl _)
   | (with_reducible exact LeO.none _)
   | (with_reducible refine LeO.ite ?_ ?_)
   | (with_reducible refine LeO.bind ?_ (fun _ => ?_))
   | exact LeO.none _
   | refine LeO.ite ?_ ?_
   | refine LeO.bind ?_ (fun _ => ?_)
theorem b_checkMaterial.mono : ∀ a0 a1 a2 a3 a4 a5 a6 a7 a8 a9 a10 a11 a12 a13 k, LeO (b_checkMaterial.f k a0 a1 a2 a3 a4 a5 a6 a7 a8 a9 a10 a11 a12 a13) (b_checkMaterial.f (k + 1) a0 a1 a2 a3 a4 a5 a6 a7 a8 a9 a10 a11 a12 a13) := by
 intro a0 a1 a2 a3 a4 a5 a6 a7 a8 a9 a10 a11 a12 a13 k
 obtain ⟨ih0, ih1⟩ := b_checkMaterial.mono_l k
 unfold b_checkMaterial.f
 repeat' first
   | (with_reducible exact ih0 _ _ _ _ _ _ _ _)
   | (with_reducible exact ih1 _ _ _ _)
   | (with_reducible exact LeO.refl _)
   | (with_reducible exact LeO.none _)
   | (with_reducible refine LeO.ite ?_ ?_)
   | (with_reducible refine LeO.bind ?_ (fun _ => ?_))
   | exact LeO.none _
   | refine LeO.ite ?_ ?_
   | refine LeO.bind ?_ (fun _ => ?_)
theorem b_checkMaterial.calls (k : Nat) (A00 : Option Addr) (c00 : Nat) (l00 : List ByteArray) (A01 : Option Addr) (c01 : Nat) (l01 : List (S70)) (A02 : Option Addr) (c02 : Nat) (l02 : List (S27)) (A03 : Option Addr) (c03 : Nat) (l03 : List (S89)) (a04 : Int) (a05 : Int) (a06 : Int) (a1_0 : ByteArray) (a1_1 : Int) (a1_2 : Int) (a1_3 : Int) (a14 : Int) (a15 : Int) (A1_6 : Option Addr) (c1_6 : Nat) (l16 : List (S27)) (r : Int) (w : World) (hr00 : Kd.C Kd.string w A00 l00.length l00) (hc00 : l00.length ≤ c00) (hr01 : Kd.C k70 w A01 l01.length l01) (hc01 : l01.length ≤ c01) (hr02 : Kd.C k27 w A02 l02.length l02) (hc02 : l02.length ≤ c02) (hr03 : Kd.C k89 w A03 l03.length l03) (hc03 : l03.length ≤ c03) (hr16 : Kd.C k27 w A1_6 l16.length l16) (hc16 : l16.length ≤ c1_6) (h : b_checkMaterial.f k l00 l01 l02 l03 a04 a05 a06 a1_0 a1_1 a1_2 a1_3 a14 a15 l16 = some r) :
  Calls Tryz.prog 180 #[.agg #[.slice A00 l00.length c00, .slice A01 l01.length c01, .slice A02 l02.length c02, .slice A03 l03.length c03, .int .i64 a04, .int .i64 a05, .int .i64 a06], .agg #[.string a1_0, .int .i64 a1_1, .int .i64 a1_2, .int .i64 a1_3, .int .i64 a14, .int .i64 a15, .slice A1_6 l16.length c1_6]] w fun e w' => e = .returned (.int .i64 r) ∧ Below w.heap.size w w' := by
 have hu29 := Tryz.underlying29; have hu70 := Tryz.underlying70; have hu27 := Tryz.underlying27; have HR00 := Sd.mk hr00; have HC00 := Sd.mk hc00; clear hr00 hc00; have HR01 := Sd.mk hr01; have HC01 := Sd.mk hc01; clear hr01 hc01; have HR02 := Sd.mk hr02; have HC02 := Sd.mk hc02; clear hr02 hc02; have HR03 := Sd.mk hr03; have HC03 := Sd.mk hc03; clear hr03 hc03; have HR16 := Sd.mk hr16; have HC16 := Sd.mk hc16; clear hr16 hc16; have HB := Sd.mk (Below.refl w.heap.size w)
 have H : ((b_within.f a1_1 0 10000).bind fun t118 => (if t118 = true then ((b_within.f a1_2 (-1000) 1000).bind fun t119 => (if t119 = true then ((b_within.f a1_3 0 10000).bind fun t120 => (if t120 = true then ((b_within.f a14 a1_3 10000).bind fun t121 => (if t121 = true then ((b_within.f a15 1 10000).bind fun t122 => (if t122 = true then (b_checkMaterial.j0 k ((l16.length : Int) != (l00.length : Int)) a1_0 a1_1 a1_2 a1_3 a14 a15 l16) else (b_checkMaterial.j0 k true a1_0 a1_1 a1_2 a1_3 a14 a15 l16))) else (b_checkMaterial.j0 k true a1_0 a1_1 a1_2 a1_3 a14 a15 l16))) else (b_checkMaterial.j0 k true a1_0 a1_1 a1_2 a1_3 a14 a15 l16))) else (b_checkMaterial.j0 k true a1_0 a1_1 a1_2 a1_3 a14 a15 l16))) else (b_checkMaterial.j0 k true a1_0 a1_1 a1_2 a1_3 a14 a15 l16))) = some r := h
 clear h; have HC3 := Sd.mk H; clear H
 go_enter Tryz.func180, Tryz.ntmps180
 go_upto_region 1 with (first | ((with_reducible refine gate_dst (N := 2) rfl ?_); (try (refine gate_guard (by rfl) ?_; dsimp only)); refine box_event ?hg (N := 2) ?hd (cs := #[.slice A00 l00.length c00, .slice A01 l01.length c01, .slice A02 l02.length c02, .slice A03 l03.length c03, .int .i64 a04, .int .i64 a05, .int .i64 a06]) (t := 29) ?hr ?_; (case hd => rfl); (case hg => rfl); (case hr => exact tG); intro gb116 hg w4 hbox hb; have BK116 := Sd.mk (hbox); have GW116 := Sd.mk (bSz hg (bBl HB.out)); have GE116 := Sd.mk (bSz hg (bBl HB.out)); replace HB := Sd.mk (below_step (bBl HB.out) hb); clear hb hbox hg) | ((with_reducible refine gate_dst (N := 3) rfl ?_); (try (refine gate_guard (by rfl) ?_; dsimp only)); refine box_event ?hg (N := 3) ?hd (cs := #[.string a1_0, .int .i64 a1_1, .int .i64 a1_2, .int .i64 a1_3, .int .i64 a14, .int .i64 a15, .slice A1_6 l16.length c1_6]) (t := 70) ?hr ?_; (case hd => rfl); (case hg => rfl); (case hr => exact tG); intro gb117 hg w5 hbox hb; have BK117 := Sd.mk (hbox); have GW117 := Sd.mk (bSz hg (bBl HB.out)); have GE117 := Sd.mk (bSz hg (bBl HB.out)); replace HB := Sd.mk (below_step (bBl HB.out) hb); have NB116117 := Sd.mk (bNl hg (bkA BK116.out)); have NB117116 := Sd.mk (bNg hg (bkA BK116.out)); replace BK116 := Sd.mk (blk_below (bkA BK116.out) hb); clear hb hbox hg))
 (try simp only [Act.put, List.setIfInBounds_toArray, List.set_cons_zero, List.set_cons_succ])
 go_cut [46] (fun v46 wc => ∃ (kq : Nat) (x462 : Bool), v46 = .bool x462 ∧ Sd (b_checkMaterial.j0 kq x462 a1_0 a1_1 a1_2 a1_3 a14 a15 l16 = some r) ∧ Sd (kq ≤ k) ∧ Sd (wc.heap[gb116]? = some (.cells #[(.slice A00 l00.length c00), (.slice A01 l01.length c01), (.slice A02 l02.length c02), (.slice A03 l03.length c03), .int .i64 a04, .int .i64 a05, .int .i64 a06] 29 (0, 0))) ∧ Sd (wc.heap[gb117]? = some (.cells #[.string a1_0, .int .i64 a1_1, .int .i64 a1_2, .int .i64 a1_3, .int .i64 a14, .int .i64 a15, (.slice A1_6 l16.length c1_6)] 70 (0, 0))) ∧ Sd (Below w.heap.size w wc))
 case first =>
  have H := HC3.out; clear HC3; replace H := Option.bind_eq_some_iff.mp H; obtain ⟨t118, A60, H⟩ := H
  try dsimp only at H
  have A6 := Sd.mk A60; clear A60
  by_cases c7 : t118 = true
  ·subst c7
   have H1 : ((b_within.f a1_2 (-1000) 1000).bind fun t119 => (if t119 = true then ((b_within.f a1_3 0 10000).bind fun t120 => (if t120 = true then ((b_within.f a14 a1_3 10000).bind fun t121 => (if t121 = true then ((b_within.f a15 1 10000).bind fun t122 => (if t122 = true then (b_checkMaterial.j0 k ((l16.length : Int) != (l00.length : Int)) a1_0 a1_1 a1_2 a1_3 a14 a15 l16) else (b_checkMaterial.j0 k true a1_0 a1_1 a1_2 a1_3 a14 a15 l16))) else (b_checkMaterial.j0 k true a1_0 a1_1 a1_2 a1_3 a14 a15 l16))) else (b_checkMaterial.j0 k true a1_0 a1_1 a1_2 a1_3 a14 a15 l16))) else (b_checkMaterial.j0 k true a1_0 a1_1 a1_2 a1_3 a14 a15 l16))) = some r := by rw [if_pos rfl] at H; exact H
   clear H; have H := H1; clear H1; replace H := Option.bind_eq_some_iff.mp H; obtain ⟨t119, A80, H⟩ := H
   try dsimp only at H
   have A8 := Sd.mk A80; clear A80
   by_cases c9 : t119 = true
   ·subst c9
    have H1 : ((b_within.f a1_3 0 10000).bind fun t120 => (if t120 = true then ((b_within.f a14 a1_3 10000).bind fun t121 => (if t121 = true then ((b_within.f a15 1 10000).bind fun t122 => (if t122 = true then (b_checkMaterial.j0 k ((l16.length : Int) != (l00.length : Int)) a1_0 a1_1 a1_2 a1_3 a14 a15 l16) else (b_checkMaterial.j0 k true a1_0 a1_1 a1_2 a1_3 a14 a15 l16))) else (b_checkMaterial.j0 k true a1_0 a1_1 a1_2 a1_3 a14 a15 l16))) else (b_checkMaterial.j0 k true a1_0 a1_1 a1_2 a1_3 a14 a15 l16))) = some r := by rw [if_pos rfl] at H; exact H
    clear H; have H := H1; clear H1; replace H := Option.bind_eq_some_iff.mp H; obtain ⟨t120, A100, H⟩ := H
    try dsimp only at H
    have A10 := Sd.mk A100; clear A100
    by_cases c11 : t120 = true
    ·subst c11
     have H1 : ((b_within.f a14 a1_3 10000).bind fun t121 => (if t121 = true then ((b_within.f a15 1 10000).bind fun t122 => (if t122 = true then (b_checkMaterial.j0 k ((l16.length : Int) != (l00.length : Int)) a1_0 a1_1 a1_2 a1_3 a14 a15 l16) else (b_checkMaterial.j0 k true a1_0 a1_1 a1_2 a1_3 a14 a15 l16))) else (b_checkMaterial.j0 k true a1_0 a1_1 a1_2 a1_3 a14 a15 l16))) = some r := by rw [if_pos rfl] at H; exact H
     clear H; have H := H1; clear H1; replace H := Option.bind_eq_some_iff.mp H; obtain ⟨t121, A120, H⟩ := H
     try dsimp only at H
     have A12 := Sd.mk A120; clear A120
     by_cases c13 : t121 = true
     ·subst c13
      have H1 : ((b_within.f a15 1 10000).bind fun t122 => (if t122 = true then (b_checkMaterial.j0 k ((l16.length : Int) != (l00.length : Int)) a1_0 a1_1 a1_2 a1_3 a14 a15 l16) else (b_checkMaterial.j0 k true a1_0 a1_1 a1_2 a1_3 a14 a15 l16))) = some r := by rw [if_pos rfl] at H; exact H
      clear H; have H := H1; clear H1; replace H := Option.bind_eq_some_iff.mp H; obtain ⟨t122, A140, H⟩ := H
      try dsimp only at H
      have A14 := Sd.mk A140; clear A140
      by_cases c15 : t122 = true
      ·subst c15
       have H1 : (b_checkMaterial.j0 k ((l16.length : Int) != (l00.length : Int)) a1_0 a1_1 a1_2 a1_3 a14 a15 l16) = some r := by rw [if_pos rfl] at H; exact H
       clear H; have H := H1; clear H1; have H' := Sd.mk H; clear H; have hnb16 := NB117116.out; have hnc16 := NB116117.out; obtain ⟨u17_0, u17_1, u17_2, u17_3, u17_4, u17_5, u17_6, o170, o171, o172, o173, o174, o175, o176⟩ := bc7 (w := w5) BK117.out
       go_wp2_with (first | ((with_reducible refine gate_callee (f := 56) rfl ?_); refine goesL_ (some 10) rfl rfl Tryz.func56 (by kernel_rfl) rfl #[.int .i64 a1_1, .int .i64 0, .int .i64 10000] rfl tM ?_; (with_reducible refine (b_within.calls a1_1 0 10000 true _ A6.out).mono ?_); rintro e w' ⟨rfl, ⟨nd, rfl⟩⟩; refine ⟨_, rfl, ?_⟩) | (go_at_call 56; (with_reducible refine (b_within.calls a1_2 (-1000) 1000 true _ A8.out).mono ?_); rintro e w' ⟨rfl, ⟨nd, rfl⟩⟩) | (go_at_call 56; (with_reducible refine (b_within.calls a1_3 0 10000 true _ A10.out).mono ?_); rintro e w' ⟨rfl, ⟨nd, rfl⟩⟩) | (go_at_call 56; (with_reducible refine (b_within.calls a14 a1_3 10000 true _ A12.out).mono ?_); rintro e w' ⟨rfl, ⟨nd, rfl⟩⟩) | (go_at_call 56; (with_reducible refine (b_within.calls a15 1 10000 true _ A14.out).mono ?_); rintro e w' ⟨rfl, ⟨nd, rfl⟩⟩; obtain ⟨u18_0, u18_1, u18_2, u18_3, u18_4, u18_5, u18_6, o180, o181, o182, o183, o184, o185, o186⟩ := bc7 (w := w5) BK116.out))
       go_meet
       case rel => exact ⟨_, (((l16.length : Int) != (l00.length : Int))), tS, H', ⟨by first | omega | exact Nat.le_refl _⟩, ⟨bkA BK116.out⟩, ⟨bkA BK117.out⟩, ⟨bBl HB.out⟩⟩
      ·replace c15 := Bool.eq_false_iff.mpr c15
       subst c15
       have H1 : (b_checkMaterial.j0 k true a1_0 a1_1 a1_2 a1_3 a14 a15 l16) = some r := by rw [if_neg (show ¬ (false = true) by decide)] at H; exact H
       clear H; have H := H1; clear H1; have H' := Sd.mk H; clear H; have hnb19 := NB117116.out; have hnc19 := NB116117.out; obtain ⟨u20_0, u20_1, u20_2, u20_3, u20_4, u20_5, u20_6, o200, o201, o202, o203, o204, o205, o206⟩ := bc7 (w := w5) BK117.out
       go_wp2_with (first | ((with_reducible refine gate_callee (f := 56) rfl ?_); refine goesL_ (some 10) rfl rfl Tryz.func56 (by kernel_rfl) rfl #[.int .i64 a1_1, .int .i64 0, .int .i64 10000] rfl tM ?_; (with_reducible refine (b_within.calls a1_1 0 10000 true _ A6.out).mono ?_); rintro e w' ⟨rfl, ⟨nd, rfl⟩⟩; refine ⟨_, rfl, ?_⟩) | (go_at_call 56; (with_reducible refine (b_within.calls a1_2 (-1000) 1000 true _ A8.out).mono ?_); rintro e w' ⟨rfl, ⟨nd, rfl⟩⟩) | (go_at_call 56; (with_reducible refine (b_within.calls a1_3 0 10000 true _ A10.out).mono ?_); rintro e w' ⟨rfl, ⟨nd, rfl⟩⟩) | (go_at_call 56; (with_reducible refine (b_within.calls a14 a1_3 10000 true _ A12.out).mono ?_); rintro e w' ⟨rfl, ⟨nd, rfl⟩⟩) | (go_at_call 56; (with_reducible refine (b_within.calls a15 1 10000 false _ A14.out).mono ?_); rintro e w' ⟨rfl, ⟨nd, rfl⟩⟩))
       go_meet
       case rel => exact ⟨_, (true), tS, H', ⟨by first | omega | exact Nat.le_refl _⟩, ⟨bkA BK116.out⟩, ⟨bkA BK117.out⟩, ⟨bBl HB.out⟩⟩
     ·replace c13 := Bool.eq_false_iff.mpr c13
      subst c13
      have H1 : (b_checkMaterial.j0 k true a1_0 a1_1 a1_2 a1_3 a14 a15 l16) = some r := by rw [if_neg (show ¬ (false = true) by decide)] at H; exact H
      clear H; have H := H1; clear H1; have H' := Sd.mk H; clear H; have hnb21 := NB117116.out; have hnc21 := NB116117.out; obtain ⟨u22_0, u22_1, u22_2, u22_3, u22_4, u22_5, u22_6, o220, o221, o222, o223, o224, o225, o226⟩ := bc7 (w := w5) BK117.out
      go_wp2_with (first | ((with_reducible refine gate_callee (f := 56) rfl ?_); refine goesL_ (some 10) rfl rfl Tryz.func56 (by kernel_rfl) rfl #[.int .i64 a1_1, .int .i64 0, .int .i64 10000] rfl tM ?_; (with_reducible refine (b_within.calls a1_1 0 10000 true _ A6.out).mono ?_); rintro e w' ⟨rfl, ⟨nd, rfl⟩⟩; refine ⟨_, rfl, ?_⟩) | (go_at_call 56; (with_reducible refine (b_within.calls a1_2 (-1000) 1000 true _ A8.out).mono ?_); rintro e w' ⟨rfl, ⟨nd, rfl⟩⟩) | (go_at_call 56; (with_reducible refine (b_within.calls a1_3 0 10000 true _ A10.out).mono ?_); rintro e w' ⟨rfl, ⟨nd, rfl⟩⟩) | (go_at_call 56; (with_reducible refine (b_within.calls a14 a1_3 10000 false _ A12.out).mono ?_); rintro e w' ⟨rfl, ⟨nd, rfl⟩⟩))
      go_meet
      case rel => exact ⟨_, (true), tS, H', ⟨by first | omega | exact Nat.le_refl _⟩, ⟨bkA BK116.out⟩, ⟨bkA BK117.out⟩, ⟨bBl HB.out⟩⟩
    ·replace c11 := Bool.eq_false_iff.mpr c11
     subst c11
     have H1 : (b_checkMaterial.j0 k true a1_0 a1_1 a1_2 a1_3 a14 a15 l16) = some r := by rw [if_neg (show ¬ (false = true) by decide)] at H; exact H
     clear H; have H := H1; clear H1; have H' := Sd.mk H; clear H; have hnb23 := NB117116.out; have hnc23 := NB116117.out; obtain ⟨u24_0, u24_1, u24_2, u24_3, u24_4, u24_5, u24_6, o240, o241, o242, o243, o244, o245, o246⟩ := bc7 (w := w5) BK117.out
     go_wp2_with (first | ((with_reducible refine gate_callee (f := 56) rfl ?_); refine goesL_ (some 10) rfl rfl Tryz.func56 (by kernel_rfl) rfl #[.int .i64 a1_1, .int .i64 0, .int .i64 10000] rfl tM ?_; (with_reducible refine (b_within.calls a1_1 0 10000 true _ A6.out).mono ?_); rintro e w' ⟨rfl, ⟨nd, rfl⟩⟩; refine ⟨_, rfl, ?_⟩) | (go_at_call 56; (with_reducible refine (b_within.calls a1_2 (-1000) 1000 true _ A8.out).mono ?_); rintro e w' ⟨rfl, ⟨nd, rfl⟩⟩) | (go_at_call 56; (with_reducible refine (b_within.calls a1_3 0 10000 false _ A10.out).mono ?_); rintro e w' ⟨rfl, ⟨nd, rfl⟩⟩))
     go_meet
     case rel => exact ⟨_, (true), tS, H', ⟨by first | omega | exact Nat.le_refl _⟩, ⟨bkA BK116.out⟩, ⟨bkA BK117.out⟩, ⟨bBl HB.out⟩⟩
   ·replace c9 := Bool.eq_false_iff.mpr c9
    subst c9
    have H1 : (b_checkMaterial.j0 k true a1_0 a1_1 a1_2 a1_3 a14 a15 l16) = some r := by rw [if_neg (show ¬ (false = true) by decide)] at H; exact H
    clear H; have H := H1; clear H1; have H' := Sd.mk H; clear H; have hnb25 := NB117116.out; have hnc25 := NB116117.out; obtain ⟨u26_0, u26_1, u26_2, u26_3, u26_4, u26_5, u26_6, o260, o261, o262, o263, o264, o265, o266⟩ := bc7 (w := w5) BK117.out
    go_wp2_with (first | ((with_reducible refine gate_callee (f := 56) rfl ?_); refine goesL_ (some 10) rfl rfl Tryz.func56 (by kernel_rfl) rfl #[.int .i64 a1_1, .int .i64 0, .int .i64 10000] rfl tM ?_; (with_reducible refine (b_within.calls a1_1 0 10000 true _ A6.out).mono ?_); rintro e w' ⟨rfl, ⟨nd, rfl⟩⟩; refine ⟨_, rfl, ?_⟩) | (go_at_call 56; (with_reducible refine (b_within.calls a1_2 (-1000) 1000 false _ A8.out).mono ?_); rintro e w' ⟨rfl, ⟨nd, rfl⟩⟩))
    go_meet
    case rel => exact ⟨_, (true), tS, H', ⟨by first | omega | exact Nat.le_refl _⟩, ⟨bkA BK116.out⟩, ⟨bkA BK117.out⟩, ⟨bBl HB.out⟩⟩
  ·replace c7 := Bool.eq_false_iff.mpr c7
   subst c7
   have H1 : (b_checkMaterial.j0 k true a1_0 a1_1 a1_2 a1_3 a14 a15 l16) = some r := by rw [if_neg (show ¬ (false = true) by decide)] at H; exact H
   clear H; have H := H1; clear H1; have H' := Sd.mk H; clear H; have hnb27 := NB117116.out; have hnc27 := NB116117.out; obtain ⟨u28_0, u28_1, u28_2, u28_3, u28_4, u28_5, u28_6, o280, o281, o282, o283, o284, o285, o286⟩ := bc7 (w := w5) BK117.out
   go_wp2_with (first | ((with_reducible refine gate_callee (f := 56) rfl ?_); refine goesL_ (some 10) rfl rfl Tryz.func56 (by kernel_rfl) rfl #[.int .i64 a1_1, .int .i64 0, .int .i64 10000] rfl tM ?_; (with_reducible refine (b_within.calls a1_1 0 10000 false _ A6.out).mono ?_); rintro e w' ⟨rfl, ⟨nd, rfl⟩⟩; refine ⟨_, rfl, ?_⟩))
   go_meet
   case rel => exact ⟨_, (true), tS, H', ⟨by first | omega | exact Nat.le_refl _⟩, ⟨bkA BK116.out⟩, ⟨bkA BK117.out⟩, ⟨bBl HB.out⟩⟩
 case rest =>
  clear HC3; (try clear c1); (try clear c2); (try clear p2); (try clear c5); (try clear c7); (try clear c9); (try clear c11); (try clear c13); (try clear c15); (try clear c16); (try clear c18); (try clear c19); (try clear c21); (try clear c23); (try clear c25); (try clear c27); (try clear u17_0 u17_1 u17_2 u17_3 u17_4 u17_5 u17_6); (try clear u18_0 u18_1 u18_2 u18_3 u18_4 u18_5 u18_6); (try clear u20_0 u20_1 u20_2 u20_3 u20_4 u20_5 u20_6); (try clear u22_0 u22_1 u22_2 u22_3 u22_4 u22_5 u22_6); (try clear u24_0 u24_1 u24_2 u24_3 u24_4 u24_5 u24_6); (try clear u26_0 u26_1 u26_2 u26_3 u26_4 u26_5 u26_6); (try clear u28_0 u28_1 u28_2 u28_3 u28_4 u28_5 u28_6); (try clear o170 o171 o172 o173 o174 o175 o176); (try clear o180 o181 o182 o183 o184 o185 o186); (try clear o200 o201 o202 o203 o204 o205 o206); (try clear o220 o221 o222 o223 o224 o225 o226); (try clear o240 o241 o242 o243 o244 o245 o246); (try clear o260 o261 o262 o263 o264 o265 o266); (try clear o280 o281 o282 o283 o284 o285 o286); obtain ⟨kq, x462, rfl, HA, HJ2, BK116, BK117, HB⟩ := hcut
  cases kq with
  | zero => exact absurd HA.out (by simp [b_checkMaterial.j0])
  | succ kj2 =>
   have H := HA.out; clear HA
   simp only [b_checkMaterial.j0] at H
   by_cases c29 : x462 = true
   ·subst c29
    have H1 : (some 1) = some r := by rw [if_pos rfl] at H; exact H
    clear H; have H := H1; clear H1; obtain rfl := Option.some.inj H
    go_wp2
    go_ret
    exact ⟨tE, bBl HB.out⟩
   ·replace c29 := Bool.eq_false_iff.mpr c29
    subst c29
    have H1 : (b_checkMaterial.l0 kj2 0 l16 (l16.length : Int) 0) = some r := by rw [if_neg (show ¬ (false = true) by decide)] at H; exact H
    clear H; have H := H1; clear H1; have H' := Sd.mk H; clear H; have hnb30 := NB117116.out; have hnc30 := NB116117.out; obtain ⟨u31_0, u31_1, u31_2, u31_3, u31_4, u31_5, u31_6, o310, o311, o312, o313, o314, o315, o316⟩ := bc7 (w := wc) BK117.out
    go_wp2
    go_loopg [5, 50] kj2 (fun kq v5 v50 w' => ∃ (x52 : Int) (x502 : Int), v5 = .int .i64 x52 ∧ v50 = .int .i64 x502 ∧ Sd (b_checkMaterial.l0 kq x52 l16 (l16.length : Int) x502 = some r) ∧ Sd (kq ≤ kj2) ∧ Sd (w'.heap[gb116]? = some (.cells #[(.slice A00 l00.length c00), (.slice A01 l01.length c01), (.slice A02 l02.length c02), (.slice A03 l03.length c03), .int .i64 a04, .int .i64 a05, .int .i64 a06] 29 (0, 0))) ∧ Sd (w'.heap[gb117]? = some (.cells #[.string a1_0, .int .i64 a1_1, .int .i64 a1_2, .int .i64 a1_3, .int .i64 a14, .int .i64 a15, (.slice A1_6 l16.length c1_6)] 70 (0, 0))) ∧ Sd (Below w.heap.size w w'))
    case atStart => exact ⟨(0), (0), tS, tS, H', ⟨Nat.le_refl _⟩, ⟨bkA BK116.out⟩, ⟨bkA BK117.out⟩, ⟨bBl HB.out⟩⟩
    case round =>
     clear H'; (try clear c1); (try clear c2); (try clear p2 p2); (try clear c3); (try clear c5); (try clear c7); (try clear c9); (try clear c11); (try clear c13); (try clear c15); (try clear c16); (try clear c18); (try clear c19); (try clear c21); (try clear c23); (try clear c25); (try clear c27); (try clear c29); (try clear c30); (try clear u17_0 u17_1 u17_2 u17_3 u17_4 u17_5 u17_6); (try clear u18_0 u18_1 u18_2 u18_3 u18_4 u18_5 u18_6); (try clear u20_0 u20_1 u20_2 u20_3 u20_4 u20_5 u20_6); (try clear u22_0 u22_1 u22_2 u22_3 u22_4 u22_5 u22_6); (try clear u24_0 u24_1 u24_2 u24_3 u24_4 u24_5 u24_6); (try clear u26_0 u26_1 u26_2 u26_3 u26_4 u26_5 u26_6); (try clear u28_0 u28_1 u28_2 u28_3 u28_4 u28_5 u28_6); (try clear u31_0 u31_1 u31_2 u31_3 u31_4 u31_5 u31_6); (try clear o170 o171 o172 o173 o174 o175 o176); (try clear o180 o181 o182 o183 o184 o185 o186); (try clear o200 o201 o202 o203 o204 o205 o206); (try clear o220 o221 o222 o223 o224 o225 o226); (try clear o240 o241 o242 o243 o244 o245 o246); (try clear o260 o261 o262 o263 o264 o265 o266); (try clear o280 o281 o282 o283 o284 o285 o286); (try clear o310 o311 o312 o313 o314 o315 o316); obtain ⟨x52, x502, rfl, rfl, HA, HK2, BK116, BK117, HB⟩ := hrel
     cases gk with
     | zero => exact absurd HA.out (by simp [b_checkMaterial.l0])
     | succ k2 =>
      have H := HA.out; clear HA
      simp only [b_checkMaterial.l0] at H
      by_cases c32 : x502 < (l16.length : Int)
      ·rw [if_pos c32] at H
       have c32b0 : decide (x502 < (l16.length : Int)) = true := decide_eq_true c32
       clear c32
       by_cases c33 : 0 ≤ x502
       ·rw [if_pos c33] at H
        have c33b0 : decide (0 ≤ x502) = true := decide_eq_true c33
        clear c33
        by_cases c34 : x502 < (l16.length : Int)
        ·rw [if_pos c34] at H
         have c34b0 : decide (x502 < (l16.length : Int)) = true := decide_eq_true c34
         clear c34; replace H := Option.bind_eq_some_iff.mp H; obtain ⟨t125, A350, H⟩ := H
         try dsimp only at H
         have A35 := Sd.mk A350; clear A350
         by_cases c36 : t125 = true
         ·subst c36
          have H1 : (b_checkMaterial.l0 k2 (wrap64 (x52 + ((rd_T27 l16 x502).f0))) l16 (l16.length : Int) (wrap64 (x502 + 1))) = some r := by rw [if_pos rfl] at H; exact H
          clear H; have H := H1; clear H1; have H' := Sd.mk H; clear H
          have p123 : 0 ≤ (x502 : Int) := tB
          have q123 : x502 < (l16.length : Int) := tB
          obtain ⟨ad123, e123, hx1230, hx1231⟩ := at_T27 HR16.out x502 p123 q123; cases e123; replace hx1230 := cU HB hx1230; replace hx1231 := cU HB hx1231; replace p123 := eq_true p123; replace q123 := eq_true q123
          go_wp2_with (first | ((with_reducible refine gate_dst (N := 7) rfl ?_); (try (refine gate_guard (by rfl) ?_; dsimp only)); refine box_event ?hg (N := 7) ?hd (cs := #[.int .i64 0, .int .i64 0]) (t := 27) ?hr ?_; (case hd => rfl); (case hg => rfl); (case hr => exact tG); intro gb124 hg w37 hbox hb; have BK124 := Sd.mk (hbox); have GW124 := Sd.mk (bSz hg (bBl HB.out)); have GE124 := Sd.mk (bSz hg (bBl HB.out)); replace HB := Sd.mk (below_step (bBl HB.out) hb); have NB116124 := Sd.mk (bNl hg (bkA BK116.out)); have NB124116 := Sd.mk (bNg hg (bkA BK116.out)); replace BK116 := Sd.mk (blk_below (bkA BK116.out) hb); have NB117124 := Sd.mk (bNl hg (bkA BK117.out)); have NB124117 := Sd.mk (bNg hg (bkA BK117.out)); replace BK117 := Sd.mk (blk_below (bkA BK117.out) hb); clear hb hbox hg; have hnb38 := NB124116.out; have hnc38 := NB116124.out; have hnb39 := NB124117.out; have hnc39 := NB117124.out; obtain ⟨u40_0, u40_1, o400, o401⟩ := bc2 (w := w37) BK124.out) | ((with_reducible refine gate_callee (f := 101) rfl ?_); refine goesL_ (some 55) rfl rfl Tryz.func101 (by kernel_rfl) rfl #[.agg #[.int .i64 ((rd_T27 l16 x502).f0), .int .i64 ((rd_T27 l16 x502).f1)], .int .i64 0, .int .i64 1000] rfl tM ?_; (with_reducible refine (b_span.calls ((rd_T27 l16 x502).f0) ((rd_T27 l16 x502).f1) 0 1000 true _ A35.out).mono ?_); rintro e w41 ⟨rfl, hb⟩; refine ⟨_, rfl, ?_⟩; replace BK116 := Sd.mk (blk_below (g := gb116) (o := .cells #[.slice A00 l00.length c00, .slice A01 l01.length c01, .slice A02 l02.length c02, .slice A03 l03.length c03, .int .i64 a04, .int .i64 a05, .int .i64 a06] 29 (0, 0)) (by refine bkZ ?_; refine blk_far ?_ NB116124.out _; refine bkZ ?_; refine blk_far ?_ NB116124.out _; refine bkZ ?_; exact BK116.out) hb); replace BK117 := Sd.mk (blk_below (g := gb117) (o := .cells #[.string a1_0, .int .i64 a1_1, .int .i64 a1_2, .int .i64 a1_3, .int .i64 a14, .int .i64 a15, .slice (some ad123) l16.length c1_6] 70 (0, 0)) (by refine bkZ ?_; refine blk_far ?_ NB117124.out _; refine bkZ ?_; refine blk_far ?_ NB117124.out _; refine bkZ ?_; exact BK117.out) hb); replace BK124 := Sd.mk (blk_below (g := gb124) (o := .cells #[.int .i64 ((rd_T27 l16 x502).f0), .int .i64 ((rd_T27 l16 x502).f1)] 27 (0, 0)) (by refine bkZ ?_; refine blk_put (cs := #[.int .i64 ((rd_T27 l16 x502).f0), .int .i64 0]) ?_ 1 _ rfl; refine bkZ ?_; refine blk_put (cs := #[.int .i64 0, .int .i64 0]) ?_ 0 _ rfl; refine bkZ ?_; exact BK124.out) hb); replace HB := Sd.mk (below_step (bBl HB.out) hb); (try clear hb); (try clear hb2); (try clear hk); (try clear hi); obtain ⟨u42_0, u42_1, o420, o421⟩ := bc2 (w := w41) BK124.out))
          go_roundg k2
          case measure => have := HJ2.out; have := HK2.out; omega
          case rel => exact ⟨(wrap64 (x52 + ((rd_T27 l16 x502).f0))), (wrap64 (x502 + 1)), tS, tS, H', ⟨by have := HJ2.out; have := HK2.out; omega⟩, ⟨bkA BK116.out⟩, ⟨bkA BK117.out⟩, ⟨bBl HB.out⟩⟩
         ·replace c36 := Bool.eq_false_iff.mpr c36
          subst c36
          have H1 : (some 1) = some r := by rw [if_neg (show ¬ (false = true) by decide)] at H; exact H
          clear H; have H := H1; clear H1; obtain rfl := Option.some.inj H
          have p123 : 0 ≤ (x502 : Int) := tB
          have q123 : x502 < (l16.length : Int) := tB
          obtain ⟨ad123, e123, hx1230, hx1231⟩ := at_T27 HR16.out x502 p123 q123; cases e123; replace hx1230 := cU HB hx1230; replace hx1231 := cU HB hx1231; replace p123 := eq_true p123; replace q123 := eq_true q123
          go_wp2_with (first | ((with_reducible refine gate_dst (N := 7) rfl ?_); (try (refine gate_guard (by rfl) ?_; dsimp only)); refine box_event ?hg (N := 7) ?hd (cs := #[.int .i64 0, .int .i64 0]) (t := 27) ?hr ?_; (case hd => rfl); (case hg => rfl); (case hr => exact tG); intro gb124 hg w43 hbox hb; have BK124 := Sd.mk (hbox); have GW124 := Sd.mk (bSz hg (bBl HB.out)); have GE124 := Sd.mk (bSz hg (bBl HB.out)); replace HB := Sd.mk (below_step (bBl HB.out) hb); have NB116124 := Sd.mk (bNl hg (bkA BK116.out)); have NB124116 := Sd.mk (bNg hg (bkA BK116.out)); replace BK116 := Sd.mk (blk_below (bkA BK116.out) hb); have NB117124 := Sd.mk (bNl hg (bkA BK117.out)); have NB124117 := Sd.mk (bNg hg (bkA BK117.out)); replace BK117 := Sd.mk (blk_below (bkA BK117.out) hb); clear hb hbox hg; have hnb44 := NB124116.out; have hnc44 := NB116124.out; have hnb45 := NB124117.out; have hnc45 := NB117124.out; obtain ⟨u46_0, u46_1, o460, o461⟩ := bc2 (w := w43) BK124.out) | ((with_reducible refine gate_callee (f := 101) rfl ?_); refine goesL_ (some 55) rfl rfl Tryz.func101 (by kernel_rfl) rfl #[.agg #[.int .i64 ((rd_T27 l16 x502).f0), .int .i64 ((rd_T27 l16 x502).f1)], .int .i64 0, .int .i64 1000] rfl tM ?_; (with_reducible refine (b_span.calls ((rd_T27 l16 x502).f0) ((rd_T27 l16 x502).f1) 0 1000 false _ A35.out).mono ?_); rintro e w47 ⟨rfl, hb⟩; refine ⟨_, rfl, ?_⟩; replace BK116 := Sd.mk (blk_below (g := gb116) (o := .cells #[.slice A00 l00.length c00, .slice A01 l01.length c01, .slice A02 l02.length c02, .slice A03 l03.length c03, .int .i64 a04, .int .i64 a05, .int .i64 a06] 29 (0, 0)) (by refine bkZ ?_; refine blk_far ?_ NB116124.out _; refine bkZ ?_; refine blk_far ?_ NB116124.out _; refine bkZ ?_; exact BK116.out) hb); replace BK117 := Sd.mk (blk_below (g := gb117) (o := .cells #[.string a1_0, .int .i64 a1_1, .int .i64 a1_2, .int .i64 a1_3, .int .i64 a14, .int .i64 a15, .slice (some ad123) l16.length c1_6] 70 (0, 0)) (by refine bkZ ?_; refine blk_far ?_ NB117124.out _; refine bkZ ?_; refine blk_far ?_ NB117124.out _; refine bkZ ?_; exact BK117.out) hb); replace BK124 := Sd.mk (blk_below (g := gb124) (o := .cells #[.int .i64 ((rd_T27 l16 x502).f0), .int .i64 ((rd_T27 l16 x502).f1)] 27 (0, 0)) (by refine bkZ ?_; refine blk_put (cs := #[.int .i64 ((rd_T27 l16 x502).f0), .int .i64 0]) ?_ 1 _ rfl; refine bkZ ?_; refine blk_put (cs := #[.int .i64 0, .int .i64 0]) ?_ 0 _ rfl; refine bkZ ?_; exact BK124.out) hb); replace HB := Sd.mk (below_step (bBl HB.out) hb); (try clear hb); (try clear hb2); (try clear hk); (try clear hi)))
          go_ret
          exact ⟨tE, bBl HB.out⟩
        ·rw [if_neg c34] at H
         exact absurd H (by simp)
       ·rw [if_neg c33] at H
        exact absurd H (by simp)
      ·rw [if_neg c32] at H
       have c32b0 : decide (x502 < (l16.length : Int)) = false := decide_eq_false c32
       clear c32
       by_cases c48 : x52 > 1000
       ·rw [if_pos c48] at H
        have c48b0 : decide (1000 < x52) = true := decide_eq_true c48
        clear c48; obtain rfl := Option.some.inj H
        go_wp2
        go_ret
        exact ⟨tE, bBl HB.out⟩
       ·rw [if_neg c48] at H
        have c48b0 : decide (1000 < x52) = false := decide_eq_false c48
        clear c48; obtain rfl := Option.some.inj H
        go_wp2
        go_ret
        exact ⟨tE, bBl HB.out⟩
end
section
def rf_within.f (a00 : Int) (a01 : Int) (a1 : Int) (a2 : Int) : Option (Bool) := if a00 ≥ a1 then (if a00 ≤ a01 then (some (decide (a01 ≤ a2))) else (some false)) else (some false)
theorem rf_within.calls (a00 : Int) (a01 : Int) (a1 : Int) (a2 : Int) (r : Bool) (w : World) (h : rf_within.f a00 a01 a1 a2 = some r) :
  Calls Tryz.prog 173 #[.agg #[.int .i64 a00, .int .i64 a01], .int .i64 a1, .int .i64 a2] w fun e w' => e = .returned (.bool r) ∧ Below w.heap.size w w' := by
 have hu27 := Tryz.underlying27; have HB := Sd.mk (Below.refl w.heap.size w)
 have H : (if a00 ≥ a1 then (if a00 ≤ a01 then (some (decide (a01 ≤ a2))) else (some false)) else (some false)) = some r := h
 clear h
 by_cases c4 : a00 ≥ a1
 ·rw [if_pos c4] at H
  have c4b0 : decide (a1 ≤ a00) = true := decide_eq_true c4
  clear c4
  by_cases c5 : a00 ≤ a01
  ·rw [if_pos c5] at H
   have c5b0 : decide (a00 ≤ a01) = true := decide_eq_true c5
   clear c5; obtain rfl := Option.some.inj H
   go_enter Tryz.func173, Tryz.ntmps173
   go_wp2_with (first | ((with_reducible refine gate_dst (N := 3) rfl ?_); refine box_event ?hg (N := 3) ?hd (cs := #[.int .i64 a00, .int .i64 a01]) (t := 27) ?hr ?_; (case hd => rfl); (case hg => rfl); (case hr => exact tG); intro gb227 hg w6 hbox hb; have BK227 := Sd.mk (hbox); have GW227 := Sd.mk (bSz hg (bBl HB.out)); have GE227 := Sd.mk (bSz hg (bBl HB.out)); replace HB := Sd.mk (below_step (bBl HB.out) hb); clear hb hbox hg; obtain ⟨u7_0, u7_1, o70, o71⟩ := bc2 (w := w6) BK227.out))
   go_ret
   exact ⟨tE, bBl HB.out⟩
  ·rw [if_neg c5] at H
   have c5b0 : decide (a00 ≤ a01) = false := decide_eq_false c5
   clear c5; obtain rfl := Option.some.inj H
   go_enter Tryz.func173, Tryz.ntmps173
   go_wp2_with (first | ((with_reducible refine gate_dst (N := 3) rfl ?_); refine box_event ?hg (N := 3) ?hd (cs := #[.int .i64 a00, .int .i64 a01]) (t := 27) ?hr ?_; (case hd => rfl); (case hg => rfl); (case hr => exact tG); intro gb227 hg w8 hbox hb; have BK227 := Sd.mk (hbox); have GW227 := Sd.mk (bSz hg (bBl HB.out)); have GE227 := Sd.mk (bSz hg (bBl HB.out)); replace HB := Sd.mk (below_step (bBl HB.out) hb); clear hb hbox hg; obtain ⟨u9_0, u9_1, o90, o91⟩ := bc2 (w := w8) BK227.out))
   go_ret
   exact ⟨tE, bBl HB.out⟩
 ·rw [if_neg c4] at H
  have c4b0 : decide (a1 ≤ a00) = false := decide_eq_false c4
  clear c4; obtain rfl := Option.some.inj H
  go_enter Tryz.func173, Tryz.ntmps173
  go_wp2_with (first | ((with_reducible refine gate_dst (N := 3) rfl ?_); refine box_event ?hg (N := 3) ?hd (cs := #[.int .i64 a00, .int .i64 a01]) (t := 27) ?hr ?_; (case hd => rfl); (case hg => rfl); (case hr => exact tG); intro gb227 hg w10 hbox hb; have BK227 := Sd.mk (hbox); have GW227 := Sd.mk (bSz hg (bBl HB.out)); have GE227 := Sd.mk (bSz hg (bBl HB.out)); replace HB := Sd.mk (below_step (bBl HB.out) hb); clear hb hbox hg; obtain ⟨u11_0, u11_1, o110, o111⟩ := bc2 (w := w10) BK227.out))
  go_ret
  exact ⟨tE, bBl HB.out⟩
end
section
mutual
def rf_material.j0 : Nat → Bool → List ByteArray → List (S70) → List (S27) → List (S89) → Int → Int → Int → ByteArray → Int → Int → Int → Int → Int → List (S27) → Option (Int)
 | 0, _, _, _, _, _, _, _, _, _, _, _, _, _, _, _ => none
 | k + 1, x56, x229q0, x229q1, x229q2, x229q3, x229q4, x229q5, x229q6, x230q0, x230q1, x230q2, x230q3, x230q4, x230q5, x230q6 => if x56 = true then (some 1) else (if (x230q6.length : Int) = (x229q0.length : Int) then (rf_material.l0 k 0 0 x230q0 x230q1 x230q2 x230q3 x230q4 x230q5 x230q6) else (some 1))
def rf_material.l0 : Nat → Int → Int → ByteArray → Int → Int → Int → Int → Int → List (S27) → Option (Int)
 | 0, _, _, _, _, _, _, _, _, _ => none
 | k + 1, x5, x6, x230q0, x230q1, x230q2, x230q3, x230q4, x230q5, x230q6 => if x6 < (x230q6.length : Int) then (if 0 ≤ x6 then ((rf_within.f ((rd_T27 x230q6 x6).f0) ((rd_T27 x230q6 x6).f1) 0 1000).bind fun t231 => (if t231 = true then (rf_material.l0 k (wrap64 (x5 + ((rd_T27 x230q6 x6).f0))) (wrap64 (x6 + 1)) x230q0 x230q1 x230q2 x230q3 x230q4 x230q5 x230q6) else (some 1))) else (none)) else (if x5 > 1000 then (some 12) else (some 0))
end
def rf_material.f (k : Nat) (l00 : List ByteArray) (l01 : List (S70)) (l02 : List (S27)) (l03 : List (S89)) (a04 : Int) (a05 : Int) (a06 : Int) (a1_0 : ByteArray) (a1_1 : Int) (a1_2 : Int) (a1_3 : Int) (a14 : Int) (a15 : Int) (l16 : List (S27)) : Option (Int) := if a1_1 < 0 then (rf_material.j0 k true l00 l01 l02 l03 a04 a05 a06 a1_0 a1_1 a1_2 a1_3 a14 a15 l16) else (if a1_1 > 10000 then (rf_material.j0 k true l00 l01 l02 l03 a04 a05 a06 a1_0 a1_1 a1_2 a1_3 a14 a15 l16) else (if a1_2 < (-1000) then (rf_material.j0 k true l00 l01 l02 l03 a04 a05 a06 a1_0 a1_1 a1_2 a1_3 a14 a15 l16) else (if a1_2 > 1000 then (rf_material.j0 k true l00 l01 l02 l03 a04 a05 a06 a1_0 a1_1 a1_2 a1_3 a14 a15 l16) else (if a1_3 < 0 then (rf_material.j0 k true l00 l01 l02 l03 a04 a05 a06 a1_0 a1_1 a1_2 a1_3 a14 a15 l16) else (if a1_3 > 10000 then (rf_material.j0 k true l00 l01 l02 l03 a04 a05 a06 a1_0 a1_1 a1_2 a1_3 a14 a15 l16) else (if a14 < a1_3 then (rf_material.j0 k true l00 l01 l02 l03 a04 a05 a06 a1_0 a1_1 a1_2 a1_3 a14 a15 l16) else (if a14 > 10000 then (rf_material.j0 k true l00 l01 l02 l03 a04 a05 a06 a1_0 a1_1 a1_2 a1_3 a14 a15 l16) else (if a15 < 1 then (rf_material.j0 k true l00 l01 l02 l03 a04 a05 a06 a1_0 a1_1 a1_2 a1_3 a14 a15 l16) else (rf_material.j0 k (decide (a15 > 10000)) l00 l01 l02 l03 a04 a05 a06 a1_0 a1_1 a1_2 a1_3 a14 a15 l16)))))))))
theorem rf_material.calls (k : Nat) (A00 : Option Addr) (c00 : Nat) (l00 : List ByteArray) (A01 : Option Addr) (c01 : Nat) (l01 : List (S70)) (A02 : Option Addr) (c02 : Nat) (l02 : List (S27)) (A03 : Option Addr) (c03 : Nat) (l03 : List (S89)) (a04 : Int) (a05 : Int) (a06 : Int) (a1_0 : ByteArray) (a1_1 : Int) (a1_2 : Int) (a1_3 : Int) (a14 : Int) (a15 : Int) (A1_6 : Option Addr) (c1_6 : Nat) (l16 : List (S27)) (r : Int) (w : World) (hr00 : Kd.C Kd.string w A00 l00.length l00) (hc00 : l00.length ≤ c00) (hr01 : Kd.C k70 w A01 l01.length l01) (hc01 : l01.length ≤ c01) (hr02 : Kd.C k27 w A02 l02.length l02) (hc02 : l02.length ≤ c02) (hr03 : Kd.C k89 w A03 l03.length l03) (hc03 : l03.length ≤ c03) (hr16 : Kd.C k27 w A1_6 l16.length l16) (hc16 : l16.length ≤ c1_6) (h : rf_material.f k l00 l01 l02 l03 a04 a05 a06 a1_0 a1_1 a1_2 a1_3 a14 a15 l16 = some r) :
  Calls Tryz.prog 172 #[.agg #[.slice A00 l00.length c00, .slice A01 l01.length c01, .slice A02 l02.length c02, .slice A03 l03.length c03, .int .i64 a04, .int .i64 a05, .int .i64 a06], .agg #[.string a1_0, .int .i64 a1_1, .int .i64 a1_2, .int .i64 a1_3, .int .i64 a14, .int .i64 a15, .slice A1_6 l16.length c1_6]] w fun e w' => e = .returned (.int .i64 r) ∧ Below w.heap.size w w' := by
 have hu29 := Tryz.underlying29; have hu70 := Tryz.underlying70; have hu27 := Tryz.underlying27; have HR00 := Sd.mk hr00; have HC00 := Sd.mk hc00; clear hr00 hc00; have HR01 := Sd.mk hr01; have HC01 := Sd.mk hc01; clear hr01 hc01; have HR02 := Sd.mk hr02; have HC02 := Sd.mk hc02; clear hr02 hc02; have HR03 := Sd.mk hr03; have HC03 := Sd.mk hc03; clear hr03 hc03; have HR16 := Sd.mk hr16; have HC16 := Sd.mk hc16; clear hr16 hc16; have HB := Sd.mk (Below.refl w.heap.size w)
 have H : (if a1_1 < 0 then (rf_material.j0 k true l00 l01 l02 l03 a04 a05 a06 a1_0 a1_1 a1_2 a1_3 a14 a15 l16) else (if a1_1 > 10000 then (rf_material.j0 k true l00 l01 l02 l03 a04 a05 a06 a1_0 a1_1 a1_2 a1_3 a14 a15 l16) else (if a1_2 < (-1000) then (rf_material.j0 k true l00 l01 l02 l03 a04 a05 a06 a1_0 a1_1 a1_2 a1_3 a14 a15 l16) else (if a1_2 > 1000 then (rf_material.j0 k true l00 l01 l02 l03 a04 a05 a06 a1_0 a1_1 a1_2 a1_3 a14 a15 l16) else (if a1_3 < 0 then (rf_material.j0 k true l00 l01 l02 l03 a04 a05 a06 a1_0 a1_1 a1_2 a1_3 a14 a15 l16) else (if a1_3 > 10000 then (rf_material.j0 k true l00 l01 l02 l03 a04 a05 a06 a1_0 a1_1 a1_2 a1_3 a14 a15 l16) else (if a14 < a1_3 then (rf_material.j0 k true l00 l01 l02 l03 a04 a05 a06 a1_0 a1_1 a1_2 a1_3 a14 a15 l16) else (if a14 > 10000 then (rf_material.j0 k true l00 l01 l02 l03 a04 a05 a06 a1_0 a1_1 a1_2 a1_3 a14 a15 l16) else (if a15 < 1 then (rf_material.j0 k true l00 l01 l02 l03 a04 a05 a06 a1_0 a1_1 a1_2 a1_3 a14 a15 l16) else (rf_material.j0 k (decide (a15 > 10000)) l00 l01 l02 l03 a04 a05 a06 a1_0 a1_1 a1_2 a1_3 a14 a15 l16)))))))))) = some r := h
 clear h; have HC3 := Sd.mk H; clear H
 go_enter Tryz.func172, Tryz.ntmps172
 go_upto_region 1 with (first | ((with_reducible refine gate_dst (N := 2) rfl ?_); refine box_event ?hg (N := 2) ?hd (cs := #[.slice A00 l00.length c00, .slice A01 l01.length c01, .slice A02 l02.length c02, .slice A03 l03.length c03, .int .i64 a04, .int .i64 a05, .int .i64 a06]) (t := 29) ?hr ?_; (case hd => rfl); (case hg => rfl); (case hr => exact tG); intro gb228 hg w4 hbox hb; have BK228 := Sd.mk (hbox); have GW228 := Sd.mk (bSz hg (bBl HB.out)); have GE228 := Sd.mk (bSz hg (bBl HB.out)); replace HB := Sd.mk (below_step (bBl HB.out) hb); clear hb hbox hg) | ((with_reducible refine gate_dst (N := 3) rfl ?_); refine box_event ?hg (N := 3) ?hd (cs := #[.string a1_0, .int .i64 a1_1, .int .i64 a1_2, .int .i64 a1_3, .int .i64 a14, .int .i64 a15, .slice A1_6 l16.length c1_6]) (t := 70) ?hr ?_; (case hd => rfl); (case hg => rfl); (case hr => exact tG); intro gb229 hg w5 hbox hb; have BK229 := Sd.mk (hbox); have GW229 := Sd.mk (bSz hg (bBl HB.out)); have GE229 := Sd.mk (bSz hg (bBl HB.out)); replace HB := Sd.mk (below_step (bBl HB.out) hb); have NB228229 := Sd.mk (bNl hg (bkA BK228.out)); have NB229228 := Sd.mk (bNg hg (bkA BK228.out)); replace BK228 := Sd.mk (blk_below (bkA BK228.out) hb); clear hb hbox hg))
 (try simp only [Act.put, List.setIfInBounds_toArray, List.set_cons_zero, List.set_cons_succ])
 go_cut [56] (fun v56 wc => ∃ (kq : Nat) (x562 : Bool), v56 = .bool x562 ∧ Sd (rf_material.j0 kq x562 l00 l01 l02 l03 a04 a05 a06 a1_0 a1_1 a1_2 a1_3 a14 a15 l16 = some r) ∧ Sd (kq ≤ k) ∧ Sd (wc.heap[gb228]? = some (.cells #[(.slice A00 l00.length c00), (.slice A01 l01.length c01), (.slice A02 l02.length c02), (.slice A03 l03.length c03), .int .i64 a04, .int .i64 a05, .int .i64 a06] 29 (0, 0))) ∧ Sd (wc.heap[gb229]? = some (.cells #[.string a1_0, .int .i64 a1_1, .int .i64 a1_2, .int .i64 a1_3, .int .i64 a14, .int .i64 a15, (.slice A1_6 l16.length c1_6)] 70 (0, 0))) ∧ Sd (Below w.heap.size w wc))
 case first =>
  have H := HC3.out; clear HC3
  by_cases c6 : a1_1 < 0
  ·rw [if_pos c6] at H
   have c6b0 : decide (a1_1 < 0) = true := decide_eq_true c6
   clear c6
   (first | rw [c6b0] | (simp only [i64_w, i32_w]; rw [c6b0]) | skip)
   have H' := Sd.mk H; clear H; have hnb7 := NB229228.out; have hnc7 := NB228229.out; obtain ⟨u8_0, u8_1, u8_2, u8_3, u8_4, u8_5, u8_6, o80, o81, o82, o83, o84, o85, o86⟩ := bc7 (w := w5) BK229.out
   go_wp2
   go_meet
   case rel => exact ⟨_, (true), tS, H', ⟨by first | omega | exact Nat.le_refl _⟩, ⟨bkA BK228.out⟩, ⟨bkA BK229.out⟩, ⟨bBl HB.out⟩⟩
  ·rw [if_neg c6] at H
   have c6b0 : decide (a1_1 < 0) = false := decide_eq_false c6
   clear c6
   (first | rw [c6b0] | (simp only [i64_w, i32_w]; rw [c6b0]) | skip)
   by_cases c9 : a1_1 > 10000
   ·rw [if_pos c9] at H
    have c9b0 : decide (10000 < a1_1) = true := decide_eq_true c9
    clear c9; have H' := Sd.mk H; clear H; have hnb10 := NB229228.out; have hnc10 := NB228229.out; obtain ⟨u11_0, u11_1, u11_2, u11_3, u11_4, u11_5, u11_6, o110, o111, o112, o113, o114, o115, o116⟩ := bc7 (w := w5) BK229.out
    go_wp2
    go_meet
    case rel => exact ⟨_, (true), tS, H', ⟨by first | omega | exact Nat.le_refl _⟩, ⟨bkA BK228.out⟩, ⟨bkA BK229.out⟩, ⟨bBl HB.out⟩⟩
   ·rw [if_neg c9] at H
    have c9b0 : decide (10000 < a1_1) = false := decide_eq_false c9
    clear c9
    by_cases c12 : a1_2 < (-1000)
    ·rw [if_pos c12] at H
     have c12b0 : decide (a1_2 < (-1000)) = true := decide_eq_true c12
     clear c12; have H' := Sd.mk H; clear H; have hnb13 := NB229228.out; have hnc13 := NB228229.out; obtain ⟨u14_0, u14_1, u14_2, u14_3, u14_4, u14_5, u14_6, o140, o141, o142, o143, o144, o145, o146⟩ := bc7 (w := w5) BK229.out
     go_wp2
     go_meet
     case rel => exact ⟨_, (true), tS, H', ⟨by first | omega | exact Nat.le_refl _⟩, ⟨bkA BK228.out⟩, ⟨bkA BK229.out⟩, ⟨bBl HB.out⟩⟩
    ·rw [if_neg c12] at H
     have c12b0 : decide (a1_2 < (-1000)) = false := decide_eq_false c12
     clear c12
     by_cases c15 : a1_2 > 1000
     ·rw [if_pos c15] at H
      have c15b0 : decide (1000 < a1_2) = true := decide_eq_true c15
      clear c15; have H' := Sd.mk H; clear H; have hnb16 := NB229228.out; have hnc16 := NB228229.out; obtain ⟨u17_0, u17_1, u17_2, u17_3, u17_4, u17_5, u17_6, o170, o171, o172, o173, o174, o175, o176⟩ := bc7 (w := w5) BK229.out
      go_wp2
      go_meet
      case rel => exact ⟨_, (true), tS, H', ⟨by first | omega | exact Nat.le_refl _⟩, ⟨bkA BK228.out⟩, ⟨bkA BK229.out⟩, ⟨bBl HB.out⟩⟩
     ·rw [if_neg c15] at H
      have c15b0 : decide (1000 < a1_2) = false := decide_eq_false c15
      clear c15
      by_cases c18 : a1_3 < 0
      ·rw [if_pos c18] at H
       have c18b0 : decide (a1_3 < 0) = true := decide_eq_true c18
       clear c18; have H' := Sd.mk H; clear H; have hnb19 := NB229228.out; have hnc19 := NB228229.out; obtain ⟨u20_0, u20_1, u20_2, u20_3, u20_4, u20_5, u20_6, o200, o201, o202, o203, o204, o205, o206⟩ := bc7 (w := w5) BK229.out
       go_wp2
       go_meet
       case rel => exact ⟨_, (true), tS, H', ⟨by first | omega | exact Nat.le_refl _⟩, ⟨bkA BK228.out⟩, ⟨bkA BK229.out⟩, ⟨bBl HB.out⟩⟩
      ·rw [if_neg c18] at H
       have c18b0 : decide (a1_3 < 0) = false := decide_eq_false c18
       clear c18
       by_cases c21 : a1_3 > 10000
       ·rw [if_pos c21] at H
        have c21b0 : decide (10000 < a1_3) = true := decide_eq_true c21
        clear c21; have H' := Sd.mk H; clear H; have hnb22 := NB229228.out; have hnc22 := NB228229.out; obtain ⟨u23_0, u23_1, u23_2, u23_3, u23_4, u23_5, u23_6, o230, o231, o232, o233, o234, o235, o236⟩ := bc7 (w := w5) BK229.out
        go_wp2
        go_meet
        case rel => exact ⟨_, (true), tS, H', ⟨by first | omega | exact Nat.le_refl _⟩, ⟨bkA BK228.out⟩, ⟨bkA BK229.out⟩, ⟨bBl HB.out⟩⟩
       ·rw [if_neg c21] at H
        have c21b0 : decide (10000 < a1_3) = false := decide_eq_false c21
        clear c21
        by_cases c24 : a14 < a1_3
        ·rw [if_pos c24] at H
         have c24b0 : decide (a14 < a1_3) = true := decide_eq_true c24
         clear c24; have H' := Sd.mk H; clear H; have hnb25 := NB229228.out; have hnc25 := NB228229.out; obtain ⟨u26_0, u26_1, u26_2, u26_3, u26_4, u26_5, u26_6, o260, o261, o262, o263, o264, o265, o266⟩ := bc7 (w := w5) BK229.out
         go_wp2
         go_meet
         case rel => exact ⟨_, (true), tS, H', ⟨by first | omega | exact Nat.le_refl _⟩, ⟨bkA BK228.out⟩, ⟨bkA BK229.out⟩, ⟨bBl HB.out⟩⟩
        ·rw [if_neg c24] at H
         have c24b0 : decide (a14 < a1_3) = false := decide_eq_false c24
         clear c24
         by_cases c27 : a14 > 10000
         ·rw [if_pos c27] at H
          have c27b0 : decide (10000 < a14) = true := decide_eq_true c27
          clear c27; have H' := Sd.mk H; clear H; have hnb28 := NB229228.out; have hnc28 := NB228229.out; obtain ⟨u29_0, u29_1, u29_2, u29_3, u29_4, u29_5, u29_6, o290, o291, o292, o293, o294, o295, o296⟩ := bc7 (w := w5) BK229.out
          go_wp2
          go_meet
          case rel => exact ⟨_, (true), tS, H', ⟨by first | omega | exact Nat.le_refl _⟩, ⟨bkA BK228.out⟩, ⟨bkA BK229.out⟩, ⟨bBl HB.out⟩⟩
         ·rw [if_neg c27] at H
          have c27b0 : decide (10000 < a14) = false := decide_eq_false c27
          clear c27
          by_cases c30 : a15 < 1
          ·rw [if_pos c30] at H
           have c30b0 : decide (a15 < 1) = true := decide_eq_true c30
           clear c30; have H' := Sd.mk H; clear H; have hnb31 := NB229228.out; have hnc31 := NB228229.out; obtain ⟨u32_0, u32_1, u32_2, u32_3, u32_4, u32_5, u32_6, o320, o321, o322, o323, o324, o325, o326⟩ := bc7 (w := w5) BK229.out
           go_wp2
           go_meet
           case rel => exact ⟨_, (true), tS, H', ⟨by first | omega | exact Nat.le_refl _⟩, ⟨bkA BK228.out⟩, ⟨bkA BK229.out⟩, ⟨bBl HB.out⟩⟩
          ·rw [if_neg c30] at H
           have c30b0 : decide (a15 < 1) = false := decide_eq_false c30
           clear c30; have H' := Sd.mk H; clear H; have hnb33 := NB229228.out; have hnc33 := NB228229.out; obtain ⟨u34_0, u34_1, u34_2, u34_3, u34_4, u34_5, u34_6, o340, o341, o342, o343, o344, o345, o346⟩ := bc7 (w := w5) BK229.out
           go_wp2
           go_meet
           case rel => exact ⟨_, (decide (a15 > 10000)), tS, H', ⟨by first | omega | exact Nat.le_refl _⟩, ⟨bkA BK228.out⟩, ⟨bkA BK229.out⟩, ⟨bBl HB.out⟩⟩
 case rest =>
  clear HC3; (try clear c1); (try clear c2); (try clear p2); (try clear c3); (try clear c6); (try clear c6b0); (try clear c7); (try clear c9); (try clear c9b0); (try clear c10); (try clear c12); (try clear c12b0); (try clear c13); (try clear c15); (try clear c15b0); (try clear c16); (try clear c17); (try clear c18); (try clear c18b0); (try clear c19); (try clear c21); (try clear c21b0); (try clear c22); (try clear c24); (try clear c24b0); (try clear c25); (try clear c27); (try clear c27b0); (try clear c28); (try clear c30); (try clear c30b0); (try clear c31); (try clear c33); (try clear u11_0 u11_1 u11_2 u11_3 u11_4 u11_5 u11_6); (try clear u14_0 u14_1 u14_2 u14_3 u14_4 u14_5 u14_6); (try clear u17_0 u17_1 u17_2 u17_3 u17_4 u17_5 u17_6); (try clear u20_0 u20_1 u20_2 u20_3 u20_4 u20_5 u20_6); (try clear u23_0 u23_1 u23_2 u23_3 u23_4 u23_5 u23_6); (try clear u26_0 u26_1 u26_2 u26_3 u26_4 u26_5 u26_6); (try clear u29_0 u29_1 u29_2 u29_3 u29_4 u29_5 u29_6); (try clear u32_0 u32_1 u32_2 u32_3 u32_4 u32_5 u32_6); (try clear u34_0 u34_1 u34_2 u34_3 u34_4 u34_5 u34_6); (try clear u8_0 u8_1 u8_2 u8_3 u8_4 u8_5 u8_6); (try clear o110 o111 o112 o113 o114 o115 o116); (try clear o140 o141 o142 o143 o144 o145 o146); (try clear o170 o171 o172 o173 o174 o175 o176); (try clear o200 o201 o202 o203 o204 o205 o206); (try clear o230 o231 o232 o233 o234 o235 o236); (try clear o260 o261 o262 o263 o264 o265 o266); (try clear o290 o291 o292 o293 o294 o295 o296); (try clear o320 o321 o322 o323 o324 o325 o326); (try clear o340 o341 o342 o343 o344 o345 o346); (try clear o80 o81 o82 o83 o84 o85 o86); obtain ⟨kq, x562, rfl, HA, HJ2, BK228, BK229, HB⟩ := hcut
  cases kq with
  | zero => exact absurd HA.out (by simp [rf_material.j0])
  | succ kj2 =>
   have H := HA.out; clear HA
   simp only [rf_material.j0] at H
   by_cases c35 : x562 = true
   ·subst c35
    have H1 : (some 1) = some r := by rw [if_pos rfl] at H; exact H
    clear H; have H := H1; clear H1; obtain rfl := Option.some.inj H
    go_wp2
    go_ret
    exact ⟨tE, bBl HB.out⟩
   ·replace c35 := Bool.eq_false_iff.mpr c35
    subst c35
    have H1 : (if (l16.length : Int) = (l00.length : Int) then (rf_material.l0 kj2 0 0 a1_0 a1_1 a1_2 a1_3 a14 a15 l16) else (some 1)) = some r := by rw [if_neg (show ¬ (false = true) by decide)] at H; exact H
    clear H; have H := H1; clear H1
    by_cases c36 : (l16.length : Int) = (l00.length : Int)
    ·rw [if_pos c36] at H
     have c36b0 : ((l16.length : Int) == (l00.length : Int)) = true := beq_iff_eq.mpr c36
     have c36b1 : ((l16.length : Int) != (l00.length : Int)) = false := bne_eq_false_iff_eq.mpr c36
     have c36b2 : (l16.length == l00.length) = true := by first | simpa using c36 | (simp at c36 ⊢; omega)
     clear c36; have H' := Sd.mk H; clear H; have hnb37 := NB229228.out; have hnc37 := NB228229.out; obtain ⟨u38_0, u38_1, u38_2, u38_3, u38_4, u38_5, u38_6, o380, o381, o382, o383, o384, o385, o386⟩ := bc7 (w := wc) BK229.out; obtain ⟨u39_0, u39_1, u39_2, u39_3, u39_4, u39_5, u39_6, o390, o391, o392, o393, o394, o395, o396⟩ := bc7 (w := wc) BK228.out
     go_wp2
     go_loopg [5, 6] kj2 (fun kq v5 v6 w' => ∃ (x52 : Int) (x62 : Int), v5 = .int .i64 x52 ∧ v6 = .int .i64 x62 ∧ Sd (rf_material.l0 kq x52 x62 a1_0 a1_1 a1_2 a1_3 a14 a15 l16 = some r) ∧ Sd (kq ≤ kj2) ∧ Sd (w'.heap[gb228]? = some (.cells #[(.slice A00 l00.length c00), (.slice A01 l01.length c01), (.slice A02 l02.length c02), (.slice A03 l03.length c03), .int .i64 a04, .int .i64 a05, .int .i64 a06] 29 (0, 0))) ∧ Sd (w'.heap[gb229]? = some (.cells #[.string a1_0, .int .i64 a1_1, .int .i64 a1_2, .int .i64 a1_3, .int .i64 a14, .int .i64 a15, (.slice A1_6 l16.length c1_6)] 70 (0, 0))) ∧ Sd (Below w.heap.size w w'))
     case atStart => exact ⟨(0), (0), tS, tS, H', ⟨Nat.le_refl _⟩, ⟨bkA BK228.out⟩, ⟨bkA BK229.out⟩, ⟨bBl HB.out⟩⟩
     case round =>
      clear H'; (try clear c1); (try clear c2); (try clear p2 p2); (try clear c3); (try clear c6); (try clear c6b0); (try clear c7); (try clear c9); (try clear c9b0); (try clear c10); (try clear c12); (try clear c12b0); (try clear c13); (try clear c15); (try clear c15b0); (try clear c16); (try clear c17); (try clear c18); (try clear c18b0); (try clear c19); (try clear c21); (try clear c21b0); (try clear c22); (try clear c24); (try clear c24b0); (try clear c25); (try clear c27); (try clear c27b0); (try clear c28); (try clear c30); (try clear c30b0); (try clear c31); (try clear c33); (try clear c35); (try clear c36); (try clear c36b0); (try clear c36b1); (try clear c36b2); (try clear c37); (try clear u11_0 u11_1 u11_2 u11_3 u11_4 u11_5 u11_6); (try clear u14_0 u14_1 u14_2 u14_3 u14_4 u14_5 u14_6); (try clear u17_0 u17_1 u17_2 u17_3 u17_4 u17_5 u17_6); (try clear u20_0 u20_1 u20_2 u20_3 u20_4 u20_5 u20_6); (try clear u23_0 u23_1 u23_2 u23_3 u23_4 u23_5 u23_6); (try clear u26_0 u26_1 u26_2 u26_3 u26_4 u26_5 u26_6); (try clear u29_0 u29_1 u29_2 u29_3 u29_4 u29_5 u29_6); (try clear u32_0 u32_1 u32_2 u32_3 u32_4 u32_5 u32_6); (try clear u34_0 u34_1 u34_2 u34_3 u34_4 u34_5 u34_6); (try clear u38_0 u38_1 u38_2 u38_3 u38_4 u38_5 u38_6); (try clear u39_0 u39_1 u39_2 u39_3 u39_4 u39_5 u39_6); (try clear u8_0 u8_1 u8_2 u8_3 u8_4 u8_5 u8_6); (try clear o110 o111 o112 o113 o114 o115 o116); (try clear o140 o141 o142 o143 o144 o145 o146); (try clear o170 o171 o172 o173 o174 o175 o176); (try clear o200 o201 o202 o203 o204 o205 o206); (try clear o230 o231 o232 o233 o234 o235 o236); (try clear o260 o261 o262 o263 o264 o265 o266); (try clear o290 o291 o292 o293 o294 o295 o296); (try clear o320 o321 o322 o323 o324 o325 o326); (try clear o340 o341 o342 o343 o344 o345 o346); (try clear o380 o381 o382 o383 o384 o385 o386); (try clear o390 o391 o392 o393 o394 o395 o396); (try clear o80 o81 o82 o83 o84 o85 o86); obtain ⟨x52, x62, rfl, rfl, HA, HK2, BK228, BK229, HB⟩ := hrel
      cases gk with
      | zero => exact absurd HA.out (by simp [rf_material.l0])
      | succ k2 =>
       have H := HA.out; clear HA
       simp only [rf_material.l0] at H
       by_cases c40 : x62 < (l16.length : Int)
       ·rw [if_pos c40] at H
        have c40b0 : decide (x62 < (l16.length : Int)) = true := decide_eq_true c40
        clear c40
        by_cases c41 : 0 ≤ x62
        ·rw [if_pos c41] at H
         have c41b0 : decide (0 ≤ x62) = true := decide_eq_true c41
         clear c41; replace H := Option.bind_eq_some_iff.mp H; obtain ⟨t231, A420, H⟩ := H
         try dsimp only at H
         have A42 := Sd.mk A420; clear A420
         by_cases c43 : t231 = true
         ·subst c43
          have H1 : (rf_material.l0 k2 (wrap64 (x52 + ((rd_T27 l16 x62).f0))) (wrap64 (x62 + 1)) a1_0 a1_1 a1_2 a1_3 a14 a15 l16) = some r := by rw [if_pos rfl] at H; exact H
          clear H; have H := H1; clear H1; have H' := Sd.mk H; clear H; have hnb44 := NB229228.out; have hnc44 := NB228229.out; obtain ⟨u45_0, u45_1, u45_2, u45_3, u45_4, u45_5, u45_6, o450, o451, o452, o453, o454, o455, o456⟩ := bc7 (w := wr) BK229.out
          have p230 : 0 ≤ (x62 : Int) := tB
          have q230 : x62 < (l16.length : Int) := tB
          obtain ⟨ad230, e230, hx2300, hx2301⟩ := at_T27 HR16.out x62 p230 q230; cases e230; replace hx2300 := cU HB hx2300; replace hx2301 := cU HB hx2301; replace p230 := eq_true p230; replace q230 := eq_true q230
          go_wp2_with (first | ((with_reducible refine gate_callee (f := 173) rfl ?_); refine goesL_ (some 76) rfl rfl Tryz.func173 (by kernel_rfl) rfl #[.agg #[.int .i64 ((rd_T27 l16 x62).f0), .int .i64 ((rd_T27 l16 x62).f1)], .int .i64 0, .int .i64 1000] rfl tM ?_; (with_reducible refine (rf_within.calls ((rd_T27 l16 x62).f0) ((rd_T27 l16 x62).f1) 0 1000 true _ A42.out).mono ?_); rintro e w46 ⟨rfl, hb⟩; refine ⟨_, rfl, ?_⟩; replace BK228 := Sd.mk (blk_below (bkA BK228.out) hb); replace BK229 := Sd.mk (blk_below (bkA BK229.out) hb); replace HB := Sd.mk (below_step (bBl HB.out) hb); (try clear hb); (try clear hb2); (try clear hk); (try clear hi); obtain ⟨u47_0, u47_1, u47_2, u47_3, u47_4, u47_5, u47_6, o470, o471, o472, o473, o474, o475, o476⟩ := bc7 (w := w46) BK229.out; have p232 : 0 ≤ (x62 : Int) := tB; have q232 : x62 < (l16.length : Int) := tB; obtain ⟨ad232, e232, hx2320, hx2321⟩ := at_T27 HR16.out x62 p232 q232; obtain rfl : ad230 = ad232 := (by injection e232); replace hx2320 := cU HB hx2320; replace hx2321 := cU HB hx2321; replace p232 := eq_true p232; replace q232 := eq_true q232))
          go_roundg k2
          case measure => have := HJ2.out; have := HK2.out; omega
          case rel => exact ⟨(wrap64 (x52 + ((rd_T27 l16 x62).f0))), (wrap64 (x62 + 1)), tS, tS, H', ⟨by have := HJ2.out; have := HK2.out; omega⟩, ⟨bkA BK228.out⟩, ⟨bkA BK229.out⟩, ⟨bBl HB.out⟩⟩
         ·replace c43 := Bool.eq_false_iff.mpr c43
          subst c43
          have H1 : (some 1) = some r := by rw [if_neg (show ¬ (false = true) by decide)] at H; exact H
          clear H; have H := H1; clear H1; obtain rfl := Option.some.inj H; have hnb48 := NB229228.out; have hnc48 := NB228229.out; obtain ⟨u49_0, u49_1, u49_2, u49_3, u49_4, u49_5, u49_6, o490, o491, o492, o493, o494, o495, o496⟩ := bc7 (w := wr) BK229.out
          have p230 : 0 ≤ (x62 : Int) := tB
          have q230 : x62 < (l16.length : Int) := tB
          obtain ⟨ad230, e230, hx2300, hx2301⟩ := at_T27 HR16.out x62 p230 q230; cases e230; replace hx2300 := cU HB hx2300; replace hx2301 := cU HB hx2301; replace p230 := eq_true p230; replace q230 := eq_true q230
          go_wp2_with (first | ((with_reducible refine gate_callee (f := 173) rfl ?_); refine goesL_ (some 76) rfl rfl Tryz.func173 (by kernel_rfl) rfl #[.agg #[.int .i64 ((rd_T27 l16 x62).f0), .int .i64 ((rd_T27 l16 x62).f1)], .int .i64 0, .int .i64 1000] rfl tM ?_; (with_reducible refine (rf_within.calls ((rd_T27 l16 x62).f0) ((rd_T27 l16 x62).f1) 0 1000 false _ A42.out).mono ?_); rintro e w50 ⟨rfl, hb⟩; refine ⟨_, rfl, ?_⟩; replace BK228 := Sd.mk (blk_below (bkA BK228.out) hb); replace BK229 := Sd.mk (blk_below (bkA BK229.out) hb); replace HB := Sd.mk (below_step (bBl HB.out) hb); (try clear hb); (try clear hb2); (try clear hk); (try clear hi)))
          go_ret
          exact ⟨tE, bBl HB.out⟩
        ·rw [if_neg c41] at H
         exact absurd H (by simp)
       ·rw [if_neg c40] at H
        have c40b0 : decide (x62 < (l16.length : Int)) = false := decide_eq_false c40
        clear c40
        by_cases c51 : x52 > 1000
        ·rw [if_pos c51] at H
         have c51b0 : decide (1000 < x52) = true := decide_eq_true c51
         clear c51; obtain rfl := Option.some.inj H; have hnb52 := NB229228.out; have hnc52 := NB228229.out; obtain ⟨u53_0, u53_1, u53_2, u53_3, u53_4, u53_5, u53_6, o530, o531, o532, o533, o534, o535, o536⟩ := bc7 (w := wr) BK229.out
         go_wp2
         go_ret
         exact ⟨tE, bBl HB.out⟩
        ·rw [if_neg c51] at H
         have c51b0 : decide (1000 < x52) = false := decide_eq_false c51
         clear c51; obtain rfl := Option.some.inj H; have hnb54 := NB229228.out; have hnc54 := NB228229.out; obtain ⟨u55_0, u55_1, u55_2, u55_3, u55_4, u55_5, u55_6, o550, o551, o552, o553, o554, o555, o556⟩ := bc7 (w := wr) BK229.out
         go_wp2
         go_ret
         exact ⟨tE, bBl HB.out⟩
    ·rw [if_neg c36] at H
     have c36b0 : ((l16.length : Int) == (l00.length : Int)) = false := beq_eq_false_iff_ne.mpr c36
     have c36b1 : ((l16.length : Int) != (l00.length : Int)) = true := bne_iff_ne.mpr c36
     have c36b2 : (l16.length == l00.length) = false := by first | simpa using c36 | (simp at c36 ⊢; omega)
     obtain rfl := Option.some.inj H; have hnb56 := NB229228.out; have hnc56 := NB228229.out; obtain ⟨u57_0, u57_1, u57_2, u57_3, u57_4, u57_5, u57_6, o570, o571, o572, o573, o574, o575, o576⟩ := bc7 (w := wc) BK229.out; obtain ⟨u58_0, u58_1, u58_2, u58_3, u58_4, u58_5, u58_6, o580, o581, o582, o583, o584, o585, o586⟩ := bc7 (w := wc) BK228.out
     go_wp2
     go_ret
     exact ⟨tE, bBl HB.out⟩
end
section
def rf_property.l0 : Nat → Int → ByteArray → List Int → Int → Int → Option (Int)
 | 0, _, _, _, _, _ => none
 | k + 1, x5, x235q0, x235q1, x235q2, x235q3 => if x5 < (x235q1.length : Int) then (if 0 ≤ x5 then (if (rd x235q1 x5) < (-10000) then (some 1) else (if (rd x235q1 x5) > 10000 then (some 1) else (rf_property.l0 k (wrap64 (x5 + 1)) x235q0 x235q1 x235q2 x235q3))) else (none)) else ((rf_within.f x235q2 x235q3 (-10000) 10000).bind fun t237 => (if t237 = true then (some 0) else (some 1)))
def rf_property.f (k : Nat) (l00 : List ByteArray) (l01 : List (S70)) (l02 : List (S27)) (l03 : List (S89)) (a04 : Int) (a05 : Int) (a06 : Int) (a1_0 : ByteArray) (l11 : List Int) (a1_2 : Int) (a1_3 : Int) : Option (Int) := if (l11.length : Int) = (l00.length : Int) then (rf_property.l0 k 0 a1_0 l11 a1_2 a1_3) else (some 1)
theorem rf_property.calls (k : Nat) (A00 : Option Addr) (c00 : Nat) (l00 : List ByteArray) (A01 : Option Addr) (c01 : Nat) (l01 : List (S70)) (A02 : Option Addr) (c02 : Nat) (l02 : List (S27)) (A03 : Option Addr) (c03 : Nat) (l03 : List (S89)) (a04 : Int) (a05 : Int) (a06 : Int) (a1_0 : ByteArray) (A11 : Option Addr) (c1_1 : Nat) (l11 : List Int) (a1_2 : Int) (a1_3 : Int) (r : Int) (w : World) (hr00 : Kd.C Kd.string w A00 l00.length l00) (hc00 : l00.length ≤ c00) (hr01 : Kd.C k70 w A01 l01.length l01) (hc01 : l01.length ≤ c01) (hr02 : Kd.C k27 w A02 l02.length l02) (hc02 : l02.length ≤ c02) (hr03 : Kd.C k89 w A03 l03.length l03) (hc03 : l03.length ≤ c03) (hr11 : Kd.C (Kd.int .i64) w A11 l11.length l11) (hc11 : l11.length ≤ c1_1) (h : rf_property.f k l00 l01 l02 l03 a04 a05 a06 a1_0 l11 a1_2 a1_3 = some r) :
  Calls Tryz.prog 174 #[.agg #[.slice A00 l00.length c00, .slice A01 l01.length c01, .slice A02 l02.length c02, .slice A03 l03.length c03, .int .i64 a04, .int .i64 a05, .int .i64 a06], .agg #[.string a1_0, .slice A11 l11.length c1_1, .int .i64 a1_2, .int .i64 a1_3]] w fun e w' => e = .returned (.int .i64 r) ∧ Below w.heap.size w w' := by
 have hu29 := Tryz.underlying29; have hu89 := Tryz.underlying89; have hu27 := Tryz.underlying27; have HR00 := Sd.mk hr00; have HC00 := Sd.mk hc00; clear hr00 hc00; have HR01 := Sd.mk hr01; have HC01 := Sd.mk hc01; clear hr01 hc01; have HR02 := Sd.mk hr02; have HC02 := Sd.mk hc02; clear hr02 hc02; have HR03 := Sd.mk hr03; have HC03 := Sd.mk hc03; clear hr03 hc03; have HR11 := Sd.mk hr11; have HC11 := Sd.mk hc11; clear hr11 hc11; have HB := Sd.mk (Below.refl w.heap.size w)
 have H : (if (l11.length : Int) = (l00.length : Int) then (rf_property.l0 k 0 a1_0 l11 a1_2 a1_3) else (some 1)) = some r := h
 clear h
 by_cases c3 : (l11.length : Int) = (l00.length : Int)
 ·rw [if_pos c3] at H
  have c3b0 : ((l11.length : Int) == (l00.length : Int)) = true := beq_iff_eq.mpr c3
  have c3b1 : ((l11.length : Int) != (l00.length : Int)) = false := bne_eq_false_iff_eq.mpr c3
  have c3b2 : (l11.length == l00.length) = true := by first | simpa using c3 | (simp at c3 ⊢; omega)
  clear c3; have H' := Sd.mk H; clear H
  go_enter Tryz.func174, Tryz.ntmps174
  go_wp2_with (first | ((with_reducible refine gate_dst (N := 2) rfl ?_); refine box_event ?hg (N := 2) ?hd (cs := #[.slice A00 l00.length c00, .slice A01 l01.length c01, .slice A02 l02.length c02, .slice A03 l03.length c03, .int .i64 a04, .int .i64 a05, .int .i64 a06]) (t := 29) ?hr ?_; (case hd => rfl); (case hg => rfl); (case hr => exact tG); intro gb233 hg w4 hbox hb; have BK233 := Sd.mk (hbox); have GW233 := Sd.mk (bSz hg (bBl HB.out)); have GE233 := Sd.mk (bSz hg (bBl HB.out)); replace HB := Sd.mk (below_step (bBl HB.out) hb); clear hb hbox hg) | ((with_reducible refine gate_dst (N := 3) rfl ?_); refine box_event ?hg (N := 3) ?hd (cs := #[.string a1_0, .slice A11 l11.length c1_1, .int .i64 a1_2, .int .i64 a1_3]) (t := 89) ?hr ?_; (case hd => rfl); (case hg => rfl); (case hr => exact tG); intro gb234 hg w5 hbox hb; have BK234 := Sd.mk (hbox); have GW234 := Sd.mk (bSz hg (bBl HB.out)); have GE234 := Sd.mk (bSz hg (bBl HB.out)); replace HB := Sd.mk (below_step (bBl HB.out) hb); have NB233234 := Sd.mk (bNl hg (bkA BK233.out)); have NB234233 := Sd.mk (bNg hg (bkA BK233.out)); replace BK233 := Sd.mk (blk_below (bkA BK233.out) hb); clear hb hbox hg; have hnb6 := NB234233.out; have hnc6 := NB233234.out; obtain ⟨u7_0, u7_1, u7_2, u7_3, o70, o71, o72, o73⟩ := bc4 (w := w5) BK234.out; obtain ⟨u8_0, u8_1, u8_2, u8_3, u8_4, u8_5, u8_6, o80, o81, o82, o83, o84, o85, o86⟩ := bc7 (w := w5) BK233.out))
  go_loopg [5] k (fun kq v5 w' => ∃ (x51 : Int), v5 = .int .i64 x51 ∧ Sd (rf_property.l0 kq x51 a1_0 l11 a1_2 a1_3 = some r) ∧ Sd (kq ≤ k) ∧ Sd (w'.heap[gb233]? = some (.cells #[(.slice A00 l00.length c00), (.slice A01 l01.length c01), (.slice A02 l02.length c02), (.slice A03 l03.length c03), .int .i64 a04, .int .i64 a05, .int .i64 a06] 29 (0, 0))) ∧ Sd (w'.heap[gb234]? = some (.cells #[.string a1_0, (.slice A11 l11.length c1_1), .int .i64 a1_2, .int .i64 a1_3] 89 (0, 0))) ∧ Sd (Below w.heap.size w w'))
  case atStart => exact ⟨(0), tS, H', ⟨Nat.le_refl _⟩, ⟨bkA BK233.out⟩, ⟨bkA BK234.out⟩, ⟨bBl HB.out⟩⟩
  case round =>
   clear H'; (try clear c1); (try clear p2); (try clear c3); (try clear c3b0); (try clear c3b1); (try clear c3b2); (try clear c6); (try clear u7_0 u7_1 u7_2 u7_3); (try clear u8_0 u8_1 u8_2 u8_3 u8_4 u8_5 u8_6); (try clear o70 o71 o72 o73); (try clear o80 o81 o82 o83 o84 o85 o86); obtain ⟨x51, rfl, HA, HK1, BK233, BK234, HB⟩ := hrel
   cases gk with
   | zero => exact absurd HA.out (by simp [rf_property.l0])
   | succ k1 =>
    have H := HA.out; clear HA
    simp only [rf_property.l0] at H
    by_cases c9 : x51 < (l11.length : Int)
    ·rw [if_pos c9] at H
     have c9b0 : decide (x51 < (l11.length : Int)) = true := decide_eq_true c9
     clear c9
     by_cases c10 : 0 ≤ x51
     ·rw [if_pos c10] at H
      have c10b0 : decide (0 ≤ x51) = true := decide_eq_true c10
      clear c10
      by_cases c11 : (rd l11 x51) < (-10000)
      ·rw [if_pos c11] at H
       have c11b0 : decide ((rd l11 x51) < (-10000)) = true := decide_eq_true c11
       clear c11; obtain rfl := Option.some.inj H; have hnb12 := NB234233.out; have hnc12 := NB233234.out; obtain ⟨u13_0, u13_1, u13_2, u13_3, o130, o131, o132, o133⟩ := bc4 (w := wr) BK234.out
       have p235 : 0 ≤ (x51 : Int) := tB
       have q235 : x51 < (l11.length : Int) := tB
       obtain ⟨ad235, e235, hx2350⟩ := Kd.at_int HR11.out x51 p235 q235; cases e235; replace hx2350 := cU HB hx2350; replace p235 := eq_true p235; replace q235 := eq_true q235
       go_wp2
       go_ret
       exact ⟨tE, bBl HB.out⟩
      ·rw [if_neg c11] at H
       have c11b0 : decide ((rd l11 x51) < (-10000)) = false := decide_eq_false c11
       clear c11
       by_cases c14 : (rd l11 x51) > 10000
       ·rw [if_pos c14] at H
        have c14b0 : decide (10000 < (rd l11 x51)) = true := decide_eq_true c14
        clear c14; obtain rfl := Option.some.inj H; have hnb15 := NB234233.out; have hnc15 := NB233234.out; obtain ⟨u16_0, u16_1, u16_2, u16_3, o160, o161, o162, o163⟩ := bc4 (w := wr) BK234.out
        have p235 : 0 ≤ (x51 : Int) := tB
        have q235 : x51 < (l11.length : Int) := tB
        obtain ⟨ad235, e235, hx2350⟩ := Kd.at_int HR11.out x51 p235 q235; cases e235; replace hx2350 := cU HB hx2350; replace p235 := eq_true p235; replace q235 := eq_true q235
        have p236 : 0 ≤ (x51 : Int) := tB
        have q236 : x51 < (l11.length : Int) := tB
        obtain ⟨ad236, e236, hx2360⟩ := Kd.at_int HR11.out x51 p236 q236
        obtain rfl : ad235 = ad236 := (by injection e236)
        replace hx2360 := cU HB hx2360; replace p236 := eq_true p236; replace q236 := eq_true q236
        go_wp2
        go_ret
        exact ⟨tE, bBl HB.out⟩
       ·rw [if_neg c14] at H
        have c14b0 : decide (10000 < (rd l11 x51)) = false := decide_eq_false c14
        clear c14; have H' := Sd.mk H; clear H; have hnb17 := NB234233.out; have hnc17 := NB233234.out; obtain ⟨u18_0, u18_1, u18_2, u18_3, o180, o181, o182, o183⟩ := bc4 (w := wr) BK234.out
        have p235 : 0 ≤ (x51 : Int) := tB
        have q235 : x51 < (l11.length : Int) := tB
        obtain ⟨ad235, e235, hx2350⟩ := Kd.at_int HR11.out x51 p235 q235; cases e235; replace hx2350 := cU HB hx2350; replace p235 := eq_true p235; replace q235 := eq_true q235
        have p236 : 0 ≤ (x51 : Int) := tB
        have q236 : x51 < (l11.length : Int) := tB
        obtain ⟨ad236, e236, hx2360⟩ := Kd.at_int HR11.out x51 p236 q236
        obtain rfl : ad235 = ad236 := (by injection e236)
        replace hx2360 := cU HB hx2360; replace p236 := eq_true p236; replace q236 := eq_true q236
        go_wp2
        go_roundg k1
        case measure => have := HK1.out; omega
        case rel => exact ⟨(wrap64 (x51 + 1)), tS, H', ⟨by have := HK1.out; omega⟩, ⟨bkA BK233.out⟩, ⟨bkA BK234.out⟩, ⟨bBl HB.out⟩⟩
     ·rw [if_neg c10] at H
      exact absurd H (by simp)
    ·rw [if_neg c9] at H
     have c9b0 : decide (x51 < (l11.length : Int)) = false := decide_eq_false c9
     clear c9; replace H := Option.bind_eq_some_iff.mp H; obtain ⟨t237, A190, H⟩ := H
     try dsimp only at H
     have A19 := Sd.mk A190; clear A190
     by_cases c20 : t237 = true
     ·subst c20
      have H1 : (some 0) = some r := by rw [if_pos rfl] at H; exact H
      clear H; have H := H1; clear H1; obtain rfl := Option.some.inj H; have hnb21 := NB234233.out; have hnc21 := NB233234.out; obtain ⟨u22_0, u22_1, u22_2, u22_3, o220, o221, o222, o223⟩ := bc4 (w := wr) BK234.out
      go_wp2_with (first | ((with_reducible refine gate_callee (f := 173) rfl ?_); refine goesL_ (some 36) rfl rfl Tryz.func173 (by kernel_rfl) rfl #[.agg #[.int .i64 a1_2, .int .i64 a1_3], .int .i64 (-10000), .int .i64 10000] rfl tM ?_; (with_reducible refine (rf_within.calls a1_2 a1_3 (-10000) 10000 true _ A19.out).mono ?_); rintro e w23 ⟨rfl, hb⟩; refine ⟨_, rfl, ?_⟩; replace BK233 := Sd.mk (blk_below (bkA BK233.out) hb); replace BK234 := Sd.mk (blk_below (bkA BK234.out) hb); replace HB := Sd.mk (below_step (bBl HB.out) hb); (try clear hb); (try clear hb2); (try clear hk); (try clear hi)))
      go_ret
      exact ⟨tE, bBl HB.out⟩
     ·replace c20 := Bool.eq_false_iff.mpr c20
      subst c20
      have H1 : (some 1) = some r := by rw [if_neg (show ¬ (false = true) by decide)] at H; exact H
      clear H; have H := H1; clear H1; obtain rfl := Option.some.inj H; have hnb24 := NB234233.out; have hnc24 := NB233234.out; obtain ⟨u25_0, u25_1, u25_2, u25_3, o250, o251, o252, o253⟩ := bc4 (w := wr) BK234.out
      go_wp2_with (first | ((with_reducible refine gate_callee (f := 173) rfl ?_); refine goesL_ (some 36) rfl rfl Tryz.func173 (by kernel_rfl) rfl #[.agg #[.int .i64 a1_2, .int .i64 a1_3], .int .i64 (-10000), .int .i64 10000] rfl tM ?_; (with_reducible refine (rf_within.calls a1_2 a1_3 (-10000) 10000 false _ A19.out).mono ?_); rintro e w26 ⟨rfl, hb⟩; refine ⟨_, rfl, ?_⟩; replace BK233 := Sd.mk (blk_below (bkA BK233.out) hb); replace BK234 := Sd.mk (blk_below (bkA BK234.out) hb); replace HB := Sd.mk (below_step (bBl HB.out) hb); (try clear hb); (try clear hb2); (try clear hk); (try clear hi)))
      go_ret
      exact ⟨tE, bBl HB.out⟩
 ·rw [if_neg c3] at H
  have c3b0 : ((l11.length : Int) == (l00.length : Int)) = false := beq_eq_false_iff_ne.mpr c3
  have c3b1 : ((l11.length : Int) != (l00.length : Int)) = true := bne_iff_ne.mpr c3
  have c3b2 : (l11.length == l00.length) = false := by first | simpa using c3 | (simp at c3 ⊢; omega)
  obtain rfl := Option.some.inj H
  go_enter Tryz.func174, Tryz.ntmps174
  go_wp2_with (first | ((with_reducible refine gate_dst (N := 2) rfl ?_); refine box_event ?hg (N := 2) ?hd (cs := #[.slice A00 l00.length c00, .slice A01 l01.length c01, .slice A02 l02.length c02, .slice A03 l03.length c03, .int .i64 a04, .int .i64 a05, .int .i64 a06]) (t := 29) ?hr ?_; (case hd => rfl); (case hg => rfl); (case hr => exact tG); intro gb233 hg w27 hbox hb; have BK233 := Sd.mk (hbox); have GW233 := Sd.mk (bSz hg (bBl HB.out)); have GE233 := Sd.mk (bSz hg (bBl HB.out)); replace HB := Sd.mk (below_step (bBl HB.out) hb); clear hb hbox hg) | ((with_reducible refine gate_dst (N := 3) rfl ?_); refine box_event ?hg (N := 3) ?hd (cs := #[.string a1_0, .slice A11 l11.length c1_1, .int .i64 a1_2, .int .i64 a1_3]) (t := 89) ?hr ?_; (case hd => rfl); (case hg => rfl); (case hr => exact tG); intro gb234 hg w28 hbox hb; have BK234 := Sd.mk (hbox); have GW234 := Sd.mk (bSz hg (bBl HB.out)); have GE234 := Sd.mk (bSz hg (bBl HB.out)); replace HB := Sd.mk (below_step (bBl HB.out) hb); have NB233234 := Sd.mk (bNl hg (bkA BK233.out)); have NB234233 := Sd.mk (bNg hg (bkA BK233.out)); replace BK233 := Sd.mk (blk_below (bkA BK233.out) hb); clear hb hbox hg; have hnb29 := NB234233.out; have hnc29 := NB233234.out; obtain ⟨u30_0, u30_1, u30_2, u30_3, o300, o301, o302, o303⟩ := bc4 (w := w28) BK234.out; obtain ⟨u31_0, u31_1, u31_2, u31_3, u31_4, u31_5, u31_6, o310, o311, o312, o313, o314, o315, o316⟩ := bc7 (w := w28) BK233.out))
  go_ret
  exact ⟨tE, bBl HB.out⟩
end
end Go.Proofs.YtljfljekcpdpiaaGreat.PB
