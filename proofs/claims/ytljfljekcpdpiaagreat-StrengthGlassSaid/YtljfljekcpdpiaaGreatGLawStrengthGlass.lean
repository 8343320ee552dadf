/- StrengthGlass: for every lehr, batch and ask the law returns true, and its arguments read behind the call as they did before. Conditions: none. -/
import Derived.Test.YtljfljekcpdpiaaGreatRows
import Derived.WalkKit
import Derived.ProofKit
import Derived.OpenShut
import Derived.ShutString
import Derived.ChangeOld
import Derived.Below
import Derived.SizedLaws
import Derived.Test.YtljfljekcpdpiaaGreatG6
namespace Go.Proofs.YtljfljekcpdpiaaGreat.strengthGlass
open Go.ChangeShapes Go.WideShapes Go.ChangeAt Go.RowKit
set_option linter.unusedVariables false
theorem own : ownKnob Tryz.prog.godebug = none := by kernel_rfl
theorem laidOut : laidOutB Tryz.prog = true := by kernel_rfl
set_option maxRecDepth 100000 in
theorem lifted (os : Os) (started : os.Started) (H : Type) (enc : TypeId × Value → H) :
    ReturnsInHanded {} Tryz.checked os 4 .any (Rows.strengthGlassSpec.pre6 enc Tryz.prog Tryz.f4 Rows.strengthGlassRow.domain false) (Rows.strengthGlassSpec.post enc Tryz.prog Tryz.f4 false true false false) := by
  refine returnsInHanded_of_change_sized (C := Tryz.checked) own started (by kernel_rfl) Tryz.func4
    (ChangeSpec.witness6 (enc := enc) (C := Tryz.checked) false ⟨#[], #[.agg #[.slice none 0 0, .int .i64 0], .agg #[.slice none 0 0, .slice none 0 0, .slice none 0 0, .slice none 0 0, .int .i64 0, .int .i64 0, .int .i64 0], .agg #[.slice none 0 0, .int .i64 0, .int .i64 0, .int .i64 0, .int .i64 0, .int .i64 0, .int .i64 0, .int .i64 0, .int .i64 0, .slice none 0 0, .int .i64 0, .int .i64 0, .int .i64 0, .int .i64 0, .int .i64 0, .int .i64 0, .int .i64 0, .int .i64 0, .int .i64 0, .slice none 0 0, .slice none 0 0]], []⟩ 8 (by kernel_rfl) (by kernel_rfl) (by kernel_rfl) (by kernel_rfl)) ?_
  intro W base args ds gs before hval0 hW hcnd hsz0 _
  have hval : ∀ (j : Nat) t v, Tryz.f4.params[j]? = some t → args[j]? = some v → Value.okWide Tryz.prog W .any base t v := hval0
  have hW' := hW
  obtain ⟨p, q, hA0, hV, rfl, hfz, hnd⟩ := hW
  have hA : DataW.TrodAll enc Tryz.prog W 0 (fun _ => true) true Tryz.f4.params.toList args.toList ds p := hA0
  rw [Tryz.params4] at hA hval
  obtain ⟨v0, vs0, d0, ds0, p0, q0, hargs, rfl, rfl, h0, r0⟩ := trodAll_cons hA
  obtain ⟨v1, vs1, d1, ds1, p1, q1, rfl, rfl, rfl, h1, r1⟩ := trodAll_cons r0
  obtain ⟨v2, vs2, d2, ds2, p2, q2, rfl, rfl, rfl, h2, r2⟩ := trodAll_cons r1
  obtain ⟨rfl, rfl, rfl⟩ := trodAll_nil r2
  obtain rfl : args = #[v0, v1, v2] := by cases args; simp_all
  obtain ⟨rfl, rfl⟩ := trodVars_none hV
  obtain ⟨cs0, rfl, _⟩ := okWide_struct Tryz.underlying46 (hval 0 46 v0 rfl rfl)
  obtain ⟨cs1, rfl, _⟩ := okWide_struct Tryz.underlying29 (hval 1 29 v1 rfl rfl)
  obtain ⟨cs2, rfl, _⟩ := okWide_struct Tryz.underlying51 (hval 2 51 v2 rfl rfl)
  have k0 := h0
  have k2 := h2
  have k1 := h1
  have lt0 : ∀ x ∈ p0, x.block < W.heap.size := by obtain ⟨m, hm⟩ := k0; exact DataW.trod_lt m _ _ _ hm
  have lt1 : ∀ x ∈ p1, x.block < W.heap.size := by obtain ⟨m, hm⟩ := k1; exact DataW.trod_lt m _ _ _ hm
  have lt2 : ∀ x ∈ p2, x.block < W.heap.size := by obtain ⟨m, hm⟩ := k2; exact DataW.trod_lt m _ _ _ hm
  obtain ⟨fuel0, g0⟩ := h0
  obtain ⟨fuel2, g2⟩ := h2
  obtain ⟨fuel1, g1⟩ := h1
  obtain ⟨A0, c0, kn, fac, e0, ⟨b0, R0⟩⟩ := PB.arg71 (cs := cs0.toList) g0
  obtain ⟨Ao, co, o, Am, cm, mt, As, cs, s, Ap, cp, p, a4, a5, a6, e1, ⟨bo, Ro⟩, ⟨bm, Rm⟩, ⟨bs, Rs⟩, ⟨bp, Rp⟩⟩ := PB.arg29 (cs := cs1.toList) g1
  obtain ⟨B0, d0, y0, y1, y2, y3, y4, y5, y6, y7, y8, B9, d9, y9, y10, y11, y12, y13, y14, y15, y16, y17, y18, Br, dr, r, B20, d20, y20, e2, ⟨b1, R1⟩, ⟨b9, R9⟩, ⟨br, Rr⟩, ⟨b20, R20⟩⟩ := PB.arg76 (cs := cs2.toList) g2
  obtain rfl : cs0 = #[.slice A0 kn.length c0, .int .i64 fac] := by
    rw [← Array.toArray_toList (xs := cs0), e0]
  obtain rfl : cs1 = #[.slice Ao o.length co, .slice Am mt.length cm, .slice As s.length cs, .slice Ap p.length cp, .int .i64 a4, .int .i64 a5, .int .i64 a6] := by
    rw [← Array.toArray_toList (xs := cs1), e1]
  obtain rfl : cs2 = #[.slice B0 y0.length d0, .int .i64 y1, .int .i64 y2, .int .i64 y3, .int .i64 y4, .int .i64 y5, .int .i64 y6, .int .i64 y7, .int .i64 y8, .slice B9 y9.length d9, .int .i64 y10, .int .i64 y11, .int .i64 y12, .int .i64 y13, .int .i64 y14, .int .i64 y15, .int .i64 y16, .int .i64 y17, .int .i64 y18, .slice Br r.length dr, .slice B20 y20.length d20] := by
    rw [← Array.toArray_toList (xs := cs2), e2]
  clear hA0 hval0 hsz0 g0 g1 g2
  refine (PB.StrengthGlass_calls A0 c0 kn fac Ao co o Am cm mt As cs s Ap cp p a4 a5 a6 B0 d0 y0 y1 y2 y3 y4 y5 y6 y7 y8 B9 d9 y9 y10 y11 y12 y13 y14 y15 y16 y17 y18 Br dr r B20 d20 y20 W R0 b0 Ro bo Rm bm Rs bs Rp bp R1 b1 R9 b9 Rr br R20 b20).mono fun e W' ⟨he, bel⟩ => ?_
  subst he
  exact ⟨_, rfl, _, _, _, [], _, [], hW', trodAll_mk1 (shut_bool Tryz.underlying4 _), (trodAll_cons_mk (Below.trod laidOut (by kernel_rfl) (of_decide_eq_true (by kernel_rfl)) k0 bel lt0) (trodAll_cons_mk (Below.trod laidOut (by kernel_rfl) (of_decide_eq_true (by kernel_rfl)) k1 bel lt1) (trodAll_cons_mk (Below.trod laidOut (by kernel_rfl) (of_decide_eq_true (by kernel_rfl)) k2 bel lt2) trodAll_mk0))), rfl, bel.frame _, fun h => by cases h⟩
theorem over : Rows.strengthGlassRow.holds Tryz.pinned (OpenSpec.ofChange Rows.strengthGlassSpec) :=
  OpenClaim.holds_of_wide 4 Tryz.f4 rfl rfl rfl rfl rfl rfl rfl ⟨rfl, rfl, rfl, rfl, rfl⟩ rfl rfl rfl rfl rfl (by kernel_rfl) Tryz.func4 (by kernel_rfl)
    (of_decide_eq_true (by kernel_rfl)) (by unfold Func.isWrapper; first | (rw [if_pos (by decide +kernel)]; kernel_rfl) | (rw [if_neg (by decide +kernel)]; exact ⟨rfl, rfl⟩))
    (fun os started H enc _ => lifted os started H enc)
theorem proved : Rows.StrengthGlassSaid := over
end Go.Proofs.YtljfljekcpdpiaaGreat.strengthGlass
namespace Go.Proofs.YtljfljekcpdpiaaGreat
/-- The row, under a short name, for the claim. -/
theorem strengthGlass_holds : Rows.StrengthGlassSaid := strengthGlass.proved
#print axioms strengthGlass_holds
end Go.Proofs.YtljfljekcpdpiaaGreat
