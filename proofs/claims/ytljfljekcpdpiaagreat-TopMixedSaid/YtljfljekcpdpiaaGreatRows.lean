/-
  No cell of these rows narrows 'for every input' (looked for: loops, veiled, ifaces, maps, wideKeys, modest, calm, conditions, laid).
  DERIVED. THE GIVEN ROWS OF THIS SEAT. 7 by the template 'for every input the law returns true; each argument reads behind the call as it read before'; 0 by the template 'total and deterministic' (their statements: YtljfljekcpdpiaaGreatTotals.lean).
  GIVEN WITH THE SEED: the statements are not yours to turn. If you find one false, say at which input.
  Laid BY PROGRAM, IN A SANDBOX (cutbox-rows.mjs): the forced cells as the released guide's own fill.sh prints them over the translation 4d5b7b626a284bb5… (all of the seat's roots in one cut). By AI agents, Wed Nov 11 2026. No macro, syntax, notation, axiom, sorry.
-/
import Derived.Test.YtljfljekcpdpiaaGreatChecked
import GoSem.Claim
import GoSem.ClaimJoined
import GoSem.ClaimMapViews
import Derived.JoinedTies
import Derived.KernelRfl
namespace Go.Proofs.YtljfljekcpdpiaaGreat
/- THE CELL 'sum', in the pinned program and in every row, IS THE sha256 OF THE DUMP (.gsa) THAT YtljfljekcpdpiaaGreatProg.lean LOADS. Nothing in Lean hashes anything: it is a label: what it is worth is what the hold of that sum in a sandbox is worth. -/
noncomputable def Tryz.pinned : Pinned := { name := "ytljfljekcpdpiaagreat", sum := "4d5b7b626a284bb5cef36d97ad1ae411827a9c3ca890def1a3bf87aeadd71297", checked := Tryz.checked }
namespace Rows
def none {H : Type} : Left H := { results := [], args := [] }

/-- 'culletlaw01.BatchPasses': WHATEVER THE INPUT: true; the input reads as it did. -/
def batchPassesSpec : ChangeSpec := { name := "batchPasses", fn := fun _ => fun
  | [d1, d2] => { results := [.lit (.bool true)], args := [d1, d2] }
  | _ => none }
def batchPassesRow : OpenClaim := { program := "ytljfljekcpdpiaagreat", sum := "4d5b7b626a284bb5cef36d97ad1ae411827a9c3ca890def1a3bf87aeadd71297", func := "cullet/culletlaw01.BatchPasses", spec := "batchPasses", unfollowed := true, recurses := true, plainKeys := false, apart := false }
def BatchPassesSaid : Prop := batchPassesRow.holds Tryz.pinned (OpenSpec.ofChange batchPassesSpec)

/-- ITS FALSE NEIGHBOUR: 'it returns false'. Refute it at one input. -/
def batchPassesWrong : ChangeSpec := { name := "batchPasses", fn := fun _ => fun
  | [d1, d2] => { results := [.lit (.bool false)], args := [d1, d2] }
  | _ => none }
def BatchPassesWrongFalsely : Prop := batchPassesRow.holds Tryz.pinned (OpenSpec.ofChange batchPassesWrong)

/-- 'culletlaw05.StrengthGlass': WHATEVER THE INPUT: true; the input reads as it did. -/
def strengthGlassSpec : ChangeSpec := { name := "strengthGlass", fn := fun _ => fun
  | [d1, d2, d3] => { results := [.lit (.bool true)], args := [d1, d2, d3] }
  | _ => none }
def strengthGlassRow : OpenClaim := { program := "ytljfljekcpdpiaagreat", sum := "4d5b7b626a284bb5cef36d97ad1ae411827a9c3ca890def1a3bf87aeadd71297", func := "cullet/culletlaw05.StrengthGlass", spec := "strengthGlass", unfollowed := true, recurses := true, plainKeys := false, apart := false }
def StrengthGlassSaid : Prop := strengthGlassRow.holds Tryz.pinned (OpenSpec.ofChange strengthGlassSpec)

/-- ITS FALSE NEIGHBOUR: 'it returns false'. Refute it at one input. -/
def strengthGlassWrong : ChangeSpec := { name := "strengthGlass", fn := fun _ => fun
  | [d1, d2, d3] => { results := [.lit (.bool false)], args := [d1, d2, d3] }
  | _ => none }
def StrengthGlassWrongFalsely : Prop := strengthGlassRow.holds Tryz.pinned (OpenSpec.ofChange strengthGlassWrong)

/-- 'cullettop.TopMixed': WHATEVER THE INPUT: true; the input reads as it did. -/
def topMixedSpec : ChangeSpec := { name := "topMixed", fn := fun _ => fun
  | [d1, d2, d3] => { results := [.lit (.bool true)], args := [d1, d2, d3] }
  | _ => none }
def topMixedRow : OpenClaim := { program := "ytljfljekcpdpiaagreat", sum := "4d5b7b626a284bb5cef36d97ad1ae411827a9c3ca890def1a3bf87aeadd71297", func := "cullet/cullettop.TopMixed", spec := "topMixed", unfollowed := true, recurses := true, plainKeys := false, apart := false }
def TopMixedSaid : Prop := topMixedRow.holds Tryz.pinned (OpenSpec.ofChange topMixedSpec)

/-- ITS FALSE NEIGHBOUR: 'it returns false'. Refute it at one input. -/
def topMixedWrong : ChangeSpec := { name := "topMixed", fn := fun _ => fun
  | [d1, d2, d3] => { results := [.lit (.bool false)], args := [d1, d2, d3] }
  | _ => none }
def TopMixedWrongFalsely : Prop := topMixedRow.holds Tryz.pinned (OpenSpec.ofChange topMixedWrong)

/-- 'culletlaw01.BatchBests': WHATEVER THE INPUT: true; the input reads as it did. -/
def batchBestsSpec : ChangeSpec := { name := "batchBests", fn := fun _ => fun
  | [d1, d2] => { results := [.lit (.bool true)], args := [d1, d2] }
  | _ => none }
def batchBestsRow : OpenClaim := { program := "ytljfljekcpdpiaagreat", sum := "4d5b7b626a284bb5cef36d97ad1ae411827a9c3ca890def1a3bf87aeadd71297", func := "cullet/culletlaw01.BatchBests", spec := "batchBests", unfollowed := true, recurses := true, plainKeys := false, apart := false }
def BatchBestsSaid : Prop := batchBestsRow.holds Tryz.pinned (OpenSpec.ofChange batchBestsSpec)

/-- ITS FALSE NEIGHBOUR: 'it returns false'. Refute it at one input. -/
def batchBestsWrong : ChangeSpec := { name := "batchBests", fn := fun _ => fun
  | [d1, d2] => { results := [.lit (.bool false)], args := [d1, d2] }
  | _ => none }
def BatchBestsWrongFalsely : Prop := batchBestsRow.holds Tryz.pinned (OpenSpec.ofChange batchBestsWrong)

/-- 'culletlaw01.BatchCheapest': WHATEVER THE INPUT: true; the input reads as it did. -/
def batchCheapestSpec : ChangeSpec := { name := "batchCheapest", fn := fun _ => fun
  | [d1, d2] => { results := [.lit (.bool true)], args := [d1, d2] }
  | _ => none }
def batchCheapestRow : OpenClaim := { program := "ytljfljekcpdpiaagreat", sum := "4d5b7b626a284bb5cef36d97ad1ae411827a9c3ca890def1a3bf87aeadd71297", func := "cullet/culletlaw01.BatchCheapest", spec := "batchCheapest", unfollowed := true, recurses := true, plainKeys := false, apart := false }
def BatchCheapestSaid : Prop := batchCheapestRow.holds Tryz.pinned (OpenSpec.ofChange batchCheapestSpec)

/-- ITS FALSE NEIGHBOUR: 'it returns false'. Refute it at one input. -/
def batchCheapestWrong : ChangeSpec := { name := "batchCheapest", fn := fun _ => fun
  | [d1, d2] => { results := [.lit (.bool false)], args := [d1, d2] }
  | _ => none }
def BatchCheapestWrongFalsely : Prop := batchCheapestRow.holds Tryz.pinned (OpenSpec.ofChange batchCheapestWrong)

/-- 'culletlaw01.BatchProved': WHATEVER THE INPUT: true; the input reads as it did. -/
def batchProvedSpec : ChangeSpec := { name := "batchProved", fn := fun _ => fun
  | [d1, d2] => { results := [.lit (.bool true)], args := [d1, d2] }
  | _ => none }
def batchProvedRow : OpenClaim := { program := "ytljfljekcpdpiaagreat", sum := "4d5b7b626a284bb5cef36d97ad1ae411827a9c3ca890def1a3bf87aeadd71297", func := "cullet/culletlaw01.BatchProved", spec := "batchProved", unfollowed := true, recurses := true, plainKeys := false, apart := false }
def BatchProvedSaid : Prop := batchProvedRow.holds Tryz.pinned (OpenSpec.ofChange batchProvedSpec)

/-- ITS FALSE NEIGHBOUR: 'it returns false'. Refute it at one input. -/
def batchProvedWrong : ChangeSpec := { name := "batchProved", fn := fun _ => fun
  | [d1, d2] => { results := [.lit (.bool false)], args := [d1, d2] }
  | _ => none }
def BatchProvedWrongFalsely : Prop := batchProvedRow.holds Tryz.pinned (OpenSpec.ofChange batchProvedWrong)

/-- 'culletlaw05.StrengthKnown': WHATEVER THE INPUT: true; the input reads as it did. -/
def strengthKnownSpec : ChangeSpec := { name := "strengthKnown", fn := fun _ => fun
  | [] => { results := [.lit (.bool true)], args := [] }
  | _ => none }
def strengthKnownRow : OpenClaim := { program := "ytljfljekcpdpiaagreat", sum := "4d5b7b626a284bb5cef36d97ad1ae411827a9c3ca890def1a3bf87aeadd71297", func := "cullet/culletlaw05.StrengthKnown", spec := "strengthKnown", unfollowed := true, recurses := true, plainKeys := false, apart := false }
def StrengthKnownSaid : Prop := strengthKnownRow.holds Tryz.pinned (OpenSpec.ofChange strengthKnownSpec)

/-- ITS FALSE NEIGHBOUR: 'it returns false'. Refute it at one input. -/
def strengthKnownWrong : ChangeSpec := { name := "strengthKnown", fn := fun _ => fun
  | [] => { results := [.lit (.bool false)], args := [] }
  | _ => none }
def StrengthKnownWrongFalsely : Prop := strengthKnownRow.holds Tryz.pinned (OpenSpec.ofChange strengthKnownWrong)

/- THE SECOND FORM. 'bulk': how many values and letters a reading holds, each counted each time it is reached (what is shared counts as often as it is met; a slice's spare places count too). A statement '..UptoSaid' is the law's where the arguments, and the package variables that the reading takes, are together of bulk at most 1048576: NARROWER than '..Said'. Prove '..Said' where nothing that the law and all that it calls make is longer than what came in: it says more and counts as full. Else prove '..UptoSaid'. A law counts once. -/
mutual
def uptoBulk {H : Type} : DataW H → Nat
  | .lit (.string bytes) => bytes.length + 1
  | .lit _ => 1
  | .nil => 1
  | .ptr d => uptoBulk d + 1
  | .slice elems spare => uptoBulkAll elems + uptoBulkAll spare + 1
  | .agg parts => uptoBulkAll parts + 1
  | .iface _ d => uptoBulk d + 1
  | .map entries => uptoBulkEntries entries + 1
  | .held _ => 1
def uptoBulkAll {H : Type} : List (DataW H) → Nat
  | [] => 0
  | d :: r => uptoBulk d + uptoBulkAll r
def uptoBulkEntries {H : Type} : List (Lit × DataW H) → Nat
  | [] => 0
  | x :: r => uptoBulkEntry x + uptoBulkEntries r
def uptoBulkEntry {H : Type} : Lit × DataW H → Nat
  | (.string bytes, d) => bytes.length + uptoBulk d + 1
  | (_, d) => uptoBulk d + 1
 end
def uptoSmall : (H : Type) → List (DataW H) → Bool := fun _ ds => decide (uptoBulkAll ds ≤ 1048576)
def OpenSpec.upto (s : _root_.Go.ChangeSpec) : _root_.Go.OpenSpec := { _root_.Go.OpenSpec.ofChange s with cond := some uptoSmall }

/-- 'culletlaw01.BatchPasses', WHERE WHAT IT READS IS OF BULK AT MOST 1048576: true; the input reads as it did. -/
def batchPassesUptoRow : OpenClaim := { program := "ytljfljekcpdpiaagreat", sum := "4d5b7b626a284bb5cef36d97ad1ae411827a9c3ca890def1a3bf87aeadd71297", func := "cullet/culletlaw01.BatchPasses", spec := "batchPasses", unfollowed := true, recurses := true, plainKeys := false, apart := false, narrowed := true }
def BatchPassesUptoSaid : Prop := batchPassesUptoRow.holds Tryz.pinned (OpenSpec.upto batchPassesSpec)

/-- 'culletlaw05.StrengthGlass', WHERE WHAT IT READS IS OF BULK AT MOST 1048576: true; the input reads as it did. -/
def strengthGlassUptoRow : OpenClaim := { program := "ytljfljekcpdpiaagreat", sum := "4d5b7b626a284bb5cef36d97ad1ae411827a9c3ca890def1a3bf87aeadd71297", func := "cullet/culletlaw05.StrengthGlass", spec := "strengthGlass", unfollowed := true, recurses := true, plainKeys := false, apart := false, narrowed := true }
def StrengthGlassUptoSaid : Prop := strengthGlassUptoRow.holds Tryz.pinned (OpenSpec.upto strengthGlassSpec)

/-- 'cullettop.TopMixed', WHERE WHAT IT READS IS OF BULK AT MOST 1048576: true; the input reads as it did. -/
def topMixedUptoRow : OpenClaim := { program := "ytljfljekcpdpiaagreat", sum := "4d5b7b626a284bb5cef36d97ad1ae411827a9c3ca890def1a3bf87aeadd71297", func := "cullet/cullettop.TopMixed", spec := "topMixed", unfollowed := true, recurses := true, plainKeys := false, apart := false, narrowed := true }
def TopMixedUptoSaid : Prop := topMixedUptoRow.holds Tryz.pinned (OpenSpec.upto topMixedSpec)

/-- 'culletlaw01.BatchBests', WHERE WHAT IT READS IS OF BULK AT MOST 1048576: true; the input reads as it did. -/
def batchBestsUptoRow : OpenClaim := { program := "ytljfljekcpdpiaagreat", sum := "4d5b7b626a284bb5cef36d97ad1ae411827a9c3ca890def1a3bf87aeadd71297", func := "cullet/culletlaw01.BatchBests", spec := "batchBests", unfollowed := true, recurses := true, plainKeys := false, apart := false, narrowed := true }
def BatchBestsUptoSaid : Prop := batchBestsUptoRow.holds Tryz.pinned (OpenSpec.upto batchBestsSpec)

/-- 'culletlaw01.BatchCheapest', WHERE WHAT IT READS IS OF BULK AT MOST 1048576: true; the input reads as it did. -/
def batchCheapestUptoRow : OpenClaim := { program := "ytljfljekcpdpiaagreat", sum := "4d5b7b626a284bb5cef36d97ad1ae411827a9c3ca890def1a3bf87aeadd71297", func := "cullet/culletlaw01.BatchCheapest", spec := "batchCheapest", unfollowed := true, recurses := true, plainKeys := false, apart := false, narrowed := true }
def BatchCheapestUptoSaid : Prop := batchCheapestUptoRow.holds Tryz.pinned (OpenSpec.upto batchCheapestSpec)

/-- 'culletlaw01.BatchProved', WHERE WHAT IT READS IS OF BULK AT MOST 1048576: true; the input reads as it did. -/
def batchProvedUptoRow : OpenClaim := { program := "ytljfljekcpdpiaagreat", sum := "4d5b7b626a284bb5cef36d97ad1ae411827a9c3ca890def1a3bf87aeadd71297", func := "cullet/culletlaw01.BatchProved", spec := "batchProved", unfollowed := true, recurses := true, plainKeys := false, apart := false, narrowed := true }
def BatchProvedUptoSaid : Prop := batchProvedUptoRow.holds Tryz.pinned (OpenSpec.upto batchProvedSpec)

/-- 'culletlaw05.StrengthKnown', WHERE WHAT IT READS IS OF BULK AT MOST 1048576: true; the input reads as it did. -/
def strengthKnownUptoRow : OpenClaim := { program := "ytljfljekcpdpiaagreat", sum := "4d5b7b626a284bb5cef36d97ad1ae411827a9c3ca890def1a3bf87aeadd71297", func := "cullet/culletlaw05.StrengthKnown", spec := "strengthKnown", unfollowed := true, recurses := true, plainKeys := false, apart := false, narrowed := true }
def StrengthKnownUptoSaid : Prop := strengthKnownUptoRow.holds Tryz.pinned (OpenSpec.upto strengthKnownSpec)

end Rows
end Go.Proofs.YtljfljekcpdpiaaGreat
