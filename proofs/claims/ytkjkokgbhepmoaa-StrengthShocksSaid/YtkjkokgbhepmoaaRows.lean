/-
  No cell of these rows narrows 'for every input' (looked for: loops, veiled, ifaces, maps, wideKeys, modest, calm, conditions, laid).
  DERIVED. THE GIVEN ROWS OF THIS SEAT. 9 by the template 'for every input the law returns true; each argument reads behind the call as it read before'; 0 by the template 'total and deterministic' (their statements: YtkjkokgbhepmoaaTotals.lean).
  GIVEN WITH THE SEED: the statements are not yours to turn. If you find one false, say at which input.
  Laid BY PROGRAM, IN A SANDBOX (cutbox-rows.mjs): the forced cells as the released guide's own fill.sh prints them over the translation b89301b879c4ef39… (all of the seat's roots in one cut). By AI agents, Wed Nov 11 2026. No macro, syntax, notation, axiom, sorry.
-/
import Derived.Test.YtkjkokgbhepmoaaChecked
import GoSem.Claim
import GoSem.ClaimJoined
import GoSem.ClaimMapViews
import Derived.JoinedTies
import Derived.KernelRfl
namespace Go.Proofs.Ytkjkokgbhepmoaa
/- THE CELL 'sum', in the pinned program and in every row, IS THE sha256 OF THE DUMP (.gsa) THAT YtkjkokgbhepmoaaProg.lean LOADS. Nothing in Lean hashes anything: it is a label: what it is worth is what the hold of that sum in a sandbox is worth. -/
noncomputable def Try.pinned : Pinned := { name := "ytkjkokgbhepmoaa", sum := "b89301b879c4ef396e15ebf4b19899549f48488b87009b0fb1440b0540b015c3", checked := Try.checked }
namespace Rows
def none {H : Type} : Left H := { results := [], args := [] }

/-- 'culletlaw01.BatchGlasses': WHATEVER THE INPUT: true; the input reads as it did. -/
def batchGlassesSpec : ChangeSpec := { name := "batchGlasses", fn := fun _ => fun
  | [d1, d2] => { results := [.lit (.bool true)], args := [d1, d2] }
  | _ => none }
def batchGlassesRow : OpenClaim := { program := "ytkjkokgbhepmoaa", sum := "b89301b879c4ef396e15ebf4b19899549f48488b87009b0fb1440b0540b015c3", func := "cullet/culletlaw01.BatchGlasses", spec := "batchGlasses", unfollowed := true, recurses := true, apart := false }
def BatchGlassesSaid : Prop := batchGlassesRow.holds Try.pinned (OpenSpec.ofChange batchGlassesSpec)

/-- ITS FALSE NEIGHBOUR: 'it returns false'. Refute it at one input. -/
def batchGlassesWrong : ChangeSpec := { name := "batchGlasses", fn := fun _ => fun
  | [d1, d2] => { results := [.lit (.bool false)], args := [d1, d2] }
  | _ => none }
def BatchGlassesWrongFalsely : Prop := batchGlassesRow.holds Try.pinned (OpenSpec.ofChange batchGlassesWrong)

/-- 'culletlaw01.BatchChecks': WHATEVER THE INPUT: true; the input reads as it did. -/
def batchChecksSpec : ChangeSpec := { name := "batchChecks", fn := fun _ => fun
  | [d] => { results := [.lit (.bool true)], args := [d] }
  | _ => none }
def batchChecksRow : OpenClaim := { program := "ytkjkokgbhepmoaa", sum := "b89301b879c4ef396e15ebf4b19899549f48488b87009b0fb1440b0540b015c3", func := "cullet/culletlaw01.BatchChecks", spec := "batchChecks", unfollowed := true, recurses := true, apart := false }
def BatchChecksSaid : Prop := batchChecksRow.holds Try.pinned (OpenSpec.ofChange batchChecksSpec)

/-- ITS FALSE NEIGHBOUR: 'it returns false'. Refute it at one input. -/
def batchChecksWrong : ChangeSpec := { name := "batchChecks", fn := fun _ => fun
  | [d] => { results := [.lit (.bool false)], args := [d] }
  | _ => none }
def BatchChecksWrongFalsely : Prop := batchChecksRow.holds Try.pinned (OpenSpec.ofChange batchChecksWrong)

/-- 'culletlaw01.BatchSums': WHATEVER THE INPUT: true; the input reads as it did. -/
def batchSumsSpec : ChangeSpec := { name := "batchSums", fn := fun _ => fun
  | [d1, d2] => { results := [.lit (.bool true)], args := [d1, d2] }
  | _ => none }
def batchSumsRow : OpenClaim := { program := "ytkjkokgbhepmoaa", sum := "b89301b879c4ef396e15ebf4b19899549f48488b87009b0fb1440b0540b015c3", func := "cullet/culletlaw01.BatchSums", spec := "batchSums", unfollowed := true, recurses := true, apart := false }
def BatchSumsSaid : Prop := batchSumsRow.holds Try.pinned (OpenSpec.ofChange batchSumsSpec)

/-- ITS FALSE NEIGHBOUR: 'it returns false'. Refute it at one input. -/
def batchSumsWrong : ChangeSpec := { name := "batchSums", fn := fun _ => fun
  | [d1, d2] => { results := [.lit (.bool false)], args := [d1, d2] }
  | _ => none }
def BatchSumsWrongFalsely : Prop := batchSumsRow.holds Try.pinned (OpenSpec.ofChange batchSumsWrong)

/-- 'culletlaw01.BatchBounds': WHATEVER THE INPUT: true; the input reads as it did. -/
def batchBoundsSpec : ChangeSpec := { name := "batchBounds", fn := fun _ => fun
  | [d1, d2] => { results := [.lit (.bool true)], args := [d1, d2] }
  | _ => none }
def batchBoundsRow : OpenClaim := { program := "ytkjkokgbhepmoaa", sum := "b89301b879c4ef396e15ebf4b19899549f48488b87009b0fb1440b0540b015c3", func := "cullet/culletlaw01.BatchBounds", spec := "batchBounds", unfollowed := true, recurses := true, apart := false }
def BatchBoundsSaid : Prop := batchBoundsRow.holds Try.pinned (OpenSpec.ofChange batchBoundsSpec)

/-- ITS FALSE NEIGHBOUR: 'it returns false'. Refute it at one input. -/
def batchBoundsWrong : ChangeSpec := { name := "batchBounds", fn := fun _ => fun
  | [d1, d2] => { results := [.lit (.bool false)], args := [d1, d2] }
  | _ => none }
def BatchBoundsWrongFalsely : Prop := batchBoundsRow.holds Try.pinned (OpenSpec.ofChange batchBoundsWrong)

/-- 'culletlaw01.BatchInside': WHATEVER THE INPUT: true; the input reads as it did. -/
def batchInsideSpec : ChangeSpec := { name := "batchInside", fn := fun _ => fun
  | [d1, d2, d3] => { results := [.lit (.bool true)], args := [d1, d2, d3] }
  | _ => none }
def batchInsideRow : OpenClaim := { program := "ytkjkokgbhepmoaa", sum := "b89301b879c4ef396e15ebf4b19899549f48488b87009b0fb1440b0540b015c3", func := "cullet/culletlaw01.BatchInside", spec := "batchInside", unfollowed := true, recurses := true, apart := false }
def BatchInsideSaid : Prop := batchInsideRow.holds Try.pinned (OpenSpec.ofChange batchInsideSpec)

/-- ITS FALSE NEIGHBOUR: 'it returns false'. Refute it at one input. -/
def batchInsideWrong : ChangeSpec := { name := "batchInside", fn := fun _ => fun
  | [d1, d2, d3] => { results := [.lit (.bool false)], args := [d1, d2, d3] }
  | _ => none }
def BatchInsideWrongFalsely : Prop := batchInsideRow.holds Try.pinned (OpenSpec.ofChange batchInsideWrong)

/-- 'culletlaw01.BatchLines': WHATEVER THE INPUT: true; the input reads as it did. -/
def batchLinesSpec : ChangeSpec := { name := "batchLines", fn := fun _ => fun
  | [d1, d2] => { results := [.lit (.bool true)], args := [d1, d2] }
  | _ => none }
def batchLinesRow : OpenClaim := { program := "ytkjkokgbhepmoaa", sum := "b89301b879c4ef396e15ebf4b19899549f48488b87009b0fb1440b0540b015c3", func := "cullet/culletlaw01.BatchLines", spec := "batchLines", unfollowed := true, recurses := true, apart := false }
def BatchLinesSaid : Prop := batchLinesRow.holds Try.pinned (OpenSpec.ofChange batchLinesSpec)

/-- ITS FALSE NEIGHBOUR: 'it returns false'. Refute it at one input. -/
def batchLinesWrong : ChangeSpec := { name := "batchLines", fn := fun _ => fun
  | [d1, d2] => { results := [.lit (.bool false)], args := [d1, d2] }
  | _ => none }
def BatchLinesWrongFalsely : Prop := batchLinesRow.holds Try.pinned (OpenSpec.ofChange batchLinesWrong)

/-- 'culletlaw05.StrengthRecipes': WHATEVER THE INPUT: true; the input reads as it did. -/
def strengthRecipesSpec : ChangeSpec := { name := "strengthRecipes", fn := fun _ => fun
  | [d1, d2, d3] => { results := [.lit (.bool true)], args := [d1, d2, d3] }
  | _ => none }
def strengthRecipesRow : OpenClaim := { program := "ytkjkokgbhepmoaa", sum := "b89301b879c4ef396e15ebf4b19899549f48488b87009b0fb1440b0540b015c3", func := "cullet/culletlaw05.StrengthRecipes", spec := "strengthRecipes", unfollowed := true, recurses := true, apart := false }
def StrengthRecipesSaid : Prop := strengthRecipesRow.holds Try.pinned (OpenSpec.ofChange strengthRecipesSpec)

/-- ITS FALSE NEIGHBOUR: 'it returns false'. Refute it at one input. -/
def strengthRecipesWrong : ChangeSpec := { name := "strengthRecipes", fn := fun _ => fun
  | [d1, d2, d3] => { results := [.lit (.bool false)], args := [d1, d2, d3] }
  | _ => none }
def StrengthRecipesWrongFalsely : Prop := strengthRecipesRow.holds Try.pinned (OpenSpec.ofChange strengthRecipesWrong)

/-- 'culletlaw05.StrengthSlower': WHATEVER THE INPUT: true; the input reads as it did. -/
def strengthSlowerSpec : ChangeSpec := { name := "strengthSlower", fn := fun _ => fun
  | [d1, d2, d3] => { results := [.lit (.bool true)], args := [d1, d2, d3] }
  | _ => none }
def strengthSlowerRow : OpenClaim := { program := "ytkjkokgbhepmoaa", sum := "b89301b879c4ef396e15ebf4b19899549f48488b87009b0fb1440b0540b015c3", func := "cullet/culletlaw05.StrengthSlower", spec := "strengthSlower", unfollowed := true, recurses := true, apart := false }
def StrengthSlowerSaid : Prop := strengthSlowerRow.holds Try.pinned (OpenSpec.ofChange strengthSlowerSpec)

/-- ITS FALSE NEIGHBOUR: 'it returns false'. Refute it at one input. -/
def strengthSlowerWrong : ChangeSpec := { name := "strengthSlower", fn := fun _ => fun
  | [d1, d2, d3] => { results := [.lit (.bool false)], args := [d1, d2, d3] }
  | _ => none }
def StrengthSlowerWrongFalsely : Prop := strengthSlowerRow.holds Try.pinned (OpenSpec.ofChange strengthSlowerWrong)

/-- 'culletlaw05.StrengthShocks': WHATEVER THE INPUT: true; the input reads as it did. -/
def strengthShocksSpec : ChangeSpec := { name := "strengthShocks", fn := fun _ => fun
  | [d1, d2, d3] => { results := [.lit (.bool true)], args := [d1, d2, d3] }
  | _ => none }
def strengthShocksRow : OpenClaim := { program := "ytkjkokgbhepmoaa", sum := "b89301b879c4ef396e15ebf4b19899549f48488b87009b0fb1440b0540b015c3", func := "cullet/culletlaw05.StrengthShocks", spec := "strengthShocks", unfollowed := true, recurses := true, apart := false }
def StrengthShocksSaid : Prop := strengthShocksRow.holds Try.pinned (OpenSpec.ofChange strengthShocksSpec)

/-- ITS FALSE NEIGHBOUR: 'it returns false'. Refute it at one input. -/
def strengthShocksWrong : ChangeSpec := { name := "strengthShocks", fn := fun _ => fun
  | [d1, d2, d3] => { results := [.lit (.bool false)], args := [d1, d2, d3] }
  | _ => none }
def StrengthShocksWrongFalsely : Prop := strengthShocksRow.holds Try.pinned (OpenSpec.ofChange strengthShocksWrong)

/- THE SECOND FORM. 'bulk': how many values and letters a reading holds, each counted each time it is reached (what is shared counts as often as it is met; a slice's spare places count too). A statement '..UptoSaid' is the law's where the arguments, and the package variables that the reading takes, are together of bulk at most 1048576: NARROWER than '..Said'. Prove '..Said' where nothing that the law and all that it calls make is longer than what came in: it says more and counts as full. Else prove '..UptoSaid'. A law counts once. -/
mutual
def uptoBulk {H : Type} : DataW H → Nat
  | .lit (.string bytes) => bytes.length + 1
  | .lit _ => 1
  | .nil => 1
  | .ptr d => uptoBulk d + 1
  | .slice elems spare => uptoBulkAll elems + uptoBulkAll spare + 1
  | .agg parts => uptoBulkAll parts + 1
  | .iface _ d => uptoBulk d + 1
  | .map entries => uptoBulkEntries entries + 1
  | .held _ => 1
def uptoBulkAll {H : Type} : List (DataW H) → Nat
  | [] => 0
  | d :: r => uptoBulk d + uptoBulkAll r
def uptoBulkEntries {H : Type} : List (Lit × DataW H) → Nat
  | [] => 0
  | x :: r => uptoBulkEntry x + uptoBulkEntries r
def uptoBulkEntry {H : Type} : Lit × DataW H → Nat
  | (.string bytes, d) => bytes.length + uptoBulk d + 1
  | (_, d) => uptoBulk d + 1
 end
def uptoSmall : (H : Type) → List (DataW H) → Bool := fun _ ds => decide (uptoBulkAll ds ≤ 1048576)
def OpenSpec.upto (s : _root_.Go.ChangeSpec) : _root_.Go.OpenSpec := { _root_.Go.OpenSpec.ofChange s with cond := some uptoSmall }

/-- 'culletlaw01.BatchGlasses', WHERE WHAT IT READS IS OF BULK AT MOST 1048576: true; the input reads as it did. -/
def batchGlassesUptoRow : OpenClaim := { program := "ytkjkokgbhepmoaa", sum := "b89301b879c4ef396e15ebf4b19899549f48488b87009b0fb1440b0540b015c3", func := "cullet/culletlaw01.BatchGlasses", spec := "batchGlasses", unfollowed := true, recurses := true, apart := false, narrowed := true }
def BatchGlassesUptoSaid : Prop := batchGlassesUptoRow.holds Try.pinned (OpenSpec.upto batchGlassesSpec)

/-- 'culletlaw01.BatchChecks', WHERE WHAT IT READS IS OF BULK AT MOST 1048576: true; the input reads as it did. -/
def batchChecksUptoRow : OpenClaim := { program := "ytkjkokgbhepmoaa", sum := "b89301b879c4ef396e15ebf4b19899549f48488b87009b0fb1440b0540b015c3", func := "cullet/culletlaw01.BatchChecks", spec := "batchChecks", unfollowed := true, recurses := true, apart := false, narrowed := true }
def BatchChecksUptoSaid : Prop := batchChecksUptoRow.holds Try.pinned (OpenSpec.upto batchChecksSpec)

/-- 'culletlaw01.BatchSums', WHERE WHAT IT READS IS OF BULK AT MOST 1048576: true; the input reads as it did. -/
def batchSumsUptoRow : OpenClaim := { program := "ytkjkokgbhepmoaa", sum := "b89301b879c4ef396e15ebf4b19899549f48488b87009b0fb1440b0540b015c3", func := "cullet/culletlaw01.BatchSums", spec := "batchSums", unfollowed := true, recurses := true, apart := false, narrowed := true }
def BatchSumsUptoSaid : Prop := batchSumsUptoRow.holds Try.pinned (OpenSpec.upto batchSumsSpec)

/-- 'culletlaw01.BatchBounds', WHERE WHAT IT READS IS OF BULK AT MOST 1048576: true; the input reads as it did. -/
def batchBoundsUptoRow : OpenClaim := { program := "ytkjkokgbhepmoaa", sum := "b89301b879c4ef396e15ebf4b19899549f48488b87009b0fb1440b0540b015c3", func := "cullet/culletlaw01.BatchBounds", spec := "batchBounds", unfollowed := true, recurses := true, apart := false, narrowed := true }
def BatchBoundsUptoSaid : Prop := batchBoundsUptoRow.holds Try.pinned (OpenSpec.upto batchBoundsSpec)

/-- 'culletlaw01.BatchInside', WHERE WHAT IT READS IS OF BULK AT MOST 1048576: true; the input reads as it did. -/
def batchInsideUptoRow : OpenClaim := { program := "ytkjkokgbhepmoaa", sum := "b89301b879c4ef396e15ebf4b19899549f48488b87009b0fb1440b0540b015c3", func := "cullet/culletlaw01.BatchInside", spec := "batchInside", unfollowed := true, recurses := true, apart := false, narrowed := true }
def BatchInsideUptoSaid : Prop := batchInsideUptoRow.holds Try.pinned (OpenSpec.upto batchInsideSpec)

/-- 'culletlaw01.BatchLines', WHERE WHAT IT READS IS OF BULK AT MOST 1048576: true; the input reads as it did. -/
def batchLinesUptoRow : OpenClaim := { program := "ytkjkokgbhepmoaa", sum := "b89301b879c4ef396e15ebf4b19899549f48488b87009b0fb1440b0540b015c3", func := "cullet/culletlaw01.BatchLines", spec := "batchLines", unfollowed := true, recurses := true, apart := false, narrowed := true }
def BatchLinesUptoSaid : Prop := batchLinesUptoRow.holds Try.pinned (OpenSpec.upto batchLinesSpec)

/-- 'culletlaw05.StrengthRecipes', WHERE WHAT IT READS IS OF BULK AT MOST 1048576: true; the input reads as it did. -/
def strengthRecipesUptoRow : OpenClaim := { program := "ytkjkokgbhepmoaa", sum := "b89301b879c4ef396e15ebf4b19899549f48488b87009b0fb1440b0540b015c3", func := "cullet/culletlaw05.StrengthRecipes", spec := "strengthRecipes", unfollowed := true, recurses := true, apart := false, narrowed := true }
def StrengthRecipesUptoSaid : Prop := strengthRecipesUptoRow.holds Try.pinned (OpenSpec.upto strengthRecipesSpec)

/-- 'culletlaw05.StrengthSlower', WHERE WHAT IT READS IS OF BULK AT MOST 1048576: true; the input reads as it did. -/
def strengthSlowerUptoRow : OpenClaim := { program := "ytkjkokgbhepmoaa", sum := "b89301b879c4ef396e15ebf4b19899549f48488b87009b0fb1440b0540b015c3", func := "cullet/culletlaw05.StrengthSlower", spec := "strengthSlower", unfollowed := true, recurses := true, apart := false, narrowed := true }
def StrengthSlowerUptoSaid : Prop := strengthSlowerUptoRow.holds Try.pinned (OpenSpec.upto strengthSlowerSpec)

/-- 'culletlaw05.StrengthShocks', WHERE WHAT IT READS IS OF BULK AT MOST 1048576: true; the input reads as it did. -/
def strengthShocksUptoRow : OpenClaim := { program := "ytkjkokgbhepmoaa", sum := "b89301b879c4ef396e15ebf4b19899549f48488b87009b0fb1440b0540b015c3", func := "cullet/culletlaw05.StrengthShocks", spec := "strengthShocks", unfollowed := true, recurses := true, apart := false, narrowed := true }
def StrengthShocksUptoSaid : Prop := strengthShocksUptoRow.holds Try.pinned (OpenSpec.upto strengthShocksSpec)

end Rows
end Go.Proofs.Ytkjkokgbhepmoaa
