/-
  NARROWER THAN 'FOR EVERY INPUT', by the rows' own cells (each row's printed sentence says how): FnExactHolds: loops · FnExactTrue: loops.
  DERIVED. THE GIVEN ROWS OF THIS SEAT. 12 by the template 'for every input the law returns true; each argument reads behind the call as it read before'; 0 by the template 'total and deterministic' (their statements: YtggmgmkhohmfiaaGreatTotals.lean).
  GIVEN WITH THE SEED: the statements are not yours to turn. If you find one false, say at which input.
  Laid BY PROGRAM, IN A SANDBOX (cutbox-rows.mjs): the forced cells as the released guide's own fill.sh prints them over the translation 5b06a26f4471f514… (all of the seat's roots in one cut). By AI agents, Wed Nov 11 2026. No macro, syntax, notation, axiom, sorry.
-/
import Derived.Test.YtggmgmkhohmfiaaGreatChecked
import GoSem.Claim
import GoSem.ClaimJoined
import GoSem.ClaimMapViews
import Derived.JoinedTies
import Derived.KernelRfl
namespace Go.Proofs.YtggmgmkhohmfiaaGreat
/- THE CELL 'sum', in the pinned program and in every row, IS THE sha256 OF THE DUMP (.gsa) THAT YtggmgmkhohmfiaaGreatProg.lean LOADS. Nothing in Lean hashes anything: it is a label: what it is worth is what the hold of that sum in a sandbox is worth. -/
noncomputable def Tryz.pinned : Pinned := { name := "ytggmgmkhohmfiaagreat", sum := "5b06a26f4471f514e192132ea6708cbc8503ab7226459ba2290d20d7adac23fe", checked := Tryz.checked }
namespace Rows
def none {H : Type} : Left H := { results := [], args := [] }

/-- 'laws.FnExactHolds': WHATEVER THE INPUT: true; the input reads as it did. -/
def fnExactHoldsSpec : ChangeSpec := { name := "fnExactHolds", fn := fun _ => fun
  | [d1, d2, d3] => { results := [.lit (.bool true)], args := [d1, d2, d3] }
  | _ => none }
def fnExactHoldsRow : OpenClaim := { program := "ytggmgmkhohmfiaagreat", sum := "5b06a26f4471f514e192132ea6708cbc8503ab7226459ba2290d20d7adac23fe", func := "loop.example/g00461/laws.FnExactHolds", spec := "fnExactHolds", inPlace := ["slices.overlaps[int]"], unfollowed := true, recurses := true, loops := true, apart := false }
def FnExactHoldsSaid : Prop := fnExactHoldsRow.holds Tryz.pinned (OpenSpec.ofChange fnExactHoldsSpec)

/-- ITS FALSE NEIGHBOUR: 'it returns false'. Refute it at one input. -/
def fnExactHoldsWrong : ChangeSpec := { name := "fnExactHolds", fn := fun _ => fun
  | [d1, d2, d3] => { results := [.lit (.bool false)], args := [d1, d2, d3] }
  | _ => none }
def FnExactHoldsWrongFalsely : Prop := fnExactHoldsRow.holds Tryz.pinned (OpenSpec.ofChange fnExactHoldsWrong)

/-- 'laws.FnExactTrue': WHATEVER THE INPUT: true; the input reads as it did. -/
def fnExactTrueSpec : ChangeSpec := { name := "fnExactTrue", fn := fun _ => fun
  | [d1, d2, d3] => { results := [.lit (.bool true)], args := [d1, d2, d3] }
  | _ => none }
def fnExactTrueRow : OpenClaim := { program := "ytggmgmkhohmfiaagreat", sum := "5b06a26f4471f514e192132ea6708cbc8503ab7226459ba2290d20d7adac23fe", func := "loop.example/g00461/laws.FnExactTrue", spec := "fnExactTrue", inPlace := ["slices.overlaps[int]"], unfollowed := true, recurses := true, loops := true, apart := false }
def FnExactTrueSaid : Prop := fnExactTrueRow.holds Tryz.pinned (OpenSpec.ofChange fnExactTrueSpec)

/-- ITS FALSE NEIGHBOUR: 'it returns false'. Refute it at one input. -/
def fnExactTrueWrong : ChangeSpec := { name := "fnExactTrue", fn := fun _ => fun
  | [d1, d2, d3] => { results := [.lit (.bool false)], args := [d1, d2, d3] }
  | _ => none }
def FnExactTrueWrongFalsely : Prop := fnExactTrueRow.holds Tryz.pinned (OpenSpec.ofChange fnExactTrueWrong)

/-- 'laws.FnHolds': WHATEVER THE INPUT: true; the input reads as it did. -/
def fnHoldsSpec : ChangeSpec := { name := "fnHolds", fn := fun _ => fun
  | [d] => { results := [.lit (.bool true)], args := [d] }
  | _ => none }
def fnHoldsRow : OpenClaim := { program := "ytggmgmkhohmfiaagreat", sum := "5b06a26f4471f514e192132ea6708cbc8503ab7226459ba2290d20d7adac23fe", func := "loop.example/g00461/laws.FnHolds", spec := "fnHolds", inPlace := ["slices.overlaps[int]"], unfollowed := true, recurses := true, apart := false }
def FnHoldsSaid : Prop := fnHoldsRow.holds Tryz.pinned (OpenSpec.ofChange fnHoldsSpec)

/-- ITS FALSE NEIGHBOUR: 'it returns false'. Refute it at one input. -/
def fnHoldsWrong : ChangeSpec := { name := "fnHolds", fn := fun _ => fun
  | [d] => { results := [.lit (.bool false)], args := [d] }
  | _ => none }
def FnHoldsWrongFalsely : Prop := fnHoldsRow.holds Tryz.pinned (OpenSpec.ofChange fnHoldsWrong)

/-- 'laws.FnModels': WHATEVER THE INPUT: true; the input reads as it did. -/
def fnModelsSpec : ChangeSpec := { name := "fnModels", fn := fun _ => fun
  | [d] => { results := [.lit (.bool true)], args := [d] }
  | _ => none }
def fnModelsRow : OpenClaim := { program := "ytggmgmkhohmfiaagreat", sum := "5b06a26f4471f514e192132ea6708cbc8503ab7226459ba2290d20d7adac23fe", func := "loop.example/g00461/laws.FnModels", spec := "fnModels", inPlace := ["slices.overlaps[int]"], unfollowed := true, recurses := true, apart := false }
def FnModelsSaid : Prop := fnModelsRow.holds Tryz.pinned (OpenSpec.ofChange fnModelsSpec)

/-- ITS FALSE NEIGHBOUR: 'it returns false'. Refute it at one input. -/
def fnModelsWrong : ChangeSpec := { name := "fnModels", fn := fun _ => fun
  | [d] => { results := [.lit (.bool false)], args := [d] }
  | _ => none }
def FnModelsWrongFalsely : Prop := fnModelsRow.holds Tryz.pinned (OpenSpec.ofChange fnModelsWrong)

/-- 'laws.FnWorldsMean': WHATEVER THE INPUT: true; the input reads as it did. -/
def fnWorldsMeanSpec : ChangeSpec := { name := "fnWorldsMean", fn := fun _ => fun
  | [d] => { results := [.lit (.bool true)], args := [d] }
  | _ => none }
def fnWorldsMeanRow : OpenClaim := { program := "ytggmgmkhohmfiaagreat", sum := "5b06a26f4471f514e192132ea6708cbc8503ab7226459ba2290d20d7adac23fe", func := "loop.example/g00461/laws.FnWorldsMean", spec := "fnWorldsMean", inPlace := ["slices.overlaps[int]"], unfollowed := true, recurses := true, apart := false }
def FnWorldsMeanSaid : Prop := fnWorldsMeanRow.holds Tryz.pinned (OpenSpec.ofChange fnWorldsMeanSpec)

/-- ITS FALSE NEIGHBOUR: 'it returns false'. Refute it at one input. -/
def fnWorldsMeanWrong : ChangeSpec := { name := "fnWorldsMean", fn := fun _ => fun
  | [d] => { results := [.lit (.bool false)], args := [d] }
  | _ => none }
def FnWorldsMeanWrongFalsely : Prop := fnWorldsMeanRow.holds Tryz.pinned (OpenSpec.ofChange fnWorldsMeanWrong)

/-- 'laws.FnBothAtOnce': WHATEVER THE INPUT: true; the input reads as it did. -/
def fnBothAtOnceSpec : ChangeSpec := { name := "fnBothAtOnce", fn := fun _ => fun
  | [d] => { results := [.lit (.bool true)], args := [d] }
  | _ => none }
def fnBothAtOnceRow : OpenClaim := { program := "ytggmgmkhohmfiaagreat", sum := "5b06a26f4471f514e192132ea6708cbc8503ab7226459ba2290d20d7adac23fe", func := "loop.example/g00461/laws.FnBothAtOnce", spec := "fnBothAtOnce", inPlace := ["slices.overlaps[int]"], unfollowed := true, recurses := true, apart := false }
def FnBothAtOnceSaid : Prop := fnBothAtOnceRow.holds Tryz.pinned (OpenSpec.ofChange fnBothAtOnceSpec)

/-- ITS FALSE NEIGHBOUR: 'it returns false'. Refute it at one input. -/
def fnBothAtOnceWrong : ChangeSpec := { name := "fnBothAtOnce", fn := fun _ => fun
  | [d] => { results := [.lit (.bool false)], args := [d] }
  | _ => none }
def FnBothAtOnceWrongFalsely : Prop := fnBothAtOnceRow.holds Tryz.pinned (OpenSpec.ofChange fnBothAtOnceWrong)

/-- 'laws.FnRenamedSame': WHATEVER THE INPUT: true; the input reads as it did. -/
def fnRenamedSameSpec : ChangeSpec := { name := "fnRenamedSame", fn := fun _ => fun
  | [d] => { results := [.lit (.bool true)], args := [d] }
  | _ => none }
def fnRenamedSameRow : OpenClaim := { program := "ytggmgmkhohmfiaagreat", sum := "5b06a26f4471f514e192132ea6708cbc8503ab7226459ba2290d20d7adac23fe", func := "loop.example/g00461/laws.FnRenamedSame", spec := "fnRenamedSame", inPlace := ["slices.overlaps[int]"], unfollowed := true, recurses := true, apart := false }
def FnRenamedSameSaid : Prop := fnRenamedSameRow.holds Tryz.pinned (OpenSpec.ofChange fnRenamedSameSpec)

/-- ITS FALSE NEIGHBOUR: 'it returns false'. Refute it at one input. -/
def fnRenamedSameWrong : ChangeSpec := { name := "fnRenamedSame", fn := fun _ => fun
  | [d] => { results := [.lit (.bool false)], args := [d] }
  | _ => none }
def FnRenamedSameWrongFalsely : Prop := fnRenamedSameRow.holds Tryz.pinned (OpenSpec.ofChange fnRenamedSameWrong)

/-- 'laws.FnTrivialMeans': WHATEVER THE INPUT: true; the input reads as it did. -/
def fnTrivialMeansSpec : ChangeSpec := { name := "fnTrivialMeans", fn := fun _ => fun
  | [d] => { results := [.lit (.bool true)], args := [d] }
  | _ => none }
def fnTrivialMeansRow : OpenClaim := { program := "ytggmgmkhohmfiaagreat", sum := "5b06a26f4471f514e192132ea6708cbc8503ab7226459ba2290d20d7adac23fe", func := "loop.example/g00461/laws.FnTrivialMeans", spec := "fnTrivialMeans", inPlace := ["slices.overlaps[int]"], unfollowed := true, recurses := true, apart := false }
def FnTrivialMeansSaid : Prop := fnTrivialMeansRow.holds Tryz.pinned (OpenSpec.ofChange fnTrivialMeansSpec)

/-- ITS FALSE NEIGHBOUR: 'it returns false'. Refute it at one input. -/
def fnTrivialMeansWrong : ChangeSpec := { name := "fnTrivialMeans", fn := fun _ => fun
  | [d] => { results := [.lit (.bool false)], args := [d] }
  | _ => none }
def FnTrivialMeansWrongFalsely : Prop := fnTrivialMeansRow.holds Tryz.pinned (OpenSpec.ofChange fnTrivialMeansWrong)

/-- 'laws.FnTidyMeans': WHATEVER THE INPUT: true; the input reads as it did. -/
def fnTidyMeansSpec : ChangeSpec := { name := "fnTidyMeans", fn := fun _ => fun
  | [d] => { results := [.lit (.bool true)], args := [d] }
  | _ => none }
def fnTidyMeansRow : OpenClaim := { program := "ytggmgmkhohmfiaagreat", sum := "5b06a26f4471f514e192132ea6708cbc8503ab7226459ba2290d20d7adac23fe", func := "loop.example/g00461/laws.FnTidyMeans", spec := "fnTidyMeans", inPlace := ["slices.overlaps[int]"], unfollowed := true, recurses := true, apart := false }
def FnTidyMeansSaid : Prop := fnTidyMeansRow.holds Tryz.pinned (OpenSpec.ofChange fnTidyMeansSpec)

/-- ITS FALSE NEIGHBOUR: 'it returns false'. Refute it at one input. -/
def fnTidyMeansWrong : ChangeSpec := { name := "fnTidyMeans", fn := fun _ => fun
  | [d] => { results := [.lit (.bool false)], args := [d] }
  | _ => none }
def FnTidyMeansWrongFalsely : Prop := fnTidyMeansRow.holds Tryz.pinned (OpenSpec.ofChange fnTidyMeansWrong)

/-- 'laws.FnFactoredMeans': WHATEVER THE INPUT: true; the input reads as it did. -/
def fnFactoredMeansSpec : ChangeSpec := { name := "fnFactoredMeans", fn := fun _ => fun
  | [d] => { results := [.lit (.bool true)], args := [d] }
  | _ => none }
def fnFactoredMeansRow : OpenClaim := { program := "ytggmgmkhohmfiaagreat", sum := "5b06a26f4471f514e192132ea6708cbc8503ab7226459ba2290d20d7adac23fe", func := "loop.example/g00461/laws.FnFactoredMeans", spec := "fnFactoredMeans", inPlace := ["slices.overlaps[int]"], unfollowed := true, recurses := true, apart := false }
def FnFactoredMeansSaid : Prop := fnFactoredMeansRow.holds Tryz.pinned (OpenSpec.ofChange fnFactoredMeansSpec)

/-- ITS FALSE NEIGHBOUR: 'it returns false'. Refute it at one input. -/
def fnFactoredMeansWrong : ChangeSpec := { name := "fnFactoredMeans", fn := fun _ => fun
  | [d] => { results := [.lit (.bool false)], args := [d] }
  | _ => none }
def FnFactoredMeansWrongFalsely : Prop := fnFactoredMeansRow.holds Tryz.pinned (OpenSpec.ofChange fnFactoredMeansWrong)

/-- 'laws.FnResolvedMeans': WHATEVER THE INPUT: true; the input reads as it did. -/
def fnResolvedMeansSpec : ChangeSpec := { name := "fnResolvedMeans", fn := fun _ => fun
  | [d] => { results := [.lit (.bool true)], args := [d] }
  | _ => none }
def fnResolvedMeansRow : OpenClaim := { program := "ytggmgmkhohmfiaagreat", sum := "5b06a26f4471f514e192132ea6708cbc8503ab7226459ba2290d20d7adac23fe", func := "loop.example/g00461/laws.FnResolvedMeans", spec := "fnResolvedMeans", inPlace := ["slices.overlaps[int]"], unfollowed := true, recurses := true, apart := false }
def FnResolvedMeansSaid : Prop := fnResolvedMeansRow.holds Tryz.pinned (OpenSpec.ofChange fnResolvedMeansSpec)

/-- ITS FALSE NEIGHBOUR: 'it returns false'. Refute it at one input. -/
def fnResolvedMeansWrong : ChangeSpec := { name := "fnResolvedMeans", fn := fun _ => fun
  | [d] => { results := [.lit (.bool false)], args := [d] }
  | _ => none }
def FnResolvedMeansWrongFalsely : Prop := fnResolvedMeansRow.holds Tryz.pinned (OpenSpec.ofChange fnResolvedMeansWrong)

/-- 'laws.FnRules': WHATEVER THE INPUT: true; the input reads as it did. -/
def fnRulesSpec : ChangeSpec := { name := "fnRules", fn := fun _ => fun
  | [d] => { results := [.lit (.bool true)], args := [d] }
  | _ => none }
def fnRulesRow : OpenClaim := { program := "ytggmgmkhohmfiaagreat", sum := "5b06a26f4471f514e192132ea6708cbc8503ab7226459ba2290d20d7adac23fe", func := "loop.example/g00461/laws.FnRules", spec := "fnRules", inPlace := ["slices.overlaps[int]"], unfollowed := true, recurses := true, apart := false }
def FnRulesSaid : Prop := fnRulesRow.holds Tryz.pinned (OpenSpec.ofChange fnRulesSpec)

/-- ITS FALSE NEIGHBOUR: 'it returns false'. Refute it at one input. -/
def fnRulesWrong : ChangeSpec := { name := "fnRules", fn := fun _ => fun
  | [d] => { results := [.lit (.bool false)], args := [d] }
  | _ => none }
def FnRulesWrongFalsely : Prop := fnRulesRow.holds Tryz.pinned (OpenSpec.ofChange fnRulesWrong)

/- THE SECOND FORM. 'bulk': how many values and letters a reading holds, each counted each time it is reached (what is shared counts as often as it is met; a slice's spare places count too). A statement '..UptoSaid' is the law's where the arguments, and the package variables that the reading takes, are together of bulk at most 1048576: NARROWER than '..Said'. Prove '..Said' where nothing that the law and all that it calls make is longer than what came in: it says more and counts as full. Else prove '..UptoSaid'. A law counts once. -/
mutual
def uptoBulk {H : Type} : DataW H → Nat
  | .lit (.string bytes) => bytes.length + 1
  | .lit _ => 1
  | .nil => 1
  | .ptr d => uptoBulk d + 1
  | .slice elems spare => uptoBulkAll elems + uptoBulkAll spare + 1
  | .agg parts => uptoBulkAll parts + 1
  | .iface _ d => uptoBulk d + 1
  | .map entries => uptoBulkEntries entries + 1
  | .held _ => 1
def uptoBulkAll {H : Type} : List (DataW H) → Nat
  | [] => 0
  | d :: r => uptoBulk d + uptoBulkAll r
def uptoBulkEntries {H : Type} : List (Lit × DataW H) → Nat
  | [] => 0
  | x :: r => uptoBulkEntry x + uptoBulkEntries r
def uptoBulkEntry {H : Type} : Lit × DataW H → Nat
  | (.string bytes, d) => bytes.length + uptoBulk d + 1
  | (_, d) => uptoBulk d + 1
 end
def uptoSmall : (H : Type) → List (DataW H) → Bool := fun _ ds => decide (uptoBulkAll ds ≤ 1048576)
def OpenSpec.upto (s : _root_.Go.ChangeSpec) : _root_.Go.OpenSpec := { _root_.Go.OpenSpec.ofChange s with cond := some uptoSmall }

/-- 'laws.FnExactHolds', WHERE WHAT IT READS IS OF BULK AT MOST 1048576: true; the input reads as it did. -/
def fnExactHoldsUptoRow : OpenClaim := { program := "ytggmgmkhohmfiaagreat", sum := "5b06a26f4471f514e192132ea6708cbc8503ab7226459ba2290d20d7adac23fe", func := "loop.example/g00461/laws.FnExactHolds", spec := "fnExactHolds", inPlace := ["slices.overlaps[int]"], unfollowed := true, recurses := true, loops := true, apart := false, narrowed := true }
def FnExactHoldsUptoSaid : Prop := fnExactHoldsUptoRow.holds Tryz.pinned (OpenSpec.upto fnExactHoldsSpec)

/-- 'laws.FnExactTrue', WHERE WHAT IT READS IS OF BULK AT MOST 1048576: true; the input reads as it did. -/
def fnExactTrueUptoRow : OpenClaim := { program := "ytggmgmkhohmfiaagreat", sum := "5b06a26f4471f514e192132ea6708cbc8503ab7226459ba2290d20d7adac23fe", func := "loop.example/g00461/laws.FnExactTrue", spec := "fnExactTrue", inPlace := ["slices.overlaps[int]"], unfollowed := true, recurses := true, loops := true, apart := false, narrowed := true }
def FnExactTrueUptoSaid : Prop := fnExactTrueUptoRow.holds Tryz.pinned (OpenSpec.upto fnExactTrueSpec)

/-- 'laws.FnHolds', WHERE WHAT IT READS IS OF BULK AT MOST 1048576: true; the input reads as it did. -/
def fnHoldsUptoRow : OpenClaim := { program := "ytggmgmkhohmfiaagreat", sum := "5b06a26f4471f514e192132ea6708cbc8503ab7226459ba2290d20d7adac23fe", func := "loop.example/g00461/laws.FnHolds", spec := "fnHolds", inPlace := ["slices.overlaps[int]"], unfollowed := true, recurses := true, apart := false, narrowed := true }
def FnHoldsUptoSaid : Prop := fnHoldsUptoRow.holds Tryz.pinned (OpenSpec.upto fnHoldsSpec)

/-- 'laws.FnModels', WHERE WHAT IT READS IS OF BULK AT MOST 1048576: true; the input reads as it did. -/
def fnModelsUptoRow : OpenClaim := { program := "ytggmgmkhohmfiaagreat", sum := "5b06a26f4471f514e192132ea6708cbc8503ab7226459ba2290d20d7adac23fe", func := "loop.example/g00461/laws.FnModels", spec := "fnModels", inPlace := ["slices.overlaps[int]"], unfollowed := true, recurses := true, apart := false, narrowed := true }
def FnModelsUptoSaid : Prop := fnModelsUptoRow.holds Tryz.pinned (OpenSpec.upto fnModelsSpec)

/-- 'laws.FnWorldsMean', WHERE WHAT IT READS IS OF BULK AT MOST 1048576: true; the input reads as it did. -/
def fnWorldsMeanUptoRow : OpenClaim := { program := "ytggmgmkhohmfiaagreat", sum := "5b06a26f4471f514e192132ea6708cbc8503ab7226459ba2290d20d7adac23fe", func := "loop.example/g00461/laws.FnWorldsMean", spec := "fnWorldsMean", inPlace := ["slices.overlaps[int]"], unfollowed := true, recurses := true, apart := false, narrowed := true }
def FnWorldsMeanUptoSaid : Prop := fnWorldsMeanUptoRow.holds Tryz.pinned (OpenSpec.upto fnWorldsMeanSpec)

/-- 'laws.FnBothAtOnce', WHERE WHAT IT READS IS OF BULK AT MOST 1048576: true; the input reads as it did. -/
def fnBothAtOnceUptoRow : OpenClaim := { program := "ytggmgmkhohmfiaagreat", sum := "5b06a26f4471f514e192132ea6708cbc8503ab7226459ba2290d20d7adac23fe", func := "loop.example/g00461/laws.FnBothAtOnce", spec := "fnBothAtOnce", inPlace := ["slices.overlaps[int]"], unfollowed := true, recurses := true, apart := false, narrowed := true }
def FnBothAtOnceUptoSaid : Prop := fnBothAtOnceUptoRow.holds Tryz.pinned (OpenSpec.upto fnBothAtOnceSpec)

/-- 'laws.FnRenamedSame', WHERE WHAT IT READS IS OF BULK AT MOST 1048576: true; the input reads as it did. -/
def fnRenamedSameUptoRow : OpenClaim := { program := "ytggmgmkhohmfiaagreat", sum := "5b06a26f4471f514e192132ea6708cbc8503ab7226459ba2290d20d7adac23fe", func := "loop.example/g00461/laws.FnRenamedSame", spec := "fnRenamedSame", inPlace := ["slices.overlaps[int]"], unfollowed := true, recurses := true, apart := false, narrowed := true }
def FnRenamedSameUptoSaid : Prop := fnRenamedSameUptoRow.holds Tryz.pinned (OpenSpec.upto fnRenamedSameSpec)

/-- 'laws.FnTrivialMeans', WHERE WHAT IT READS IS OF BULK AT MOST 1048576: true; the input reads as it did. -/
def fnTrivialMeansUptoRow : OpenClaim := { program := "ytggmgmkhohmfiaagreat", sum := "5b06a26f4471f514e192132ea6708cbc8503ab7226459ba2290d20d7adac23fe", func := "loop.example/g00461/laws.FnTrivialMeans", spec := "fnTrivialMeans", inPlace := ["slices.overlaps[int]"], unfollowed := true, recurses := true, apart := false, narrowed := true }
def FnTrivialMeansUptoSaid : Prop := fnTrivialMeansUptoRow.holds Tryz.pinned (OpenSpec.upto fnTrivialMeansSpec)

/-- 'laws.FnTidyMeans', WHERE WHAT IT READS IS OF BULK AT MOST 1048576: true; the input reads as it did. -/
def fnTidyMeansUptoRow : OpenClaim := { program := "ytggmgmkhohmfiaagreat", sum := "5b06a26f4471f514e192132ea6708cbc8503ab7226459ba2290d20d7adac23fe", func := "loop.example/g00461/laws.FnTidyMeans", spec := "fnTidyMeans", inPlace := ["slices.overlaps[int]"], unfollowed := true, recurses := true, apart := false, narrowed := true }
def FnTidyMeansUptoSaid : Prop := fnTidyMeansUptoRow.holds Tryz.pinned (OpenSpec.upto fnTidyMeansSpec)

/-- 'laws.FnFactoredMeans', WHERE WHAT IT READS IS OF BULK AT MOST 1048576: true; the input reads as it did. -/
def fnFactoredMeansUptoRow : OpenClaim := { program := "ytggmgmkhohmfiaagreat", sum := "5b06a26f4471f514e192132ea6708cbc8503ab7226459ba2290d20d7adac23fe", func := "loop.example/g00461/laws.FnFactoredMeans", spec := "fnFactoredMeans", inPlace := ["slices.overlaps[int]"], unfollowed := true, recurses := true, apart := false, narrowed := true }
def FnFactoredMeansUptoSaid : Prop := fnFactoredMeansUptoRow.holds Tryz.pinned (OpenSpec.upto fnFactoredMeansSpec)

/-- 'laws.FnResolvedMeans', WHERE WHAT IT READS IS OF BULK AT MOST 1048576: true; the input reads as it did. -/
def fnResolvedMeansUptoRow : OpenClaim := { program := "ytggmgmkhohmfiaagreat", sum := "5b06a26f4471f514e192132ea6708cbc8503ab7226459ba2290d20d7adac23fe", func := "loop.example/g00461/laws.FnResolvedMeans", spec := "fnResolvedMeans", inPlace := ["slices.overlaps[int]"], unfollowed := true, recurses := true, apart := false, narrowed := true }
def FnResolvedMeansUptoSaid : Prop := fnResolvedMeansUptoRow.holds Tryz.pinned (OpenSpec.upto fnResolvedMeansSpec)

/-- 'laws.FnRules', WHERE WHAT IT READS IS OF BULK AT MOST 1048576: true; the input reads as it did. -/
def fnRulesUptoRow : OpenClaim := { program := "ytggmgmkhohmfiaagreat", sum := "5b06a26f4471f514e192132ea6708cbc8503ab7226459ba2290d20d7adac23fe", func := "loop.example/g00461/laws.FnRules", spec := "fnRules", inPlace := ["slices.overlaps[int]"], unfollowed := true, recurses := true, apart := false, narrowed := true }
def FnRulesUptoSaid : Prop := fnRulesUptoRow.holds Tryz.pinned (OpenSpec.upto fnRulesSpec)

end Rows
end Go.Proofs.YtggmgmkhohmfiaaGreat
