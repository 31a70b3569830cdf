/-
  NARROWER THAN 'FOR EVERY INPUT', by the rows' own cells (each row's printed sentence says how): FnExactNodes: loops · FnExactUsesOf: loops · FnExactDeepOf: loops · FnExactEqual: loops · FnExactTrim: loops.
  DERIVED. THE GIVEN ROWS OF THIS SEAT. 12 by the template 'for every input the law returns true; each argument reads behind the call as it read before'; 0 by the template 'total and deterministic' (their statements: YtejfjfhopapaaaaTotals.lean).
  GIVEN WITH THE SEED: the statements are not yours to turn. If you find one false, say at which input.
  Laid BY PROGRAM, IN A SANDBOX (cutbox-rows.mjs): the forced cells as the released guide's own fill.sh prints them over the translation 75b799fefa961458… (all of the seat's roots in one cut). By AI agents, Wed Nov 11 2026. No macro, syntax, notation, axiom, sorry.
-/
import Derived.Test.YtejfjfhopapaaaaChecked
import GoSem.Claim
import GoSem.ClaimJoined
import GoSem.ClaimMapViews
import Derived.JoinedTies
import Derived.KernelRfl
namespace Go.Proofs.Ytejfjfhopapaaaa
/- THE CELL 'sum', in the pinned program and in every row, IS THE sha256 OF THE DUMP (.gsa) THAT YtejfjfhopapaaaaProg.lean LOADS. Nothing in Lean hashes anything: it is a label: what it is worth is what the hold of that sum in a sandbox is worth. -/
noncomputable def Try.pinned : Pinned := { name := "ytejfjfhopapaaaa", sum := "75b799fefa961458436fab84b825f0cb74b8ee75559a713d14daeaea47d69863", checked := Try.checked }
namespace Rows
def none {H : Type} : Left H := { results := [], args := [] }

/-- 'laws.FnExactNodes': WHATEVER THE INPUT: true; the input reads as it did. -/
def fnExactNodesSpec : ChangeSpec := { name := "fnExactNodes", fn := fun _ => fun
  | [d1, d2, d3] => { results := [.lit (.bool true)], args := [d1, d2, d3] }
  | _ => none }
def fnExactNodesRow : OpenClaim := { program := "ytejfjfhopapaaaa", sum := "75b799fefa961458436fab84b825f0cb74b8ee75559a713d14daeaea47d69863", func := "loop.example/g00461/laws.FnExactNodes", spec := "fnExactNodes", unfollowed := true, recurses := true, loops := true, apart := false }
def FnExactNodesSaid : Prop := fnExactNodesRow.holds Try.pinned (OpenSpec.ofChange fnExactNodesSpec)

/-- ITS FALSE NEIGHBOUR: 'it returns false'. Refute it at one input. -/
def fnExactNodesWrong : ChangeSpec := { name := "fnExactNodes", fn := fun _ => fun
  | [d1, d2, d3] => { results := [.lit (.bool false)], args := [d1, d2, d3] }
  | _ => none }
def FnExactNodesWrongFalsely : Prop := fnExactNodesRow.holds Try.pinned (OpenSpec.ofChange fnExactNodesWrong)

/-- 'laws.FnProducts': WHATEVER THE INPUT: true; the input reads as it did. -/
def fnProductsSpec : ChangeSpec := { name := "fnProducts", fn := fun _ => fun
  | [d] => { results := [.lit (.bool true)], args := [d] }
  | _ => none }
def fnProductsRow : OpenClaim := { program := "ytejfjfhopapaaaa", sum := "75b799fefa961458436fab84b825f0cb74b8ee75559a713d14daeaea47d69863", func := "loop.example/g00461/laws.FnProducts", spec := "fnProducts", unfollowed := true, recurses := true, apart := false }
def FnProductsSaid : Prop := fnProductsRow.holds Try.pinned (OpenSpec.ofChange fnProductsSpec)

/-- ITS FALSE NEIGHBOUR: 'it returns false'. Refute it at one input. -/
def fnProductsWrong : ChangeSpec := { name := "fnProducts", fn := fun _ => fun
  | [d] => { results := [.lit (.bool false)], args := [d] }
  | _ => none }
def FnProductsWrongFalsely : Prop := fnProductsRow.holds Try.pinned (OpenSpec.ofChange fnProductsWrong)

/-- 'laws.FnQueues': WHATEVER THE INPUT: true; the input reads as it did. -/
def fnQueuesSpec : ChangeSpec := { name := "fnQueues", fn := fun _ => fun
  | [d] => { results := [.lit (.bool true)], args := [d] }
  | _ => none }
def fnQueuesRow : OpenClaim := { program := "ytejfjfhopapaaaa", sum := "75b799fefa961458436fab84b825f0cb74b8ee75559a713d14daeaea47d69863", func := "loop.example/g00461/laws.FnQueues", spec := "fnQueues", recurses := true, apart := false }
def FnQueuesSaid : Prop := fnQueuesRow.holds Try.pinned (OpenSpec.ofChange fnQueuesSpec)

/-- ITS FALSE NEIGHBOUR: 'it returns false'. Refute it at one input. -/
def fnQueuesWrong : ChangeSpec := { name := "fnQueues", fn := fun _ => fun
  | [d] => { results := [.lit (.bool false)], args := [d] }
  | _ => none }
def FnQueuesWrongFalsely : Prop := fnQueuesRow.holds Try.pinned (OpenSpec.ofChange fnQueuesWrong)

/-- 'laws.FnBlindMeans': WHATEVER THE INPUT: true; the input reads as it did. -/
def fnBlindMeansSpec : ChangeSpec := { name := "fnBlindMeans", fn := fun _ => fun
  | [d] => { results := [.lit (.bool true)], args := [d] }
  | _ => none }
def fnBlindMeansRow : OpenClaim := { program := "ytejfjfhopapaaaa", sum := "75b799fefa961458436fab84b825f0cb74b8ee75559a713d14daeaea47d69863", func := "loop.example/g00461/laws.FnBlindMeans", spec := "fnBlindMeans", unfollowed := true, recurses := true, apart := false }
def FnBlindMeansSaid : Prop := fnBlindMeansRow.holds Try.pinned (OpenSpec.ofChange fnBlindMeansSpec)

/-- ITS FALSE NEIGHBOUR: 'it returns false'. Refute it at one input. -/
def fnBlindMeansWrong : ChangeSpec := { name := "fnBlindMeans", fn := fun _ => fun
  | [d] => { results := [.lit (.bool false)], args := [d] }
  | _ => none }
def FnBlindMeansWrongFalsely : Prop := fnBlindMeansRow.holds Try.pinned (OpenSpec.ofChange fnBlindMeansWrong)

/-- 'laws.FnExactUsesOf': WHATEVER THE INPUT: true; the input reads as it did. -/
def fnExactUsesOfSpec : ChangeSpec := { name := "fnExactUsesOf", fn := fun _ => fun
  | [d1, d2] => { results := [.lit (.bool true)], args := [d1, d2] }
  | _ => none }
def fnExactUsesOfRow : OpenClaim := { program := "ytejfjfhopapaaaa", sum := "75b799fefa961458436fab84b825f0cb74b8ee75559a713d14daeaea47d69863", func := "loop.example/g00461/laws.FnExactUsesOf", spec := "fnExactUsesOf", inPlace := ["slices.overlaps[int]"], unfollowed := true, recurses := true, loops := true, apart := false }
def FnExactUsesOfSaid : Prop := fnExactUsesOfRow.holds Try.pinned (OpenSpec.ofChange fnExactUsesOfSpec)

/-- ITS FALSE NEIGHBOUR: 'it returns false'. Refute it at one input. -/
def fnExactUsesOfWrong : ChangeSpec := { name := "fnExactUsesOf", fn := fun _ => fun
  | [d1, d2] => { results := [.lit (.bool false)], args := [d1, d2] }
  | _ => none }
def FnExactUsesOfWrongFalsely : Prop := fnExactUsesOfRow.holds Try.pinned (OpenSpec.ofChange fnExactUsesOfWrong)

/-- 'laws.FnExactDeepOf': WHATEVER THE INPUT: true; the input reads as it did. -/
def fnExactDeepOfSpec : ChangeSpec := { name := "fnExactDeepOf", fn := fun _ => fun
  | [d1, d2] => { results := [.lit (.bool true)], args := [d1, d2] }
  | _ => none }
def fnExactDeepOfRow : OpenClaim := { program := "ytejfjfhopapaaaa", sum := "75b799fefa961458436fab84b825f0cb74b8ee75559a713d14daeaea47d69863", func := "loop.example/g00461/laws.FnExactDeepOf", spec := "fnExactDeepOf", inPlace := ["slices.overlaps[int]"], unfollowed := true, recurses := true, loops := true, apart := false }
def FnExactDeepOfSaid : Prop := fnExactDeepOfRow.holds Try.pinned (OpenSpec.ofChange fnExactDeepOfSpec)

/-- ITS FALSE NEIGHBOUR: 'it returns false'. Refute it at one input. -/
def fnExactDeepOfWrong : ChangeSpec := { name := "fnExactDeepOf", fn := fun _ => fun
  | [d1, d2] => { results := [.lit (.bool false)], args := [d1, d2] }
  | _ => none }
def FnExactDeepOfWrongFalsely : Prop := fnExactDeepOfRow.holds Try.pinned (OpenSpec.ofChange fnExactDeepOfWrong)

/-- 'laws.FnPutMeans': WHATEVER THE INPUT: true; the input reads as it did. -/
def fnPutMeansSpec : ChangeSpec := { name := "fnPutMeans", fn := fun _ => fun
  | [d] => { results := [.lit (.bool true)], args := [d] }
  | _ => none }
def fnPutMeansRow : OpenClaim := { program := "ytejfjfhopapaaaa", sum := "75b799fefa961458436fab84b825f0cb74b8ee75559a713d14daeaea47d69863", func := "loop.example/g00461/laws.FnPutMeans", spec := "fnPutMeans", unfollowed := true, recurses := true, apart := false }
def FnPutMeansSaid : Prop := fnPutMeansRow.holds Try.pinned (OpenSpec.ofChange fnPutMeansSpec)

/-- ITS FALSE NEIGHBOUR: 'it returns false'. Refute it at one input. -/
def fnPutMeansWrong : ChangeSpec := { name := "fnPutMeans", fn := fun _ => fun
  | [d] => { results := [.lit (.bool false)], args := [d] }
  | _ => none }
def FnPutMeansWrongFalsely : Prop := fnPutMeansRow.holds Try.pinned (OpenSpec.ofChange fnPutMeansWrong)

/-- 'laws.FnTwoAgree': WHATEVER THE INPUT: true; the input reads as it did. -/
def fnTwoAgreeSpec : ChangeSpec := { name := "fnTwoAgree", fn := fun _ => fun
  | [d] => { results := [.lit (.bool true)], args := [d] }
  | _ => none }
def fnTwoAgreeRow : OpenClaim := { program := "ytejfjfhopapaaaa", sum := "75b799fefa961458436fab84b825f0cb74b8ee75559a713d14daeaea47d69863", func := "loop.example/g00461/laws.FnTwoAgree", spec := "fnTwoAgree", inPlace := ["slices.overlaps[int]"], unfollowed := true, recurses := true, apart := false }
def FnTwoAgreeSaid : Prop := fnTwoAgreeRow.holds Try.pinned (OpenSpec.ofChange fnTwoAgreeSpec)

/-- ITS FALSE NEIGHBOUR: 'it returns false'. Refute it at one input. -/
def fnTwoAgreeWrong : ChangeSpec := { name := "fnTwoAgree", fn := fun _ => fun
  | [d] => { results := [.lit (.bool false)], args := [d] }
  | _ => none }
def FnTwoAgreeWrongFalsely : Prop := fnTwoAgreeRow.holds Try.pinned (OpenSpec.ofChange fnTwoAgreeWrong)

/-- 'laws.FnEqualHolds': WHATEVER THE INPUT: true; the input reads as it did. -/
def fnEqualHoldsSpec : ChangeSpec := { name := "fnEqualHolds", fn := fun _ => fun
  | [d] => { results := [.lit (.bool true)], args := [d] }
  | _ => none }
def fnEqualHoldsRow : OpenClaim := { program := "ytejfjfhopapaaaa", sum := "75b799fefa961458436fab84b825f0cb74b8ee75559a713d14daeaea47d69863", func := "loop.example/g00461/laws.FnEqualHolds", spec := "fnEqualHolds", unfollowed := true, recurses := true, apart := false }
def FnEqualHoldsSaid : Prop := fnEqualHoldsRow.holds Try.pinned (OpenSpec.ofChange fnEqualHoldsSpec)

/-- ITS FALSE NEIGHBOUR: 'it returns false'. Refute it at one input. -/
def fnEqualHoldsWrong : ChangeSpec := { name := "fnEqualHolds", fn := fun _ => fun
  | [d] => { results := [.lit (.bool false)], args := [d] }
  | _ => none }
def FnEqualHoldsWrongFalsely : Prop := fnEqualHoldsRow.holds Try.pinned (OpenSpec.ofChange fnEqualHoldsWrong)

/-- 'laws.FnExactEqual': WHATEVER THE INPUT: true; the input reads as it did. -/
def fnExactEqualSpec : ChangeSpec := { name := "fnExactEqual", fn := fun _ => fun
  | [d1, d2, d3, d4] => { results := [.lit (.bool true)], args := [d1, d2, d3, d4] }
  | _ => none }
def fnExactEqualRow : OpenClaim := { program := "ytejfjfhopapaaaa", sum := "75b799fefa961458436fab84b825f0cb74b8ee75559a713d14daeaea47d69863", func := "loop.example/g00461/laws.FnExactEqual", spec := "fnExactEqual", unfollowed := true, recurses := true, loops := true, apart := false }
def FnExactEqualSaid : Prop := fnExactEqualRow.holds Try.pinned (OpenSpec.ofChange fnExactEqualSpec)

/-- ITS FALSE NEIGHBOUR: 'it returns false'. Refute it at one input. -/
def fnExactEqualWrong : ChangeSpec := { name := "fnExactEqual", fn := fun _ => fun
  | [d1, d2, d3, d4] => { results := [.lit (.bool false)], args := [d1, d2, d3, d4] }
  | _ => none }
def FnExactEqualWrongFalsely : Prop := fnExactEqualRow.holds Try.pinned (OpenSpec.ofChange fnExactEqualWrong)

/-- 'laws.FnEquals': WHATEVER THE INPUT: true; the input reads as it did. -/
def fnEqualsSpec : ChangeSpec := { name := "fnEquals", fn := fun _ => fun
  | [d] => { results := [.lit (.bool true)], args := [d] }
  | _ => none }
def fnEqualsRow : OpenClaim := { program := "ytejfjfhopapaaaa", sum := "75b799fefa961458436fab84b825f0cb74b8ee75559a713d14daeaea47d69863", func := "loop.example/g00461/laws.FnEquals", spec := "fnEquals", unfollowed := true, recurses := true, apart := false }
def FnEqualsSaid : Prop := fnEqualsRow.holds Try.pinned (OpenSpec.ofChange fnEqualsSpec)

/-- ITS FALSE NEIGHBOUR: 'it returns false'. Refute it at one input. -/
def fnEqualsWrong : ChangeSpec := { name := "fnEquals", fn := fun _ => fun
  | [d] => { results := [.lit (.bool false)], args := [d] }
  | _ => none }
def FnEqualsWrongFalsely : Prop := fnEqualsRow.holds Try.pinned (OpenSpec.ofChange fnEqualsWrong)

/-- 'laws.FnExactTrim': WHATEVER THE INPUT: true; the input reads as it did. -/
def fnExactTrimSpec : ChangeSpec := { name := "fnExactTrim", fn := fun _ => fun
  | [d1, d2] => { results := [.lit (.bool true)], args := [d1, d2] }
  | _ => none }
def fnExactTrimRow : OpenClaim := { program := "ytejfjfhopapaaaa", sum := "75b799fefa961458436fab84b825f0cb74b8ee75559a713d14daeaea47d69863", func := "loop.example/g00461/laws.FnExactTrim", spec := "fnExactTrim", inPlace := ["slices.overlaps[int]"], unfollowed := true, recurses := true, loops := true, apart := false }
def FnExactTrimSaid : Prop := fnExactTrimRow.holds Try.pinned (OpenSpec.ofChange fnExactTrimSpec)

/-- ITS FALSE NEIGHBOUR: 'it returns false'. Refute it at one input. -/
def fnExactTrimWrong : ChangeSpec := { name := "fnExactTrim", fn := fun _ => fun
  | [d1, d2] => { results := [.lit (.bool false)], args := [d1, d2] }
  | _ => none }
def FnExactTrimWrongFalsely : Prop := fnExactTrimRow.holds Try.pinned (OpenSpec.ofChange fnExactTrimWrong)

/- THE SECOND FORM. 'bulk': how many values and letters a reading holds, each counted each time it is reached (what is shared counts as often as it is met; a slice's spare places count too). A statement '..UptoSaid' is the law's where the arguments, and the package variables that the reading takes, are together of bulk at most 1048576: NARROWER than '..Said'. Prove '..Said' where nothing that the law and all that it calls make is longer than what came in: it says more and counts as full. Else prove '..UptoSaid'. A law counts once. -/
mutual
def uptoBulk {H : Type} : DataW H → Nat
  | .lit (.string bytes) => bytes.length + 1
  | .lit _ => 1
  | .nil => 1
  | .ptr d => uptoBulk d + 1
  | .slice elems spare => uptoBulkAll elems + uptoBulkAll spare + 1
  | .agg parts => uptoBulkAll parts + 1
  | .iface _ d => uptoBulk d + 1
  | .map entries => uptoBulkEntries entries + 1
  | .held _ => 1
def uptoBulkAll {H : Type} : List (DataW H) → Nat
  | [] => 0
  | d :: r => uptoBulk d + uptoBulkAll r
def uptoBulkEntries {H : Type} : List (Lit × DataW H) → Nat
  | [] => 0
  | x :: r => uptoBulkEntry x + uptoBulkEntries r
def uptoBulkEntry {H : Type} : Lit × DataW H → Nat
  | (.string bytes, d) => bytes.length + uptoBulk d + 1
  | (_, d) => uptoBulk d + 1
 end
def uptoSmall : (H : Type) → List (DataW H) → Bool := fun _ ds => decide (uptoBulkAll ds ≤ 1048576)
def OpenSpec.upto (s : _root_.Go.ChangeSpec) : _root_.Go.OpenSpec := { _root_.Go.OpenSpec.ofChange s with cond := some uptoSmall }

/-- 'laws.FnExactNodes', WHERE WHAT IT READS IS OF BULK AT MOST 1048576: true; the input reads as it did. -/
def fnExactNodesUptoRow : OpenClaim := { program := "ytejfjfhopapaaaa", sum := "75b799fefa961458436fab84b825f0cb74b8ee75559a713d14daeaea47d69863", func := "loop.example/g00461/laws.FnExactNodes", spec := "fnExactNodes", unfollowed := true, recurses := true, loops := true, apart := false, narrowed := true }
def FnExactNodesUptoSaid : Prop := fnExactNodesUptoRow.holds Try.pinned (OpenSpec.upto fnExactNodesSpec)

/-- 'laws.FnProducts', WHERE WHAT IT READS IS OF BULK AT MOST 1048576: true; the input reads as it did. -/
def fnProductsUptoRow : OpenClaim := { program := "ytejfjfhopapaaaa", sum := "75b799fefa961458436fab84b825f0cb74b8ee75559a713d14daeaea47d69863", func := "loop.example/g00461/laws.FnProducts", spec := "fnProducts", unfollowed := true, recurses := true, apart := false, narrowed := true }
def FnProductsUptoSaid : Prop := fnProductsUptoRow.holds Try.pinned (OpenSpec.upto fnProductsSpec)

/-- 'laws.FnQueues', WHERE WHAT IT READS IS OF BULK AT MOST 1048576: true; the input reads as it did. -/
def fnQueuesUptoRow : OpenClaim := { program := "ytejfjfhopapaaaa", sum := "75b799fefa961458436fab84b825f0cb74b8ee75559a713d14daeaea47d69863", func := "loop.example/g00461/laws.FnQueues", spec := "fnQueues", recurses := true, apart := false, narrowed := true }
def FnQueuesUptoSaid : Prop := fnQueuesUptoRow.holds Try.pinned (OpenSpec.upto fnQueuesSpec)

/-- 'laws.FnBlindMeans', WHERE WHAT IT READS IS OF BULK AT MOST 1048576: true; the input reads as it did. -/
def fnBlindMeansUptoRow : OpenClaim := { program := "ytejfjfhopapaaaa", sum := "75b799fefa961458436fab84b825f0cb74b8ee75559a713d14daeaea47d69863", func := "loop.example/g00461/laws.FnBlindMeans", spec := "fnBlindMeans", unfollowed := true, recurses := true, apart := false, narrowed := true }
def FnBlindMeansUptoSaid : Prop := fnBlindMeansUptoRow.holds Try.pinned (OpenSpec.upto fnBlindMeansSpec)

/-- 'laws.FnExactUsesOf', WHERE WHAT IT READS IS OF BULK AT MOST 1048576: true; the input reads as it did. -/
def fnExactUsesOfUptoRow : OpenClaim := { program := "ytejfjfhopapaaaa", sum := "75b799fefa961458436fab84b825f0cb74b8ee75559a713d14daeaea47d69863", func := "loop.example/g00461/laws.FnExactUsesOf", spec := "fnExactUsesOf", inPlace := ["slices.overlaps[int]"], unfollowed := true, recurses := true, loops := true, apart := false, narrowed := true }
def FnExactUsesOfUptoSaid : Prop := fnExactUsesOfUptoRow.holds Try.pinned (OpenSpec.upto fnExactUsesOfSpec)

/-- 'laws.FnExactDeepOf', WHERE WHAT IT READS IS OF BULK AT MOST 1048576: true; the input reads as it did. -/
def fnExactDeepOfUptoRow : OpenClaim := { program := "ytejfjfhopapaaaa", sum := "75b799fefa961458436fab84b825f0cb74b8ee75559a713d14daeaea47d69863", func := "loop.example/g00461/laws.FnExactDeepOf", spec := "fnExactDeepOf", inPlace := ["slices.overlaps[int]"], unfollowed := true, recurses := true, loops := true, apart := false, narrowed := true }
def FnExactDeepOfUptoSaid : Prop := fnExactDeepOfUptoRow.holds Try.pinned (OpenSpec.upto fnExactDeepOfSpec)

/-- 'laws.FnPutMeans', WHERE WHAT IT READS IS OF BULK AT MOST 1048576: true; the input reads as it did. -/
def fnPutMeansUptoRow : OpenClaim := { program := "ytejfjfhopapaaaa", sum := "75b799fefa961458436fab84b825f0cb74b8ee75559a713d14daeaea47d69863", func := "loop.example/g00461/laws.FnPutMeans", spec := "fnPutMeans", unfollowed := true, recurses := true, apart := false, narrowed := true }
def FnPutMeansUptoSaid : Prop := fnPutMeansUptoRow.holds Try.pinned (OpenSpec.upto fnPutMeansSpec)

/-- 'laws.FnTwoAgree', WHERE WHAT IT READS IS OF BULK AT MOST 1048576: true; the input reads as it did. -/
def fnTwoAgreeUptoRow : OpenClaim := { program := "ytejfjfhopapaaaa", sum := "75b799fefa961458436fab84b825f0cb74b8ee75559a713d14daeaea47d69863", func := "loop.example/g00461/laws.FnTwoAgree", spec := "fnTwoAgree", inPlace := ["slices.overlaps[int]"], unfollowed := true, recurses := true, apart := false, narrowed := true }
def FnTwoAgreeUptoSaid : Prop := fnTwoAgreeUptoRow.holds Try.pinned (OpenSpec.upto fnTwoAgreeSpec)

/-- 'laws.FnEqualHolds', WHERE WHAT IT READS IS OF BULK AT MOST 1048576: true; the input reads as it did. -/
def fnEqualHoldsUptoRow : OpenClaim := { program := "ytejfjfhopapaaaa", sum := "75b799fefa961458436fab84b825f0cb74b8ee75559a713d14daeaea47d69863", func := "loop.example/g00461/laws.FnEqualHolds", spec := "fnEqualHolds", unfollowed := true, recurses := true, apart := false, narrowed := true }
def FnEqualHoldsUptoSaid : Prop := fnEqualHoldsUptoRow.holds Try.pinned (OpenSpec.upto fnEqualHoldsSpec)

/-- 'laws.FnExactEqual', WHERE WHAT IT READS IS OF BULK AT MOST 1048576: true; the input reads as it did. -/
def fnExactEqualUptoRow : OpenClaim := { program := "ytejfjfhopapaaaa", sum := "75b799fefa961458436fab84b825f0cb74b8ee75559a713d14daeaea47d69863", func := "loop.example/g00461/laws.FnExactEqual", spec := "fnExactEqual", unfollowed := true, recurses := true, loops := true, apart := false, narrowed := true }
def FnExactEqualUptoSaid : Prop := fnExactEqualUptoRow.holds Try.pinned (OpenSpec.upto fnExactEqualSpec)

/-- 'laws.FnEquals', WHERE WHAT IT READS IS OF BULK AT MOST 1048576: true; the input reads as it did. -/
def fnEqualsUptoRow : OpenClaim := { program := "ytejfjfhopapaaaa", sum := "75b799fefa961458436fab84b825f0cb74b8ee75559a713d14daeaea47d69863", func := "loop.example/g00461/laws.FnEquals", spec := "fnEquals", unfollowed := true, recurses := true, apart := false, narrowed := true }
def FnEqualsUptoSaid : Prop := fnEqualsUptoRow.holds Try.pinned (OpenSpec.upto fnEqualsSpec)

/-- 'laws.FnExactTrim', WHERE WHAT IT READS IS OF BULK AT MOST 1048576: true; the input reads as it did. -/
def fnExactTrimUptoRow : OpenClaim := { program := "ytejfjfhopapaaaa", sum := "75b799fefa961458436fab84b825f0cb74b8ee75559a713d14daeaea47d69863", func := "loop.example/g00461/laws.FnExactTrim", spec := "fnExactTrim", inPlace := ["slices.overlaps[int]"], unfollowed := true, recurses := true, loops := true, apart := false, narrowed := true }
def FnExactTrimUptoSaid : Prop := fnExactTrimUptoRow.holds Try.pinned (OpenSpec.upto fnExactTrimSpec)

end Rows
end Go.Proofs.Ytejfjfhopapaaaa
