/-
  NARROWER THAN 'FOR EVERY INPUT', by the rows' own cells (each row's printed sentence says how): FnExactMayMatch: loops · FnExactMayUnify: loops · FnExactNodes: loops · FnExactCloseOk: loops · FnExactValue: loops · FnExactMeans: loops.
  DERIVED. THE GIVEN ROWS OF THIS SEAT. 12 by the template 'for every input the law returns true; each argument reads behind the call as it read before'; 0 by the template 'total and deterministic' (their statements: YtcboagkbcoihjaaTotals.lean).
  GIVEN WITH THE SEED: the statements are not yours to turn. If you find one false, say at which input.
  Laid BY PROGRAM, IN A SANDBOX (cutbox-rows.mjs): the forced cells as the released guide's own fill.sh prints them over the translation 444104ea8680f8e4… (all of the seat's roots in one cut). By AI agents, Wed Nov 11 2026. No macro, syntax, notation, axiom, sorry.
-/
import Derived.Test.YtcboagkbcoihjaaChecked
import GoSem.Claim
import GoSem.ClaimJoined
import GoSem.ClaimMapViews
import Derived.JoinedTies
import Derived.KernelRfl
namespace Go.Proofs.Ytcboagkbcoihjaa
/- THE CELL 'sum', in the pinned program and in every row, IS THE sha256 OF THE DUMP (.gsa) THAT YtcboagkbcoihjaaProg.lean LOADS. Nothing in Lean hashes anything: it is a label: what it is worth is what the hold of that sum in a sandbox is worth. -/
noncomputable def Try.pinned : Pinned := { name := "ytcboagkbcoihjaa", sum := "444104ea8680f8e4e6cfb4d19f9f9c55629b6071e322b34d033d3e9607b89d85", checked := Try.checked }
namespace Rows
def none {H : Type} : Left H := { results := [], args := [] }

/-- 'laws.FnExactMayMatch': WHATEVER THE INPUT: true; the input reads as it did. -/
def fnExactMayMatchSpec : ChangeSpec := { name := "fnExactMayMatch", fn := fun _ => fun
  | [d1, d2, d3] => { results := [.lit (.bool true)], args := [d1, d2, d3] }
  | _ => none }
def fnExactMayMatchRow : OpenClaim := { program := "ytcboagkbcoihjaa", sum := "444104ea8680f8e4e6cfb4d19f9f9c55629b6071e322b34d033d3e9607b89d85", func := "loop.example/g00461/laws.FnExactMayMatch", spec := "fnExactMayMatch", recurses := true, loops := true, apart := false }
def FnExactMayMatchSaid : Prop := fnExactMayMatchRow.holds Try.pinned (OpenSpec.ofChange fnExactMayMatchSpec)

/-- ITS FALSE NEIGHBOUR: 'it returns false'. Refute it at one input. -/
def fnExactMayMatchWrong : ChangeSpec := { name := "fnExactMayMatch", fn := fun _ => fun
  | [d1, d2, d3] => { results := [.lit (.bool false)], args := [d1, d2, d3] }
  | _ => none }
def FnExactMayMatchWrongFalsely : Prop := fnExactMayMatchRow.holds Try.pinned (OpenSpec.ofChange fnExactMayMatchWrong)

/-- 'laws.FnExactMayUnify': WHATEVER THE INPUT: true; the input reads as it did. -/
def fnExactMayUnifySpec : ChangeSpec := { name := "fnExactMayUnify", fn := fun _ => fun
  | [d1, d2, d3] => { results := [.lit (.bool true)], args := [d1, d2, d3] }
  | _ => none }
def fnExactMayUnifyRow : OpenClaim := { program := "ytcboagkbcoihjaa", sum := "444104ea8680f8e4e6cfb4d19f9f9c55629b6071e322b34d033d3e9607b89d85", func := "loop.example/g00461/laws.FnExactMayUnify", spec := "fnExactMayUnify", recurses := true, loops := true, apart := false }
def FnExactMayUnifySaid : Prop := fnExactMayUnifyRow.holds Try.pinned (OpenSpec.ofChange fnExactMayUnifySpec)

/-- ITS FALSE NEIGHBOUR: 'it returns false'. Refute it at one input. -/
def fnExactMayUnifyWrong : ChangeSpec := { name := "fnExactMayUnify", fn := fun _ => fun
  | [d1, d2, d3] => { results := [.lit (.bool false)], args := [d1, d2, d3] }
  | _ => none }
def FnExactMayUnifyWrongFalsely : Prop := fnExactMayUnifyRow.holds Try.pinned (OpenSpec.ofChange fnExactMayUnifyWrong)

/-- 'laws.FnExactModelOk': WHATEVER THE INPUT: true; the input reads as it did. -/
def fnExactModelOkSpec : ChangeSpec := { name := "fnExactModelOk", fn := fun _ => fun
  | [d1, d2] => { results := [.lit (.bool true)], args := [d1, d2] }
  | _ => none }
def fnExactModelOkRow : OpenClaim := { program := "ytcboagkbcoihjaa", sum := "444104ea8680f8e4e6cfb4d19f9f9c55629b6071e322b34d033d3e9607b89d85", func := "loop.example/g00461/laws.FnExactModelOk", spec := "fnExactModelOk", unfollowed := true, recurses := true, apart := false }
def FnExactModelOkSaid : Prop := fnExactModelOkRow.holds Try.pinned (OpenSpec.ofChange fnExactModelOkSpec)

/-- ITS FALSE NEIGHBOUR: 'it returns false'. Refute it at one input. -/
def fnExactModelOkWrong : ChangeSpec := { name := "fnExactModelOk", fn := fun _ => fun
  | [d1, d2] => { results := [.lit (.bool false)], args := [d1, d2] }
  | _ => none }
def FnExactModelOkWrongFalsely : Prop := fnExactModelOkRow.holds Try.pinned (OpenSpec.ofChange fnExactModelOkWrong)

/-- 'laws.FnExactWorldOk': WHATEVER THE INPUT: true; the input reads as it did. -/
def fnExactWorldOkSpec : ChangeSpec := { name := "fnExactWorldOk", fn := fun _ => fun
  | [d1, d2] => { results := [.lit (.bool true)], args := [d1, d2] }
  | _ => none }
def fnExactWorldOkRow : OpenClaim := { program := "ytcboagkbcoihjaa", sum := "444104ea8680f8e4e6cfb4d19f9f9c55629b6071e322b34d033d3e9607b89d85", func := "loop.example/g00461/laws.FnExactWorldOk", spec := "fnExactWorldOk", unfollowed := true, recurses := true, apart := false }
def FnExactWorldOkSaid : Prop := fnExactWorldOkRow.holds Try.pinned (OpenSpec.ofChange fnExactWorldOkSpec)

/-- ITS FALSE NEIGHBOUR: 'it returns false'. Refute it at one input. -/
def fnExactWorldOkWrong : ChangeSpec := { name := "fnExactWorldOk", fn := fun _ => fun
  | [d1, d2] => { results := [.lit (.bool false)], args := [d1, d2] }
  | _ => none }
def FnExactWorldOkWrongFalsely : Prop := fnExactWorldOkRow.holds Try.pinned (OpenSpec.ofChange fnExactWorldOkWrong)

/-- 'laws.FnExactNodes': WHATEVER THE INPUT: true; the input reads as it did. -/
def fnExactNodesSpec : ChangeSpec := { name := "fnExactNodes", fn := fun _ => fun
  | [d1, d2, d3] => { results := [.lit (.bool true)], args := [d1, d2, d3] }
  | _ => none }
def fnExactNodesRow : OpenClaim := { program := "ytcboagkbcoihjaa", sum := "444104ea8680f8e4e6cfb4d19f9f9c55629b6071e322b34d033d3e9607b89d85", func := "loop.example/g00461/laws.FnExactNodes", spec := "fnExactNodes", unfollowed := true, recurses := true, loops := true, apart := false }
def FnExactNodesSaid : Prop := fnExactNodesRow.holds Try.pinned (OpenSpec.ofChange fnExactNodesSpec)

/-- ITS FALSE NEIGHBOUR: 'it returns false'. Refute it at one input. -/
def fnExactNodesWrong : ChangeSpec := { name := "fnExactNodes", fn := fun _ => fun
  | [d1, d2, d3] => { results := [.lit (.bool false)], args := [d1, d2, d3] }
  | _ => none }
def FnExactNodesWrongFalsely : Prop := fnExactNodesRow.holds Try.pinned (OpenSpec.ofChange fnExactNodesWrong)

/-- 'laws.FnExactCloseOk': WHATEVER THE INPUT: true; the input reads as it did. -/
def fnExactCloseOkSpec : ChangeSpec := { name := "fnExactCloseOk", fn := fun _ => fun
  | [d1, d2] => { results := [.lit (.bool true)], args := [d1, d2] }
  | _ => none }
def fnExactCloseOkRow : OpenClaim := { program := "ytcboagkbcoihjaa", sum := "444104ea8680f8e4e6cfb4d19f9f9c55629b6071e322b34d033d3e9607b89d85", func := "loop.example/g00461/laws.FnExactCloseOk", spec := "fnExactCloseOk", unfollowed := true, recurses := true, loops := true, apart := false }
def FnExactCloseOkSaid : Prop := fnExactCloseOkRow.holds Try.pinned (OpenSpec.ofChange fnExactCloseOkSpec)

/-- ITS FALSE NEIGHBOUR: 'it returns false'. Refute it at one input. -/
def fnExactCloseOkWrong : ChangeSpec := { name := "fnExactCloseOk", fn := fun _ => fun
  | [d1, d2] => { results := [.lit (.bool false)], args := [d1, d2] }
  | _ => none }
def FnExactCloseOkWrongFalsely : Prop := fnExactCloseOkRow.holds Try.pinned (OpenSpec.ofChange fnExactCloseOkWrong)

/-- 'laws.FnExactSubworld': WHATEVER THE INPUT: true; the input reads as it did. -/
def fnExactSubworldSpec : ChangeSpec := { name := "fnExactSubworld", fn := fun _ => fun
  | [d1, d2, d3] => { results := [.lit (.bool true)], args := [d1, d2, d3] }
  | _ => none }
def fnExactSubworldRow : OpenClaim := { program := "ytcboagkbcoihjaa", sum := "444104ea8680f8e4e6cfb4d19f9f9c55629b6071e322b34d033d3e9607b89d85", func := "loop.example/g00461/laws.FnExactSubworld", spec := "fnExactSubworld", unfollowed := true, recurses := true, apart := false }
def FnExactSubworldSaid : Prop := fnExactSubworldRow.holds Try.pinned (OpenSpec.ofChange fnExactSubworldSpec)

/-- ITS FALSE NEIGHBOUR: 'it returns false'. Refute it at one input. -/
def fnExactSubworldWrong : ChangeSpec := { name := "fnExactSubworld", fn := fun _ => fun
  | [d1, d2, d3] => { results := [.lit (.bool false)], args := [d1, d2, d3] }
  | _ => none }
def FnExactSubworldWrongFalsely : Prop := fnExactSubworldRow.holds Try.pinned (OpenSpec.ofChange fnExactSubworldWrong)

/-- 'laws.FnExactProduct': WHATEVER THE INPUT: true; the input reads as it did. -/
def fnExactProductSpec : ChangeSpec := { name := "fnExactProduct", fn := fun _ => fun
  | [d1, d2, d3] => { results := [.lit (.bool true)], args := [d1, d2, d3] }
  | _ => none }
def fnExactProductRow : OpenClaim := { program := "ytcboagkbcoihjaa", sum := "444104ea8680f8e4e6cfb4d19f9f9c55629b6071e322b34d033d3e9607b89d85", func := "loop.example/g00461/laws.FnExactProduct", spec := "fnExactProduct", unfollowed := true, recurses := true, apart := false }
def FnExactProductSaid : Prop := fnExactProductRow.holds Try.pinned (OpenSpec.ofChange fnExactProductSpec)

/-- ITS FALSE NEIGHBOUR: 'it returns false'. Refute it at one input. -/
def fnExactProductWrong : ChangeSpec := { name := "fnExactProduct", fn := fun _ => fun
  | [d1, d2, d3] => { results := [.lit (.bool false)], args := [d1, d2, d3] }
  | _ => none }
def FnExactProductWrongFalsely : Prop := fnExactProductRow.holds Try.pinned (OpenSpec.ofChange fnExactProductWrong)

/-- 'laws.FnExactRenamed': WHATEVER THE INPUT: true; the input reads as it did. -/
def fnExactRenamedSpec : ChangeSpec := { name := "fnExactRenamed", fn := fun _ => fun
  | [d1, d2, d3] => { results := [.lit (.bool true)], args := [d1, d2, d3] }
  | _ => none }
def fnExactRenamedRow : OpenClaim := { program := "ytcboagkbcoihjaa", sum := "444104ea8680f8e4e6cfb4d19f9f9c55629b6071e322b34d033d3e9607b89d85", func := "loop.example/g00461/laws.FnExactRenamed", spec := "fnExactRenamed", unfollowed := true, recurses := true, apart := false }
def FnExactRenamedSaid : Prop := fnExactRenamedRow.holds Try.pinned (OpenSpec.ofChange fnExactRenamedSpec)

/-- ITS FALSE NEIGHBOUR: 'it returns false'. Refute it at one input. -/
def fnExactRenamedWrong : ChangeSpec := { name := "fnExactRenamed", fn := fun _ => fun
  | [d1, d2, d3] => { results := [.lit (.bool false)], args := [d1, d2, d3] }
  | _ => none }
def FnExactRenamedWrongFalsely : Prop := fnExactRenamedRow.holds Try.pinned (OpenSpec.ofChange fnExactRenamedWrong)

/-- 'laws.FnProducts': WHATEVER THE INPUT: true; the input reads as it did. -/
def fnProductsSpec : ChangeSpec := { name := "fnProducts", fn := fun _ => fun
  | [d] => { results := [.lit (.bool true)], args := [d] }
  | _ => none }
def fnProductsRow : OpenClaim := { program := "ytcboagkbcoihjaa", sum := "444104ea8680f8e4e6cfb4d19f9f9c55629b6071e322b34d033d3e9607b89d85", func := "loop.example/g00461/laws.FnProducts", spec := "fnProducts", unfollowed := true, recurses := true, apart := false }
def FnProductsSaid : Prop := fnProductsRow.holds Try.pinned (OpenSpec.ofChange fnProductsSpec)

/-- ITS FALSE NEIGHBOUR: 'it returns false'. Refute it at one input. -/
def fnProductsWrong : ChangeSpec := { name := "fnProducts", fn := fun _ => fun
  | [d] => { results := [.lit (.bool false)], args := [d] }
  | _ => none }
def FnProductsWrongFalsely : Prop := fnProductsRow.holds Try.pinned (OpenSpec.ofChange fnProductsWrong)

/-- 'laws.FnExactValue': WHATEVER THE INPUT: true; the input reads as it did. -/
def fnExactValueSpec : ChangeSpec := { name := "fnExactValue", fn := fun _ => fun
  | [d1, d2, d3, d4] => { results := [.lit (.bool true)], args := [d1, d2, d3, d4] }
  | _ => none }
def fnExactValueRow : OpenClaim := { program := "ytcboagkbcoihjaa", sum := "444104ea8680f8e4e6cfb4d19f9f9c55629b6071e322b34d033d3e9607b89d85", func := "loop.example/g00461/laws.FnExactValue", spec := "fnExactValue", unfollowed := true, recurses := true, loops := true, apart := false }
def FnExactValueSaid : Prop := fnExactValueRow.holds Try.pinned (OpenSpec.ofChange fnExactValueSpec)

/-- ITS FALSE NEIGHBOUR: 'it returns false'. Refute it at one input. -/
def fnExactValueWrong : ChangeSpec := { name := "fnExactValue", fn := fun _ => fun
  | [d1, d2, d3, d4] => { results := [.lit (.bool false)], args := [d1, d2, d3, d4] }
  | _ => none }
def FnExactValueWrongFalsely : Prop := fnExactValueRow.holds Try.pinned (OpenSpec.ofChange fnExactValueWrong)

/-- 'laws.FnExactMeans': WHATEVER THE INPUT: true; the input reads as it did. -/
def fnExactMeansSpec : ChangeSpec := { name := "fnExactMeans", fn := fun _ => fun
  | [d1, d2, d3, d4] => { results := [.lit (.bool true)], args := [d1, d2, d3, d4] }
  | _ => none }
def fnExactMeansRow : OpenClaim := { program := "ytcboagkbcoihjaa", sum := "444104ea8680f8e4e6cfb4d19f9f9c55629b6071e322b34d033d3e9607b89d85", func := "loop.example/g00461/laws.FnExactMeans", spec := "fnExactMeans", unfollowed := true, recurses := true, loops := true, apart := false }
def FnExactMeansSaid : Prop := fnExactMeansRow.holds Try.pinned (OpenSpec.ofChange fnExactMeansSpec)

/-- ITS FALSE NEIGHBOUR: 'it returns false'. Refute it at one input. -/
def fnExactMeansWrong : ChangeSpec := { name := "fnExactMeans", fn := fun _ => fun
  | [d1, d2, d3, d4] => { results := [.lit (.bool false)], args := [d1, d2, d3, d4] }
  | _ => none }
def FnExactMeansWrongFalsely : Prop := fnExactMeansRow.holds Try.pinned (OpenSpec.ofChange fnExactMeansWrong)

/- THE SECOND FORM. 'bulk': how many values and letters a reading holds, each counted each time it is reached (what is shared counts as often as it is met; a slice's spare places count too). A statement '..UptoSaid' is the law's where the arguments, and the package variables that the reading takes, are together of bulk at most 1048576: NARROWER than '..Said'. Prove '..Said' where nothing that the law and all that it calls make is longer than what came in: it says more and counts as full. Else prove '..UptoSaid'. A law counts once. -/
mutual
def uptoBulk {H : Type} : DataW H → Nat
  | .lit (.string bytes) => bytes.length + 1
  | .lit _ => 1
  | .nil => 1
  | .ptr d => uptoBulk d + 1
  | .slice elems spare => uptoBulkAll elems + uptoBulkAll spare + 1
  | .agg parts => uptoBulkAll parts + 1
  | .iface _ d => uptoBulk d + 1
  | .map entries => uptoBulkEntries entries + 1
  | .held _ => 1
def uptoBulkAll {H : Type} : List (DataW H) → Nat
  | [] => 0
  | d :: r => uptoBulk d + uptoBulkAll r
def uptoBulkEntries {H : Type} : List (Lit × DataW H) → Nat
  | [] => 0
  | x :: r => uptoBulkEntry x + uptoBulkEntries r
def uptoBulkEntry {H : Type} : Lit × DataW H → Nat
  | (.string bytes, d) => bytes.length + uptoBulk d + 1
  | (_, d) => uptoBulk d + 1
 end
def uptoSmall : (H : Type) → List (DataW H) → Bool := fun _ ds => decide (uptoBulkAll ds ≤ 1048576)
def OpenSpec.upto (s : _root_.Go.ChangeSpec) : _root_.Go.OpenSpec := { _root_.Go.OpenSpec.ofChange s with cond := some uptoSmall }

/-- 'laws.FnExactMayMatch', WHERE WHAT IT READS IS OF BULK AT MOST 1048576: true; the input reads as it did. -/
def fnExactMayMatchUptoRow : OpenClaim := { program := "ytcboagkbcoihjaa", sum := "444104ea8680f8e4e6cfb4d19f9f9c55629b6071e322b34d033d3e9607b89d85", func := "loop.example/g00461/laws.FnExactMayMatch", spec := "fnExactMayMatch", recurses := true, loops := true, apart := false, narrowed := true }
def FnExactMayMatchUptoSaid : Prop := fnExactMayMatchUptoRow.holds Try.pinned (OpenSpec.upto fnExactMayMatchSpec)

/-- 'laws.FnExactMayUnify', WHERE WHAT IT READS IS OF BULK AT MOST 1048576: true; the input reads as it did. -/
def fnExactMayUnifyUptoRow : OpenClaim := { program := "ytcboagkbcoihjaa", sum := "444104ea8680f8e4e6cfb4d19f9f9c55629b6071e322b34d033d3e9607b89d85", func := "loop.example/g00461/laws.FnExactMayUnify", spec := "fnExactMayUnify", recurses := true, loops := true, apart := false, narrowed := true }
def FnExactMayUnifyUptoSaid : Prop := fnExactMayUnifyUptoRow.holds Try.pinned (OpenSpec.upto fnExactMayUnifySpec)

/-- 'laws.FnExactModelOk', WHERE WHAT IT READS IS OF BULK AT MOST 1048576: true; the input reads as it did. -/
def fnExactModelOkUptoRow : OpenClaim := { program := "ytcboagkbcoihjaa", sum := "444104ea8680f8e4e6cfb4d19f9f9c55629b6071e322b34d033d3e9607b89d85", func := "loop.example/g00461/laws.FnExactModelOk", spec := "fnExactModelOk", unfollowed := true, recurses := true, apart := false, narrowed := true }
def FnExactModelOkUptoSaid : Prop := fnExactModelOkUptoRow.holds Try.pinned (OpenSpec.upto fnExactModelOkSpec)

/-- 'laws.FnExactWorldOk', WHERE WHAT IT READS IS OF BULK AT MOST 1048576: true; the input reads as it did. -/
def fnExactWorldOkUptoRow : OpenClaim := { program := "ytcboagkbcoihjaa", sum := "444104ea8680f8e4e6cfb4d19f9f9c55629b6071e322b34d033d3e9607b89d85", func := "loop.example/g00461/laws.FnExactWorldOk", spec := "fnExactWorldOk", unfollowed := true, recurses := true, apart := false, narrowed := true }
def FnExactWorldOkUptoSaid : Prop := fnExactWorldOkUptoRow.holds Try.pinned (OpenSpec.upto fnExactWorldOkSpec)

/-- 'laws.FnExactNodes', WHERE WHAT IT READS IS OF BULK AT MOST 1048576: true; the input reads as it did. -/
def fnExactNodesUptoRow : OpenClaim := { program := "ytcboagkbcoihjaa", sum := "444104ea8680f8e4e6cfb4d19f9f9c55629b6071e322b34d033d3e9607b89d85", func := "loop.example/g00461/laws.FnExactNodes", spec := "fnExactNodes", unfollowed := true, recurses := true, loops := true, apart := false, narrowed := true }
def FnExactNodesUptoSaid : Prop := fnExactNodesUptoRow.holds Try.pinned (OpenSpec.upto fnExactNodesSpec)

/-- 'laws.FnExactCloseOk', WHERE WHAT IT READS IS OF BULK AT MOST 1048576: true; the input reads as it did. -/
def fnExactCloseOkUptoRow : OpenClaim := { program := "ytcboagkbcoihjaa", sum := "444104ea8680f8e4e6cfb4d19f9f9c55629b6071e322b34d033d3e9607b89d85", func := "loop.example/g00461/laws.FnExactCloseOk", spec := "fnExactCloseOk", unfollowed := true, recurses := true, loops := true, apart := false, narrowed := true }
def FnExactCloseOkUptoSaid : Prop := fnExactCloseOkUptoRow.holds Try.pinned (OpenSpec.upto fnExactCloseOkSpec)

/-- 'laws.FnExactSubworld', WHERE WHAT IT READS IS OF BULK AT MOST 1048576: true; the input reads as it did. -/
def fnExactSubworldUptoRow : OpenClaim := { program := "ytcboagkbcoihjaa", sum := "444104ea8680f8e4e6cfb4d19f9f9c55629b6071e322b34d033d3e9607b89d85", func := "loop.example/g00461/laws.FnExactSubworld", spec := "fnExactSubworld", unfollowed := true, recurses := true, apart := false, narrowed := true }
def FnExactSubworldUptoSaid : Prop := fnExactSubworldUptoRow.holds Try.pinned (OpenSpec.upto fnExactSubworldSpec)

/-- 'laws.FnExactProduct', WHERE WHAT IT READS IS OF BULK AT MOST 1048576: true; the input reads as it did. -/
def fnExactProductUptoRow : OpenClaim := { program := "ytcboagkbcoihjaa", sum := "444104ea8680f8e4e6cfb4d19f9f9c55629b6071e322b34d033d3e9607b89d85", func := "loop.example/g00461/laws.FnExactProduct", spec := "fnExactProduct", unfollowed := true, recurses := true, apart := false, narrowed := true }
def FnExactProductUptoSaid : Prop := fnExactProductUptoRow.holds Try.pinned (OpenSpec.upto fnExactProductSpec)

/-- 'laws.FnExactRenamed', WHERE WHAT IT READS IS OF BULK AT MOST 1048576: true; the input reads as it did. -/
def fnExactRenamedUptoRow : OpenClaim := { program := "ytcboagkbcoihjaa", sum := "444104ea8680f8e4e6cfb4d19f9f9c55629b6071e322b34d033d3e9607b89d85", func := "loop.example/g00461/laws.FnExactRenamed", spec := "fnExactRenamed", unfollowed := true, recurses := true, apart := false, narrowed := true }
def FnExactRenamedUptoSaid : Prop := fnExactRenamedUptoRow.holds Try.pinned (OpenSpec.upto fnExactRenamedSpec)

/-- 'laws.FnProducts', WHERE WHAT IT READS IS OF BULK AT MOST 1048576: true; the input reads as it did. -/
def fnProductsUptoRow : OpenClaim := { program := "ytcboagkbcoihjaa", sum := "444104ea8680f8e4e6cfb4d19f9f9c55629b6071e322b34d033d3e9607b89d85", func := "loop.example/g00461/laws.FnProducts", spec := "fnProducts", unfollowed := true, recurses := true, apart := false, narrowed := true }
def FnProductsUptoSaid : Prop := fnProductsUptoRow.holds Try.pinned (OpenSpec.upto fnProductsSpec)

/-- 'laws.FnExactValue', WHERE WHAT IT READS IS OF BULK AT MOST 1048576: true; the input reads as it did. -/
def fnExactValueUptoRow : OpenClaim := { program := "ytcboagkbcoihjaa", sum := "444104ea8680f8e4e6cfb4d19f9f9c55629b6071e322b34d033d3e9607b89d85", func := "loop.example/g00461/laws.FnExactValue", spec := "fnExactValue", unfollowed := true, recurses := true, loops := true, apart := false, narrowed := true }
def FnExactValueUptoSaid : Prop := fnExactValueUptoRow.holds Try.pinned (OpenSpec.upto fnExactValueSpec)

/-- 'laws.FnExactMeans', WHERE WHAT IT READS IS OF BULK AT MOST 1048576: true; the input reads as it did. -/
def fnExactMeansUptoRow : OpenClaim := { program := "ytcboagkbcoihjaa", sum := "444104ea8680f8e4e6cfb4d19f9f9c55629b6071e322b34d033d3e9607b89d85", func := "loop.example/g00461/laws.FnExactMeans", spec := "fnExactMeans", unfollowed := true, recurses := true, loops := true, apart := false, narrowed := true }
def FnExactMeansUptoSaid : Prop := fnExactMeansUptoRow.holds Try.pinned (OpenSpec.upto fnExactMeansSpec)

end Rows
end Go.Proofs.Ytcboagkbcoihjaa
