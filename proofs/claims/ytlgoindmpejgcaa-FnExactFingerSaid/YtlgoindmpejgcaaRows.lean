/-
  NARROWER THAN 'FOR EVERY INPUT', by the rows' own cells (each row's printed sentence says how): FnExactUnit: loops · FnExactSigns: loops · FnExactHorn: loops · FnExactWidest: loops · FnExactFinger: loops · FnExactWeightOf: loops.
  DERIVED. THE GIVEN ROWS OF THIS SEAT. 12 by the template 'for every input the law returns true; each argument reads behind the call as it read before'; 0 by the template 'total and deterministic' (their statements: YtlgoindmpejgcaaTotals.lean).
  GIVEN WITH THE SEED: the statements are not yours to turn. If you find one false, say at which input.
  Laid BY PROGRAM, IN A SANDBOX (cutbox-rows.mjs): the forced cells as the released guide's own fill.sh prints them over the translation d8e1447f9d7bfe49… (all of the seat's roots in one cut). By AI agents, Wed Nov 11 2026. No macro, syntax, notation, axiom, sorry.
-/
import Derived.Test.YtlgoindmpejgcaaChecked
import GoSem.Claim
import GoSem.ClaimJoined
import GoSem.ClaimMapViews
import Derived.JoinedTies
import Derived.KernelRfl
namespace Go.Proofs.Ytlgoindmpejgcaa
/- THE CELL 'sum', in the pinned program and in every row, IS THE sha256 OF THE DUMP (.gsa) THAT YtlgoindmpejgcaaProg.lean LOADS. Nothing in Lean hashes anything: it is a label: what it is worth is what the hold of that sum in a sandbox is worth. -/
noncomputable def Try.pinned : Pinned := { name := "ytlgoindmpejgcaa", sum := "d8e1447f9d7bfe49f26c99133c9e69638936d79e0e259fae0f7cdb8da4d11fa6", checked := Try.checked }
namespace Rows
def none {H : Type} : Left H := { results := [], args := [] }

/-- 'laws.FnExactJobBefore': WHATEVER THE INPUT: true; the input reads as it did. -/
def fnExactJobBeforeSpec : ChangeSpec := { name := "fnExactJobBefore", fn := fun _ => fun
  | [d1, d2] => { results := [.lit (.bool true)], args := [d1, d2] }
  | _ => none }
def fnExactJobBeforeRow : OpenClaim := { program := "ytlgoindmpejgcaa", sum := "d8e1447f9d7bfe49f26c99133c9e69638936d79e0e259fae0f7cdb8da4d11fa6", func := "loop.example/g00461/laws.FnExactJobBefore", spec := "fnExactJobBefore", apart := false }
def FnExactJobBeforeSaid : Prop := fnExactJobBeforeRow.holds Try.pinned (OpenSpec.ofChange fnExactJobBeforeSpec)

/-- ITS FALSE NEIGHBOUR: 'it returns false'. Refute it at one input. -/
def fnExactJobBeforeWrong : ChangeSpec := { name := "fnExactJobBefore", fn := fun _ => fun
  | [d1, d2] => { results := [.lit (.bool false)], args := [d1, d2] }
  | _ => none }
def FnExactJobBeforeWrongFalsely : Prop := fnExactJobBeforeRow.holds Try.pinned (OpenSpec.ofChange fnExactJobBeforeWrong)

/-- 'laws.FnExactQueueOk': WHATEVER THE INPUT: true; the input reads as it did. -/
def fnExactQueueOkSpec : ChangeSpec := { name := "fnExactQueueOk", fn := fun _ => fun
  | [d] => { results := [.lit (.bool true)], args := [d] }
  | _ => none }
def fnExactQueueOkRow : OpenClaim := { program := "ytlgoindmpejgcaa", sum := "d8e1447f9d7bfe49f26c99133c9e69638936d79e0e259fae0f7cdb8da4d11fa6", func := "loop.example/g00461/laws.FnExactQueueOk", spec := "fnExactQueueOk", apart := false }
def FnExactQueueOkSaid : Prop := fnExactQueueOkRow.holds Try.pinned (OpenSpec.ofChange fnExactQueueOkSpec)

/-- ITS FALSE NEIGHBOUR: 'it returns false'. Refute it at one input. -/
def fnExactQueueOkWrong : ChangeSpec := { name := "fnExactQueueOk", fn := fun _ => fun
  | [d] => { results := [.lit (.bool false)], args := [d] }
  | _ => none }
def FnExactQueueOkWrongFalsely : Prop := fnExactQueueOkRow.holds Try.pinned (OpenSpec.ofChange fnExactQueueOkWrong)

/-- 'laws.FnLeastFirst': WHATEVER THE INPUT: true; the input reads as it did. -/
def fnLeastFirstSpec : ChangeSpec := { name := "fnLeastFirst", fn := fun _ => fun
  | [d] => { results := [.lit (.bool true)], args := [d] }
  | _ => none }
def fnLeastFirstRow : OpenClaim := { program := "ytlgoindmpejgcaa", sum := "d8e1447f9d7bfe49f26c99133c9e69638936d79e0e259fae0f7cdb8da4d11fa6", func := "loop.example/g00461/laws.FnLeastFirst", spec := "fnLeastFirst", apart := false }
def FnLeastFirstSaid : Prop := fnLeastFirstRow.holds Try.pinned (OpenSpec.ofChange fnLeastFirstSpec)

/-- ITS FALSE NEIGHBOUR: 'it returns false'. Refute it at one input. -/
def fnLeastFirstWrong : ChangeSpec := { name := "fnLeastFirst", fn := fun _ => fun
  | [d] => { results := [.lit (.bool false)], args := [d] }
  | _ => none }
def FnLeastFirstWrongFalsely : Prop := fnLeastFirstRow.holds Try.pinned (OpenSpec.ofChange fnLeastFirstWrong)

/-- 'laws.FnExactQueuePut': WHATEVER THE INPUT: true; the input reads as it did. -/
def fnExactQueuePutSpec : ChangeSpec := { name := "fnExactQueuePut", fn := fun _ => fun
  | [d1, d2] => { results := [.lit (.bool true)], args := [d1, d2] }
  | _ => none }
def fnExactQueuePutRow : OpenClaim := { program := "ytlgoindmpejgcaa", sum := "d8e1447f9d7bfe49f26c99133c9e69638936d79e0e259fae0f7cdb8da4d11fa6", func := "loop.example/g00461/laws.FnExactQueuePut", spec := "fnExactQueuePut", apart := false }
def FnExactQueuePutSaid : Prop := fnExactQueuePutRow.holds Try.pinned (OpenSpec.ofChange fnExactQueuePutSpec)

/-- ITS FALSE NEIGHBOUR: 'it returns false'. Refute it at one input. -/
def fnExactQueuePutWrong : ChangeSpec := { name := "fnExactQueuePut", fn := fun _ => fun
  | [d1, d2] => { results := [.lit (.bool false)], args := [d1, d2] }
  | _ => none }
def FnExactQueuePutWrongFalsely : Prop := fnExactQueuePutRow.holds Try.pinned (OpenSpec.ofChange fnExactQueuePutWrong)

/-- 'laws.FnExactUnit': WHATEVER THE INPUT: true; the input reads as it did. -/
def fnExactUnitSpec : ChangeSpec := { name := "fnExactUnit", fn := fun _ => fun
  | [d] => { results := [.lit (.bool true)], args := [d] }
  | _ => none }
def fnExactUnitRow : OpenClaim := { program := "ytlgoindmpejgcaa", sum := "d8e1447f9d7bfe49f26c99133c9e69638936d79e0e259fae0f7cdb8da4d11fa6", func := "loop.example/g00461/laws.FnExactUnit", spec := "fnExactUnit", recurses := true, loops := true, apart := false }
def FnExactUnitSaid : Prop := fnExactUnitRow.holds Try.pinned (OpenSpec.ofChange fnExactUnitSpec)

/-- ITS FALSE NEIGHBOUR: 'it returns false'. Refute it at one input. -/
def fnExactUnitWrong : ChangeSpec := { name := "fnExactUnit", fn := fun _ => fun
  | [d] => { results := [.lit (.bool false)], args := [d] }
  | _ => none }
def FnExactUnitWrongFalsely : Prop := fnExactUnitRow.holds Try.pinned (OpenSpec.ofChange fnExactUnitWrong)

/-- 'laws.FnExactQueueTake': WHATEVER THE INPUT: true; the input reads as it did. -/
def fnExactQueueTakeSpec : ChangeSpec := { name := "fnExactQueueTake", fn := fun _ => fun
  | [d] => { results := [.lit (.bool true)], args := [d] }
  | _ => none }
def fnExactQueueTakeRow : OpenClaim := { program := "ytlgoindmpejgcaa", sum := "d8e1447f9d7bfe49f26c99133c9e69638936d79e0e259fae0f7cdb8da4d11fa6", func := "loop.example/g00461/laws.FnExactQueueTake", spec := "fnExactQueueTake", apart := false }
def FnExactQueueTakeSaid : Prop := fnExactQueueTakeRow.holds Try.pinned (OpenSpec.ofChange fnExactQueueTakeSpec)

/-- ITS FALSE NEIGHBOUR: 'it returns false'. Refute it at one input. -/
def fnExactQueueTakeWrong : ChangeSpec := { name := "fnExactQueueTake", fn := fun _ => fun
  | [d] => { results := [.lit (.bool false)], args := [d] }
  | _ => none }
def FnExactQueueTakeWrongFalsely : Prop := fnExactQueueTakeRow.holds Try.pinned (OpenSpec.ofChange fnExactQueueTakeWrong)

/-- 'laws.FnExactWorldOf': WHATEVER THE INPUT: true; the input reads as it did. -/
def fnExactWorldOfSpec : ChangeSpec := { name := "fnExactWorldOf", fn := fun _ => fun
  | [d] => { results := [.lit (.bool true)], args := [d] }
  | _ => none }
def fnExactWorldOfRow : OpenClaim := { program := "ytlgoindmpejgcaa", sum := "d8e1447f9d7bfe49f26c99133c9e69638936d79e0e259fae0f7cdb8da4d11fa6", func := "loop.example/g00461/laws.FnExactWorldOf", spec := "fnExactWorldOf", apart := false }
def FnExactWorldOfSaid : Prop := fnExactWorldOfRow.holds Try.pinned (OpenSpec.ofChange fnExactWorldOfSpec)

/-- ITS FALSE NEIGHBOUR: 'it returns false'. Refute it at one input. -/
def fnExactWorldOfWrong : ChangeSpec := { name := "fnExactWorldOf", fn := fun _ => fun
  | [d] => { results := [.lit (.bool false)], args := [d] }
  | _ => none }
def FnExactWorldOfWrongFalsely : Prop := fnExactWorldOfRow.holds Try.pinned (OpenSpec.ofChange fnExactWorldOfWrong)

/-- 'laws.FnExactSigns': WHATEVER THE INPUT: true; the input reads as it did. -/
def fnExactSignsSpec : ChangeSpec := { name := "fnExactSigns", fn := fun _ => fun
  | [d] => { results := [.lit (.bool true)], args := [d] }
  | _ => none }
def fnExactSignsRow : OpenClaim := { program := "ytlgoindmpejgcaa", sum := "d8e1447f9d7bfe49f26c99133c9e69638936d79e0e259fae0f7cdb8da4d11fa6", func := "loop.example/g00461/laws.FnExactSigns", spec := "fnExactSigns", recurses := true, loops := true, apart := false }
def FnExactSignsSaid : Prop := fnExactSignsRow.holds Try.pinned (OpenSpec.ofChange fnExactSignsSpec)

/-- ITS FALSE NEIGHBOUR: 'it returns false'. Refute it at one input. -/
def fnExactSignsWrong : ChangeSpec := { name := "fnExactSigns", fn := fun _ => fun
  | [d] => { results := [.lit (.bool false)], args := [d] }
  | _ => none }
def FnExactSignsWrongFalsely : Prop := fnExactSignsRow.holds Try.pinned (OpenSpec.ofChange fnExactSignsWrong)

/-- 'laws.FnExactHorn': WHATEVER THE INPUT: true; the input reads as it did. -/
def fnExactHornSpec : ChangeSpec := { name := "fnExactHorn", fn := fun _ => fun
  | [d] => { results := [.lit (.bool true)], args := [d] }
  | _ => none }
def fnExactHornRow : OpenClaim := { program := "ytlgoindmpejgcaa", sum := "d8e1447f9d7bfe49f26c99133c9e69638936d79e0e259fae0f7cdb8da4d11fa6", func := "loop.example/g00461/laws.FnExactHorn", spec := "fnExactHorn", recurses := true, loops := true, apart := false }
def FnExactHornSaid : Prop := fnExactHornRow.holds Try.pinned (OpenSpec.ofChange fnExactHornSpec)

/-- ITS FALSE NEIGHBOUR: 'it returns false'. Refute it at one input. -/
def fnExactHornWrong : ChangeSpec := { name := "fnExactHorn", fn := fun _ => fun
  | [d] => { results := [.lit (.bool false)], args := [d] }
  | _ => none }
def FnExactHornWrongFalsely : Prop := fnExactHornRow.holds Try.pinned (OpenSpec.ofChange fnExactHornWrong)

/-- 'laws.FnExactWidest': WHATEVER THE INPUT: true; the input reads as it did. -/
def fnExactWidestSpec : ChangeSpec := { name := "fnExactWidest", fn := fun _ => fun
  | [d] => { results := [.lit (.bool true)], args := [d] }
  | _ => none }
def fnExactWidestRow : OpenClaim := { program := "ytlgoindmpejgcaa", sum := "d8e1447f9d7bfe49f26c99133c9e69638936d79e0e259fae0f7cdb8da4d11fa6", func := "loop.example/g00461/laws.FnExactWidest", spec := "fnExactWidest", recurses := true, loops := true, apart := false }
def FnExactWidestSaid : Prop := fnExactWidestRow.holds Try.pinned (OpenSpec.ofChange fnExactWidestSpec)

/-- ITS FALSE NEIGHBOUR: 'it returns false'. Refute it at one input. -/
def fnExactWidestWrong : ChangeSpec := { name := "fnExactWidest", fn := fun _ => fun
  | [d] => { results := [.lit (.bool false)], args := [d] }
  | _ => none }
def FnExactWidestWrongFalsely : Prop := fnExactWidestRow.holds Try.pinned (OpenSpec.ofChange fnExactWidestWrong)

/-- 'laws.FnExactFinger': WHATEVER THE INPUT: true; the input reads as it did. -/
def fnExactFingerSpec : ChangeSpec := { name := "fnExactFinger", fn := fun _ => fun
  | [d1, d2] => { results := [.lit (.bool true)], args := [d1, d2] }
  | _ => none }
def fnExactFingerRow : OpenClaim := { program := "ytlgoindmpejgcaa", sum := "d8e1447f9d7bfe49f26c99133c9e69638936d79e0e259fae0f7cdb8da4d11fa6", func := "loop.example/g00461/laws.FnExactFinger", spec := "fnExactFinger", recurses := true, loops := true, apart := false }
def FnExactFingerSaid : Prop := fnExactFingerRow.holds Try.pinned (OpenSpec.ofChange fnExactFingerSpec)

/-- ITS FALSE NEIGHBOUR: 'it returns false'. Refute it at one input. -/
def fnExactFingerWrong : ChangeSpec := { name := "fnExactFinger", fn := fun _ => fun
  | [d1, d2] => { results := [.lit (.bool false)], args := [d1, d2] }
  | _ => none }
def FnExactFingerWrongFalsely : Prop := fnExactFingerRow.holds Try.pinned (OpenSpec.ofChange fnExactFingerWrong)

/-- 'laws.FnExactWeightOf': WHATEVER THE INPUT: true; the input reads as it did. -/
def fnExactWeightOfSpec : ChangeSpec := { name := "fnExactWeightOf", fn := fun _ => fun
  | [d1, d2] => { results := [.lit (.bool true)], args := [d1, d2] }
  | _ => none }
def fnExactWeightOfRow : OpenClaim := { program := "ytlgoindmpejgcaa", sum := "d8e1447f9d7bfe49f26c99133c9e69638936d79e0e259fae0f7cdb8da4d11fa6", func := "loop.example/g00461/laws.FnExactWeightOf", spec := "fnExactWeightOf", recurses := true, loops := true, apart := false }
def FnExactWeightOfSaid : Prop := fnExactWeightOfRow.holds Try.pinned (OpenSpec.ofChange fnExactWeightOfSpec)

/-- ITS FALSE NEIGHBOUR: 'it returns false'. Refute it at one input. -/
def fnExactWeightOfWrong : ChangeSpec := { name := "fnExactWeightOf", fn := fun _ => fun
  | [d1, d2] => { results := [.lit (.bool false)], args := [d1, d2] }
  | _ => none }
def FnExactWeightOfWrongFalsely : Prop := fnExactWeightOfRow.holds Try.pinned (OpenSpec.ofChange fnExactWeightOfWrong)

/- THE SECOND FORM. 'bulk': how many values and letters a reading holds, each counted each time it is reached (what is shared counts as often as it is met; a slice's spare places count too). A statement '..UptoSaid' is the law's where the arguments, and the package variables that the reading takes, are together of bulk at most 1048576: NARROWER than '..Said'. Prove '..Said' where nothing that the law and all that it calls make is longer than what came in: it says more and counts as full. Else prove '..UptoSaid'. A law counts once. -/
mutual
def uptoBulk {H : Type} : DataW H → Nat
  | .lit (.string bytes) => bytes.length + 1
  | .lit _ => 1
  | .nil => 1
  | .ptr d => uptoBulk d + 1
  | .slice elems spare => uptoBulkAll elems + uptoBulkAll spare + 1
  | .agg parts => uptoBulkAll parts + 1
  | .iface _ d => uptoBulk d + 1
  | .map entries => uptoBulkEntries entries + 1
  | .held _ => 1
def uptoBulkAll {H : Type} : List (DataW H) → Nat
  | [] => 0
  | d :: r => uptoBulk d + uptoBulkAll r
def uptoBulkEntries {H : Type} : List (Lit × DataW H) → Nat
  | [] => 0
  | x :: r => uptoBulkEntry x + uptoBulkEntries r
def uptoBulkEntry {H : Type} : Lit × DataW H → Nat
  | (.string bytes, d) => bytes.length + uptoBulk d + 1
  | (_, d) => uptoBulk d + 1
 end
def uptoSmall : (H : Type) → List (DataW H) → Bool := fun _ ds => decide (uptoBulkAll ds ≤ 1048576)
def OpenSpec.upto (s : _root_.Go.ChangeSpec) : _root_.Go.OpenSpec := { _root_.Go.OpenSpec.ofChange s with cond := some uptoSmall }

/-- 'laws.FnExactJobBefore', WHERE WHAT IT READS IS OF BULK AT MOST 1048576: true; the input reads as it did. -/
def fnExactJobBeforeUptoRow : OpenClaim := { program := "ytlgoindmpejgcaa", sum := "d8e1447f9d7bfe49f26c99133c9e69638936d79e0e259fae0f7cdb8da4d11fa6", func := "loop.example/g00461/laws.FnExactJobBefore", spec := "fnExactJobBefore", apart := false, narrowed := true }
def FnExactJobBeforeUptoSaid : Prop := fnExactJobBeforeUptoRow.holds Try.pinned (OpenSpec.upto fnExactJobBeforeSpec)

/-- 'laws.FnExactQueueOk', WHERE WHAT IT READS IS OF BULK AT MOST 1048576: true; the input reads as it did. -/
def fnExactQueueOkUptoRow : OpenClaim := { program := "ytlgoindmpejgcaa", sum := "d8e1447f9d7bfe49f26c99133c9e69638936d79e0e259fae0f7cdb8da4d11fa6", func := "loop.example/g00461/laws.FnExactQueueOk", spec := "fnExactQueueOk", apart := false, narrowed := true }
def FnExactQueueOkUptoSaid : Prop := fnExactQueueOkUptoRow.holds Try.pinned (OpenSpec.upto fnExactQueueOkSpec)

/-- 'laws.FnLeastFirst', WHERE WHAT IT READS IS OF BULK AT MOST 1048576: true; the input reads as it did. -/
def fnLeastFirstUptoRow : OpenClaim := { program := "ytlgoindmpejgcaa", sum := "d8e1447f9d7bfe49f26c99133c9e69638936d79e0e259fae0f7cdb8da4d11fa6", func := "loop.example/g00461/laws.FnLeastFirst", spec := "fnLeastFirst", apart := false, narrowed := true }
def FnLeastFirstUptoSaid : Prop := fnLeastFirstUptoRow.holds Try.pinned (OpenSpec.upto fnLeastFirstSpec)

/-- 'laws.FnExactQueuePut', WHERE WHAT IT READS IS OF BULK AT MOST 1048576: true; the input reads as it did. -/
def fnExactQueuePutUptoRow : OpenClaim := { program := "ytlgoindmpejgcaa", sum := "d8e1447f9d7bfe49f26c99133c9e69638936d79e0e259fae0f7cdb8da4d11fa6", func := "loop.example/g00461/laws.FnExactQueuePut", spec := "fnExactQueuePut", apart := false, narrowed := true }
def FnExactQueuePutUptoSaid : Prop := fnExactQueuePutUptoRow.holds Try.pinned (OpenSpec.upto fnExactQueuePutSpec)

/-- 'laws.FnExactUnit', WHERE WHAT IT READS IS OF BULK AT MOST 1048576: true; the input reads as it did. -/
def fnExactUnitUptoRow : OpenClaim := { program := "ytlgoindmpejgcaa", sum := "d8e1447f9d7bfe49f26c99133c9e69638936d79e0e259fae0f7cdb8da4d11fa6", func := "loop.example/g00461/laws.FnExactUnit", spec := "fnExactUnit", recurses := true, loops := true, apart := false, narrowed := true }
def FnExactUnitUptoSaid : Prop := fnExactUnitUptoRow.holds Try.pinned (OpenSpec.upto fnExactUnitSpec)

/-- 'laws.FnExactQueueTake', WHERE WHAT IT READS IS OF BULK AT MOST 1048576: true; the input reads as it did. -/
def fnExactQueueTakeUptoRow : OpenClaim := { program := "ytlgoindmpejgcaa", sum := "d8e1447f9d7bfe49f26c99133c9e69638936d79e0e259fae0f7cdb8da4d11fa6", func := "loop.example/g00461/laws.FnExactQueueTake", spec := "fnExactQueueTake", apart := false, narrowed := true }
def FnExactQueueTakeUptoSaid : Prop := fnExactQueueTakeUptoRow.holds Try.pinned (OpenSpec.upto fnExactQueueTakeSpec)

/-- 'laws.FnExactWorldOf', WHERE WHAT IT READS IS OF BULK AT MOST 1048576: true; the input reads as it did. -/
def fnExactWorldOfUptoRow : OpenClaim := { program := "ytlgoindmpejgcaa", sum := "d8e1447f9d7bfe49f26c99133c9e69638936d79e0e259fae0f7cdb8da4d11fa6", func := "loop.example/g00461/laws.FnExactWorldOf", spec := "fnExactWorldOf", apart := false, narrowed := true }
def FnExactWorldOfUptoSaid : Prop := fnExactWorldOfUptoRow.holds Try.pinned (OpenSpec.upto fnExactWorldOfSpec)

/-- 'laws.FnExactSigns', WHERE WHAT IT READS IS OF BULK AT MOST 1048576: true; the input reads as it did. -/
def fnExactSignsUptoRow : OpenClaim := { program := "ytlgoindmpejgcaa", sum := "d8e1447f9d7bfe49f26c99133c9e69638936d79e0e259fae0f7cdb8da4d11fa6", func := "loop.example/g00461/laws.FnExactSigns", spec := "fnExactSigns", recurses := true, loops := true, apart := false, narrowed := true }
def FnExactSignsUptoSaid : Prop := fnExactSignsUptoRow.holds Try.pinned (OpenSpec.upto fnExactSignsSpec)

/-- 'laws.FnExactHorn', WHERE WHAT IT READS IS OF BULK AT MOST 1048576: true; the input reads as it did. -/
def fnExactHornUptoRow : OpenClaim := { program := "ytlgoindmpejgcaa", sum := "d8e1447f9d7bfe49f26c99133c9e69638936d79e0e259fae0f7cdb8da4d11fa6", func := "loop.example/g00461/laws.FnExactHorn", spec := "fnExactHorn", recurses := true, loops := true, apart := false, narrowed := true }
def FnExactHornUptoSaid : Prop := fnExactHornUptoRow.holds Try.pinned (OpenSpec.upto fnExactHornSpec)

/-- 'laws.FnExactWidest', WHERE WHAT IT READS IS OF BULK AT MOST 1048576: true; the input reads as it did. -/
def fnExactWidestUptoRow : OpenClaim := { program := "ytlgoindmpejgcaa", sum := "d8e1447f9d7bfe49f26c99133c9e69638936d79e0e259fae0f7cdb8da4d11fa6", func := "loop.example/g00461/laws.FnExactWidest", spec := "fnExactWidest", recurses := true, loops := true, apart := false, narrowed := true }
def FnExactWidestUptoSaid : Prop := fnExactWidestUptoRow.holds Try.pinned (OpenSpec.upto fnExactWidestSpec)

/-- 'laws.FnExactFinger', WHERE WHAT IT READS IS OF BULK AT MOST 1048576: true; the input reads as it did. -/
def fnExactFingerUptoRow : OpenClaim := { program := "ytlgoindmpejgcaa", sum := "d8e1447f9d7bfe49f26c99133c9e69638936d79e0e259fae0f7cdb8da4d11fa6", func := "loop.example/g00461/laws.FnExactFinger", spec := "fnExactFinger", recurses := true, loops := true, apart := false, narrowed := true }
def FnExactFingerUptoSaid : Prop := fnExactFingerUptoRow.holds Try.pinned (OpenSpec.upto fnExactFingerSpec)

/-- 'laws.FnExactWeightOf', WHERE WHAT IT READS IS OF BULK AT MOST 1048576: true; the input reads as it did. -/
def fnExactWeightOfUptoRow : OpenClaim := { program := "ytlgoindmpejgcaa", sum := "d8e1447f9d7bfe49f26c99133c9e69638936d79e0e259fae0f7cdb8da4d11fa6", func := "loop.example/g00461/laws.FnExactWeightOf", spec := "fnExactWeightOf", recurses := true, loops := true, apart := false, narrowed := true }
def FnExactWeightOfUptoSaid : Prop := fnExactWeightOfUptoRow.holds Try.pinned (OpenSpec.upto fnExactWeightOfSpec)

end Rows
end Go.Proofs.Ytlgoindmpejgcaa
