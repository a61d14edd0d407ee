/-
  NARROWER THAN 'FOR EVERY INPUT', by the rows' own cells (each row's printed sentence says how): FnExactVfsWalk: laid · FnVfsPath: laid · FnExactVfsParent: laid · FnVfsWalk: laid · FnWalkUp: laid · FnWalkZero: laid · FnVfsParent: laid.
  DERIVED. THE GIVEN ROWS OF THIS SEAT. 7 by the template 'for every input the law returns true; each argument reads behind the call as it read before'; 0 by the template 'total and deterministic' (their statements: YtlnlhpgghkkhaaaGreatDoorTotals.lean).
  GIVEN WITH THE SEED: the statements are not yours to turn. If you find one false, say at which input.
  Laid BY PROGRAM, IN A SANDBOX (cutbox-rows.mjs): the forced cells as the released guide's own fill.sh prints them over the translation 27a607f1207d3441… (all of the seat's roots in one cut). By AI agents, Wed Nov 11 2026. No macro, syntax, notation, axiom, sorry.
-/
import Derived.Test.YtlnlhpgghkkhaaaGreatDoorChecked
import GoSem.PinnedTables
import GoSem.Claim
import GoSem.ClaimJoined
import GoSem.ClaimMapViews
import Derived.JoinedTies
import Derived.KernelRfl
namespace Go.Proofs.YtlnlhpgghkkhaaaGreatDoor
/- THE CELL 'sum', in the pinned program and in every row, IS THE sha256 OF THE DUMP (.gsa) THAT YtlnlhpgghkkhaaaGreatDoorProg.lean LOADS. Nothing in Lean hashes anything: it is a label: what it is worth is what the hold of that sum in a sandbox is worth. -/
noncomputable def Tryz.pinned : Pinned := { name := "ytlnlhpgghkkhaaagreatdoor", sum := "27a607f1207d34419876ec50744fda5c01ccb259a6105e6db6c4425fd5923b7e", checked := Tryz.checked }
namespace Rows
def none {H : Type} : Left H := { results := [], args := [] }

/- WHAT THE LISTED PACKAGE-LEVEL VARIABLES READ AS WHEN THE CALL BEGINS. Each datum BY PROGRAM (the guide's laid-datum.mjs) off the statement by which the dump's own 'gosem.cut.vars' lays the variable. In a bare row this is a premise. The card (YtlnlhpgghkkhaaaGreatDoorCards.lean) ties it to the program's text. -/
def laid_unicode_utf8_acceptRanges {H : Type} : DataW H := .agg [.agg [.lit (.int .u8 128), .lit (.int .u8 191)], .agg [.lit (.int .u8 160), .lit (.int .u8 191)], .agg [.lit (.int .u8 128), .lit (.int .u8 159)], .agg [.lit (.int .u8 144), .lit (.int .u8 191)], .agg [.lit (.int .u8 128), .lit (.int .u8 143)], .agg [.lit (.int .u8 0), .lit (.int .u8 0)], .agg [.lit (.int .u8 0), .lit (.int .u8 0)], .agg [.lit (.int .u8 0), .lit (.int .u8 0)], .agg [.lit (.int .u8 0), .lit (.int .u8 0)], .agg [.lit (.int .u8 0), .lit (.int .u8 0)], .agg [.lit (.int .u8 0), .lit (.int .u8 0)], .agg [.lit (.int .u8 0), .lit (.int .u8 0)], .agg [.lit (.int .u8 0), .lit (.int .u8 0)], .agg [.lit (.int .u8 0), .lit (.int .u8 0)], .agg [.lit (.int .u8 0), .lit (.int .u8 0)], .agg [.lit (.int .u8 0), .lit (.int .u8 0)]]
/-- One of Go's own tables, pinned by name: the form's constant. -/
def laid_unicode_utf8_first : DataW Unit := Go.Pinned.utf8First

/-- 'laws.FnExactVfsWalk': WHATEVER THE INPUT: true; the input reads as it did. -/
def fnExactVfsWalkSpec : ChangeSpec := { name := "fnExactVfsWalk", fn := fun _ => fun
  | [d1, d2, d3, d4] => { results := [.lit (.bool true)], args := [d1, d2, d3, d4] }
  | _ => none }
def fnExactVfsWalkRow : OpenClaim := { program := "ytlnlhpgghkkhaaagreatdoor", sum := "27a607f1207d34419876ec50744fda5c01ccb259a6105e6db6c4425fd5923b7e", func := "loop.example/quarterdeck/laws.FnExactVfsWalk", spec := "fnExactVfsWalk", inPlace := ["internal/bytealg.CountString", "internal/bytealg.IndexByteString", "internal/bytealg.IndexString", "internal/bytealg.abigen_runtime_cmpstring"], unfollowed := true, recurses := true, named := ["unicode/utf8.first", "unicode/utf8.acceptRanges", "internal/bytealg.MaxLen"], apart := false, laid := [("unicode/utf8.acceptRanges", laid_unicode_utf8_acceptRanges), ("unicode/utf8.first", laid_unicode_utf8_first)] }
def FnExactVfsWalkSaid : Prop := fnExactVfsWalkRow.holds Tryz.pinned (OpenSpec.ofChange fnExactVfsWalkSpec)

/-- ITS FALSE NEIGHBOUR: 'it returns false'. Refute it at one input. -/
def fnExactVfsWalkWrong : ChangeSpec := { name := "fnExactVfsWalk", fn := fun _ => fun
  | [d1, d2, d3, d4] => { results := [.lit (.bool false)], args := [d1, d2, d3, d4] }
  | _ => none }
def FnExactVfsWalkWrongFalsely : Prop := fnExactVfsWalkRow.holds Tryz.pinned (OpenSpec.ofChange fnExactVfsWalkWrong)

/-- 'laws.FnVfsPath': WHATEVER THE INPUT: true; the input reads as it did. -/
def fnVfsPathSpec : ChangeSpec := { name := "fnVfsPath", fn := fun _ => fun
  | [d] => { results := [.lit (.bool true)], args := [d] }
  | _ => none }
def fnVfsPathRow : OpenClaim := { program := "ytlnlhpgghkkhaaagreatdoor", sum := "27a607f1207d34419876ec50744fda5c01ccb259a6105e6db6c4425fd5923b7e", func := "loop.example/quarterdeck/laws.FnVfsPath", spec := "fnVfsPath", inPlace := ["internal/bytealg.CountString", "internal/bytealg.IndexByteString", "internal/bytealg.IndexString", "internal/bytealg.abigen_runtime_cmpstring"], unfollowed := true, recurses := true, named := ["unicode/utf8.first", "unicode/utf8.acceptRanges", "internal/bytealg.MaxLen"], apart := false, laid := [("unicode/utf8.acceptRanges", laid_unicode_utf8_acceptRanges), ("unicode/utf8.first", laid_unicode_utf8_first)] }
def FnVfsPathSaid : Prop := fnVfsPathRow.holds Tryz.pinned (OpenSpec.ofChange fnVfsPathSpec)

/-- ITS FALSE NEIGHBOUR: 'it returns false'. Refute it at one input. -/
def fnVfsPathWrong : ChangeSpec := { name := "fnVfsPath", fn := fun _ => fun
  | [d] => { results := [.lit (.bool false)], args := [d] }
  | _ => none }
def FnVfsPathWrongFalsely : Prop := fnVfsPathRow.holds Tryz.pinned (OpenSpec.ofChange fnVfsPathWrong)

/-- 'laws.FnExactVfsParent': WHATEVER THE INPUT: true; the input reads as it did. -/
def fnExactVfsParentSpec : ChangeSpec := { name := "fnExactVfsParent", fn := fun _ => fun
  | [d1, d2, d3, d4] => { results := [.lit (.bool true)], args := [d1, d2, d3, d4] }
  | _ => none }
def fnExactVfsParentRow : OpenClaim := { program := "ytlnlhpgghkkhaaagreatdoor", sum := "27a607f1207d34419876ec50744fda5c01ccb259a6105e6db6c4425fd5923b7e", func := "loop.example/quarterdeck/laws.FnExactVfsParent", spec := "fnExactVfsParent", inPlace := ["internal/bytealg.CountString", "internal/bytealg.IndexByteString", "internal/bytealg.IndexString", "internal/bytealg.abigen_runtime_cmpstring"], unfollowed := true, recurses := true, named := ["unicode/utf8.first", "unicode/utf8.acceptRanges", "internal/bytealg.MaxLen"], apart := false, laid := [("unicode/utf8.acceptRanges", laid_unicode_utf8_acceptRanges), ("unicode/utf8.first", laid_unicode_utf8_first)] }
def FnExactVfsParentSaid : Prop := fnExactVfsParentRow.holds Tryz.pinned (OpenSpec.ofChange fnExactVfsParentSpec)

/-- ITS FALSE NEIGHBOUR: 'it returns false'. Refute it at one input. -/
def fnExactVfsParentWrong : ChangeSpec := { name := "fnExactVfsParent", fn := fun _ => fun
  | [d1, d2, d3, d4] => { results := [.lit (.bool false)], args := [d1, d2, d3, d4] }
  | _ => none }
def FnExactVfsParentWrongFalsely : Prop := fnExactVfsParentRow.holds Tryz.pinned (OpenSpec.ofChange fnExactVfsParentWrong)

/-- 'laws.FnVfsWalk': WHATEVER THE INPUT: true; the input reads as it did. -/
def fnVfsWalkSpec : ChangeSpec := { name := "fnVfsWalk", fn := fun _ => fun
  | [d] => { results := [.lit (.bool true)], args := [d] }
  | _ => none }
def fnVfsWalkRow : OpenClaim := { program := "ytlnlhpgghkkhaaagreatdoor", sum := "27a607f1207d34419876ec50744fda5c01ccb259a6105e6db6c4425fd5923b7e", func := "loop.example/quarterdeck/laws.FnVfsWalk", spec := "fnVfsWalk", inPlace := ["internal/bytealg.CountString", "internal/bytealg.IndexByteString", "internal/bytealg.IndexString", "internal/bytealg.abigen_runtime_cmpstring"], unfollowed := true, recurses := true, named := ["unicode/utf8.first", "unicode/utf8.acceptRanges", "internal/bytealg.MaxLen"], apart := false, laid := [("unicode/utf8.acceptRanges", laid_unicode_utf8_acceptRanges), ("unicode/utf8.first", laid_unicode_utf8_first)] }
def FnVfsWalkSaid : Prop := fnVfsWalkRow.holds Tryz.pinned (OpenSpec.ofChange fnVfsWalkSpec)

/-- ITS FALSE NEIGHBOUR: 'it returns false'. Refute it at one input. -/
def fnVfsWalkWrong : ChangeSpec := { name := "fnVfsWalk", fn := fun _ => fun
  | [d] => { results := [.lit (.bool false)], args := [d] }
  | _ => none }
def FnVfsWalkWrongFalsely : Prop := fnVfsWalkRow.holds Tryz.pinned (OpenSpec.ofChange fnVfsWalkWrong)

/-- 'laws.FnWalkUp': WHATEVER THE INPUT: true; the input reads as it did. -/
def fnWalkUpSpec : ChangeSpec := { name := "fnWalkUp", fn := fun _ => fun
  | [d1, d2] => { results := [.lit (.bool true)], args := [d1, d2] }
  | _ => none }
def fnWalkUpRow : OpenClaim := { program := "ytlnlhpgghkkhaaagreatdoor", sum := "27a607f1207d34419876ec50744fda5c01ccb259a6105e6db6c4425fd5923b7e", func := "loop.example/quarterdeck/laws.FnWalkUp", spec := "fnWalkUp", inPlace := ["internal/bytealg.CountString", "internal/bytealg.IndexByteString", "internal/bytealg.IndexString", "internal/bytealg.abigen_runtime_cmpstring"], unfollowed := true, recurses := true, named := ["unicode/utf8.first", "unicode/utf8.acceptRanges", "internal/bytealg.MaxLen"], apart := false, laid := [("unicode/utf8.acceptRanges", laid_unicode_utf8_acceptRanges), ("unicode/utf8.first", laid_unicode_utf8_first)] }
def FnWalkUpSaid : Prop := fnWalkUpRow.holds Tryz.pinned (OpenSpec.ofChange fnWalkUpSpec)

/-- ITS FALSE NEIGHBOUR: 'it returns false'. Refute it at one input. -/
def fnWalkUpWrong : ChangeSpec := { name := "fnWalkUp", fn := fun _ => fun
  | [d1, d2] => { results := [.lit (.bool false)], args := [d1, d2] }
  | _ => none }
def FnWalkUpWrongFalsely : Prop := fnWalkUpRow.holds Tryz.pinned (OpenSpec.ofChange fnWalkUpWrong)

/-- 'laws.FnWalkZero': WHATEVER THE INPUT: true; the input reads as it did. -/
def fnWalkZeroSpec : ChangeSpec := { name := "fnWalkZero", fn := fun _ => fun
  | [d] => { results := [.lit (.bool true)], args := [d] }
  | _ => none }
def fnWalkZeroRow : OpenClaim := { program := "ytlnlhpgghkkhaaagreatdoor", sum := "27a607f1207d34419876ec50744fda5c01ccb259a6105e6db6c4425fd5923b7e", func := "loop.example/quarterdeck/laws.FnWalkZero", spec := "fnWalkZero", inPlace := ["internal/bytealg.CountString", "internal/bytealg.IndexByteString", "internal/bytealg.IndexString", "internal/bytealg.abigen_runtime_cmpstring"], unfollowed := true, recurses := true, named := ["unicode/utf8.first", "unicode/utf8.acceptRanges", "internal/bytealg.MaxLen"], apart := false, laid := [("unicode/utf8.acceptRanges", laid_unicode_utf8_acceptRanges), ("unicode/utf8.first", laid_unicode_utf8_first)] }
def FnWalkZeroSaid : Prop := fnWalkZeroRow.holds Tryz.pinned (OpenSpec.ofChange fnWalkZeroSpec)

/-- ITS FALSE NEIGHBOUR: 'it returns false'. Refute it at one input. -/
def fnWalkZeroWrong : ChangeSpec := { name := "fnWalkZero", fn := fun _ => fun
  | [d] => { results := [.lit (.bool false)], args := [d] }
  | _ => none }
def FnWalkZeroWrongFalsely : Prop := fnWalkZeroRow.holds Tryz.pinned (OpenSpec.ofChange fnWalkZeroWrong)

/-- 'laws.FnVfsParent': WHATEVER THE INPUT: true; the input reads as it did. -/
def fnVfsParentSpec : ChangeSpec := { name := "fnVfsParent", fn := fun _ => fun
  | [d] => { results := [.lit (.bool true)], args := [d] }
  | _ => none }
def fnVfsParentRow : OpenClaim := { program := "ytlnlhpgghkkhaaagreatdoor", sum := "27a607f1207d34419876ec50744fda5c01ccb259a6105e6db6c4425fd5923b7e", func := "loop.example/quarterdeck/laws.FnVfsParent", spec := "fnVfsParent", inPlace := ["internal/bytealg.CountString", "internal/bytealg.IndexByteString", "internal/bytealg.IndexString", "internal/bytealg.abigen_runtime_cmpstring"], unfollowed := true, recurses := true, named := ["unicode/utf8.first", "unicode/utf8.acceptRanges", "internal/bytealg.MaxLen"], apart := false, laid := [("unicode/utf8.acceptRanges", laid_unicode_utf8_acceptRanges), ("unicode/utf8.first", laid_unicode_utf8_first)] }
def FnVfsParentSaid : Prop := fnVfsParentRow.holds Tryz.pinned (OpenSpec.ofChange fnVfsParentSpec)

/-- ITS FALSE NEIGHBOUR: 'it returns false'. Refute it at one input. -/
def fnVfsParentWrong : ChangeSpec := { name := "fnVfsParent", fn := fun _ => fun
  | [d] => { results := [.lit (.bool false)], args := [d] }
  | _ => none }
def FnVfsParentWrongFalsely : Prop := fnVfsParentRow.holds Tryz.pinned (OpenSpec.ofChange fnVfsParentWrong)

/- THE SECOND FORM. 'bulk': how many values and letters a reading holds, each counted each time it is reached (what is shared counts as often as it is met; a slice's spare places count too). A statement '..UptoSaid' is the law's where the arguments, and the package variables that the reading takes, are together of bulk at most 1048576: NARROWER than '..Said'. Prove '..Said' where nothing that the law and all that it calls make is longer than what came in: it says more and counts as full. Else prove '..UptoSaid'. A law counts once. -/
mutual
def uptoBulk {H : Type} : DataW H → Nat
  | .lit (.string bytes) => bytes.length + 1
  | .lit _ => 1
  | .nil => 1
  | .ptr d => uptoBulk d + 1
  | .slice elems spare => uptoBulkAll elems + uptoBulkAll spare + 1
  | .agg parts => uptoBulkAll parts + 1
  | .iface _ d => uptoBulk d + 1
  | .map entries => uptoBulkEntries entries + 1
  | .held _ => 1
def uptoBulkAll {H : Type} : List (DataW H) → Nat
  | [] => 0
  | d :: r => uptoBulk d + uptoBulkAll r
def uptoBulkEntries {H : Type} : List (Lit × DataW H) → Nat
  | [] => 0
  | x :: r => uptoBulkEntry x + uptoBulkEntries r
def uptoBulkEntry {H : Type} : Lit × DataW H → Nat
  | (.string bytes, d) => bytes.length + uptoBulk d + 1
  | (_, d) => uptoBulk d + 1
 end
def uptoSmall : (H : Type) → List (DataW H) → Bool := fun _ ds => decide (uptoBulkAll ds ≤ 1048576)
def OpenSpec.upto (s : _root_.Go.ChangeSpec) : _root_.Go.OpenSpec := { _root_.Go.OpenSpec.ofChange s with cond := some uptoSmall }

/-- 'laws.FnExactVfsWalk', WHERE WHAT IT READS IS OF BULK AT MOST 1048576: true; the input reads as it did. -/
def fnExactVfsWalkUptoRow : OpenClaim := { program := "ytlnlhpgghkkhaaagreatdoor", sum := "27a607f1207d34419876ec50744fda5c01ccb259a6105e6db6c4425fd5923b7e", func := "loop.example/quarterdeck/laws.FnExactVfsWalk", spec := "fnExactVfsWalk", inPlace := ["internal/bytealg.CountString", "internal/bytealg.IndexByteString", "internal/bytealg.IndexString", "internal/bytealg.abigen_runtime_cmpstring"], unfollowed := true, recurses := true, named := ["unicode/utf8.first", "unicode/utf8.acceptRanges", "internal/bytealg.MaxLen"], apart := false, laid := [("unicode/utf8.acceptRanges", laid_unicode_utf8_acceptRanges), ("unicode/utf8.first", laid_unicode_utf8_first)], narrowed := true }
def FnExactVfsWalkUptoSaid : Prop := fnExactVfsWalkUptoRow.holds Tryz.pinned (OpenSpec.upto fnExactVfsWalkSpec)

/-- 'laws.FnVfsPath', WHERE WHAT IT READS IS OF BULK AT MOST 1048576: true; the input reads as it did. -/
def fnVfsPathUptoRow : OpenClaim := { program := "ytlnlhpgghkkhaaagreatdoor", sum := "27a607f1207d34419876ec50744fda5c01ccb259a6105e6db6c4425fd5923b7e", func := "loop.example/quarterdeck/laws.FnVfsPath", spec := "fnVfsPath", inPlace := ["internal/bytealg.CountString", "internal/bytealg.IndexByteString", "internal/bytealg.IndexString", "internal/bytealg.abigen_runtime_cmpstring"], unfollowed := true, recurses := true, named := ["unicode/utf8.first", "unicode/utf8.acceptRanges", "internal/bytealg.MaxLen"], apart := false, laid := [("unicode/utf8.acceptRanges", laid_unicode_utf8_acceptRanges), ("unicode/utf8.first", laid_unicode_utf8_first)], narrowed := true }
def FnVfsPathUptoSaid : Prop := fnVfsPathUptoRow.holds Tryz.pinned (OpenSpec.upto fnVfsPathSpec)

/-- 'laws.FnExactVfsParent', WHERE WHAT IT READS IS OF BULK AT MOST 1048576: true; the input reads as it did. -/
def fnExactVfsParentUptoRow : OpenClaim := { program := "ytlnlhpgghkkhaaagreatdoor", sum := "27a607f1207d34419876ec50744fda5c01ccb259a6105e6db6c4425fd5923b7e", func := "loop.example/quarterdeck/laws.FnExactVfsParent", spec := "fnExactVfsParent", inPlace := ["internal/bytealg.CountString", "internal/bytealg.IndexByteString", "internal/bytealg.IndexString", "internal/bytealg.abigen_runtime_cmpstring"], unfollowed := true, recurses := true, named := ["unicode/utf8.first", "unicode/utf8.acceptRanges", "internal/bytealg.MaxLen"], apart := false, laid := [("unicode/utf8.acceptRanges", laid_unicode_utf8_acceptRanges), ("unicode/utf8.first", laid_unicode_utf8_first)], narrowed := true }
def FnExactVfsParentUptoSaid : Prop := fnExactVfsParentUptoRow.holds Tryz.pinned (OpenSpec.upto fnExactVfsParentSpec)

/-- 'laws.FnVfsWalk', WHERE WHAT IT READS IS OF BULK AT MOST 1048576: true; the input reads as it did. -/
def fnVfsWalkUptoRow : OpenClaim := { program := "ytlnlhpgghkkhaaagreatdoor", sum := "27a607f1207d34419876ec50744fda5c01ccb259a6105e6db6c4425fd5923b7e", func := "loop.example/quarterdeck/laws.FnVfsWalk", spec := "fnVfsWalk", inPlace := ["internal/bytealg.CountString", "internal/bytealg.IndexByteString", "internal/bytealg.IndexString", "internal/bytealg.abigen_runtime_cmpstring"], unfollowed := true, recurses := true, named := ["unicode/utf8.first", "unicode/utf8.acceptRanges", "internal/bytealg.MaxLen"], apart := false, laid := [("unicode/utf8.acceptRanges", laid_unicode_utf8_acceptRanges), ("unicode/utf8.first", laid_unicode_utf8_first)], narrowed := true }
def FnVfsWalkUptoSaid : Prop := fnVfsWalkUptoRow.holds Tryz.pinned (OpenSpec.upto fnVfsWalkSpec)

/-- 'laws.FnWalkUp', WHERE WHAT IT READS IS OF BULK AT MOST 1048576: true; the input reads as it did. -/
def fnWalkUpUptoRow : OpenClaim := { program := "ytlnlhpgghkkhaaagreatdoor", sum := "27a607f1207d34419876ec50744fda5c01ccb259a6105e6db6c4425fd5923b7e", func := "loop.example/quarterdeck/laws.FnWalkUp", spec := "fnWalkUp", inPlace := ["internal/bytealg.CountString", "internal/bytealg.IndexByteString", "internal/bytealg.IndexString", "internal/bytealg.abigen_runtime_cmpstring"], unfollowed := true, recurses := true, named := ["unicode/utf8.first", "unicode/utf8.acceptRanges", "internal/bytealg.MaxLen"], apart := false, laid := [("unicode/utf8.acceptRanges", laid_unicode_utf8_acceptRanges), ("unicode/utf8.first", laid_unicode_utf8_first)], narrowed := true }
def FnWalkUpUptoSaid : Prop := fnWalkUpUptoRow.holds Tryz.pinned (OpenSpec.upto fnWalkUpSpec)

/-- 'laws.FnWalkZero', WHERE WHAT IT READS IS OF BULK AT MOST 1048576: true; the input reads as it did. -/
def fnWalkZeroUptoRow : OpenClaim := { program := "ytlnlhpgghkkhaaagreatdoor", sum := "27a607f1207d34419876ec50744fda5c01ccb259a6105e6db6c4425fd5923b7e", func := "loop.example/quarterdeck/laws.FnWalkZero", spec := "fnWalkZero", inPlace := ["internal/bytealg.CountString", "internal/bytealg.IndexByteString", "internal/bytealg.IndexString", "internal/bytealg.abigen_runtime_cmpstring"], unfollowed := true, recurses := true, named := ["unicode/utf8.first", "unicode/utf8.acceptRanges", "internal/bytealg.MaxLen"], apart := false, laid := [("unicode/utf8.acceptRanges", laid_unicode_utf8_acceptRanges), ("unicode/utf8.first", laid_unicode_utf8_first)], narrowed := true }
def FnWalkZeroUptoSaid : Prop := fnWalkZeroUptoRow.holds Tryz.pinned (OpenSpec.upto fnWalkZeroSpec)

/-- 'laws.FnVfsParent', WHERE WHAT IT READS IS OF BULK AT MOST 1048576: true; the input reads as it did. -/
def fnVfsParentUptoRow : OpenClaim := { program := "ytlnlhpgghkkhaaagreatdoor", sum := "27a607f1207d34419876ec50744fda5c01ccb259a6105e6db6c4425fd5923b7e", func := "loop.example/quarterdeck/laws.FnVfsParent", spec := "fnVfsParent", inPlace := ["internal/bytealg.CountString", "internal/bytealg.IndexByteString", "internal/bytealg.IndexString", "internal/bytealg.abigen_runtime_cmpstring"], unfollowed := true, recurses := true, named := ["unicode/utf8.first", "unicode/utf8.acceptRanges", "internal/bytealg.MaxLen"], apart := false, laid := [("unicode/utf8.acceptRanges", laid_unicode_utf8_acceptRanges), ("unicode/utf8.first", laid_unicode_utf8_first)], narrowed := true }
def FnVfsParentUptoSaid : Prop := fnVfsParentUptoRow.holds Tryz.pinned (OpenSpec.upto fnVfsParentSpec)

end Rows
end Go.Proofs.YtlnlhpgghkkhaaaGreatDoor
