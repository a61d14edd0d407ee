/-
  No cell of these rows narrows 'for every input' (looked for: loops, veiled, ifaces, maps, wideKeys, modest, calm, conditions, laid).
  DERIVED. THE GIVEN ROWS OF THIS SEAT. 8 by the template 'for every input the law returns true; each argument reads behind the call as it read before'; 0 by the template 'total and deterministic' (their statements: YthoapmfpokohnaaTotals.lean).
  GIVEN WITH THE SEED: the statements are not yours to turn. If you find one false, say at which input.
  Laid BY PROGRAM, IN A SANDBOX (cutbox-rows.mjs): the forced cells as the released guide's own fill.sh prints them over the translation 560458827b0e74d0… (all of the seat's roots in one cut). By AI agents, Wed Nov 11 2026. No macro, syntax, notation, axiom, sorry.
-/
import Derived.Test.YthoapmfpokohnaaChecked
import GoSem.Claim
import GoSem.ClaimJoined
import GoSem.ClaimMapViews
import Derived.JoinedTies
import Derived.KernelRfl
namespace Go.Proofs.Ythoapmfpokohnaa
/- THE CELL 'sum', in the pinned program and in every row, IS THE sha256 OF THE DUMP (.gsa) THAT YthoapmfpokohnaaProg.lean LOADS. Nothing in Lean hashes anything: it is a label: what it is worth is what the hold of that sum in a sandbox is worth. -/
noncomputable def Try.pinned : Pinned := { name := "ythoapmfpokohnaa", sum := "560458827b0e74d0f2f6b807241c390b4a685653d0569ba8f8d53efb20dfca65", checked := Try.checked }
namespace Rows
def none {H : Type} : Left H := { results := [], args := [] }

/-- 'laws.FnExactBytesGet': WHATEVER THE INPUT: true; the input reads as it did. -/
def fnExactBytesGetSpec : ChangeSpec := { name := "fnExactBytesGet", fn := fun _ => fun
  | [d1, d2, d3] => { results := [.lit (.bool true)], args := [d1, d2, d3] }
  | _ => none }
def fnExactBytesGetRow : OpenClaim := { program := "ythoapmfpokohnaa", sum := "560458827b0e74d0f2f6b807241c390b4a685653d0569ba8f8d53efb20dfca65", func := "loop.example/quarterdeck/laws.FnExactBytesGet", spec := "fnExactBytesGet", unfollowed := true, recurses := true, plainKeys := false, apart := false }
def FnExactBytesGetSaid : Prop := fnExactBytesGetRow.holds Try.pinned (OpenSpec.ofChange fnExactBytesGetSpec)

/-- ITS FALSE NEIGHBOUR: 'it returns false'. Refute it at one input. -/
def fnExactBytesGetWrong : ChangeSpec := { name := "fnExactBytesGet", fn := fun _ => fun
  | [d1, d2, d3] => { results := [.lit (.bool false)], args := [d1, d2, d3] }
  | _ => none }
def FnExactBytesGetWrongFalsely : Prop := fnExactBytesGetRow.holds Try.pinned (OpenSpec.ofChange fnExactBytesGetWrong)

/-- 'laws.FnExactMemOk': WHATEVER THE INPUT: true; the input reads as it did. -/
def fnExactMemOkSpec : ChangeSpec := { name := "fnExactMemOk", fn := fun _ => fun
  | [d] => { results := [.lit (.bool true)], args := [d] }
  | _ => none }
def fnExactMemOkRow : OpenClaim := { program := "ythoapmfpokohnaa", sum := "560458827b0e74d0f2f6b807241c390b4a685653d0569ba8f8d53efb20dfca65", func := "loop.example/quarterdeck/laws.FnExactMemOk", spec := "fnExactMemOk", unfollowed := true, recurses := true, plainKeys := false, apart := false }
def FnExactMemOkSaid : Prop := fnExactMemOkRow.holds Try.pinned (OpenSpec.ofChange fnExactMemOkSpec)

/-- ITS FALSE NEIGHBOUR: 'it returns false'. Refute it at one input. -/
def fnExactMemOkWrong : ChangeSpec := { name := "fnExactMemOk", fn := fun _ => fun
  | [d] => { results := [.lit (.bool false)], args := [d] }
  | _ => none }
def FnExactMemOkWrongFalsely : Prop := fnExactMemOkRow.holds Try.pinned (OpenSpec.ofChange fnExactMemOkWrong)

/-- 'laws.FnExactMemPeek': WHATEVER THE INPUT: true; the input reads as it did. -/
def fnExactMemPeekSpec : ChangeSpec := { name := "fnExactMemPeek", fn := fun _ => fun
  | [d1, d2, d3] => { results := [.lit (.bool true)], args := [d1, d2, d3] }
  | _ => none }
def fnExactMemPeekRow : OpenClaim := { program := "ythoapmfpokohnaa", sum := "560458827b0e74d0f2f6b807241c390b4a685653d0569ba8f8d53efb20dfca65", func := "loop.example/quarterdeck/laws.FnExactMemPeek", spec := "fnExactMemPeek", unfollowed := true, recurses := true, plainKeys := false, apart := false }
def FnExactMemPeekSaid : Prop := fnExactMemPeekRow.holds Try.pinned (OpenSpec.ofChange fnExactMemPeekSpec)

/-- ITS FALSE NEIGHBOUR: 'it returns false'. Refute it at one input. -/
def fnExactMemPeekWrong : ChangeSpec := { name := "fnExactMemPeek", fn := fun _ => fun
  | [d1, d2, d3] => { results := [.lit (.bool false)], args := [d1, d2, d3] }
  | _ => none }
def FnExactMemPeekWrongFalsely : Prop := fnExactMemPeekRow.holds Try.pinned (OpenSpec.ofChange fnExactMemPeekWrong)

/-- 'laws.FnBytesGet': WHATEVER THE INPUT: true; the input reads as it did. -/
def fnBytesGetSpec : ChangeSpec := { name := "fnBytesGet", fn := fun _ => fun
  | [d] => { results := [.lit (.bool true)], args := [d] }
  | _ => none }
def fnBytesGetRow : OpenClaim := { program := "ythoapmfpokohnaa", sum := "560458827b0e74d0f2f6b807241c390b4a685653d0569ba8f8d53efb20dfca65", func := "loop.example/quarterdeck/laws.FnBytesGet", spec := "fnBytesGet", unfollowed := true, recurses := true, plainKeys := false, apart := false }
def FnBytesGetSaid : Prop := fnBytesGetRow.holds Try.pinned (OpenSpec.ofChange fnBytesGetSpec)

/-- ITS FALSE NEIGHBOUR: 'it returns false'. Refute it at one input. -/
def fnBytesGetWrong : ChangeSpec := { name := "fnBytesGet", fn := fun _ => fun
  | [d] => { results := [.lit (.bool false)], args := [d] }
  | _ => none }
def FnBytesGetWrongFalsely : Prop := fnBytesGetRow.holds Try.pinned (OpenSpec.ofChange fnBytesGetWrong)

/-- 'laws.FnMemOk': WHATEVER THE INPUT: true; the input reads as it did. -/
def fnMemOkSpec : ChangeSpec := { name := "fnMemOk", fn := fun _ => fun
  | [d] => { results := [.lit (.bool true)], args := [d] }
  | _ => none }
def fnMemOkRow : OpenClaim := { program := "ythoapmfpokohnaa", sum := "560458827b0e74d0f2f6b807241c390b4a685653d0569ba8f8d53efb20dfca65", func := "loop.example/quarterdeck/laws.FnMemOk", spec := "fnMemOk", unfollowed := true, recurses := true, plainKeys := false, apart := false }
def FnMemOkSaid : Prop := fnMemOkRow.holds Try.pinned (OpenSpec.ofChange fnMemOkSpec)

/-- ITS FALSE NEIGHBOUR: 'it returns false'. Refute it at one input. -/
def fnMemOkWrong : ChangeSpec := { name := "fnMemOk", fn := fun _ => fun
  | [d] => { results := [.lit (.bool false)], args := [d] }
  | _ => none }
def FnMemOkWrongFalsely : Prop := fnMemOkRow.holds Try.pinned (OpenSpec.ofChange fnMemOkWrong)

/-- 'laws.FnMemPeek': WHATEVER THE INPUT: true; the input reads as it did. -/
def fnMemPeekSpec : ChangeSpec := { name := "fnMemPeek", fn := fun _ => fun
  | [d] => { results := [.lit (.bool true)], args := [d] }
  | _ => none }
def fnMemPeekRow : OpenClaim := { program := "ythoapmfpokohnaa", sum := "560458827b0e74d0f2f6b807241c390b4a685653d0569ba8f8d53efb20dfca65", func := "loop.example/quarterdeck/laws.FnMemPeek", spec := "fnMemPeek", unfollowed := true, recurses := true, plainKeys := false, apart := false }
def FnMemPeekSaid : Prop := fnMemPeekRow.holds Try.pinned (OpenSpec.ofChange fnMemPeekSpec)

/-- ITS FALSE NEIGHBOUR: 'it returns false'. Refute it at one input. -/
def fnMemPeekWrong : ChangeSpec := { name := "fnMemPeek", fn := fun _ => fun
  | [d] => { results := [.lit (.bool false)], args := [d] }
  | _ => none }
def FnMemPeekWrongFalsely : Prop := fnMemPeekRow.holds Try.pinned (OpenSpec.ofChange fnMemPeekWrong)

/-- 'laws.FnExactBytesOfMem': WHATEVER THE INPUT: true; the input reads as it did. -/
def fnExactBytesOfMemSpec : ChangeSpec := { name := "fnExactBytesOfMem", fn := fun _ => fun
  | [d] => { results := [.lit (.bool true)], args := [d] }
  | _ => none }
def fnExactBytesOfMemRow : OpenClaim := { program := "ythoapmfpokohnaa", sum := "560458827b0e74d0f2f6b807241c390b4a685653d0569ba8f8d53efb20dfca65", func := "loop.example/quarterdeck/laws.FnExactBytesOfMem", spec := "fnExactBytesOfMem", unfollowed := true, recurses := true, plainKeys := false, apart := false }
def FnExactBytesOfMemSaid : Prop := fnExactBytesOfMemRow.holds Try.pinned (OpenSpec.ofChange fnExactBytesOfMemSpec)

/-- ITS FALSE NEIGHBOUR: 'it returns false'. Refute it at one input. -/
def fnExactBytesOfMemWrong : ChangeSpec := { name := "fnExactBytesOfMem", fn := fun _ => fun
  | [d] => { results := [.lit (.bool false)], args := [d] }
  | _ => none }
def FnExactBytesOfMemWrongFalsely : Prop := fnExactBytesOfMemRow.holds Try.pinned (OpenSpec.ofChange fnExactBytesOfMemWrong)

/-- 'laws.FnBytesOfMem': WHATEVER THE INPUT: true; the input reads as it did. -/
def fnBytesOfMemSpec : ChangeSpec := { name := "fnBytesOfMem", fn := fun _ => fun
  | [d] => { results := [.lit (.bool true)], args := [d] }
  | _ => none }
def fnBytesOfMemRow : OpenClaim := { program := "ythoapmfpokohnaa", sum := "560458827b0e74d0f2f6b807241c390b4a685653d0569ba8f8d53efb20dfca65", func := "loop.example/quarterdeck/laws.FnBytesOfMem", spec := "fnBytesOfMem", unfollowed := true, recurses := true, plainKeys := false, apart := false }
def FnBytesOfMemSaid : Prop := fnBytesOfMemRow.holds Try.pinned (OpenSpec.ofChange fnBytesOfMemSpec)

/-- ITS FALSE NEIGHBOUR: 'it returns false'. Refute it at one input. -/
def fnBytesOfMemWrong : ChangeSpec := { name := "fnBytesOfMem", fn := fun _ => fun
  | [d] => { results := [.lit (.bool false)], args := [d] }
  | _ => none }
def FnBytesOfMemWrongFalsely : Prop := fnBytesOfMemRow.holds Try.pinned (OpenSpec.ofChange fnBytesOfMemWrong)

/- THE SECOND FORM. 'bulk': how many values and letters a reading holds, each counted each time it is reached (what is shared counts as often as it is met; a slice's spare places count too). A statement '..UptoSaid' is the law's where the arguments, and the package variables that the reading takes, are together of bulk at most 1048576: NARROWER than '..Said'. Prove '..Said' where nothing that the law and all that it calls make is longer than what came in: it says more and counts as full. Else prove '..UptoSaid'. A law counts once. -/
mutual
def uptoBulk {H : Type} : DataW H → Nat
  | .lit (.string bytes) => bytes.length + 1
  | .lit _ => 1
  | .nil => 1
  | .ptr d => uptoBulk d + 1
  | .slice elems spare => uptoBulkAll elems + uptoBulkAll spare + 1
  | .agg parts => uptoBulkAll parts + 1
  | .iface _ d => uptoBulk d + 1
  | .map entries => uptoBulkEntries entries + 1
  | .held _ => 1
def uptoBulkAll {H : Type} : List (DataW H) → Nat
  | [] => 0
  | d :: r => uptoBulk d + uptoBulkAll r
def uptoBulkEntries {H : Type} : List (Lit × DataW H) → Nat
  | [] => 0
  | x :: r => uptoBulkEntry x + uptoBulkEntries r
def uptoBulkEntry {H : Type} : Lit × DataW H → Nat
  | (.string bytes, d) => bytes.length + uptoBulk d + 1
  | (_, d) => uptoBulk d + 1
 end
def uptoSmall : (H : Type) → List (DataW H) → Bool := fun _ ds => decide (uptoBulkAll ds ≤ 1048576)
def OpenSpec.upto (s : _root_.Go.ChangeSpec) : _root_.Go.OpenSpec := { _root_.Go.OpenSpec.ofChange s with cond := some uptoSmall }

/-- 'laws.FnExactBytesGet', WHERE WHAT IT READS IS OF BULK AT MOST 1048576: true; the input reads as it did. -/
def fnExactBytesGetUptoRow : OpenClaim := { program := "ythoapmfpokohnaa", sum := "560458827b0e74d0f2f6b807241c390b4a685653d0569ba8f8d53efb20dfca65", func := "loop.example/quarterdeck/laws.FnExactBytesGet", spec := "fnExactBytesGet", unfollowed := true, recurses := true, plainKeys := false, apart := false, narrowed := true }
def FnExactBytesGetUptoSaid : Prop := fnExactBytesGetUptoRow.holds Try.pinned (OpenSpec.upto fnExactBytesGetSpec)

/-- 'laws.FnExactMemOk', WHERE WHAT IT READS IS OF BULK AT MOST 1048576: true; the input reads as it did. -/
def fnExactMemOkUptoRow : OpenClaim := { program := "ythoapmfpokohnaa", sum := "560458827b0e74d0f2f6b807241c390b4a685653d0569ba8f8d53efb20dfca65", func := "loop.example/quarterdeck/laws.FnExactMemOk", spec := "fnExactMemOk", unfollowed := true, recurses := true, plainKeys := false, apart := false, narrowed := true }
def FnExactMemOkUptoSaid : Prop := fnExactMemOkUptoRow.holds Try.pinned (OpenSpec.upto fnExactMemOkSpec)

/-- 'laws.FnExactMemPeek', WHERE WHAT IT READS IS OF BULK AT MOST 1048576: true; the input reads as it did. -/
def fnExactMemPeekUptoRow : OpenClaim := { program := "ythoapmfpokohnaa", sum := "560458827b0e74d0f2f6b807241c390b4a685653d0569ba8f8d53efb20dfca65", func := "loop.example/quarterdeck/laws.FnExactMemPeek", spec := "fnExactMemPeek", unfollowed := true, recurses := true, plainKeys := false, apart := false, narrowed := true }
def FnExactMemPeekUptoSaid : Prop := fnExactMemPeekUptoRow.holds Try.pinned (OpenSpec.upto fnExactMemPeekSpec)

/-- 'laws.FnBytesGet', WHERE WHAT IT READS IS OF BULK AT MOST 1048576: true; the input reads as it did. -/
def fnBytesGetUptoRow : OpenClaim := { program := "ythoapmfpokohnaa", sum := "560458827b0e74d0f2f6b807241c390b4a685653d0569ba8f8d53efb20dfca65", func := "loop.example/quarterdeck/laws.FnBytesGet", spec := "fnBytesGet", unfollowed := true, recurses := true, plainKeys := false, apart := false, narrowed := true }
def FnBytesGetUptoSaid : Prop := fnBytesGetUptoRow.holds Try.pinned (OpenSpec.upto fnBytesGetSpec)

/-- 'laws.FnMemOk', WHERE WHAT IT READS IS OF BULK AT MOST 1048576: true; the input reads as it did. -/
def fnMemOkUptoRow : OpenClaim := { program := "ythoapmfpokohnaa", sum := "560458827b0e74d0f2f6b807241c390b4a685653d0569ba8f8d53efb20dfca65", func := "loop.example/quarterdeck/laws.FnMemOk", spec := "fnMemOk", unfollowed := true, recurses := true, plainKeys := false, apart := false, narrowed := true }
def FnMemOkUptoSaid : Prop := fnMemOkUptoRow.holds Try.pinned (OpenSpec.upto fnMemOkSpec)

/-- 'laws.FnMemPeek', WHERE WHAT IT READS IS OF BULK AT MOST 1048576: true; the input reads as it did. -/
def fnMemPeekUptoRow : OpenClaim := { program := "ythoapmfpokohnaa", sum := "560458827b0e74d0f2f6b807241c390b4a685653d0569ba8f8d53efb20dfca65", func := "loop.example/quarterdeck/laws.FnMemPeek", spec := "fnMemPeek", unfollowed := true, recurses := true, plainKeys := false, apart := false, narrowed := true }
def FnMemPeekUptoSaid : Prop := fnMemPeekUptoRow.holds Try.pinned (OpenSpec.upto fnMemPeekSpec)

/-- 'laws.FnExactBytesOfMem', WHERE WHAT IT READS IS OF BULK AT MOST 1048576: true; the input reads as it did. -/
def fnExactBytesOfMemUptoRow : OpenClaim := { program := "ythoapmfpokohnaa", sum := "560458827b0e74d0f2f6b807241c390b4a685653d0569ba8f8d53efb20dfca65", func := "loop.example/quarterdeck/laws.FnExactBytesOfMem", spec := "fnExactBytesOfMem", unfollowed := true, recurses := true, plainKeys := false, apart := false, narrowed := true }
def FnExactBytesOfMemUptoSaid : Prop := fnExactBytesOfMemUptoRow.holds Try.pinned (OpenSpec.upto fnExactBytesOfMemSpec)

/-- 'laws.FnBytesOfMem', WHERE WHAT IT READS IS OF BULK AT MOST 1048576: true; the input reads as it did. -/
def fnBytesOfMemUptoRow : OpenClaim := { program := "ythoapmfpokohnaa", sum := "560458827b0e74d0f2f6b807241c390b4a685653d0569ba8f8d53efb20dfca65", func := "loop.example/quarterdeck/laws.FnBytesOfMem", spec := "fnBytesOfMem", unfollowed := true, recurses := true, plainKeys := false, apart := false, narrowed := true }
def FnBytesOfMemUptoSaid : Prop := fnBytesOfMemUptoRow.holds Try.pinned (OpenSpec.upto fnBytesOfMemSpec)

end Rows
end Go.Proofs.Ythoapmfpokohnaa
