/-
  No cell of these rows narrows 'for every input' (looked for: loops, veiled, ifaces, maps, wideKeys, modest, calm, conditions, laid).
  DERIVED. THE GIVEN ROWS OF THIS SEAT. 4 by the template 'for every input the law returns true; each argument reads behind the call as it read before'; 0 by the template 'total and deterministic' (their statements: YtmpdoodimmmemaaTotals.lean).
  GIVEN WITH THE SEED: the statements are not yours to turn. If you find one false, say at which input.
  Laid BY PROGRAM, IN A SANDBOX (cutbox-rows.mjs): the forced cells as the released guide's own fill.sh prints them over the translation 496793fb9d3004e5… (all of the seat's roots in one cut). By AI agents, Wed Nov 11 2026. No macro, syntax, notation, axiom, sorry.
-/
import Derived.Test.YtmpdoodimmmemaaChecked
import GoSem.Claim
import GoSem.ClaimJoined
import GoSem.ClaimMapViews
import Derived.JoinedTies
import Derived.KernelRfl
namespace Go.Proofs.Ytmpdoodimmmemaa
/- THE CELL 'sum', in the pinned program and in every row, IS THE sha256 OF THE DUMP (.gsa) THAT YtmpdoodimmmemaaProg.lean LOADS. Nothing in Lean hashes anything: it is a label: what it is worth is what the hold of that sum in a sandbox is worth. -/
noncomputable def Try.pinned : Pinned := { name := "ytmpdoodimmmemaa", sum := "496793fb9d3004e5b63821d9af82f1f8b2749e23792e8d5cfc8cf0c0b2283a94", checked := Try.checked }
namespace Rows
def none {H : Type} : Left H := { results := [], args := [] }

/-- 'laws.FnExactKernSaid': WHATEVER THE INPUT: true; the input reads as it did. -/
def fnExactKernSaidSpec : ChangeSpec := { name := "fnExactKernSaid", fn := fun _ => fun
  | [d1, d2] => { results := [.lit (.bool true)], args := [d1, d2] }
  | _ => none }
def fnExactKernSaidRow : OpenClaim := { program := "ytmpdoodimmmemaa", sum := "496793fb9d3004e5b63821d9af82f1f8b2749e23792e8d5cfc8cf0c0b2283a94", func := "loop.example/quarterdeck/laws.FnExactKernSaid", spec := "fnExactKernSaid", apart := false }
def FnExactKernSaidSaid : Prop := fnExactKernSaidRow.holds Try.pinned (OpenSpec.ofChange fnExactKernSaidSpec)

/-- ITS FALSE NEIGHBOUR: 'it returns false'. Refute it at one input. -/
def fnExactKernSaidWrong : ChangeSpec := { name := "fnExactKernSaid", fn := fun _ => fun
  | [d1, d2] => { results := [.lit (.bool false)], args := [d1, d2] }
  | _ => none }
def FnExactKernSaidWrongFalsely : Prop := fnExactKernSaidRow.holds Try.pinned (OpenSpec.ofChange fnExactKernSaidWrong)

/-- 'laws.FnExactLockIn': WHATEVER THE INPUT: true; the input reads as it did. -/
def fnExactLockInSpec : ChangeSpec := { name := "fnExactLockIn", fn := fun _ => fun
  | [d] => { results := [.lit (.bool true)], args := [d] }
  | _ => none }
def fnExactLockInRow : OpenClaim := { program := "ytmpdoodimmmemaa", sum := "496793fb9d3004e5b63821d9af82f1f8b2749e23792e8d5cfc8cf0c0b2283a94", func := "loop.example/quarterdeck/laws.FnExactLockIn", spec := "fnExactLockIn", apart := false }
def FnExactLockInSaid : Prop := fnExactLockInRow.holds Try.pinned (OpenSpec.ofChange fnExactLockInSpec)

/-- ITS FALSE NEIGHBOUR: 'it returns false'. Refute it at one input. -/
def fnExactLockInWrong : ChangeSpec := { name := "fnExactLockIn", fn := fun _ => fun
  | [d] => { results := [.lit (.bool false)], args := [d] }
  | _ => none }
def FnExactLockInWrongFalsely : Prop := fnExactLockInRow.holds Try.pinned (OpenSpec.ofChange fnExactLockInWrong)

/-- 'laws.FnExactLockStuck': WHATEVER THE INPUT: true; the input reads as it did. -/
def fnExactLockStuckSpec : ChangeSpec := { name := "fnExactLockStuck", fn := fun _ => fun
  | [d] => { results := [.lit (.bool true)], args := [d] }
  | _ => none }
def fnExactLockStuckRow : OpenClaim := { program := "ytmpdoodimmmemaa", sum := "496793fb9d3004e5b63821d9af82f1f8b2749e23792e8d5cfc8cf0c0b2283a94", func := "loop.example/quarterdeck/laws.FnExactLockStuck", spec := "fnExactLockStuck", apart := false }
def FnExactLockStuckSaid : Prop := fnExactLockStuckRow.holds Try.pinned (OpenSpec.ofChange fnExactLockStuckSpec)

/-- ITS FALSE NEIGHBOUR: 'it returns false'. Refute it at one input. -/
def fnExactLockStuckWrong : ChangeSpec := { name := "fnExactLockStuck", fn := fun _ => fun
  | [d] => { results := [.lit (.bool false)], args := [d] }
  | _ => none }
def FnExactLockStuckWrongFalsely : Prop := fnExactLockStuckRow.holds Try.pinned (OpenSpec.ofChange fnExactLockStuckWrong)

/-- 'laws.FnLockIn': WHATEVER THE INPUT: true; the input reads as it did. -/
def fnLockInSpec : ChangeSpec := { name := "fnLockIn", fn := fun _ => fun
  | [d] => { results := [.lit (.bool true)], args := [d] }
  | _ => none }
def fnLockInRow : OpenClaim := { program := "ytmpdoodimmmemaa", sum := "496793fb9d3004e5b63821d9af82f1f8b2749e23792e8d5cfc8cf0c0b2283a94", func := "loop.example/quarterdeck/laws.FnLockIn", spec := "fnLockIn", apart := false }
def FnLockInSaid : Prop := fnLockInRow.holds Try.pinned (OpenSpec.ofChange fnLockInSpec)

/-- ITS FALSE NEIGHBOUR: 'it returns false'. Refute it at one input. -/
def fnLockInWrong : ChangeSpec := { name := "fnLockIn", fn := fun _ => fun
  | [d] => { results := [.lit (.bool false)], args := [d] }
  | _ => none }
def FnLockInWrongFalsely : Prop := fnLockInRow.holds Try.pinned (OpenSpec.ofChange fnLockInWrong)

/- THE SECOND FORM. 'bulk': how many values and letters a reading holds, each counted each time it is reached (what is shared counts as often as it is met; a slice's spare places count too). A statement '..UptoSaid' is the law's where the arguments, and the package variables that the reading takes, are together of bulk at most 1048576: NARROWER than '..Said'. Prove '..Said' where nothing that the law and all that it calls make is longer than what came in: it says more and counts as full. Else prove '..UptoSaid'. A law counts once. -/
mutual
def uptoBulk {H : Type} : DataW H → Nat
  | .lit (.string bytes) => bytes.length + 1
  | .lit _ => 1
  | .nil => 1
  | .ptr d => uptoBulk d + 1
  | .slice elems spare => uptoBulkAll elems + uptoBulkAll spare + 1
  | .agg parts => uptoBulkAll parts + 1
  | .iface _ d => uptoBulk d + 1
  | .map entries => uptoBulkEntries entries + 1
  | .held _ => 1
def uptoBulkAll {H : Type} : List (DataW H) → Nat
  | [] => 0
  | d :: r => uptoBulk d + uptoBulkAll r
def uptoBulkEntries {H : Type} : List (Lit × DataW H) → Nat
  | [] => 0
  | x :: r => uptoBulkEntry x + uptoBulkEntries r
def uptoBulkEntry {H : Type} : Lit × DataW H → Nat
  | (.string bytes, d) => bytes.length + uptoBulk d + 1
  | (_, d) => uptoBulk d + 1
 end
def uptoSmall : (H : Type) → List (DataW H) → Bool := fun _ ds => decide (uptoBulkAll ds ≤ 1048576)
def OpenSpec.upto (s : _root_.Go.ChangeSpec) : _root_.Go.OpenSpec := { _root_.Go.OpenSpec.ofChange s with cond := some uptoSmall }

/-- 'laws.FnExactKernSaid', WHERE WHAT IT READS IS OF BULK AT MOST 1048576: true; the input reads as it did. -/
def fnExactKernSaidUptoRow : OpenClaim := { program := "ytmpdoodimmmemaa", sum := "496793fb9d3004e5b63821d9af82f1f8b2749e23792e8d5cfc8cf0c0b2283a94", func := "loop.example/quarterdeck/laws.FnExactKernSaid", spec := "fnExactKernSaid", apart := false, narrowed := true }
def FnExactKernSaidUptoSaid : Prop := fnExactKernSaidUptoRow.holds Try.pinned (OpenSpec.upto fnExactKernSaidSpec)

/-- 'laws.FnExactLockIn', WHERE WHAT IT READS IS OF BULK AT MOST 1048576: true; the input reads as it did. -/
def fnExactLockInUptoRow : OpenClaim := { program := "ytmpdoodimmmemaa", sum := "496793fb9d3004e5b63821d9af82f1f8b2749e23792e8d5cfc8cf0c0b2283a94", func := "loop.example/quarterdeck/laws.FnExactLockIn", spec := "fnExactLockIn", apart := false, narrowed := true }
def FnExactLockInUptoSaid : Prop := fnExactLockInUptoRow.holds Try.pinned (OpenSpec.upto fnExactLockInSpec)

/-- 'laws.FnExactLockStuck', WHERE WHAT IT READS IS OF BULK AT MOST 1048576: true; the input reads as it did. -/
def fnExactLockStuckUptoRow : OpenClaim := { program := "ytmpdoodimmmemaa", sum := "496793fb9d3004e5b63821d9af82f1f8b2749e23792e8d5cfc8cf0c0b2283a94", func := "loop.example/quarterdeck/laws.FnExactLockStuck", spec := "fnExactLockStuck", apart := false, narrowed := true }
def FnExactLockStuckUptoSaid : Prop := fnExactLockStuckUptoRow.holds Try.pinned (OpenSpec.upto fnExactLockStuckSpec)

/-- 'laws.FnLockIn', WHERE WHAT IT READS IS OF BULK AT MOST 1048576: true; the input reads as it did. -/
def fnLockInUptoRow : OpenClaim := { program := "ytmpdoodimmmemaa", sum := "496793fb9d3004e5b63821d9af82f1f8b2749e23792e8d5cfc8cf0c0b2283a94", func := "loop.example/quarterdeck/laws.FnLockIn", spec := "fnLockIn", apart := false, narrowed := true }
def FnLockInUptoSaid : Prop := fnLockInUptoRow.holds Try.pinned (OpenSpec.upto fnLockInSpec)

end Rows
end Go.Proofs.Ytmpdoodimmmemaa
