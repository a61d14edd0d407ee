/-
  No cell of these rows narrows 'for every input' (looked for: loops, veiled, ifaces, maps, wideKeys, modest, calm, conditions, laid).
  DERIVED. THE GIVEN ROWS OF THIS SEAT. 13 by the template 'for every input the law returns true; each argument reads behind the call as it read before'; 0 by the template 'total and deterministic' (their statements: YtlejcgnfpcngbaaTotals.lean).
  GIVEN WITH THE SEED: the statements are not yours to turn. If you find one false, say at which input.
  Laid BY PROGRAM, IN A SANDBOX (cutbox-rows.mjs): the forced cells as the released guide's own fill.sh prints them over the translation adefd95fde6a06d2… (all of the seat's roots in one cut). By AI agents, Wed Nov 11 2026. No macro, syntax, notation, axiom, sorry.
-/
import Derived.Test.YtlejcgnfpcngbaaChecked
import GoSem.Claim
import GoSem.ClaimJoined
import GoSem.ClaimMapViews
import Derived.JoinedTies
import Derived.KernelRfl
namespace Go.Proofs.Ytlejcgnfpcngbaa
/- THE CELL 'sum', in the pinned program and in every row, IS THE sha256 OF THE DUMP (.gsa) THAT YtlejcgnfpcngbaaProg.lean LOADS. Nothing in Lean hashes anything: it is a label: what it is worth is what the hold of that sum in a sandbox is worth. -/
noncomputable def Try.pinned : Pinned := { name := "ytlejcgnfpcngbaa", sum := "adefd95fde6a06d251def328f63485f9d1aea35c48fc5001765bc23fe812517f", checked := Try.checked }
namespace Rows
def none {H : Type} : Left H := { results := [], args := [] }

/-- 'laws.FnClockNew': WHATEVER THE INPUT: true; the input reads as it did. -/
def fnClockNewSpec : ChangeSpec := { name := "fnClockNew", fn := fun _ => fun
  | [d] => { results := [.lit (.bool true)], args := [d] }
  | _ => none }
def fnClockNewRow : OpenClaim := { program := "ytlejcgnfpcngbaa", sum := "adefd95fde6a06d251def328f63485f9d1aea35c48fc5001765bc23fe812517f", func := "loop.example/quarterdeck/laws.FnClockNew", spec := "fnClockNew", apart := false }
def FnClockNewSaid : Prop := fnClockNewRow.holds Try.pinned (OpenSpec.ofChange fnClockNewSpec)

/-- ITS FALSE NEIGHBOUR: 'it returns false'. Refute it at one input. -/
def fnClockNewWrong : ChangeSpec := { name := "fnClockNew", fn := fun _ => fun
  | [d] => { results := [.lit (.bool false)], args := [d] }
  | _ => none }
def FnClockNewWrongFalsely : Prop := fnClockNewRow.holds Try.pinned (OpenSpec.ofChange fnClockNewWrong)

/-- 'laws.FnExactClockNew': WHATEVER THE INPUT: true; the input reads as it did. -/
def fnExactClockNewSpec : ChangeSpec := { name := "fnExactClockNew", fn := fun _ => fun
  | [d] => { results := [.lit (.bool true)], args := [d] }
  | _ => none }
def fnExactClockNewRow : OpenClaim := { program := "ytlejcgnfpcngbaa", sum := "adefd95fde6a06d251def328f63485f9d1aea35c48fc5001765bc23fe812517f", func := "loop.example/quarterdeck/laws.FnExactClockNew", spec := "fnExactClockNew", apart := false }
def FnExactClockNewSaid : Prop := fnExactClockNewRow.holds Try.pinned (OpenSpec.ofChange fnExactClockNewSpec)

/-- ITS FALSE NEIGHBOUR: 'it returns false'. Refute it at one input. -/
def fnExactClockNewWrong : ChangeSpec := { name := "fnExactClockNew", fn := fun _ => fun
  | [d] => { results := [.lit (.bool false)], args := [d] }
  | _ => none }
def FnExactClockNewWrongFalsely : Prop := fnExactClockNewRow.holds Try.pinned (OpenSpec.ofChange fnExactClockNewWrong)

/-- 'laws.FnExactClockOk': WHATEVER THE INPUT: true; the input reads as it did. -/
def fnExactClockOkSpec : ChangeSpec := { name := "fnExactClockOk", fn := fun _ => fun
  | [d] => { results := [.lit (.bool true)], args := [d] }
  | _ => none }
def fnExactClockOkRow : OpenClaim := { program := "ytlejcgnfpcngbaa", sum := "adefd95fde6a06d251def328f63485f9d1aea35c48fc5001765bc23fe812517f", func := "loop.example/quarterdeck/laws.FnExactClockOk", spec := "fnExactClockOk", apart := false }
def FnExactClockOkSaid : Prop := fnExactClockOkRow.holds Try.pinned (OpenSpec.ofChange fnExactClockOkSpec)

/-- ITS FALSE NEIGHBOUR: 'it returns false'. Refute it at one input. -/
def fnExactClockOkWrong : ChangeSpec := { name := "fnExactClockOk", fn := fun _ => fun
  | [d] => { results := [.lit (.bool false)], args := [d] }
  | _ => none }
def FnExactClockOkWrongFalsely : Prop := fnExactClockOkRow.holds Try.pinned (OpenSpec.ofChange fnExactClockOkWrong)

/-- 'laws.FnExactClockNext': WHATEVER THE INPUT: true; the input reads as it did. -/
def fnExactClockNextSpec : ChangeSpec := { name := "fnExactClockNext", fn := fun _ => fun
  | [d] => { results := [.lit (.bool true)], args := [d] }
  | _ => none }
def fnExactClockNextRow : OpenClaim := { program := "ytlejcgnfpcngbaa", sum := "adefd95fde6a06d251def328f63485f9d1aea35c48fc5001765bc23fe812517f", func := "loop.example/quarterdeck/laws.FnExactClockNext", spec := "fnExactClockNext", apart := false }
def FnExactClockNextSaid : Prop := fnExactClockNextRow.holds Try.pinned (OpenSpec.ofChange fnExactClockNextSpec)

/-- ITS FALSE NEIGHBOUR: 'it returns false'. Refute it at one input. -/
def fnExactClockNextWrong : ChangeSpec := { name := "fnExactClockNext", fn := fun _ => fun
  | [d] => { results := [.lit (.bool false)], args := [d] }
  | _ => none }
def FnExactClockNextWrongFalsely : Prop := fnExactClockNextRow.holds Try.pinned (OpenSpec.ofChange fnExactClockNextWrong)

/-- 'laws.FnExactClockDrop': WHATEVER THE INPUT: true; the input reads as it did. -/
def fnExactClockDropSpec : ChangeSpec := { name := "fnExactClockDrop", fn := fun _ => fun
  | [d1, d2] => { results := [.lit (.bool true)], args := [d1, d2] }
  | _ => none }
def fnExactClockDropRow : OpenClaim := { program := "ytlejcgnfpcngbaa", sum := "adefd95fde6a06d251def328f63485f9d1aea35c48fc5001765bc23fe812517f", func := "loop.example/quarterdeck/laws.FnExactClockDrop", spec := "fnExactClockDrop", unfollowed := true, recurses := true, apart := false }
def FnExactClockDropSaid : Prop := fnExactClockDropRow.holds Try.pinned (OpenSpec.ofChange fnExactClockDropSpec)

/-- ITS FALSE NEIGHBOUR: 'it returns false'. Refute it at one input. -/
def fnExactClockDropWrong : ChangeSpec := { name := "fnExactClockDrop", fn := fun _ => fun
  | [d1, d2] => { results := [.lit (.bool false)], args := [d1, d2] }
  | _ => none }
def FnExactClockDropWrongFalsely : Prop := fnExactClockDropRow.holds Try.pinned (OpenSpec.ofChange fnExactClockDropWrong)

/-- 'laws.FnClockOften': WHATEVER THE INPUT: true; the input reads as it did. -/
def fnClockOftenSpec : ChangeSpec := { name := "fnClockOften", fn := fun _ => fun
  | [d1, d2] => { results := [.lit (.bool true)], args := [d1, d2] }
  | _ => none }
def fnClockOftenRow : OpenClaim := { program := "ytlejcgnfpcngbaa", sum := "adefd95fde6a06d251def328f63485f9d1aea35c48fc5001765bc23fe812517f", func := "loop.example/quarterdeck/laws.FnClockOften", spec := "fnClockOften", inPlace := ["slices.overlaps[loop.example/quarterdeck/impl.Alarm]"], unfollowed := true, recurses := true, apart := false }
def FnClockOftenSaid : Prop := fnClockOftenRow.holds Try.pinned (OpenSpec.ofChange fnClockOftenSpec)

/-- ITS FALSE NEIGHBOUR: 'it returns false'. Refute it at one input. -/
def fnClockOftenWrong : ChangeSpec := { name := "fnClockOften", fn := fun _ => fun
  | [d1, d2] => { results := [.lit (.bool false)], args := [d1, d2] }
  | _ => none }
def FnClockOftenWrongFalsely : Prop := fnClockOftenRow.holds Try.pinned (OpenSpec.ofChange fnClockOftenWrong)

/-- 'laws.FnClockOk': WHATEVER THE INPUT: true; the input reads as it did. -/
def fnClockOkSpec : ChangeSpec := { name := "fnClockOk", fn := fun _ => fun
  | [d] => { results := [.lit (.bool true)], args := [d] }
  | _ => none }
def fnClockOkRow : OpenClaim := { program := "ytlejcgnfpcngbaa", sum := "adefd95fde6a06d251def328f63485f9d1aea35c48fc5001765bc23fe812517f", func := "loop.example/quarterdeck/laws.FnClockOk", spec := "fnClockOk", inPlace := ["slices.overlaps[loop.example/quarterdeck/impl.Alarm]"], unfollowed := true, recurses := true, apart := false }
def FnClockOkSaid : Prop := fnClockOkRow.holds Try.pinned (OpenSpec.ofChange fnClockOkSpec)

/-- ITS FALSE NEIGHBOUR: 'it returns false'. Refute it at one input. -/
def fnClockOkWrong : ChangeSpec := { name := "fnClockOk", fn := fun _ => fun
  | [d] => { results := [.lit (.bool false)], args := [d] }
  | _ => none }
def FnClockOkWrongFalsely : Prop := fnClockOkRow.holds Try.pinned (OpenSpec.ofChange fnClockOkWrong)

/-- 'laws.FnClockNext': WHATEVER THE INPUT: true; the input reads as it did. -/
def fnClockNextSpec : ChangeSpec := { name := "fnClockNext", fn := fun _ => fun
  | [d] => { results := [.lit (.bool true)], args := [d] }
  | _ => none }
def fnClockNextRow : OpenClaim := { program := "ytlejcgnfpcngbaa", sum := "adefd95fde6a06d251def328f63485f9d1aea35c48fc5001765bc23fe812517f", func := "loop.example/quarterdeck/laws.FnClockNext", spec := "fnClockNext", inPlace := ["slices.overlaps[loop.example/quarterdeck/impl.Alarm]"], unfollowed := true, recurses := true, apart := false }
def FnClockNextSaid : Prop := fnClockNextRow.holds Try.pinned (OpenSpec.ofChange fnClockNextSpec)

/-- ITS FALSE NEIGHBOUR: 'it returns false'. Refute it at one input. -/
def fnClockNextWrong : ChangeSpec := { name := "fnClockNext", fn := fun _ => fun
  | [d] => { results := [.lit (.bool false)], args := [d] }
  | _ => none }
def FnClockNextWrongFalsely : Prop := fnClockNextRow.holds Try.pinned (OpenSpec.ofChange fnClockNextWrong)

/-- 'laws.FnClockTick': WHATEVER THE INPUT: true; the input reads as it did. -/
def fnClockTickSpec : ChangeSpec := { name := "fnClockTick", fn := fun _ => fun
  | [d1, d2] => { results := [.lit (.bool true)], args := [d1, d2] }
  | _ => none }
def fnClockTickRow : OpenClaim := { program := "ytlejcgnfpcngbaa", sum := "adefd95fde6a06d251def328f63485f9d1aea35c48fc5001765bc23fe812517f", func := "loop.example/quarterdeck/laws.FnClockTick", spec := "fnClockTick", inPlace := ["slices.overlaps[loop.example/quarterdeck/impl.Alarm]"], unfollowed := true, recurses := true, apart := false }
def FnClockTickSaid : Prop := fnClockTickRow.holds Try.pinned (OpenSpec.ofChange fnClockTickSpec)

/-- ITS FALSE NEIGHBOUR: 'it returns false'. Refute it at one input. -/
def fnClockTickWrong : ChangeSpec := { name := "fnClockTick", fn := fun _ => fun
  | [d1, d2] => { results := [.lit (.bool false)], args := [d1, d2] }
  | _ => none }
def FnClockTickWrongFalsely : Prop := fnClockTickRow.holds Try.pinned (OpenSpec.ofChange fnClockTickWrong)

/-- 'laws.FnClockOrder': WHATEVER THE INPUT: true; the input reads as it did. -/
def fnClockOrderSpec : ChangeSpec := { name := "fnClockOrder", fn := fun _ => fun
  | [d1, d2] => { results := [.lit (.bool true)], args := [d1, d2] }
  | _ => none }
def fnClockOrderRow : OpenClaim := { program := "ytlejcgnfpcngbaa", sum := "adefd95fde6a06d251def328f63485f9d1aea35c48fc5001765bc23fe812517f", func := "loop.example/quarterdeck/laws.FnClockOrder", spec := "fnClockOrder", inPlace := ["slices.overlaps[loop.example/quarterdeck/impl.Alarm]"], unfollowed := true, recurses := true, apart := false }
def FnClockOrderSaid : Prop := fnClockOrderRow.holds Try.pinned (OpenSpec.ofChange fnClockOrderSpec)

/-- ITS FALSE NEIGHBOUR: 'it returns false'. Refute it at one input. -/
def fnClockOrderWrong : ChangeSpec := { name := "fnClockOrder", fn := fun _ => fun
  | [d1, d2] => { results := [.lit (.bool false)], args := [d1, d2] }
  | _ => none }
def FnClockOrderWrongFalsely : Prop := fnClockOrderRow.holds Try.pinned (OpenSpec.ofChange fnClockOrderWrong)

/-- 'laws.FnClockSet': WHATEVER THE INPUT: true; the input reads as it did. -/
def fnClockSetSpec : ChangeSpec := { name := "fnClockSet", fn := fun _ => fun
  | [d] => { results := [.lit (.bool true)], args := [d] }
  | _ => none }
def fnClockSetRow : OpenClaim := { program := "ytlejcgnfpcngbaa", sum := "adefd95fde6a06d251def328f63485f9d1aea35c48fc5001765bc23fe812517f", func := "loop.example/quarterdeck/laws.FnClockSet", spec := "fnClockSet", inPlace := ["slices.overlaps[loop.example/quarterdeck/impl.Alarm]"], unfollowed := true, recurses := true, apart := false }
def FnClockSetSaid : Prop := fnClockSetRow.holds Try.pinned (OpenSpec.ofChange fnClockSetSpec)

/-- ITS FALSE NEIGHBOUR: 'it returns false'. Refute it at one input. -/
def fnClockSetWrong : ChangeSpec := { name := "fnClockSet", fn := fun _ => fun
  | [d] => { results := [.lit (.bool false)], args := [d] }
  | _ => none }
def FnClockSetWrongFalsely : Prop := fnClockSetRow.holds Try.pinned (OpenSpec.ofChange fnClockSetWrong)

/-- 'laws.FnExactClockSet': WHATEVER THE INPUT: true; the input reads as it did. -/
def fnExactClockSetSpec : ChangeSpec := { name := "fnExactClockSet", fn := fun _ => fun
  | [d1, d2, d3, d4] => { results := [.lit (.bool true)], args := [d1, d2, d3, d4] }
  | _ => none }
def fnExactClockSetRow : OpenClaim := { program := "ytlejcgnfpcngbaa", sum := "adefd95fde6a06d251def328f63485f9d1aea35c48fc5001765bc23fe812517f", func := "loop.example/quarterdeck/laws.FnExactClockSet", spec := "fnExactClockSet", inPlace := ["slices.overlaps[loop.example/quarterdeck/impl.Alarm]"], unfollowed := true, recurses := true, apart := false }
def FnExactClockSetSaid : Prop := fnExactClockSetRow.holds Try.pinned (OpenSpec.ofChange fnExactClockSetSpec)

/-- ITS FALSE NEIGHBOUR: 'it returns false'. Refute it at one input. -/
def fnExactClockSetWrong : ChangeSpec := { name := "fnExactClockSet", fn := fun _ => fun
  | [d1, d2, d3, d4] => { results := [.lit (.bool false)], args := [d1, d2, d3, d4] }
  | _ => none }
def FnExactClockSetWrongFalsely : Prop := fnExactClockSetRow.holds Try.pinned (OpenSpec.ofChange fnExactClockSetWrong)

/-- 'laws.FnExactClockTick': WHATEVER THE INPUT: true; the input reads as it did. -/
def fnExactClockTickSpec : ChangeSpec := { name := "fnExactClockTick", fn := fun _ => fun
  | [d1, d2] => { results := [.lit (.bool true)], args := [d1, d2] }
  | _ => none }
def fnExactClockTickRow : OpenClaim := { program := "ytlejcgnfpcngbaa", sum := "adefd95fde6a06d251def328f63485f9d1aea35c48fc5001765bc23fe812517f", func := "loop.example/quarterdeck/laws.FnExactClockTick", spec := "fnExactClockTick", inPlace := ["slices.overlaps[loop.example/quarterdeck/impl.Alarm]"], unfollowed := true, recurses := true, apart := false }
def FnExactClockTickSaid : Prop := fnExactClockTickRow.holds Try.pinned (OpenSpec.ofChange fnExactClockTickSpec)

/-- ITS FALSE NEIGHBOUR: 'it returns false'. Refute it at one input. -/
def fnExactClockTickWrong : ChangeSpec := { name := "fnExactClockTick", fn := fun _ => fun
  | [d1, d2] => { results := [.lit (.bool false)], args := [d1, d2] }
  | _ => none }
def FnExactClockTickWrongFalsely : Prop := fnExactClockTickRow.holds Try.pinned (OpenSpec.ofChange fnExactClockTickWrong)

/- THE SECOND FORM. 'bulk': how many values and letters a reading holds, each counted each time it is reached (what is shared counts as often as it is met; a slice's spare places count too). A statement '..UptoSaid' is the law's where the arguments, and the package variables that the reading takes, are together of bulk at most 1048576: NARROWER than '..Said'. Prove '..Said' where nothing that the law and all that it calls make is longer than what came in: it says more and counts as full. Else prove '..UptoSaid'. A law counts once. -/
mutual
def uptoBulk {H : Type} : DataW H → Nat
  | .lit (.string bytes) => bytes.length + 1
  | .lit _ => 1
  | .nil => 1
  | .ptr d => uptoBulk d + 1
  | .slice elems spare => uptoBulkAll elems + uptoBulkAll spare + 1
  | .agg parts => uptoBulkAll parts + 1
  | .iface _ d => uptoBulk d + 1
  | .map entries => uptoBulkEntries entries + 1
  | .held _ => 1
def uptoBulkAll {H : Type} : List (DataW H) → Nat
  | [] => 0
  | d :: r => uptoBulk d + uptoBulkAll r
def uptoBulkEntries {H : Type} : List (Lit × DataW H) → Nat
  | [] => 0
  | x :: r => uptoBulkEntry x + uptoBulkEntries r
def uptoBulkEntry {H : Type} : Lit × DataW H → Nat
  | (.string bytes, d) => bytes.length + uptoBulk d + 1
  | (_, d) => uptoBulk d + 1
 end
def uptoSmall : (H : Type) → List (DataW H) → Bool := fun _ ds => decide (uptoBulkAll ds ≤ 1048576)
def OpenSpec.upto (s : _root_.Go.ChangeSpec) : _root_.Go.OpenSpec := { _root_.Go.OpenSpec.ofChange s with cond := some uptoSmall }

/-- 'laws.FnClockNew', WHERE WHAT IT READS IS OF BULK AT MOST 1048576: true; the input reads as it did. -/
def fnClockNewUptoRow : OpenClaim := { program := "ytlejcgnfpcngbaa", sum := "adefd95fde6a06d251def328f63485f9d1aea35c48fc5001765bc23fe812517f", func := "loop.example/quarterdeck/laws.FnClockNew", spec := "fnClockNew", apart := false, narrowed := true }
def FnClockNewUptoSaid : Prop := fnClockNewUptoRow.holds Try.pinned (OpenSpec.upto fnClockNewSpec)

/-- 'laws.FnExactClockNew', WHERE WHAT IT READS IS OF BULK AT MOST 1048576: true; the input reads as it did. -/
def fnExactClockNewUptoRow : OpenClaim := { program := "ytlejcgnfpcngbaa", sum := "adefd95fde6a06d251def328f63485f9d1aea35c48fc5001765bc23fe812517f", func := "loop.example/quarterdeck/laws.FnExactClockNew", spec := "fnExactClockNew", apart := false, narrowed := true }
def FnExactClockNewUptoSaid : Prop := fnExactClockNewUptoRow.holds Try.pinned (OpenSpec.upto fnExactClockNewSpec)

/-- 'laws.FnExactClockOk', WHERE WHAT IT READS IS OF BULK AT MOST 1048576: true; the input reads as it did. -/
def fnExactClockOkUptoRow : OpenClaim := { program := "ytlejcgnfpcngbaa", sum := "adefd95fde6a06d251def328f63485f9d1aea35c48fc5001765bc23fe812517f", func := "loop.example/quarterdeck/laws.FnExactClockOk", spec := "fnExactClockOk", apart := false, narrowed := true }
def FnExactClockOkUptoSaid : Prop := fnExactClockOkUptoRow.holds Try.pinned (OpenSpec.upto fnExactClockOkSpec)

/-- 'laws.FnExactClockNext', WHERE WHAT IT READS IS OF BULK AT MOST 1048576: true; the input reads as it did. -/
def fnExactClockNextUptoRow : OpenClaim := { program := "ytlejcgnfpcngbaa", sum := "adefd95fde6a06d251def328f63485f9d1aea35c48fc5001765bc23fe812517f", func := "loop.example/quarterdeck/laws.FnExactClockNext", spec := "fnExactClockNext", apart := false, narrowed := true }
def FnExactClockNextUptoSaid : Prop := fnExactClockNextUptoRow.holds Try.pinned (OpenSpec.upto fnExactClockNextSpec)

/-- 'laws.FnExactClockDrop', WHERE WHAT IT READS IS OF BULK AT MOST 1048576: true; the input reads as it did. -/
def fnExactClockDropUptoRow : OpenClaim := { program := "ytlejcgnfpcngbaa", sum := "adefd95fde6a06d251def328f63485f9d1aea35c48fc5001765bc23fe812517f", func := "loop.example/quarterdeck/laws.FnExactClockDrop", spec := "fnExactClockDrop", unfollowed := true, recurses := true, apart := false, narrowed := true }
def FnExactClockDropUptoSaid : Prop := fnExactClockDropUptoRow.holds Try.pinned (OpenSpec.upto fnExactClockDropSpec)

/-- 'laws.FnClockOften', WHERE WHAT IT READS IS OF BULK AT MOST 1048576: true; the input reads as it did. -/
def fnClockOftenUptoRow : OpenClaim := { program := "ytlejcgnfpcngbaa", sum := "adefd95fde6a06d251def328f63485f9d1aea35c48fc5001765bc23fe812517f", func := "loop.example/quarterdeck/laws.FnClockOften", spec := "fnClockOften", inPlace := ["slices.overlaps[loop.example/quarterdeck/impl.Alarm]"], unfollowed := true, recurses := true, apart := false, narrowed := true }
def FnClockOftenUptoSaid : Prop := fnClockOftenUptoRow.holds Try.pinned (OpenSpec.upto fnClockOftenSpec)

/-- 'laws.FnClockOk', WHERE WHAT IT READS IS OF BULK AT MOST 1048576: true; the input reads as it did. -/
def fnClockOkUptoRow : OpenClaim := { program := "ytlejcgnfpcngbaa", sum := "adefd95fde6a06d251def328f63485f9d1aea35c48fc5001765bc23fe812517f", func := "loop.example/quarterdeck/laws.FnClockOk", spec := "fnClockOk", inPlace := ["slices.overlaps[loop.example/quarterdeck/impl.Alarm]"], unfollowed := true, recurses := true, apart := false, narrowed := true }
def FnClockOkUptoSaid : Prop := fnClockOkUptoRow.holds Try.pinned (OpenSpec.upto fnClockOkSpec)

/-- 'laws.FnClockNext', WHERE WHAT IT READS IS OF BULK AT MOST 1048576: true; the input reads as it did. -/
def fnClockNextUptoRow : OpenClaim := { program := "ytlejcgnfpcngbaa", sum := "adefd95fde6a06d251def328f63485f9d1aea35c48fc5001765bc23fe812517f", func := "loop.example/quarterdeck/laws.FnClockNext", spec := "fnClockNext", inPlace := ["slices.overlaps[loop.example/quarterdeck/impl.Alarm]"], unfollowed := true, recurses := true, apart := false, narrowed := true }
def FnClockNextUptoSaid : Prop := fnClockNextUptoRow.holds Try.pinned (OpenSpec.upto fnClockNextSpec)

/-- 'laws.FnClockTick', WHERE WHAT IT READS IS OF BULK AT MOST 1048576: true; the input reads as it did. -/
def fnClockTickUptoRow : OpenClaim := { program := "ytlejcgnfpcngbaa", sum := "adefd95fde6a06d251def328f63485f9d1aea35c48fc5001765bc23fe812517f", func := "loop.example/quarterdeck/laws.FnClockTick", spec := "fnClockTick", inPlace := ["slices.overlaps[loop.example/quarterdeck/impl.Alarm]"], unfollowed := true, recurses := true, apart := false, narrowed := true }
def FnClockTickUptoSaid : Prop := fnClockTickUptoRow.holds Try.pinned (OpenSpec.upto fnClockTickSpec)

/-- 'laws.FnClockOrder', WHERE WHAT IT READS IS OF BULK AT MOST 1048576: true; the input reads as it did. -/
def fnClockOrderUptoRow : OpenClaim := { program := "ytlejcgnfpcngbaa", sum := "adefd95fde6a06d251def328f63485f9d1aea35c48fc5001765bc23fe812517f", func := "loop.example/quarterdeck/laws.FnClockOrder", spec := "fnClockOrder", inPlace := ["slices.overlaps[loop.example/quarterdeck/impl.Alarm]"], unfollowed := true, recurses := true, apart := false, narrowed := true }
def FnClockOrderUptoSaid : Prop := fnClockOrderUptoRow.holds Try.pinned (OpenSpec.upto fnClockOrderSpec)

/-- 'laws.FnClockSet', WHERE WHAT IT READS IS OF BULK AT MOST 1048576: true; the input reads as it did. -/
def fnClockSetUptoRow : OpenClaim := { program := "ytlejcgnfpcngbaa", sum := "adefd95fde6a06d251def328f63485f9d1aea35c48fc5001765bc23fe812517f", func := "loop.example/quarterdeck/laws.FnClockSet", spec := "fnClockSet", inPlace := ["slices.overlaps[loop.example/quarterdeck/impl.Alarm]"], unfollowed := true, recurses := true, apart := false, narrowed := true }
def FnClockSetUptoSaid : Prop := fnClockSetUptoRow.holds Try.pinned (OpenSpec.upto fnClockSetSpec)

/-- 'laws.FnExactClockSet', WHERE WHAT IT READS IS OF BULK AT MOST 1048576: true; the input reads as it did. -/
def fnExactClockSetUptoRow : OpenClaim := { program := "ytlejcgnfpcngbaa", sum := "adefd95fde6a06d251def328f63485f9d1aea35c48fc5001765bc23fe812517f", func := "loop.example/quarterdeck/laws.FnExactClockSet", spec := "fnExactClockSet", inPlace := ["slices.overlaps[loop.example/quarterdeck/impl.Alarm]"], unfollowed := true, recurses := true, apart := false, narrowed := true }
def FnExactClockSetUptoSaid : Prop := fnExactClockSetUptoRow.holds Try.pinned (OpenSpec.upto fnExactClockSetSpec)

/-- 'laws.FnExactClockTick', WHERE WHAT IT READS IS OF BULK AT MOST 1048576: true; the input reads as it did. -/
def fnExactClockTickUptoRow : OpenClaim := { program := "ytlejcgnfpcngbaa", sum := "adefd95fde6a06d251def328f63485f9d1aea35c48fc5001765bc23fe812517f", func := "loop.example/quarterdeck/laws.FnExactClockTick", spec := "fnExactClockTick", inPlace := ["slices.overlaps[loop.example/quarterdeck/impl.Alarm]"], unfollowed := true, recurses := true, apart := false, narrowed := true }
def FnExactClockTickUptoSaid : Prop := fnExactClockTickUptoRow.holds Try.pinned (OpenSpec.upto fnExactClockTickSpec)

end Rows
end Go.Proofs.Ytlejcgnfpcngbaa
