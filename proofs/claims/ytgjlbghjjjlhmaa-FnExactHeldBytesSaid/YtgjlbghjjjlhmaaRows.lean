/-
  No cell of these rows narrows 'for every input' (looked for: loops, veiled, ifaces, maps, wideKeys, modest, calm, conditions, laid).
  DERIVED. THE GIVEN ROWS OF THIS SEAT. 7 by the template 'for every input the law returns true; each argument reads behind the call as it read before'; 0 by the template 'total and deterministic' (their statements: YtgjlbghjjjlhmaaTotals.lean).
  GIVEN WITH THE SEED: the statements are not yours to turn. If you find one false, say at which input.
  Laid BY PROGRAM, IN A SANDBOX (cutbox-rows.mjs): the forced cells as the released guide's own fill.sh prints them over the translation bc02eb75df6ad115… (all of the seat's roots in one cut). By AI agents, Wed Nov 11 2026. No macro, syntax, notation, axiom, sorry.
-/
import Derived.Test.YtgjlbghjjjlhmaaChecked
import GoSem.Claim
import GoSem.ClaimJoined
import GoSem.ClaimMapViews
import Derived.JoinedTies
import Derived.KernelRfl
namespace Go.Proofs.Ytgjlbghjjjlhmaa
/- THE CELL 'sum', in the pinned program and in every row, IS THE sha256 OF THE DUMP (.gsa) THAT YtgjlbghjjjlhmaaProg.lean LOADS. Nothing in Lean hashes anything: it is a label: what it is worth is what the hold of that sum in a sandbox is worth. -/
noncomputable def Try.pinned : Pinned := { name := "ytgjlbghjjjlhmaa", sum := "bc02eb75df6ad1156eaf4bcc22ced39a121f75852a3179d305a71cc797f1a7b5", checked := Try.checked }
namespace Rows
def none {H : Type} : Left H := { results := [], args := [] }

/-- 'laws.FnExactHeldOk': WHATEVER THE INPUT: true; the input reads as it did. -/
def fnExactHeldOkSpec : ChangeSpec := { name := "fnExactHeldOk", fn := fun _ => fun
  | [d] => { results := [.lit (.bool true)], args := [d] }
  | _ => none }
def fnExactHeldOkRow : OpenClaim := { program := "ytgjlbghjjjlhmaa", sum := "bc02eb75df6ad1156eaf4bcc22ced39a121f75852a3179d305a71cc797f1a7b5", func := "loop.example/quarterdeck/laws.FnExactHeldOk", spec := "fnExactHeldOk", recurses := true, apart := false }
def FnExactHeldOkSaid : Prop := fnExactHeldOkRow.holds Try.pinned (OpenSpec.ofChange fnExactHeldOkSpec)

/-- ITS FALSE NEIGHBOUR: 'it returns false'. Refute it at one input. -/
def fnExactHeldOkWrong : ChangeSpec := { name := "fnExactHeldOk", fn := fun _ => fun
  | [d] => { results := [.lit (.bool false)], args := [d] }
  | _ => none }
def FnExactHeldOkWrongFalsely : Prop := fnExactHeldOkRow.holds Try.pinned (OpenSpec.ofChange fnExactHeldOkWrong)

/-- 'laws.FnExactHeldMay': WHATEVER THE INPUT: true; the input reads as it did. -/
def fnExactHeldMaySpec : ChangeSpec := { name := "fnExactHeldMay", fn := fun _ => fun
  | [d1, d2, d3, d4] => { results := [.lit (.bool true)], args := [d1, d2, d3, d4] }
  | _ => none }
def fnExactHeldMayRow : OpenClaim := { program := "ytgjlbghjjjlhmaa", sum := "bc02eb75df6ad1156eaf4bcc22ced39a121f75852a3179d305a71cc797f1a7b5", func := "loop.example/quarterdeck/laws.FnExactHeldMay", spec := "fnExactHeldMay", unfollowed := true, recurses := true, apart := false }
def FnExactHeldMaySaid : Prop := fnExactHeldMayRow.holds Try.pinned (OpenSpec.ofChange fnExactHeldMaySpec)

/-- ITS FALSE NEIGHBOUR: 'it returns false'. Refute it at one input. -/
def fnExactHeldMayWrong : ChangeSpec := { name := "fnExactHeldMay", fn := fun _ => fun
  | [d1, d2, d3, d4] => { results := [.lit (.bool false)], args := [d1, d2, d3, d4] }
  | _ => none }
def FnExactHeldMayWrongFalsely : Prop := fnExactHeldMayRow.holds Try.pinned (OpenSpec.ofChange fnExactHeldMayWrong)

/-- 'laws.FnExactHeldClash': WHATEVER THE INPUT: true; the input reads as it did. -/
def fnExactHeldClashSpec : ChangeSpec := { name := "fnExactHeldClash", fn := fun _ => fun
  | [d1, d2] => { results := [.lit (.bool true)], args := [d1, d2] }
  | _ => none }
def fnExactHeldClashRow : OpenClaim := { program := "ytgjlbghjjjlhmaa", sum := "bc02eb75df6ad1156eaf4bcc22ced39a121f75852a3179d305a71cc797f1a7b5", func := "loop.example/quarterdeck/laws.FnExactHeldClash", spec := "fnExactHeldClash", recurses := true, apart := false }
def FnExactHeldClashSaid : Prop := fnExactHeldClashRow.holds Try.pinned (OpenSpec.ofChange fnExactHeldClashSpec)

/-- ITS FALSE NEIGHBOUR: 'it returns false'. Refute it at one input. -/
def fnExactHeldClashWrong : ChangeSpec := { name := "fnExactHeldClash", fn := fun _ => fun
  | [d1, d2] => { results := [.lit (.bool false)], args := [d1, d2] }
  | _ => none }
def FnExactHeldClashWrongFalsely : Prop := fnExactHeldClashRow.holds Try.pinned (OpenSpec.ofChange fnExactHeldClashWrong)

/-- 'laws.FnHeldOk': WHATEVER THE INPUT: true; the input reads as it did. -/
def fnHeldOkSpec : ChangeSpec := { name := "fnHeldOk", fn := fun _ => fun
  | [d] => { results := [.lit (.bool true)], args := [d] }
  | _ => none }
def fnHeldOkRow : OpenClaim := { program := "ytgjlbghjjjlhmaa", sum := "bc02eb75df6ad1156eaf4bcc22ced39a121f75852a3179d305a71cc797f1a7b5", func := "loop.example/quarterdeck/laws.FnHeldOk", spec := "fnHeldOk", unfollowed := true, recurses := true, apart := false }
def FnHeldOkSaid : Prop := fnHeldOkRow.holds Try.pinned (OpenSpec.ofChange fnHeldOkSpec)

/-- ITS FALSE NEIGHBOUR: 'it returns false'. Refute it at one input. -/
def fnHeldOkWrong : ChangeSpec := { name := "fnHeldOk", fn := fun _ => fun
  | [d] => { results := [.lit (.bool false)], args := [d] }
  | _ => none }
def FnHeldOkWrongFalsely : Prop := fnHeldOkRow.holds Try.pinned (OpenSpec.ofChange fnHeldOkWrong)

/-- 'laws.FnHeldMay': WHATEVER THE INPUT: true; the input reads as it did. -/
def fnHeldMaySpec : ChangeSpec := { name := "fnHeldMay", fn := fun _ => fun
  | [d] => { results := [.lit (.bool true)], args := [d] }
  | _ => none }
def fnHeldMayRow : OpenClaim := { program := "ytgjlbghjjjlhmaa", sum := "bc02eb75df6ad1156eaf4bcc22ced39a121f75852a3179d305a71cc797f1a7b5", func := "loop.example/quarterdeck/laws.FnHeldMay", spec := "fnHeldMay", unfollowed := true, recurses := true, apart := false }
def FnHeldMaySaid : Prop := fnHeldMayRow.holds Try.pinned (OpenSpec.ofChange fnHeldMaySpec)

/-- ITS FALSE NEIGHBOUR: 'it returns false'. Refute it at one input. -/
def fnHeldMayWrong : ChangeSpec := { name := "fnHeldMay", fn := fun _ => fun
  | [d] => { results := [.lit (.bool false)], args := [d] }
  | _ => none }
def FnHeldMayWrongFalsely : Prop := fnHeldMayRow.holds Try.pinned (OpenSpec.ofChange fnHeldMayWrong)

/-- 'laws.FnExactHeldBytes': WHATEVER THE INPUT: true; the input reads as it did. -/
def fnExactHeldBytesSpec : ChangeSpec := { name := "fnExactHeldBytes", fn := fun _ => fun
  | [d] => { results := [.lit (.bool true)], args := [d] }
  | _ => none }
def fnExactHeldBytesRow : OpenClaim := { program := "ytgjlbghjjjlhmaa", sum := "bc02eb75df6ad1156eaf4bcc22ced39a121f75852a3179d305a71cc797f1a7b5", func := "loop.example/quarterdeck/laws.FnExactHeldBytes", spec := "fnExactHeldBytes", recurses := true, apart := false }
def FnExactHeldBytesSaid : Prop := fnExactHeldBytesRow.holds Try.pinned (OpenSpec.ofChange fnExactHeldBytesSpec)

/-- ITS FALSE NEIGHBOUR: 'it returns false'. Refute it at one input. -/
def fnExactHeldBytesWrong : ChangeSpec := { name := "fnExactHeldBytes", fn := fun _ => fun
  | [d] => { results := [.lit (.bool false)], args := [d] }
  | _ => none }
def FnExactHeldBytesWrongFalsely : Prop := fnExactHeldBytesRow.holds Try.pinned (OpenSpec.ofChange fnExactHeldBytesWrong)

/-- 'laws.FnHeldBytes': WHATEVER THE INPUT: true; the input reads as it did. -/
def fnHeldBytesSpec : ChangeSpec := { name := "fnHeldBytes", fn := fun _ => fun
  | [d] => { results := [.lit (.bool true)], args := [d] }
  | _ => none }
def fnHeldBytesRow : OpenClaim := { program := "ytgjlbghjjjlhmaa", sum := "bc02eb75df6ad1156eaf4bcc22ced39a121f75852a3179d305a71cc797f1a7b5", func := "loop.example/quarterdeck/laws.FnHeldBytes", spec := "fnHeldBytes", unfollowed := true, recurses := true, apart := false }
def FnHeldBytesSaid : Prop := fnHeldBytesRow.holds Try.pinned (OpenSpec.ofChange fnHeldBytesSpec)

/-- ITS FALSE NEIGHBOUR: 'it returns false'. Refute it at one input. -/
def fnHeldBytesWrong : ChangeSpec := { name := "fnHeldBytes", fn := fun _ => fun
  | [d] => { results := [.lit (.bool false)], args := [d] }
  | _ => none }
def FnHeldBytesWrongFalsely : Prop := fnHeldBytesRow.holds Try.pinned (OpenSpec.ofChange fnHeldBytesWrong)

/- THE SECOND FORM. 'bulk': how many values and letters a reading holds, each counted each time it is reached (what is shared counts as often as it is met; a slice's spare places count too). A statement '..UptoSaid' is the law's where the arguments, and the package variables that the reading takes, are together of bulk at most 1048576: NARROWER than '..Said'. Prove '..Said' where nothing that the law and all that it calls make is longer than what came in: it says more and counts as full. Else prove '..UptoSaid'. A law counts once. -/
mutual
def uptoBulk {H : Type} : DataW H → Nat
  | .lit (.string bytes) => bytes.length + 1
  | .lit _ => 1
  | .nil => 1
  | .ptr d => uptoBulk d + 1
  | .slice elems spare => uptoBulkAll elems + uptoBulkAll spare + 1
  | .agg parts => uptoBulkAll parts + 1
  | .iface _ d => uptoBulk d + 1
  | .map entries => uptoBulkEntries entries + 1
  | .held _ => 1
def uptoBulkAll {H : Type} : List (DataW H) → Nat
  | [] => 0
  | d :: r => uptoBulk d + uptoBulkAll r
def uptoBulkEntries {H : Type} : List (Lit × DataW H) → Nat
  | [] => 0
  | x :: r => uptoBulkEntry x + uptoBulkEntries r
def uptoBulkEntry {H : Type} : Lit × DataW H → Nat
  | (.string bytes, d) => bytes.length + uptoBulk d + 1
  | (_, d) => uptoBulk d + 1
 end
def uptoSmall : (H : Type) → List (DataW H) → Bool := fun _ ds => decide (uptoBulkAll ds ≤ 1048576)
def OpenSpec.upto (s : _root_.Go.ChangeSpec) : _root_.Go.OpenSpec := { _root_.Go.OpenSpec.ofChange s with cond := some uptoSmall }

/-- 'laws.FnExactHeldOk', WHERE WHAT IT READS IS OF BULK AT MOST 1048576: true; the input reads as it did. -/
def fnExactHeldOkUptoRow : OpenClaim := { program := "ytgjlbghjjjlhmaa", sum := "bc02eb75df6ad1156eaf4bcc22ced39a121f75852a3179d305a71cc797f1a7b5", func := "loop.example/quarterdeck/laws.FnExactHeldOk", spec := "fnExactHeldOk", recurses := true, apart := false, narrowed := true }
def FnExactHeldOkUptoSaid : Prop := fnExactHeldOkUptoRow.holds Try.pinned (OpenSpec.upto fnExactHeldOkSpec)

/-- 'laws.FnExactHeldMay', WHERE WHAT IT READS IS OF BULK AT MOST 1048576: true; the input reads as it did. -/
def fnExactHeldMayUptoRow : OpenClaim := { program := "ytgjlbghjjjlhmaa", sum := "bc02eb75df6ad1156eaf4bcc22ced39a121f75852a3179d305a71cc797f1a7b5", func := "loop.example/quarterdeck/laws.FnExactHeldMay", spec := "fnExactHeldMay", unfollowed := true, recurses := true, apart := false, narrowed := true }
def FnExactHeldMayUptoSaid : Prop := fnExactHeldMayUptoRow.holds Try.pinned (OpenSpec.upto fnExactHeldMaySpec)

/-- 'laws.FnExactHeldClash', WHERE WHAT IT READS IS OF BULK AT MOST 1048576: true; the input reads as it did. -/
def fnExactHeldClashUptoRow : OpenClaim := { program := "ytgjlbghjjjlhmaa", sum := "bc02eb75df6ad1156eaf4bcc22ced39a121f75852a3179d305a71cc797f1a7b5", func := "loop.example/quarterdeck/laws.FnExactHeldClash", spec := "fnExactHeldClash", recurses := true, apart := false, narrowed := true }
def FnExactHeldClashUptoSaid : Prop := fnExactHeldClashUptoRow.holds Try.pinned (OpenSpec.upto fnExactHeldClashSpec)

/-- 'laws.FnHeldOk', WHERE WHAT IT READS IS OF BULK AT MOST 1048576: true; the input reads as it did. -/
def fnHeldOkUptoRow : OpenClaim := { program := "ytgjlbghjjjlhmaa", sum := "bc02eb75df6ad1156eaf4bcc22ced39a121f75852a3179d305a71cc797f1a7b5", func := "loop.example/quarterdeck/laws.FnHeldOk", spec := "fnHeldOk", unfollowed := true, recurses := true, apart := false, narrowed := true }
def FnHeldOkUptoSaid : Prop := fnHeldOkUptoRow.holds Try.pinned (OpenSpec.upto fnHeldOkSpec)

/-- 'laws.FnHeldMay', WHERE WHAT IT READS IS OF BULK AT MOST 1048576: true; the input reads as it did. -/
def fnHeldMayUptoRow : OpenClaim := { program := "ytgjlbghjjjlhmaa", sum := "bc02eb75df6ad1156eaf4bcc22ced39a121f75852a3179d305a71cc797f1a7b5", func := "loop.example/quarterdeck/laws.FnHeldMay", spec := "fnHeldMay", unfollowed := true, recurses := true, apart := false, narrowed := true }
def FnHeldMayUptoSaid : Prop := fnHeldMayUptoRow.holds Try.pinned (OpenSpec.upto fnHeldMaySpec)

/-- 'laws.FnExactHeldBytes', WHERE WHAT IT READS IS OF BULK AT MOST 1048576: true; the input reads as it did. -/
def fnExactHeldBytesUptoRow : OpenClaim := { program := "ytgjlbghjjjlhmaa", sum := "bc02eb75df6ad1156eaf4bcc22ced39a121f75852a3179d305a71cc797f1a7b5", func := "loop.example/quarterdeck/laws.FnExactHeldBytes", spec := "fnExactHeldBytes", recurses := true, apart := false, narrowed := true }
def FnExactHeldBytesUptoSaid : Prop := fnExactHeldBytesUptoRow.holds Try.pinned (OpenSpec.upto fnExactHeldBytesSpec)

/-- 'laws.FnHeldBytes', WHERE WHAT IT READS IS OF BULK AT MOST 1048576: true; the input reads as it did. -/
def fnHeldBytesUptoRow : OpenClaim := { program := "ytgjlbghjjjlhmaa", sum := "bc02eb75df6ad1156eaf4bcc22ced39a121f75852a3179d305a71cc797f1a7b5", func := "loop.example/quarterdeck/laws.FnHeldBytes", spec := "fnHeldBytes", unfollowed := true, recurses := true, apart := false, narrowed := true }
def FnHeldBytesUptoSaid : Prop := fnHeldBytesUptoRow.holds Try.pinned (OpenSpec.upto fnHeldBytesSpec)

end Rows
end Go.Proofs.Ytgjlbghjjjlhmaa
