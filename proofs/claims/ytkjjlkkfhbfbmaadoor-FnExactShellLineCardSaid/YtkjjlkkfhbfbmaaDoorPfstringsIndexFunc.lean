-- printed by wip/qd.py
import Derived.Test.YtkjjlkkfhbfbmaaDoorPf0
import Derived.Test.YtkjjlkkfhbfbmaaDoorPfimplnameOk1
import Derived.Test.YtkjjlkkfhbfbmaaDoorQShelf
namespace Go.Proofs.YtkjjlkkfhbfbmaaDoor.P
open Go.RowKit Go.Proofs.YtkjjlkkfhbfbmaaDoorW.PrintWords Go.Proofs.YtkjjlkkfhbfbmaaDoorW.PrintLast Go.Proofs.YtkjjlkkfhbfbmaaDoorW.PrintMore
attribute [local go_sem] max2_int min2_int max_two min_two max_three min_three max_four min_four Q.cell_set_map Q.str_gtr Q.str_geq Q.str_leq
set_option linter.unusedVariables false
set_option linter.unusedSimpArgs false

/-! ### strings_IndexFunc: function 45 -/
-- IMPORT Derived.Test.YtkjjlkkfhbfbmaaDoorQShelf
def strings_IndexFunc.p (x : Nat) : Bool := if (x : Int) < 97 then true else decide ((x : Int) > 122)
def strings_IndexFunc.f (a0 : ByteArray) : Option Int := some (Lib.idxFunc strings_IndexFunc.p true a0)
theorem strings_IndexFunc.given (x : Nat) : impl_nameOk_1.f (x : Int) = some (strings_IndexFunc.p x) := by
  unfold impl_nameOk_1.f strings_IndexFunc.p
  by_cases h : (x : Int) < 97
  · rw [if_pos h, if_pos h]
  · rw [if_neg h, if_neg h]
theorem strings_IndexFunc.calls (a0 : ByteArray) (r1 : Int) (w : World) (h : strings_IndexFunc.f a0 = some r1) :
    Calls Tryd.prog 45 #[.string a0, .func (.func 46) #[] #[]] w fun e w' => e = .returned (.int .i64 r1) ∧ Below w.heap.size w w' := by
  obtain rfl := Option.some.inj h
  refine Tryd.strings_IndexFunc_runes 46 #[] ?_ strings_IndexFunc.p a0 w ?_
  · exact enters_of Tryd.func46 (by kernel_rfl) rfl
  · intro W x hx hb
    unfold FnGives
    rw [show #[encR x] ++ (#[] : Array Value) = #[Value.int .i32 (x : Int)] from rfl]
    refine (impl_nameOk_1.calls (x : Int) _ W (strings_IndexFunc.given x)).mono ?_
    rintro e w' ⟨h1, n, h2⟩
    exact ⟨h1, n, h2⟩


end Go.Proofs.YtkjjlkkfhbfbmaaDoor.P
