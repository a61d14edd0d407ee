-- printed by wip/qd.py
import Derived.Test.YtkjjlkkfhbfbmaaDoorPf0
import Derived.Test.YtkjjlkkfhbfbmaaDoorQShelf
namespace Go.Proofs.YtkjjlkkfhbfbmaaDoor.P
open Go.RowKit Go.Proofs.YtkjjlkkfhbfbmaaDoorW.PrintWords Go.Proofs.YtkjjlkkfhbfbmaaDoorW.PrintLast Go.Proofs.YtkjjlkkfhbfbmaaDoorW.PrintMore
attribute [local go_sem] max2_int min2_int max_two min_two max_three min_three max_four min_four Q.cell_set_map Q.str_gtr Q.str_geq Q.str_leq
set_option linter.unusedVariables false
set_option linter.unusedSimpArgs false

/-! ### strings_Count: function 36 -/
-- IMPORT Derived.Test.YtkjjlkkfhbfbmaaDoorQShelf
def strings_Count.f (a0 : ByteArray) (a1 : ByteArray) : Option Int := if a1.size = 1 then some (Lib.countByte a0.data.toList (a1.data.getD 0 0)) else none
theorem strings_Count.one (a1 : ByteArray) (h : a1.size = 1) : a1 = ⟨#[a1.data.getD 0 0]⟩ := by
  obtain ⟨⟨l⟩⟩ := a1
  rcases l with _ | ⟨x, _ | ⟨y, l⟩⟩
  · cases h
  · rfl
  · simp [ByteArray.size] at h
theorem strings_Count.calls (a0 : ByteArray) (a1 : ByteArray) (r1 : Int) (w : World) (h : strings_Count.f a0 a1 = some r1) :
    Calls Tryd.prog 36 #[.string a0, .string a1] w fun e w' => e = .returned (.int .i64 r1) ∧ Drawn0 w w' := by
  unfold strings_Count.f at h
  split at h
  · rename_i h1
    obtain rfl := Option.some.inj h
    have hh := Tryd.strings_Count_one a0 (a1.data.getD 0 0) w
    rw [← strings_Count.one a1 h1] at hh
    refine hh.mono ?_
    rintro e w' ⟨rfl, rfl⟩
    exact ⟨rfl, 0, rfl⟩
  · cases h


end Go.Proofs.YtkjjlkkfhbfbmaaDoor.P
