/- A rule for the walk: a cell that was written twice. -/
import Derived.Test.YtlahnekinlkfmaaV
namespace Go.Proofs.Ytlahnekinlkfmaa.Q
set_option linter.unusedSimpArgs false
theorem cell_set_map (w : World) (a : Addr) (v : Value) : (w.setCell a v).cell? a = (w.cell? a).map fun _ => v := by
  cases h : w.cell? a with
  | some u => rw [World.cell?_setCell_same (w := w) (a := a) (v := v) (u := u) h]; rfl
  | none =>
    unfold World.cell? World.setCell at *
    simp only [Array.getElem?_modify, if_true]
    revert h
    cases hb : w.heap[a.block]? with
    | none => intro _; rfl
    | some o =>
      cases o with
      | cells c e f =>
        simp only [Option.map_some]
        by_cases hs : a.spot.isSome = true
        · simp [hs]
        · simp only [hs, if_false]
          intro h
          have : c.size ≤ a.off := by simpa using h
          simp [this]
      | _ => intro _; rfl
end Go.Proofs.Ytlahnekinlkfmaa.Q
