/- Clocks: the next ring. -/
import Derived.Test.YtlejcgnfpcngbaaQClock
import Derived.Test.YtlejcgnfpcngbaaPf0
import Derived.Test.YtlejcgnfpcngbaaPfimplClockNext
import Derived.Test.YtlejcgnfpcngbaaPfspecClockNext
namespace Go.Proofs.Ytlejcgnfpcngbaa.Q
open Go.RowKit Go.Proofs.YtlejcgnfpcngbaaW.PrintWords Go.Proofs.YtlejcgnfpcngbaaW.PrintLast Go.Proofs.YtlejcgnfpcngbaaW.PrintMore Go.Proofs.Ytlejcgnfpcngbaa.P
set_option linter.unusedVariables false
set_option linter.unusedSimpArgs false
-- the next one
def clockNext (n : Int) (l : List Al) : Int × Int × Bool := if clockOk n l = true then (match l with | [] => (0, 0, false) | a :: _ => (wrap64 (a.f1 - n), a.f0, true)) else (0, 0, false)
theorem implNext (n : Int) (l : List Al) : impl_ClockNext.f n l = some (clockNext n l) := by
  unfold impl_ClockNext.f clockNext
  rw [implClockOk]
  cases h : clockOk n l with
  | false => simp
  | true =>
    cases l with
    | nil => simp
    | cons a l =>
      have : ¬ ((l.length : Int) + 1 = 0) := by omega
      have h2 : (0 : Int) < (l.length : Int) + 1 := by omega
      simp [this, h2, rd_T62]
theorem specNext (n : Int) (l : List Al) (hn : l.length ≤ 9223372036854775807) : Ev (fun k => spec_ClockNext.f k n l) (clockNext n l) := by
  unfold spec_ClockNext.f clockNext
  refine Ev.bind (specClockOk n l hn) ?_
  cases h : clockOk n l with
  | false => exact Ev.neg (by decide) (Ev.pure (by simp))
  | true =>
    refine Ev.pos (by trivial) ?_
    cases l with
    | nil => exact Ev.pos rfl (Ev.pure (by simp))
    | cons a l => exact Ev.neg (by simp; omega) (Ev.pos (by first | (simp; done) | (simp; omega)) (Ev.pure (by simp [rd_T62])))
end Go.Proofs.Ytlejcgnfpcngbaa.Q
