/- ClockNext and its reference agree on every clock. -/
import Derived.Test.YtlejcgnfpcngbaaQSFnExactClockNext
import Derived.Test.YtlejcgnfpcngbaaQClock
namespace Go.Proofs.Ytlejcgnfpcngbaa.QPure
open Go.RowKit Go.Proofs.YtlejcgnfpcngbaaW.PrintWords Go.Proofs.Ytlejcgnfpcngbaa.P Go.Proofs.Ytlejcgnfpcngbaa.Q
theorem FnExactClockNext : laws_FnExactClockNext.Pure := by
  intro c l hc hl
  refine Ev.rounds (r := true) ?_
  unfold laws_FnExactClockNext.f
  have hn := hl.1
  refine Ev.bind (Ev.const (szClock_eq c l hn _ (by decide) (by decide))) ?_
  by_cases hs : szR 1048576 l.length < 0
  · exact Ev.pos hs (Ev.pure rfl)
  · refine Ev.neg hs ?_
    have hb : l.length ≤ 1048576 := by
      unfold szR at hs
      split at hs <;> omega
    have hm : (l.map toAl).length ≤ 9223372036854775807 := by simp; omega
    have ht := toClock_ev c l hb
    refine Ev.bind ht (Ev.bind (specNext c _ hm) (Ev.bind ht (Ev.bind (Ev.const (implNext c _)) ?_)))
    refine Ev.pos rfl (Ev.pos rfl ?_)
    refine Ev.step (fun k => by simp only [laws_FnExactClockNext.j0]; rfl) (Ev.neg (by simp) ?_)
    exact Ev.bind ht (Ev.bind (eqClock_self c _ hm) (Ev.pos rfl (Ev.pure rfl)))
end Go.Proofs.Ytlejcgnfpcngbaa.QPure
