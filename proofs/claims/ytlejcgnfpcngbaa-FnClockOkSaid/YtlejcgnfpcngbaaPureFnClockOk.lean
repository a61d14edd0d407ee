/- Just valid clocks tick. -/
import Derived.Test.YtlejcgnfpcngbaaPflawsFnClockOk
import Derived.Test.YtlejcgnfpcngbaaQClockDraw
namespace Go.Proofs.Ytlejcgnfpcngbaa.Pure
open Go.RowKit Go.Proofs.YtlejcgnfpcngbaaW.PrintWords Go.Proofs.Ytlejcgnfpcngbaa.P Go.Proofs.Ytlejcgnfpcngbaa.Q
theorem ring_now {n : Int} {l : List Al} (h : clockOk n l = true) : ring n l = (l, []) := by
  cases l with
  | nil => exact ring_nil n
  | cons a l => exact ring_stop ((clockOk_iff.1 h).1.2 a (by simp)).2.1.1
theorem FnClockOk : laws_FnClockOk.Pure := by
  intro c _ _ hw
  refine Ev.rounds (r := true) ?_
  unfold laws_FnClockOk.f
  by_cases h : (c.length : Int) > 1048576
  · exact Ev.pos h (Ev.pure rfl)
  refine Ev.neg h ?_
  obtain ⟨n, l, ed, hn, hl⟩ := clock_of (F := spec_DrawClockOk.f) (fun k c => by unfold spec_DrawClockOk.f; rfl) c hw (by omega)
  refine Ev.bind ed (Ev.bind (Ev.const (implClockOk n l)) (Ev.bind (specClockOk n l (by omega)) (Ev.pos (by simp) (Ev.bind (implTick n l 0 (by omega)) ?_))))
  cases hk : clockOk n l with
  | false =>
    have e : clockTick n l 0 = (0, [], [], false) := by
      unfold clockTick
      rw [if_neg (by rw [hk]; simp)]
    rw [e]
    exact Ev.pos rfl (Ev.pos rfl (Ev.neg (by simp) (Ev.pure rfl)))
  | true =>
    have hc := (clockOk_iff.1 hk).2.1
    have e : clockTick n l 0 = (n, l, [], true) := by
      rw [(tick_pos hk (by omega) (by omega) (by omega)).1]
      have e0 : n + 0 = n := by omega
      rw [e0, ring_now hk]
    rw [e]
    exact Ev.pos rfl (Ev.pos rfl (Ev.pos rfl (Ev.bind (qdClock_self n l (by omega)) (Ev.now _))))
end Go.Proofs.Ytlejcgnfpcngbaa.Pure
