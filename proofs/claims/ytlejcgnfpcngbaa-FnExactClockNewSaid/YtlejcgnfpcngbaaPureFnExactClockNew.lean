/- ClockNew and its reference agree on every time. -/
import Derived.Test.YtlejcgnfpcngbaaPflawsFnExactClockNew
import Derived.Test.YtlejcgnfpcngbaaQClockEx
namespace Go.Proofs.Ytlejcgnfpcngbaa.Pure
open Go.RowKit Go.Proofs.YtlejcgnfpcngbaaW.PrintWords Go.Proofs.Ytlejcgnfpcngbaa.P Go.Proofs.Ytlejcgnfpcngbaa.Q
theorem clockNew_same (n : Int) : ∃ (m : Int) (b : Bool), spec_ClockNew.f n = some (m, [], b) ∧ impl_ClockNew.f n = some (m, [], b) := by
  unfold spec_ClockNew.f impl_ClockNew.f spec_l19Time.f spec_l6In.f impl_in.f
  by_cases h : n ≥ 0
  · by_cases h' : n ≤ 4095
    · exact ⟨n, true, by simp [h, h'], by simp [h, h']⟩
    · exact ⟨0, false, by simp [h, h'], by simp [h, h']⟩
  · exact ⟨0, false, by simp [h], by simp [h]⟩
theorem FnExactClockNew : laws_FnExactClockNew.Pure := by
  intro n hw
  refine Ev.rounds (r := true) ?_
  unfold laws_FnExactClockNew.f
  obtain ⟨m, b, hs, hi⟩ := clockNew_same n
  have eqs : Ev (fun k => laws_eqClock.f k m [] m []) true := eqClock_self m [] (by simp)
  obtain ⟨l', hm, hh, hl⟩ := markClock_held m [] 1 (by decide) (by simp)
  refine Ev.bind (Ev.const hs) (Ev.bind (Ev.const hi) (Ev.bind eqs (Ev.pos rfl ?_)))
  refine Ev.step (fun k => by simp only [laws_FnExactClockNew.j0]; rfl) ?_
  refine Ev.neg (by simp) (Ev.bind hm (Ev.bind hh (Ev.neg (by simp) (Ev.pos rfl (Ev.bind (Ev.const hi) (Ev.bind eqs (Ev.pos rfl ?_)))))))
  refine Ev.step (fun k => by simp only [laws_FnExactClockNew.j1]; rfl) ?_
  exact Ev.neg (by simp) (Ev.bind hh (Ev.neg (by simp) (Ev.pos rfl (Ev.pure rfl))))
end Go.Proofs.Ytlejcgnfpcngbaa.Pure
