/- Clocks: setting an alarm, the reference's. -/
import Derived.Test.YtlejcgnfpcngbaaQClockS
import Derived.Test.YtlejcgnfpcngbaaPfspecClockSet
namespace Go.Proofs.Ytlejcgnfpcngbaa.Q
open Go.RowKit Go.Proofs.YtlejcgnfpcngbaaW.PrintWords Go.Proofs.YtlejcgnfpcngbaaW.PrintLast Go.Proofs.YtlejcgnfpcngbaaW.PrintMore Go.Proofs.Ytlejcgnfpcngbaa.P
set_option linter.unusedVariables false
set_option linter.unusedSimpArgs false
theorem specSet (n : Int) (l : List Al) (id ticks every : Int) (hl : l.length ≤ 1000000000) (hn : -9223372036854775808 ≤ n ∧ n ≤ 9223372036854775807) (ht : -9223372036854775808 ≤ ticks ∧ ticks ≤ 9223372036854775807) : Ev (fun k => spec_ClockSet.f k n l id ticks every) (clockSet n l id ticks every) := by
  unfold spec_ClockSet.f clockSet
  have out : ∀ r : Int × List Al × Bool, r = (0, [], false) → Ev (fun k => spec_ClockSet.j0 k id ticks every true n l) r := fun r hr =>
    Ev.step (fun k => by simp only [spec_ClockSet.j0]; rfl) (Ev.pos (by trivial) (Ev.pure hr.symm))
  refine Ev.bind (specClockOk n l (by omega)) ?_
  cases h0 : clockOk n l with
  | false => exact Ev.neg (by decide) (out _ (by simp))
  | true =>
    obtain ⟨k1, k2, k3⟩ := clockOk_iff.1 h0
    refine Ev.pos rfl (Ev.bind (Ev.const (l6In_eq id 0 99)) ?_)
    cases h1 : inR id 0 99 with
    | false =>
      refine Ev.neg (by decide) (out _ ?_)
      rw [if_neg (fun h => (inR_not.1 h1) h.2.1)]
    | true =>
      refine Ev.pos rfl ?_
      rw [wrap_id (n := 4095 - n) (by omega) (by omega)]
      refine Ev.bind (Ev.const (l6In_eq ticks 1 (4095 - n))) ?_
      cases h2 : inR ticks 1 (4095 - n) with
      | false =>
        refine Ev.neg (by decide) (out _ ?_)
        rw [if_neg (fun h => (inR_not.1 h2) h.2.2.1)]
      | true =>
        refine Ev.pos rfl (Ev.bind (Ev.const (l6In_eq every 0 99)) ?_)
        cases h3 : inR every 0 99 with
        | false =>
          refine out _ ?_
          rw [if_neg (fun h => (inR_not.1 h3) h.2.2.2.1)]
        | true =>
          have i1 := inR_iff.1 h1
          have i2 := inR_iff.1 h2
          have i3 := inR_iff.1 h3
          have hle := lessA_len l id
          refine Ev.step (fun k => by simp only [spec_ClockSet.j0]; rfl) (Ev.neg (by decide) ?_)
          rw [wrap_id (n := n + ticks) (by omega) (by omega)]
          refine Ev.bind (l19Less_ev id l (by omega)) (Ev.bind (l19Add_ev ⟨id, n + ticks, every⟩ (lessA l id) (by omega)) ?_)
          have hal := addA_length (lessA l id) ⟨id, n + ticks, every⟩
          by_cases h12 : (lessA l id).length < 12
          · exact Ev.neg (by omega) (Ev.pure (by rw [if_pos ⟨rfl, i1, i2, i3, h12⟩]))
          · exact Ev.pos (by omega) (Ev.pure (by rw [if_neg (fun h => h12 h.2.2.2.2)]))
end Go.Proofs.Ytlejcgnfpcngbaa.Q
