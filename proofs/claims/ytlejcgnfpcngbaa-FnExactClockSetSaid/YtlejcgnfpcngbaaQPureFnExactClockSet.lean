/- ClockSet and its reference agree on every clock and all numbers. -/
import Derived.Test.YtlejcgnfpcngbaaQSFnExactClockSet
import Derived.Test.YtlejcgnfpcngbaaQClockS
namespace Go.Proofs.Ytlejcgnfpcngbaa.QPure
open Go.RowKit Go.Proofs.YtlejcgnfpcngbaaW.PrintWords Go.Proofs.Ytlejcgnfpcngbaa.P Go.Proofs.Ytlejcgnfpcngbaa.Q
theorem FnExactClockSet : laws_FnExactClockSet.Pure := by
  intro c l id ticks every hc hl hid hti hev
  refine Ev.rounds (r := true) ?_
  unfold laws_FnExactClockSet.f
  have hn := hl.1
  refine Ev.bind (Ev.const (szClock_eq c l hn _ (by decide) (by decide))) ?_
  by_cases hs : szR 1048576 l.length < 0
  · exact Ev.pos hs (Ev.pure rfl)
  · refine Ev.neg hs ?_
    have hb : l.length ≤ 1048576 := by
      unfold szR at hs
      split at hs <;> omega
    have hm : (l.map toAl).length ≤ 1048576 := by simp; omega
    have ht := toClock_ev c l hb
    obtain ⟨⟨r0, r1, r2⟩, hr⟩ : ∃ r, clockSet c (l.map toAl) id ticks every = r := ⟨_, rfl⟩
    have hd := specSet c (l.map toAl) id ticks every (by omega) (okI64 hc) (okI64 hti)
    have hi := implSet c (l.map toAl) id ticks every (okI64 hti)
    rw [hr] at hd hi
    have hrl : r1.length ≤ 1048576 := by
      have : r1 = (clockSet c (l.map toAl) id ticks every).2.1 := by rw [hr]
      rw [this]
      unfold clockSet
      split
      · rename_i hq
        have := addA_length (lessA (l.map toAl) id) ⟨id, c + ticks, every⟩
        have := hq.2.2.2.2
        show (addA (lessA (l.map toAl) id) ⟨id, c + ticks, every⟩).length ≤ 1048576
        omega
      · exact Nat.zero_le _
    refine Ev.bind ht (Ev.bind hd (Ev.bind ht (Ev.bind hi (Ev.bind (eqClock_self r0 r1 (by omega)) (Ev.pos rfl ?_)))))
    refine Ev.step (fun k => by simp only [laws_FnExactClockSet.j0]; rfl) (Ev.neg (by simp) ?_)
    obtain ⟨x', hx1, hx2, hx3⟩ := markClock_held c (l.map toAl) 1 (by omega) (by omega)
    refine Ev.bind ht (Ev.bind (eqClock_self c _ (by omega)) (Ev.pos rfl (Ev.bind hx1 (Ev.neg (by simp only; omega) (Ev.bind (eqClock_self r0 r1 (by omega)) (Ev.pos rfl ?_))))))
    refine Ev.step (fun k => by simp only [laws_FnExactClockSet.j1]; rfl) (Ev.neg (by simp) ?_)
    obtain ⟨g', hg1, hg2, hg3⟩ := markClock_held r0 r1 1 (by omega) (by omega)
    refine Ev.bind hg1 (Ev.bind hg2 (Ev.neg (by omega) (Ev.pos rfl (Ev.bind ht (Ev.bind hi (Ev.bind (eqClock_self r0 r1 (by omega)) (Ev.pos rfl ?_)))))))
    refine Ev.step (fun k => by simp only [laws_FnExactClockSet.j2]; rfl) (Ev.neg (by simp) ?_)
    exact Ev.bind hg2 (Ev.neg (by omega) (Ev.pos rfl (Ev.pure rfl)))
end Go.Proofs.Ytlejcgnfpcngbaa.QPure
