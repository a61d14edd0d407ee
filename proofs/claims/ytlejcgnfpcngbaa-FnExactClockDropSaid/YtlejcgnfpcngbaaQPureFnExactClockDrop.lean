/- ClockDrop and its reference agree on every clock and number. -/
import Derived.Test.YtlejcgnfpcngbaaQSFnExactClockDrop
import Derived.Test.YtlejcgnfpcngbaaQClockP
namespace Go.Proofs.Ytlejcgnfpcngbaa.QPure
open Go.RowKit Go.Proofs.YtlejcgnfpcngbaaW.PrintWords Go.Proofs.Ytlejcgnfpcngbaa.P Go.Proofs.Ytlejcgnfpcngbaa.Q
theorem FnExactClockDrop : laws_FnExactClockDrop.Pure := by
  intro c l id hc hl hid
  refine Ev.rounds (r := true) ?_
  unfold laws_FnExactClockDrop.f
  have hn := hl.1
  refine Ev.bind (Ev.const (szClock_eq c l hn _ (by decide) (by decide))) ?_
  by_cases hs : szR 1048576 l.length < 0
  · exact Ev.pos hs (Ev.pure rfl)
  · refine Ev.neg hs ?_
    have hb : l.length ≤ 1048576 := by
      unfold szR at hs
      split at hs <;> omega
    have hm : (l.map toAl).length ≤ 1048576 := by simp; omega
    have ht := toClock_ev c l hb
    obtain ⟨⟨r0, r1, r2⟩, hr⟩ : ∃ r, clockDrop c (l.map toAl) id = r := ⟨_, rfl⟩
    have hd := specDrop c (l.map toAl) id (by omega)
    have hi := implDrop c (l.map toAl) id
    rw [hr] at hd hi
    have hrl : r1.length ≤ 1048576 := by
      have : r1 = (clockDrop c (l.map toAl) id).2.1 := by rw [hr]
      rw [this]
      unfold clockDrop
      split
      · exact Nat.le_trans (List.length_filter_le _ _) hm
      · exact Nat.zero_le _
    refine Ev.bind ht (Ev.bind hd (Ev.bind ht (Ev.bind (Ev.const hi) (Ev.bind (eqClock_self r0 r1 (by omega)) (Ev.pos rfl ?_)))))
    refine Ev.step (fun k => by simp only [laws_FnExactClockDrop.j0]; rfl) (Ev.neg (by simp) ?_)
    obtain ⟨x', hx1, hx2, hx3⟩ := markClock_held c (l.map toAl) 1 (by omega) (by omega)
    refine Ev.bind ht (Ev.bind (eqClock_self c _ (by omega)) (Ev.pos rfl (Ev.bind hx1 (Ev.neg (by simp only; omega) (Ev.bind (eqClock_self r0 r1 (by omega)) (Ev.pos rfl ?_))))))
    refine Ev.step (fun k => by simp only [laws_FnExactClockDrop.j1]; rfl) (Ev.neg (by simp) ?_)
    obtain ⟨g', hg1, hg2, hg3⟩ := markClock_held r0 r1 1 (by omega) (by omega)
    refine Ev.bind hg1 (Ev.bind hg2 (Ev.neg (by omega) (Ev.pos rfl (Ev.bind ht (Ev.bind (Ev.const hi) (Ev.bind (eqClock_self r0 r1 (by omega)) (Ev.pos rfl ?_)))))))
    refine Ev.step (fun k => by simp only [laws_FnExactClockDrop.j2]; rfl) (Ev.neg (by simp) ?_)
    exact Ev.bind hg2 (Ev.neg (by omega) (Ev.pos rfl (Ev.pure rfl)))
end Go.Proofs.Ytlejcgnfpcngbaa.QPure
