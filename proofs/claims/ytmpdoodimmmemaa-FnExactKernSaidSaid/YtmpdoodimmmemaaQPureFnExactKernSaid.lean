/- KernSaid and its reference agree on all runs. -/
import Derived.Test.YtmpdoodimmmemaaQSFnExactKernSaid
import Derived.Test.YtmpdoodimmmemaaQSaid
namespace Go.Proofs.Ytmpdoodimmmemaa.QPure
open Go.RowKit Go.Proofs.YtmpdoodimmmemaaW.PrintWords Go.Proofs.Ytmpdoodimmmemaa.P Go.Proofs.Ytmpdoodimmmemaa.Q
theorem FnExactKernSaid : laws_FnExactKernSaid.Pure := by
  intro l id hl hi
  refine Ev.rounds (r := true) ?_
  unfold laws_FnExactKernSaid.f
  have hn := hl.1
  have ha : ∀ d ∈ l, d.f1.length ≤ 9223372036854775807 := fun d h => (hl.2.2 d h).2.1
  have hx : ∀ d ∈ l, ∀ x ∈ d.f1, x.f3.size ≤ 9223372036854775807 := fun d h x hx => by
    have := ((hl.2.2 d h).2.2.2 x hx).2.2.2
    unfold okS at this; omega
  refine Ev.bind (szDoneS_ev l hn ha hx _ (by decide) (by decide)) ?_
  by_cases hs : szR 1048576 (l.length + sumW vD l) < 0
  · exact Ev.pos hs (Ev.pure rfl)
  · refine Ev.neg hs ?_
    have hb : l.length + sumW vD l ≤ 1048576 := by
      unfold szR at hs
      split at hs <;> omega
    have ha2 : ∀ d ∈ l, d.f1.length ≤ 1048576 := fun d h => by
      have := sumW_le (w := vD) h
      have e : vD d = d.f1.length + sumW vA d.f1 := rfl
      omega
    have hto := toDoneS_ev l (by omega) ha2
    have hm : (l.map toDn).length ≤ 9223372036854775807 := by simp; omega
    have hma : ∀ d ∈ l.map toDn, d.f1.length ≤ 9223372036854775807 := fun d h => by
      obtain ⟨x, hx, rfl⟩ := List.mem_map.1 h
      have := ha2 x hx
      simp [toDn]
      omega
    have hw : sumW wD (l.map toDn) ≤ 1048576 := Nat.le_trans (wD_to l) (by omega)
    refine Ev.bind hto (Ev.bind (specSaid id _ hm hma hw) (Ev.bind hto (Ev.bind (implSaid id _ hm hma hw) ?_)))
    refine Ev.pos rfl (Ev.bind hto (Ev.bind (eqDoneS_self _ hm hma) ?_))
    exact Ev.pos rfl (Ev.pure rfl)
end Go.Proofs.Ytmpdoodimmmemaa.QPure
