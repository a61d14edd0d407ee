/- HeldMay as its reference; who may write may read. -/
import Derived.Test.YtgjlbghjjjlhmaaPflawsFnHeldMay
import Derived.Test.YtgjlbghjjjlhmaaQHeldD
import Derived.Test.YtgjlbghjjjlhmaaQHeldN2
namespace Go.Proofs.Ytgjlbghjjjlhmaa.Pure
open Go.RowKit Go.Proofs.YtgjlbghjjjlhmaaW.PrintWords Go.Proofs.Ytgjlbghjjjlhmaa.P Go.Proofs.Ytgjlbghjjjlhmaa.Q
theorem FnHeldMay : laws_FnHeldMay.Pure := by
  intro c _ _ hw
  refine Ev.rounds (r := true) ?_
  unfold laws_FnHeldMay.f
  by_cases h : (c.length : Int) > 1048576
  · exact Ev.pos h (Ev.pure rfl)
  refine Ev.neg h ?_
  obtain ⟨s, es, hs⟩ := open_ev c hw (by omega)
  obtain ⟨l, w, q, e, hl, hw', q0, q1⟩ := held_ev s hs 0 (by omega) (by omega)
  obtain ⟨v1, f1, _⟩ := pick_ev s hs q 6 (by omega) (by omega) (by omega)
  obtain ⟨v2, f2, _⟩ := pick_ev s hs (q + 1) 18 (by omega) (by omega) (by omega)
  obtain ⟨v3, f3, _⟩ := pick_ev s hs (q + 1 + 1) 2 (by omega) (by omega) (by omega)
  have ed : Ev (fun k => spec_DrawHeldMay.f k c) (l, w, wrap64 (v1 - 1), wrap64 (v2 - 1), (v3 == 0)) := by
    unfold spec_DrawHeldMay.f
    exact Ev.bind (Ev.const es) (Ev.bind e (Ev.bind f1 (Ev.bind f2 (Ev.bind f3 (Ev.now _)))))
  refine Ev.bind ed ?_
  generalize wrap64 (v1 - 1) = o
  generalize wrap64 (v2 - 1) = b
  generalize (v3 == 0) = wt
  obtain ⟨r, e1, e2⟩ := mayB l w (by omega) (by omega) o b wt
  obtain ⟨r0, _, _, _, hm⟩ := mayW l w (by omega) (by omega)
  have hr := e1.uniq (hm o b wt)
  refine Ev.bind e1 (Ev.bind e2 (Ev.pos (by simp) ?_))
  cases r with
  | false => exact Ev.neg (by simp) (Ev.now _)
  | true =>
    refine Ev.pos rfl (Ev.bind (hm o b false) (Ev.pure ?_))
    have hr' := hr.symm
    rw [Bool.and_eq_true] at hr'
    obtain ⟨x, hx, hh⟩ := List.any_eq_true.1 hr'.2
    rw [hr'.1, Bool.true_and, List.any_eq_true]
    exact ⟨x, hx, (hit_iff' _ _ _ x).2 ⟨((hit_iff' _ _ _ x).1 hh).1, .inr rfl⟩⟩
end Go.Proofs.Ytgjlbghjjjlhmaa.Pure
