/- HeldOk and its reference agree. -/
import Derived.Test.YtgjlbghjjjlhmaaQSFnExactHeldOk
import Derived.Test.YtgjlbghjjjlhmaaQHeldEx
namespace Go.Proofs.Ytgjlbghjjjlhmaa.QPure
open Go.RowKit Go.Proofs.YtgjlbghjjjlhmaaW.PrintWords Go.Proofs.YtgjlbghjjjlhmaaW.PrintLast Go.Proofs.YtgjlbghjjjlhmaaW.PrintMore Go.Proofs.Ytgjlbghjjjlhmaa.P Go.Proofs.Ytgjlbghjjjlhmaa.Q
theorem FnExactHeldOk : laws_FnExactHeldOk.Pure := by
  intro l m hl hm
  refine Ev.rounds (r := true) ?_
  unfold laws_FnExactHeldOk.f
  obtain ⟨s, hs, hb⟩ := szHeld_eq l m hl.1 hm.1
  refine Ev.bind (Ev.const hs) ?_
  by_cases h0 : s < 0
  · exact Ev.pos h0 (Ev.pure rfl)
  refine Ev.neg h0 ?_
  obtain ⟨b1, b2⟩ := hb h0
  have ht := toHeld_ev l m b1 b2
  have c1 : (l.map toHd).length ≤ 1048576 := by simpa using b1
  have c2 : (m.map toHd).length ≤ 1048576 := by simpa using b2
  obtain ⟨r, e1, e2, _⟩ := heldOk (l.map toHd) (m.map toHd) c1 c2
  exact Ev.bind ht (Ev.bind e2 (Ev.bind ht (Ev.bind e1 (Ev.neg (by simp) (Ev.bind ht (Ev.bind (eqHeld_self (l.map toHd) (m.map toHd) (by omega) (by omega)) (Ev.pos rfl (Ev.pure rfl))))))))
end Go.Proofs.Ytgjlbghjjjlhmaa.QPure
