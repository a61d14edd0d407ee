/- Locks of records: who may, told by the holds. -/
import Derived.Test.YtgjlbghjjjlhmaaQHeld3
import Derived.Test.YtgjlbghjjjlhmaaQHeldM
import Derived.Test.YtgjlbghjjjlhmaaPfimplHeldMay
import Derived.Test.YtgjlbghjjjlhmaaPfimplHeldOk
import Derived.Test.YtgjlbghjjjlhmaaPfspecHeldOk
namespace Go.Proofs.Ytgjlbghjjjlhmaa.Q
open Go.RowKit Go.Proofs.YtgjlbghjjjlhmaaW.PrintWords Go.Proofs.YtgjlbghjjjlhmaaW.PrintLast Go.Proofs.YtgjlbghjjjlhmaaW.PrintMore Go.Proofs.Ytgjlbghjjjlhmaa.P
set_option linter.unusedVariables false
set_option linter.unusedSimpArgs false

theorem hit_iff' (p b : Int) (wt : Bool) (x : Ho) : impl_HeldMay.hit p b wt x = true ↔ cov x p b ∧ (x.f3 = true ∨ wt = false) := by
  unfold impl_HeldMay.hit impl_HeldMay.inB cov
  simp only [Bool.and_eq_true, beq_iff_eq, Bool.or_eq_true, Bool.not_eq_true']
  constructor
  · rintro ⟨h1, h2, h3⟩
    split at h2
    · rename_i h4
      exact ⟨⟨h1, h4, of_decide_eq_true h2⟩, h3⟩
    · cases h2
  · rintro ⟨⟨h1, h2, h4⟩, h3⟩
    exact ⟨h1, by rw [if_pos h2]; exact decide_eq_true h4, h3⟩
theorem mayW (hs ws : List Ho) (hn : hs.length ≤ 1048576) (hw : ws.length ≤ 1048576) : ∃ r, Ev (fun k => impl_HeldOk.f k hs ws) r ∧ Ev (fun k => spec_HeldOk.f k hs ws) r ∧ (r = true → Tidy hs) ∧
    ∀ o b wt, Ev (fun k => impl_HeldMay.f k hs ws o b wt) (r && hs.any (impl_HeldMay.hit o b wt)) := by
  obtain ⟨r, e1, e2, h⟩ := heldOk hs ws hn hw
  exact ⟨r, e1, e2, h, fun o b wt => by unfold impl_HeldMay.f; exact Ev.bind e1 (Ev.now _)⟩
end Go.Proofs.Ytgjlbghjjjlhmaa.Q
