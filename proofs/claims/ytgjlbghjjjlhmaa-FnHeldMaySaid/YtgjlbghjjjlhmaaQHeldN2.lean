/- Locks of records: HeldMay as its reference. -/
import Derived.Test.YtgjlbghjjjlhmaaQHeldN
import Derived.Test.YtgjlbghjjjlhmaaPfimplHeldMay
import Derived.Test.YtgjlbghjjjlhmaaPfspecHeldMay
namespace Go.Proofs.Ytgjlbghjjjlhmaa.Q
open Go.RowKit Go.Proofs.YtgjlbghjjjlhmaaW.PrintWords Go.Proofs.YtgjlbghjjjlhmaaW.PrintLast Go.Proofs.YtgjlbghjjjlhmaaW.PrintMore Go.Proofs.Ytgjlbghjjjlhmaa.P
set_option linter.unusedVariables false
set_option linter.unusedSimpArgs false

theorem mayB (hs ws : List Ho) (hn : hs.length ≤ 1048576) (hw : ws.length ≤ 1048576) (o b : Int) (wt : Bool) : ∃ r, Ev (fun k => impl_HeldMay.f k hs ws o b wt) r ∧ Ev (fun k => spec_HeldMay.f k hs ws o b wt) r := by
  unfold impl_HeldMay.f spec_HeldMay.f
  obtain ⟨r, e1, e2, hT⟩ := heldOk hs ws hn hw
  cases r with
  | false => exact ⟨false, Ev.bind e1 (Ev.pure rfl), Ev.bind e2 (Ev.neg (by simp) (Ev.now _))⟩
  | true =>
    have T := hT rfl
    refine ⟨hs.any (impl_HeldMay.hit o b wt), Ev.bind e1 (Ev.pure (by simp)), Ev.bind e2 (Ev.pos rfl ?_)⟩
    have hno : (∀ x ∈ hs, ¬ cov x o b) → hs.any (impl_HeldMay.hit o b wt) = false := fun h => by
      rw [List.any_eq_false]
      intro x hx hh
      exact h x hx ((hit_iff' o b wt x).1 hh).1
    refine Ev.bind (Ev.const (specIn o 0 3)) ?_
    by_cases ho : 0 ≤ o ∧ o ≤ 3
    · refine Ev.pos (by unfold inR; simp [ho.1, ho.2]) (Ev.bind (Ev.const (specIn b 0 15)) ?_)
      by_cases hb : 0 ≤ b ∧ b ≤ 15
      · refine Ev.pos (by unfold inR; simp [hb.1, hb.2]) ?_
        obtain ⟨out, em, hl, hj⟩ := modes hs hn (fun x hx => by have := T.rng x hx; omega) o
        refine Ev.bind em (Ev.pos hb.1 (Ev.pos (by omega) ?_))
        obtain ⟨bn, rfl⟩ : ∃ bn : Nat, b = (bn : Int) := ⟨b.toNat, by omega⟩
        have hrd : rd out (bn : Int) = modeF o (bn : Int) 0 hs := by
          unfold rd
          rw [Int.toNat_natCast]
          exact hj bn (by omega)
        rw [hrd]
        by_cases hc : ∃ x ∈ hs, cov x o (bn : Int)
        · obtain ⟨x, hx, hcx⟩ := hc
          have hm := modeF_some o (bn : Int) hs 0 T.sorted x hx hcx
          rw [hm]
          unfold mv
          by_cases hf : x.f3 = true
          · rw [if_pos hf]
            refine Ev.pos rfl (Ev.pure ?_)
            symm
            rw [List.any_eq_true]
            exact ⟨x, hx, (hit_iff' o bn wt x).2 ⟨hcx, .inl hf⟩⟩
          · rw [if_neg hf]
            refine Ev.neg (by decide) (Ev.pos rfl (Ev.pure ?_))
            cases wt with
            | false =>
              symm
              show hs.any _ = true
              rw [List.any_eq_true]
              exact ⟨x, hx, (hit_iff' o bn false x).2 ⟨hcx, .inr rfl⟩⟩
            | true =>
              symm
              show hs.any _ = false
              rw [List.any_eq_false]
              intro z hz hh
              obtain ⟨h1, h2⟩ := (hit_iff' o bn true z).1 hh
              have hm2 := modeF_some o (bn : Int) hs 0 T.sorted z hz h1
              rw [hm] at hm2
              unfold mv at hm2
              rw [if_neg hf] at hm2
              rcases h2 with h2 | h2
              · rw [if_pos h2] at hm2
                cases hm2
              · cases h2
        · have hc' : ∀ x ∈ hs, ¬ cov x o (bn : Int) := fun x hx h => hc ⟨x, hx, h⟩
          rw [modeF_none o (bn : Int) hs 0 hc']
          exact Ev.neg (by decide) (Ev.neg (by decide) (Ev.pure (hno hc').symm))
      · refine Ev.neg (by unfold inR; simp; omega) (Ev.pure (hno (fun x hx h => ?_)).symm)
        have := T.rng x hx
        unfold cov at h
        omega
    · refine Ev.neg (by unfold inR; simp; omega) (Ev.pure (hno (fun x hx h => ?_)).symm)
      have := T.rng x hx
      unfold cov at h
      omega
end Go.Proofs.Ytgjlbghjjjlhmaa.Q
