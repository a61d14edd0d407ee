/- HeldMay and its reference agree. -/
import Derived.Test.YtgjlbghjjjlhmaaQSFnExactHeldMay
import Derived.Test.YtgjlbghjjjlhmaaQHeldEx
import Derived.Test.YtgjlbghjjjlhmaaQHeldM
import Derived.Test.YtgjlbghjjjlhmaaPfimplHeldMay
import Derived.Test.YtgjlbghjjjlhmaaPflawsFnExactHeldMay
import Derived.Test.YtgjlbghjjjlhmaaPfspecHeldMay
namespace Go.Proofs.Ytgjlbghjjjlhmaa.QPure
open Go.RowKit Go.Proofs.YtgjlbghjjjlhmaaW.PrintWords Go.Proofs.YtgjlbghjjjlhmaaW.PrintLast Go.Proofs.YtgjlbghjjjlhmaaW.PrintMore Go.Proofs.Ytgjlbghjjjlhmaa.P Go.Proofs.Ytgjlbghjjjlhmaa.Q
theorem hit_iff (p b : Int) (wt : Bool) (x : Ho) : impl_HeldMay.hit p b wt x = true ↔ cov x p b ∧ (x.f3 = true ∨ wt = false) := by
  unfold impl_HeldMay.hit impl_HeldMay.inB cov
  simp only [Bool.and_eq_true, beq_iff_eq, Bool.or_eq_true, Bool.not_eq_true']
  constructor
  · rintro ⟨h1, h2, h3⟩
    split at h2
    · rename_i h4
      exact ⟨⟨h1, h4, of_decide_eq_true h2⟩, h3⟩
    · cases h2
  · rintro ⟨⟨h1, h2, h4⟩, h3⟩
    exact ⟨h1, by rw [if_pos h2]; exact decide_eq_true h4, h3⟩
theorem may_ev (hs ws : List Ho) (hn : hs.length ≤ 1048576) (hw : ws.length ≤ 1048576) (o b : Int) (wt : Bool) : ∃ r, Ev (fun k => impl_HeldMay.f k hs ws o b wt) r ∧ Ev (fun k => spec_HeldMay.f k hs ws o b wt) r := by
  unfold impl_HeldMay.f spec_HeldMay.f
  obtain ⟨r, e1, e2, hT⟩ := heldOk hs ws hn hw
  cases r with
  | false => exact ⟨false, Ev.bind e1 (Ev.pure rfl), Ev.bind e2 (Ev.neg (by simp) (Ev.now _))⟩
  | true =>
    have T := hT rfl
    refine ⟨hs.any (impl_HeldMay.hit o b wt), Ev.bind e1 (Ev.pure (by simp)), Ev.bind e2 (Ev.pos rfl ?_)⟩
    have hno : (∀ x ∈ hs, ¬ cov x o b) → hs.any (impl_HeldMay.hit o b wt) = false := fun h => by
      rw [List.any_eq_false]
      intro x hx hh
      exact h x hx ((hit_iff o b wt x).1 hh).1
    refine Ev.bind (Ev.const (specIn o 0 3)) ?_
    by_cases ho : 0 ≤ o ∧ o ≤ 3
    · refine Ev.pos (by unfold inR; simp [ho.1, ho.2]) (Ev.bind (Ev.const (specIn b 0 15)) ?_)
      by_cases hb : 0 ≤ b ∧ b ≤ 15
      · refine Ev.pos (by unfold inR; simp [hb.1, hb.2]) ?_
        obtain ⟨out, em, hl, hj⟩ := modes hs hn (fun x hx => by have := T.rng x hx; omega) o
        refine Ev.bind em (Ev.pos hb.1 (Ev.pos (by omega) ?_))
        obtain ⟨bn, rfl⟩ : ∃ bn : Nat, b = (bn : Int) := ⟨b.toNat, by omega⟩
        have hrd : rd out (bn : Int) = modeF o (bn : Int) 0 hs := by
          unfold rd
          rw [Int.toNat_natCast]
          exact hj bn (by omega)
        rw [hrd]
        by_cases hc : ∃ x ∈ hs, cov x o (bn : Int)
        · obtain ⟨x, hx, hcx⟩ := hc
          have hm := modeF_some o (bn : Int) hs 0 T.sorted x hx hcx
          rw [hm]
          unfold mv
          by_cases hf : x.f3 = true
          · rw [if_pos hf]
            refine Ev.pos rfl (Ev.pure ?_)
            symm
            rw [List.any_eq_true]
            exact ⟨x, hx, (hit_iff o bn wt x).2 ⟨hcx, .inl hf⟩⟩
          · rw [if_neg hf]
            refine Ev.neg (by decide) (Ev.pos rfl (Ev.pure ?_))
            cases wt with
            | false =>
              symm
              show hs.any _ = true
              rw [List.any_eq_true]
              exact ⟨x, hx, (hit_iff o bn false x).2 ⟨hcx, .inr rfl⟩⟩
            | true =>
              symm
              show hs.any _ = false
              rw [List.any_eq_false]
              intro z hz hh
              obtain ⟨h1, h2⟩ := (hit_iff o bn true z).1 hh
              have hm2 := modeF_some o (bn : Int) hs 0 T.sorted z hz h1
              rw [hm] at hm2
              unfold mv at hm2
              rw [if_neg hf] at hm2
              rcases h2 with h2 | h2
              · rw [if_pos h2] at hm2
                cases hm2
              · cases h2
        · have hc' : ∀ x ∈ hs, ¬ cov x o (bn : Int) := fun x hx h => hc ⟨x, hx, h⟩
          rw [modeF_none o (bn : Int) hs 0 hc']
          exact Ev.neg (by decide) (Ev.neg (by decide) (Ev.pure (hno hc').symm))
      · refine Ev.neg (by unfold inR; simp; omega) (Ev.pure (hno (fun x hx h => ?_)).symm)
        have := T.rng x hx
        unfold cov at h
        omega
    · refine Ev.neg (by unfold inR; simp; omega) (Ev.pure (hno (fun x hx h => ?_)).symm)
      have := T.rng x hx
      unfold cov at h
      omega
theorem FnExactHeldMay : laws_FnExactHeldMay.Pure := by
  intro l m o b wt hl hm _ _
  refine Ev.rounds (r := true) ?_
  unfold laws_FnExactHeldMay.f
  obtain ⟨s, hs, hb⟩ := szHeld_eq l m hl.1 hm.1
  refine Ev.bind (Ev.const hs) ?_
  by_cases h0 : s < 0
  · exact Ev.pos h0 (Ev.pure rfl)
  refine Ev.neg h0 ?_
  obtain ⟨b1, b2⟩ := hb h0
  have ht := toHeld_ev l m b1 b2
  have c1 : (l.map toHd).length ≤ 1048576 := by simpa using b1
  have c2 : (m.map toHd).length ≤ 1048576 := by simpa using b2
  obtain ⟨r, e1, e2⟩ := may_ev (l.map toHd) (m.map toHd) c1 c2 o b wt
  exact Ev.bind ht (Ev.bind e2 (Ev.bind ht (Ev.bind e1 (Ev.neg (by simp) (Ev.bind ht (Ev.bind (eqHeld_self (l.map toHd) (m.map toHd) (by omega) (by omega)) (Ev.pos rfl (Ev.pure rfl))))))))
end Go.Proofs.Ytgjlbghjjjlhmaa.QPure
