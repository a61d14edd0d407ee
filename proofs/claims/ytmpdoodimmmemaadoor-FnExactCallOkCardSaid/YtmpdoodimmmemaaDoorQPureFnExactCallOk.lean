/- CallOk and its reference agree. -/
import Derived.Test.YtmpdoodimmmemaaDoorQSFnExactCallOk
import Derived.Test.YtmpdoodimmmemaaDoorQPath
import Derived.Test.YtmpdoodimmmemaaDoorPfimplCallOk
import Derived.Test.YtmpdoodimmmemaaDoorPflawsFnExactCallOk
import Derived.Test.YtmpdoodimmmemaaDoorPflawsszCall
import Derived.Test.YtmpdoodimmmemaaDoorPflawstoCall
import Derived.Test.YtmpdoodimmmemaaDoorPfspecCallOk
namespace Go.Proofs.YtmpdoodimmmemaaDoor.QPure
open Go.RowKit Go.Proofs.YtmpdoodimmmemaaDoorW.PrintWords Go.Proofs.YtmpdoodimmmemaaDoorW.PrintLast Go.Proofs.YtmpdoodimmmemaaDoorW.PrintMore Go.Proofs.YtmpdoodimmmemaaDoor.P Go.Proofs.YtmpdoodimmmemaaDoor.Q
set_option linter.unusedVariables false
set_option linter.unusedSimpArgs false
theorem szCall_eq (a b c : Int) (p q r : ByteArray) (hp : p.size ≤ 140737488351232) (hq : q.size ≤ 140737488351232) (hr : r.size ≤ 140737488351232) :
    ∃ n : Int, laws_szCall.f a b c p q r 1048576 = some n ∧ (¬ n < 0 → p.size ≤ 1048576 ∧ q.size ≤ 1048576) := by
  unfold laws_szCall.f
  have h1 : wrap64 (1048576 - (p.size : Int)) = 1048576 - (p.size : Int) := wrap_id (by omega) (by omega)
  rw [h1]
  by_cases c1 : 1048576 - (p.size : Int) < 0
  · rw [if_pos c1]
    exact ⟨-1, rfl, fun h => absurd (by decide) h⟩
  rw [if_neg c1]
  clear h1
  have h2 : wrap64 (1048576 - (p.size : Int) - (q.size : Int)) = 1048576 - (p.size : Int) - (q.size : Int) := wrap_id (by omega) (by omega)
  rw [h2]
  by_cases c2 : 1048576 - (p.size : Int) - (q.size : Int) < 0
  · rw [if_pos c2]
    exact ⟨-1, rfl, fun h => absurd (by decide) h⟩
  rw [if_neg c2]
  clear h2
  by_cases c3 : wrap64 (1048576 - (p.size : Int) - (q.size : Int) - (r.size : Int)) < 0
  · rw [if_pos c3]
    exact ⟨-1, rfl, fun h => absurd (by decide) h⟩
  · rw [if_neg c3]
    exact ⟨_, rfl, fun _ => by clear c3; omega⟩
theorem callOk (a b c : Int) (p q r : ByteArray) (hp : p.size ≤ 1048576) (hq : q.size ≤ 1048576) : ∃ v, Ev (fun k => impl_CallOk.f k a b c p q r) v ∧ Ev (fun k => spec_CallOk.f k a b c p q r) v := by
  have i1 := pathI' p hp
  have i2 := pathI' q hq
  have s1 := pathS' p hp
  have s2 := pathS' q hq
  generalize pathR p.data.toList = P1 at i1 s1
  generalize pathR q.data.toList = P2 at i2 s2
  refine ⟨((decide (1 ≤ a) && decide (a ≤ 31)) && (P1.2.2 && (P2.2.2 && (decide ((p.size : Int) ≤ 40) && (decide ((q.size : Int) ≤ 40) && decide ((r.size : Int) ≤ 40)))))), ?_, ?_⟩
  · unfold impl_CallOk.f
    refine Ev.bind i1 (Ev.bind i2 (Ev.bind (Ev.const (implIn' a 1 31)) ?_))
    cases (decide (1 ≤ a) && decide (a ≤ 31)) with
    | false => exact Ev.neg (by simp) (Ev.pure rfl)
    | true =>
      refine Ev.pos rfl ?_
      cases P1.2.2 with
      | false => exact Ev.neg (by simp) (Ev.pure rfl)
      | true =>
        refine Ev.pos rfl ?_
        cases P2.2.2 with
        | false => exact Ev.neg (by simp) (Ev.pure rfl)
        | true =>
          refine Ev.pos rfl ?_
          by_cases h1 : (p.size : Int) ≤ 40
          · by_cases h2 : (q.size : Int) ≤ 40
            · exact Ev.pos h1 (Ev.pos h2 (Ev.pure (by simp [h1, h2])))
            · exact Ev.pos h1 (Ev.neg h2 (Ev.pure (by simp [h2])))
          · exact Ev.neg h1 (Ev.pure (by simp [h1]))
  · unfold spec_CallOk.f
    refine Ev.bind s1 (Ev.bind s2 (Ev.bind (Ev.const (specIn' a 1 31)) ?_))
    cases (decide (1 ≤ a) && decide (a ≤ 31)) with
    | false => exact Ev.neg (by simp) (Ev.pure rfl)
    | true =>
      refine Ev.pos rfl ?_
      by_cases h3 : (r.size : Int) ≤ 40
      · by_cases h1 : (p.size : Int) ≤ 40
        · by_cases h2 : (q.size : Int) ≤ 40
          · refine Ev.pos h3 (Ev.pos h1 (Ev.pos h2 ?_))
            cases P1.2.2 with
            | false => exact Ev.neg (by simp) (Ev.pure rfl)
            | true => exact Ev.pos rfl (Ev.pure (by simp [h1, h2, h3]))
          · exact Ev.pos h3 (Ev.pos h1 (Ev.neg h2 (Ev.pure (by simp [h2]))))
        · exact Ev.pos h3 (Ev.neg h1 (Ev.pure (by simp [h1])))
      · exact Ev.neg h3 (Ev.pure (by simp [h3]))
theorem FnExactCallOk : laws_FnExactCallOk.Pure := by
  intro a b c p q r _ _ _ hp hq hr
  refine Ev.rounds (r := true) ?_
  unfold laws_FnExactCallOk.f
  obtain ⟨n, hn, hb⟩ := szCall_eq a b c p q r hp hq hr
  refine Ev.bind (Ev.const hn) ?_
  by_cases h0 : n < 0
  · exact Ev.pos h0 (Ev.pure rfl)
  obtain ⟨b1, b2⟩ := hb h0
  obtain ⟨v, e1, e2⟩ := callOk a b c p q r b1 b2
  have ht : Ev (fun _ => laws_toCall.f a b c p q r) (a, b, c, p, q, r) := Ev.const rfl
  exact Ev.neg h0 (Ev.bind ht (Ev.bind e2 (Ev.bind ht (Ev.bind e1 (Ev.neg (by simp) (Ev.pure rfl))))))
end Go.Proofs.YtmpdoodimmmemaaDoor.QPure
