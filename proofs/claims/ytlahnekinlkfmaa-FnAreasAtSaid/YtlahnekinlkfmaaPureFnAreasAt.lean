/- The pure side of FnAreasAt: a page is in the area that has it. -/
import Derived.Test.YtlahnekinlkfmaaPflawsFnAreasAt
import Derived.Test.YtlahnekinlkfmaaQAreasDraw
namespace Go.Proofs.Ytlahnekinlkfmaa.Pure
open Go.RowKit Go.Proofs.YtlahnekinlkfmaaW.PrintWords Go.Proofs.Ytlahnekinlkfmaa.P Go.Proofs.Ytlahnekinlkfmaa.Q
/-- How many areas have a page. -/
def many (p : Int) : List Ar → Int
  | [] => 0
  | a :: l => (if has p a = true then 1 else 0) + many p l
theorem many_zero : ∀ {l : List Ar} {lo p : Int}, vldA lo l = true → p < lo → many p l = 0
  | [], _, _, _, _ => rfl
  | a :: l, lo, p, h, hp => by
    rw [vldA_cons] at h
    have ha := (areaOk_iff a).1 h.1
    have e : has p a = false := by simp [has]; omega
    simp only [many, e]
    rw [many_zero h.2.2 (by unfold fin; omega)]
    rfl
theorem idx_many : ∀ (l : List Ar) (lo p : Int) (b : Int), 0 ≤ b → vldA lo l = true → (impl_AreasAt.idx p l b = -1 ∧ many p l = 0) ∨ ∃ i : Nat, i < l.length ∧ impl_AreasAt.idx p l b = b + i ∧ many p l = 1 ∧ has p (atA l i) = true
  | [], lo, p, b, hb, h => .inl ⟨rfl, rfl⟩
  | a :: l, lo, p, b, hb, h => by
    rw [vldA_cons] at h
    simp only [impl_AreasAt.idx, many, hit_has h.1]
    by_cases hh : has p a = true
    · refine .inr ⟨0, by simp, by simp [hh], ?_, by simpa [atA] using hh⟩
      have : p < fin a := by simp [has] at hh; omega
      rw [many_zero h.2.2 this]
      simp [hh]
    · rw [if_neg hh, if_neg hh]
      rcases idx_many l (fin a) p (b + 1) (by omega) h.2.2 with ⟨h1, h2⟩ | ⟨i, h1, h2, h3, h4⟩
      · exact .inl ⟨h1, by rw [h2]; rfl⟩
      · exact .inr ⟨i + 1, by simp; omega, by rw [h2]; omega, by rw [h3]; rfl, by simpa [atA] using h4⟩
theorem count_l (p x0 : Int) (l : List Ar) (hx : 0 ≤ x0) (hx' : x0 < l.length) (hh : has p (atA l x0.toNat) = true) (hl : areaOk (atA l x0.toNat) = true) : ∀ (rest pre : List Ar) (n : Int), l = pre ++ rest → l.length ≤ 1000 → (∀ a ∈ rest, areaOk a = true) → 0 ≤ n → n ≤ 1000 - rest.length → n + many p rest = 1 →
    Ev (fun k => laws_FnAreasAt.l0 k l p x0 n (pre.length : Int)) true := by
  intro rest
  induction rest with
  | nil =>
    intro pre n e hn _ h0 h1 h
    refine Ev.step (fun k => by simp only [laws_FnAreasAt.l0]; rfl) ?_
    simp only [many] at h
    have er : rd_T24 l x0 = atA l x0.toNat := rfl
    have ew := fin_wrap hl
    have hh' : (atA l x0.toNat).f0 ≤ p ∧ p < fin (atA l x0.toNat) := by simpa [has] using hh
    refine Ev.neg (by rw [e]; simp) (Ev.pos (by omega) (Ev.pos hx (Ev.pos hx' ?_)))
    rw [er, ew]
    exact Ev.pos (by omega) (Ev.pure (by simp; omega))
  | cons a rest ih =>
    intro pre n e hn hok h0 h1 h
    simp only [List.length_cons] at h1
    have hlt : pre.length < l.length := by rw [e]; simp
    refine Ev.step (fun k => by simp only [laws_FnAreasAt.l0]; rfl) ?_
    refine Ev.pos (by omega) (Ev.pos (by omega) ?_)
    have er : rd_T24 l (pre.length : Int) = a := by rw [e]; exact rd_pre _ _ _
    rw [er, fin_wrap (hok a (by simp)), succ_wrap hlt (by omega), wrap_id (n := n + 1) (by omega) (by omega)]
    have step := ih (pre ++ [a])
    simp only [List.length_append, List.length_singleton, List.append_assoc, List.singleton_append] at step
    simp only [many] at h
    by_cases c : has p a = true
    · rw [if_pos c] at h
      have c' : a.f0 ≤ p ∧ p < fin a := by simpa [has] using c
      exact Ev.pos (by omega) (Ev.pos c'.2 (step (n + 1) e hn (fun b hb => hok b (by simp [hb])) (by omega) (by omega) (by omega)))
    · rw [if_neg c] at h
      have c' : ¬ (a.f0 ≤ p ∧ p < fin a) := by simpa [has] using c
      have st := step n e hn (fun b hb => hok b (by simp [hb])) h0 (by omega) (by omega)
      by_cases d : p ≥ a.f0
      · exact Ev.pos d (Ev.neg (by omega) st)
      · exact Ev.neg d st
theorem FnAreasAt : laws_FnAreasAt.Pure := by
  intro l _ _ hw
  refine Ev.rounds (r := true) ?_
  unfold laws_FnAreasAt.f
  by_cases h : (l.length : Int) > 1048576
  · exact Ev.pos h (Ev.pure rfl)
  · refine Ev.neg h ?_
    obtain ⟨s, es, hs⟩ := open_ev l hw (by omega)
    obtain ⟨a, p', ea, hl, _, _⟩ := areas_ev s hs 0 (by omega) (by omega)
    obtain ⟨v, ev, _, _, _⟩ := pick_ev s hs p' 18 (by omega) (by omega) (by omega)
    refine Ev.bind (a := (a, wrap64 (v - 1))) (by unfold spec_DrawAreasAt.f; exact Ev.bind (Ev.const es) (Ev.bind ea (Ev.bind ev (Ev.now _)))) ?_
    have hn : a.length ≤ 9223372036854775807 := by omega
    refine Ev.bind (implAt a hn _) (Ev.bind (specAt a hn _) (Ev.pos rfl ?_))
    refine Ev.step (fun k => by simp only [laws_FnAreasAt.j0]; rfl) ?_
    show Ev _ _
    generalize wrap64 (v - 1) = p
    unfold areasAt
    by_cases ho : areasOk a = true
    · rw [if_pos ho]
      rcases idx_many a 0 p 0 (by omega) ((areasOk_iff a).1 ho).1 with ⟨h1, _⟩ | ⟨i, h1, h2, h3, h4⟩
      · rw [h1]
        exact Ev.pos (by decide) (Ev.pure rfl)
      · rw [h2]
        refine Ev.neg (by simp) ?_
        have hm : atA a i ∈ a := by simp [atA, List.getD_eq_getElem?_getD, List.getElem?_eq_getElem h1]
        have := count_l p (0 + i) a (by omega) (by omega) (by simpa using h4) (by simpa using (vldA_mem ((areasOk_iff a).1 ho).1 _ hm).1) a [] 0 rfl (by omega) (fun b hb => (vldA_mem ((areasOk_iff a).1 ho).1 b hb).1) (by omega) (by omega) (by omega)
        simpa using this
    · rw [if_neg ho]
      exact Ev.pos (by decide) (Ev.pure rfl)
end Go.Proofs.Ytlahnekinlkfmaa.Pure
