/- What is added has its pages, and can be cut out again. -/
import Derived.Test.YtlahnekinlkfmaaPflawsFnAreasAdd
import Derived.Test.YtlahnekinlkfmaaQAreasAdd
import Derived.Test.YtlahnekinlkfmaaQAreasCut
namespace Go.Proofs.Ytlahnekinlkfmaa.Pure
open Go.RowKit Go.Proofs.YtlahnekinlkfmaaW.PrintWords Go.Proofs.Ytlahnekinlkfmaa.P Go.Proofs.Ytlahnekinlkfmaa.Q
theorem cut_self {a : Ar} (ha : areaOk a = true) : cut1 a.f0 (fin a) a = [] := by
  have := (areaOk_iff a).1 ha
  unfold cut1
  rw [seg_neg (by unfold fin; omega), seg_neg (by omega)]
  rfl
theorem cut_below {x : Ar} {f e : Int} (hx : areaOk x = true) (hf : f < e) (h : fin x ≤ f) : cut1 f e x = [x] := by
  have := (areaOk_iff x).1 hx
  unfold cut1
  have h1 : min (fin x) f = fin x := by omega
  rw [h1, seg_pos (by unfold fin; omega), seg_neg (by omega), List.append_nil]
  exact seg_all
theorem cut_above {x : Ar} {f e : Int} (hx : areaOk x = true) (hf : f < e) (h : e ≤ x.f0) : cut1 f e x = [x] := by
  have := (areaOk_iff x).1 hx
  unfold cut1
  have h1 : max x.f0 e = x.f0 := by omega
  rw [h1, seg_neg (by omega), seg_pos (by unfold fin; omega), List.nil_append]
  exact seg_all
theorem cutL_above {f e : Int} (hf : f < e) : ∀ {l : List Ar} {lo : Int}, e ≤ lo → vldA lo l = true → cutL f e l = l := by
  intro l
  induction l with
  | nil => intro _ _ _; rfl
  | cons x l ih =>
    intro lo hlo h
    obtain ⟨h1, h2, h3⟩ := vldA_cons.1 h
    have := (areaOk_iff x).1 h1
    rw [cutL_cons, cut_above h1 hf (by omega), ih (lo := fin x) (by unfold fin; omega) h3]
    rfl
theorem addL_mem (a : Ar) (l : List Ar) : a ∈ addL a l := (addL_perm a l).mem_iff.2 (by simp)
theorem cut_add {a : Ar} (ha : areaOk a = true) : ∀ {l : List Ar} {lo : Int}, vldA lo (addL a l) = true → cutL a.f0 (fin a) (addL a l) = l := by
  have hao := (areaOk_iff a).1 ha
  have hf : a.f0 < fin a := by unfold fin; omega
  intro l
  induction l with
  | nil =>
    intro lo _
    simp only [addL]
    rw [cutL_cons, cut_self ha]
    rfl
  | cons b l ih =>
    intro lo h
    simp only [addL] at h ⊢
    by_cases hc : b.f0 ≥ a.f0
    · rw [if_pos hc] at h ⊢
      obtain ⟨h1, h2, h3⟩ := vldA_cons.1 h
      rw [cutL_cons, cut_self ha, cutL_above hf (Int.le_refl _) h3]
      rfl
    · rw [if_neg hc] at h ⊢
      obtain ⟨h1, h2, h3⟩ := vldA_cons.1 h
      have := (vldA_mem h3 a (addL_mem a l)).2
      rw [cutL_cons, cut_below h1 hf this, ih h3]
      rfl
theorem sum_add (a : Ar) : ∀ l, sumA (addL a l) = sumA l + a.f1 := by
  intro l
  induction l with
  | nil => simp [addL, sumA]
  | cons b l ih =>
    simp only [addL]
    split
    · simp only [sumA]; omega
    · simp only [sumA, ih]; omega
theorem FnAreasAdd : laws_FnAreasAdd.Pure := by
  intro l _ _ hw
  refine Ev.rounds (r := true) ?_
  unfold laws_FnAreasAdd.f
  by_cases h : (l.length : Int) > 1048576
  · exact Ev.pos h (Ev.pure rfl)
  refine Ev.neg h ?_
  obtain ⟨s, es, hs⟩ := open_ev l hw (by omega)
  obtain ⟨xs, p, exs, hl, hp, hp'⟩ := areas_ev s hs 0 (by omega) (by omega)
  obtain ⟨a, p', ea, _, _⟩ := area_ev s hs p (by omega) (by omega)
  refine Ev.bind (a := (xs, a.f0, a.f1, a.f2, a.f3)) (by unfold spec_DrawAreasAdd.f; exact Ev.bind (Ev.const es) (Ev.bind exs (Ev.bind ea (Ev.now _)))) ?_
  have hr := areasAdd_len xs a
  refine Ev.bind (implAdd xs a (by omega)) (Ev.bind (specAdd xs a (by omega)) (Ev.bind (qdAreas_self _ (by omega)) (Ev.pos rfl ?_)))
  refine Ev.step (fun k => by simp only [laws_FnAreasAdd.j0]; rfl) (Ev.pos (by simp) ?_)
  refine Ev.step (fun k => by simp only [laws_FnAreasAdd.j1]; rfl) ?_
  unfold areasAdd at hr ⊢
  cases hx : (areasOk xs && areaOk a) with
  | false => exact Ev.pos (by simp) (Ev.pure rfl)
  | true =>
    simp only [Bool.and_eq_true] at hx
    cases hy : areasOk (addL a xs) with
    | false => exact Ev.pos (by simp) (Ev.pure rfl)
    | true =>
      refine Ev.neg (by simp) ?_
      simp only [if_true]
      obtain ⟨hv, h6⟩ := (areasOk_iff _).1 hy
      obtain ⟨hxv, hx6⟩ := (areasOk_iff _).1 hx.1
      have hcut : areasCut (addL a xs) a.f0 a.f1 = (xs, true) := by
        unfold areasCut
        have ho : areaOk ⟨a.f0, a.f1, false, false⟩ = true := hx.2
        rw [hy, ho]
        have := cut_add hx.2 hv
        unfold fin at this
        rw [this]
        unfold resC
        simp
        omega
      refine Ev.bind (implCut (addL a xs) a.f0 a.f1 (by omega)) (Ev.bind (implOk _ (by omega)) ?_)
      rw [hy, hcut]
      refine Ev.pos rfl (Ev.bind (implPages _ (by omega)) (Ev.bind (implPages _ (by omega)) ?_))
      have s1 := sumA_ok hxv (by omega)
      have ao := (areaOk_iff a).1 hx.2
      refine Ev.pos ?_ (Ev.pos rfl (Ev.bind (qdAreas_self xs (by omega)) (Ev.pure rfl)))
      unfold areasPages
      rw [hy, hx.1]
      simp only [if_true]
      rw [sum_add, wrap_id (by omega) (by omega)]
end Go.Proofs.Ytlahnekinlkfmaa.Pure
