/- The pure side of FnAreasOrder: cuts may come in any order. -/
import Derived.Test.YtlahnekinlkfmaaPflawsFnAreasOrder
import Derived.Test.YtlahnekinlkfmaaQAreasCut
import Derived.Test.YtlahnekinlkfmaaQAreasDraw
namespace Go.Proofs.Ytlahnekinlkfmaa.Pure
open Go.RowKit Go.Proofs.YtlahnekinlkfmaaW.PrintWords Go.Proofs.Ytlahnekinlkfmaa.P Go.Proofs.Ytlahnekinlkfmaa.Q
theorem cut_seg (x : Ar) (a b f e : Int) : (seg x a b).flatMap (cut1 f e) = seg x a (min b f) ++ seg x (max a e) b := by
  by_cases h : a < b
  · rw [seg_pos h, List.flatMap_cons, List.flatMap_nil, List.append_nil]
    unfold cut1
    have e1 : fin (⟨a, b - a, x.f2, x.f3⟩ : Ar) = b := by show a + (b - a) = b; omega
    rw [e1]
    rfl
  · rw [seg_neg h, seg_neg (by omega), seg_neg (by omega)]
    rfl
theorem cut_comm (l : List Ar) (f e f' e' : Int) (h : f < e) (h' : f' < e') : cutL f' e' (cutL f e l) = cutL f e (cutL f' e' l) := by
  unfold cutL
  rw [List.flatMap_assoc, List.flatMap_assoc]
  congr 1
  funext x
  unfold cut1
  rw [List.flatMap_append, List.flatMap_append]
  have g := cut_seg x x.f0 (min (fin x) f) f' e'
  have g2 := cut_seg x (max x.f0 e) (fin x) f' e'
  have k := cut_seg x x.f0 (min (fin x) f') f e
  have k2 := cut_seg x (max x.f0 e') (fin x) f e
  unfold cut1 at g g2 k k2
  rw [g, g2, k, k2]
  have m1 : min (min (fin x) f) f' = min (min (fin x) f') f := by omega
  have m2 : max (max x.f0 e) e' = max (max x.f0 e') e := by omega
  rw [m1, m2]
  by_cases c : max x.f0 e' < min (fin x) f
  · rw [seg_neg (a := max x.f0 e) (b := min (fin x) f') (by omega)]
    simp
  · rw [seg_neg c]
    simp
theorem drawCut_ev (l : List Int) (hw : ∀ x ∈ l, (Lit.int .u8 x).wf = true) (hl : l.length ≤ 1048576) : ∃ (a : List Ar) (f m : Int), Ev (fun k => spec_DrawAreasCut.f k l) (a, f, m) ∧ a.length ≤ 7 := by
  obtain ⟨s, es, hs⟩ := open_ev l hw hl
  obtain ⟨a, p', ea, hl, _, _⟩ := areas_ev s hs 0 (by omega) (by omega)
  obtain ⟨v1, e1, _, _, _⟩ := pick_ev s hs p' 17 (by omega) (by omega) (by omega)
  obtain ⟨v2, e2, _, _, _⟩ := pick_ev s hs (p' + 1) 9 (by omega) (by omega) (by omega)
  obtain ⟨v3, e3, _, _, _⟩ := pick_ev s hs (p' + 1 + 1) 7 (by omega) (by omega) (by omega)
  refine ⟨a, wrap64 (v1 - wrap64 (Int.tdiv v2 8)), v3, ?_, hl⟩
  unfold spec_DrawAreasCut.f
  exact Ev.bind (Ev.const es) (Ev.bind ea (Ev.bind e1 (Ev.bind e2 (Ev.bind e3 (Ev.now _)))))
theorem FnAreasOrder : laws_FnAreasOrder.Pure := by
  intro l l1 _ _ hw _ _ hw1
  refine Ev.rounds (r := true) ?_
  unfold laws_FnAreasOrder.f
  by_cases h : (l.length : Int) > 1048576
  · refine Ev.pos h ?_
    refine Ev.step (fun k => by simp only [laws_FnAreasOrder.j0]; rfl) ?_
    exact Ev.pos (by trivial) (Ev.pure rfl)
  refine Ev.neg h ?_
  refine Ev.step (fun k => by simp only [laws_FnAreasOrder.j0]; rfl) ?_
  by_cases h1 : (l1.length : Int) > 1048576
  · exact Ev.pos (by simpa using h1) (Ev.pure rfl)
  refine Ev.neg (by simpa using h1) ?_
  obtain ⟨a, f, m, ea, ha⟩ := drawCut_ev l hw (by omega)
  obtain ⟨b, f', m', eb, hb⟩ := drawCut_ev l1 hw1 (by omega)
  have hr := areasCut_len a f m
  refine Ev.bind ea (Ev.bind eb (Ev.bind (implCut a f m (by omega)) (Ev.bind (specCut a f m (by omega)) (Ev.neg (by simp) (Ev.bind (qdAreas_self _ (by omega)) (Ev.pos rfl ?_))))))
  refine Ev.step (fun k => by simp only [laws_FnAreasOrder.j1]; rfl) ?_
  cases ho : (areasCut a f m).2 with
  | false => exact Ev.pos rfl (Ev.pos (by simp) (Ev.bind (qdAreas_self _ (by omega)) (Ev.now _)))
  | true =>
    have hr2 := areasCut_len a f' m'
    refine Ev.neg (by decide) (Ev.bind (implCut _ f' m' (by omega)) (Ev.bind (implCut a f' m' (by omega)) (Ev.bind (implCut _ f m (by omega)) ?_)))
    by_cases c1 : (areasCut (areasCut a f m).1 f' m').2 = true
    · refine Ev.pos c1 ?_
      by_cases c2 : (areasCut a f' m').2 = true
      · refine Ev.pos c2 ?_
        by_cases c3 : (areasCut (areasCut a f' m').1 f m).2 = true
        · refine Ev.pos c3 ?_
          obtain ⟨_, v1, x1, _⟩ := areasCut_ok ho
          obtain ⟨_, v2, y1, _⟩ := areasCut_ok c1
          obtain ⟨_, _, u1, _⟩ := areasCut_ok c2
          obtain ⟨_, _, z1, _⟩ := areasCut_ok c3
          have g1 := (areaOk_iff _).1 v1
          have g2 := (areaOk_iff _).1 v2
          simp only at g1 g2
          have e : (areasCut (areasCut a f m).1 f' m').1 = (areasCut (areasCut a f' m').1 f m).1 := by
            rw [y1, x1, z1, u1, cut_comm _ _ _ _ _ (by omega) (by omega)]
          have hr3 := areasCut_len (areasCut a f' m').1 f m
          rw [e]
          exact Ev.bind (qdAreas_self _ (by omega)) (Ev.now _)
        · exact Ev.neg c3 (Ev.pure rfl)
      · exact Ev.neg c2 (Ev.pure rfl)
    · exact Ev.neg c1 (Ev.pure rfl)
end Go.Proofs.Ytlahnekinlkfmaa.Pure
