/- Memory's Ok, the reference's side, without Go and memory. -/
import Derived.Test.YthoapmfpokohnaaQMemI
import Derived.Test.YthoapmfpokohnaaPf0
import Derived.Test.YthoapmfpokohnaaPfM7
import Derived.Test.YthoapmfpokohnaaPfM8
import Derived.Test.YthoapmfpokohnaaPfM3
import Derived.Test.YthoapmfpokohnaaPfM4
namespace Go.Proofs.Ythoapmfpokohnaa.Q
open Go.RowKit Go.Proofs.YthoapmfpokohnaaW.PrintWords Go.Proofs.YthoapmfpokohnaaW.PrintLast Go.Proofs.YthoapmfpokohnaaW.PrintMore Go.Proofs.Ythoapmfpokohnaa.P
set_option linter.unusedVariables false
set_option linter.unusedSimpArgs false
-- pages
def pgB (d : List ByteArray) (r : List Int) (i : Nat) : Bool := (decide (0 ≤ rd r (i : Int)) && decide (rd r (i : Int) ≤ 99)) && decide (((rdOf ByteArray.empty d (i : Int)).size : Int) = if rd r (i : Int) = 0 then 0 else 4)
def pagesB (d : List ByteArray) (r : List Int) : Bool := decide (d.length = r.length) && ((decide (1 ≤ (d.length : Int)) && decide ((d.length : Int) ≤ 12)) && allP (pgB d r) r.length 0)
theorem pages_impl_l (d : List ByteArray) (r : List Int) (hl : d.length = r.length) (hn : r.length ≤ 1048576) : ∀ n i : Nat, i + n = r.length → Ev (fun k => impl_PagesOk.l0 k r (r.length : Int) (i : Int) d r) (allP (pgB d r) n i) := by
  intro n
  induction n with
  | zero =>
    intro i hi
    refine Ev.step (fun k => by simp only [impl_PagesOk.l0]; rfl) ?_
    exact Ev.neg (by omega) (Ev.pure rfl)
  | succ n ih =>
    intro i hi
    have hlt : i < r.length := by omega
    refine Ev.step (fun k => by simp only [impl_PagesOk.l0]; rfl) ?_
    refine Ev.pos (by omega) (Ev.pos (by omega) (Ev.pos (by omega) ?_))
    simp only [in_eq, Option.bind_some]
    rw [succ_wrap hlt (by omega)]
    have ih := ih (i + 1) (by omega)
    show Ev _ (pgB d r i && allP (pgB d r) n (i + 1))
    unfold pgB
    by_cases h0 : rd r (i : Int) = 0
    · refine Ev.pos h0 ?_
      rw [if_pos h0]
      cases hb : (decide (0 ≤ rd r (i : Int)) && decide (rd r (i : Int) ≤ 99))
      · exact Ev.neg (by decide) (Ev.pure rfl)
      refine Ev.pos rfl (Ev.pos (by omega) ?_)
      by_cases hs : ((rdOf ByteArray.empty d (i : Int)).size : Int) = 0
      · rw [decide_eq_true hs]
        exact Ev.pos hs ih
      · rw [decide_eq_false hs]
        exact Ev.neg hs (Ev.pure rfl)
    · refine Ev.neg h0 ?_
      rw [if_neg h0]
      cases hb : (decide (0 ≤ rd r (i : Int)) && decide (rd r (i : Int) ≤ 99))
      · exact Ev.neg (by decide) (Ev.pure rfl)
      refine Ev.pos rfl (Ev.pos (by omega) ?_)
      by_cases hs : ((rdOf ByteArray.empty d (i : Int)).size : Int) = 4
      · rw [decide_eq_true hs]
        exact Ev.pos hs ih
      · rw [decide_eq_false hs]
        exact Ev.neg hs (Ev.pure rfl)
theorem pages_spec_l (d : List ByteArray) (r : List Int) (hl : d.length = r.length) (hn : r.length ≤ 1048576) : ∀ n i : Nat, i + n = r.length → Ev (fun k => spec_PagesOk.l0 k (i : Int) d r) (allP (pgB d r) n i) := by
  intro n
  induction n with
  | zero =>
    intro i hi
    refine Ev.step (fun k => by simp only [spec_PagesOk.l0]; rfl) ?_
    exact Ev.neg (by omega) (Ev.pure rfl)
  | succ n ih =>
    intro i hi
    have hlt : i < r.length := by omega
    refine Ev.step (fun k => by simp only [spec_PagesOk.l0]; rfl) ?_
    refine Ev.pos (by omega) (Ev.pos (by omega) (Ev.pos (by omega) ?_))
    simp only [l6In_eq, Option.bind_some]
    rw [succ_wrap hlt (by omega)]
    have ih := ih (i + 1) (by omega)
    show Ev _ (pgB d r i && allP (pgB d r) n (i + 1))
    unfold pgB
    by_cases h0 : rd r (i : Int) = 0
    · refine Ev.pos h0 ?_
      rw [if_pos h0]
      cases hb : (decide (0 ≤ rd r (i : Int)) && decide (rd r (i : Int) ≤ 99))
      · exact Ev.neg (by decide) (Ev.pure rfl)
      refine Ev.pos rfl ?_
      by_cases hs : ((rdOf ByteArray.empty d (i : Int)).size : Int) = 0
      · rw [decide_eq_true hs]
        exact Ev.pos hs ih
      · rw [decide_eq_false hs]
        exact Ev.neg hs (Ev.pure rfl)
    · refine Ev.neg h0 ?_
      rw [if_neg h0]
      cases hb : (decide (0 ≤ rd r (i : Int)) && decide (rd r (i : Int) ≤ 99))
      · exact Ev.neg (by decide) (Ev.pure rfl)
      refine Ev.pos rfl ?_
      by_cases hs : ((rdOf ByteArray.empty d (i : Int)).size : Int) = 4
      · rw [decide_eq_true hs]
        exact Ev.pos hs ih
      · rw [decide_eq_false hs]
        exact Ev.neg hs (Ev.pure rfl)
theorem pages_impl (d : List ByteArray) (r : List Int) (hn : r.length ≤ 1048576) : Ev (fun k => impl_PagesOk.f k d r) (pagesB d r) := by
  unfold impl_PagesOk.f pagesB
  simp only [in_eq, Option.bind_some]
  by_cases hl : d.length = r.length
  · rw [decide_eq_true hl, Bool.true_and]
    refine Ev.pos (by omega) (Ev.step (fun k => by simp only [impl_PagesOk.j0]; rfl) ?_)
    cases hb : (decide (1 ≤ (d.length : Int)) && decide ((d.length : Int) ≤ 12))
    · exact Ev.pos rfl (Ev.pure rfl)
    · exact Ev.neg (by decide) (pages_impl_l d r hl hn r.length 0 (by omega))
  · rw [decide_eq_false hl]
    refine Ev.neg (by omega) (Ev.step (fun k => by simp only [impl_PagesOk.j0]; rfl) ?_)
    exact Ev.pos trivial (Ev.pure rfl)
theorem pages_spec (d : List ByteArray) (r : List Int) (hn : r.length ≤ 1048576) : Ev (fun k => spec_PagesOk.f k d r) (pagesB d r) := by
  unfold spec_PagesOk.f pagesB
  simp only [l6In_eq, Option.bind_some]
  by_cases hl : d.length = r.length
  · rw [decide_eq_true hl, Bool.true_and]
    refine Ev.pos (by omega) (Ev.step (fun k => by simp only [spec_PagesOk.j0]; rfl) ?_)
    cases hb : (decide (1 ≤ (d.length : Int)) && decide ((d.length : Int) ≤ 12))
    · exact Ev.pos rfl (Ev.pure rfl)
    · exact Ev.neg (by decide) (pages_spec_l d r hl hn r.length 0 (by omega))
  · rw [decide_eq_false hl]
    refine Ev.neg (by omega) (Ev.step (fun k => by simp only [spec_PagesOk.j0]; rfl) ?_)
    exact Ev.pos trivial (Ev.pure rfl)
-- a space
theorem l2At_ev {l : List Ar} (ho : areasOk l = true) (p : Int) : Ev (fun k => spec_l2At.f k l p) (impl_AreasAt.idx p l 0) := by
  have h := (areasOk_iff l).1 ho
  exact specL2At_l p l [] (by simp only [List.nil_append]; omega) (fun a m => (vldA_mem h.1 a m).1)
theorem sh_spec {s : Sp} (ho : areasOk s.f1 = true) (p : Nat) : Ev (fun k => spec_l3Shared.f k s.f0 s.f1 s.f2 (p : Int)) (shB s p) := by
  unfold spec_l3Shared.f
  refine Ev.bind (l2At_ev ho (p : Int)) ?_
  unfold shB
  by_cases c : 0 ≤ atB s p
  · rw [if_pos c]
    exact Ev.pos c (Ev.pos c (Ev.pos (at_lt c) (Ev.now _)))
  · rw [if_neg c]
    exact Ev.neg c (Ev.now _)
theorem space_l {s : Sp} (b : Bool) (ho : areasOk s.f1 = true) (h16 : s.f2.length = 16) : ∀ n i : Nat, i + n = 16 → Ev (fun k => spec_l3Space.l0 k (i : Int) b s.f1 s.f2) (allP (slotB s) n i) := by
  intro n
  induction n with
  | zero =>
    intro i hi
    refine Ev.step (fun k => by simp only [spec_l3Space.l0]; rfl) ?_
    exact Ev.neg (by omega) (Ev.pure rfl)
  | succ n ih =>
    intro i hi
    refine Ev.step (fun k => by simp only [spec_l3Space.l0]; rfl) ?_
    refine Ev.pos (by omega) (Ev.pos (by omega) (Ev.pos (by omega) ?_))
    refine Ev.bind (l2At_ev ho (i : Int)) ?_
    have ih := ih (i + 1) (by omega)
    show Ev (fun k => if (sl s i).f0 = 0 then (if (!((sl s i).f0 == 0) || (!((sl s i).f1 == 0) || ((sl s i).f2 || ((sl s i).f3)))) = true then some false else spec_l3Space.l0 k (wrap64 ((i : Int) + 1)) b s.f1 s.f2) else if atB s i < 0 then spec_l3Space.j2 k (i : Int) (atB s i) true b s.f1 s.f2 (sl s i).f0 (sl s i).f1 (sl s i).f2 (sl s i).f3 else (spec_l6In.f (sl s i).f0 1 2).bind fun t => spec_l3Space.j2 k (i : Int) (atB s i) (!t) b s.f1 s.f2 (sl s i).f0 (sl s i).f1 (sl s i).f2 (sl s i).f3) (slotB s i && allP (slotB s) n (i + 1))
    rw [lsucc_wrap (n := 16) (by omega) (by omega)]
    simp only [l6In_eq, Option.bind_some]
    by_cases h0 : (sl s i).f0 = 0
    · have e0 : slotB s i = neB (sl s i) := by unfold slotB; rw [if_pos h0]
      rw [e0]
      refine Ev.pos h0 ?_
      have he : (!((sl s i).f0 == 0) || (!((sl s i).f1 == 0) || ((sl s i).f2 || ((sl s i).f3)))) = !neB (sl s i) := by
        unfold neB
        rw [h0, Bool.beq_eq_decide_eq, Bool.beq_eq_decide_eq]
        cases decide ((sl s i).f1 = 0) <;> cases (sl s i).f2 <;> cases (sl s i).f3 <;> rfl
      rw [he]
      cases neB (sl s i)
      · exact Ev.pos rfl (Ev.pure rfl)
      · exact Ev.neg (by decide) ih
    · have e0 : slotB s i = (decide (0 ≤ atB s i) && ((decide (1 ≤ (sl s i).f0) && decide ((sl s i).f0 ≤ 2)) && (!shB s i || (sl s i).f2))) := by unfold slotB; rw [if_neg h0]
      rw [e0]
      refine Ev.neg h0 ?_
      by_cases ha : atB s i < 0
      · rw [decide_eq_false (by omega : ¬ 0 ≤ atB s i)]
        refine Ev.pos ha (Ev.step (fun k => by simp only [spec_l3Space.j2]; rfl) ?_)
        exact Ev.pos trivial (Ev.pure rfl)
      refine Ev.neg ha ?_
      rw [decide_eq_true (by omega : 0 ≤ atB s i), Bool.true_and]
      refine Ev.step (fun k => by simp only [spec_l3Space.j2]; rfl) ?_
      cases hb : (decide (1 ≤ (sl s i).f0) && decide ((sl s i).f0 ≤ 2))
      · exact Ev.pos rfl (Ev.pure rfl)
      refine Ev.neg (by decide) (Ev.pos (by omega) (Ev.pos (at_lt (by omega)) ?_))
      rw [Bool.true_and]
      have hs : shB s i = (rd_T108 s.f1 (atB s i)).f3 := by
        unfold shB
        rw [if_pos (by omega)]
      rw [← hs, lsucc_wrap (n := 16) (by omega) (by omega)]
      cases hsh : shB s i
      · exact Ev.neg (by decide) (Ev.cast ih (by simp))
      · refine Ev.pos rfl ?_
        cases ho2 : (sl s i).f2
        · exact Ev.neg (by decide) (Ev.pure rfl)
        · exact Ev.pos rfl ih
theorem space_ev (s : Sp) (h1 : s.f1.length ≤ 9223372036854775807) : Ev (fun k => spec_l3Space.f k s.f0 s.f1 s.f2) (spB s) := by
  unfold spec_l3Space.f spB
  by_cases hl : s.f0 = true
  · rw [if_pos hl]
    refine Ev.pos hl (Ev.bind (specOk s.f1 h1) ?_)
    cases ho : areasOk s.f1
    · refine Ev.neg (by decide) (Ev.step (fun k => by simp only [spec_l3Space.j0]; rfl) ?_)
      exact Ev.pos trivial (Ev.pure rfl)
    refine Ev.pos rfl (Ev.step (fun k => by simp only [spec_l3Space.j0]; rfl) ?_)
    by_cases h16 : s.f2.length = 16
    · rw [decide_eq_true h16, h16]
      exact Ev.neg (by decide) (space_l true ho h16 16 0 (by omega))
    · rw [decide_eq_false h16]
      exact Ev.pos (bne_iff_ne.2 (by omega)) (Ev.pure rfl)
  · rw [if_neg hl]
    refine Ev.neg hl ?_
    by_cases h0 : s.f1.length = 0
    · rw [decide_eq_true h0]
      refine Ev.pos (by omega) (Ev.pure ?_)
      rw [Bool.beq_eq_decide_eq, Bool.true_and]
      exact decide_eq_decide.2 (by omega)
    · rw [decide_eq_false h0]
      exact Ev.neg (by omega) (Ev.pure rfl)
end Go.Proofs.Ythoapmfpokohnaa.Q
