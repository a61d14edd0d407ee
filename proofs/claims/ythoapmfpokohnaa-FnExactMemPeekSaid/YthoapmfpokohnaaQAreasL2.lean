/- Areas, without Go and memory: valid lists, which area has a page (for seats that have spec.l2At, but not spec.AreasAt). -/
import Derived.Test.YthoapmfpokohnaaQAreas
import Derived.Test.YthoapmfpokohnaaPf0
import Derived.Test.YthoapmfpokohnaaPfM7
import Derived.Test.YthoapmfpokohnaaPfM3
namespace Go.Proofs.Ythoapmfpokohnaa.Q
open Go.RowKit Go.Proofs.YthoapmfpokohnaaW.PrintWords Go.Proofs.YthoapmfpokohnaaW.PrintLast Go.Proofs.YthoapmfpokohnaaW.PrintMore Go.Proofs.Ythoapmfpokohnaa.P
set_option linter.unusedVariables false
set_option linter.unusedSimpArgs false

def fin (a : Ar) : Int := a.f0 + a.f1
def vldA (lo : Int) : List Ar → Bool
  | [] => true
  | a :: l => areaOk a && decide (lo ≤ a.f0) && vldA (fin a) l
theorem areaOk_iff (a : Ar) : areaOk a = true ↔ 0 ≤ a.f0 ∧ a.f0 ≤ 15 ∧ 1 ≤ a.f1 ∧ a.f1 ≤ 16 - a.f0 := by
  simp [areaOk, and_assoc]
theorem fin_wrap {a : Ar} (h : areaOk a = true) : wrap64 (a.f0 + a.f1) = fin a := by
  rw [areaOk_iff] at h
  exact wrap_id (by omega) (by omega)
theorem rd_pre (pre : List Ar) (x : Ar) (post : List Ar) : rd_T108 (pre ++ x :: post) (pre.length : Int) = x := by
  simp [rd_T108, List.getD_eq_getElem?_getD]
theorem at_pre (pre : List Ar) (x : Ar) (post : List Ar) : atA (pre ++ x :: post) pre.length = x := by
  simp [atA, List.getD_eq_getElem?_getD]
theorem at_last (pre : List Ar) (y x : Ar) (post : List Ar) : atA (pre ++ [y] ++ x :: post) pre.length = y := by
  rw [List.append_assoc]; exact at_pre _ _ _
theorem okFrom_vldA : ∀ (rest pre : List Ar) (lo : Int), (pre = [] ∧ lo = 0 ∨ ∃ p y, pre = p ++ [y] ∧ areaOk y = true ∧ lo = fin y) → okFrom (pre ++ rest) rest.length pre.length = vldA lo rest := by
  intro rest
  induction rest with
  | nil => intro pre lo _; rfl
  | cons x rest ih =>
    intro pre lo h
    show (okAt (pre ++ x :: rest) pre.length && okFrom (pre ++ x :: rest) rest.length (pre.length + 1)) = (areaOk x && decide (lo ≤ x.f0) && vldA (fin x) rest)
    have hat : okAt (pre ++ x :: rest) pre.length = (areaOk x && decide (lo ≤ x.f0)) := by
      unfold okAt
      rw [at_pre]
      cases hx : areaOk x with
      | false => rfl
      | true =>
        have hx' := (areaOk_iff x).1 hx
        rcases h with ⟨rfl, rfl⟩ | ⟨p, y, rfl, hy, rfl⟩
        · simp [hx'.1]
        · have e : (p ++ [y]).length - 1 = p.length := by simp
          rw [e, at_last, fin_wrap hy]
          simp
    rw [hat]
    cases hx : areaOk x with
    | false => rfl
    | true =>
      have := ih (pre ++ [x]) (fin x) (.inr ⟨pre, x, rfl, hx, rfl⟩)
      rw [List.append_assoc, List.length_append] at this
      simp only [List.singleton_append, List.length_singleton] at this
      rw [this]
theorem areasOk_eq (l : List Ar) : areasOk l = (vldA 0 l && decide (l.length ≤ 6)) := by
  unfold areasOk
  have := okFrom_vldA l [] 0 (.inl ⟨rfl, rfl⟩)
  simp only [List.nil_append, List.length_nil] at this
  rw [this]
theorem vldA_cons {lo : Int} {a : Ar} {l : List Ar} : vldA lo (a :: l) = true ↔ areaOk a = true ∧ lo ≤ a.f0 ∧ vldA (fin a) l = true := by
  simp [vldA, and_assoc]
theorem vldA_mono : ∀ {l : List Ar} {lo lo' : Int}, lo' ≤ lo → vldA lo l = true → vldA lo' l = true
  | [], _, _, _, _ => rfl
  | a :: l, lo, lo', h, hk => by rw [vldA_cons] at hk ⊢; exact ⟨hk.1, by omega, hk.2.2⟩
theorem vldA_mem : ∀ {l : List Ar} {lo : Int}, vldA lo l = true → ∀ a ∈ l, areaOk a = true ∧ lo ≤ a.f0
  | [], _, _, a, ha => by simp at ha
  | b :: l, lo, h, a, ha => by
    rw [vldA_cons] at h
    rcases List.mem_cons.1 ha with rfl | ha
    · exact ⟨h.1, h.2.1⟩
    · have := vldA_mem h.2.2 a ha
      have hb := (areaOk_iff b).1 h.1
      unfold fin at this
      exact ⟨this.1, by omega⟩
theorem areasOk_iff (l : List Ar) : areasOk l = true ↔ vldA 0 l = true ∧ l.length ≤ 6 := by
  rw [areasOk_eq]; simp

/-- The area of a page. -/
def has (p : Int) (a : Ar) : Bool := decide (a.f0 ≤ p) && decide (p < fin a)
theorem hit_has {p : Int} {a : Ar} (h : areaOk a = true) : impl_AreasAt.hit p a = has p a := by
  unfold impl_AreasAt.hit has
  rw [fin_wrap h]
def areasAt (l : List Ar) (p : Int) : Int := if areasOk l = true then impl_AreasAt.idx p l 0 else -1
theorem implAt (l : List Ar) (hn : l.length ≤ 9223372036854775807) (p : Int) : Ev (fun k => impl_AreasAt.f k l p) (areasAt l p) := by
  unfold impl_AreasAt.f areasAt
  refine Ev.bind (implOk l hn) ?_
  by_cases h : areasOk l = true
  · exact Ev.cast (Ev.pos h (Ev.pure rfl)) (if_pos h).symm
  · exact Ev.cast (Ev.neg h (Ev.pure rfl)) (if_neg h).symm
theorem specL2At_l (p : Int) : ∀ (rest pre : List Ar), (pre ++ rest).length ≤ 9223372036854775807 → (∀ a ∈ rest, areaOk a = true) → Ev (fun k => spec_l2At.l0 k (pre ++ rest) p (pre.length : Int)) (impl_AreasAt.idx p rest (pre.length : Int)) := by
  intro rest
  induction rest with
  | nil =>
    intro pre hn _
    refine Ev.step (fun k => by simp only [spec_l2At.l0]; rfl) ?_
    exact Ev.neg (by simp) (Ev.pure rfl)
  | cons x rest ih =>
    intro pre hn hok
    have hlt : pre.length < (pre ++ x :: rest).length := by simp
    have hx := hok x (by simp)
    have hx' := (areaOk_iff x).1 hx
    refine Ev.step (fun k => by simp only [spec_l2At.l0]; rfl) ?_
    refine Ev.pos (by omega) (Ev.pos (by omega) ?_)
    rw [rd_pre, fin_wrap hx, l6In_eq, succ_wrap hlt hn]
    have hf : wrap64 (fin x - 1) = fin x - 1 := by unfold fin; exact wrap_id (by omega) (by omega)
    have hh : (decide (x.f0 ≤ p) && decide (p ≤ wrap64 (fin x - 1))) = impl_AreasAt.hit p x := by
      rw [hit_has hx, hf]
      unfold has
      congr 1
      exact decide_eq_decide.2 (by omega)
    rw [hh]
    refine Ev.bind (Ev.now _) ?_
    show Ev _ (if impl_AreasAt.hit p x = true then (pre.length : Int) else impl_AreasAt.idx p rest (pre.length + 1))
    by_cases h : impl_AreasAt.hit p x = true
    · rw [if_pos h]; exact Ev.pos h (Ev.pure rfl)
    · rw [if_neg h]
      refine Ev.neg h ?_
      have := ih (pre ++ [x]) (by simpa using hn) (fun a ha => hok a (by simp [ha]))
      simp only [List.append_assoc, List.singleton_append, List.length_append, List.length_singleton] at this
      have e : ((pre.length + 1 : Nat) : Int) = (pre.length : Int) + 1 := by omega
      rw [e] at this ⊢
      exact this
end Go.Proofs.Ythoapmfpokohnaa.Q
