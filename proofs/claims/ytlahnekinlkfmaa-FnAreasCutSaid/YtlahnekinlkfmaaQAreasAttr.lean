/- Areas, without Go and memory: what is told of a page (may it be written, is it shared), and which area says so. -/
import Derived.Test.YtlahnekinlkfmaaQAreasCut
import Derived.Test.YtlahnekinlkfmaaPfimplAreasAt
namespace Go.Proofs.Ytlahnekinlkfmaa.Q
open Go.RowKit Go.Proofs.YtlahnekinlkfmaaW.PrintWords Go.Proofs.YtlahnekinlkfmaaW.PrintLast Go.Proofs.YtlahnekinlkfmaaW.PrintMore Go.Proofs.Ytlahnekinlkfmaa.P
set_option linter.unusedVariables false
/-- Write and Shared of the area that has a page. -/
def attr (p : Int) : List Ar → Option (Bool × Bool)
  | [] => none
  | a :: l => if has p a = true then some (a.f2, a.f3) else attr p l
theorem attr_append (p : Int) (l l' : List Ar) : attr p (l ++ l') = (attr p l).or (attr p l') := by
  induction l with
  | nil => rfl
  | cons a l ih =>
    simp only [List.cons_append, attr]
    split
    · rfl
    · exact ih
theorem attr_seg (p : Int) (x : Ar) (a b : Int) : attr p (seg x a b) = if a ≤ p ∧ p < b then some (x.f2, x.f3) else none := by
  by_cases h : a < b
  · rw [seg_pos h]
    simp only [attr]
    have e : fin (⟨a, b - a, x.f2, x.f3⟩ : Ar) = b := by show a + (b - a) = b; omega
    unfold has
    rw [e]
    by_cases c : a ≤ p ∧ p < b
    · rw [if_pos c, if_pos (by simpa using c)]
    · rw [if_neg c, if_neg (by simpa using c)]
  · rw [seg_neg h, if_neg (by omega)]
    rfl
theorem attr_cut1 (p f e : Int) (x : Ar) : attr p (cut1 f e x) = if f ≤ p ∧ p < e then (if e ≤ f then attr p [x] else none) else attr p [x] := by
  unfold cut1
  rw [attr_append, attr_seg, attr_seg]
  simp only [attr]
  have hh : has p x = (decide (x.f0 ≤ p) && decide (p < fin x)) := rfl
  by_cases c : f ≤ p ∧ p < e
  · rw [if_pos c, if_neg (by omega), if_neg (by omega), if_neg (by omega)]
    rfl
  · rw [if_neg c]
    by_cases d : x.f0 ≤ p ∧ p < fin x
    · have d' : has p x = true := by rw [hh]; simpa using d
      rw [if_pos d']
      by_cases g : p < f
      · rw [if_pos (by omega)]; rfl
      · rw [if_neg (by omega), if_pos (by omega)]; rfl
    · have d' : ¬ has p x = true := by rw [hh]; simpa using d
      rw [if_neg d', if_neg (by omega), if_neg (by omega)]
      rfl
theorem attr_cut (p f e : Int) (h : f < e) (l : List Ar) : attr p (cutL f e l) = if f ≤ p ∧ p < e then none else attr p l := by
  induction l with
  | nil => simp [cutL, attr]
  | cons x l ih =>
    rw [cutL_cons, attr_append, ih, attr_cut1]
    by_cases c : f ≤ p ∧ p < e
    · rw [if_pos c, if_pos c, if_pos c, if_neg (by omega)]
      rfl
    · rw [if_neg c, if_neg c, if_neg c]
      simp only [attr]
      split <;> rfl
theorem idx_attr (p : Int) : ∀ (l : List Ar) (b : Int), 0 ≤ b → (∀ a ∈ l, areaOk a = true) → (impl_AreasAt.idx p l b = -1 ∧ attr p l = none) ∨ ∃ i : Nat, i < l.length ∧ impl_AreasAt.idx p l b = b + i ∧ attr p l = some ((atA l i).f2, (atA l i).f3)
  | [], b, hb, _ => .inl ⟨rfl, rfl⟩
  | a :: l, b, hb, hok => by
    simp only [impl_AreasAt.idx, attr, hit_has (hok a (by simp))]
    by_cases hh : has p a = true
    · rw [if_pos hh, if_pos hh]
      exact .inr ⟨0, by simp, by simp, by simp [atA]⟩
    · rw [if_neg hh, if_neg hh]
      rcases idx_attr p l (b + 1) (by omega) (fun x hx => hok x (by simp [hx])) with ⟨h1, h2⟩ | ⟨i, h1, h2, h3⟩
      · exact .inl ⟨h1, h2⟩
      · exact .inr ⟨i + 1, by simp; omega, by rw [h2]; omega, by simpa [atA] using h3⟩
/-- Of a valid list. -/
theorem at_attr {l : List Ar} (ho : areasOk l = true) (p : Int) : (areasAt l p = -1 ∧ attr p l = none) ∨ ∃ i : Nat, i < l.length ∧ areasAt l p = i ∧ attr p l = some ((atA l i).f2, (atA l i).f3) := by
  have e : areasAt l p = impl_AreasAt.idx p l 0 := if_pos ho
  rw [e]
  rcases idx_attr p l 0 (by omega) (fun a ha => (vldA_mem ((areasOk_iff l).1 ho).1 a ha).1) with h | ⟨i, h1, h2, h3⟩
  · exact .inl h
  · exact .inr ⟨i, h1, by omega, h3⟩
end Go.Proofs.Ytlahnekinlkfmaa.Q
