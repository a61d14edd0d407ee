/- Areas without Go and memory: all that the laws over settings use, in one text. -/
import Derived.Test.YtlahnekinlkfmaaQBase
import Derived.Test.YtlahnekinlkfmaaQPick
import Derived.Test.YtlahnekinlkfmaaPf0
import Derived.Test.YtlahnekinlkfmaaPfbitsLen
import Derived.Test.YtlahnekinlkfmaaPfbitsLen64
import Derived.Test.YtlahnekinlkfmaaPfimplAreaOk
import Derived.Test.YtlahnekinlkfmaaPfimplAreaend
import Derived.Test.YtlahnekinlkfmaaPfimplAreasAdd
import Derived.Test.YtlahnekinlkfmaaPfimplAreasAdd1
import Derived.Test.YtlahnekinlkfmaaPfimplAreasAt
import Derived.Test.YtlahnekinlkfmaaPfimplAreasCut
import Derived.Test.YtlahnekinlkfmaaPfimplAreasOk
import Derived.Test.YtlahnekinlkfmaaPfimplAreasPages
import Derived.Test.YtlahnekinlkfmaaPfimplAreasSet
import Derived.Test.YtlahnekinlkfmaaPfimplin
import Derived.Test.YtlahnekinlkfmaaPflawsqdAreas
import Derived.Test.YtlahnekinlkfmaaPfslicesCloneArea
import Derived.Test.YtlahnekinlkfmaaPfslicesSortFuncArea
import Derived.Test.YtlahnekinlkfmaaPfslicesinsertionSortCmpFuncArea
import Derived.Test.YtlahnekinlkfmaaPfslicespdqsortCmpFuncArea
import Derived.Test.YtlahnekinlkfmaaPfspecAreaOk
import Derived.Test.YtlahnekinlkfmaaPfspecAreasAdd
import Derived.Test.YtlahnekinlkfmaaPfspecAreasAt
import Derived.Test.YtlahnekinlkfmaaPfspecAreasCut
import Derived.Test.YtlahnekinlkfmaaPfspecAreasOk
import Derived.Test.YtlahnekinlkfmaaPfspecAreasPages
import Derived.Test.YtlahnekinlkfmaaPfspecAreasSet
import Derived.Test.YtlahnekinlkfmaaPfspecDrawAreasSet
import Derived.Test.YtlahnekinlkfmaaPfspecl2Add
import Derived.Test.YtlahnekinlkfmaaPfspecl2At
import Derived.Test.YtlahnekinlkfmaaPfspecl2Cut
import Derived.Test.YtlahnekinlkfmaaPfspecl2Part
import Derived.Test.YtlahnekinlkfmaaPfspecl6In
import Derived.Test.YtlahnekinlkfmaaPfspecl91Area
import Derived.Test.YtlahnekinlkfmaaPfspecl91Areas
namespace Go.Proofs.Ytlahnekinlkfmaa.Q
open Go.RowKit Go.Proofs.YtlahnekinlkfmaaW.PrintWords Go.Proofs.YtlahnekinlkfmaaW.PrintLast Go.Proofs.YtlahnekinlkfmaaW.PrintMore Go.Proofs.Ytlahnekinlkfmaa.P
set_option linter.unusedVariables false
set_option linter.unusedSimpArgs false

abbrev Ar := S24
def areaOk (a : Ar) : Bool := decide (0 ≤ a.f0) && decide (a.f0 ≤ 15) && decide (1 ≤ a.f1) && decide (a.f1 ≤ 16 - a.f0)
def atA (l : List Ar) (i : Nat) : Ar := l.getD i z24
theorem rd_at (l : List Ar) (i : Nat) : rd_T24 l (i : Int) = atA l i := by simp [rd_T24, atA]
def okAt (l : List Ar) (i : Nat) : Bool := areaOk (atA l i) && (decide (i = 0) || decide (wrap64 ((atA l (i - 1)).f0 + (atA l (i - 1)).f1) ≤ (atA l i).f0))
def okFrom (l : List Ar) : Nat → Nat → Bool
  | 0, _ => true
  | d + 1, i => okAt l i && okFrom l d (i + 1)
def areasOk (l : List Ar) : Bool := okFrom l l.length 0 && decide (l.length ≤ 6)

theorem in_eq (a b c : Int) : impl_in.f a b c = some (decide (b ≤ a) && decide (a ≤ c)) := by
  unfold impl_in.f
  by_cases h : a ≥ b
  · rw [if_pos h]; have h' : b ≤ a := h; simp [h']
  · rw [if_neg h]; have h' : ¬ b ≤ a := h; simp [h']
theorem l6In_eq (a b c : Int) : spec_l6In.f a b c = some (decide (b ≤ a) && decide (a ≤ c)) := by
  unfold spec_l6In.f
  by_cases h : a ≥ b
  · rw [if_pos h]; have h' : b ≤ a := h; simp [h']
  · rw [if_neg h]; have h' : ¬ b ≤ a := h; simp [h']
theorem AreaOk_eq (a b : Int) (c d : Bool) : impl_AreaOk.f a b c d = some (areaOk ⟨a, b, c, d⟩) := by
  unfold impl_AreaOk.f areaOk
  rw [in_eq]
  simp only [Option.bind_some]
  by_cases h : 0 ≤ a ∧ a ≤ 15
  · have hw : wrap64 (16 - a) = 16 - a := wrap_id (by omega) (by omega)
    rw [if_pos (by simp [h]), in_eq, hw]
    simp [h]
  · rw [if_neg (by simpa using h)]
    have : (decide (0 ≤ a) && decide (a ≤ 15)) = false := by simpa using h
    simp [this]
theorem specAreaOk_eq (a b : Int) (c d : Bool) : spec_AreaOk.f a b c d = some (areaOk ⟨a, b, c, d⟩) := by
  unfold spec_AreaOk.f areaOk
  rw [l6In_eq]
  simp only [Option.bind_some]
  by_cases h : 0 ≤ a ∧ a ≤ 15
  · have hw : wrap64 (16 - a) = 16 - a := wrap_id (by omega) (by omega)
    rw [if_pos (by simp [h]), l6In_eq, hw]
    simp [h]
  · rw [if_neg (by simpa using h)]
    have : (decide (0 ≤ a) && decide (a ≤ 15)) = false := by simpa using h
    simp [this]

theorem succ_wrap {i n : Nat} (h : i < n) (hn : n ≤ 9223372036854775807) : wrap64 ((i : Int) + 1) = ((i + 1 : Nat) : Int) := by
  rw [wrap_id (by omega) (by omega)]; omega
theorem pred_wrap {i n : Nat} (h0 : 0 < i) (h : i < n) (hn : n ≤ 9223372036854775807) : wrap64 ((i : Int) - 1) = ((i - 1 : Nat) : Int) := by
  rw [wrap_id (by omega) (by omega)]; omega

theorem implOk_l (l : List Ar) (hn : l.length ≤ 9223372036854775807) : ∀ d i : Nat, i + d = l.length → Ev (fun k => impl_AreasOk.l0 k l l (l.length : Int) (i : Int)) (okFrom l d i && decide (l.length ≤ 6)) := by
  intro d
  induction d with
  | zero =>
    intro i hi
    refine Ev.step (fun k => by simp only [impl_AreasOk.l0]; rfl) ?_
    refine Ev.neg (by omega) (Ev.pure ?_)
    simp [okFrom, Int.ofNat_le]
    omega
  | succ d ih =>
    intro i hi
    have hlt : i < l.length := by omega
    refine Ev.step (fun k => by simp only [impl_AreasOk.l0]; rfl) ?_
    refine Ev.pos (by omega) (Ev.pos (by omega) (Ev.pos (by omega) ?_))
    rw [rd_at]
    refine Ev.bind (Ev.const (AreaOk_eq _ _ _ _)) ?_
    have hok : okFrom l (d + 1) i = (okAt l i && okFrom l d (i + 1)) := rfl
    rw [hok]
    unfold okAt
    cases ha : areaOk (atA l i) with
    | false =>
      refine Ev.neg (by decide) (Ev.pure ?_)
      simp
    | true =>
      refine Ev.pos rfl ?_
      rw [succ_wrap hlt hn]
      rcases Nat.eq_zero_or_pos i with h0 | h0
      · refine Ev.neg (by omega) ?_
        refine (ih (i + 1) (by omega)).cast ?_
        simp [h0]
      · rw [pred_wrap h0 hlt hn]
        refine Ev.pos (by omega) (Ev.pos (by omega) (Ev.pos (by omega) ?_))
        rw [rd_at]
        refine Ev.bind (Ev.const (by unfold impl_Area_end.f; rfl)) ?_
        by_cases hc : wrap64 ((atA l (i - 1)).f0 + (atA l (i - 1)).f1) ≤ (atA l i).f0
        · refine Ev.neg (by omega) ((ih (i + 1) (by omega)).cast ?_)
          simp [hc]
        · refine Ev.pos (by omega) (Ev.pure ?_)
          have : ¬ i = 0 := by omega
          simp [hc, this]
theorem implOk (l : List Ar) (hn : l.length ≤ 9223372036854775807) : Ev (fun k => impl_AreasOk.f k l) (areasOk l) :=
  (implOk_l l hn l.length 0 (by omega))

theorem specOk_l (l : List Ar) (hn : l.length ≤ 9223372036854775807) : ∀ d i : Nat, i + d = l.length → Ev (fun k => spec_AreasOk.l0 k l (i : Int)) (okFrom l d i && decide (l.length ≤ 6)) := by
  intro d
  induction d with
  | zero =>
    intro i hi
    refine Ev.step (fun k => by simp only [spec_AreasOk.l0]; rfl) ?_
    refine Ev.neg (by omega) (Ev.pure ?_)
    simp [okFrom, Int.ofNat_le]
    omega
  | succ d ih =>
    intro i hi
    have hlt : i < l.length := by omega
    refine Ev.step (fun k => by simp only [spec_AreasOk.l0]; rfl) ?_
    refine Ev.pos (by omega) (Ev.pos (by omega) ?_)
    rw [rd_at]
    refine Ev.bind (Ev.const (specAreaOk_eq _ _ _ _)) ?_
    have hok : okFrom l (d + 1) i = (okAt l i && okFrom l d (i + 1)) := rfl
    rw [hok]
    unfold okAt
    cases ha : areaOk (atA l i) with
    | false =>
      refine Ev.neg (by decide) (Ev.pure ?_)
      simp
    | true =>
      refine Ev.pos rfl ?_
      rw [succ_wrap hlt hn]
      rcases Nat.eq_zero_or_pos i with h0 | h0
      · refine Ev.neg (by omega) ?_
        refine (ih (i + 1) (by omega)).cast ?_
        simp [h0]
      · rw [pred_wrap h0 hlt hn]
        refine Ev.pos (by omega) (Ev.pos (by omega) (Ev.pos (by omega) ?_))
        rw [rd_at]
        by_cases hc : wrap64 ((atA l (i - 1)).f0 + (atA l (i - 1)).f1) ≤ (atA l i).f0
        · refine Ev.neg (by omega) ((ih (i + 1) (by omega)).cast ?_)
          simp [hc]
        · refine Ev.pos (by omega) (Ev.pure ?_)
          have : ¬ i = 0 := by omega
          simp [hc, this]
theorem specOk (l : List Ar) (hn : l.length ≤ 9223372036854775807) : Ev (fun k => spec_AreasOk.f k l) (areasOk l) :=
  (specOk_l l hn l.length 0 (by omega))
end Go.Proofs.Ytlahnekinlkfmaa.Q

/- Areas, without Go and memory: valid lists, which area has a page, how many pages there are. -/
namespace Go.Proofs.Ytlahnekinlkfmaa.Q
open Go.RowKit Go.Proofs.YtlahnekinlkfmaaW.PrintWords Go.Proofs.YtlahnekinlkfmaaW.PrintLast Go.Proofs.YtlahnekinlkfmaaW.PrintMore Go.Proofs.Ytlahnekinlkfmaa.P
set_option linter.unusedVariables false
set_option linter.unusedSimpArgs false

def fin (a : Ar) : Int := a.f0 + a.f1
def vldA (lo : Int) : List Ar → Bool
  | [] => true
  | a :: l => areaOk a && decide (lo ≤ a.f0) && vldA (fin a) l
theorem areaOk_iff (a : Ar) : areaOk a = true ↔ 0 ≤ a.f0 ∧ a.f0 ≤ 15 ∧ 1 ≤ a.f1 ∧ a.f1 ≤ 16 - a.f0 := by
  simp [areaOk, and_assoc]
theorem fin_wrap {a : Ar} (h : areaOk a = true) : wrap64 (a.f0 + a.f1) = fin a := by
  rw [areaOk_iff] at h
  exact wrap_id (by omega) (by omega)
theorem rd_pre (pre : List Ar) (x : Ar) (post : List Ar) : rd_T24 (pre ++ x :: post) (pre.length : Int) = x := by
  simp [rd_T24, List.getD_eq_getElem?_getD]
theorem at_pre (pre : List Ar) (x : Ar) (post : List Ar) : atA (pre ++ x :: post) pre.length = x := by
  simp [atA, List.getD_eq_getElem?_getD]
theorem at_last (pre : List Ar) (y x : Ar) (post : List Ar) : atA (pre ++ [y] ++ x :: post) pre.length = y := by
  rw [List.append_assoc]; exact at_pre _ _ _
theorem okFrom_vldA : ∀ (rest pre : List Ar) (lo : Int), (pre = [] ∧ lo = 0 ∨ ∃ p y, pre = p ++ [y] ∧ areaOk y = true ∧ lo = fin y) → okFrom (pre ++ rest) rest.length pre.length = vldA lo rest := by
  intro rest
  induction rest with
  | nil => intro pre lo _; rfl
  | cons x rest ih =>
    intro pre lo h
    show (okAt (pre ++ x :: rest) pre.length && okFrom (pre ++ x :: rest) rest.length (pre.length + 1)) = (areaOk x && decide (lo ≤ x.f0) && vldA (fin x) rest)
    have hat : okAt (pre ++ x :: rest) pre.length = (areaOk x && decide (lo ≤ x.f0)) := by
      unfold okAt
      rw [at_pre]
      cases hx : areaOk x with
      | false => rfl
      | true =>
        have hx' := (areaOk_iff x).1 hx
        rcases h with ⟨rfl, rfl⟩ | ⟨p, y, rfl, hy, rfl⟩
        · simp [hx'.1]
        · have e : (p ++ [y]).length - 1 = p.length := by simp
          rw [e, at_last, fin_wrap hy]
          simp
    rw [hat]
    cases hx : areaOk x with
    | false => rfl
    | true =>
      have := ih (pre ++ [x]) (fin x) (.inr ⟨pre, x, rfl, hx, rfl⟩)
      rw [List.append_assoc, List.length_append] at this
      simp only [List.singleton_append, List.length_singleton] at this
      rw [this]
theorem areasOk_eq (l : List Ar) : areasOk l = (vldA 0 l && decide (l.length ≤ 6)) := by
  unfold areasOk
  have := okFrom_vldA l [] 0 (.inl ⟨rfl, rfl⟩)
  simp only [List.nil_append, List.length_nil] at this
  rw [this]
theorem vldA_cons {lo : Int} {a : Ar} {l : List Ar} : vldA lo (a :: l) = true ↔ areaOk a = true ∧ lo ≤ a.f0 ∧ vldA (fin a) l = true := by
  simp [vldA, and_assoc]
theorem vldA_mono : ∀ {l : List Ar} {lo lo' : Int}, lo' ≤ lo → vldA lo l = true → vldA lo' l = true
  | [], _, _, _, _ => rfl
  | a :: l, lo, lo', h, hk => by rw [vldA_cons] at hk ⊢; exact ⟨hk.1, by omega, hk.2.2⟩
theorem vldA_mem : ∀ {l : List Ar} {lo : Int}, vldA lo l = true → ∀ a ∈ l, areaOk a = true ∧ lo ≤ a.f0
  | [], _, _, a, ha => by simp at ha
  | b :: l, lo, h, a, ha => by
    rw [vldA_cons] at h
    rcases List.mem_cons.1 ha with rfl | ha
    · exact ⟨h.1, h.2.1⟩
    · have := vldA_mem h.2.2 a ha
      have hb := (areaOk_iff b).1 h.1
      unfold fin at this
      exact ⟨this.1, by omega⟩
theorem areasOk_iff (l : List Ar) : areasOk l = true ↔ vldA 0 l = true ∧ l.length ≤ 6 := by
  rw [areasOk_eq]; simp

/-- The area of a page. -/
def has (p : Int) (a : Ar) : Bool := decide (a.f0 ≤ p) && decide (p < fin a)
theorem hit_has {p : Int} {a : Ar} (h : areaOk a = true) : impl_AreasAt.hit p a = has p a := by
  unfold impl_AreasAt.hit has
  rw [fin_wrap h]
def areasAt (l : List Ar) (p : Int) : Int := if areasOk l = true then impl_AreasAt.idx p l 0 else -1
theorem implAt (l : List Ar) (hn : l.length ≤ 9223372036854775807) (p : Int) : Ev (fun k => impl_AreasAt.f k l p) (areasAt l p) := by
  unfold impl_AreasAt.f areasAt
  refine Ev.bind (implOk l hn) ?_
  by_cases h : areasOk l = true
  · exact Ev.cast (Ev.pos h (Ev.pure rfl)) (if_pos h).symm
  · exact Ev.cast (Ev.neg h (Ev.pure rfl)) (if_neg h).symm
theorem specL2At_l (p : Int) : ∀ (rest pre : List Ar), (pre ++ rest).length ≤ 9223372036854775807 → (∀ a ∈ rest, areaOk a = true) → Ev (fun k => spec_l2At.l0 k (pre ++ rest) p (pre.length : Int)) (impl_AreasAt.idx p rest (pre.length : Int)) := by
  intro rest
  induction rest with
  | nil =>
    intro pre hn _
    refine Ev.step (fun k => by simp only [spec_l2At.l0]; rfl) ?_
    exact Ev.neg (by simp) (Ev.pure rfl)
  | cons x rest ih =>
    intro pre hn hok
    have hlt : pre.length < (pre ++ x :: rest).length := by simp
    have hx := hok x (by simp)
    have hx' := (areaOk_iff x).1 hx
    refine Ev.step (fun k => by simp only [spec_l2At.l0]; rfl) ?_
    refine Ev.pos (by omega) (Ev.pos (by omega) ?_)
    rw [rd_pre, fin_wrap hx, l6In_eq, succ_wrap hlt hn]
    have hf : wrap64 (fin x - 1) = fin x - 1 := by unfold fin; exact wrap_id (by omega) (by omega)
    have hh : (decide (x.f0 ≤ p) && decide (p ≤ wrap64 (fin x - 1))) = impl_AreasAt.hit p x := by
      rw [hit_has hx, hf]
      unfold has
      congr 1
      exact decide_eq_decide.2 (by omega)
    rw [hh]
    refine Ev.bind (Ev.now _) ?_
    show Ev _ (if impl_AreasAt.hit p x = true then (pre.length : Int) else impl_AreasAt.idx p rest (pre.length + 1))
    by_cases h : impl_AreasAt.hit p x = true
    · rw [if_pos h]; exact Ev.pos h (Ev.pure rfl)
    · rw [if_neg h]
      refine Ev.neg h ?_
      have := ih (pre ++ [x]) (by simpa using hn) (fun a ha => hok a (by simp [ha]))
      simp only [List.append_assoc, List.singleton_append, List.length_append, List.length_singleton] at this
      have e : ((pre.length + 1 : Nat) : Int) = (pre.length : Int) + 1 := by omega
      rw [e] at this ⊢
      exact this
theorem specAt (l : List Ar) (hn : l.length ≤ 9223372036854775807) (p : Int) : Ev (fun k => spec_AreasAt.f k l p) (areasAt l p) := by
  unfold spec_AreasAt.f areasAt
  refine Ev.bind (specOk l hn) ?_
  by_cases h : areasOk l = true
  · refine Ev.cast (Ev.pos h (Ev.bind ?_ (Ev.now _))) (if_pos h).symm
    exact specL2At_l p l [] hn (fun a ha => (vldA_mem ((areasOk_iff l).1 h).1 a ha).1)
  · exact Ev.cast (Ev.neg h (Ev.pure rfl)) (if_neg h).symm

/-- Pages. -/
def sumA : List Ar → Int
  | [] => 0
  | a :: l => a.f1 + sumA l
theorem sumA_ok : ∀ {l : List Ar} {lo : Int}, vldA lo l = true → lo ≤ 16 → 0 ≤ sumA l ∧ sumA l ≤ 16 - lo
  | [], lo, _, h => by simp [sumA]; omega
  | a :: l, lo, h, hl => by
    rw [vldA_cons] at h
    have ha := (areaOk_iff a).1 h.1
    have := sumA_ok h.2.2 (by unfold fin; omega)
    unfold fin at this
    simp only [sumA]
    omega
def areasPages (l : List Ar) : Int := if areasOk l = true then sumA l else -1
theorem implPages_l : ∀ (rest pre : List Ar) (s lo : Int), (pre ++ rest).length ≤ 9223372036854775807 → vldA lo rest = true → lo ≤ 16 → 0 ≤ s → s ≤ lo → Ev (fun k => impl_AreasPages.l0 k s (pre ++ rest) ((pre ++ rest).length : Int) (pre.length : Int)) (s + sumA rest) := by
  intro rest
  induction rest with
  | nil =>
    intro pre s lo hn _ _ _ _
    refine Ev.step (fun k => by simp only [impl_AreasPages.l0]; rfl) ?_
    exact Ev.neg (by simp) (Ev.pure (by simp [sumA]))
  | cons x rest ih =>
    intro pre s lo hn hok hl h0 h1
    have hlt : pre.length < (pre ++ x :: rest).length := by simp
    rw [vldA_cons] at hok
    have hx := (areaOk_iff x).1 hok.1
    refine Ev.step (fun k => by simp only [impl_AreasPages.l0]; rfl) ?_
    refine Ev.pos (by omega) (Ev.pos (by omega) (Ev.pos (by omega) ?_))
    rw [rd_pre, succ_wrap hlt hn, wrap_id (n := s + x.f1) (by omega) (by omega)]
    have := ih (pre ++ [x]) (s + x.f1) (fin x) (by simpa using hn) hok.2.2 (by unfold fin; omega) (by omega) (by unfold fin; omega)
    simp only [List.append_assoc, List.singleton_append, List.length_append, List.length_singleton] at this
    simp only [sumA, ← Int.add_assoc]
    simpa using this
theorem specPages_l : ∀ (rest pre : List Ar) (s lo : Int), (pre ++ rest).length ≤ 9223372036854775807 → vldA lo rest = true → lo ≤ 16 → 0 ≤ s → s ≤ lo → Ev (fun k => spec_AreasPages.l0 k (pre ++ rest) s (pre.length : Int)) (s + sumA rest) := by
  intro rest
  induction rest with
  | nil =>
    intro pre s lo hn _ _ _ _
    refine Ev.step (fun k => by simp only [spec_AreasPages.l0]; rfl) ?_
    exact Ev.neg (by simp) (Ev.pure (by simp [sumA]))
  | cons x rest ih =>
    intro pre s lo hn hok hl h0 h1
    have hlt : pre.length < (pre ++ x :: rest).length := by simp
    rw [vldA_cons] at hok
    have hx := (areaOk_iff x).1 hok.1
    refine Ev.step (fun k => by simp only [spec_AreasPages.l0]; rfl) ?_
    refine Ev.pos (by omega) (Ev.pos (by omega) ?_)
    rw [rd_pre, succ_wrap hlt hn, wrap_id (n := s + x.f1) (by omega) (by omega)]
    have := ih (pre ++ [x]) (s + x.f1) (fin x) (by simpa using hn) hok.2.2 (by unfold fin; omega) (by omega) (by unfold fin; omega)
    simp only [List.append_assoc, List.singleton_append, List.length_append, List.length_singleton] at this
    simp only [sumA, ← Int.add_assoc]
    simpa using this
theorem implPages (l : List Ar) (hn : l.length ≤ 9223372036854775807) : Ev (fun k => impl_AreasPages.f k l) (areasPages l) := by
  unfold impl_AreasPages.f areasPages
  refine Ev.bind (implOk l hn) ?_
  by_cases h : areasOk l = true
  · refine Ev.cast (Ev.pos h ?_) (if_pos h).symm
    have := implPages_l l [] 0 0 hn ((areasOk_iff l).1 h).1 (by omega) (by omega) (by omega)
    simpa using this
  · exact Ev.cast (Ev.neg h (Ev.pure rfl)) (if_neg h).symm
theorem specPages (l : List Ar) (hn : l.length ≤ 9223372036854775807) : Ev (fun k => spec_AreasPages.f k l) (areasPages l) := by
  unfold spec_AreasPages.f areasPages
  refine Ev.bind (specOk l hn) ?_
  by_cases h : areasOk l = true
  · refine Ev.cast (Ev.pos h ?_) (if_pos h).symm
    have := specPages_l l [] 0 0 hn ((areasOk_iff l).1 h).1 (by omega) (by omega) (by omega)
    simpa using this
  · exact Ev.cast (Ev.neg h (Ev.pure rfl)) (if_neg h).symm
end Go.Proofs.Ytlahnekinlkfmaa.Q

/- Areas, without Go and memory: one more area (the reference's). -/
namespace Go.Proofs.Ytlahnekinlkfmaa.Q
open Go.RowKit Go.Proofs.YtlahnekinlkfmaaW.PrintWords Go.Proofs.YtlahnekinlkfmaaW.PrintLast Go.Proofs.YtlahnekinlkfmaaW.PrintMore Go.Proofs.Ytlahnekinlkfmaa.P
set_option linter.unusedVariables false
set_option linter.unusedSimpArgs false

def addL (a : Ar) : List Ar → List Ar
  | [] => [a]
  | b :: l => if b.f0 ≥ a.f0 then a :: b :: l else b :: addL a l
theorem addL_length (a : Ar) : ∀ l, (addL a l).length = l.length + 1
  | [] => rfl
  | b :: l => by
    simp only [addL]
    split
    · simp
    · simp [addL_length a l]
theorem l2Add_done (a : Ar) : ∀ (rest pre out : List Ar), (pre ++ rest).length ≤ 1048576 → out.length + rest.length ≤ 1048577 → Ev (fun k => spec_l2Add.l0 k (pre ++ rest) out true (pre.length : Int) a.f0 a.f1 a.f2 a.f3) (out ++ rest) := by
  intro rest
  induction rest with
  | nil =>
    intro pre out hn ho
    refine Ev.step (fun k => by simp only [spec_l2Add.l0]; rfl) ?_
    exact Ev.neg (by simp) (Ev.pos (by trivial) (Ev.pure (by simp)))
  | cons x rest ih =>
    intro pre out hn ho
    have hlt : pre.length < (pre ++ x :: rest).length := by simp
    simp only [List.length_cons] at ho
    refine Ev.step (fun k => by simp only [spec_l2Add.l0]; rfl) ?_
    refine Ev.pos (by omega) (Ev.pos (by trivial) (Ev.pos (by omega) (Ev.pos (by omega) ?_)))
    rw [rd_pre, succ_wrap hlt (by omega)]
    have := ih (pre ++ [x]) (out ++ [x]) (by simpa using hn) (by simp; omega)
    simp only [List.append_assoc, List.singleton_append, List.length_append, List.length_singleton] at this
    exact this
theorem l2Add_l (a : Ar) : ∀ (rest pre out : List Ar), (pre ++ rest).length ≤ 1048576 → out.length + rest.length ≤ 1048576 → Ev (fun k => spec_l2Add.l0 k (pre ++ rest) out false (pre.length : Int) a.f0 a.f1 a.f2 a.f3) (out ++ addL a rest) := by
  intro rest
  induction rest with
  | nil =>
    intro pre out hn ho
    refine Ev.step (fun k => by simp only [spec_l2Add.l0]; rfl) ?_
    simp only [List.length_nil] at ho
    exact Ev.neg (by simp) (Ev.neg (by decide) (Ev.pos (by omega) (Ev.pure rfl)))
  | cons x rest ih =>
    intro pre out hn ho
    have hlt : pre.length < (pre ++ x :: rest).length := by simp
    simp only [List.length_cons] at ho
    refine Ev.step (fun k => by simp only [spec_l2Add.l0]; rfl) ?_
    refine Ev.pos (by omega) (Ev.neg (by decide) (Ev.pos (by omega) ?_))
    rw [rd_pre, succ_wrap hlt (by omega)]
    by_cases h : x.f0 ≥ a.f0
    · refine Ev.pos h (Ev.pos (by omega) (Ev.bind (Ev.now _) (Ev.pos (by simp; omega) ?_)))
      have := l2Add_done a rest (pre ++ [x]) (out ++ [a] ++ [x]) (by simpa using hn) (by simp; omega)
      simp only [List.append_assoc, List.singleton_append, List.length_append, List.length_singleton] at this
      simp only [addL, if_pos h]
      simp only [List.append_assoc, List.singleton_append, List.cons_append, List.nil_append] at this ⊢
      exact this
    · refine Ev.neg h (Ev.pos (by omega) ?_)
      have := ih (pre ++ [x]) (out ++ [x]) (by simpa using hn) (by simp; omega)
      simp only [List.append_assoc, List.singleton_append, List.length_append, List.length_singleton] at this
      simp only [addL, if_neg h]
      exact this
theorem l2Add_ev (l : List Ar) (a : Ar) (hn : l.length ≤ 1048576) : Ev (fun k => spec_l2Add.f k l a.f0 a.f1 a.f2 a.f3) (addL a l) := by
  unfold spec_l2Add.f
  have := l2Add_l a l [] [] hn (by simpa using hn)
  simpa using this
def areasAdd (l : List Ar) (a : Ar) : List Ar × Bool := if areasOk l && areaOk a then (if areasOk (addL a l) then (addL a l, true) else ([], false)) else ([], false)
theorem specAdd (l : List Ar) (a : Ar) (hn : l.length ≤ 1048576) : Ev (fun k => spec_AreasAdd.f k l a.f0 a.f1 a.f2 a.f3) (areasAdd l a) := by
  unfold spec_AreasAdd.f areasAdd
  refine Ev.bind (specOk l (by omega)) ?_
  cases h1 : areasOk l with
  | false =>
    refine Ev.neg (by decide) ?_
    refine Ev.step (fun k => by simp only [spec_AreasAdd.j0]; rfl) ?_
    exact Ev.pos (by trivial) (Ev.pure rfl)
  | true =>
    refine Ev.pos rfl (Ev.bind (Ev.const (specAreaOk_eq _ _ _ _)) ?_)
    refine Ev.step (fun k => by simp only [spec_AreasAdd.j0]; rfl) ?_
    cases h2 : areaOk a with
    | false => exact Ev.pos rfl (Ev.pure rfl)
    | true =>
      refine Ev.neg (by decide) (Ev.bind (l2Add_ev l a hn) (Ev.bind (specOk _ (by rw [addL_length]; omega)) ?_))
      cases h3 : areasOk (addL a l) with
      | false => exact Ev.neg (by decide) (Ev.pure rfl)
      | true => exact Ev.pos rfl (Ev.pure rfl)
theorem areasAdd_len (l : List Ar) (a : Ar) : (areasAdd l a).1.length ≤ 6 := by
  unfold areasAdd
  split
  · split
    · rename_i h
      exact ((areasOk_iff _).1 h).2
    · simp
  · simp

end Go.Proofs.Ytlahnekinlkfmaa.Q

/- Areas, without Go and memory: how areas are drawn. -/
namespace Go.Proofs.Ytlahnekinlkfmaa.Q
open Go.RowKit Go.Proofs.YtlahnekinlkfmaaW.PrintWords Go.Proofs.YtlahnekinlkfmaaW.PrintLast Go.Proofs.YtlahnekinlkfmaaW.PrintMore Go.Proofs.Ytlahnekinlkfmaa.P
set_option linter.unusedVariables false
set_option linter.unusedSimpArgs false

theorem area_ev (s : List Int) (hs : Bytes s) (p : Int) (hp : 0 ≤ p) (hp' : p ≤ 900000) : ∃ (a : Ar) (p' : Int), Ev (fun k => spec_l91Area.f k s p) (a.f0, a.f1, a.f2, a.f3, p') ∧ p ≤ p' ∧ p' ≤ p + 6 := by
  obtain ⟨v0, e0, l0, u0, _⟩ := pick_ev s hs p 16 hp (by omega) (by omega)
  obtain ⟨v1, e1, l1, u1, _⟩ := pick_ev s hs (p + 1) 5 (by omega) (by omega) (by omega)
  obtain ⟨v2, e2, l2, u2, _⟩ := pick_ev s hs (p + 1 + 1) 4 (by omega) (by omega) (by omega)
  obtain ⟨v3, e3, l3, u3, _⟩ := pick_ev s hs (p + 1 + 1 + 1) 3 (by omega) (by omega) (by omega)
  obtain ⟨v4, e4, l4, u4, _⟩ := pick_ev s hs (p + 1 + 1 + 1 + 1) 20 (by omega) (by omega) (by omega)
  obtain ⟨v5, e5, l5, u5, _⟩ := pick_ev s hs (p + 1 + 1 + 1 + 1 + 1) 4 (by omega) (by omega) (by omega)
  have u5' := u5 (by omega)
  unfold spec_l91Area.f
  by_cases h : v4 = 0
  · refine ⟨⟨v0, rd [0, (-1), 16, 17] v5, decide (v2 > 0), v3 == 0⟩, p + 1 + 1 + 1 + 1 + 1 + 1, ?_, by omega, by omega⟩
    refine Ev.bind e0 (Ev.bind e1 (Ev.bind e2 (Ev.bind e3 (Ev.bind e4 (Ev.pos h (Ev.bind (Ev.now _) (Ev.bind e5 (Ev.pos l5 (Ev.pos ?_ (Ev.pure rfl))))))))))
    simpa using u5'
  · refine ⟨⟨v0, wrap64 (1 + v1), decide (v2 > 0), v3 == 0⟩, p + 1 + 1 + 1 + 1 + 1, ?_, by omega, by omega⟩
    exact Ev.bind e0 (Ev.bind e1 (Ev.bind e2 (Ev.bind e3 (Ev.bind e4 (Ev.neg h (Ev.pure rfl))))))
theorem areas_l (s : List Int) (hs : Bytes s) : ∀ (n : Nat) (list : List Ar) (p : Int), list.length ≤ 6 → n ≤ 100 → 0 ≤ p → p + 6 * n ≤ 800000 →
    ∃ (l : List Ar) (p' : Int), Ev (fun k => spec_l91Areas.l0 k list (n : Int) s p) (l, p') ∧ l.length ≤ 7 ∧ p ≤ p' ∧ p' ≤ p + 6 * n + 7 := by
  intro n
  induction n with
  | zero =>
    intro list p hl _ hp hp'
    obtain ⟨v, e, lo, hi, _⟩ := pick_ev s hs p 16 hp (by omega) (by omega)
    by_cases h : v = 0
    · obtain ⟨a, q, ea, h1, h2⟩ := area_ev s hs (p + 1) (by omega) (by omega)
      refine ⟨list ++ [a], q, ?_, by simp; omega, by omega, by omega⟩
      refine Ev.step (fun k => by simp only [spec_l91Areas.l0]; rfl) ?_
      exact Ev.neg (by decide) (Ev.bind e (Ev.pos h (Ev.bind ea (Ev.pos (by omega) (Ev.pure rfl)))))
    · refine ⟨list, p + 1, ?_, by omega, by omega, by omega⟩
      refine Ev.step (fun k => by simp only [spec_l91Areas.l0]; rfl) ?_
      exact Ev.neg (by decide) (Ev.bind e (Ev.neg h (Ev.pure rfl)))
  | succ n ih =>
    intro list p hl hn hp hp'
    obtain ⟨a, q, ea, h1, h2⟩ := area_ev s hs p hp (by omega)
    have hadd := specAdd list ⟨a.f0, wrap64 (1 + Int.tmod a.f1 3), a.f2, a.f3⟩ (by omega)
    have hlen := areasAdd_len list ⟨a.f0, wrap64 (1 + Int.tmod a.f1 3), a.f2, a.f3⟩
    have hw : wrap64 (((n + 1 : Nat) : Int) - 1) = (n : Int) := by rw [wrap_id (by omega) (by omega)]; omega
    generalize areasAdd list ⟨a.f0, wrap64 (1 + Int.tmod a.f1 3), a.f2, a.f3⟩ = res at hadd hlen
    obtain ⟨nx, ok⟩ := res
    cases ok with
    | true =>
      obtain ⟨l, p', el, hl', g1, g2⟩ := ih nx q hlen (by omega) (by omega) (by omega)
      refine ⟨l, p', ?_, hl', by omega, by omega⟩
      refine Ev.step (fun k => by simp only [spec_l91Areas.l0]; rfl) ?_
      refine Ev.pos (by omega) (Ev.bind ea (Ev.bind hadd (Ev.pos rfl ?_)))
      rw [hw]
      exact el
    | false =>
      obtain ⟨l, p', el, hl', g1, g2⟩ := ih list q hl (by omega) (by omega) (by omega)
      refine ⟨l, p', ?_, hl', by omega, by omega⟩
      refine Ev.step (fun k => by simp only [spec_l91Areas.l0]; rfl) ?_
      refine Ev.pos (by omega) (Ev.bind ea (Ev.bind hadd (Ev.neg (by simp) ?_)))
      rw [hw]
      exact el
theorem areas_ev (s : List Int) (hs : Bytes s) (p : Int) (hp : 0 ≤ p) (hp' : p ≤ 700000) : ∃ (l : List Ar) (p' : Int), Ev (fun k => spec_l91Areas.f k s p) (l, p') ∧ l.length ≤ 7 ∧ p ≤ p' ∧ p' ≤ p + 60 := by
  obtain ⟨v, e, lo, hi, _⟩ := pick_ev s hs p 7 hp (by omega) (by omega)
  have hi' := hi (by omega)
  obtain ⟨m, rfl⟩ := Int.eq_ofNat_of_zero_le lo
  obtain ⟨l, p', el, hl, h1, h2⟩ := areas_l s hs m [] (p + 1) (by simp) (by omega) (by omega) (by omega)
  refine ⟨l, p', ?_, hl, by omega, by omega⟩
  unfold spec_l91Areas.f
  exact Ev.bind e el
end Go.Proofs.Ytlahnekinlkfmaa.Q

/- Areas, without Go and memory: areas without some pages. -/
namespace Go.Proofs.Ytlahnekinlkfmaa.Q
open Go.RowKit Go.Proofs.YtlahnekinlkfmaaW.PrintWords Go.Proofs.YtlahnekinlkfmaaW.PrintLast Go.Proofs.YtlahnekinlkfmaaW.PrintMore Go.Proofs.Ytlahnekinlkfmaa.P
set_option linter.unusedVariables false
set_option linter.unusedSimpArgs false

/-- The part of an area from a to b. -/
def seg (x : Ar) (a b : Int) : List Ar := if a < b then [⟨a, b - a, x.f2, x.f3⟩] else []
def cut1 (f e : Int) (x : Ar) : List Ar := seg x x.f0 (min (fin x) f) ++ seg x (max x.f0 e) (fin x)
def cutL (f e : Int) (l : List Ar) : List Ar := l.flatMap (cut1 f e)
theorem seg_pos {x : Ar} {a b : Int} (h : a < b) : seg x a b = [⟨a, b - a, x.f2, x.f3⟩] := if_pos h
theorem seg_neg {x : Ar} {a b : Int} (h : ¬ a < b) : seg x a b = [] := if_neg h
theorem seg_all {x : Ar} : [(⟨x.f0, fin x - x.f0, x.f2, x.f3⟩ : Ar)] = [x] := by
  have : fin x - x.f0 = x.f1 := by unfold fin; omega
  rw [this]
theorem seg_len (x : Ar) (a b : Int) : (seg x a b).length ≤ 1 := by unfold seg; split <;> simp
theorem cut1_len (f e : Int) (x : Ar) : (cut1 f e x).length ≤ 2 := by
  have h1 := seg_len x x.f0 (min (fin x) f)
  have h2 := seg_len x (max x.f0 e) (fin x)
  unfold cut1
  rw [List.length_append]
  omega
theorem cutL_len (f e : Int) : ∀ l : List Ar, (cutL f e l).length ≤ 2 * l.length
  | [] => by simp [cutL]
  | x :: l => by
    have h1 := cut1_len f e x
    have h2 := cutL_len f e l
    unfold cutL at *
    rw [List.flatMap_cons, List.length_append, List.length_cons]
    omega
theorem cutL_cons (f e : Int) (x : Ar) (l : List Ar) : cutL f e (x :: l) = cut1 f e x ++ cutL f e l := rfl
def resC (o : List Ar) : List Ar × Bool := if (o.length : Int) > 6 then ([], false) else (o, true)

theorem implCut_l (c : Ar) (hc : areaOk c = true) (hc2 : c.f2 = false) (hc3 : c.f3 = false) : ∀ (rest pre out : List Ar), (pre ++ rest).length ≤ 1048576 → out.length + 2 * rest.length ≤ 1048576 → (∀ a ∈ rest, areaOk a = true) →
    Ev (fun k => impl_AreasCut.l0 k out (pre ++ rest) ((pre ++ rest).length : Int) (pre.length : Int) c.f0 c.f1 c.f2 c.f3) (resC (out ++ cutL c.f0 (fin c) rest)) := by
  intro rest
  induction rest with
  | nil =>
    intro pre out hn ho hok
    refine Ev.step (fun k => by simp only [impl_AreasCut.l0]; rfl) ?_
    refine Ev.neg (by simp) ?_
    unfold resC
    simp only [cutL, List.flatMap_nil, List.append_nil]
    by_cases h : (out.length : Int) > 6
    · exact Ev.cast (Ev.pos h (Ev.pure rfl)) (if_pos h).symm
    · exact Ev.cast (Ev.neg h (Ev.pure rfl)) (if_neg h).symm
  | cons x rest ih =>
    intro pre out hn ho hok
    have hlt : pre.length < (pre ++ x :: rest).length := by simp
    simp only [List.length_cons] at ho
    have hx := hok x (by simp)
    have hx' := (areaOk_iff x).1 hx
    have hc' := (areaOk_iff c).1 hc
    have fx : fin x = x.f0 + x.f1 := rfl
    have fc : fin c = c.f0 + c.f1 := rfl
    have ec : ∀ a b, impl_Area_end.f c.f0 c.f1 a b = some (fin c) := fun a b => by unfold impl_Area_end.f; rw [fin_wrap hc]
    have ex : ∀ a b, impl_Area_end.f x.f0 x.f1 a b = some (fin x) := fun a b => by unfold impl_Area_end.f; rw [fin_wrap hx]
    have step : ∀ o : List Ar, o.length ≤ out.length + 2 → Ev (fun k => impl_AreasCut.l0 k o (pre ++ x :: rest) ((pre ++ x :: rest).length : Int) ((pre.length + 1 : Nat) : Int) c.f0 c.f1 c.f2 c.f3) (resC (o ++ cutL c.f0 (fin c) rest)) := by
      intro o hlo
      have := ih (pre ++ [x]) o (by simpa using hn) (by omega) (fun a ha => hok a (by simp [ha]))
      have e : (pre ++ [x]).length = pre.length + 1 := by simp
      rw [e, List.append_assoc, List.singleton_append] at this
      exact this
    rw [cutL_cons, ← List.append_assoc]
    refine Ev.step (fun k => by simp only [impl_AreasCut.l0]; rfl) ?_
    refine Ev.pos (by omega) (Ev.pos (by omega) (Ev.pos (by omega) ?_))
    rw [rd_pre]
    have keep : cut1 c.f0 (fin c) x = [x] → Ev (fun k => impl_AreasCut.j2 k out (pre ++ x :: rest) ((pre ++ x :: rest).length : Int) (pre.length : Int) true c.f0 c.f1 c.f2 c.f3 x.f0 x.f1 x.f2 x.f3) (resC (out ++ cut1 c.f0 (fin c) x ++ cutL c.f0 (fin c) rest)) := by
      intro hk
      rw [hk]
      refine Ev.step (fun k => by simp only [impl_AreasCut.j2]; rfl) ?_
      refine Ev.pos (by trivial) (Ev.pos (by omega) ?_)
      rw [succ_wrap hlt (by omega)]
      exact step (out ++ [x]) (by simp)
    refine Ev.bind (Ev.const (ec _ _)) ?_
    by_cases h1 : fin c ≤ x.f0
    · refine Ev.pos h1 (keep ?_)
      unfold cut1
      rw [seg_neg (by omega), show max x.f0 (fin c) = x.f0 by omega, seg_pos (by omega), List.nil_append, seg_all]
    refine Ev.neg h1 (Ev.bind (Ev.const (ex _ _)) ?_)
    by_cases h2 : c.f0 ≥ fin x
    · rw [show decide (c.f0 ≥ fin x) = true from decide_eq_true h2]
      refine keep ?_
      unfold cut1
      rw [seg_neg (a := max x.f0 (fin c)) (by omega), show min (fin x) c.f0 = fin x by omega, seg_pos (by omega), List.append_nil, seg_all]
    rw [show decide (c.f0 ≥ fin x) = false from decide_eq_false h2]
    refine Ev.step (fun k => by simp only [impl_AreasCut.j2]; rfl) ?_
    refine Ev.neg (by decide) ?_
    have e1 : min (fin x) c.f0 = c.f0 := by omega
    have e2 : max x.f0 (fin c) = fin c := by omega
    have third : ∀ o : List Ar, o.length ≤ out.length + 1 → Ev (fun k => impl_AreasCut.j3 k o (pre ++ x :: rest) ((pre ++ x :: rest).length : Int) (pre.length : Int) c.f0 c.f1 c.f2 c.f3 x.f0 x.f1 x.f2 x.f3) (resC (o ++ seg x (fin c) (fin x) ++ cutL c.f0 (fin c) rest)) := by
      intro o hlo
      refine Ev.step (fun k => by simp only [impl_AreasCut.j3]; rfl) ?_
      refine Ev.bind (Ev.const (ec _ _)) (Ev.bind (Ev.const (ex _ _)) ?_)
      rw [succ_wrap hlt (by omega)]
      by_cases h3 : fin c < fin x
      · refine Ev.pos h3 (Ev.bind (Ev.const (ec _ _)) (Ev.bind (Ev.const (ex _ _)) (Ev.bind (Ev.const (ec _ _)) (Ev.pos (by omega) ?_))))
        rw [seg_pos h3, wrap_id (n := fin x - fin c) (by omega) (by omega)]
        exact step _ (by simp; omega)
      · refine Ev.neg h3 ?_
        rw [seg_neg h3, List.append_nil]
        exact step o (by omega)
    unfold cut1
    rw [e1, e2, ← List.append_assoc]
    by_cases h4 : x.f0 < c.f0
    · refine Ev.pos h4 (Ev.pos (by omega) ?_)
      rw [seg_pos h4, wrap_id (n := c.f0 - x.f0) (by omega) (by omega)]
      exact third _ (by simp)
    · refine Ev.neg h4 ?_
      rw [seg_neg (x := x) h4, List.append_nil]
      exact third out (by omega)

theorem vldA_seg {x : Ar} (hx : areaOk x = true) {a b : Int} (ha : x.f0 ≤ a) (hb : b ≤ fin x) {lo : Int} (hlo : lo ≤ a) {l : List Ar} (h1 : a < b → vldA b l = true) (h2 : ¬ a < b → vldA lo l = true) : vldA lo (seg x a b ++ l) = true := by
  have hx' := (areaOk_iff x).1 hx
  by_cases h : a < b
  · rw [seg_pos h]
    refine vldA_cons.2 ⟨(areaOk_iff _).2 ⟨?_, ?_, ?_, ?_⟩, hlo, ?_⟩
    · show 0 ≤ a; omega
    · show a ≤ 15; unfold fin at hb; omega
    · show 1 ≤ b - a; omega
    · show b - a ≤ 16 - a; unfold fin at hb; omega
    · have e : fin (⟨a, b - a, x.f2, x.f3⟩ : Ar) = b := by show a + (b - a) = b; omega
      rw [e]
      exact h1 h
  · rw [seg_neg h]
    exact h2 h
theorem vldA_cut (f e : Int) : ∀ {l : List Ar} {lo : Int}, f ≤ e → vldA lo l = true → vldA lo (cutL f e l) = true
  | [], _, _, _ => rfl
  | x :: l, lo, hfe, h => by
    have h' := vldA_cons.1 h
    have hx' := (areaOk_iff x).1 h'.1
    have fx : fin x = x.f0 + x.f1 := rfl
    have ih := vldA_cut f e hfe h'.2.2
    rw [cutL_cons]
    unfold cut1
    rw [List.append_assoc]
    refine vldA_seg h'.1 (Int.le_refl _) (by omega) h'.2.1 (fun h1 => ?_) (fun h1 => ?_)
    · exact vldA_seg h'.1 (by omega) (Int.le_refl _) (by omega) (fun _ => ih) (fun _ => vldA_mono (by omega) ih)
    · exact vldA_seg h'.1 (by omega) (Int.le_refl _) (by omega) (fun _ => ih) (fun _ => vldA_mono (by omega) ih)
def areasCut (l : List Ar) (f m : Int) : List Ar × Bool := if areasOk l && areaOk ⟨f, m, false, false⟩ then resC (cutL f (f + m) l) else ([], false)
theorem implCut (l : List Ar) (f m : Int) (hn : l.length ≤ 1048576) : Ev (fun k => impl_AreasCut.f k l f m) (areasCut l f m) := by
  unfold impl_AreasCut.f areasCut
  refine Ev.bind (implOk l (by omega)) ?_
  cases h1 : areasOk l with
  | false =>
    refine Ev.neg (by decide) ?_
    refine Ev.step (fun k => by simp only [impl_AreasCut.j0]; rfl) ?_
    exact Ev.pos (by trivial) (Ev.pure rfl)
  | true =>
    refine Ev.pos rfl (Ev.bind (Ev.const (AreaOk_eq _ _ _ _)) ?_)
    refine Ev.step (fun k => by simp only [impl_AreasCut.j0]; rfl) ?_
    cases h2 : areaOk (⟨f, m, false, false⟩ : Ar) with
    | false => exact Ev.pos rfl (Ev.pure rfl)
    | true =>
      refine Ev.neg (by decide) ?_
      have hk := (areasOk_iff l).1 h1
      exact implCut_l ⟨f, m, false, false⟩ h2 rfl rfl l [] [] hn (by simp; omega) (fun a ha => (vldA_mem hk.1 a ha).1)

/-- The reference's parts. -/
theorem part_lo {x c : Ar} (hx : areaOk x = true) (hc : areaOk c = true) : ∃ a b w s ok, spec_l2Part.f x.f0 x.f1 x.f2 x.f3 0 (wrap64 (c.f0 - 1)) = some (a, b, w, s, ok) ∧ seg x x.f0 (min (fin x) c.f0) = if ok = true then [⟨a, b, w, s⟩] else [] := by
  have hx' := (areaOk_iff x).1 hx
  have hc' := (areaOk_iff c).1 hc
  have fx : fin x = x.f0 + x.f1 := rfl
  have w1 : wrap64 (c.f0 - 1) = c.f0 - 1 := wrap_id (by omega) (by omega)
  have w2 : wrap64 (fin x - 1) = fin x - 1 := wrap_id (by omega) (by omega)
  have e1 : mx x.f0 0 = x.f0 := by unfold mx; split <;> omega
  have e2 : mn (fin x - 1) (c.f0 - 1) = min (fin x) c.f0 - 1 := by unfold mn; split <;> omega
  unfold spec_l2Part.f
  rw [fin_wrap hx, w1, w2, e1, e2]
  by_cases h : x.f0 < min (fin x) c.f0
  · rw [if_neg (by omega)]
    refine ⟨_, _, _, _, _, rfl, ?_⟩
    rw [if_pos rfl, seg_pos h]
    have w3 : wrap64 (min (fin x) c.f0 - 1 - x.f0) = min (fin x) c.f0 - 1 - x.f0 := wrap_id (by omega) (by omega)
    have w4 : wrap64 (min (fin x) c.f0 - 1 - x.f0 + 1) = min (fin x) c.f0 - x.f0 := by rw [wrap_id (by omega) (by omega)]; omega
    rw [w3, w4]
  · rw [if_pos (by omega)]
    refine ⟨_, _, _, _, _, rfl, ?_⟩
    rw [seg_neg h]
    rfl
theorem part_hi {x c : Ar} (hx : areaOk x = true) (hc : areaOk c = true) : ∃ a b w s ok, spec_l2Part.f x.f0 x.f1 x.f2 x.f3 (wrap64 (fin c - 1 + 1)) 15 = some (a, b, w, s, ok) ∧ seg x (max x.f0 (fin c)) (fin x) = if ok = true then [⟨a, b, w, s⟩] else [] := by
  have hx' := (areaOk_iff x).1 hx
  have hc' := (areaOk_iff c).1 hc
  have fx : fin x = x.f0 + x.f1 := rfl
  have fc : fin c = c.f0 + c.f1 := rfl
  have w1 : wrap64 (fin c - 1 + 1) = fin c := by rw [wrap_id (by omega) (by omega)]; omega
  have w2 : wrap64 (fin x - 1) = fin x - 1 := wrap_id (by omega) (by omega)
  have e1 : mx x.f0 (fin c) = max x.f0 (fin c) := by unfold mx; split <;> omega
  have e2 : mn (fin x - 1) 15 = fin x - 1 := by unfold mn; split <;> omega
  unfold spec_l2Part.f
  rw [fin_wrap hx, w1, w2, e1, e2]
  by_cases h : max x.f0 (fin c) < fin x
  · rw [if_neg (by omega)]
    refine ⟨_, _, _, _, _, rfl, ?_⟩
    rw [if_pos rfl, seg_pos h]
    have w3 : wrap64 (fin x - 1 - max x.f0 (fin c)) = fin x - 1 - max x.f0 (fin c) := wrap_id (by omega) (by omega)
    have w4 : wrap64 (fin x - 1 - max x.f0 (fin c) + 1) = fin x - max x.f0 (fin c) := by rw [wrap_id (by omega) (by omega)]; omega
    rw [w3, w4]
  · rw [if_pos (by omega)]
    refine ⟨_, _, _, _, _, rfl, ?_⟩
    rw [seg_neg h]
    rfl
theorem specCut_l (c : Ar) (hc : areaOk c = true) : ∀ (rest pre out : List Ar), (pre ++ rest).length ≤ 1048576 → out.length + 2 * rest.length ≤ 2097152 → (∀ a ∈ rest, areaOk a = true) →
    Ev (fun k => spec_l2Cut.l0 k (pre ++ rest) c.f0 (fin c - 1) out (pre.length : Int)) (out ++ cutL c.f0 (fin c) rest) := by
  intro rest
  induction rest with
  | nil =>
    intro pre out hn ho hok
    refine Ev.step (fun k => by simp only [spec_l2Cut.l0]; rfl) ?_
    exact Ev.neg (by simp) (Ev.pure (by simp [cutL]))
  | cons x rest ih =>
    intro pre out hn ho hok
    have hlt : pre.length < (pre ++ x :: rest).length := by simp
    simp only [List.length_cons] at ho
    have hx := hok x (by simp)
    have step : ∀ o : List Ar, o.length ≤ out.length + 2 → Ev (fun k => spec_l2Cut.l0 k (pre ++ x :: rest) c.f0 (fin c - 1) o ((pre.length + 1 : Nat) : Int)) (o ++ cutL c.f0 (fin c) rest) := by
      intro o hlo
      have := ih (pre ++ [x]) o (by simpa using hn) (by omega) (fun a ha => hok a (by simp [ha]))
      simp only [List.append_assoc, List.singleton_append, List.length_append, List.length_singleton] at this
      exact this
    obtain ⟨a, b, w, s, ok, e1, g1⟩ := part_lo hx hc
    obtain ⟨a', b', w', s', ok', e2, g2⟩ := part_hi hx hc
    rw [cutL_cons, ← List.append_assoc]
    unfold cut1
    rw [g1, g2, ← List.append_assoc]
    refine Ev.step (fun k => by simp only [spec_l2Cut.l0]; rfl) ?_
    refine Ev.pos (by omega) (Ev.pos (by omega) ?_)
    rw [rd_pre, succ_wrap hlt (by omega)]
    refine Ev.bind (Ev.const e1) (Ev.bind (Ev.const e2) ?_)
    cases ok with
    | true =>
      rw [if_pos rfl]
      refine Ev.pos rfl (Ev.pos (by omega) (Ev.bind (Ev.now _) ?_))
      cases ok' with
      | true => rw [if_pos rfl]; exact Ev.pos rfl (Ev.pos (by simp; omega) (step _ (by simp)))
      | false => rw [if_neg (by decide), List.append_nil]; exact Ev.neg (by simp) (step _ (by simp))
    | false =>
      rw [if_neg (by decide), List.append_nil]
      refine Ev.neg (by simp) ?_
      cases ok' with
      | true => rw [if_pos rfl]; exact Ev.pos rfl (Ev.pos (by omega) (step _ (by simp)))
      | false => rw [if_neg (by decide), List.append_nil]; exact Ev.neg (by simp) (step _ (by omega))
theorem specCut (l : List Ar) (f m : Int) (hn : l.length ≤ 1048576) : Ev (fun k => spec_AreasCut.f k l f m) (areasCut l f m) := by
  unfold spec_AreasCut.f areasCut
  refine Ev.bind (specOk l (by omega)) ?_
  cases h1 : areasOk l with
  | false =>
    refine Ev.neg (by decide) ?_
    refine Ev.step (fun k => by simp only [spec_AreasCut.j0]; rfl) ?_
    exact Ev.pos (by trivial) (Ev.pure rfl)
  | true =>
    refine Ev.pos rfl (Ev.bind (Ev.const (specAreaOk_eq _ _ _ _)) ?_)
    refine Ev.step (fun k => by simp only [spec_AreasCut.j0]; rfl) ?_
    cases h2 : areaOk (⟨f, m, false, false⟩ : Ar) with
    | false => exact Ev.pos rfl (Ev.pure rfl)
    | true =>
      refine Ev.neg (by decide) ?_
      have hk := (areasOk_iff l).1 h1
      have h2' := (areaOk_iff _).1 h2
      simp only at h2'
      have w1 : wrap64 (f + m) = f + m := wrap_id (by omega) (by omega)
      have w2 : wrap64 (f + m - 1) = f + m - 1 := wrap_id (by omega) (by omega)
      rw [w1, w2]
      have hlen := cutL_len f (f + m) l
      have hcut := specCut_l ⟨f, m, false, false⟩ h2 l [] [] hn (by simp; omega) (fun a ha => (vldA_mem hk.1 a ha).1)
      refine Ev.bind (a := cutL f (f + m) l) (by unfold spec_l2Cut.f; exact hcut) (Ev.bind (specOk _ (by omega)) ?_)
      have hv := vldA_cut f (f + m) (by omega) hk.1
      have ho : areasOk (cutL f (f + m) l) = decide ((cutL f (f + m) l).length ≤ 6) := by rw [areasOk_eq, hv, Bool.true_and]
      rw [ho]
      show Ev _ (resC _)
      unfold resC
      by_cases h : (cutL f (f + m) l).length ≤ 6
      · exact Ev.cast (Ev.pos (by simpa using h) (Ev.pure rfl)) (if_neg (by omega)).symm
      · exact Ev.cast (Ev.neg (by simpa using h) (Ev.pure rfl)) (if_pos (by omega)).symm
theorem areasCut_len (l : List Ar) (f m : Int) : (areasCut l f m).1.length ≤ 6 := by
  unfold areasCut resC
  split
  · split
    · simp
    · simp only; omega
  · simp
theorem areasCut_ok {l : List Ar} {f m : Int} (h : (areasCut l f m).2 = true) : areasOk l = true ∧ areaOk ⟨f, m, false, false⟩ = true ∧ (areasCut l f m).1 = cutL f (f + m) l ∧ areasOk (areasCut l f m).1 = true := by
  unfold areasCut at h ⊢
  cases h1 : areasOk l with
  | false => simp [h1] at h
  | true =>
    cases h2 : areaOk (⟨f, m, false, false⟩ : Ar) with
    | false => simp [h1, h2] at h
    | true =>
      simp only [h1, h2, Bool.and_self, if_true] at h ⊢
      unfold resC at h ⊢
      by_cases c : ((cutL f (f + m) l).length : Int) > 6
      · rw [if_pos c] at h; cases h
      · rw [if_neg c]
        have h2' := (areaOk_iff _).1 h2
        simp only at h2'
        refine ⟨trivial, trivial, rfl, ?_⟩
        exact (areasOk_iff _).2 ⟨vldA_cut f (f + m) (by omega) ((areasOk_iff l).1 h1).1, by show (cutL f (f + m) l).length ≤ 6; omega⟩
theorem qdAreas_l (l : List Ar) (hn : l.length ≤ 9223372036854775807) : ∀ d i : Nat, i + d = l.length → Ev (fun k => laws_qdAreas.l0 k l l (i : Int)) true := by
  intro d
  induction d with
  | zero =>
    intro i hi
    refine Ev.step (fun k => by simp only [laws_qdAreas.l0]; rfl) ?_
    exact Ev.neg (by omega) (Ev.pure rfl)
  | succ d ih =>
    intro i hi
    have hlt : i < l.length := by omega
    refine Ev.step (fun k => by simp only [laws_qdAreas.l0]; rfl) ?_
    refine Ev.pos (by omega) (Ev.pos (by omega) (Ev.pos (by omega) ?_))
    rw [succ_wrap hlt hn]
    exact Ev.neg (by simp) (ih (i + 1) (by omega))
theorem qdAreas_self (l : List Ar) (hn : l.length ≤ 9223372036854775807) : Ev (fun k => laws_qdAreas.f k l l) true := by
  unfold laws_qdAreas.f
  exact Ev.pos rfl (qdAreas_l l hn l.length 0 (by omega))
end Go.Proofs.Ytlahnekinlkfmaa.Q

/- Areas, without Go and memory: what is told of a page (may it be written, is it shared), and which area says so. -/
namespace Go.Proofs.Ytlahnekinlkfmaa.Q
open Go.RowKit Go.Proofs.YtlahnekinlkfmaaW.PrintWords Go.Proofs.YtlahnekinlkfmaaW.PrintLast Go.Proofs.YtlahnekinlkfmaaW.PrintMore Go.Proofs.Ytlahnekinlkfmaa.P
set_option linter.unusedVariables false
/-- Write and Shared of the area that has a page. -/
def attr (p : Int) : List Ar → Option (Bool × Bool)
  | [] => none
  | a :: l => if has p a = true then some (a.f2, a.f3) else attr p l
theorem attr_append (p : Int) (l l' : List Ar) : attr p (l ++ l') = (attr p l).or (attr p l') := by
  induction l with
  | nil => rfl
  | cons a l ih =>
    simp only [List.cons_append, attr]
    split
    · rfl
    · exact ih
theorem attr_seg (p : Int) (x : Ar) (a b : Int) : attr p (seg x a b) = if a ≤ p ∧ p < b then some (x.f2, x.f3) else none := by
  by_cases h : a < b
  · rw [seg_pos h]
    simp only [attr]
    have e : fin (⟨a, b - a, x.f2, x.f3⟩ : Ar) = b := by show a + (b - a) = b; omega
    unfold has
    rw [e]
    by_cases c : a ≤ p ∧ p < b
    · rw [if_pos c, if_pos (by simpa using c)]
    · rw [if_neg c, if_neg (by simpa using c)]
  · rw [seg_neg h, if_neg (by omega)]
    rfl
theorem attr_cut1 (p f e : Int) (x : Ar) : attr p (cut1 f e x) = if f ≤ p ∧ p < e then (if e ≤ f then attr p [x] else none) else attr p [x] := by
  unfold cut1
  rw [attr_append, attr_seg, attr_seg]
  simp only [attr]
  have hh : has p x = (decide (x.f0 ≤ p) && decide (p < fin x)) := rfl
  by_cases c : f ≤ p ∧ p < e
  · rw [if_pos c, if_neg (by omega), if_neg (by omega), if_neg (by omega)]
    rfl
  · rw [if_neg c]
    by_cases d : x.f0 ≤ p ∧ p < fin x
    · have d' : has p x = true := by rw [hh]; simpa using d
      rw [if_pos d']
      by_cases g : p < f
      · rw [if_pos (by omega)]; rfl
      · rw [if_neg (by omega), if_pos (by omega)]; rfl
    · have d' : ¬ has p x = true := by rw [hh]; simpa using d
      rw [if_neg d', if_neg (by omega), if_neg (by omega)]
      rfl
theorem attr_cut (p f e : Int) (h : f < e) (l : List Ar) : attr p (cutL f e l) = if f ≤ p ∧ p < e then none else attr p l := by
  induction l with
  | nil => simp [cutL, attr]
  | cons x l ih =>
    rw [cutL_cons, attr_append, ih, attr_cut1]
    by_cases c : f ≤ p ∧ p < e
    · rw [if_pos c, if_pos c, if_pos c, if_neg (by omega)]
      rfl
    · rw [if_neg c, if_neg c, if_neg c]
      simp only [attr]
      split <;> rfl
theorem idx_attr (p : Int) : ∀ (l : List Ar) (b : Int), 0 ≤ b → (∀ a ∈ l, areaOk a = true) → (impl_AreasAt.idx p l b = -1 ∧ attr p l = none) ∨ ∃ i : Nat, i < l.length ∧ impl_AreasAt.idx p l b = b + i ∧ attr p l = some ((atA l i).f2, (atA l i).f3)
  | [], b, hb, _ => .inl ⟨rfl, rfl⟩
  | a :: l, b, hb, hok => by
    simp only [impl_AreasAt.idx, attr, hit_has (hok a (by simp))]
    by_cases hh : has p a = true
    · rw [if_pos hh, if_pos hh]
      exact .inr ⟨0, by simp, by simp, by simp [atA]⟩
    · rw [if_neg hh, if_neg hh]
      rcases idx_attr p l (b + 1) (by omega) (fun x hx => hok x (by simp [hx])) with ⟨h1, h2⟩ | ⟨i, h1, h2, h3⟩
      · exact .inl ⟨h1, h2⟩
      · exact .inr ⟨i + 1, by simp; omega, by rw [h2]; omega, by simpa [atA] using h3⟩
/-- Of a valid list. -/
theorem at_attr {l : List Ar} (ho : areasOk l = true) (p : Int) : (areasAt l p = -1 ∧ attr p l = none) ∨ ∃ i : Nat, i < l.length ∧ areasAt l p = i ∧ attr p l = some ((atA l i).f2, (atA l i).f3) := by
  have e : areasAt l p = impl_AreasAt.idx p l 0 := if_pos ho
  rw [e]
  rcases idx_attr p l 0 (by omega) (fun a ha => (vldA_mem ((areasOk_iff l).1 ho).1 a ha).1) with h | ⟨i, h1, h2, h3⟩
  · exact .inl h
  · exact .inr ⟨i, h1, by omega, h3⟩
end Go.Proofs.Ytlahnekinlkfmaa.Q

/- One more area by the program: the library's sort of a valid list with one more at its end. -/
namespace Go.Proofs.Ytlahnekinlkfmaa.Q
open Go.RowKit Go.Proofs.YtlahnekinlkfmaaW.PrintWords Go.Proofs.YtlahnekinlkfmaaW.PrintLast Go.Proofs.YtlahnekinlkfmaaW.PrintMore Go.Proofs.Ytlahnekinlkfmaa.P
set_option linter.unusedVariables false
set_option linter.unusedSimpArgs false

/-- a sinks into a list (told from its end on). -/
def dn (a : Ar) : List Ar → List Ar
  | [] => [a]
  | b :: R => if a.f0 < b.f0 then dn a R ++ [b] else R.reverse ++ [b, a]
theorem dn_length (a : Ar) : ∀ R, (dn a R).length = R.length + 1
  | [] => rfl
  | b :: R => by
    simp only [dn]
    split
    · simp [dn_length a R]
    · simp
def inPage (a : Ar) : Prop := 0 ≤ a.f0 ∧ a.f0 ≤ 15
theorem dn_mem {a : Ar} : ∀ {R : List Ar} {x : Ar}, x ∈ dn a R → x = a ∨ x ∈ R := by
  intro R
  induction R with
  | nil => intro x h; simp [dn] at h; exact .inl h
  | cons b R ih =>
    intro x h
    simp only [dn] at h
    split at h
    · rcases List.mem_append.1 h with h | h
      · rcases ih h with h | h
        · exact .inl h
        · exact .inr (by simp [h])
      · simp at h; exact .inr (by simp [h])
    · simp at h
      rcases h with h | h | h
      · exact .inr (by simp [h])
      · exact .inr (by simp [h])
      · exact .inl h
theorem set_swap (P Q : List Ar) (a b : Ar) : ((P ++ b :: a :: Q).set (P.length + 1) b).set P.length a = P ++ a :: b :: Q := by
  induction P with
  | nil => rfl
  | cons c P ih => simp
theorem rd_two (P Q : List Ar) (a b : Ar) : rd_T24 (P ++ b :: a :: Q) ((P.length + 1 : Nat) : Int) = a ∧ rd_T24 (P ++ b :: a :: Q) (P.length : Int) = b := by
  refine ⟨?_, rd_pre P b (a :: Q)⟩
  have := rd_pre (P ++ [b]) a Q
  simpa using this
theorem sink (a : Ar) (ha : inPage a) (n x8 : Int) (r : List Ar) : ∀ (R Q : List Ar), (∀ b ∈ R, inPage b) → ((R.reverse ++ a :: Q).length : Int) = n → n ≤ 1048576 →
    Ev (fun k => slices_insertionSortCmpFunc_Area.l0 k (dn a R ++ Q) 0 n (wrap64 (x8 + 1))) r → Ev (fun k => slices_insertionSortCmpFunc_Area.l1 k (R.reverse ++ a :: Q) 0 n x8 (R.length : Int)) r := by
  intro R
  induction R with
  | nil =>
    intro Q _ _ _ h
    refine Ev.step (fun k => by simp only [slices_insertionSortCmpFunc_Area.l1]; rfl) ?_
    exact Ev.neg (by simp) h
  | cons b R ih =>
    intro Q hR hn hle h
    have hb := hR b (by simp)
    have e : (b :: R).reverse ++ a :: Q = R.reverse ++ b :: a :: Q := by simp
    rw [e] at hn ⊢
    have hl : R.reverse.length = R.length := by simp
    obtain ⟨r1, r2⟩ := rd_two R.reverse Q a b
    rw [hl] at r1 r2
    have hlen : (R.reverse ++ b :: a :: Q).length = R.length + 2 + Q.length := by simp; omega
    refine Ev.step (fun k => by simp only [slices_insertionSortCmpFunc_Area.l1]; rfl) ?_
    have e1 : ((b :: R).length : Int) = ((R.length + 1 : Nat) : Int) := by simp
    rw [e1]
    have e2 : wrap64 (((R.length + 1 : Nat) : Int) - 1) = (R.length : Int) := by rw [wrap_id (by omega) (by omega)]; omega
    rw [e2, r1, r2]
    refine Ev.pos (by omega) (Ev.pos (by omega) (Ev.pos (by omega) (Ev.pos (by omega) (Ev.pos (by omega) ?_))))
    refine Ev.bind (a := a.f0 - b.f0) (Ev.const (by unfold impl_AreasAdd_1.f; rw [wrap_id (by have := ha.1; have := ha.2; have := hb.1; have := hb.2; omega) (by have := ha.1; have := ha.2; have := hb.1; have := hb.2; omega)])) ?_
    by_cases hc : a.f0 - b.f0 < 0
    · refine Ev.pos hc ?_
      have hlt : a.f0 < b.f0 := by omega
      have es : ((R.reverse ++ b :: a :: Q).set (((R.length + 1 : Nat) : Int)).toNat b).set ((R.length : Int)).toNat a = R.reverse ++ a :: b :: Q := by
        rw [Int.toNat_natCast, Int.toNat_natCast]
        have := set_swap R.reverse Q a b
        rw [hl] at this
        exact this
      have ih' := ih (b :: Q) (fun c hc => hR c (by simp [hc])) (by rw [← hn]; simp) hle (by
        simp only [dn] at h
        rw [if_pos hlt] at h
        simpa using h)
      rw [← es] at ih'
      exact ih'
    · refine Ev.neg hc ?_
      have hlt : ¬ a.f0 < b.f0 := by omega
      simp only [dn] at h
      rw [if_neg hlt] at h
      simpa using h
def srt (S : List Ar) (R : List Ar) : List Ar := R.foldl (fun S x => dn x S.reverse) S
theorem sort_l (n : Int) (hle : n ≤ 1048576) : ∀ (R S : List Ar), (∀ b ∈ S ++ R, inPage b) → ((S ++ R).length : Int) = n → Ev (fun k => slices_insertionSortCmpFunc_Area.l0 k (S ++ R) 0 n (S.length : Int)) (srt S R) := by
  intro R
  induction R with
  | nil =>
    intro S _ hn
    refine Ev.step (fun k => by simp only [slices_insertionSortCmpFunc_Area.l0]; rfl) ?_
    exact Ev.neg (by rw [← hn]; simp) (Ev.pure (by simp [srt]))
  | cons a R ih =>
    intro S hS hn
    have hlen : (S ++ a :: R).length = S.length + 1 + R.length := by simp; omega
    refine Ev.step (fun k => by simp only [slices_insertionSortCmpFunc_Area.l0]; rfl) ?_
    refine Ev.pos (by omega) ?_
    have hk := sink a (hS a (by simp)) n (S.length : Int) (srt S (a :: R)) S.reverse R (fun b hb => hS b (by simp at hb; simp [hb])) (by simpa using hn) hle ?_
    · simpa using hk
    · rw [wrap_id (by omega) (by omega)]
      have hl := dn_length a S.reverse
      have := ih (dn a S.reverse) (fun b hb => by
        rcases List.mem_append.1 hb with hb | hb
        · rcases dn_mem hb with rfl | hb
          · exact hS _ (by simp)
          · exact hS b (by simp at hb; simp [hb])
        · exact hS b (by simp [hb])) (by rw [← hn]; simp [hl]; omega)
      have e : ((dn a S.reverse).length : Int) = (S.length : Int) + 1 := by rw [hl]; simp
      rw [e] at this
      exact this
/-- Rising, strictly. -/
def rising : List Ar → Prop
  | [] => True
  | a :: l => (∀ b ∈ l, a.f0 < b.f0) ∧ rising l
theorem rising_vld : ∀ {l : List Ar} {lo : Int}, vldA lo l = true → rising l := by
  intro l
  induction l with
  | nil => intro _ _; trivial
  | cons a l ih =>
    intro lo h
    obtain ⟨h1, h2, h3⟩ := vldA_cons.1 h
    have ho := (areaOk_iff a).1 h1
    refine ⟨fun b hb => ?_, ih h3⟩
    have := (vldA_mem h3 b hb).2
    unfold fin at this
    omega
theorem rising_append : ∀ {l m : List Ar}, rising (l ++ m) ↔ rising l ∧ rising m ∧ ∀ a ∈ l, ∀ b ∈ m, a.f0 < b.f0 := by
  intro l
  induction l with
  | nil => intro m; simp [rising]
  | cons c l ih =>
    intro m
    simp only [List.cons_append, rising, ih]
    constructor
    · rintro ⟨h1, h2, h3, h4⟩
      exact ⟨⟨fun b hb => h1 b (by simp [hb]), h2⟩, h3, fun a ha b hb => by
        rcases List.mem_cons.1 ha with rfl | ha
        · exact h1 b (by simp [hb])
        · exact h4 a ha b hb⟩
    · rintro ⟨⟨h1, h2⟩, h3, h4⟩
      exact ⟨fun b hb => by
        rcases List.mem_append.1 hb with hb | hb
        · exact h1 b hb
        · exact h4 c (by simp) b hb, h2, h3, fun a ha b hb => h4 a (by simp [ha]) b hb⟩
theorem dn_top {a : Ar} {S : List Ar} (h : ∀ b ∈ S, b.f0 < a.f0) : dn a S.reverse = S ++ [a] := by
  rcases List.eq_nil_or_concat S with rfl | ⟨q, b, rfl⟩
  · rfl
  · have := h b (by simp)
    simp only [List.concat_eq_append, List.reverse_append, List.reverse_cons, List.reverse_nil, List.nil_append, List.singleton_append, dn]
    rw [if_neg (by omega)]
    simp
theorem srt_rising : ∀ (R S : List Ar), rising (S ++ R) → srt S R = S ++ R := by
  intro R
  induction R with
  | nil => intro S _; simp [srt]
  | cons a R ih =>
    intro S h
    have h' : rising ((S ++ [a]) ++ R) := by simpa using h
    have hs := (rising_append.1 h).2.2
    show srt (dn a S.reverse) R = _
    rw [dn_top (fun b hb => hs b hb a (by simp)), ih _ h']
    simp
theorem srt_add (l : List Ar) (a : Ar) (h : rising l) : srt [] (l ++ [a]) = dn a l.reverse := by
  unfold srt
  rw [List.foldl_append]
  have := srt_rising l [] (by simpa using h)
  unfold srt at this
  rw [this]
  simp
theorem addL_snoc (a b : Ar) : ∀ q : List Ar, rising (q ++ [b]) → (∀ c ∈ q ++ [b], c.f0 ≠ a.f0) → addL a (q ++ [b]) = if a.f0 < b.f0 then addL a q ++ [b] else q ++ [b, a] := by
  intro q
  induction q with
  | nil =>
    intro _ hne
    have := hne b (by simp)
    simp only [List.nil_append, addL]
    by_cases h : a.f0 < b.f0
    · rw [if_pos h, if_pos (by omega)]; rfl
    · rw [if_neg h, if_neg (by omega)]
  | cons c q ih =>
    intro hr hne
    have hc := hr.1 b (by simp)
    have hca := hne c (by simp)
    simp only [List.cons_append, addL]
    by_cases h1 : c.f0 ≥ a.f0
    · rw [if_pos h1, if_pos h1, if_pos (by omega)]; rfl
    · rw [if_neg h1, if_neg h1, ih hr.2 (fun d hd => hne d (by simp at hd ⊢; exact .inr hd))]
      split <;> simp
theorem rising_init {q : List Ar} {b : Ar} (h : rising (q ++ [b])) : rising q := (rising_append.1 h).1
theorem dn_addL (a : Ar) : ∀ (R : List Ar), rising R.reverse → (∀ c ∈ R, c.f0 ≠ a.f0) → dn a R = addL a R.reverse := by
  intro R
  induction R with
  | nil => intro _ _; rfl
  | cons b R ih =>
    intro hr hne
    rw [List.reverse_cons] at hr ⊢
    rw [addL_snoc a b R.reverse hr (fun c hc => hne c (by simp at hc ⊢; exact hc.symm))]
    simp only [dn]
    rw [ih (rising_init hr) (fun c hc => hne c (by simp [hc]))]
/-- Two that begin alike make a list bad. -/
theorem rising_nodup : ∀ {l : List Ar}, rising l → (l.map (fun a => a.f0)).Nodup := by
  intro l
  induction l with
  | nil => intro _; simp
  | cons a l ih =>
    intro h
    simp only [List.map_cons, List.nodup_cons]
    refine ⟨fun hm => ?_, ih h.2⟩
    obtain ⟨b, hb, e⟩ := List.mem_map.1 hm
    have := h.1 b hb
    omega
theorem addL_perm (a : Ar) : ∀ l, (addL a l).Perm (a :: l) := by
  intro l
  induction l with
  | nil => exact List.Perm.refl _
  | cons b l ih =>
    simp only [addL]
    split
    · exact List.Perm.refl _
    · exact (List.Perm.cons b ih).trans (List.Perm.swap a b l)
theorem dn_perm (a : Ar) : ∀ R, (dn a R).Perm (a :: R) := by
  intro R
  induction R with
  | nil => exact List.Perm.refl _
  | cons b R ih =>
    simp only [dn]
    split
    · have h1 := List.Perm.append_right [b] ih
      refine h1.trans ?_
      have : (a :: R ++ [b]).Perm (b :: (a :: R)) := by
        have := List.perm_append_comm (l₁ := a :: R) (l₂ := [b])
        simpa using this
      exact this.trans (List.Perm.swap a b R)
    · have h1 : (R.reverse ++ [b, a]).Perm ([b, a] ++ R.reverse) := List.perm_append_comm
      have h2 : ([b, a] ++ R.reverse).Perm ([b, a] ++ R) := List.Perm.append_left _ (List.reverse_perm R)
      exact (h1.trans h2).trans (List.Perm.swap a b R)
theorem tie_bad {a : Ar} {l L : List Ar} (hp : L.Perm (a :: l)) {b : Ar} (hb : b ∈ l) (e : b.f0 = a.f0) : areasOk L = false := by
  cases h : areasOk L with
  | false => rfl
  | true =>
    have hn := rising_nodup (rising_vld ((areasOk_iff L).1 h).1)
    have hn' : ((a :: l).map (fun a => a.f0)).Nodup := (hp.map _).nodup_iff.1 hn
    simp only [List.map_cons, List.nodup_cons] at hn'
    exact absurd (List.mem_map.2 ⟨b, hb, e⟩) hn'.1
theorem areasAdd_dn {l : List Ar} (a : Ar) (hl : areasOk l = true) : (if areasOk (dn a l.reverse) = true then (dn a l.reverse, true) else ([], false)) = (if areasOk (addL a l) = true then (addL a l, true) else (([] : List Ar), false)) := by
  by_cases ht : ∃ b ∈ l, b.f0 = a.f0
  · obtain ⟨b, hb, e⟩ := ht
    have h1 : areasOk (dn a l.reverse) = false := tie_bad ((dn_perm a l.reverse).trans (List.Perm.cons a (List.reverse_perm l))) hb e
    have h2 : areasOk (addL a l) = false := tie_bad (addL_perm a l) hb e
    rw [h1, h2]
    rfl
  · have hr := rising_vld ((areasOk_iff l).1 hl).1
    have := dn_addL a l.reverse (by rw [List.reverse_reverse]; exact hr) (fun c hc e => ht ⟨c, by simpa using hc, e⟩)
    rw [List.reverse_reverse] at this
    rw [this]
set_option maxRecDepth 100000 in
theorem len_ev (n : Int) (h0 : 0 ≤ n) (h1 : n ≤ 12) : ∃ v, Ev (fun k => bits_Len.f k n) v := by
  have hm : n % 256 = n := Int.emod_eq_of_lt h0 (by omega)
  have hj : ∃ v, Ev (fun k => bits_Len64.j0 k n 0) v := by
    refine ⟨_, Ev.step (fun k => by simp only [bits_Len64.j0]; rfl) (Ev.neg (by omega) (Ev.neg (by omega) (Ev.pos (by omega) (Ev.pos (by omega) (Ev.now _)))))⟩
  obtain ⟨v, hv⟩ := hj
  refine ⟨v, ?_⟩
  unfold bits_Len.f bits_Len64.f
  exact Ev.bind (Ev.neg (by omega) hv) (Ev.now _)
theorem sort_ev (l : List Ar) (hl : ∀ b ∈ l, inPage b) (hn : l.length ≤ 12) : Ev (fun k => slices_SortFunc_Area.f k l) (srt [] l) := by
  unfold slices_SortFunc_Area.f
  have hu : IntKind.u64.wrap (l.length : Int) = (l.length : Int) := by
    rw [IntKind.wrap_u64]; omega
  rw [hu]
  obtain ⟨v, hv⟩ := len_ev (l.length : Int) (by omega) (by omega)
  refine Ev.bind hv (Ev.bind ?_ (Ev.now _))
  refine Ev.step (fun k => by simp only [slices_pdqsortCmpFunc_Area.f]; rfl) ?_
  refine Ev.step (fun k => by simp only [slices_pdqsortCmpFunc_Area.l0]; rfl) ?_
  rw [wrap_id (n := (l.length : Int) - 0) (by omega) (by omega)]
  refine Ev.pos (by omega) (Ev.bind ?_ (Ev.now _))
  unfold slices_insertionSortCmpFunc_Area.f
  cases l with
  | nil =>
    refine Ev.step (fun k => by simp only [slices_insertionSortCmpFunc_Area.l0]; rfl) ?_
    exact Ev.neg (by rw [wrap_id (by omega) (by omega)]; simp) (Ev.pure rfl)
  | cons a l =>
    rw [wrap_id (n := 0 + 1) (by omega) (by omega)]
    have := sort_l ((a :: l).length : Int) (by omega) l [a] hl (by simp)
    exact this
theorem implAdd (l : List Ar) (a : Ar) (hn : l.length ≤ 1048576) : Ev (fun k => impl_AreasAdd.f k l a.f0 a.f1 a.f2 a.f3) (areasAdd l a) := by
  unfold impl_AreasAdd.f areasAdd
  refine Ev.bind (implOk l (by omega)) ?_
  have out : Ev (fun k => impl_AreasAdd.j0 k l true a.f0 a.f1 a.f2 a.f3) ([], false) := Ev.step (fun k => by simp only [impl_AreasAdd.j0]; rfl) (Ev.pos (by trivial) (Ev.now _))
  cases hl : areasOk l with
  | false => exact Ev.neg (by decide) (Ev.cast out (by simp))
  | true =>
    refine Ev.pos (by trivial) (Ev.bind (Ev.const (AreaOk_eq _ _ _ _)) ?_)
    cases ha : areaOk a with
    | false => exact Ev.cast out (by simp)
    | true =>
      obtain ⟨hv, h6⟩ := (areasOk_iff l).1 hl
      refine Ev.step (fun k => by simp only [impl_AreasAdd.j0]; rfl) (Ev.neg (by simp) ?_)
      refine Ev.bind (a := l) (Ev.const (by unfold slices_Clone_Area.f; exact if_pos (by omega))) (Ev.bind (Ev.now _) (Ev.pos (by simp; omega) ?_))
      have hs := sort_ev (l ++ [a]) (fun b hb => by
        rcases List.mem_append.1 hb with hb | hb
        · have := (areaOk_iff b).1 (vldA_mem hv b hb).1
          exact ⟨this.1, this.2.1⟩
        · simp at hb
          subst hb
          have := (areaOk_iff b).1 ha
          exact ⟨this.1, this.2.1⟩) (by simp; omega)
      rw [srt_add l a (rising_vld hv)] at hs
      refine Ev.bind hs (Ev.bind (implOk _ (by rw [dn_length]; simp; omega)) ?_)
      have he := areasAdd_dn a hl
      simp only [Bool.and_self, if_true]
      refine Ev.cast ?_ he
      cases hd : areasOk (dn a l.reverse) with
      | true => exact Ev.pos (by trivial) (Ev.pure (by simp))
      | false => exact Ev.neg (by decide) (Ev.pure (by simp))
end Go.Proofs.Ytlahnekinlkfmaa.Q

/- Areas set to be written or not: what is cut out and put in again, by the program and by the reference. -/
namespace Go.Proofs.Ytlahnekinlkfmaa.Q
open Go.RowKit Go.Proofs.YtlahnekinlkfmaaW.PrintWords Go.Proofs.YtlahnekinlkfmaaW.PrintLast Go.Proofs.YtlahnekinlkfmaaW.PrintMore Go.Proofs.Ytlahnekinlkfmaa.P
set_option linter.unusedVariables false
set_option linter.unusedSimpArgs false

/-- The part of an area from f on, below e. -/
def prt (f e : Int) (w : Bool) (a : Ar) : Ar := ⟨max a.f0 f, min (fin a) e - max a.f0 f, w, a.f3⟩
def meets (f e : Int) (a : Ar) : Prop := max a.f0 f < min (fin a) e
instance (f e : Int) (a : Ar) : Decidable (meets f e a) := inferInstanceAs (Decidable (_ < _))
def put1 (f e : Int) (w : Bool) (out : List Ar) (a : Ar) : List Ar := if meets f e a then addL (prt f e w a) out else out
def putL (f e : Int) (w : Bool) (out : List Ar) (l : List Ar) : List Ar := l.foldl (put1 f e w) out
/-- How many pages from f on, below e, are in an area. -/
def cov (f e : Int) : List Ar → Int
  | [] => 0
  | a :: l => (if meets f e a then min (fin a) e - max a.f0 f else 0) + cov f e l
theorem prt_fin (f e : Int) (w : Bool) (a : Ar) : fin (prt f e w a) = min (fin a) e := by show max a.f0 f + (min (fin a) e - max a.f0 f) = _; omega
theorem prt_ok {f e : Int} {w : Bool} {a : Ar} (ha : areaOk a = true) (h : meets f e a) : areaOk (prt f e w a) = true := by
  have := (areaOk_iff a).1 ha
  have fx : fin a = a.f0 + a.f1 := rfl
  unfold meets at h
  rw [areaOk_iff]
  show 0 ≤ max a.f0 f ∧ max a.f0 f ≤ 15 ∧ 1 ≤ min (fin a) e - max a.f0 f ∧ min (fin a) e - max a.f0 f ≤ 16 - max a.f0 f
  omega
theorem addL_vld {p : Ar} (hp : areaOk p = true) : ∀ {l : List Ar} {lo : Int}, vldA lo l = true → lo ≤ p.f0 → (∀ b ∈ l, fin b ≤ p.f0 ∨ fin p ≤ b.f0) → vldA lo (addL p l) = true := by
  have hpo := (areaOk_iff p).1 hp
  have fp : fin p = p.f0 + p.f1 := rfl
  intro l
  induction l with
  | nil => intro lo _ hlo _; exact vldA_cons.2 ⟨hp, hlo, rfl⟩
  | cons b l ih =>
    intro lo h hlo hd
    obtain ⟨h1, h2, h3⟩ := vldA_cons.1 h
    have hbo := (areaOk_iff b).1 h1
    have fb : fin b = b.f0 + b.f1 := rfl
    have hb := hd b (by simp)
    simp only [addL]
    by_cases hc : b.f0 ≥ p.f0
    · rw [if_pos hc]
      exact vldA_cons.2 ⟨hp, hlo, vldA_cons.2 ⟨h1, by omega, h3⟩⟩
    · rw [if_neg hc]
      exact vldA_cons.2 ⟨h1, h2, ih h3 (by omega) (fun c hc => hd c (by simp [hc]))⟩
theorem addL_in {a x : Ar} {l : List Ar} : x ∈ addL a l ↔ x = a ∨ x ∈ l := by
  rw [(addL_perm a l).mem_iff]; simp
theorem putL_vld (f e : Int) (w : Bool) : ∀ (l : List Ar) (lo : Int) (out : List Ar), vldA lo l = true → vldA 0 out = true → (∀ b ∈ out, fin b ≤ f ∨ e ≤ b.f0 ∨ fin b ≤ lo) → vldA 0 (putL f e w out l) = true := by
  intro l
  induction l with
  | nil => intro lo out _ h _; exact h
  | cons a l ih =>
    intro lo out hl ho hd
    obtain ⟨h1, h2, h3⟩ := vldA_cons.1 hl
    have hao := (areaOk_iff a).1 h1
    have fa : fin a = a.f0 + a.f1 := rfl
    show vldA 0 (putL f e w (put1 f e w out a) l) = true
    unfold put1
    by_cases hm : meets f e a
    · rw [if_pos hm]
      have hpo := prt_ok (w := w) h1 hm
      have hpf := prt_fin f e w a
      have hp0 : (prt f e w a).f0 = max a.f0 f := rfl
      have hm' := hm
      unfold meets at hm'
      refine ih (fin a) _ h3 (addL_vld hpo ho (by rw [hp0]; omega) (fun b hb => ?_)) (fun b hb => ?_)
      · rw [hpf, hp0]
        rcases hd b hb with h | h | h <;> omega
      · rcases addL_in.1 hb with rfl | hb
        · rw [hpf]; omega
        · rcases hd b hb with h | h | h
          · exact .inl h
          · exact .inr (.inl h)
          · exact .inr (.inr (by omega))
    · rw [if_neg hm]
      exact ih (fin a) _ h3 ho (fun b hb => by
        rcases hd b hb with h | h | h
        · exact .inl h
        · exact .inr (.inl h)
        · exact .inr (.inr (by omega)))
theorem put1_len (f e : Int) (w : Bool) (out : List Ar) (a : Ar) : out.length ≤ (put1 f e w out a).length ∧ (put1 f e w out a).length ≤ out.length + 1 := by
  unfold put1
  split
  · rw [addL_length]; omega
  · omega
theorem putL_len (f e : Int) (w : Bool) : ∀ (l out : List Ar), out.length ≤ (putL f e w out l).length ∧ (putL f e w out l).length ≤ out.length + l.length := by
  intro l
  induction l with
  | nil => intro out; exact ⟨Nat.le_refl _, Nat.le_refl _⟩
  | cons a l ih =>
    intro out
    have h1 := put1_len f e w out a
    have h2 := ih (put1 f e w out a)
    simp only [List.length_cons]
    show out.length ≤ (putL f e w (put1 f e w out a) l).length ∧ (putL f e w (put1 f e w out a) l).length ≤ _
    omega
theorem cut1_out {f e : Int} (hf : f < e) (x b : Ar) (hb : b ∈ cut1 f e x) : fin b ≤ f ∨ e ≤ b.f0 := by
  unfold cut1 at hb
  rcases List.mem_append.1 hb with hb | hb
  · left
    unfold seg at hb
    split at hb
    · simp at hb
      subst hb
      show x.f0 + (min (fin x) f - x.f0) ≤ f
      omega
    · simp at hb
  · right
    unfold seg at hb
    split at hb
    · simp at hb
      subst hb
      show e ≤ max x.f0 e
      omega
    · simp at hb
theorem cutL_out {f e : Int} (hf : f < e) {l : List Ar} {b : Ar} (hb : b ∈ cutL f e l) : fin b ≤ f ∨ e ≤ b.f0 := by
  obtain ⟨x, _, hx⟩ := List.mem_flatMap.1 hb
  exact cut1_out hf x b hx
def setL (l : List Ar) (f e : Int) (w : Bool) : List Ar := putL f e w (cutL f e l) l
theorem setL_vld {l : List Ar} {f e : Int} (w : Bool) (hf : f < e) (hl : vldA 0 l = true) : vldA 0 (setL l f e w) = true :=
  putL_vld f e w l 0 _ hl (vldA_cut f e (by omega) hl) (fun b hb => by
    rcases cutL_out hf hb with h | h
    · exact .inl h
    · exact .inr (.inl h))

-- the pages that are in an area
theorem cov_nonneg (f e : Int) : ∀ l, 0 ≤ cov f e l := by
  intro l
  induction l with
  | nil => exact Int.le_refl _
  | cons a l ih =>
    simp only [cov]
    split
    · rename_i h; unfold meets at h; omega
    · omega
theorem cov_from {e : Int} : ∀ {l : List Ar} {lo f : Int}, vldA lo l = true → cov f e l = cov (max f lo) e l := by
  intro l
  induction l with
  | nil => intro lo f _; rfl
  | cons a l ih =>
    intro lo f h
    obtain ⟨h1, h2, h3⟩ := vldA_cons.1 h
    have hao := (areaOk_iff a).1 h1
    have fa : fin a = a.f0 + a.f1 := rfl
    have e1 := ih h3 (f := f)
    have e2 := ih h3 (f := max f lo)
    have e3 : max (max f lo) (fin a) = max f (fin a) := by omega
    simp only [cov]
    rw [e1, e2, e3]
    have e4 : max a.f0 (max f lo) = max a.f0 f := by omega
    by_cases hm : meets f e a
    · rw [if_pos hm, if_pos (show meets (max f lo) e a by unfold meets at *; omega), e4]
    · rw [if_neg hm, if_neg (show ¬ meets (max f lo) e a by unfold meets at *; omega)]
theorem cov_zero {f e : Int} (h : e ≤ f) : ∀ l, cov f e l = 0 := by
  intro l
  induction l with
  | nil => rfl
  | cons a l ih =>
    simp only [cov]
    rw [if_neg (by unfold meets; omega), ih]
    rfl
theorem attr_none {p lo : Int} : ∀ {l : List Ar}, vldA lo l = true → p < lo → attr p l = none := by
  intro l h hp
  induction l generalizing lo with
  | nil => rfl
  | cons a l ih =>
    obtain ⟨h1, h2, h3⟩ := vldA_cons.1 h
    have hao := (areaOk_iff a).1 h1
    have fa : fin a = a.f0 + a.f1 := rfl
    simp only [attr]
    rw [if_neg (by unfold has; simp; omega), ih h3 (by omega)]
theorem cov_all {e : Int} : ∀ {l : List Ar} {lo f : Int}, vldA lo l = true → f ≤ e → cov f e l ≤ e - f ∧ (cov f e l = e - f ↔ ∀ p, f ≤ p → p < e → attr p l ≠ none) := by
  intro l
  induction l with
  | nil =>
    intro lo f _ hf
    refine ⟨by simp only [cov]; omega, ?_⟩
    simp only [cov, attr]
    constructor
    · intro h p h1 h2; omega
    · intro h
      by_cases hc : f < e
      · exact absurd rfl (h f (Int.le_refl _) hc)
      · omega
  | cons a l ih =>
    intro lo f h hf
    obtain ⟨h1, h2, h3⟩ := vldA_cons.1 h
    have hao := (areaOk_iff a).1 h1
    have fa : fin a = a.f0 + a.f1 := rfl
    have hat : ∀ p, attr p (a :: l) = if a.f0 ≤ p ∧ p < fin a then some (a.f2, a.f3) else attr p l := fun p => by
      simp only [attr]
      by_cases hc : a.f0 ≤ p ∧ p < fin a
      · rw [if_pos hc, if_pos (by unfold has; simp; exact hc)]
      · rw [if_neg hc, if_neg (by unfold has; simp; omega)]
    by_cases c1 : fin a ≤ f
    · obtain ⟨i1, i2⟩ := ih h3 hf
      simp only [cov]
      rw [if_neg (by unfold meets; omega), Int.zero_add]
      refine ⟨i1, i2.trans ?_⟩
      constructor
      · intro hh p p1 p2; rw [hat, if_neg (by omega)]; exact hh p p1 p2
      · intro hh p p1 p2; have := hh p p1 p2; rw [hat, if_neg (by omega)] at this; exact this
    · by_cases c2 : f < a.f0
      · have hcov : cov f e (a :: l) = cov (max f a.f0) e (a :: l) := cov_from (l := a :: l) (vldA_cons.2 ⟨h1, Int.le_refl _, h3⟩)
        have hm : max f a.f0 = a.f0 := by omega
        rw [hm] at hcov
        by_cases c3 : e ≤ a.f0
        · rw [hcov, cov_zero c3]
          refine ⟨by omega, ?_⟩
          constructor
          · intro hh p p1 p2; omega
          · intro hh
            by_cases c4 : f < e
            · have := hh f (Int.le_refl _) c4
              rw [hat, if_neg (by omega), attr_none h3 (by omega)] at this
              exact absurd rfl this
            · omega
        · have hle : cov a.f0 e (a :: l) ≤ e - a.f0 := by
            obtain ⟨i1, _⟩ := ih h3 (f := min (fin a) e) (by omega)
            simp only [cov]
            rw [if_pos (by unfold meets; omega)]
            have := cov_from (f := a.f0) (e := e) h3
            have hx : max a.f0 (fin a) = fin a := by omega
            rw [hx] at this
            rw [this]
            by_cases c5 : fin a ≤ e
            · have hy : min (fin a) e = fin a := by omega
              rw [hy] at i1 ⊢
              omega
            · rw [cov_zero (by omega)]; omega
          rw [hcov]
          refine ⟨by omega, ?_⟩
          constructor
          · intro hh; omega
          · intro hh
            have := hh f (Int.le_refl _) (by omega)
            rw [hat, if_neg (by omega), attr_none h3 (by omega)] at this
            exact absurd rfl this
      · by_cases c3 : f < e
        · have hcf := cov_from (f := f) (e := e) h3
          have hx : max f (fin a) = fin a := by omega
          rw [hx] at hcf
          simp only [cov]
          rw [if_pos (by unfold meets; omega), hcf]
          have hmx : max a.f0 f = f := by omega
          rw [hmx]
          by_cases c5 : fin a ≤ e
          · have hy : min (fin a) e = fin a := by omega
            rw [hy]
            obtain ⟨i1, i2⟩ := ih h3 (f := fin a) c5
            refine ⟨by omega, ?_⟩
            constructor
            · intro hh p p1 p2
              rw [hat]
              split
              · simp
              · exact i2.1 (by omega) p (by omega) p2
            · intro hh
              have := i2.2 (fun p p1 p2 => by have := hh p (by omega) p2; rw [hat, if_neg (by omega)] at this; exact this)
              omega
          · rw [cov_zero (by omega)]
            refine ⟨by omega, ?_⟩
            constructor
            · intro _ p p1 p2; rw [hat, if_pos (by omega)]; simp
            · intro _; omega
        · have he : f = e := by omega
          subst he
          rw [cov_zero (Int.le_refl _)]
          refine ⟨by omega, ?_⟩
          constructor
          · intro _ p p1 p2; omega
          · intro _; omega

def areasSet (l : List Ar) (f m : Int) (w : Bool) : List Ar × Bool :=
  if (areasCut l f m).2 = true then (if cov f (f + m) l = m then (if areasOk (setL l f (f + m) w) = true then (setL l f (f + m) w, true) else ([], false)) else ([], false)) else ([], false)
theorem areasSet_len (l : List Ar) (f m : Int) (w : Bool) : (areasSet l f m w).1.length ≤ 6 := by
  unfold areasSet
  split
  · split
    · split
      · rename_i h
        exact ((areasOk_iff _).1 h).2
      · simp
    · simp
  · simp
-- the reference's
theorem l2Part_eq {a : Ar} {f m : Int} (ha : areaOk a = true) (hc : areaOk ⟨f, m, false, false⟩ = true) : spec_l2Part.f a.f0 a.f1 a.f2 a.f3 f (wrap64 ((wrap64 (f + m)) - 1)) = some (if meets f (f + m) a then (max a.f0 f, min (fin a) (f + m) - max a.f0 f, a.f2, a.f3, true) else (0, 0, false, false, false)) := by
  have ha' := (areaOk_iff a).1 ha
  have hc' : 0 ≤ f ∧ f ≤ 15 ∧ 1 ≤ m ∧ m ≤ 16 - f := (areaOk_iff _).1 hc
  have fa : fin a = a.f0 + a.f1 := rfl
  have w1 : wrap64 (f + m) = f + m := wrap_id (by omega) (by omega)
  have w2 : wrap64 (f + m - 1) = f + m - 1 := wrap_id (by omega) (by omega)
  have w3 : wrap64 (fin a - 1) = fin a - 1 := wrap_id (by omega) (by omega)
  have e1 : mx a.f0 f = max a.f0 f := by unfold mx; split <;> omega
  have e2 : mn (fin a - 1) (f + m - 1) = min (fin a) (f + m) - 1 := by unfold mn; split <;> omega
  unfold spec_l2Part.f
  rw [fin_wrap ha, w1, w2, w3, e1, e2]
  by_cases h : meets f (f + m) a
  · have h' := h
    unfold meets at h'
    rw [if_pos h, if_neg (by omega)]
    have w4 : wrap64 (min (fin a) (f + m) - 1 - max a.f0 f) = min (fin a) (f + m) - 1 - max a.f0 f := wrap_id (by omega) (by omega)
    have w5 : wrap64 (min (fin a) (f + m) - 1 - max a.f0 f + 1) = min (fin a) (f + m) - max a.f0 f := by rw [wrap_id (by omega) (by omega)]; omega
    rw [w4, w5]
  · have h' := h
    unfold meets at h'
    rw [if_neg h, if_pos (by omega)]
theorem specSet_l {l : List Ar} {f m : Int} {w : Bool} (hn : l.length ≤ 1048576) (hc : areaOk ⟨f, m, false, false⟩ = true) : ∀ (rest pre out : List Ar) (n : Int), l = pre ++ rest → (∀ a ∈ rest, areaOk a = true) → 0 ≤ n → n ≤ 16 * pre.length → out.length + rest.length ≤ 1048576 →
    Ev (fun k => spec_AreasSet.l0 k l f m w out n (pre.length : Int)) (if n + cov f (f + m) rest = m then (if areasOk (putL f (f + m) w out rest) = true then (putL f (f + m) w out rest, true) else ([], false)) else ([], false)) := by
  have hc' : 0 ≤ f ∧ f ≤ 15 ∧ 1 ≤ m ∧ m ≤ 16 - f := (areaOk_iff _).1 hc
  intro rest
  induction rest with
  | nil =>
    intro pre out n hl _ h0 h1 hlo
    simp only [List.length_nil] at hlo
    refine Ev.step (fun k => by simp only [spec_AreasSet.l0]; rfl) (Ev.neg (by rw [hl]; simp) ?_)
    simp only [cov, Int.add_zero]
    show Ev _ (if n = m then (if areasOk out = true then (out, true) else ([], false)) else ([], false))
    by_cases h : n = m
    · rw [if_pos h]
      refine Ev.pos h (Ev.bind (specOk out (by omega)) ?_)
      cases areasOk out with
      | true => exact Ev.pos (by trivial) (Ev.pure (by simp))
      | false => exact Ev.neg (by decide) (Ev.pure (by simp))
    · rw [if_neg h]
      exact Ev.neg h (Ev.pure rfl)
  | cons a rest ih =>
    intro pre out n hl hr h0 h1 hlo
    have hlt : pre.length < l.length := by rw [hl]; simp
    have ha := hr a (by simp)
    have ha' := (areaOk_iff a).1 ha
    have fa : fin a = a.f0 + a.f1 := rfl
    have hx : rd_T24 l (pre.length : Int) = a := by rw [hl]; exact rd_pre pre a rest
    simp only [List.length_cons] at hlo
    refine Ev.step (fun k => by simp only [spec_AreasSet.l0]; rfl) ?_
    rw [hx]
    refine Ev.pos (by omega) (Ev.pos (by omega) (Ev.bind (Ev.const (l2Part_eq ha hc)) ?_))
    rw [succ_wrap hlt (by omega)]
    have e1 : pre.length + 1 = (pre ++ [a]).length := by simp
    rw [e1]
    show Ev _ (if n + ((if meets f (f + m) a then min (fin a) (f + m) - max a.f0 f else 0) + cov f (f + m) rest) = m then (if areasOk (putL f (f + m) w (put1 f (f + m) w out a) rest) = true then (putL f (f + m) w (put1 f (f + m) w out a) rest, true) else ([], false)) else ([], false))
    by_cases hm : meets f (f + m) a
    · have hm' := hm
      unfold meets at hm'
      rw [if_pos hm, if_pos hm]
      refine Ev.pos rfl (Ev.bind (l2Add_ev out (prt f (f + m) w a) (by omega)) ?_)
      have hw : wrap64 (n + (min (fin a) (f + m) - max a.f0 f)) = n + (min (fin a) (f + m) - max a.f0 f) := wrap_id (by omega) (by omega)
      have := ih (pre ++ [a]) (addL (prt f (f + m) w a) out) (n + (min (fin a) (f + m) - max a.f0 f)) (by rw [hl]; simp) (fun b hb => hr b (by simp [hb])) (by omega) (by simp; omega) (by rw [addL_length]; omega)
      unfold put1
      rw [if_pos hm]
      rw [Int.add_assoc] at this
      show Ev (fun k => spec_AreasSet.l0 k l f m w (addL (prt f (f + m) w a) out) (wrap64 (n + (min (fin a) (f + m) - max a.f0 f))) ((pre ++ [a]).length : Int)) _
      rw [hw]
      exact this
    · rw [if_neg hm, if_neg hm]
      refine Ev.neg (by decide) ?_
      have := ih (pre ++ [a]) out n (by rw [hl]; simp) (fun b hb => hr b (by simp [hb])) h0 (by simp; omega) (by omega)
      unfold put1
      rw [if_neg hm, Int.zero_add]
      exact this
theorem specSet (l : List Ar) (f m : Int) (w : Bool) (hn : l.length ≤ 1048576) : Ev (fun k => spec_AreasSet.f k l f m w) (areasSet l f m w) := by
  unfold spec_AreasSet.f areasSet
  refine Ev.bind (specCut l f m hn) ?_
  cases h : (areasCut l f m).2 with
  | false => exact Ev.neg (by decide) (Ev.pure (by simp))
  | true =>
    obtain ⟨h1, h2, h3, h4⟩ := areasCut_ok h
    refine Ev.pos (by trivial) ?_
    have hv := ((areasOk_iff l).1 h1)
    have hl := areasCut_len l f m
    have := specSet_l (w := w) hn h2 l [] (areasCut l f m).1 0 rfl (fun a ha => (vldA_mem hv.1 a ha).1) (by omega) (by simp) (by omega)
    rw [h3] at this ⊢
    rw [Int.zero_add] at this
    exact this
-- the program's
def stp (f e : Int) (w : Bool) (o : List Ar × Bool) (a : Ar) : List Ar × Bool := if o.2 = true then (if meets f e a then areasAdd o.1 (prt f e w a) else o) else o
theorem stp_bad (f e : Int) (w : Bool) : ∀ (rest : List Ar) (x : List Ar), (rest.foldl (stp f e w) (x, false)).2 = false := by
  intro rest
  induction rest with
  | nil => intro x; rfl
  | cons a rest ih =>
    intro x
    show (rest.foldl (stp f e w) (stp f e w (x, false) a)).2 = false
    exact ih x
theorem stp_l (f e : Int) (w : Bool) : ∀ (rest : List Ar) (lo : Int) (out : List Ar), vldA lo rest = true → vldA 0 out = true → (∀ b ∈ out, fin b ≤ f ∨ e ≤ b.f0 ∨ fin b ≤ lo) → out.length ≤ 6 →
    ((putL f e w out rest).length ≤ 6 → rest.foldl (stp f e w) (out, true) = (putL f e w out rest, true)) ∧ (6 < (putL f e w out rest).length → (rest.foldl (stp f e w) (out, true)).2 = false) := by
  intro rest
  induction rest with
  | nil => intro lo out _ _ _ h6; exact ⟨fun _ => rfl, fun h => absurd h (by show ¬ 6 < out.length; omega)⟩
  | cons a rest ih =>
    intro lo out hl ho hd h6
    obtain ⟨h1, h2, h3⟩ := vldA_cons.1 hl
    have hao := (areaOk_iff a).1 h1
    have fa : fin a = a.f0 + a.f1 := rfl
    have hval := putL_vld f e w [a] lo out (vldA_cons.2 ⟨h1, h2, rfl⟩) ho hd
    show ((putL f e w (put1 f e w out a) rest).length ≤ 6 → rest.foldl (stp f e w) (stp f e w (out, true) a) = (putL f e w (put1 f e w out a) rest, true)) ∧ (6 < (putL f e w (put1 f e w out a) rest).length → (rest.foldl (stp f e w) (stp f e w (out, true) a)).2 = false)
    have hval' : vldA 0 (put1 f e w out a) = true := hval
    have hd' : ∀ b ∈ put1 f e w out a, fin b ≤ f ∨ e ≤ b.f0 ∨ fin b ≤ fin a := by
      intro b hb
      unfold put1 at hb
      split at hb
      · rename_i hm
        have hpf := prt_fin f e w a
        unfold meets at hm
        rcases addL_in.1 hb with rfl | hb
        · rw [hpf]; omega
        · rcases hd b hb with h | h | h
          · exact .inl h
          · exact .inr (.inl h)
          · exact .inr (.inr (by omega))
      · rcases hd b hb with h | h | h
        · exact .inl h
        · exact .inr (.inl h)
        · exact .inr (.inr (by omega))
    by_cases hm : meets f e a
    · have e1 : put1 f e w out a = addL (prt f e w a) out := by unfold put1; rw [if_pos hm]
      have hout : areasOk out = true := (areasOk_iff out).2 ⟨ho, h6⟩
      have hp := prt_ok (w := w) h1 hm
      have e2 : stp f e w (out, true) a = areasAdd out (prt f e w a) := by unfold stp; rw [if_pos rfl, if_pos hm]
      rw [e2]
      unfold areasAdd
      rw [hout, hp, ← e1]
      by_cases hlen : (put1 f e w out a).length ≤ 6
      · have : areasOk (put1 f e w out a) = true := (areasOk_iff _).2 ⟨hval', hlen⟩
        rw [this]
        exact ih (fin a) _ h3 hval' hd' hlen
      · have : areasOk (put1 f e w out a) = false := by
          cases hh : areasOk (put1 f e w out a) with
          | false => rfl
          | true => exact absurd ((areasOk_iff _).1 hh).2 hlen
        rw [this]
        have := (putL_len f e w rest (put1 f e w out a)).1
        exact ⟨fun h => absurd h (by omega), fun _ => stp_bad f e w rest []⟩
    · have e1 : put1 f e w out a = out := by unfold put1; rw [if_neg hm]
      have e2 : stp f e w (out, true) a = (out, true) := by unfold stp; rw [if_pos rfl, if_neg hm]
      rw [e2, e1]
      rw [e1] at hd'
      exact ih (fin a) _ h3 ho hd' h6
theorem stp_len (f e : Int) (w : Bool) (o : List Ar × Bool) (a : Ar) (h : o.1.length ≤ 6) : (stp f e w o a).1.length ≤ 6 := by
  unfold stp
  split
  · split
    · exact areasAdd_len _ _
    · exact h
  · exact h
theorem implSet_l {l : List Ar} {f m : Int} {w : Bool} (hn : l.length ≤ 1048576) (hc : areaOk ⟨f, m, false, false⟩ = true) : ∀ (rest pre : List Ar) (o : List Ar × Bool), l = pre ++ rest → (∀ a ∈ rest, areaOk a = true) → o.1.length ≤ 6 →
    Ev (fun k => impl_AreasSet.l1 k w o.1 o.2 l (l.length : Int) (pre.length : Int) f m false false) (if (rest.foldl (stp f (f + m) w) o).2 = true then ((rest.foldl (stp f (f + m) w) o).1, true) else ([], false)) := by
  have hc' : 0 ≤ f ∧ f ≤ 15 ∧ 1 ≤ m ∧ m ≤ 16 - f := (areaOk_iff _).1 hc
  intro rest
  induction rest with
  | nil =>
    intro pre o hl _ _
    refine Ev.step (fun k => by simp only [impl_AreasSet.l1]; rfl) (Ev.neg (by rw [hl]; simp) ?_)
    obtain ⟨x, b⟩ := o
    cases b with
    | true => exact Ev.pos (by trivial) (Ev.pure (by simp))
    | false => exact Ev.neg (by simp) (Ev.pure (by simp))
  | cons a rest ih =>
    intro pre o hl hr h6
    have hlt : pre.length < l.length := by rw [hl]; simp
    have ha := hr a (by simp)
    have ha' := (areaOk_iff a).1 ha
    have fa : fin a = a.f0 + a.f1 := rfl
    have hx : rd_T24 l (pre.length : Int) = a := by rw [hl]; exact rd_pre pre a rest
    have hnx := ih (pre ++ [a]) (stp f (f + m) w o a) (by rw [hl]; simp) (fun b hb => hr b (by simp [hb])) (stp_len _ _ _ _ _ h6)
    have w1 : wrap64 (f + m) = f + m := wrap_id (by omega) (by omega)
    have e1 : mx a.f0 f = max a.f0 f := by unfold mx; split <;> omega
    have e2 : mn (fin a) (f + m) = min (fin a) (f + m) := by unfold mn; split <;> omega
    refine Ev.step (fun k => by simp only [impl_AreasSet.l1]; rfl) ?_
    rw [hx]
    refine Ev.pos (by omega) (Ev.pos (by omega) (Ev.pos (by omega) ?_))
    refine Ev.bind (a := fin a) (Ev.const (by unfold impl_Area_end.f; rw [fin_wrap ha])) (Ev.bind (a := f + m) (Ev.const (by unfold impl_Area_end.f; rw [w1])) ?_)
    rw [succ_wrap hlt (by omega), e1, e2]
    have e3 : pre.length + 1 = (pre ++ [a]).length := by simp
    rw [e3]
    show Ev _ (if (rest.foldl (stp f (f + m) w) (stp f (f + m) w o a)).2 = true then ((rest.foldl (stp f (f + m) w) (stp f (f + m) w o a)).1, true) else ([], false))
    obtain ⟨x, b⟩ := o
    cases b with
    | false => exact Ev.neg (by simp) hnx
    | true =>
      refine Ev.pos (by trivial) ?_
      by_cases hm : meets f (f + m) a
      · have hm' := hm
        unfold meets at hm'
        have es : stp f (f + m) w (x, true) a = areasAdd x (prt f (f + m) w a) := by unfold stp; rw [if_pos rfl, if_pos hm]
        rw [es] at hnx ⊢
        have hw : wrap64 (min (fin a) (f + m) - max a.f0 f) = min (fin a) (f + m) - max a.f0 f := wrap_id (by omega) (by omega)
        rw [hw]
        simp only at h6
        exact Ev.pos hm' (Ev.bind (implAdd x (prt f (f + m) w a) (by omega)) hnx)
      · have hm' := hm
        unfold meets at hm'
        have es : stp f (f + m) w (x, true) a = (x, true) := by unfold stp; rw [if_pos rfl, if_neg hm]
        rw [es] at hnx ⊢
        exact Ev.neg hm' hnx
theorem at_ge {l : List Ar} (ho : areasOk l = true) (p : Int) : areasAt l p < 0 ↔ attr p l = none := by
  rcases at_attr ho p with ⟨h1, h2⟩ | ⟨i, _, h1, h2⟩
  · rw [h1, h2]; simp
  · rw [h1, h2]; exact ⟨fun h => absurd h (by omega), fun h => by cases h⟩
theorem implPages_from {l : List Ar} {f m : Int} {w : Bool} (hn : l.length ≤ 1048576) (ho : areasOk l = true) (hc : areaOk ⟨f, m, false, false⟩ = true) (r : List Ar × Bool) (hr : Ev (fun k => impl_AreasSet.l1 k w (areasCut l f m).1 (areasCut l f m).2 l (l.length : Int) 0 f m false false) r) :
    ∀ (d : Nat) (p : Int), p + d = f + m → f ≤ p → ((∀ q, p ≤ q → q < f + m → attr q l ≠ none) → Ev (fun k => impl_AreasSet.l0 k l f m w p f m false false) r) ∧ ((¬ ∀ q, p ≤ q → q < f + m → attr q l ≠ none) → Ev (fun k => impl_AreasSet.l0 k l f m w p f m false false) ([], false)) := by
  have hc' : 0 ≤ f ∧ f ≤ 15 ∧ 1 ≤ m ∧ m ≤ 16 - f := (areaOk_iff _).1 hc
  have w1 : wrap64 (f + m) = f + m := wrap_id (by omega) (by omega)
  intro d
  induction d with
  | zero =>
    intro p hp hf
    refine ⟨fun _ => ?_, fun h => absurd (show ∀ q, p ≤ q → q < f + m → attr q l ≠ none from fun q h1 h2 => by omega) h⟩
    refine Ev.step (fun k => by simp only [impl_AreasSet.l0]; rfl) ?_
    refine Ev.bind (a := f + m) (Ev.const (by unfold impl_Area_end.f; rw [w1])) ?_
    have hp' : p = f + m := by simpa using hp
    refine Ev.neg (by omega) ?_
    exact Ev.bind (implCut l f m hn) hr
  | succ d ih =>
    intro p hp hf
    obtain ⟨i1, i2⟩ := ih (p + 1) (by omega) (by omega)
    have w2 : wrap64 (p + 1) = p + 1 := wrap_id (by omega) (by omega)
    have hat := at_ge ho p
    have step : ∀ r', (areasAt l p < 0 → r' = ([], false)) → (¬ areasAt l p < 0 → Ev (fun k => impl_AreasSet.l0 k l f m w (p + 1) f m false false) r') → Ev (fun k => impl_AreasSet.l0 k l f m w p f m false false) r' := by
      intro r' ha hb
      refine Ev.step (fun k => by simp only [impl_AreasSet.l0]; rfl) ?_
      refine Ev.bind (a := f + m) (Ev.const (by unfold impl_Area_end.f; rw [w1])) ?_
      refine Ev.pos (by omega) ?_
      refine Ev.bind (implAt l (by omega) p) ?_
      by_cases h : areasAt l p < 0
      · exact Ev.pos h (Ev.pure (ha h).symm)
      · refine Ev.neg h ?_
        rw [w2]
        exact hb h
    constructor
    · intro hq
      have h0 := hq p (Int.le_refl _) (by omega)
      exact step r (fun h => absurd (hat.1 h) h0) (fun _ => i1 (fun q h1 h2 => hq q (by omega) h2))
    · intro hq
      refine step ([], false) (fun _ => rfl) (fun h => i2 (fun h' => hq (fun q h1 h2 => ?_)))
      by_cases e : q = p
      · rw [e]; exact fun hh => h (hat.2 hh)
      · exact h' q (by omega) h2
theorem implSet (l : List Ar) (f m : Int) (w : Bool) (hn : l.length ≤ 1048576) : Ev (fun k => impl_AreasSet.f k l f m w) (areasSet l f m w) := by
  unfold impl_AreasSet.f
  have out : (areasCut l f m).2 = false → areasSet l f m w = ([], false) := fun h => by unfold areasSet; rw [h]; rfl
  refine Ev.bind (implOk l (by omega)) ?_
  have bad : Ev (fun k => impl_AreasSet.j0 k l f m w true f m false false) ([], false) := Ev.step (fun k => by simp only [impl_AreasSet.j0]; rfl) (Ev.pos (by trivial) (Ev.now _))
  cases hl : areasOk l with
  | false =>
    rw [out (by unfold areasCut; rw [hl]; rfl)]
    exact Ev.neg (by decide) bad
  | true =>
    refine Ev.pos (by trivial) (Ev.bind (Ev.const (AreaOk_eq _ _ _ _)) ?_)
    cases hc : areaOk ⟨f, m, false, false⟩ with
    | false =>
      rw [out (by unfold areasCut; rw [hl, hc]; rfl)]
      exact bad
    | true =>
      have hc' : 0 ≤ f ∧ f ≤ 15 ∧ 1 ≤ m ∧ m ≤ 16 - f := (areaOk_iff _).1 hc
      obtain ⟨hv, h6⟩ := (areasOk_iff l).1 hl
      refine Ev.step (fun k => by simp only [impl_AreasSet.j0]; rfl) (Ev.neg (by simp) ?_)
      have hcl := areasCut_len l f m
      have hr := implSet_l (w := w) hn hc l [] (areasCut l f m) rfl (fun a ha => (vldA_mem hv a ha).1) hcl
      obtain ⟨p1, p2⟩ := implPages_from (w := w) hn hl hc _ hr m.toNat f (by omega) (Int.le_refl _)
      have hcov := (cov_all (e := f + m) hv (f := f) (by omega)).2
      have hm : f + m - f = m := by omega
      rw [hm] at hcov
      by_cases hq : ∀ q, f ≤ q → q < f + m → attr q l ≠ none
      · refine Ev.cast (p1 hq) ?_
        cases hcut : (areasCut l f m).2 with
        | false =>
          rw [out hcut]
          have : areasCut l f m = ((areasCut l f m).1, false) := by rw [← hcut]
          rw [this, stp_bad]
          rfl
        | true =>
          obtain ⟨h1, h2, h3, h4⟩ := areasCut_ok hcut
          have heq : areasCut l f m = (cutL f (f + m) l, true) := by rw [← h3, ← hcut]
          obtain ⟨g0, g6⟩ := (areasOk_iff _).1 h4
          rw [h3] at g0 g6
          obtain ⟨s1, s2⟩ := stp_l f (f + m) w l 0 (cutL f (f + m) l) hv g0 (fun b hb => by
            rcases cutL_out (by omega) hb with h | h
            · exact .inl h
            · exact .inr (.inl h)) g6
          unfold areasSet
          rw [hcut, if_pos rfl, if_pos (hcov.2 hq), heq]
          have hsv : vldA 0 (setL l f (f + m) w) = true := setL_vld w (by omega) hv
          by_cases hlen : (setL l f (f + m) w).length ≤ 6
          · have hok : areasOk (setL l f (f + m) w) = true := (areasOk_iff _).2 ⟨hsv, hlen⟩
            rw [s1 hlen, hok]
            rfl
          · have hok : areasOk (setL l f (f + m) w) = false := by
              cases hh : areasOk (setL l f (f + m) w) with
              | false => rfl
              | true => exact absurd ((areasOk_iff _).1 hh).2 hlen
            rw [s2 (by unfold setL at hlen; omega), hok]
            rfl
      · refine Ev.cast (p2 hq) ?_
        unfold areasSet
        rw [if_neg (fun h => hq (hcov.1 h))]
        split <;> rfl
end Go.Proofs.Ytlahnekinlkfmaa.Q

/- What is told of a page, and how many pages there are, behind a setting. -/
namespace Go.Proofs.Ytlahnekinlkfmaa.Q
open Go.RowKit Go.Proofs.YtlahnekinlkfmaaW.PrintWords Go.Proofs.YtlahnekinlkfmaaW.PrintLast Go.Proofs.YtlahnekinlkfmaaW.PrintMore Go.Proofs.Ytlahnekinlkfmaa.P
set_option linter.unusedVariables false
set_option linter.unusedSimpArgs false

theorem has_iff {p : Int} {a : Ar} : has p a = true ↔ a.f0 ≤ p ∧ p < fin a := by unfold has; simp
theorem attr_cons (p : Int) (a : Ar) (l : List Ar) : attr p (a :: l) = if a.f0 ≤ p ∧ p < fin a then some (a.f2, a.f3) else attr p l := by
  simp only [attr]
  by_cases hc : a.f0 ≤ p ∧ p < fin a
  · rw [if_pos hc, if_pos (has_iff.2 hc)]
  · rw [if_neg hc, if_neg (fun h => hc (has_iff.1 h))]
theorem attr_addL (p : Int) {q : Ar} (hq : areaOk q = true) : ∀ {out : List Ar}, (∀ b ∈ out, areaOk b = true) → (∀ b ∈ out, fin b ≤ q.f0 ∨ fin q ≤ b.f0) → attr p (addL q out) = if q.f0 ≤ p ∧ p < fin q then some (q.f2, q.f3) else attr p out := by
  have hqo := (areaOk_iff q).1 hq
  have fq : fin q = q.f0 + q.f1 := rfl
  intro out
  induction out with
  | nil => intro _ _; simp only [addL]; rw [attr_cons]
  | cons b out ih =>
    intro ho hd
    have hb := hd b (by simp)
    have hbo := (areaOk_iff b).1 (ho b (by simp))
    have fb : fin b = b.f0 + b.f1 := rfl
    simp only [addL]
    by_cases hc : b.f0 ≥ q.f0
    · rw [if_pos hc, attr_cons]
    · rw [if_neg hc, attr_cons, attr_cons, ih (fun c hc => ho c (by simp [hc])) (fun c hc => hd c (by simp [hc]))]
      by_cases h1 : b.f0 ≤ p ∧ p < fin b
      · rw [if_pos h1, if_neg (by omega), if_pos h1]
      · rw [if_neg h1, if_neg h1]
theorem attr_putL (p f e : Int) (w : Bool) : ∀ (l : List Ar) (lo : Int) (out : List Ar), vldA lo l = true → vldA 0 out = true → (∀ b ∈ out, fin b ≤ f ∨ e ≤ b.f0 ∨ fin b ≤ lo) →
    attr p (putL f e w out l) = if f ≤ p ∧ p < e ∧ attr p l ≠ none then (attr p l).map (fun s => (w, s.2)) else attr p out := by
  intro l
  induction l with
  | nil => intro lo out _ _ _; rw [if_neg (fun h => h.2.2 rfl)]; rfl
  | cons a l ih =>
    intro lo out hl ho hd
    obtain ⟨h1, h2, h3⟩ := vldA_cons.1 hl
    have hao := (areaOk_iff a).1 h1
    have fa : fin a = a.f0 + a.f1 := rfl
    have hval : vldA 0 (put1 f e w out a) = true := putL_vld f e w [a] lo out (vldA_cons.2 ⟨h1, h2, rfl⟩) ho hd
    have hd' : ∀ b ∈ put1 f e w out a, fin b ≤ f ∨ e ≤ b.f0 ∨ fin b ≤ fin a := by
      intro b hb
      unfold put1 at hb
      split at hb
      · rename_i hm
        have hpf := prt_fin f e w a
        unfold meets at hm
        rcases addL_in.1 hb with rfl | hb
        · rw [hpf]; omega
        · rcases hd b hb with h | h | h
          · exact .inl h
          · exact .inr (.inl h)
          · exact .inr (.inr (by omega))
      · rcases hd b hb with h | h | h
        · exact .inl h
        · exact .inr (.inl h)
        · exact .inr (.inr (by omega))
    show attr p (putL f e w (put1 f e w out a) l) = _
    rw [ih (fin a) _ h3 hval hd', attr_cons]
    have hput : attr p (put1 f e w out a) = if max a.f0 f ≤ p ∧ p < min (fin a) e then some (w, a.f3) else attr p out := by
      unfold put1
      by_cases hm : meets f e a
      · have hp0 : (prt f e w a).f0 = max a.f0 f := rfl
        have hpf := prt_fin f e w a
        have hm' := hm
        unfold meets at hm'
        rw [if_pos hm, attr_addL p (prt_ok h1 hm) (fun b hb => (vldA_mem ho b hb).1) (fun b hb => by
          rw [hp0, hpf]
          rcases hd b hb with h | h | h <;> omega), hp0, hpf]
        rfl
      · rw [if_neg hm]
        unfold meets at hm
        rw [if_neg (by omega)]
    rw [hput]
    by_cases ha : a.f0 ≤ p ∧ p < fin a
    · rw [if_pos ha, attr_none h3 ha.2, if_neg (fun h => h.2.2 rfl)]
      by_cases hr : f ≤ p ∧ p < e
      · rw [if_pos (by omega), if_pos ⟨hr.1, hr.2, by simp⟩]
        rfl
      · rw [if_neg (by omega), if_neg (by intro h; exact hr ⟨h.1, h.2.1⟩)]
    · rw [if_neg ha, if_neg (show ¬ (max a.f0 f ≤ p ∧ p < min (fin a) e) by omega)]
theorem attr_setL {p f e : Int} {w : Bool} {l : List Ar} (hf : f < e) (hl : vldA 0 l = true) : attr p (setL l f e w) = if f ≤ p ∧ p < e then (attr p l).map (fun s => (w, s.2)) else attr p l := by
  unfold setL
  rw [attr_putL p f e w l 0 _ hl (vldA_cut f e (by omega) hl) (fun b hb => by
    rcases cutL_out hf hb with h | h
    · exact .inl h
    · exact .inr (.inl h)), attr_cut p f e hf]
  by_cases hr : f ≤ p ∧ p < e
  · rw [if_pos hr, if_pos hr]
    cases ha : attr p l with
    | none => rw [if_neg (fun h => h.2.2 rfl)]; rfl
    | some s => rw [if_pos ⟨hr.1, hr.2, by simp⟩]
  · rw [if_neg hr, if_neg hr, if_neg (fun h => hr ⟨h.1, h.2.1⟩)]
theorem sum_addL (a : Ar) : ∀ l, sumA (addL a l) = sumA l + a.f1 := by
  intro l
  induction l with
  | nil => simp [addL, sumA]
  | cons b l ih =>
    simp only [addL]
    split
    · simp only [sumA]; omega
    · simp only [sumA, ih]; omega
theorem sum_putL (f e : Int) (w : Bool) : ∀ (l out : List Ar), sumA (putL f e w out l) = sumA out + cov f e l := by
  intro l
  induction l with
  | nil => intro out; simp only [cov, Int.add_zero]; rfl
  | cons a l ih =>
    intro out
    show sumA (putL f e w (put1 f e w out a) l) = _
    rw [ih]
    simp only [cov]
    unfold put1
    by_cases hm : meets f e a
    · rw [if_pos hm, if_pos hm, sum_addL]
      show sumA out + (min (fin a) e - max a.f0 f) + cov f e l = _
      omega
    · rw [if_neg hm, if_neg hm]; omega
theorem sum_append : ∀ l m : List Ar, sumA (l ++ m) = sumA l + sumA m := by
  intro l m
  induction l with
  | nil => simp [sumA]
  | cons a l ih => simp only [List.cons_append, sumA, ih]; omega
theorem sum_seg (x : Ar) (a b : Int) : sumA (seg x a b) = if a < b then b - a else 0 := by
  unfold seg
  split
  · simp only [sumA]; omega
  · rfl
theorem sum_cut {f e : Int} (hf : f < e) : ∀ {l : List Ar}, (∀ a ∈ l, areaOk a = true) → sumA (cutL f e l) + cov f e l = sumA l := by
  intro l
  induction l with
  | nil => intro _; rfl
  | cons a l ih =>
    intro h
    have hao := (areaOk_iff a).1 (h a (by simp))
    have fa : fin a = a.f0 + a.f1 := rfl
    have hi := ih (fun b hb => h b (by simp [hb]))
    rw [cutL_cons, sum_append]
    simp only [cov, sumA]
    unfold cut1
    rw [sum_append, sum_seg, sum_seg]
    by_cases hm : meets f e a
    · rw [if_pos hm]
      unfold meets at hm
      split <;> split <;> omega
    · rw [if_neg hm]
      unfold meets at hm
      split <;> split <;> omega
theorem sum_setL {f e : Int} {w : Bool} {l : List Ar} (hf : f < e) (hl : vldA 0 l = true) : sumA (setL l f e w) = sumA l := by
  unfold setL
  rw [sum_putL]
  exact sum_cut hf (fun a ha => (vldA_mem hl a ha).1)
theorem areasSet_ok {l : List Ar} {f m : Int} {w : Bool} (h : (areasSet l f m w).2 = true) : areasOk l = true ∧ areaOk ⟨f, m, false, false⟩ = true ∧ (areasSet l f m w).1 = setL l f (f + m) w ∧ areasOk (setL l f (f + m) w) = true ∧ cov f (f + m) l = m := by
  unfold areasSet at h ⊢
  by_cases h1 : (areasCut l f m).2 = true
  · rw [if_pos h1] at h ⊢
    by_cases h2 : cov f (f + m) l = m
    · rw [if_pos h2] at h ⊢
      by_cases h3 : areasOk (setL l f (f + m) w) = true
      · rw [if_pos h3]
        obtain ⟨g1, g2, _, _⟩ := areasCut_ok h1
        exact ⟨g1, g2, rfl, h3, h2⟩
      · rw [if_neg h3] at h; cases h
    · rw [if_neg h2] at h; cases h
  · rw [if_neg h1] at h; cases h
theorem drawSet_ev (l : List Int) (hw : ∀ x ∈ l, (Lit.int .u8 x).wf = true) (hl : l.length ≤ 1048576) : ∃ (a : List Ar) (f m : Int) (w : Bool), Ev (fun k => spec_DrawAreasSet.f k l) (a, f, m, w) ∧ a.length ≤ 7 := by
  obtain ⟨s, es, hs⟩ := open_ev l hw hl
  obtain ⟨a, p, ea, h7, hp, hp'⟩ := areas_ev s hs 0 (by omega) (by omega)
  obtain ⟨v, ev, _, _, _⟩ := pick_ev s hs p 16 (by omega) (by omega) (by omega)
  obtain ⟨u, eu, _, _, _⟩ := pick_ev s hs (p + 1) 5 (by omega) (by omega) (by omega)
  obtain ⟨t, et, _, _, _⟩ := pick_ev s hs (p + 1 + 1) 2 (by omega) (by omega) (by omega)
  refine ⟨a, v, wrap64 (1 + u), (t == 0), ?_, h7⟩
  unfold spec_DrawAreasSet.f
  exact Ev.bind (Ev.const es) (Ev.bind ea (Ev.bind ev (Ev.bind eu (Ev.bind et (Ev.now _)))))
end Go.Proofs.Ytlahnekinlkfmaa.Q
