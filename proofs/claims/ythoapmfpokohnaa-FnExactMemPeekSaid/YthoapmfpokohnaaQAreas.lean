/- Areas, without Go and memory: what the printed functions of areas answer. -/
import Derived.Test.YthoapmfpokohnaaQBase
import Derived.Test.YthoapmfpokohnaaPf0
import Derived.Test.YthoapmfpokohnaaPfM7
import Derived.Test.YthoapmfpokohnaaPfM3
namespace Go.Proofs.Ythoapmfpokohnaa.Q
open Go.RowKit Go.Proofs.YthoapmfpokohnaaW.PrintWords Go.Proofs.YthoapmfpokohnaaW.PrintLast Go.Proofs.YthoapmfpokohnaaW.PrintMore Go.Proofs.Ythoapmfpokohnaa.P
set_option linter.unusedVariables false
set_option linter.unusedSimpArgs false

abbrev Ar := S108
def areaOk (a : Ar) : Bool := decide (0 ≤ a.f0) && decide (a.f0 ≤ 15) && decide (1 ≤ a.f1) && decide (a.f1 ≤ 16 - a.f0)
def atA (l : List Ar) (i : Nat) : Ar := l.getD i z108
theorem rd_at (l : List Ar) (i : Nat) : rd_T108 l (i : Int) = atA l i := by simp [rd_T108, atA]
def okAt (l : List Ar) (i : Nat) : Bool := areaOk (atA l i) && (decide (i = 0) || decide (wrap64 ((atA l (i - 1)).f0 + (atA l (i - 1)).f1) ≤ (atA l i).f0))
def okFrom (l : List Ar) : Nat → Nat → Bool
  | 0, _ => true
  | d + 1, i => okAt l i && okFrom l d (i + 1)
def areasOk (l : List Ar) : Bool := okFrom l l.length 0 && decide (l.length ≤ 6)

theorem in_eq (a b c : Int) : impl_in.f a b c = some (decide (b ≤ a) && decide (a ≤ c)) := by
  unfold impl_in.f
  by_cases h : a ≥ b
  · rw [if_pos h]; have h' : b ≤ a := h; simp [h']
  · rw [if_neg h]; have h' : ¬ b ≤ a := h; simp [h']
theorem l6In_eq (a b c : Int) : spec_l6In.f a b c = some (decide (b ≤ a) && decide (a ≤ c)) := by
  unfold spec_l6In.f
  by_cases h : a ≥ b
  · rw [if_pos h]; have h' : b ≤ a := h; simp [h']
  · rw [if_neg h]; have h' : ¬ b ≤ a := h; simp [h']
theorem AreaOk_eq (a b : Int) (c d : Bool) : impl_AreaOk.f a b c d = some (areaOk ⟨a, b, c, d⟩) := by
  unfold impl_AreaOk.f areaOk
  rw [in_eq]
  simp only [Option.bind_some]
  by_cases h : 0 ≤ a ∧ a ≤ 15
  · have hw : wrap64 (16 - a) = 16 - a := wrap_id (by omega) (by omega)
    rw [if_pos (by simp [h]), in_eq, hw]
    simp [h]
  · rw [if_neg (by simpa using h)]
    have : (decide (0 ≤ a) && decide (a ≤ 15)) = false := by simpa using h
    simp [this]
theorem specAreaOk_eq (a b : Int) (c d : Bool) : spec_AreaOk.f a b c d = some (areaOk ⟨a, b, c, d⟩) := by
  unfold spec_AreaOk.f areaOk
  rw [l6In_eq]
  simp only [Option.bind_some]
  by_cases h : 0 ≤ a ∧ a ≤ 15
  · have hw : wrap64 (16 - a) = 16 - a := wrap_id (by omega) (by omega)
    rw [if_pos (by simp [h]), l6In_eq, hw]
    simp [h]
  · rw [if_neg (by simpa using h)]
    have : (decide (0 ≤ a) && decide (a ≤ 15)) = false := by simpa using h
    simp [this]

theorem succ_wrap {i n : Nat} (h : i < n) (hn : n ≤ 9223372036854775807) : wrap64 ((i : Int) + 1) = ((i + 1 : Nat) : Int) := by
  rw [wrap_id (by omega) (by omega)]; omega
theorem pred_wrap {i n : Nat} (h0 : 0 < i) (h : i < n) (hn : n ≤ 9223372036854775807) : wrap64 ((i : Int) - 1) = ((i - 1 : Nat) : Int) := by
  rw [wrap_id (by omega) (by omega)]; omega

theorem implOk_l (l : List Ar) (hn : l.length ≤ 9223372036854775807) : ∀ d i : Nat, i + d = l.length → Ev (fun k => impl_AreasOk.l0 k l l (l.length : Int) (i : Int)) (okFrom l d i && decide (l.length ≤ 6)) := by
  intro d
  induction d with
  | zero =>
    intro i hi
    refine Ev.step (fun k => by simp only [impl_AreasOk.l0]; rfl) ?_
    refine Ev.neg (by omega) (Ev.pure ?_)
    simp [okFrom, Int.ofNat_le]
    omega
  | succ d ih =>
    intro i hi
    have hlt : i < l.length := by omega
    refine Ev.step (fun k => by simp only [impl_AreasOk.l0]; rfl) ?_
    refine Ev.pos (by omega) (Ev.pos (by omega) (Ev.pos (by omega) ?_))
    rw [rd_at]
    refine Ev.bind (Ev.const (AreaOk_eq _ _ _ _)) ?_
    have hok : okFrom l (d + 1) i = (okAt l i && okFrom l d (i + 1)) := rfl
    rw [hok]
    unfold okAt
    cases ha : areaOk (atA l i) with
    | false =>
      refine Ev.neg (by decide) (Ev.pure ?_)
      simp
    | true =>
      refine Ev.pos rfl ?_
      rw [succ_wrap hlt hn]
      rcases Nat.eq_zero_or_pos i with h0 | h0
      · refine Ev.neg (by omega) ?_
        refine (ih (i + 1) (by omega)).cast ?_
        simp [h0]
      · rw [pred_wrap h0 hlt hn]
        refine Ev.pos (by omega) (Ev.pos (by omega) (Ev.pos (by omega) ?_))
        rw [rd_at]
        refine Ev.bind (Ev.const (by unfold impl_Area_end.f; rfl)) ?_
        by_cases hc : wrap64 ((atA l (i - 1)).f0 + (atA l (i - 1)).f1) ≤ (atA l i).f0
        · refine Ev.neg (by omega) ((ih (i + 1) (by omega)).cast ?_)
          simp [hc]
        · refine Ev.pos (by omega) (Ev.pure ?_)
          have : ¬ i = 0 := by omega
          simp [hc, this]
theorem implOk (l : List Ar) (hn : l.length ≤ 9223372036854775807) : Ev (fun k => impl_AreasOk.f k l) (areasOk l) :=
  (implOk_l l hn l.length 0 (by omega))

theorem specOk_l (l : List Ar) (hn : l.length ≤ 9223372036854775807) : ∀ d i : Nat, i + d = l.length → Ev (fun k => spec_AreasOk.l0 k l (i : Int)) (okFrom l d i && decide (l.length ≤ 6)) := by
  intro d
  induction d with
  | zero =>
    intro i hi
    refine Ev.step (fun k => by simp only [spec_AreasOk.l0]; rfl) ?_
    refine Ev.neg (by omega) (Ev.pure ?_)
    simp [okFrom, Int.ofNat_le]
    omega
  | succ d ih =>
    intro i hi
    have hlt : i < l.length := by omega
    refine Ev.step (fun k => by simp only [spec_AreasOk.l0]; rfl) ?_
    refine Ev.pos (by omega) (Ev.pos (by omega) ?_)
    rw [rd_at]
    refine Ev.bind (Ev.const (specAreaOk_eq _ _ _ _)) ?_
    have hok : okFrom l (d + 1) i = (okAt l i && okFrom l d (i + 1)) := rfl
    rw [hok]
    unfold okAt
    cases ha : areaOk (atA l i) with
    | false =>
      refine Ev.neg (by decide) (Ev.pure ?_)
      simp
    | true =>
      refine Ev.pos rfl ?_
      rw [succ_wrap hlt hn]
      rcases Nat.eq_zero_or_pos i with h0 | h0
      · refine Ev.neg (by omega) ?_
        refine (ih (i + 1) (by omega)).cast ?_
        simp [h0]
      · rw [pred_wrap h0 hlt hn]
        refine Ev.pos (by omega) (Ev.pos (by omega) (Ev.pos (by omega) ?_))
        rw [rd_at]
        by_cases hc : wrap64 ((atA l (i - 1)).f0 + (atA l (i - 1)).f1) ≤ (atA l i).f0
        · refine Ev.neg (by omega) ((ih (i + 1) (by omega)).cast ?_)
          simp [hc]
        · refine Ev.pos (by omega) (Ev.pure ?_)
          have : ¬ i = 0 := by omega
          simp [hc, this]
theorem specOk (l : List Ar) (hn : l.length ≤ 9223372036854775807) : Ev (fun k => spec_AreasOk.f k l) (areasOk l) :=
  (specOk_l l hn l.length 0 (by omega))
end Go.Proofs.Ythoapmfpokohnaa.Q
