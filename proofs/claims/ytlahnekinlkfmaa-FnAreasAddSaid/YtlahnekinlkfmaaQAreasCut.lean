/- Areas, without Go and memory: areas without some pages. -/
import Derived.Test.YtlahnekinlkfmaaQAreas2
import Derived.Test.YtlahnekinlkfmaaPfimplAreaend
import Derived.Test.YtlahnekinlkfmaaPfimplAreasCut
import Derived.Test.YtlahnekinlkfmaaPflawsqdAreas
import Derived.Test.YtlahnekinlkfmaaPfspecAreasCut
import Derived.Test.YtlahnekinlkfmaaPfspecl2Cut
import Derived.Test.YtlahnekinlkfmaaPfspecl2Part
namespace Go.Proofs.Ytlahnekinlkfmaa.Q
open Go.RowKit Go.Proofs.YtlahnekinlkfmaaW.PrintWords Go.Proofs.YtlahnekinlkfmaaW.PrintLast Go.Proofs.YtlahnekinlkfmaaW.PrintMore Go.Proofs.Ytlahnekinlkfmaa.P
set_option linter.unusedVariables false
set_option linter.unusedSimpArgs false

/-- The part of an area from a to b. -/
def seg (x : Ar) (a b : Int) : List Ar := if a < b then [⟨a, b - a, x.f2, x.f3⟩] else []
def cut1 (f e : Int) (x : Ar) : List Ar := seg x x.f0 (min (fin x) f) ++ seg x (max x.f0 e) (fin x)
def cutL (f e : Int) (l : List Ar) : List Ar := l.flatMap (cut1 f e)
theorem seg_pos {x : Ar} {a b : Int} (h : a < b) : seg x a b = [⟨a, b - a, x.f2, x.f3⟩] := if_pos h
theorem seg_neg {x : Ar} {a b : Int} (h : ¬ a < b) : seg x a b = [] := if_neg h
theorem seg_all {x : Ar} : [(⟨x.f0, fin x - x.f0, x.f2, x.f3⟩ : Ar)] = [x] := by
  have : fin x - x.f0 = x.f1 := by unfold fin; omega
  rw [this]
theorem seg_len (x : Ar) (a b : Int) : (seg x a b).length ≤ 1 := by unfold seg; split <;> simp
theorem cut1_len (f e : Int) (x : Ar) : (cut1 f e x).length ≤ 2 := by
  have h1 := seg_len x x.f0 (min (fin x) f)
  have h2 := seg_len x (max x.f0 e) (fin x)
  unfold cut1
  rw [List.length_append]
  omega
theorem cutL_len (f e : Int) : ∀ l : List Ar, (cutL f e l).length ≤ 2 * l.length
  | [] => by simp [cutL]
  | x :: l => by
    have h1 := cut1_len f e x
    have h2 := cutL_len f e l
    unfold cutL at *
    rw [List.flatMap_cons, List.length_append, List.length_cons]
    omega
theorem cutL_cons (f e : Int) (x : Ar) (l : List Ar) : cutL f e (x :: l) = cut1 f e x ++ cutL f e l := rfl
def resC (o : List Ar) : List Ar × Bool := if (o.length : Int) > 6 then ([], false) else (o, true)

theorem implCut_l (c : Ar) (hc : areaOk c = true) (hc2 : c.f2 = false) (hc3 : c.f3 = false) : ∀ (rest pre out : List Ar), (pre ++ rest).length ≤ 1048576 → out.length + 2 * rest.length ≤ 1048576 → (∀ a ∈ rest, areaOk a = true) →
    Ev (fun k => impl_AreasCut.l0 k out (pre ++ rest) ((pre ++ rest).length : Int) (pre.length : Int) c.f0 c.f1 c.f2 c.f3) (resC (out ++ cutL c.f0 (fin c) rest)) := by
  intro rest
  induction rest with
  | nil =>
    intro pre out hn ho hok
    refine Ev.step (fun k => by simp only [impl_AreasCut.l0]; rfl) ?_
    refine Ev.neg (by simp) ?_
    unfold resC
    simp only [cutL, List.flatMap_nil, List.append_nil]
    by_cases h : (out.length : Int) > 6
    · exact Ev.cast (Ev.pos h (Ev.pure rfl)) (if_pos h).symm
    · exact Ev.cast (Ev.neg h (Ev.pure rfl)) (if_neg h).symm
  | cons x rest ih =>
    intro pre out hn ho hok
    have hlt : pre.length < (pre ++ x :: rest).length := by simp
    simp only [List.length_cons] at ho
    have hx := hok x (by simp)
    have hx' := (areaOk_iff x).1 hx
    have hc' := (areaOk_iff c).1 hc
    have fx : fin x = x.f0 + x.f1 := rfl
    have fc : fin c = c.f0 + c.f1 := rfl
    have ec : ∀ a b, impl_Area_end.f c.f0 c.f1 a b = some (fin c) := fun a b => by unfold impl_Area_end.f; rw [fin_wrap hc]
    have ex : ∀ a b, impl_Area_end.f x.f0 x.f1 a b = some (fin x) := fun a b => by unfold impl_Area_end.f; rw [fin_wrap hx]
    have step : ∀ o : List Ar, o.length ≤ out.length + 2 → Ev (fun k => impl_AreasCut.l0 k o (pre ++ x :: rest) ((pre ++ x :: rest).length : Int) ((pre.length + 1 : Nat) : Int) c.f0 c.f1 c.f2 c.f3) (resC (o ++ cutL c.f0 (fin c) rest)) := by
      intro o hlo
      have := ih (pre ++ [x]) o (by simpa using hn) (by omega) (fun a ha => hok a (by simp [ha]))
      have e : (pre ++ [x]).length = pre.length + 1 := by simp
      rw [e, List.append_assoc, List.singleton_append] at this
      exact this
    rw [cutL_cons, ← List.append_assoc]
    refine Ev.step (fun k => by simp only [impl_AreasCut.l0]; rfl) ?_
    refine Ev.pos (by omega) (Ev.pos (by omega) (Ev.pos (by omega) ?_))
    rw [rd_pre]
    have keep : cut1 c.f0 (fin c) x = [x] → Ev (fun k => impl_AreasCut.j2 k out (pre ++ x :: rest) ((pre ++ x :: rest).length : Int) (pre.length : Int) true c.f0 c.f1 c.f2 c.f3 x.f0 x.f1 x.f2 x.f3) (resC (out ++ cut1 c.f0 (fin c) x ++ cutL c.f0 (fin c) rest)) := by
      intro hk
      rw [hk]
      refine Ev.step (fun k => by simp only [impl_AreasCut.j2]; rfl) ?_
      refine Ev.pos (by trivial) (Ev.pos (by omega) ?_)
      rw [succ_wrap hlt (by omega)]
      exact step (out ++ [x]) (by simp)
    refine Ev.bind (Ev.const (ec _ _)) ?_
    by_cases h1 : fin c ≤ x.f0
    · refine Ev.pos h1 (keep ?_)
      unfold cut1
      rw [seg_neg (by omega), show max x.f0 (fin c) = x.f0 by omega, seg_pos (by omega), List.nil_append, seg_all]
    refine Ev.neg h1 (Ev.bind (Ev.const (ex _ _)) ?_)
    by_cases h2 : c.f0 ≥ fin x
    · rw [show decide (c.f0 ≥ fin x) = true from decide_eq_true h2]
      refine keep ?_
      unfold cut1
      rw [seg_neg (a := max x.f0 (fin c)) (by omega), show min (fin x) c.f0 = fin x by omega, seg_pos (by omega), List.append_nil, seg_all]
    rw [show decide (c.f0 ≥ fin x) = false from decide_eq_false h2]
    refine Ev.step (fun k => by simp only [impl_AreasCut.j2]; rfl) ?_
    refine Ev.neg (by decide) ?_
    have e1 : min (fin x) c.f0 = c.f0 := by omega
    have e2 : max x.f0 (fin c) = fin c := by omega
    have third : ∀ o : List Ar, o.length ≤ out.length + 1 → Ev (fun k => impl_AreasCut.j3 k o (pre ++ x :: rest) ((pre ++ x :: rest).length : Int) (pre.length : Int) c.f0 c.f1 c.f2 c.f3 x.f0 x.f1 x.f2 x.f3) (resC (o ++ seg x (fin c) (fin x) ++ cutL c.f0 (fin c) rest)) := by
      intro o hlo
      refine Ev.step (fun k => by simp only [impl_AreasCut.j3]; rfl) ?_
      refine Ev.bind (Ev.const (ec _ _)) (Ev.bind (Ev.const (ex _ _)) ?_)
      rw [succ_wrap hlt (by omega)]
      by_cases h3 : fin c < fin x
      · refine Ev.pos h3 (Ev.bind (Ev.const (ec _ _)) (Ev.bind (Ev.const (ex _ _)) (Ev.bind (Ev.const (ec _ _)) (Ev.pos (by omega) ?_))))
        rw [seg_pos h3, wrap_id (n := fin x - fin c) (by omega) (by omega)]
        exact step _ (by simp; omega)
      · refine Ev.neg h3 ?_
        rw [seg_neg h3, List.append_nil]
        exact step o (by omega)
    unfold cut1
    rw [e1, e2, ← List.append_assoc]
    by_cases h4 : x.f0 < c.f0
    · refine Ev.pos h4 (Ev.pos (by omega) ?_)
      rw [seg_pos h4, wrap_id (n := c.f0 - x.f0) (by omega) (by omega)]
      exact third _ (by simp)
    · refine Ev.neg h4 ?_
      rw [seg_neg (x := x) h4, List.append_nil]
      exact third out (by omega)

theorem vldA_seg {x : Ar} (hx : areaOk x = true) {a b : Int} (ha : x.f0 ≤ a) (hb : b ≤ fin x) {lo : Int} (hlo : lo ≤ a) {l : List Ar} (h1 : a < b → vldA b l = true) (h2 : ¬ a < b → vldA lo l = true) : vldA lo (seg x a b ++ l) = true := by
  have hx' := (areaOk_iff x).1 hx
  by_cases h : a < b
  · rw [seg_pos h]
    refine vldA_cons.2 ⟨(areaOk_iff _).2 ⟨?_, ?_, ?_, ?_⟩, hlo, ?_⟩
    · show 0 ≤ a; omega
    · show a ≤ 15; unfold fin at hb; omega
    · show 1 ≤ b - a; omega
    · show b - a ≤ 16 - a; unfold fin at hb; omega
    · have e : fin (⟨a, b - a, x.f2, x.f3⟩ : Ar) = b := by show a + (b - a) = b; omega
      rw [e]
      exact h1 h
  · rw [seg_neg h]
    exact h2 h
theorem vldA_cut (f e : Int) : ∀ {l : List Ar} {lo : Int}, f ≤ e → vldA lo l = true → vldA lo (cutL f e l) = true
  | [], _, _, _ => rfl
  | x :: l, lo, hfe, h => by
    have h' := vldA_cons.1 h
    have hx' := (areaOk_iff x).1 h'.1
    have fx : fin x = x.f0 + x.f1 := rfl
    have ih := vldA_cut f e hfe h'.2.2
    rw [cutL_cons]
    unfold cut1
    rw [List.append_assoc]
    refine vldA_seg h'.1 (Int.le_refl _) (by omega) h'.2.1 (fun h1 => ?_) (fun h1 => ?_)
    · exact vldA_seg h'.1 (by omega) (Int.le_refl _) (by omega) (fun _ => ih) (fun _ => vldA_mono (by omega) ih)
    · exact vldA_seg h'.1 (by omega) (Int.le_refl _) (by omega) (fun _ => ih) (fun _ => vldA_mono (by omega) ih)
def areasCut (l : List Ar) (f m : Int) : List Ar × Bool := if areasOk l && areaOk ⟨f, m, false, false⟩ then resC (cutL f (f + m) l) else ([], false)
theorem implCut (l : List Ar) (f m : Int) (hn : l.length ≤ 1048576) : Ev (fun k => impl_AreasCut.f k l f m) (areasCut l f m) := by
  unfold impl_AreasCut.f areasCut
  refine Ev.bind (implOk l (by omega)) ?_
  cases h1 : areasOk l with
  | false =>
    refine Ev.neg (by decide) ?_
    refine Ev.step (fun k => by simp only [impl_AreasCut.j0]; rfl) ?_
    exact Ev.pos (by trivial) (Ev.pure rfl)
  | true =>
    refine Ev.pos rfl (Ev.bind (Ev.const (AreaOk_eq _ _ _ _)) ?_)
    refine Ev.step (fun k => by simp only [impl_AreasCut.j0]; rfl) ?_
    cases h2 : areaOk (⟨f, m, false, false⟩ : Ar) with
    | false => exact Ev.pos rfl (Ev.pure rfl)
    | true =>
      refine Ev.neg (by decide) ?_
      have hk := (areasOk_iff l).1 h1
      exact implCut_l ⟨f, m, false, false⟩ h2 rfl rfl l [] [] hn (by simp; omega) (fun a ha => (vldA_mem hk.1 a ha).1)

/-- The reference's parts. -/
theorem part_lo {x c : Ar} (hx : areaOk x = true) (hc : areaOk c = true) : ∃ a b w s ok, spec_l2Part.f x.f0 x.f1 x.f2 x.f3 0 (wrap64 (c.f0 - 1)) = some (a, b, w, s, ok) ∧ seg x x.f0 (min (fin x) c.f0) = if ok = true then [⟨a, b, w, s⟩] else [] := by
  have hx' := (areaOk_iff x).1 hx
  have hc' := (areaOk_iff c).1 hc
  have fx : fin x = x.f0 + x.f1 := rfl
  have w1 : wrap64 (c.f0 - 1) = c.f0 - 1 := wrap_id (by omega) (by omega)
  have w2 : wrap64 (fin x - 1) = fin x - 1 := wrap_id (by omega) (by omega)
  have e1 : mx x.f0 0 = x.f0 := by unfold mx; split <;> omega
  have e2 : mn (fin x - 1) (c.f0 - 1) = min (fin x) c.f0 - 1 := by unfold mn; split <;> omega
  unfold spec_l2Part.f
  rw [fin_wrap hx, w1, w2, e1, e2]
  by_cases h : x.f0 < min (fin x) c.f0
  · rw [if_neg (by omega)]
    refine ⟨_, _, _, _, _, rfl, ?_⟩
    rw [if_pos rfl, seg_pos h]
    have w3 : wrap64 (min (fin x) c.f0 - 1 - x.f0) = min (fin x) c.f0 - 1 - x.f0 := wrap_id (by omega) (by omega)
    have w4 : wrap64 (min (fin x) c.f0 - 1 - x.f0 + 1) = min (fin x) c.f0 - x.f0 := by rw [wrap_id (by omega) (by omega)]; omega
    rw [w3, w4]
  · rw [if_pos (by omega)]
    refine ⟨_, _, _, _, _, rfl, ?_⟩
    rw [seg_neg h]
    rfl
theorem part_hi {x c : Ar} (hx : areaOk x = true) (hc : areaOk c = true) : ∃ a b w s ok, spec_l2Part.f x.f0 x.f1 x.f2 x.f3 (wrap64 (fin c - 1 + 1)) 15 = some (a, b, w, s, ok) ∧ seg x (max x.f0 (fin c)) (fin x) = if ok = true then [⟨a, b, w, s⟩] else [] := by
  have hx' := (areaOk_iff x).1 hx
  have hc' := (areaOk_iff c).1 hc
  have fx : fin x = x.f0 + x.f1 := rfl
  have fc : fin c = c.f0 + c.f1 := rfl
  have w1 : wrap64 (fin c - 1 + 1) = fin c := by rw [wrap_id (by omega) (by omega)]; omega
  have w2 : wrap64 (fin x - 1) = fin x - 1 := wrap_id (by omega) (by omega)
  have e1 : mx x.f0 (fin c) = max x.f0 (fin c) := by unfold mx; split <;> omega
  have e2 : mn (fin x - 1) 15 = fin x - 1 := by unfold mn; split <;> omega
  unfold spec_l2Part.f
  rw [fin_wrap hx, w1, w2, e1, e2]
  by_cases h : max x.f0 (fin c) < fin x
  · rw [if_neg (by omega)]
    refine ⟨_, _, _, _, _, rfl, ?_⟩
    rw [if_pos rfl, seg_pos h]
    have w3 : wrap64 (fin x - 1 - max x.f0 (fin c)) = fin x - 1 - max x.f0 (fin c) := wrap_id (by omega) (by omega)
    have w4 : wrap64 (fin x - 1 - max x.f0 (fin c) + 1) = fin x - max x.f0 (fin c) := by rw [wrap_id (by omega) (by omega)]; omega
    rw [w3, w4]
  · rw [if_pos (by omega)]
    refine ⟨_, _, _, _, _, rfl, ?_⟩
    rw [seg_neg h]
    rfl
theorem specCut_l (c : Ar) (hc : areaOk c = true) : ∀ (rest pre out : List Ar), (pre ++ rest).length ≤ 1048576 → out.length + 2 * rest.length ≤ 2097152 → (∀ a ∈ rest, areaOk a = true) →
    Ev (fun k => spec_l2Cut.l0 k (pre ++ rest) c.f0 (fin c - 1) out (pre.length : Int)) (out ++ cutL c.f0 (fin c) rest) := by
  intro rest
  induction rest with
  | nil =>
    intro pre out hn ho hok
    refine Ev.step (fun k => by simp only [spec_l2Cut.l0]; rfl) ?_
    exact Ev.neg (by simp) (Ev.pure (by simp [cutL]))
  | cons x rest ih =>
    intro pre out hn ho hok
    have hlt : pre.length < (pre ++ x :: rest).length := by simp
    simp only [List.length_cons] at ho
    have hx := hok x (by simp)
    have step : ∀ o : List Ar, o.length ≤ out.length + 2 → Ev (fun k => spec_l2Cut.l0 k (pre ++ x :: rest) c.f0 (fin c - 1) o ((pre.length + 1 : Nat) : Int)) (o ++ cutL c.f0 (fin c) rest) := by
      intro o hlo
      have := ih (pre ++ [x]) o (by simpa using hn) (by omega) (fun a ha => hok a (by simp [ha]))
      simp only [List.append_assoc, List.singleton_append, List.length_append, List.length_singleton] at this
      exact this
    obtain ⟨a, b, w, s, ok, e1, g1⟩ := part_lo hx hc
    obtain ⟨a', b', w', s', ok', e2, g2⟩ := part_hi hx hc
    rw [cutL_cons, ← List.append_assoc]
    unfold cut1
    rw [g1, g2, ← List.append_assoc]
    refine Ev.step (fun k => by simp only [spec_l2Cut.l0]; rfl) ?_
    refine Ev.pos (by omega) (Ev.pos (by omega) ?_)
    rw [rd_pre, succ_wrap hlt (by omega)]
    refine Ev.bind (Ev.const e1) (Ev.bind (Ev.const e2) ?_)
    cases ok with
    | true =>
      rw [if_pos rfl]
      refine Ev.pos rfl (Ev.pos (by omega) (Ev.bind (Ev.now _) ?_))
      cases ok' with
      | true => rw [if_pos rfl]; exact Ev.pos rfl (Ev.pos (by simp; omega) (step _ (by simp)))
      | false => rw [if_neg (by decide), List.append_nil]; exact Ev.neg (by simp) (step _ (by simp))
    | false =>
      rw [if_neg (by decide), List.append_nil]
      refine Ev.neg (by simp) ?_
      cases ok' with
      | true => rw [if_pos rfl]; exact Ev.pos rfl (Ev.pos (by omega) (step _ (by simp)))
      | false => rw [if_neg (by decide), List.append_nil]; exact Ev.neg (by simp) (step _ (by omega))
theorem specCut (l : List Ar) (f m : Int) (hn : l.length ≤ 1048576) : Ev (fun k => spec_AreasCut.f k l f m) (areasCut l f m) := by
  unfold spec_AreasCut.f areasCut
  refine Ev.bind (specOk l (by omega)) ?_
  cases h1 : areasOk l with
  | false =>
    refine Ev.neg (by decide) ?_
    refine Ev.step (fun k => by simp only [spec_AreasCut.j0]; rfl) ?_
    exact Ev.pos (by trivial) (Ev.pure rfl)
  | true =>
    refine Ev.pos rfl (Ev.bind (Ev.const (specAreaOk_eq _ _ _ _)) ?_)
    refine Ev.step (fun k => by simp only [spec_AreasCut.j0]; rfl) ?_
    cases h2 : areaOk (⟨f, m, false, false⟩ : Ar) with
    | false => exact Ev.pos rfl (Ev.pure rfl)
    | true =>
      refine Ev.neg (by decide) ?_
      have hk := (areasOk_iff l).1 h1
      have h2' := (areaOk_iff _).1 h2
      simp only at h2'
      have w1 : wrap64 (f + m) = f + m := wrap_id (by omega) (by omega)
      have w2 : wrap64 (f + m - 1) = f + m - 1 := wrap_id (by omega) (by omega)
      rw [w1, w2]
      have hlen := cutL_len f (f + m) l
      have hcut := specCut_l ⟨f, m, false, false⟩ h2 l [] [] hn (by simp; omega) (fun a ha => (vldA_mem hk.1 a ha).1)
      refine Ev.bind (a := cutL f (f + m) l) (by unfold spec_l2Cut.f; exact hcut) (Ev.bind (specOk _ (by omega)) ?_)
      have hv := vldA_cut f (f + m) (by omega) hk.1
      have ho : areasOk (cutL f (f + m) l) = decide ((cutL f (f + m) l).length ≤ 6) := by rw [areasOk_eq, hv, Bool.true_and]
      rw [ho]
      show Ev _ (resC _)
      unfold resC
      by_cases h : (cutL f (f + m) l).length ≤ 6
      · exact Ev.cast (Ev.pos (by simpa using h) (Ev.pure rfl)) (if_neg (by omega)).symm
      · exact Ev.cast (Ev.neg (by simpa using h) (Ev.pure rfl)) (if_pos (by omega)).symm
theorem areasCut_len (l : List Ar) (f m : Int) : (areasCut l f m).1.length ≤ 6 := by
  unfold areasCut resC
  split
  · split
    · simp
    · simp only; omega
  · simp
theorem areasCut_ok {l : List Ar} {f m : Int} (h : (areasCut l f m).2 = true) : areasOk l = true ∧ areaOk ⟨f, m, false, false⟩ = true ∧ (areasCut l f m).1 = cutL f (f + m) l ∧ areasOk (areasCut l f m).1 = true := by
  unfold areasCut at h ⊢
  cases h1 : areasOk l with
  | false => simp [h1] at h
  | true =>
    cases h2 : areaOk (⟨f, m, false, false⟩ : Ar) with
    | false => simp [h1, h2] at h
    | true =>
      simp only [h1, h2, Bool.and_self, if_true] at h ⊢
      unfold resC at h ⊢
      by_cases c : ((cutL f (f + m) l).length : Int) > 6
      · rw [if_pos c] at h; cases h
      · rw [if_neg c]
        have h2' := (areaOk_iff _).1 h2
        simp only at h2'
        refine ⟨trivial, trivial, rfl, ?_⟩
        exact (areasOk_iff _).2 ⟨vldA_cut f (f + m) (by omega) ((areasOk_iff l).1 h1).1, by show (cutL f (f + m) l).length ≤ 6; omega⟩
theorem qdAreas_l (l : List Ar) (hn : l.length ≤ 9223372036854775807) : ∀ d i : Nat, i + d = l.length → Ev (fun k => laws_qdAreas.l0 k l l (i : Int)) true := by
  intro d
  induction d with
  | zero =>
    intro i hi
    refine Ev.step (fun k => by simp only [laws_qdAreas.l0]; rfl) ?_
    exact Ev.neg (by omega) (Ev.pure rfl)
  | succ d ih =>
    intro i hi
    have hlt : i < l.length := by omega
    refine Ev.step (fun k => by simp only [laws_qdAreas.l0]; rfl) ?_
    refine Ev.pos (by omega) (Ev.pos (by omega) (Ev.pos (by omega) ?_))
    rw [succ_wrap hlt hn]
    exact Ev.neg (by simp) (ih (i + 1) (by omega))
theorem qdAreas_self (l : List Ar) (hn : l.length ≤ 9223372036854775807) : Ev (fun k => laws_qdAreas.f k l l) true := by
  unfold laws_qdAreas.f
  exact Ev.pos rfl (qdAreas_l l hn l.length 0 (by omega))
end Go.Proofs.Ytlahnekinlkfmaa.Q
