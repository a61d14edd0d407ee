/- Rows of rows whose inner rows lie apart: one of them written. -/
import Derived.Test.YtgjlbghjjjlhmaaV
namespace Go.Proofs.Ytgjlbghjjjlhmaa.Q
open Go.RowKit Go.Proofs.YtgjlbghjjjlhmaaW.PrintWords Go.Proofs.YtgjlbghjjjlhmaaW.PrintLast Go.Proofs.YtgjlbghjjjlhmaaW.PrintMore
set_option linter.unusedVariables false
set_option linter.unusedSimpArgs false
theorem S_at {e eI : Nat} {w : World} {base : Nat} {ok : Nat → Prop} {v : Value} {xs : List (List Int)} {f : Nat → Nat} (h : (Kd.tag f (Kd.slice eI (Kd.int .i64))).R e w base ok v xs.zipIdx) {i : Nat} {x : List Int} (hi : xs[i]? = some x) :
    ∃ u, (∀ ad n c, v = .slice (some ad) n c → w.cell? (ad.add i) = some u) ∧ (Kd.int .i64).R eI w base (fun k => (ok k ∧ some k ≠ v.ownBlock) ∧ f k = i) u x ∧
      ∀ (w' : World) (y : List Int), (∀ k, k < w.heap.size → some k ≠ u.ownBlock → w'.heap[k]? = w.heap[k]?) → (Kd.int .i64).R eI w' base (fun k => some k = u.ownBlock) u y →
        (Kd.tag f (Kd.slice eI (Kd.int .i64))).R e w' base ok v (xs.set i y).zipIdx := by
  obtain ⟨h0, inner, ho, hr⟩ := h
  have hM := hr.2 i (x, i) (Kd.zip_at hi)
  obtain ⟨u, hu, hR⟩ := hM
  have hil : i < xs.length := by
    apply Classical.byContradiction
    intro hc
    rw [List.getElem?_eq_none (by omega)] at hi
    cases hi
  have hlen : inner.length = xs.length * 1 := by have := hr.1; rw [List.length_zipIdx] at this; exact this
  have hui : inner[i]? = some u := by
    have h1 : ((inner.drop (i * 1)).take 1)[0]? = some u := by
      have : (inner.drop (i * (Kd.tag f (Kd.slice eI (Kd.int .i64))).sz)).take (Kd.tag f (Kd.slice eI (Kd.int .i64))).sz = [u] := hu
      show ((inner.drop (i * (Kd.tag f (Kd.slice eI (Kd.int .i64))).sz)).take (Kd.tag f (Kd.slice eI (Kd.int .i64))).sz)[0]? = some u
      rw [this]
      rfl
    rw [List.getElem?_take_of_lt (by omega), List.getElem?_drop, Nat.mul_one, Nat.add_zero] at h1
    exact h1
  refine ⟨u, fun ad n c hv => ?_, hR, fun w' y hsame hy => ?_⟩
  · rcases ho.2 with ⟨hv2, _⟩ | ⟨g, cap, cur, hv2, hg, hb, hn, _, _, ht⟩
    · rw [hv] at hv2
      cases hv2
    · rw [hv] at hv2
      injection hv2 with e1 _ _
      injection e1 with e1
      subst e1
      rw [List.length_zipIdx] at ht
      have h3 : cur[i]? = some u := by
        rw [← hui, ← ht, List.getElem?_take_of_lt (by show i < xs.length * 1; omega), Array.getElem?_toList]
      have h4 : (⟨g, 0, none⟩ : Addr).add i = ⟨g, i, none⟩ := by rw [add_at]; simp
      rw [h4, blk_cell hb i]
      exact h3
  · have hne : ∀ k, u.ownBlock = some k → (ok k ∧ some k ≠ v.ownBlock) ∧ f k = i := fun k hk => hR.1 k hk
    refine ⟨h0, inner, ?_, ?_, ?_⟩
    · rw [List.length_zipIdx] at ho ⊢
      rw [List.length_set]
      exact own_move ho (fun k hk => hsame k (own_lt ho k hk) (fun e => (hne k e.symm).1.2 hk.symm))
    · rw [List.length_zipIdx, List.length_set]
      exact hlen
    · rintro j ⟨z, j'⟩ hj
      have hj2 := hj
      rw [List.getElem?_zipIdx, Nat.zero_add] at hj2
      obtain ⟨z', hz', he⟩ := Option.map_eq_some_iff.1 hj2
      injection he with e1 e2
      subst e1
      subst e2
      rw [List.getElem?_set] at hz'
      by_cases hij : i = j
      · subst hij
        rw [if_pos rfl, if_pos hil] at hz'
        injection hz' with hz'
        subst hz'
        refine ⟨u, hu, Kd.R_mono hy (fun k hk => hne k hk.symm)⟩
      · rw [if_neg hij] at hz'
        have hMj := hr.2 j (z', j) (Kd.zip_at hz')
        exact Kd.M_step (d := Kd.slice eI (Kd.int .i64)) hMj (fun k hk hlt => hsame k hlt (fun e => hij ((hne k e.symm).2.symm.trans hk.2)))
end Go.Proofs.Ytgjlbghjjjlhmaa.Q
