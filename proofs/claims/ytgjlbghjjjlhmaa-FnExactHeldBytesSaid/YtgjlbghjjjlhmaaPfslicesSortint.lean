-- printed by wip/qd.py
import Derived.Test.YtgjlbghjjjlhmaaPf0
import Derived.Test.YtgjlbghjjjlhmaaQSort
namespace Go.Proofs.Ytgjlbghjjjlhmaa.P
open Go.RowKit Go.Proofs.YtgjlbghjjjlhmaaW.PrintWords Go.Proofs.YtgjlbghjjjlhmaaW.PrintLast Go.Proofs.YtgjlbghjjjlhmaaW.PrintMore
attribute [local go_sem] max2_int min2_int max_two min_two max_three min_three max_four min_four Q.cell_set_map
set_option linter.unusedVariables false
set_option linter.unusedSimpArgs false

/-! ### slices_Sort_int: function 56 -/
-- IMPORT Derived.Test.YtgjlbghjjjlhmaaQSort
def slices_Sort_int.val (l : List Int) : List Int := l.mergeSort fun x y => decide (x ≤ y)
def slices_Sort_int.f (l0 : List Int) : Option (List Int) := if l0.length < 1000000000 then some (slices_Sort_int.val l0) else none
theorem slices_Sort_int.calls (P0_ : Nat → Prop) (u9000_ : Value) (l0 : List Int) (r1 : List Int) (w0 w : World) (hB : Below w0.heap.size w0 w) (ho0 : Kd.R (Kd.int .i64) 3 w w0.heap.size P0_ u9000_ l0) (h : slices_Sort_int.f l0 = some r1) :
    Calls Try.prog 56 #[u9000_] w fun e w' => e = .returned (.tuple #[]) ∧ Kd.R (Kd.int .i64) 3 w' w0.heap.size (fun k_ => (P0_ k_ ∨ w.heap.size ≤ k_)) u9000_ r1 ∧ Below w0.heap.size w0 w' ∧ Kept w w' (fun k_ => P0_ k_) := by
  unfold slices_Sort_int.f at h
  by_cases hl : l0.length < 1000000000
  · rw [if_pos hl] at h
    obtain rfl := Option.some.inj h
    have hlen : (slices_Sort_int.val l0).length = l0.length := by unfold slices_Sort_int.val; simp
    have ho := Kd.own_of_R ho0
    have h0 := ho0.1
    rcases ho.2 with ⟨rfl, hn⟩ | ⟨g, cap, cur, rfl, hg, hh, hnc, hcm, hcs, ht⟩
    · obtain rfl : l0 = [] := List.eq_nil_of_length_eq_zero hn
      refine (Q.sortInt_none none 0 w).mono ?_
      rintro e w' ⟨rfl, rfl⟩
      have hv : slices_Sort_int.val [] = [] := by unfold slices_Sort_int.val; simp
      rw [hv]
      exact ⟨rfl, Kd.R_nil _ _ _ _ _, hB, Kept.refl _ _⟩
    · have hlt : g < w.heap.size := blk_lt hh
      rw [Nat.mul_one] at ht
      have ht' : cur.toList.take l0.length = l0.map (Value.int .i64) := ht
      refine (Q.sortInt g 0 cap l0 w (holds_of_blockI hh ht') hlt (by omega)).mono ?_
      rintro e w' ⟨rfl, n, os, rfl⟩
      have hgr := grownBy_sortedI (w := w) (g := g) (n := n) (os := os) (slices_Sort_int.val l0).toArray
      have hown := ownsRow_sortedI (w := w) (n := n) (os := os) (ss := l0) (ts := slices_Sort_int.val l0) hlen hg hh hnc hcm hcs
      rw [← hlen] at hown
      refine ⟨rfl, ?_, hB.grown hgr hB.size (fun j hj => by cases hj; exact hg), Kept.of_grown hgr (Kept.refl w _) (fun k hk => by cases hk; exact .inl (h0 g rfl))⟩
      have := Kd.R_of_own (h1 := fun _ => rfl) (ok := fun k_ => (P0_ k_ ∨ w.heap.size ≤ k_)) hown (fun k hk => .inl (h0 k (by simpa [Value.ownBlock] using hk)))
      rw [hlen] at this
      exact this
  · rw [if_neg hl] at h
    cases h


end Go.Proofs.Ytgjlbghjjjlhmaa.P
