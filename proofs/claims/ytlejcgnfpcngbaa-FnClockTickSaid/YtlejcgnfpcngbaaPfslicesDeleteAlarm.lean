-- printed by this session's own driver (wip/qd.py) out of the translation; Lean checks it
import Derived.Test.YtlejcgnfpcngbaaPf0
import Derived.Deep.RegionLaw
import Derived.Shelf.RegionOpenPlain
import Derived.Test.YtlejcgnfpcngbaaQCopy
namespace Go.Proofs.Ytlejcgnfpcngbaa.P
open Go.RowKit Go.Proofs.YtlejcgnfpcngbaaW.PrintWords Go.Proofs.YtlejcgnfpcngbaaW.PrintLast Go.Proofs.YtlejcgnfpcngbaaW.PrintMore
attribute [local go_sem] max2_int min2_int max_two min_two max_three min_three max_four min_four Q.cell_set_map   -- for this text's walks alone
set_option linter.unusedVariables false
set_option linter.unusedSimpArgs false

/-! ### slices_Delete_Alarm: function 57 -/
-- IMPORT Derived.Deep.RegionLaw
-- IMPORT Derived.Shelf.RegionOpenPlain
-- IMPORT Derived.Test.YtlejcgnfpcngbaaQCopy
set_option maxHeartbeats 4000000 in
set_option maxRecDepth 100000 in
/-- One element is taken out, in place; what is behind becomes zero. -/
theorem slices_Delete_Alarm.cells (g n cap i : Nat) (cs : List Value) (cur : Array Value) (w : World) (hi : i < n) (hnc : n ≤ cap) (hcap : cap ≤ 9223372036854775807) (hg : w.heap[g]? = some (.cells cur 62 (0, 0))) (hsz : cur.size = cap * 3)
    (hcl : cs.length = n * 3) (hcs : ∀ j v, cs[j]? = some v → w.cell? ⟨g, 0 + j, none⟩ = some v) (h1c : ∀ v ∈ cs, v.oneCell' = true) :
    Calls Try.prog 57 #[.slice (some ⟨g, 0, none⟩) n cap, .int .i64 i, .int .i64 ((i : Int) + 1)] w fun e w' =>
      e = .returned (.slice (some ⟨g, 0, none⟩) (n - 1) cap) ∧ w' = (w.drew.setCells g (0 + i * 3) (cs.drop ((i + 1) * 3))).setCells g ((n - 1) * 3) [.int .i64 0, .int .i64 0, .int .i64 0] := by
  have hu := Try.underlying24
  have mixed : Try.prog.follows .mixedOrders = true := by kernel_rfl
  obtain ⟨i0, hi0, hz0, hzs, hzb⟩ := info_parts info62
  have hz2 : ¬ ((i : Int) = (i : Int) + 1) := by omega
  have hdl : (cs.drop ((i + 1) * 3)).length = (n - (i + 1)) * 3 := by rw [List.length_drop, hcl]; omega
  obtain ⟨A, hA, hsrc⟩ : ∃ A : Addr, (if cap = i + 1 then (some ⟨g, 0, none⟩ : Option Addr) else some ⟨g, (i + 1) * 3, none⟩) = some A ∧ Hid (∀ t u, (cs.drop ((i + 1) * 3))[t]? = some u → w.drew.cell? (A.add t) = some u) := by
    by_cases h : cap = i + 1
    · refine ⟨⟨g, 0, none⟩, by simp [h], fun t u hu => ?_⟩
      have h0 : (cs.drop ((i + 1) * 3)).length = 0 := by rw [hdl]; omega
      rw [List.length_eq_zero_iff.1 h0] at hu
      simp at hu
    · refine ⟨⟨g, (i + 1) * 3, none⟩, by simp [h], fun t u hu => ?_⟩
      rw [Addr.add_lit]
      rw [List.getElem?_drop] at hu
      have := hcs _ u hu
      rw [Nat.zero_add] at this
      exact this
  have s1 : Hid ((cs.drop ((i + 1) * 3)).length = (n - (i + 1)) * 3) := hdl
  have s2 : Hid (∀ u ∈ cs.drop ((i + 1) * 3), u.oneCell' = true) := fun u hu => h1c u (List.mem_of_mem_drop hu)
  have hgd : w.drew.heap[g]? = some (.cells cur 62 (0, 0)) := hg
  have s3 : Hid (∀ t, t < (cs.drop ((i + 1) * 3)).length → (w.drew.cell? ⟨g, 0 + i * 3 + t, none⟩).isSome = true ∧ w.drew.frozen? ⟨g, 0 + i * 3 + t, none⟩ = false) := by
    intro t ht
    rw [hdl] at ht
    refine ⟨?_, Q.frozen_of hgd _⟩
    rw [cell_of_row w.drew g _ cur 62 (0, 0) hgd, Array.getElem?_eq_getElem (by omega)]
    rfl
  obtain ⟨W1, hW1⟩ : ∃ W1, W1 = w.drew.setCells g (0 + i * 3) (cs.drop ((i + 1) * 3)) := ⟨_, rfl⟩
  obtain ⟨cur1, g1, z1, l1⟩ := setCells_row (cs.drop ((i + 1) * 3)) (0 + i * 3) w.drew cur hgd (by rw [hdl, hsz]; omega)
  have hclr : ∀ ty, (Builtin.clear_ #[24] ty #[.slice (some ⟨g, (n - 1) * 3, none⟩) (n - (n - 1)) (cap - (n - 1))]).run Try.prog W1 = .ok (.tuple #[]) (W1.setCells g ((n - 1) * 3) [.int .i64 0, .int .i64 0, .int .i64 0]) := fun ty => by
    refine Q.run_clear_sz W1 24 62 ty (.agg #[.int .i64 0, .int .i64 0, .int .i64 0]) [.int .i64 0, .int .i64 0, .int .i64 0] g ((n - 1) * 3) (n - (n - 1)) (cap - (n - 1)) hu (fun _ => by kernel_rfl) (by rw [show n - (n - 1) = 1 by omega]; exact Q.zc3 _ _ _) (fun u hu => ?_) (by omega) (fun j hj => ?_) (fun j hj => ?_)
    · simp only [List.mem_cons, List.not_mem_nil, or_false] at hu
      rcases hu with rfl | rfl | rfl <;> rfl
    · rw [hW1, cell_of_row _ g _ cur1 62 (0, 0) g1, Array.getElem?_eq_getElem (by rw [z1, hsz]; simp only [List.length_cons, List.length_nil] at hj; omega)]
      rfl
    · rw [hW1]
      exact Q.frozen_of g1 _
  have hW : Hid (W1 = w.drew.setCells g (0 + i * 3) (cs.drop ((i + 1) * 3))) := hW1
  have hw1 : IntKind.i64.wrap ((i : Int) + 1) = (i : Int) + 1 := by rw [IntKind.wrap_i64]; omega
  have hic : i ≤ cap := by omega
  have hi1 : i + 1 ≤ n := by omega
  have hi2 : (0 : Int) ≤ (i : Int) + 1 := by omega
  have hi3 : (i : Int) ≤ (i : Int) + 1 := by omega
  have hi4 : (i : Int) + 1 ≤ (n : Int) := by omega
  have hi5 : (i : Int) ≤ (cap : Int) := by omega
  have htn : ((i : Int) + 1).toNat = i + 1 := by omega
  have hsum : i + (n - (i + 1)) = n - 1 := by omega
  have hn1 : n - 1 ≤ n := by omega
  have hn2 : ¬ (cap = n - 1) := by omega
  have hroom : i + (n - (i + 1)) ≤ cap := by omega
  clear hW1 hg hgd hcs hdl g1 l1 z1 hsz hcl
  go_enter Try.func57, Try.ntmps57
  go_wp2_with fail
  go_region_law_o (refine step_append_room rfl (.tmp 22) (.tmp 25) 24 rfl 62 i0 3 hu hi0 hzs g 0 i cap (by simp [Act.eval, Act.put]) A (n - (i + 1)) (cap - (i + 1)) (cs.drop ((i + 1) * 3)) (by simp [Act.eval, Act.put, hA]) s1.out hsrc.out s2.out hroom s3.out ?_; rw [← hW.out])
  go_wp2
  go_ret
  exact ⟨rfl, by rw [hW.out]⟩
theorem slices_Delete_Alarm.kM {w w' : World} {base base' : Nat} {ok ok' : Nat → Prop} {l : List S62} {cs : List Value} (h : Reps (k62.M w base ok) 3 l cs) : Reps (k62.M w' base' ok') 3 l cs :=
  h.imp_ (fun p c hp => by obtain rfl := k62_openM hp; exact k62_mkM _ _ _ _)
/-- The same for a row of the call's own. -/
theorem slices_Delete_Alarm.own (w : World) (base : Nat) (ok : Nat → Prop) (v : Value) (l : List S62) (i : Nat) (hR : Kd.R k62 62 w base ok v l) (hi : i < l.length) :
    Calls Try.prog 57 #[v, .int .i64 i, .int .i64 ((i : Int) + 1)] w fun e w' => ∃ v', e = .returned v' ∧ Kd.R k62 62 w' base ok v' (l.take i ++ l.drop (i + 1)) ∧ w.grownBy w' v.ownBlock ∧ v'.ownBlock = v.ownBlock := by
  obtain ⟨h0, inner, ho, hr⟩ := hR
  have hsz3 : k62.sz = 3 := rfl
  rw [hsz3] at ho hr
  have hl : inner.length = l.length * 3 := ho.1
  rcases ho.2 with ⟨rfl, h⟩ | ⟨g, cap, cur, rfl, hbg, hg, hnc, hcm, hsz, hcur⟩
  · omega
  · have hcap : cap ≤ 9223372036854775807 := by simp only [maxLen] at hcm; omega
    have hcs : ∀ j u, inner[j]? = some u → w.cell? ⟨g, 0 + j, none⟩ = some u := by
      intro j u hj
      rw [cell_of_row w g _ cur 62 (0, 0) hg, Nat.zero_add]
      rw [← hcur, List.getElem?_take] at hj
      split at hj
      · rw [← Array.getElem?_toList]
        exact hj
      · cases hj
    have h1c : ∀ u ∈ inner, u.oneCell' = true := Kd.reps_one hr (by omega) (fun p c hp => k62.K_one (k62.K_of_M hp))
    refine (slices_Delete_Alarm.cells g l.length cap i inner cur w hi hnc hcap hg hsz hl hcs h1c).mono ?_
    rintro e w' ⟨rfl, rfl⟩
    have hgd : w.drew.heap[g]? = some (.cells cur 62 (0, 0)) := hg
    have hdl : (inner.drop ((i + 1) * 3)).length = (l.length - (i + 1)) * 3 := by rw [List.length_drop, hl]; omega
    have hcurl : cur.toList.length = cap * 3 := by rw [Array.length_toList, hsz]
    obtain ⟨cur1, g1, s1, l1⟩ := setCells_row (inner.drop ((i + 1) * 3)) (0 + i * 3) w.drew cur hgd (by rw [hdl, hsz]; omega)
    obtain ⟨cur2, g2, s2, l2⟩ := setCells_row [.int .i64 0, .int .i64 0, .int .i64 0] ((l.length - 1) * 3) _ cur1 g1 (by rw [s1, hsz]; simp only [List.length_cons, List.length_nil]; omega)
    obtain ⟨a1, a2, a3, a4⟩ := setCells_same g (inner.drop ((i + 1) * 3)) (0 + i * 3) w.drew
    obtain ⟨b1, b2, b3, b4⟩ := setCells_same g [.int .i64 0, .int .i64 0, .int .i64 0] ((l.length - 1) * 3) (w.drew.setCells g (0 + i * 3) (inner.drop ((i + 1) * 3)))
    have hlen : (l.take i ++ l.drop (i + 1)).length = l.length - 1 := by rw [List.length_append, List.length_take, List.length_drop]; omega
    have ht : cur.toList.take (i * 3) = inner.take (i * 3) := by
      rw [← hcur, List.take_take, Nat.min_eq_left (by omega)]
    have hil : (inner.take (i * 3)).length = i * 3 := by rw [List.length_take, hl]; omega
    refine ⟨_, rfl, ⟨h0, inner.take (i * 3) ++ inner.drop ((i + 1) * 3), ?_, ?_⟩, ⟨b1.trans a1, b2.trans a2, b3.trans a3, by rw [b4, a4]; exact Nat.le_refl _, fun k _ hk => ?_⟩, rfl⟩
    · rw [hlen]
      refine ⟨by rw [List.length_append, hil, hdl]; show _ = (l.length - 1) * 3; omega, .inr ⟨g, cap, cur2, rfl, hbg, g2, by omega, hcm, by rw [s2, s1, hsz]; rfl, ?_⟩⟩
      show cur2.toList.take ((l.length - 1) * 3) = _
      rw [l2, List.append_assoc, List.take_append_of_le_length (by rw [List.length_take, l1]; simp only [List.length_append, List.length_take, List.length_drop, hcurl, hl]; omega), List.take_take, Nat.min_self]
      rw [l1, Nat.zero_add, ht]
      exact List.take_left' (by rw [List.length_append, hil, hdl]; omega)
    · exact Kd.reps_append (Kd.reps_take (slices_Delete_Alarm.kM hr) (by omega)) (Kd.reps_drop (slices_Delete_Alarm.kM hr))
    · have hkg : k ≠ g := fun e => hk (by rw [e]; rfl)
      rw [setCells_far _ _ k hkg, setCells_far _ _ k hkg]
      rfl


end Go.Proofs.Ytlejcgnfpcngbaa.P
