-- printed by this session's own driver (wip/qd.py) out of the translation; Lean checks it
import Derived.Test.YtlejcgnfpcngbaaPf0
import Derived.Lib.Overlaps
import Derived.Lib.AppendZerosOnto
import Derived.Laws.Externs
import Derived.Laws.NewBlocks
import Derived.Deep.RegionLaw
import Derived.Shelf.RegionOpenPlain
import Derived.Test.YtlejcgnfpcngbaaQCopy
namespace Go.Proofs.Ytlejcgnfpcngbaa.P
open Go.RowKit Go.Proofs.YtlejcgnfpcngbaaW.PrintWords Go.Proofs.YtlejcgnfpcngbaaW.PrintLast Go.Proofs.YtlejcgnfpcngbaaW.PrintMore
attribute [local go_sem] max2_int min2_int max_two min_two max_three min_three max_four min_four Q.cell_set_map   -- for this text's walks alone
set_option linter.unusedVariables false
set_option linter.unusedSimpArgs false

/-! ### slices_Insert_Alarm: function 67 -/
-- IMPORT Derived.Lib.Overlaps
-- IMPORT Derived.Lib.AppendZerosOnto
-- IMPORT Derived.Laws.Externs
-- IMPORT Derived.Laws.NewBlocks
-- IMPORT Derived.Deep.RegionLaw
-- IMPORT Derived.Shelf.RegionOpenPlain
-- IMPORT Derived.Test.YtlejcgnfpcngbaaQCopy
set_option maxHeartbeats 4000000 in
set_option maxRecDepth 100000 in
/-- There is room, i < len(s): in place. -/
theorem slices_Insert_Alarm.shift (b off n c i vb : Nat) (cs vs : List Value) (w : World) (hi : i < n) (hroom : n + 1 ≤ c) (hc63 : c ≤ 9223372036854775807) (hvb : vb ≠ b)
    (hcl : cs.length = n * 3) (hvl : vs.length = 3)
    (hcs : ∀ j v, cs[j]? = some v → w.cell? ⟨b, off + j, none⟩ = some v) (hsp : ∀ j, j < (n + 1) * 3 → (w.cell? ⟨b, off + j, none⟩).isSome = true) (hfz : ∀ j, j < (n + 1) * 3 → w.frozen? ⟨b, off + j, none⟩ = false)
    (hvs : ∀ j v, vs[j]? = some v → w.cell? ⟨vb, 0 + j, none⟩ = some v) (h1c : ∀ v ∈ cs, v.oneCell' = true) (h1v : ∀ v ∈ vs, v.oneCell' = true)
    (tA tB : TypeId) (kA kB : Nat) (hsa : w.shape? vb = some (tA, kA)) (hsb : w.shape? b = some (tB, kB)) (hkB : kB ≠ 0) (hfa : w.frozen? ⟨vb, 0, none⟩ = false) (hfe : w.frozen? ⟨vb, kA, none⟩ = false) :
    Calls Try.prog 67 #[.slice (some ⟨b, off, none⟩) n c, .int .i64 i, .slice (some ⟨vb, 0, none⟩) 1 1] w fun e w' =>
      e = .returned (.slice (some ⟨b, off, none⟩) (n + 1) c) ∧ w' = (w.drew.setCells b (off + (i + 1) * 3) (cs.drop (i * 3))).setCells b (off + i * 3) vs := by
  have hu := Try.underlying24
  have hz2 : ¬ ((i : Int) = (n : Int)) := by omega
  have hsz : (Try.prog.info? 62).map (·.size) = some 3 := by
    obtain ⟨i0, hi0, h0, h1, h2⟩ := info_parts info62
    rw [hi0]; simp [h1]
  have hov : ∀ lb cb, (callFunc 68 #[.slice (some ⟨vb, 0, none⟩) 1 1, .slice (some ⟨b, off + (i + 1) * 3, none⟩) lb cb]).run Try.prog w = .ok (.value (.bool false)) w := fun lb cb => by
    rw [run_callFunc_extern Try.func68 (by kernel_rfl) (by kernel_rfl) (by kernel_rfl) (e := Extern.SlicesOverlaps.overlaps #[24, 24] #[4]) (by kernel_rfl),
      Lib.run_overlaps_apart w 24 4 62 hu 3 (fun _ => by kernel_rfl) ⟨vb, 0, none⟩ ⟨b, off + (i + 1) * 3, none⟩ 1 1 lb cb hvb tA tB kA kB hsa hsb hkB hfa hfe]
    rfl
  have mixed : Try.prog.follows .mixedOrders = true := by kernel_rfl
  have hdl : (cs.drop (i * 3)).length = (n - i) * 3 := by rw [List.length_drop, hcl]; omega
  have hw1 : IntKind.i64.wrap ((i : Int) + 1) = (i : Int) + 1 := by rw [IntKind.wrap_i64]; omega
  have hw2 : IntKind.i64.wrap ((n : Int) + 1) = (n : Int) + 1 := by rw [IntKind.wrap_i64]; omega
  have hb1 : (0 : Int) ≤ (i : Int) + 1 := by omega
  have hin : i ≤ n := by omega
  have htn : ((i : Int) + 1).toNat = i + 1 := by omega
  have htn2 : ((n : Int) + 1).toNat = n + 1 := by omega
  have hb2 : ¬ (c = i + 1) := by omega
  have hb3 : (i : Int) ≤ (n : Int) + 1 := by omega
  have hb4 : ¬ (c = i) := by omega
  have hb5 : ¬ (c : Int) < (n : Int) + 1 := by omega
  have hcp1 : ∀ ty dc sc, (Builtin.copy_ #[24, 24] ty #[.slice (some ⟨b, off + (i + 1) * 3, none⟩) (n - i) dc, .slice (some ⟨b, off + i * 3, none⟩) (n + 1 - i) sc]).run Try.prog w.drew = .ok (goInt ((n - i : Nat) : Int)) (w.drew.setCells b (off + (i + 1) * 3) (cs.drop (i * 3))) := fun ty dc sc =>
    Q.run_copy_sz w.drew _ _ ty 62 3 b (off + (i + 1) * 3) (n - i) dc ⟨b, off + i * 3, none⟩ (n + 1 - i) sc (n - i) (cs.drop (i * 3)) hu hsz (by simp only [Nat.min_def]; split <;> omega) hdl
      (fun j v hj => by rw [Addr.add_lit, Nat.add_assoc]; exact hcs (i * 3 + j) v (by rwa [List.getElem?_drop] at hj))
      (fun j hj => by rw [Nat.add_assoc]; exact hsp _ (by omega)) (fun j hj => by rw [Nat.add_assoc]; exact hfz _ (by omega)) (fun v hv => h1c v (List.mem_of_mem_drop hv))
  obtain ⟨W1, hW1⟩ : ∃ W1, W1 = w.drew.setCells b (off + (i + 1) * 3) (cs.drop (i * 3)) := ⟨_, rfl⟩
  have hsp1 : ∀ k, k < (n + 1) * 3 → (W1.cell? ⟨b, off + k, none⟩).isSome = true := fun k hk => by
    rw [hW1]
    exact Q.isSome_setCells b _ _ _ (fun j hj => by rw [Nat.add_assoc]; exact hsp _ (by omega)) _ (hsp k hk)
  have hcp2 : ∀ (W : World), (∀ x, W.cell? x = W1.cell? x) → (∀ x, W.frozen? x = W1.frozen? x) → ∀ ty dc, (Builtin.copy_ #[24, 24] ty #[.slice (some ⟨b, off + i * 3, none⟩) (n + 1 - i) dc, .slice (some ⟨vb, 0, none⟩) 1 1]).run Try.prog W = .ok (goInt ((1 : Nat) : Int)) (W.setCells b (off + i * 3) vs) := fun W hWc hWf ty dc =>
    Q.run_copy_sz W _ _ ty 62 3 b (off + i * 3) (n + 1 - i) dc ⟨vb, 0, none⟩ 1 1 1 vs hu hsz (by simp only [Nat.min_def]; split <;> omega) (by rw [hvl])
      (fun j v hj => by
        rw [Addr.add_lit, hWc, hW1, World.cell?_setCells_out b _ _ _ _ (fun h _ => absurd h hvb)]
        exact hvs j v hj)
      (fun j hj => by rw [hWc, Nat.add_assoc]; exact hsp1 _ (by omega)) (fun j hj => by rw [hWf, hW1, World.frozen?_setCells, Nat.add_assoc]; exact hfz _ (by omega)) h1v
  rw [← hW1] at hcp1
  go_enter Try.func67, Try.ntmps67
  go_wp2_with (simp only [hov])
  go_region_law_o (refine Q.step_copy_run rfl _ _ 24 24 rfl _ _ (by simp [Act.eval, Act.put]) (by simp [Act.eval, Act.put]) (hcp1 _ _ _) ?_)
  go_wp2_with (at_builtin; refine Q.wpList_copy_run _ rfl _ _ 24 24 rfl _ _ rfl rfl (hcp2 _ (fun _ => rfl) (fun _ => rfl) _ _) ?_)
  go_ret
  first | exact ⟨rfl, rfl⟩ | exact ⟨rfl, by rw [hW1]⟩
set_option maxHeartbeats 4000000 in
set_option maxRecDepth 100000 in
/-- No room, i < len(s): a new row. -/
theorem slices_Insert_Alarm.grow (b off n c i vb : Nat) (cs vs : List Value) (w : World) (hi : i < n) (hnc : n ≤ c) (hroom : c < n + 1) (hbig : (n + 1) * 24 ≤ 140737488355328)
    (hcl : cs.length = n * 3) (hvl : vs.length = 3) (hvb : vb < w.heap.size) (hbw : b < w.heap.size)
    (hcs : ∀ j v, cs[j]? = some v → w.cell? ⟨b, off + j, none⟩ = some v)
    (hvs : ∀ j v, vs[j]? = some v → w.cell? ⟨vb, 0 + j, none⟩ = some v) (h1c : ∀ v ∈ cs, v.oneCell' = true) (h1v : ∀ v ∈ vs, v.oneCell' = true) :
    Calls Try.prog 67 #[.slice (some ⟨b, off, none⟩) n c, .int .i64 i, .slice (some ⟨vb, 0, none⟩) 1 1] w fun e w' =>
      e = .returned (.slice (some ⟨w.heap.size, 0, none⟩) (n + 1) (grownCap w (n + 1) c 62)) ∧
      w' = (((w.alloc (.cells ((cs.take (i * 3)).toArray ++ Builtin.zeroCells (Value.agg #[.int .i64 0, .int .i64 0, .int .i64 0]).cells (n + 1 - i) ++ Builtin.zeroCells (Value.agg #[.int .i64 0, .int .i64 0, .int .i64 0]).cells (grownCap w (n + 1) c 62 - (n + 1))) 62)).drew.setCells w.heap.size (i * 3) vs).drew).setCells w.heap.size ((i + 1) * 3) (cs.drop (i * 3)) := by
  have hu := Try.underlying24
  have hui := Try.underlying3
  have mixed : Try.prog.follows .mixedOrders = true := by kernel_rfl
  obtain ⟨i0, hi0, hz0, hzs, hzb⟩ := info_parts info62
  have hsz : (Try.prog.info? 62).map (·.size) = some 3 := by rw [hi0]; simp [hzs]
  have hz2 : ¬ ((i : Int) = (n : Int)) := by omega
  have hz3 : (c : Int) < (n : Int) + 1 := by omega
  have hkk : (n : Int) + 1 - (i : Int) = ((n + 1 - i : Nat) : Int) := by omega
  have hik : i + (n + 1 - i) = n + 1 := by omega
  have hold : (Builtin.firstCells i0.size i (.slice (some ⟨b, off, none⟩) i c)).run Try.prog w.drew = .ok (cs.take (i * 3)).toArray w.drew := by
    rw [hzs]
    exact run_firstCells_some w.drew 3 i ⟨b, off, none⟩ i c (cs.take (i * 3)) (by rw [List.length_take]; omega) (fun j v hj => by
      rw [Addr.add_lit]
      rw [List.getElem?_take] at hj
      split at hj
      · exact hcs j v hj
      · cases hj)
  have hrz : ∀ ty, (Builtin.append_ #[24, 3] ty #[.slice (some ⟨b, off, none⟩) i c, .int .i64 ((n : Int) + 1 - (i : Int))]).run Try.prog w =
      .ok (.slice (some ⟨w.heap.size, 0, none⟩) (n + 1) (grownCap w (n + 1) c 62)) (w.drew.alloc (.cells ((cs.take (i * 3)).toArray ++ Builtin.zeroCells (Value.agg #[.int .i64 0, .int .i64 0, .int .i64 0]).cells (n + 1 - i) ++ Builtin.zeroCells (Value.agg #[.int .i64 0, .int .i64 0, .int .i64 0]).cells (grownCap w (n + 1) c 62 - (n + 1))) 62)) := fun ty => by
    have h := Lib.run_append_grow_zeros w 24 3 ty 62 i0 _ .i64 .i64 hu hui hi0 hz0 (some ⟨b, off, none⟩) i c (cs.take (i * 3)) hold (n + 1 - i) (by omega) (by omega) (by omega) (by omega) (by rw [hzb]; omega) (by rw [hzb, hik]; exact growslice_fits hroom hbig)
    rw [hik] at h
    rw [hkk]
    exact h
  obtain ⟨G, hG⟩ : ∃ G, G = grownCap w (n + 1) c 62 := ⟨_, rfl⟩
  obtain ⟨ROW, hROW⟩ : ∃ ROW : Array Value, ROW = (cs.take (i * 3)).toArray ++ Builtin.zeroCells (Value.agg #[.int .i64 0, .int .i64 0, .int .i64 0]).cells (n + 1 - i) ++ Builtin.zeroCells (Value.agg #[.int .i64 0, .int .i64 0, .int .i64 0]).cells (G - (n + 1)) := ⟨_, rfl⟩
  rw [← hG] at hrz ⊢
  rw [← hROW] at hrz ⊢
  have hRl : (n + 1) * 3 ≤ ROW.size := by
    rw [hROW]
    simp [Builtin.zeroCells, Value.cells]
    omega
  obtain ⟨W1, hW1⟩ : ∃ W1, W1 = w.drew.alloc (.cells ROW 62) := ⟨_, rfl⟩
  rw [← hW1] at hrz
  have hN : ∀ j, j < (n + 1) * 3 → (W1.cell? ⟨w.heap.size, j, none⟩).isSome = true := fun j hj => by
    rw [hW1, World.cell?_alloc_at (w := w.drew) ROW _ w.heap.size j rfl, Array.getElem?_eq_getElem (by omega)]; rfl
  have hNf : ∀ j, W1.frozen? ⟨w.heap.size, j, none⟩ = false := fun j => by rw [hW1]; exact World.frozen?_alloc_at (w := w.drew) ROW _ w.heap.size j rfl
  have hOb : ∀ j v, w.cell? ⟨b, j, none⟩ = some v → W1.cell? ⟨b, j, none⟩ = some v := fun j v h => by rw [hW1, World.cell?_alloc_past (w := w.drew) _ b j hbw]; exact h
  have hOv : ∀ j v, w.cell? ⟨vb, j, none⟩ = some v → W1.cell? ⟨vb, j, none⟩ = some v := fun j v h => by rw [hW1, World.cell?_alloc_past (w := w.drew) _ vb j hvb]; exact h
  have hcpA : ∀ (W : World), (∀ x, W.cell? x = W1.cell? x) → (∀ x, W.frozen? x = W1.frozen? x) → ∀ ty dc, (Builtin.copy_ #[24, 24] ty #[.slice (some ⟨w.heap.size, i * 3, none⟩) (n + 1 - i) dc, .slice (some ⟨vb, 0, none⟩) 1 1]).run Try.prog W = .ok (goInt ((1 : Nat) : Int)) (W.setCells w.heap.size (i * 3) vs) := fun W hWc hWf ty dc =>
    Q.run_copy_sz W _ _ ty 62 3 w.heap.size (i * 3) (n + 1 - i) dc ⟨vb, 0, none⟩ 1 1 1 vs hu hsz (by simp only [Nat.min_def]; split <;> omega) (by rw [hvl])
      (fun j v hj => by rw [Addr.add_lit, hWc]; exact hOv _ v (hvs j v hj))
      (fun j hj => by rw [hWc]; exact hN _ (by omega)) (fun j hj => by rw [hWf]; exact hNf _) h1v
  have hGn : n + 1 ≤ G := by rw [hG]; exact grownCap_ge w _ _ _
  have hGi : ¬ (G = i) := by omega
  have hGim : ¬ (G = i + 1) := by omega
  have hci : ¬ (c = i) := by omega
  have hbN : b ≠ w.heap.size := by omega
  have hdl : (cs.drop (i * 3)).length = (n - i) * 3 := by rw [List.length_drop, hcl]; omega
  have hcpB : ∀ (W : World), (∀ x, W.cell? x = (W1.setCells w.heap.size (i * 3) vs).cell? x) → (∀ x, W.frozen? x = (W1.setCells w.heap.size (i * 3) vs).frozen? x) → ∀ ty dc sc, (Builtin.copy_ #[24, 24] ty #[.slice (some ⟨w.heap.size, (i + 1) * 3, none⟩) (n - i) dc, .slice (some ⟨b, off + i * 3, none⟩) (n - i) sc]).run Try.prog W = .ok (goInt ((n - i : Nat) : Int)) (W.setCells w.heap.size ((i + 1) * 3) (cs.drop (i * 3))) := fun W hWc hWf ty dc sc =>
    Q.run_copy_sz W _ _ ty 62 3 w.heap.size ((i + 1) * 3) (n - i) dc ⟨b, off + i * 3, none⟩ (n - i) sc (n - i) (cs.drop (i * 3)) hu hsz (by simp only [Nat.min_def]; split <;> omega) hdl
      (fun j v hj => by
        rw [Addr.add_lit, hWc, World.cell?_setCells_out _ _ _ _ _ (fun h _ => absurd h hbN), Nat.add_assoc]
        exact hOb _ v (hcs (i * 3 + j) v (by rwa [List.getElem?_drop] at hj)))
      (fun j hj => by rw [hWc]; exact Q.isSome_setCells _ _ _ _ (fun t ht => hN _ (by omega)) _ (hN _ (by omega)))
      (fun j hj => by rw [hWf, World.frozen?_setCells]; exact hNf _) (fun v hv => h1c v (List.mem_of_mem_drop hv))
  subst hW1
  have hE1 : ∀ x, ((w.alloc (.cells ROW 62)).drew).cell? x = (w.drew.alloc (.cells ROW 62)).cell? x := fun x => rfl
  have hE2 : ∀ x, ((w.alloc (.cells ROW 62)).drew).frozen? x = (w.drew.alloc (.cells ROW 62)).frozen? x := fun x => rfl
  have hF1 : ∀ x, (((w.alloc (.cells ROW 62)).drew.setCells w.heap.size (i * 3) vs).drew).cell? x = ((w.drew.alloc (.cells ROW 62)).setCells w.heap.size (i * 3) vs).cell? x := fun x => rfl
  have hF2 : ∀ x, (((w.alloc (.cells ROW 62)).drew.setCells w.heap.size (i * 3) vs).drew).frozen? x = ((w.drew.alloc (.cells ROW 62)).setCells w.heap.size (i * 3) vs).frozen? x := fun x => rfl
  have hw1 : IntKind.i64.wrap ((i : Int) + 1) = (i : Int) + 1 := by rw [IntKind.wrap_i64]; omega
  have hw2 : IntKind.i64.wrap ((n : Int) + 1) = (n : Int) + 1 := by rw [IntKind.wrap_i64]; omega
  have hw3 : IntKind.i64.wrap ((n : Int) + 1 - (i : Int)) = (n : Int) + 1 - (i : Int) := by rw [IntKind.wrap_i64]; omega
  have hb1 : (0 : Int) ≤ (i : Int) + 1 := by omega
  have hin : i ≤ n := by omega
  have hin2 : i ≤ c := by omega
  have htn : ((i : Int) + 1).toNat = i + 1 := by omega
  have hb3 : (i : Int) ≤ (n : Int) := by omega
  clear hkk hik hold hROW hG hRl
  go_enter Try.func67, Try.ntmps67
  go_wp2_with (first
    | (at_builtin; refine Lib.wpList_append_run _ rfl _ _ _ _ rfl _ _ rfl rfl _ _ (hrz _) ?_)
    | (at_builtin; refine Q.wpList_copy_run _ rfl _ _ 24 24 rfl _ _ rfl rfl (hcpA _ hE1 hE2 _ _) ?_)
    | (at_builtin; refine Q.wpList_copy_run _ rfl _ _ 24 24 rfl _ _ rfl rfl (hcpB _ (fun _ => rfl) (fun _ => rfl) _ _ _) ?_))
  go_region_law_o (refine Q.step_copy_run rfl _ _ 24 24 rfl (.slice (some ⟨w.heap.size, (i + 1) * 3, none⟩) (n - i) (G - (i + 1))) (.slice (some ⟨b, off + i * 3, none⟩) (n - i) (c - i)) (by simp [Act.eval, Act.put]) (by simp [Act.eval, Act.put]) (hcpB _ hF1 hF2 3 (G - (i + 1)) (c - i)) ?_)
  go_wp2
  go_ret
  exact ⟨rfl, rfl⟩
set_option maxHeartbeats 2000000 in
/-- slices.Insert of one alarm. -/
theorem slices_Insert_Alarm.ins (w : World) (base : Nat) (v : Value) (n i vb : Nat) (cs : List Value) (x0 x1 x2 : Int) (hq : QRow w base 62 3 v n cs) (hb : base ≤ w.heap.size) (h1c : ∀ v ∈ cs, v.oneCell' = true)
    (hv : w.heap[vb]? = some (.cells #[.int .i64 x0, .int .i64 x1, .int .i64 x2] 62 (0, 0))) (hne : v.ownBlock ≠ some vb) (hi : i ≤ n) (hn : n ≤ 1000000) :
    Calls Try.prog 67 #[v, .int .i64 i, .slice (some ⟨vb, 0, none⟩) 1 1] w fun e w' => ∃ v', e = .returned v' ∧ QRow w' base 62 3 v' (n + 1) (cs.take (i * 3) ++ [.int .i64 x0, .int .i64 x1, .int .i64 x2] ++ cs.drop (i * 3)) ∧ w.grownBy w' v.ownBlock ∧ (v'.ownBlock = v.ownBlock ∨ ∃ b, v'.ownBlock = some b ∧ w.heap.size ≤ b) ∧ (w.ownsRow base 62 3 v n cs → w'.ownsRow base 62 3 v' (n + 1) (cs.take (i * 3) ++ [.int .i64 x0, .int .i64 x1, .int .i64 x2] ++ cs.drop (i * 3))) := by
  have hvl : ([.int .i64 x0, .int .i64 x1, .int .i64 x2] : List Value).length = 3 := rfl
  have hvs : ∀ j u, ([.int .i64 x0, .int .i64 x1, .int .i64 x2] : List Value)[j]? = some u → w.cell? ⟨vb, 0 + j, none⟩ = some u := by
    intro j u hj
    rw [cell_of_row w vb _ _ 62 (0, 0) hv, Nat.zero_add]
    rw [← Array.getElem?_toList]
    exact hj
  have h1v : ∀ u ∈ ([.int .i64 x0, .int .i64 x1, .int .i64 x2] : List Value), u.oneCell' = true := by
    intro u hu
    simp only [List.mem_cons, List.not_mem_nil, or_false] at hu
    rcases hu with rfl | rfl | rfl <;> rfl
  have hvlt := blk_lt hv
  by_cases hin : i = n
  · subst hin
    obtain ⟨i0, hi0, hz0, hzs, hzb⟩ := info_parts info62
    obtain ⟨v', w', hr, hq', hg, hat⟩ := q_append (P := Try.prog) w base 24 24 62 i0 _ 3 24 Try.underlying24 hi0 hz0 hzs hzb rfl (by omega) v i cs hq ⟨vb, 0, none⟩ 1 1 _ (by rw [hvl]) (fun j u hj => by rw [Addr.add_lit]; exact hvs j u hj) h1v (by omega) (by simp only [maxLen]; omega) (by omega) hb
    have hl : cs.length = i * 3 := hq.1
    have ec : cs.take (i * 3) ++ [.int .i64 x0, .int .i64 x1, .int .i64 x2] ++ cs.drop (i * 3) = cs ++ [.int .i64 x0, .int .i64 x1, .int .i64 x2] := by
      rw [← hl, List.take_length, List.drop_length, List.append_nil]
    rw [ec]
    have hown : w.ownsRow base 62 3 v i cs → w'.ownsRow base 62 3 v' (i + 1) (cs ++ [.int .i64 x0, .int .i64 x1, .int .i64 x2]) := by
      intro ho
      obtain ⟨v2, w2, hr2, ho2, _⟩ := run_append_own_at (P := Try.prog) w base 24 24 62 i0 _ 3 24 Try.underlying24 hi0 hz0 hzs hzb rfl (by omega) v i cs ho ⟨vb, 0, none⟩ 1 1 _ (by rw [hvl]) (fun j u hj => by rw [Addr.add_lit]; exact hvs j u hj) h1v (by simp only [maxLen]; omega) (by omega) hb
      rw [hr] at hr2
      injection hr2 with e1 e2
      subst e1; subst e2
      exact ho2
    obtain ⟨A, c, rfl, hnc⟩ := q_slice hq
    have h0 : Calls Try.prog 67 #[.slice A i c, .int .i64 i, .slice (some ⟨vb, 0, none⟩) 1 1] w fun e w2 => e = .returned v' ∧ w2 = w' := by
      have hu := Try.underlying24
      have hr' : ∀ ty, (Builtin.append_ #[24, 24] ty #[.slice A i c, .slice (some ⟨vb, 0, none⟩) 1 1]).run Try.prog w = .ok v' w' := fun ty => hr
      have hle : i ≤ c := hnc
      clear hr hq hq' hg hat hown hne hv h1c hvs h1v hvlt ec
      cases A with
      | none =>
        go_enter Try.func67, Try.ntmps67
        go_wp2_with (at_builtin; refine Lib.wpList_append_run _ rfl _ _ _ _ rfl _ _ rfl rfl _ _ (hr' _) ?_)
        go_ret
        exact ⟨rfl, rfl⟩
      | some a =>
        obtain ⟨ab, ao, asp⟩ := a
        go_enter Try.func67, Try.ntmps67
        go_wp2_with (at_builtin; refine Lib.wpList_append_run _ rfl _ _ _ _ rfl _ _ rfl rfl _ _ (hr' _) ?_)
        all_goals (go_ret; exact ⟨rfl, rfl⟩)
    refine h0.mono ?_
    rintro e w2 ⟨rfl, rfl⟩
    exact ⟨v', rfl, hq', hg, hat, hown⟩
  · have hlt : i < n := by omega
    rcases hq.2 with ⟨h0, _⟩ | ⟨g, off, cap, cur, rfl, hbg, hg, hnc, hcm, hsz, hcur⟩
    · omega
    have hl : cs.length = n * 3 := hq.1
    have hgv : vb ≠ g := fun e => hne (by rw [e]; rfl)
    have hcs : ∀ j u, cs[j]? = some u → w.cell? ⟨g, off * 3 + j, none⟩ = some u := by
      intro j u hj
      rw [cell_of_row w g _ cur 62 (0, 0) hg]
      rw [← hcur, List.getElem?_take] at hj
      split at hj
      · rw [List.getElem?_drop] at hj
        rw [← Array.getElem?_toList]
        exact hj
      · cases hj
    have hmax : off + cap ≤ 9223372036854775807 := by simp only [maxLen] at hcm; omega
    have hglt := blk_lt hg
    have hcl1 : (cs.take (i * 3)).length = i * 3 := by rw [List.length_take, hl]; omega
    have hcl2 : (cs.drop (i * 3)).length = n * 3 - i * 3 := by rw [List.length_drop, hl]
    have hcurl : cur.toList.length = (off + cap) * 3 := by rw [Array.length_toList, hsz]
    have hparts : cur.toList = cur.toList.take (off * 3) ++ (cs.take (i * 3) ++ (cs.drop (i * 3) ++ cur.toList.drop (off * 3 + n * 3))) := by
      rw [← List.append_assoc (cs.take (i * 3)), List.take_append_drop, ← hcur, ← List.drop_drop, List.take_append_drop, List.take_append_drop]
    have hAl : (cur.toList.take (off * 3)).length = off * 3 := by rw [List.length_take, hcurl]; omega
    by_cases hroom : n + 1 ≤ cap
    · refine (slices_Insert_Alarm.shift g (off * 3) n cap i vb cs _ w hlt hroom (by omega) hgv hl hvl hcs (fun j hj => by rw [cell_of_row w g _ cur 62 (0, 0) hg, Array.getElem?_eq_getElem (by omega)]; rfl) (fun j _ => blk_frozen hg _) hvs h1c h1v _ _ _ _ (Q.shape_of hv) (Q.shape_of hg) (by omega) (Q.frozen_of hv _) (Q.frozen_of hv _)).mono ?_
      rintro e w' ⟨rfl, rfl⟩
      have hgd : w.drew.heap[g]? = some (.cells cur 62 (0, 0)) := hg
      obtain ⟨cur1, g1, s1, l1⟩ := setCells_row (cs.drop (i * 3)) (off * 3 + (i + 1) * 3) w.drew cur hgd (by rw [hcl2, hsz]; omega)
      obtain ⟨cur2, g2, s2, l2⟩ := setCells_row [.int .i64 x0, .int .i64 x1, .int .i64 x2] (off * 3 + i * 3) _ cur1 g1 (by rw [hvl, s1, hsz]; omega)
      obtain ⟨a1, a2, a3, a4⟩ := setCells_same g (cs.drop (i * 3)) (off * 3 + (i + 1) * 3) w.drew
      obtain ⟨b1, b2, b3, b4⟩ := setCells_same g [.int .i64 x0, .int .i64 x1, .int .i64 x2] (off * 3 + i * 3) (w.drew.setCells g (off * 3 + (i + 1) * 3) (cs.drop (i * 3)))
      refine ⟨_, rfl, ⟨by simp only [List.length_append, hcl1, hcl2, List.length_cons, List.length_nil]; omega, .inr ⟨g, off, cap, cur2, rfl, hbg, g2, hroom, hcm, by rw [s2, s1, hsz], ?_⟩⟩, ⟨b1.trans a1, b2.trans a2, b3.trans a3, by rw [b4, a4]; exact Nat.le_refl _, fun k _ hk => ?_⟩, .inl rfl, fun ho => ?_⟩
      · have := Q.ins_list (X := cur.toList.drop (off * 3 + (i + 1) * 3 + (cs.drop (i * 3)).length)) hparts (vs := [.int .i64 x0, .int .i64 x1, .int .i64 x2]) (by rw [List.length_drop, hcurl, hvl]; omega) (L1 := cur1.toList) (by rw [l1, hAl, hcl1, hvl, show off * 3 + i * 3 + 3 = off * 3 + (i + 1) * 3 by omega]) (L2 := cur2.toList) (by rw [l2, hAl, hcl1, hvl])
        rw [hAl, hcl1, hcl2, hvl, show i * 3 + 3 + (n * 3 - i * 3) = (n + 1) * 3 by omega] at this
        exact this
      · have hkg : k ≠ g := fun e => hk (by rw [e]; rfl)
        rw [setCells_far _ _ k hkg, setCells_far _ _ k hkg]
        rfl
      · rcases ho.2 with ⟨e, _⟩ | ⟨g', cap', cur', e, _⟩
        · injection e with e
          cases e
        · injection e with e _ _
          injection e with e
          injection e with _ e
          have hoff : off = 0 := by omega
          subst hoff
          refine ⟨by simp only [List.length_append, hcl1, hcl2, List.length_cons, List.length_nil]; omega, .inr ⟨g, cap, cur2, by rw [Nat.zero_mul], hbg, g2, hroom, by omega, by rw [s2, s1, hsz, Nat.zero_add], ?_⟩⟩
          have := Q.ins_list (X := cur.toList.drop (0 * 3 + (i + 1) * 3 + (cs.drop (i * 3)).length)) hparts (vs := [.int .i64 x0, .int .i64 x1, .int .i64 x2]) (by rw [List.length_drop, hcurl, hvl]; omega) (L1 := cur1.toList) (by rw [l1, hAl, hcl1, hvl, show 0 * 3 + i * 3 + 3 = 0 * 3 + (i + 1) * 3 by omega]) (L2 := cur2.toList) (by rw [l2, hAl, hcl1, hvl])
          rw [hAl, hcl1, hcl2, hvl, show i * 3 + 3 + (n * 3 - i * 3) = (n + 1) * 3 by omega, Nat.zero_mul, List.drop_zero] at this
          exact this
    · refine (slices_Insert_Alarm.grow g (off * 3) n cap i vb cs _ w hlt hnc (by omega) (by omega) hl hvl hvlt hglt hcs hvs h1c h1v).mono ?_
      rintro e w' ⟨rfl, rfl⟩
      obtain ⟨ROW, hROW⟩ : ∃ ROW : Array Value, ROW = (cs.take (i * 3)).toArray ++ Builtin.zeroCells (Value.agg #[.int .i64 0, .int .i64 0, .int .i64 0]).cells (n + 1 - i) ++ Builtin.zeroCells (Value.agg #[.int .i64 0, .int .i64 0, .int .i64 0]).cells (grownCap w (n + 1) cap 62 - (n + 1)) := ⟨_, rfl⟩
      rw [← hROW]
      have hGn : n + 1 ≤ grownCap w (n + 1) cap 62 := grownCap_ge w _ _ _
      have hGm : grownCap w (n + 1) cap 62 ≤ maxLen := grownCap_le_maxLen w (n + 1) cap 62 (by simp only [maxLen]; omega)
      have hRs : ROW.size = grownCap w (n + 1) cap 62 * 3 := by
        rw [hROW]
        simp only [Array.size_append, List.size_toArray, size_zeroCells, hcl1, Value.cells]
        show i * 3 + (n + 1 - i) * 3 + (grownCap w (n + 1) cap 62 - (n + 1)) * 3 = _
        omega
      have hRt : ROW.toList.take (i * 3) = cs.take (i * 3) := by
        rw [hROW]
        simp only [Array.toList_append, List.append_assoc]
        exact List.take_left' hcl1
      have hg0 : ((w.alloc (.cells ROW 62)).drew).heap[w.heap.size]? = some (.cells ROW 62 (0, 0)) := heap_alloc_new w _
      obtain ⟨cur1, g1, s1, l1⟩ := setCells_row [.int .i64 x0, .int .i64 x1, .int .i64 x2] (i * 3) _ ROW hg0 (by rw [hvl, hRs]; omega)
      have g1' : (((w.alloc (.cells ROW 62)).drew.setCells w.heap.size (i * 3) [.int .i64 x0, .int .i64 x1, .int .i64 x2]).drew).heap[w.heap.size]? = some (.cells cur1 62 (0, 0)) := g1
      obtain ⟨cur2, g2, s2, l2⟩ := setCells_row (cs.drop (i * 3)) ((i + 1) * 3) _ cur1 g1' (by rw [hcl2, s1, hRs]; omega)
      obtain ⟨a1, a2, a3, a4⟩ := setCells_same w.heap.size [.int .i64 x0, .int .i64 x1, .int .i64 x2] (i * 3) (w.alloc (.cells ROW 62)).drew
      obtain ⟨b1, b2, b3, b4⟩ := setCells_same w.heap.size (cs.drop (i * 3)) ((i + 1) * 3) ((w.alloc (.cells ROW 62)).drew.setCells w.heap.size (i * 3) [.int .i64 x0, .int .i64 x1, .int .i64 x2]).drew
      refine ⟨_, rfl, ⟨by simp only [List.length_append, hcl1, hcl2, List.length_cons, List.length_nil]; omega, .inr ⟨w.heap.size, 0, grownCap w (n + 1) cap 62, cur2, rfl, hb, g2, hGn, by omega, by rw [s2, s1, hRs, Nat.zero_add], ?_⟩⟩, ⟨b1.trans a1, b2.trans a2, b3.trans a3, by rw [b4]; show w.heap.size ≤ ((w.alloc (.cells ROW 62)).drew.setCells w.heap.size (i * 3) _).heap.size; rw [a4]; simp, fun k hk _ => ?_⟩, .inr ⟨_, rfl, Nat.le_refl _⟩, fun _ => ?_⟩
      · have t1 : cur1.toList.take ((i + 1) * 3) = cs.take (i * 3) ++ [.int .i64 x0, .int .i64 x1, .int .i64 x2] := by
          rw [l1, hRt]
          exact List.take_left' (by rw [List.length_append, hcl1, hvl]; omega)
        rw [l2, t1, Nat.zero_mul, List.drop_zero]
        exact List.take_left' (by simp only [List.length_append, hcl1, hcl2, List.length_cons, List.length_nil]; omega)
      · have hkg : k ≠ w.heap.size := by omega
        rw [setCells_far _ _ k hkg]
        show ((w.alloc (.cells ROW 62)).drew.setCells w.heap.size (i * 3) _).heap[k]? = _
        rw [setCells_far _ _ k hkg]
        exact heap_alloc_old w _ hk
      · have t1 : cur1.toList.take ((i + 1) * 3) = cs.take (i * 3) ++ [.int .i64 x0, .int .i64 x1, .int .i64 x2] := by
          rw [l1, hRt]
          exact List.take_left' (by rw [List.length_append, hcl1, hvl]; omega)
        refine ⟨by simp only [List.length_append, hcl1, hcl2, List.length_cons, List.length_nil]; omega, .inr ⟨w.heap.size, _, cur2, rfl, hb, g2, hGn, hGm, by rw [s2, s1, hRs], ?_⟩⟩
        rw [l2, t1]
        exact List.take_left' (by simp only [List.length_append, hcl1, hcl2, List.length_cons, List.length_nil]; omega)


end Go.Proofs.Ytlejcgnfpcngbaa.P
