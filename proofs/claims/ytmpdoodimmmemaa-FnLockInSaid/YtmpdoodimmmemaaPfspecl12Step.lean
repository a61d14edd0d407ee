-- printed by wip/qd.py
import Derived.Test.YtmpdoodimmmemaaPf0
namespace Go.Proofs.Ytmpdoodimmmemaa.P
open Go.RowKit Go.Proofs.YtmpdoodimmmemaaW.PrintWords Go.Proofs.YtmpdoodimmmemaaW.PrintLast Go.Proofs.YtmpdoodimmmemaaW.PrintMore
attribute [local go_sem] max2_int min2_int max_two min_two max_three min_three max_four min_four Q.cell_set_map
set_option linter.unusedVariables false
set_option linter.unusedSimpArgs false

/-! ### spec_l12Step: function 48 -/
theorem w48_0 {p h : Prop} (H : h) (k : h → p := by intro h; repeat (first | (with_reducible first | exact h | apply Kept.alloc | apply Kept.drewN | apply Kept.drew) | exact h)) : p := k H
theorem w48_1 {p h b1 b2 b3 : Prop} (H : h) (A1 : b1) (A2 : b2) (A3 : b3) (k : h → b1 → b2 → b3 → p := by intro h a1 a2 a3; repeat (first | (with_reducible first | exact h | apply below_alloc | apply pw_below_drewN | apply below_drew1 | refine below_set ?_ a1 | refine below_set ?_ a2 | refine below_set ?_ a3) | exact h)) : p := k H A1 A2 A3
mutual
def spec_l12Step.j1 : Nat → Int → Int → List (S45) → List Int → Int → Int → Int → Bool → Option (Int × (List (S45)) × List Int)
 | 0, _, _, _, _, _, _, _, _ => none
 | k + 1, x1, x102000, x102001, x102002, x105000, x105001, x105002, x105003 => if 0 ≤ x1 then (if x1 < (x102001.length : Int) then (some (x102000, (x102001.set (x1 : Int).toNat (⟨x105000, x105001, x105002, x105003⟩ : S45)), x102002)) else (none)) else (none)
def spec_l12Step.j0 : Nat → Int → Int → Bool → Int → List (S45) → List Int → Int → Int → Int → Bool → Option (Int × (List (S45)) × List Int)
 | 0, _, _, _, _, _, _, _, _, _, _ => none
 | k + 1, x1, x12, x13, x102000, x102001, x102002, x105000, x105001, x105002, x105003 => if x13 = true then (if x102000 = 0 then (spec_l12Step.j1 k x1 (wrap64 (1 + (wrap64 (Int.tdiv x105000 3)))) x102001 x102002 4 x105001 x105002 x105003) else (spec_l12Step.j1 k x1 x102000 x102001 x102002 1 x102000 x105002 x105003)) else (if x12 = 1 then (if x105001 = 2 then (spec_l12Step.j1 k x1 x102000 x102001 x102002 2 0 x105002 x105003) else (if x102000 = 0 then (spec_l12Step.j1 k x1 x102000 x102001 x102002 3 0 x105002 x105003) else (spec_l12Step.j1 k x1 2 x102001 x102002 2 0 x105002 x105003))) else (if x12 = 2 then (if x102000 = 2 then (if x102002.length < 17592186044416 then (spec_l12Step.j1 k x1 x102000 x102001 (x102002 ++ [x1]) 3 x105001 x105002 true) else (none)) else (spec_l12Step.j1 k x1 x102000 x102001 x102002 3 x105001 x105002 x105003)) else (if x12 = 4 then (if (wrap64 (x102000 - 1)) ≤ 0 then (spec_l12Step.j1 k x1 0 x102001 x102002 0 x105001 (wrap64 (x105002 - 1)) x105003) else (spec_l12Step.j1 k x1 (wrap64 (x102000 - 1)) x102001 x102002 5 x105001 x105002 x105003)) else (if x12 = 5 then (spec_l12Step.j1 k x1 0 x102001 x102002 6 x105001 x105002 x105003) else (if x12 = 6 then (if (x102002.length : Int) > 0 then (if 0 < (x102002.length : Int) then (if 0 ≤ (rd x102002 0) then (if (rd x102002 0) < (x102001.length : Int) then ((some (([] : List Int) : List Int)).bind fun y110 => (if 1 ≤ (x102002.length : Int) then ((some (x102002.drop 1 : List Int)).bind fun y113 => (if y110.length + y113.length < 17592186044416 then (spec_l12Step.j1 k x1 x102000 (x102001.set ((rd x102002 0) : Int).toNat (⟨(rd_T45 x102001 (rd x102002 0)).f0, (rd_T45 x102001 (rd x102002 0)).f1, (rd_T45 x102001 (rd x102002 0)).f2, false⟩ : S45)) (y110 ++ y113) 0 x105001 (wrap64 (x105002 - 1)) x105003) else (none))) else (none))) else (none)) else (none)) else (none)) else (spec_l12Step.j1 k x1 x102000 x102001 x102002 0 x105001 (wrap64 (x105002 - 1)) x105003)) else (spec_l12Step.j1 k x1 x102000 x102001 x102002 x105000 x105001 x105002 x105003))))))
end
def spec_l12Step.f (k : Nat) (a0_0 : Int) (l0_1 : List (S45)) (l0_2 : List Int) (a1 : Int) : Option (Int × (List (S45)) × List Int) := if 0 ≤ a1 then (if a1 < (l0_1.length : Int) then (if ((rd_T45 l0_1 a1).f0) = 0 then (spec_l12Step.j0 k a1 ((rd_T45 l0_1 a1).f0) true a0_0 l0_1 l0_2 ((rd_T45 l0_1 a1).f0) ((rd_T45 l0_1 a1).f1) ((rd_T45 l0_1 a1).f2) ((rd_T45 l0_1 a1).f3)) else (spec_l12Step.j0 k a1 ((rd_T45 l0_1 a1).f0) (((rd_T45 l0_1 a1).f0) == 3) a0_0 l0_1 l0_2 ((rd_T45 l0_1 a1).f0) ((rd_T45 l0_1 a1).f1) ((rd_T45 l0_1 a1).f2) ((rd_T45 l0_1 a1).f3))) else (none)) else (none)
theorem spec_l12Step.mono_l : ∀ k, (∀ y0 y1 y2 y3 y4 y5 y6 y7, LeO (spec_l12Step.j1 k y0 y1 y2 y3 y4 y5 y6 y7) (spec_l12Step.j1 (k + 1) y0 y1 y2 y3 y4 y5 y6 y7)) ∧ (∀ y0 y1 y2 y3 y4 y5 y6 y7 y8 y9, LeO (spec_l12Step.j0 k y0 y1 y2 y3 y4 y5 y6 y7 y8 y9) (spec_l12Step.j0 (k + 1) y0 y1 y2 y3 y4 y5 y6 y7 y8 y9))
 | 0 => ⟨fun _ _ _ _ _ _ _ _ r h => by simp [spec_l12Step.j1] at h, fun _ _ _ _ _ _ _ _ _ _ r h => by simp [spec_l12Step.j0] at h⟩
 | k + 1 => by
  obtain ⟨ih0, ih1⟩ := spec_l12Step.mono_l k
  refine ⟨?_, ?_⟩
  ·
   intro y0 y1 y2 y3 y4 y5 y6 y7
   unfold spec_l12Step.j1
   repeat' first
   | (with_reducible exact ih0 _ _ _ _ _ _ _ _)
   | (with_reducible exact ih1 _ _ _ _ _ _ _ _ _ _)
   | (with_reducible exact LeO.refl _)
   | (with_reducible exact LeO.none _)
   | (with_reducible refine LeO.ite ?_ ?_)
   | (with_reducible refine LeO.bind ?_ (fun _ => ?_))
   | exact ih0 _ _ _ _ _ _ _ _
   | exact ih1 _ _ _ _ _ _ _ _ _ _
   | exact LeO.none _
   | refine LeO.ite ?_ ?_
   | refine LeO.bind ?_ (fun _ => ?_)
  ·
   intro y0 y1 y2 y3 y4 y5 y6 y7 y8 y9
   unfold spec_l12Step.j0
   repeat' first
   | (with_reducible exact ih0 _ _ _ _ _ _ _ _)
   | (with_reducible exact ih1 _ _ _ _ _ _ _ _ _ _)
   | (with_reducible exact LeO.refl _)
   | (with_reducible exact LeO.none _)
   | (with_reducible refine LeO.ite ?_ ?_)
   | (with_reducible refine LeO.bind ?_ (fun _ => ?_))
   | exact ih0 _ _ _ _ _ _ _ _
   | exact ih1 _ _ _ _ _ _ _ _ _ _
   | exact LeO.none _
   | refine LeO.ite ?_ ?_
   | refine LeO.bind ?_ (fun _ => ?_)
theorem spec_l12Step.mono : ∀ a0 a1 a2 a3 k, LeO (spec_l12Step.f k a0 a1 a2 a3) (spec_l12Step.f (k + 1) a0 a1 a2 a3) := by
 intro a0 a1 a2 a3 k
 obtain ⟨ih0, ih1⟩ := spec_l12Step.mono_l k
 unfold spec_l12Step.f
 repeat' first
   | (with_reducible exact ih0 _ _ _ _ _ _ _ _)
   | (with_reducible exact ih1 _ _ _ _ _ _ _ _ _ _)
   | (with_reducible exact LeO.refl _)
   | (with_reducible exact LeO.none _)
   | (with_reducible refine LeO.ite ?_ ?_)
   | (with_reducible refine LeO.bind ?_ (fun _ => ?_))
   | exact ih0 _ _ _ _ _ _ _ _
   | exact ih1 _ _ _ _ _ _ _ _ _ _
   | exact LeO.none _
   | refine LeO.ite ?_ ?_
   | refine LeO.bind ?_ (fun _ => ?_)
def spec_l12Step.T35 : Bool × List (List Nat × List Nat) := (true, [([], []), ([0], [0]), ([], []), ([2], [2]), ([3], [3]), ([4], [4]), ([1, 5, 0, 1, 2, 3, 4, 5], [1, 5]), ([6, 0, 1, 2, 3, 4, 5], [6]), ([7, 0, 1, 2, 3, 4, 5], [7])])
def spec_l12Step.B35 : List Nat := [0, 1, 0, 4, 12, 28, 63, 127, 255]
theorem spec_l12Step.tab35 : rtab .any (opsOf Try.f48 35) = spec_l12Step.T35 := by kernel_rfl
theorem spec_l12Step.bits35 : waitsOk spec_l12Step.T35.2 spec_l12Step.B35 = true := by kernel_rfl
set_option maxHeartbeats 8000000 in
set_option maxRecDepth 100000 in
theorem spec_l12Step.calls (k : Nat) (a0_0 : Int) (P0_1_ : Nat → Prop) (u9000_ : Value) (l0_1 : List (S45)) (P0_2_ : Nat → Prop) (u9001_ : Value) (l0_2 : List Int) (a1 : Int) (r1 : Int) (r2 : List (S45)) (r3 : List Int) (w0 w : World) (hB : Below w0.heap.size w0 w) (ho0_1 : Kd.R k45 45 w w0.heap.size P0_1_ u9000_ l0_1) (ho0_2 : Kd.R (Kd.int .i64) 3 w w0.heap.size P0_2_ u9001_ l0_2) (h : spec_l12Step.f k a0_0 l0_1 l0_2 a1 = some (r1, r2, r3)) :
  Calls Try.prog 48 #[.agg #[.int .i64 a0_0, u9000_, u9001_], .int .i64 a1] w fun e w' => ∃ v1_ v2_ : Value, e = .returned (.agg #[.int .i64 r1, v1_, v2_]) ∧ Kd.R k45 45 w' w0.heap.size (fun k_ => ((P0_1_ k_ ∨ P0_2_ k_) ∨ w.heap.size ≤ k_)) v1_ r2 ∧ Kd.R (Kd.int .i64) 3 w' w0.heap.size (fun k_ => ((P0_1_ k_ ∨ P0_2_ k_) ∨ w.heap.size ≤ k_)) v2_ r3 ∧ Below w0.heap.size w0 w' ∧ Kept w w' (fun k_ => P0_1_ k_ ∨ P0_2_ k_) := by
 have hu37 := Try.underlying37; have hu45 := Try.underlying45; have HO0_1 := Aside0.mk (show Kd.R k45 45 w w0.heap.size (fun k_ => ((P0_1_ k_ ∨ P0_2_ k_) ∨ w.heap.size ≤ k_)) u9000_ l0_1 from Kd.R_mono ho0_1 (fun k_ hk => (.inl (.inl hk)))); have HO0_2 := Aside0.mk (show Kd.R (Kd.int .i64) 3 w w0.heap.size (fun k_ => ((P0_1_ k_ ∨ P0_2_ k_) ∨ w.heap.size ≤ k_)) u9001_ l0_2 from Kd.R_mono ho0_2 (fun k_ hk => (.inl (.inr hk)))); have HK := Aside0.mk (Kept.refl w (fun k_ => P0_1_ k_ ∨ P0_2_ k_)); have HW0 := Aside0.mk hB.size; have HB := Aside0.mk hB; clear hB; have H : (if 0 ≤ a1 then (if a1 < (l0_1.length : Int) then (if ((rd_T45 l0_1 a1).f0) = 0 then (spec_l12Step.j0 k a1 ((rd_T45 l0_1 a1).f0) true a0_0 l0_1 l0_2 ((rd_T45 l0_1 a1).f0) ((rd_T45 l0_1 a1).f1) ((rd_T45 l0_1 a1).f2) ((rd_T45 l0_1 a1).f3)) else (spec_l12Step.j0 k a1 ((rd_T45 l0_1 a1).f0) (((rd_T45 l0_1 a1).f0) == 3) a0_0 l0_1 l0_2 ((rd_T45 l0_1 a1).f0) ((rd_T45 l0_1 a1).f1) ((rd_T45 l0_1 a1).f2) ((rd_T45 l0_1 a1).f3))) else (none)) else (none)) = some (r1, r2, r3) := h; clear h
 by_cases c3 : 0 ≤ a1
 ·
  rw [if_pos c3] at H; have c3b0 : decide (0 ≤ a1) = true := decide_eq_true c3; clear c3
  by_cases c4 : a1 < (l0_1.length : Int)
  ·
   rw [if_pos c4] at H; have c4b0 : decide (a1 < (l0_1.length : Int)) = true := decide_eq_true c4; clear c4; have HC5 := Aside0.mk H; clear H; obtain ⟨Ao6, co6, eo6⟩ := Kd.R_slice HO0_1.out; subst eo6; obtain ⟨Ao7, co7, eo7⟩ := Kd.R_slice HO0_2.out; subst eo7
   go_enter Try.func48, Try.ntmps48
   go_upto_block 0 with (first | ((with_reducible refine gate_dst (N := 2) rfl ?_); refine box_event ?hg (N := 2) ?hd (cs := #[.int .i64 a0_0, .slice Ao6 l0_1.length co6, .slice Ao7 l0_2.length co7]) (t := 37) ?hr ?_; (case hd => rfl); (case hg => rfl); (case hr => first | (go_simp; done) | (go_simp; rfl)); intro gb101 hg w8 hbox hb; replace HO0_1 := Aside0.mk (Kd.R_below (rz HO0_1.out) hb); replace HO0_2 := Aside0.mk (Kd.R_below (rz HO0_2.out) hb); have BK101 := Aside0.mk (hbox); have GW101 := Aside0.mk ((by rw [hg]; exact (by first | exact HK.out.1 | exact (show Kept w _ (fun k_ => P0_1_ k_ ∨ P0_2_ k_) from by repeat (first | (with_reducible first | exact HK.out | apply Kept.alloc | apply Kept.drewN | apply Kept.drew) | exact HK.out)).1) : w.heap.size ≤ gb101)); replace HK := Aside0.mk (Kept.below (S := (fun k_ => P0_1_ k_ ∨ P0_2_ k_)) (w48_0 HK.out) hb); have GE101 := Aside0.mk ((by rw [hg]; exact (below_size (bz HB.out)) : w0.heap.size ≤ gb101)); replace HB := Aside0.mk (below_step (bz HB.out) hb); clear hb hbox hg) | ((with_reducible refine gate_dst (N := 4) rfl ?_); refine box_event ?hg (N := 4) ?hd (cs := #[.int .i64 0, .slice none 0 0, .slice none 0 0]) (t := 37) ?hr ?_; (case hd => rfl); (case hg => rfl); (case hr => first | (go_simp; done) | (go_simp; rfl)); intro gb102 hg w9 hbox hb; replace HO0_1 := Aside0.mk (Kd.R_below (rz HO0_1.out) hb); replace HO0_2 := Aside0.mk (Kd.R_below (rz HO0_2.out) hb); have BK102 := Aside0.mk (hbox); have GW102 := Aside0.mk ((by rw [hg]; exact (by first | exact HK.out.1 | exact (show Kept w _ (fun k_ => P0_1_ k_ ∨ P0_2_ k_) from by repeat (first | (with_reducible first | exact HK.out | apply Kept.alloc | apply Kept.drewN | apply Kept.drew | refine Kept.setCell ?_ (.inr GW101.out) _) | exact HK.out)).1) : w.heap.size ≤ gb102)); replace HK := Aside0.mk (Kept.below (S := (fun k_ => P0_1_ k_ ∨ P0_2_ k_)) (by repeat (first | (with_reducible first | exact HK.out | apply Kept.alloc | apply Kept.drewN | apply Kept.drew | refine Kept.setCell ?_ (.inr GW101.out) _) | exact HK.out)) hb); have GE102 := Aside0.mk ((by rw [hg]; exact (below_size (bs HB.out GE101.out)) : w0.heap.size ≤ gb102)); replace HB := Aside0.mk (below_step (bs HB.out GE101.out) hb); have NB101_102 := Aside0.mk ((by rw [hg]; exact Nat.ne_of_lt (blk_lt (kz BK101.out)) : gb101 ≠ gb102)); have NB102_101 := Aside0.mk NB101_102.out.symm; replace BK101 := Aside0.mk (blk_below (kz BK101.out) hb); clear hb hbox hg; have hnb10 := NB101_102.out; have hnc10 := NB102_101.out; obtain ⟨hcz11_0, hcz11_1, hcz11_2⟩ := cz3 BK101.out; obtain ⟨hfz11_0, hfz11_1, hfz11_2⟩ := fz3 BK101.out; have p103 : 0 ≤ (a1 : Int) := of_decide_eq_true zs; have q103 : a1 < (l0_1.length : Int) := of_decide_eq_true zs; obtain ⟨ad103, e103, hx103_0, hx103_1, hx103_2, hx103_3⟩ := at_T45 (Kd.R_reads' HO0_1.out).2.2 a1 p103 q103; cases e103; replace p103 := eq_true p103; replace q103 := eq_true q103) | ((with_reducible refine gate_dst (N := 5) rfl ?_); refine box_event ?hg (N := 5) ?hd (cs := #[.int .i64 0, .int .i64 0, .int .i64 0, .bool false]) (t := 45) ?hr ?_; (case hd => rfl); (case hg => rfl); (case hr => first | (go_simp; done) | (go_simp; rfl)); intro gb104 hg w12 hbox hb; replace HO0_1 := Aside0.mk (Kd.R_below (Kd.R_elderB (rz HO0_1.out) gb104 (Nat.le_of_eq hg.symm)) hb); replace HO0_2 := Aside0.mk (Kd.R_below (rz HO0_2.out) hb); have BK104 := Aside0.mk (hbox); have GW104 := Aside0.mk ((by rw [hg]; exact (by first | exact HK.out.1 | exact (show Kept w _ (fun k_ => P0_1_ k_ ∨ P0_2_ k_) from by repeat (first | (with_reducible first | exact HK.out | apply Kept.alloc | apply Kept.drewN | apply Kept.drew | refine Kept.setCell ?_ (.inr GW101.out) _ | refine Kept.setCell ?_ (.inr GW102.out) _) | exact HK.out)).1) : w.heap.size ≤ gb104)); replace HK := Aside0.mk (Kept.below (S := (fun k_ => P0_1_ k_ ∨ P0_2_ k_)) (by repeat (first | (with_reducible first | exact HK.out | apply Kept.alloc | apply Kept.drewN | apply Kept.drew | refine Kept.setCell ?_ (.inr GW101.out) _ | refine Kept.setCell ?_ (.inr GW102.out) _) | exact HK.out)) hb); have GE104 := Aside0.mk ((by rw [hg]; exact (below_size (bs2 HB.out GE101.out GE102.out)) : w0.heap.size ≤ gb104)); replace HB := Aside0.mk (below_step (bs2 HB.out GE101.out GE102.out) hb); have NB101_104 := Aside0.mk ((by rw [hg]; exact Nat.ne_of_lt (blk_lt (kz BK101.out)) : gb101 ≠ gb104)); have NB104_101 := Aside0.mk NB101_104.out.symm; replace BK101 := Aside0.mk (blk_below (kz BK101.out) hb); have NB102_104 := Aside0.mk ((by rw [hg]; exact Nat.ne_of_lt (blk_lt (kz BK102.out)) : gb102 ≠ gb104)); have NB104_102 := Aside0.mk NB102_104.out.symm; replace BK102 := Aside0.mk (blk_below (kz BK102.out) hb); clear hb hbox hg; have hnb13 := NB104_101.out; have hnc13 := NB101_104.out; have hnb14 := NB104_102.out; have hnc14 := NB102_104.out; obtain ⟨hcz15_0, hcz15_1, hcz15_2, hcz15_3⟩ := cz4 BK104.out; obtain ⟨hfz15_0, hfz15_1, hfz15_2, hfz15_3⟩ := fz4 BK104.out))
   (try simp only [Act.put, List.setIfInBounds_toArray, List.set_cons_zero, List.set_cons_succ])
   go_cut [] (fun wc => ∃ (kq : Nat) (x102000_4 : Int) (x102001_4 : List (S45)) (x102002_4 : List Int) (x105000_4 : Int) (x105001_4 : Int) (x105002_4 : Int) (x105003_4 : Bool) (u102001 : Value) (u102002 : Value), Aside0 (spec_l12Step.j1 kq a1 x102000_4 x102001_4 x102002_4 x105000_4 x105001_4 x105002_4 x105003_4 = some (r1, r2, r3)) ∧ Aside0 (kq ≤ k) ∧ Aside0 (Kd.R k45 45 wc w0.heap.size (fun k_ => ((P0_1_ k_ ∨ P0_2_ k_) ∨ w.heap.size ≤ k_) ∧ k_ ≠ gb104) u102001 x102001_4) ∧ Aside0 (Kd.R (Kd.int .i64) 3 wc w0.heap.size (fun k_ => ((P0_1_ k_ ∨ P0_2_ k_) ∨ w.heap.size ≤ k_)) u102002 x102002_4) ∧ Aside0 (wc.heap[gb101]? = some (.cells #[.int .i64 x102000_4, u102001, u102002] 37 (0, 0))) ∧ Aside0 (wc.heap[gb102]? = some (.cells #[.int .i64 0, (.slice none 0 0), (.slice none 0 0)] 37 (0, 0))) ∧ Aside0 (wc.heap[gb104]? = some (.cells #[.int .i64 x105000_4, .int .i64 x105001_4, .int .i64 x105002_4, .bool x105003_4] 45 (0, 0))) ∧ Aside0 (Kept w wc (fun k_ => P0_1_ k_ ∨ P0_2_ k_)) ∧ Aside0 (Below w0.heap.size w0 wc))
   case first =>
    have H := HC5.out; clear HC5; have HC16 := Aside0.mk H; clear H
    go_upto_if 13 with (fail)
    go_cut [13] (fun v13 wc => ∃ (kq : Nat) (x13_15 : Bool), v13 = .bool x13_15 ∧ Aside0 (spec_l12Step.j0 kq a1 ((rd_T45 l0_1 a1).f0) x13_15 a0_0 l0_1 l0_2 ((rd_T45 l0_1 a1).f0) ((rd_T45 l0_1 a1).f1) ((rd_T45 l0_1 a1).f2) ((rd_T45 l0_1 a1).f3) = some (r1, r2, r3)) ∧ Aside0 (kq ≤ k) ∧ Aside0 (Kd.R k45 45 wc w0.heap.size (fun k_ => ((P0_1_ k_ ∨ P0_2_ k_) ∨ w.heap.size ≤ k_) ∧ k_ ≠ gb104) (.slice (some ad103) l0_1.length co6) l0_1) ∧ Aside0 (Kd.R (Kd.int .i64) 3 wc w0.heap.size (fun k_ => ((P0_1_ k_ ∨ P0_2_ k_) ∨ w.heap.size ≤ k_)) (.slice Ao7 l0_2.length co7) l0_2) ∧ Aside0 (wc.heap[gb101]? = some (.cells #[.int .i64 a0_0, (.slice (some ad103) l0_1.length co6), (.slice Ao7 l0_2.length co7)] 37 (0, 0))) ∧ Aside0 (wc.heap[gb102]? = some (.cells #[.int .i64 0, (.slice none 0 0), (.slice none 0 0)] 37 (0, 0))) ∧ Aside0 (wc.heap[gb104]? = some (.cells #[.int .i64 ((rd_T45 l0_1 a1).f0), .int .i64 ((rd_T45 l0_1 a1).f1), .int .i64 ((rd_T45 l0_1 a1).f2), .bool ((rd_T45 l0_1 a1).f3)] 45 (0, 0))) ∧ Aside0 (Kept w wc (fun k_ => P0_1_ k_ ∨ P0_2_ k_)) ∧ Aside0 (Below w0.heap.size w0 wc))
    case first =>
     have H := HC16.out; clear HC16
     by_cases c17 : ((rd_T45 l0_1 a1).f0) = 0
     ·
      rw [if_pos c17] at H; have c17b0 : (((rd_T45 l0_1 a1).f0) == 0) = true := beq_iff_eq.mpr c17; have c17b1 : (((rd_T45 l0_1 a1).f0) != 0) = false := bne_eq_false_iff_eq.mpr c17; clear c17
      (first | rw [c17b0] | (simp only [i64_w, i32_w]; rw [c17b0]) | skip)
      have H' := Aside0.mk H; clear H
      go_wp2
      go_meet
      case rel => exact ⟨_, (true), zr, H', ⟨by first | omega | exact Nat.le_refl _⟩, ⟨rz (Kd.R_mono (Kd.R_far (p := ⟨gb104, 3, none⟩) (Kd.R_far (p := ⟨gb104, 2, none⟩) (Kd.R_far (p := ⟨gb104, 1, none⟩) (Kd.R_far (p := ⟨gb104, 0, none⟩) (Kd.R_mono HO0_1.out (fun k_ hk => (⟨hk, hk.2⟩ : _ ∧ k_ ≠ gb104))) (fun _ hk => hk.2) (.int .i64 ((rd_T45 l0_1 a1).f0))) (fun _ hk => hk.2) (.int .i64 ((rd_T45 l0_1 a1).f1))) (fun _ hk => hk.2) (.int .i64 ((rd_T45 l0_1 a1).f2))) (fun _ hk => hk.2) (.bool ((rd_T45 l0_1 a1).f3))) (fun _ hk => ⟨hk.1.1, hk.1.2⟩))⟩, ⟨rz (Kd.R_mono (Kd.R_far (p := ⟨gb104, 3, none⟩) (Kd.R_far (p := ⟨gb104, 2, none⟩) (Kd.R_far (p := ⟨gb104, 1, none⟩) (Kd.R_far (p := ⟨gb104, 0, none⟩) (Kd.R_types HO0_2.out BK104.out (by decide)) (fun _ hk => hk.2) (.int .i64 ((rd_T45 l0_1 a1).f0))) (fun _ hk => hk.2) (.int .i64 ((rd_T45 l0_1 a1).f1))) (fun _ hk => hk.2) (.int .i64 ((rd_T45 l0_1 a1).f2))) (fun _ hk => hk.2) (.bool ((rd_T45 l0_1 a1).f3))) (fun _ hk => hk.1))⟩, ⟨by (with_reducible repeat (first | refine blk_drewN ?_ _ | refine blk_drew ?_ | refine blk_alloc ?_ _ | refine blk_far ?_ NB101_104.out _)); exact BK101.out⟩, ⟨by (with_reducible repeat (first | refine blk_drewN ?_ _ | refine blk_drew ?_ | refine blk_alloc ?_ _ | refine blk_far ?_ NB102_104.out _)); exact BK102.out⟩, ⟨by (with_reducible repeat (first | refine blk_drewN ?_ _ | refine blk_drew ?_ | refine blk_alloc ?_ _)); refine blk_put (cs := #[.int .i64 ((rd_T45 l0_1 a1).f0), .int .i64 ((rd_T45 l0_1 a1).f1), .int .i64 ((rd_T45 l0_1 a1).f2), .bool false]) ?_ 3 _ rfl; (with_reducible repeat (first | refine blk_drewN ?_ _ | refine blk_drew ?_ | refine blk_alloc ?_ _)); refine blk_put (cs := #[.int .i64 ((rd_T45 l0_1 a1).f0), .int .i64 ((rd_T45 l0_1 a1).f1), .int .i64 0, .bool false]) ?_ 2 _ rfl; (with_reducible repeat (first | refine blk_drewN ?_ _ | refine blk_drew ?_ | refine blk_alloc ?_ _)); refine blk_put (cs := #[.int .i64 ((rd_T45 l0_1 a1).f0), .int .i64 0, .int .i64 0, .bool false]) ?_ 1 _ rfl; (with_reducible repeat (first | refine blk_drewN ?_ _ | refine blk_drew ?_ | refine blk_alloc ?_ _)); refine blk_put (cs := #[.int .i64 0, .int .i64 0, .int .i64 0, .bool false]) ?_ 0 _ rfl; (with_reducible repeat (first | refine blk_drewN ?_ _ | refine blk_drew ?_ | refine blk_alloc ?_ _)); exact BK104.out⟩, ⟨by repeat (first | (with_reducible first | exact HK.out | apply Kept.alloc | apply Kept.drewN | apply Kept.drew | refine Kept.setCell ?_ (.inr GW101.out) _ | refine Kept.setCell ?_ (.inr GW102.out) _ | refine Kept.setCell ?_ (.inr GW104.out) _) | exact HK.out)⟩, ⟨by repeat (first | (with_reducible first | exact HB.out | apply below_alloc | apply pw_below_drewN | apply below_drew1 | refine below_set ?_ GE101.out | refine below_set ?_ GE102.out | refine below_set ?_ GE104.out) | exact HB.out)⟩⟩
     ·
      rw [if_neg c17] at H; have c17b0 : (((rd_T45 l0_1 a1).f0) == 0) = false := beq_eq_false_iff_ne.mpr c17; have c17b1 : (((rd_T45 l0_1 a1).f0) != 0) = true := bne_iff_ne.mpr c17
      (first | rw [c17b0] | (simp only [i64_w, i32_w]; rw [c17b0]) | skip)
      have H' := Aside0.mk H; clear H
      go_wp2
      go_meet
      case rel => exact ⟨_, ((((rd_T45 l0_1 a1).f0) == 3)), zr, H', ⟨by first | omega | exact Nat.le_refl _⟩, ⟨rz (Kd.R_mono (Kd.R_far (p := ⟨gb104, 3, none⟩) (Kd.R_far (p := ⟨gb104, 2, none⟩) (Kd.R_far (p := ⟨gb104, 1, none⟩) (Kd.R_far (p := ⟨gb104, 0, none⟩) (Kd.R_mono HO0_1.out (fun k_ hk => (⟨hk, hk.2⟩ : _ ∧ k_ ≠ gb104))) (fun _ hk => hk.2) (.int .i64 ((rd_T45 l0_1 a1).f0))) (fun _ hk => hk.2) (.int .i64 ((rd_T45 l0_1 a1).f1))) (fun _ hk => hk.2) (.int .i64 ((rd_T45 l0_1 a1).f2))) (fun _ hk => hk.2) (.bool ((rd_T45 l0_1 a1).f3))) (fun _ hk => ⟨hk.1.1, hk.1.2⟩))⟩, ⟨rz (Kd.R_mono (Kd.R_far (p := ⟨gb104, 3, none⟩) (Kd.R_far (p := ⟨gb104, 2, none⟩) (Kd.R_far (p := ⟨gb104, 1, none⟩) (Kd.R_far (p := ⟨gb104, 0, none⟩) (Kd.R_types HO0_2.out BK104.out (by decide)) (fun _ hk => hk.2) (.int .i64 ((rd_T45 l0_1 a1).f0))) (fun _ hk => hk.2) (.int .i64 ((rd_T45 l0_1 a1).f1))) (fun _ hk => hk.2) (.int .i64 ((rd_T45 l0_1 a1).f2))) (fun _ hk => hk.2) (.bool ((rd_T45 l0_1 a1).f3))) (fun _ hk => hk.1))⟩, ⟨by (with_reducible repeat (first | refine blk_drewN ?_ _ | refine blk_drew ?_ | refine blk_alloc ?_ _ | refine blk_far ?_ NB101_104.out _)); exact BK101.out⟩, ⟨by (with_reducible repeat (first | refine blk_drewN ?_ _ | refine blk_drew ?_ | refine blk_alloc ?_ _ | refine blk_far ?_ NB102_104.out _)); exact BK102.out⟩, ⟨by (with_reducible repeat (first | refine blk_drewN ?_ _ | refine blk_drew ?_ | refine blk_alloc ?_ _)); refine blk_put (cs := #[.int .i64 ((rd_T45 l0_1 a1).f0), .int .i64 ((rd_T45 l0_1 a1).f1), .int .i64 ((rd_T45 l0_1 a1).f2), .bool false]) ?_ 3 _ rfl; (with_reducible repeat (first | refine blk_drewN ?_ _ | refine blk_drew ?_ | refine blk_alloc ?_ _)); refine blk_put (cs := #[.int .i64 ((rd_T45 l0_1 a1).f0), .int .i64 ((rd_T45 l0_1 a1).f1), .int .i64 0, .bool false]) ?_ 2 _ rfl; (with_reducible repeat (first | refine blk_drewN ?_ _ | refine blk_drew ?_ | refine blk_alloc ?_ _)); refine blk_put (cs := #[.int .i64 ((rd_T45 l0_1 a1).f0), .int .i64 0, .int .i64 0, .bool false]) ?_ 1 _ rfl; (with_reducible repeat (first | refine blk_drewN ?_ _ | refine blk_drew ?_ | refine blk_alloc ?_ _)); refine blk_put (cs := #[.int .i64 0, .int .i64 0, .int .i64 0, .bool false]) ?_ 0 _ rfl; (with_reducible repeat (first | refine blk_drewN ?_ _ | refine blk_drew ?_ | refine blk_alloc ?_ _)); exact BK104.out⟩, ⟨by repeat (first | (with_reducible first | exact HK.out | apply Kept.alloc | apply Kept.drewN | apply Kept.drew | refine Kept.setCell ?_ (.inr GW101.out) _ | refine Kept.setCell ?_ (.inr GW102.out) _ | refine Kept.setCell ?_ (.inr GW104.out) _) | exact HK.out)⟩, ⟨by repeat (first | (with_reducible first | exact HB.out | apply below_alloc | apply pw_below_drewN | apply below_drew1 | refine below_set ?_ GE101.out | refine below_set ?_ GE102.out | refine below_set ?_ GE104.out) | exact HB.out)⟩⟩
    case rest =>
     clear HC16
     try clear c1
     try clear p1
     try clear q1
     try clear hx1
     try clear p2
     try clear c3
     try clear c3b0
     try clear c4
     try clear c4b0
     try clear c10
     try clear p10
     try clear q10
     try clear hx10
     try clear c13
     try clear c14
     try clear c17
     try clear c17b0
     try clear c17b1
     try clear hcz11_0
     try clear hcz11_1
     try clear hcz11_2
     try clear hcz15_0
     try clear hcz15_1
     try clear hcz15_2
     try clear hcz15_3
     try clear hfz11_0
     try clear hfz11_1
     try clear hfz11_2
     try clear hfz15_0
     try clear hfz15_1
     try clear hfz15_2
     try clear hfz15_3
     try clear hx103_0
     try clear hx103_1
     try clear hx103_2
     try clear hx103_3
     try clear p103
     try clear q103
     obtain ⟨kq, x13_15, rfl, HA, HJ15, HO_102001, HO_102002, BK101, BK102, BK104, HK, HB⟩ := hcut
     cases kq with
     | zero => exact absurd HA.out (by simp [spec_l12Step.j0])
     | succ kj15 =>
      have H := HA.out; clear HA; simp only [spec_l12Step.j0] at H
      by_cases c18 : x13_15 = true
      ·
       subst c18; rw [if_pos rfl] at H
       by_cases c19 : a0_0 = 0
       ·
        rw [if_pos c19] at H; have c19b0 : (a0_0 == 0) = true := beq_iff_eq.mpr c19; have c19b1 : (a0_0 != 0) = false := bne_eq_false_iff_eq.mpr c19; clear c19; have H' := Aside0.mk H; clear H; have hnb20 := NB101_102.out; have hnc20 := NB102_101.out; have hnb21 := NB101_104.out; have hnc21 := NB104_101.out; obtain ⟨hcz22_0, hcz22_1, hcz22_2⟩ := cz3 BK101.out; obtain ⟨hfz22_0, hfz22_1, hfz22_2⟩ := fz3 BK101.out; have hnb23 := NB104_102.out; have hnc23 := NB102_104.out; obtain ⟨hcz24_0, hcz24_1, hcz24_2, hcz24_3⟩ := cz4 BK104.out; obtain ⟨hfz24_0, hfz24_1, hfz24_2, hfz24_3⟩ := fz4 BK104.out
        go_wp2
        go_meet
        case rel => exact ⟨_, (wrap64 (1 + (wrap64 (Int.tdiv ((rd_T45 l0_1 a1).f0) 3)))), (l0_1), (l0_2), (4), (((rd_T45 l0_1 a1).f1)), (((rd_T45 l0_1 a1).f2)), (((rd_T45 l0_1 a1).f3)), (.slice (some ad103) l0_1.length co6), (.slice Ao7 l0_2.length co7), H', ⟨by have := HJ15.out; first | omega | exact Nat.le_refl _⟩, ⟨rz (Kd.R_mono (Kd.R_far (p := ⟨gb104, 0, none⟩) (Kd.R_far (p := ⟨gb101, 0, none⟩) (Kd.R_mono (Kd.R_types HO_102001.out BK101.out (by decide)) (fun k_ hk => (⟨hk, hk.1.2⟩ : _ ∧ k_ ≠ gb104))) (fun _ hk => hk.1.2) (.int .i64 (wrap64 (1 + (wrap64 (Int.tdiv ((rd_T45 l0_1 a1).f0) 3)))))) (fun _ hk => hk.2) (.int .i64 4)) (fun _ hk => ⟨hk.1.1.1, hk.1.1.2⟩))⟩, ⟨rz (Kd.R_mono (Kd.R_far (p := ⟨gb104, 0, none⟩) (Kd.R_far (p := ⟨gb101, 0, none⟩) (Kd.R_types (Kd.R_types HO_102002.out BK101.out (by decide)) BK104.out (by decide)) (fun _ hk => hk.1.2) (.int .i64 (wrap64 (1 + (wrap64 (Int.tdiv ((rd_T45 l0_1 a1).f0) 3)))))) (fun _ hk => hk.2) (.int .i64 4)) (fun _ hk => hk.1.1))⟩, ⟨by (with_reducible repeat (first | refine blk_drewN ?_ _ | refine blk_drew ?_ | refine blk_alloc ?_ _ | refine blk_far ?_ NB101_104.out _)); refine blk_put (cs := #[.int .i64 a0_0, .slice (some ad103) l0_1.length co6, .slice Ao7 l0_2.length co7]) ?_ 0 _ rfl; (with_reducible repeat (first | refine blk_drewN ?_ _ | refine blk_drew ?_ | refine blk_alloc ?_ _)); exact BK101.out⟩, ⟨by (with_reducible repeat (first | refine blk_drewN ?_ _ | refine blk_drew ?_ | refine blk_alloc ?_ _ | refine blk_far ?_ NB102_104.out _ | refine blk_far ?_ NB102_101.out _)); exact BK102.out⟩, ⟨by (with_reducible repeat (first | refine blk_drewN ?_ _ | refine blk_drew ?_ | refine blk_alloc ?_ _)); refine blk_put (cs := #[.int .i64 ((rd_T45 l0_1 a1).f0), .int .i64 ((rd_T45 l0_1 a1).f1), .int .i64 ((rd_T45 l0_1 a1).f2), .bool ((rd_T45 l0_1 a1).f3)]) ?_ 0 _ rfl; (with_reducible repeat (first | refine blk_drewN ?_ _ | refine blk_drew ?_ | refine blk_alloc ?_ _ | refine blk_far ?_ NB104_101.out _)); exact BK104.out⟩, ⟨by repeat (first | (with_reducible first | exact HK.out | apply Kept.alloc | apply Kept.drewN | apply Kept.drew | refine Kept.setCell ?_ (.inr GW101.out) _ | refine Kept.setCell ?_ (.inr GW102.out) _ | refine Kept.setCell ?_ (.inr GW104.out) _) | exact HK.out)⟩, ⟨by repeat (first | (with_reducible first | exact HB.out | apply below_alloc | apply pw_below_drewN | apply below_drew1 | refine below_set ?_ GE101.out | refine below_set ?_ GE102.out | refine below_set ?_ GE104.out) | exact HB.out)⟩⟩
       ·
        rw [if_neg c19] at H; have c19b0 : (a0_0 == 0) = false := beq_eq_false_iff_ne.mpr c19; have c19b1 : (a0_0 != 0) = true := bne_iff_ne.mpr c19; have H' := Aside0.mk H; clear H; have hnb25 := NB101_102.out; have hnc25 := NB102_101.out; have hnb26 := NB101_104.out; have hnc26 := NB104_101.out; obtain ⟨hcz27_0, hcz27_1, hcz27_2⟩ := cz3 BK101.out; obtain ⟨hfz27_0, hfz27_1, hfz27_2⟩ := fz3 BK101.out; have hnb28 := NB104_102.out; have hnc28 := NB102_104.out; obtain ⟨hcz29_0, hcz29_1, hcz29_2, hcz29_3⟩ := cz4 BK104.out; obtain ⟨hfz29_0, hfz29_1, hfz29_2, hfz29_3⟩ := fz4 BK104.out
        go_wp2
        go_meet
        case rel => exact ⟨_, (a0_0), (l0_1), (l0_2), (1), (a0_0), (((rd_T45 l0_1 a1).f2)), (((rd_T45 l0_1 a1).f3)), (.slice (some ad103) l0_1.length co6), (.slice Ao7 l0_2.length co7), H', ⟨by have := HJ15.out; first | omega | exact Nat.le_refl _⟩, ⟨rz (Kd.R_mono (Kd.R_far (p := ⟨gb104, 0, none⟩) (Kd.R_far (p := ⟨gb104, 1, none⟩) (Kd.R_mono HO_102001.out (fun k_ hk => (⟨hk, hk.2⟩ : _ ∧ k_ ≠ gb104))) (fun _ hk => hk.2) (.int .i64 a0_0)) (fun _ hk => hk.2) (.int .i64 1)) (fun _ hk => ⟨hk.1.1, hk.1.2⟩))⟩, ⟨rz (Kd.R_mono (Kd.R_far (p := ⟨gb104, 0, none⟩) (Kd.R_far (p := ⟨gb104, 1, none⟩) (Kd.R_types HO_102002.out BK104.out (by decide)) (fun _ hk => hk.2) (.int .i64 a0_0)) (fun _ hk => hk.2) (.int .i64 1)) (fun _ hk => hk.1))⟩, ⟨by (with_reducible repeat (first | refine blk_drewN ?_ _ | refine blk_drew ?_ | refine blk_alloc ?_ _ | refine blk_far ?_ NB101_104.out _)); exact BK101.out⟩, ⟨by (with_reducible repeat (first | refine blk_drewN ?_ _ | refine blk_drew ?_ | refine blk_alloc ?_ _ | refine blk_far ?_ NB102_104.out _)); exact BK102.out⟩, ⟨by (with_reducible repeat (first | refine blk_drewN ?_ _ | refine blk_drew ?_ | refine blk_alloc ?_ _)); refine blk_put (cs := #[.int .i64 ((rd_T45 l0_1 a1).f0), .int .i64 a0_0, .int .i64 ((rd_T45 l0_1 a1).f2), .bool ((rd_T45 l0_1 a1).f3)]) ?_ 0 _ rfl; (with_reducible repeat (first | refine blk_drewN ?_ _ | refine blk_drew ?_ | refine blk_alloc ?_ _)); refine blk_put (cs := #[.int .i64 ((rd_T45 l0_1 a1).f0), .int .i64 ((rd_T45 l0_1 a1).f1), .int .i64 ((rd_T45 l0_1 a1).f2), .bool ((rd_T45 l0_1 a1).f3)]) ?_ 1 _ rfl; (with_reducible repeat (first | refine blk_drewN ?_ _ | refine blk_drew ?_ | refine blk_alloc ?_ _)); exact BK104.out⟩, ⟨by repeat (first | (with_reducible first | exact HK.out | apply Kept.alloc | apply Kept.drewN | apply Kept.drew | refine Kept.setCell ?_ (.inr GW101.out) _ | refine Kept.setCell ?_ (.inr GW102.out) _ | refine Kept.setCell ?_ (.inr GW104.out) _) | exact HK.out)⟩, ⟨by repeat (first | (with_reducible first | exact HB.out | apply below_alloc | apply pw_below_drewN | apply below_drew1 | refine below_set ?_ GE101.out | refine below_set ?_ GE102.out | refine below_set ?_ GE104.out) | exact HB.out)⟩⟩
      ·
       replace c18 := Bool.eq_false_iff.mpr c18; subst c18; rw [if_neg nf_] at H
       by_cases c30 : ((rd_T45 l0_1 a1).f0) = 1
       ·
        rw [if_pos c30] at H; have c30b0 : (((rd_T45 l0_1 a1).f0) == 1) = true := beq_iff_eq.mpr c30; have c30b1 : (((rd_T45 l0_1 a1).f0) != 1) = false := bne_eq_false_iff_eq.mpr c30; clear c30
        by_cases c31 : ((rd_T45 l0_1 a1).f1) = 2
        ·
         rw [if_pos c31] at H; have c31b0 : (((rd_T45 l0_1 a1).f1) == 2) = true := beq_iff_eq.mpr c31; have c31b1 : (((rd_T45 l0_1 a1).f1) != 2) = false := bne_eq_false_iff_eq.mpr c31; clear c31; have H' := Aside0.mk H; clear H; have hnb32 := NB104_101.out; have hnc32 := NB101_104.out; have hnb33 := NB104_102.out; have hnc33 := NB102_104.out; obtain ⟨hcz34_0, hcz34_1, hcz34_2, hcz34_3⟩ := cz4 BK104.out; obtain ⟨hfz34_0, hfz34_1, hfz34_2, hfz34_3⟩ := fz4 BK104.out
         go_wp2
         go_meet
         case rel => exact ⟨_, (a0_0), (l0_1), (l0_2), (2), (0), (((rd_T45 l0_1 a1).f2)), (((rd_T45 l0_1 a1).f3)), (.slice (some ad103) l0_1.length co6), (.slice Ao7 l0_2.length co7), H', ⟨by have := HJ15.out; first | omega | exact Nat.le_refl _⟩, ⟨rz (Kd.R_mono (Kd.R_far (p := ⟨gb104, 1, none⟩) (Kd.R_far (p := ⟨gb104, 0, none⟩) (Kd.R_mono HO_102001.out (fun k_ hk => (⟨hk, hk.2⟩ : _ ∧ k_ ≠ gb104))) (fun _ hk => hk.2) (.int .i64 2)) (fun _ hk => hk.2) (.int .i64 0)) (fun _ hk => ⟨hk.1.1, hk.1.2⟩))⟩, ⟨rz (Kd.R_mono (Kd.R_far (p := ⟨gb104, 1, none⟩) (Kd.R_far (p := ⟨gb104, 0, none⟩) (Kd.R_types HO_102002.out BK104.out (by decide)) (fun _ hk => hk.2) (.int .i64 2)) (fun _ hk => hk.2) (.int .i64 0)) (fun _ hk => hk.1))⟩, ⟨by (with_reducible repeat (first | refine blk_drewN ?_ _ | refine blk_drew ?_ | refine blk_alloc ?_ _ | refine blk_far ?_ NB101_104.out _)); exact BK101.out⟩, ⟨by (with_reducible repeat (first | refine blk_drewN ?_ _ | refine blk_drew ?_ | refine blk_alloc ?_ _ | refine blk_far ?_ NB102_104.out _)); exact BK102.out⟩, ⟨by (with_reducible repeat (first | refine blk_drewN ?_ _ | refine blk_drew ?_ | refine blk_alloc ?_ _)); refine blk_put (cs := #[.int .i64 2, .int .i64 ((rd_T45 l0_1 a1).f1), .int .i64 ((rd_T45 l0_1 a1).f2), .bool ((rd_T45 l0_1 a1).f3)]) ?_ 1 _ rfl; (with_reducible repeat (first | refine blk_drewN ?_ _ | refine blk_drew ?_ | refine blk_alloc ?_ _)); refine blk_put (cs := #[.int .i64 ((rd_T45 l0_1 a1).f0), .int .i64 ((rd_T45 l0_1 a1).f1), .int .i64 ((rd_T45 l0_1 a1).f2), .bool ((rd_T45 l0_1 a1).f3)]) ?_ 0 _ rfl; (with_reducible repeat (first | refine blk_drewN ?_ _ | refine blk_drew ?_ | refine blk_alloc ?_ _)); exact BK104.out⟩, ⟨by repeat (first | (with_reducible first | exact HK.out | apply Kept.alloc | apply Kept.drewN | apply Kept.drew | refine Kept.setCell ?_ (.inr GW101.out) _ | refine Kept.setCell ?_ (.inr GW102.out) _ | refine Kept.setCell ?_ (.inr GW104.out) _) | exact HK.out)⟩, ⟨by repeat (first | (with_reducible first | exact HB.out | apply below_alloc | apply pw_below_drewN | apply below_drew1 | refine below_set ?_ GE101.out | refine below_set ?_ GE102.out | refine below_set ?_ GE104.out) | exact HB.out)⟩⟩
        ·
         rw [if_neg c31] at H; have c31b0 : (((rd_T45 l0_1 a1).f1) == 2) = false := beq_eq_false_iff_ne.mpr c31; have c31b1 : (((rd_T45 l0_1 a1).f1) != 2) = true := bne_iff_ne.mpr c31
         by_cases c35 : a0_0 = 0
         ·
          rw [if_pos c35] at H; have c35b0 : (a0_0 == 0) = true := beq_iff_eq.mpr c35; have c35b1 : (a0_0 != 0) = false := bne_eq_false_iff_eq.mpr c35; clear c35; have H' := Aside0.mk H; clear H; have hnb36 := NB104_101.out; have hnc36 := NB101_104.out; have hnb37 := NB104_102.out; have hnc37 := NB102_104.out; obtain ⟨hcz38_0, hcz38_1, hcz38_2, hcz38_3⟩ := cz4 BK104.out; obtain ⟨hfz38_0, hfz38_1, hfz38_2, hfz38_3⟩ := fz4 BK104.out; have hnb39 := NB101_102.out; have hnc39 := NB102_101.out; obtain ⟨hcz40_0, hcz40_1, hcz40_2⟩ := cz3 BK101.out; obtain ⟨hfz40_0, hfz40_1, hfz40_2⟩ := fz3 BK101.out
          go_wp2
          go_meet
          case rel => exact ⟨_, (a0_0), (l0_1), (l0_2), (3), (0), (((rd_T45 l0_1 a1).f2)), (((rd_T45 l0_1 a1).f3)), (.slice (some ad103) l0_1.length co6), (.slice Ao7 l0_2.length co7), H', ⟨by have := HJ15.out; first | omega | exact Nat.le_refl _⟩, ⟨rz (Kd.R_mono (Kd.R_far (p := ⟨gb104, 1, none⟩) (Kd.R_far (p := ⟨gb104, 0, none⟩) (Kd.R_mono HO_102001.out (fun k_ hk => (⟨hk, hk.2⟩ : _ ∧ k_ ≠ gb104))) (fun _ hk => hk.2) (.int .i64 3)) (fun _ hk => hk.2) (.int .i64 0)) (fun _ hk => ⟨hk.1.1, hk.1.2⟩))⟩, ⟨rz (Kd.R_mono (Kd.R_far (p := ⟨gb104, 1, none⟩) (Kd.R_far (p := ⟨gb104, 0, none⟩) (Kd.R_types HO_102002.out BK104.out (by decide)) (fun _ hk => hk.2) (.int .i64 3)) (fun _ hk => hk.2) (.int .i64 0)) (fun _ hk => hk.1))⟩, ⟨by (with_reducible repeat (first | refine blk_drewN ?_ _ | refine blk_drew ?_ | refine blk_alloc ?_ _ | refine blk_far ?_ NB101_104.out _)); exact BK101.out⟩, ⟨by (with_reducible repeat (first | refine blk_drewN ?_ _ | refine blk_drew ?_ | refine blk_alloc ?_ _ | refine blk_far ?_ NB102_104.out _)); exact BK102.out⟩, ⟨by (with_reducible repeat (first | refine blk_drewN ?_ _ | refine blk_drew ?_ | refine blk_alloc ?_ _)); refine blk_put (cs := #[.int .i64 3, .int .i64 ((rd_T45 l0_1 a1).f1), .int .i64 ((rd_T45 l0_1 a1).f2), .bool ((rd_T45 l0_1 a1).f3)]) ?_ 1 _ rfl; (with_reducible repeat (first | refine blk_drewN ?_ _ | refine blk_drew ?_ | refine blk_alloc ?_ _)); refine blk_put (cs := #[.int .i64 ((rd_T45 l0_1 a1).f0), .int .i64 ((rd_T45 l0_1 a1).f1), .int .i64 ((rd_T45 l0_1 a1).f2), .bool ((rd_T45 l0_1 a1).f3)]) ?_ 0 _ rfl; (with_reducible repeat (first | refine blk_drewN ?_ _ | refine blk_drew ?_ | refine blk_alloc ?_ _)); exact BK104.out⟩, ⟨by repeat (first | (with_reducible first | exact HK.out | apply Kept.alloc | apply Kept.drewN | apply Kept.drew | refine Kept.setCell ?_ (.inr GW101.out) _ | refine Kept.setCell ?_ (.inr GW102.out) _ | refine Kept.setCell ?_ (.inr GW104.out) _) | exact HK.out)⟩, ⟨by repeat (first | (with_reducible first | exact HB.out | apply below_alloc | apply pw_below_drewN | apply below_drew1 | refine below_set ?_ GE101.out | refine below_set ?_ GE102.out | refine below_set ?_ GE104.out) | exact HB.out)⟩⟩
         ·
          rw [if_neg c35] at H; have c35b0 : (a0_0 == 0) = false := beq_eq_false_iff_ne.mpr c35; have c35b1 : (a0_0 != 0) = true := bne_iff_ne.mpr c35; have H' := Aside0.mk H; clear H; have hnb41 := NB104_101.out; have hnc41 := NB101_104.out; have hnb42 := NB104_102.out; have hnc42 := NB102_104.out; obtain ⟨hcz43_0, hcz43_1, hcz43_2, hcz43_3⟩ := cz4 BK104.out; obtain ⟨hfz43_0, hfz43_1, hfz43_2, hfz43_3⟩ := fz4 BK104.out; have hnb44 := NB101_102.out; have hnc44 := NB102_101.out; obtain ⟨hcz45_0, hcz45_1, hcz45_2⟩ := cz3 BK101.out; obtain ⟨hfz45_0, hfz45_1, hfz45_2⟩ := fz3 BK101.out
          go_wp2
          go_meet
          case rel => exact ⟨_, (2), (l0_1), (l0_2), (2), (0), (((rd_T45 l0_1 a1).f2)), (((rd_T45 l0_1 a1).f3)), (.slice (some ad103) l0_1.length co6), (.slice Ao7 l0_2.length co7), H', ⟨by have := HJ15.out; first | omega | exact Nat.le_refl _⟩, ⟨rz (Kd.R_mono (Kd.R_far (p := ⟨gb104, 1, none⟩) (Kd.R_far (p := ⟨gb104, 0, none⟩) (Kd.R_far (p := ⟨gb101, 0, none⟩) (Kd.R_mono (Kd.R_types HO_102001.out BK101.out (by decide)) (fun k_ hk => (⟨hk, hk.1.2⟩ : _ ∧ k_ ≠ gb104))) (fun _ hk => hk.1.2) (.int .i64 2)) (fun _ hk => hk.2) (.int .i64 2)) (fun _ hk => hk.2) (.int .i64 0)) (fun _ hk => ⟨hk.1.1.1, hk.1.1.2⟩))⟩, ⟨rz (Kd.R_mono (Kd.R_far (p := ⟨gb104, 1, none⟩) (Kd.R_far (p := ⟨gb104, 0, none⟩) (Kd.R_far (p := ⟨gb101, 0, none⟩) (Kd.R_types (Kd.R_types HO_102002.out BK101.out (by decide)) BK104.out (by decide)) (fun _ hk => hk.1.2) (.int .i64 2)) (fun _ hk => hk.2) (.int .i64 2)) (fun _ hk => hk.2) (.int .i64 0)) (fun _ hk => hk.1.1))⟩, ⟨by (with_reducible repeat (first | refine blk_drewN ?_ _ | refine blk_drew ?_ | refine blk_alloc ?_ _ | refine blk_far ?_ NB101_104.out _)); refine blk_put (cs := #[.int .i64 a0_0, .slice (some ad103) l0_1.length co6, .slice Ao7 l0_2.length co7]) ?_ 0 _ rfl; (with_reducible repeat (first | refine blk_drewN ?_ _ | refine blk_drew ?_ | refine blk_alloc ?_ _)); exact BK101.out⟩, ⟨by (with_reducible repeat (first | refine blk_drewN ?_ _ | refine blk_drew ?_ | refine blk_alloc ?_ _ | refine blk_far ?_ NB102_104.out _ | refine blk_far ?_ NB102_101.out _)); exact BK102.out⟩, ⟨by (with_reducible repeat (first | refine blk_drewN ?_ _ | refine blk_drew ?_ | refine blk_alloc ?_ _)); refine blk_put (cs := #[.int .i64 2, .int .i64 ((rd_T45 l0_1 a1).f1), .int .i64 ((rd_T45 l0_1 a1).f2), .bool ((rd_T45 l0_1 a1).f3)]) ?_ 1 _ rfl; (with_reducible repeat (first | refine blk_drewN ?_ _ | refine blk_drew ?_ | refine blk_alloc ?_ _)); refine blk_put (cs := #[.int .i64 ((rd_T45 l0_1 a1).f0), .int .i64 ((rd_T45 l0_1 a1).f1), .int .i64 ((rd_T45 l0_1 a1).f2), .bool ((rd_T45 l0_1 a1).f3)]) ?_ 0 _ rfl; (with_reducible repeat (first | refine blk_drewN ?_ _ | refine blk_drew ?_ | refine blk_alloc ?_ _ | refine blk_far ?_ NB104_101.out _)); exact BK104.out⟩, ⟨by repeat (first | (with_reducible first | exact HK.out | apply Kept.alloc | apply Kept.drewN | apply Kept.drew | refine Kept.setCell ?_ (.inr GW101.out) _ | refine Kept.setCell ?_ (.inr GW102.out) _ | refine Kept.setCell ?_ (.inr GW104.out) _) | exact HK.out)⟩, ⟨by repeat (first | (with_reducible first | exact HB.out | apply below_alloc | apply pw_below_drewN | apply below_drew1 | refine below_set ?_ GE101.out | refine below_set ?_ GE102.out | refine below_set ?_ GE104.out) | exact HB.out)⟩⟩
       ·
        rw [if_neg c30] at H; have c30b0 : (((rd_T45 l0_1 a1).f0) == 1) = false := beq_eq_false_iff_ne.mpr c30; have c30b1 : (((rd_T45 l0_1 a1).f0) != 1) = true := bne_iff_ne.mpr c30
        by_cases c46 : ((rd_T45 l0_1 a1).f0) = 2
        ·
         rw [if_pos c46] at H; have c46b0 : (((rd_T45 l0_1 a1).f0) == 2) = true := beq_iff_eq.mpr c46; have c46b1 : (((rd_T45 l0_1 a1).f0) != 2) = false := bne_eq_false_iff_eq.mpr c46; clear c46
         by_cases c47 : a0_0 = 2
         ·
          rw [if_pos c47] at H; have c47b0 : (a0_0 == 2) = true := beq_iff_eq.mpr c47; have c47b1 : (a0_0 != 2) = false := bne_eq_false_iff_eq.mpr c47; clear c47
          by_cases c48 : l0_2.length < 17592186044416
          ·
           rw [if_pos c48] at H; have LMc48 := Aside0.mk c48; clear c48; obtain ⟨y105, hy105⟩ : ∃ y_ : List Int, y_ = (l0_2 ++ [a1]) := ⟨_, rfl⟩
           replace H : (spec_l12Step.j1 kj15 a1 a0_0 l0_1 y105 3 ((rd_T45 l0_1 a1).f1) ((rd_T45 l0_1 a1).f2) true) = some (r1, r2, r3) := by first | (rw [hy105]; with_reducible exact H) | (have H2_ := (Option.bind_some _ _).symm.trans H; rw [hy105]; with_reducible exact H2_) | (have H2_ := (Option.bind_some _ _).symm.trans H; with_reducible exact H2_) | with_reducible exact H | (rw [hy105]; exact H) | exact H
           have Ny105 := Aside0.mk hy105; clear hy105; have H' := Aside0.mk H; clear H; have hnb49 := NB101_102.out; have hnc49 := NB102_101.out; have hnb50 := NB101_104.out; have hnc50 := NB104_101.out; obtain ⟨hcz51_0, hcz51_1, hcz51_2⟩ := cz3 BK101.out; obtain ⟨hfz51_0, hfz51_1, hfz51_2⟩ := fz3 BK101.out; have hnb52 := NB104_102.out; have hnc52 := NB102_104.out; obtain ⟨hcz53_0, hcz53_1, hcz53_2, hcz53_3⟩ := cz4 BK104.out; obtain ⟨hfz53_0, hfz53_1, hfz53_2, hfz53_3⟩ := fz4 BK104.out
           go_wp2_with (first | ((with_reducible refine gate_builtin (b := .append) (xs := #[.tmp 51, .tmp 53]) rfl ?_); at_builtin; refine Kd.R_append (Kd.int .i64) (w0 := w0) w0.heap.size rfl (.tmp 51) (.tmp 53) 30 3 (.int .i64 0) 8 rfl Try.underlying30 info3 rfl (by decide) (by omega) (.slice Ao7 l0_2.length co7) l0_2 a1 [.int .i64 a1] (fun k_ => ((P0_1_ k_ ∨ P0_2_ k_) ∨ w.heap.size ≤ k_)) (fun _ => False) rfl (by first | (go_simp; done) | (go_simp; rfl)) ?aP (fun _ hk => hk.elim) ?aF ?aO ?aB ?aS ?aL ?_; (case aP => exact rfl); (case aB => exact (w48_1 HB.out GE101.out GE102.out GE104.out)); (case aF => exact (fun k_ hk => (.inr (Nat.le_trans (show Kept w _ (fun k_ => P0_1_ k_ ∨ P0_2_ k_) from by repeat (first | (with_reducible first | exact HK.out | apply Kept.alloc | apply Kept.drewN | apply Kept.drew | refine Kept.setCell ?_ (.inr GW101.out) _ | refine Kept.setCell ?_ (.inr GW102.out) _ | refine Kept.setCell ?_ (.inr GW104.out) _) | exact HK.out)).1 hk)))); (case aO => exact (rz (Kd.R_mono (Kd.R_far (p := ⟨gb104, 3, none⟩) (Kd.R_types HO_102002.out BK104.out (by decide)) (fun _ hk => hk.2) (.bool true)) (fun _ hk => hk.1)))); (case aS => exact (below_size (w48_1 HB.out GE101.out GE102.out GE104.out))); (case aL => have := LMc48.out; omega); intro v106 w54 ho hb hg hat; rw [← Ny105.out] at ho; have n0_ := Aside0.mk (Kd.R_over' (rz ((Kd.R_mono (Kd.R_far (p := ⟨gb104, 3, none⟩) (Kd.R_mono HO_102001.out (fun k_ hk => (⟨hk, hk.2⟩ : _ ∧ k_ ≠ gb104))) (fun _ hk => hk.2) (.bool true)) (fun _ h_ => h_.1)))) (Kd.R_typed (rz ((Kd.R_mono (Kd.R_far (p := ⟨gb104, 3, none⟩) (Kd.R_types HO_102002.out BK104.out (by decide)) (fun _ hk => hk.2) (.bool true)) (fun _ h_ => h_.1))))) (by decide) hg); have n1_ := Aside0.mk (blk_grown (g := gb101) (o := .cells #[.int .i64 a0_0, .slice (some ad103) l0_1.length co6, .slice Ao7 l0_2.length co7] 37 (0, 0)) (by (with_reducible repeat (first | refine blk_drewN ?_ _ | refine blk_drew ?_ | refine blk_alloc ?_ _ | refine blk_far ?_ NB101_104.out _)); exact BK101.out) hg (Kd.R_ne HO_102002.out BK101.out (by decide))); have n2_ := Aside0.mk (blk_grown (g := gb102) (o := .cells #[.int .i64 0, .slice none 0 0, .slice none 0 0] 37 (0, 0)) (by (with_reducible repeat (first | refine blk_drewN ?_ _ | refine blk_drew ?_ | refine blk_alloc ?_ _ | refine blk_far ?_ NB102_104.out _)); exact BK102.out) hg (Kd.R_ne HO_102002.out BK102.out (by decide))); have n3_ := Aside0.mk (blk_grown (g := gb104) (o := .cells #[.int .i64 ((rd_T45 l0_1 a1).f0), .int .i64 ((rd_T45 l0_1 a1).f1), .int .i64 ((rd_T45 l0_1 a1).f2), .bool true] 45 (0, 0)) (by (with_reducible repeat (first | refine blk_drewN ?_ _ | refine blk_drew ?_ | refine blk_alloc ?_ _)); refine blk_put (cs := #[.int .i64 ((rd_T45 l0_1 a1).f0), .int .i64 ((rd_T45 l0_1 a1).f1), .int .i64 ((rd_T45 l0_1 a1).f2), .bool ((rd_T45 l0_1 a1).f3)]) ?_ 3 _ rfl; (with_reducible repeat (first | refine blk_drewN ?_ _ | refine blk_drew ?_ | refine blk_alloc ?_ _)); exact BK104.out) hg (Kd.R_ne HO_102002.out BK104.out (by decide))); have n4_ := Aside0.mk (hb); have n5_ := Aside0.mk (Kept.of_grown (S := (fun k_ => P0_1_ k_ ∨ P0_2_ k_)) hg (by repeat (first | (with_reducible first | exact HK.out | apply Kept.alloc | apply Kept.drewN | apply Kept.drew | refine Kept.setCell ?_ (.inr GW101.out) _ | refine Kept.setCell ?_ (.inr GW102.out) _ | refine Kept.setCell ?_ (.inr GW104.out) _) | exact HK.out)) (fun k_ e_ => (HO_102002.out.1 k_ e_))); have n6_ := Aside0.mk (ho); clear HO_102001; clear BK101; clear BK102; clear BK104; clear HB; clear HK; clear HO_102002; have HO_102001 := n0_; have BK101 := n1_; have BK102 := n2_; have BK104 := n3_; have HB := n4_; have HK := n5_; have HO107 := n6_; clear n0_ n1_ n2_ n3_ n4_ n5_ n6_; clear ho hb hg hat; obtain ⟨Ao55, co55, eo55⟩ := Kd.R_slice HO107.out; subst eo55; obtain ⟨hcz56_0, hcz56_1, hcz56_2⟩ := cz3 BK101.out; obtain ⟨hfz56_0, hfz56_1, hfz56_2⟩ := fz3 BK101.out; obtain ⟨hcz57_0, hcz57_1, hcz57_2, hcz57_3⟩ := cz4 BK104.out; obtain ⟨hfz57_0, hfz57_1, hfz57_2, hfz57_3⟩ := fz4 BK104.out))
           go_meet
           case rel => exact ⟨_, (a0_0), (l0_1), (y105), (3), (((rd_T45 l0_1 a1).f1)), (((rd_T45 l0_1 a1).f2)), (true), (.slice (some ad103) l0_1.length co6), (.slice Ao55 y105.length co55), H', ⟨by have := HJ15.out; first | omega | exact Nat.le_refl _⟩, ⟨rz (Kd.R_mono (Kd.R_far (p := ⟨gb104, 0, none⟩) (Kd.R_far (p := ⟨gb101, 2, none⟩) (Kd.R_mono (Kd.R_types HO_102001.out BK101.out (by decide)) (fun k_ hk => (⟨hk, hk.1.2⟩ : _ ∧ k_ ≠ gb104))) (fun _ hk => hk.1.2) (.slice Ao55 y105.length co55)) (fun _ hk => hk.2) (.int .i64 3)) (fun _ hk => ⟨hk.1.1.1, hk.1.1.2⟩))⟩, ⟨rz (Kd.R_mono (Kd.R_far (p := ⟨gb104, 0, none⟩) (Kd.R_far (p := ⟨gb101, 2, none⟩) (Kd.R_types (Kd.R_types HO107.out BK101.out (by decide)) BK104.out (by decide)) (fun _ hk => hk.1.2) (.slice Ao55 y105.length co55)) (fun _ hk => hk.2) (.int .i64 3)) (fun _ hk => hk.1.1))⟩, ⟨by (with_reducible repeat (first | refine blk_drewN ?_ _ | refine blk_drew ?_ | refine blk_alloc ?_ _ | refine blk_far ?_ NB101_104.out _)); refine blk_put (cs := #[.int .i64 a0_0, .slice (some ad103) l0_1.length co6, .slice Ao7 l0_2.length co7]) ?_ 2 _ rfl; (with_reducible repeat (first | refine blk_drewN ?_ _ | refine blk_drew ?_ | refine blk_alloc ?_ _)); exact BK101.out⟩, ⟨by (with_reducible repeat (first | refine blk_drewN ?_ _ | refine blk_drew ?_ | refine blk_alloc ?_ _ | refine blk_far ?_ NB102_104.out _ | refine blk_far ?_ NB102_101.out _)); exact BK102.out⟩, ⟨by (with_reducible repeat (first | refine blk_drewN ?_ _ | refine blk_drew ?_ | refine blk_alloc ?_ _)); refine blk_put (cs := #[.int .i64 ((rd_T45 l0_1 a1).f0), .int .i64 ((rd_T45 l0_1 a1).f1), .int .i64 ((rd_T45 l0_1 a1).f2), .bool true]) ?_ 0 _ rfl; (with_reducible repeat (first | refine blk_drewN ?_ _ | refine blk_drew ?_ | refine blk_alloc ?_ _ | refine blk_far ?_ NB104_101.out _)); exact BK104.out⟩, ⟨by repeat (first | (with_reducible first | exact HK.out | apply Kept.alloc | apply Kept.drewN | apply Kept.drew | refine Kept.setCell ?_ (.inr GW101.out) _ | refine Kept.setCell ?_ (.inr GW102.out) _ | refine Kept.setCell ?_ (.inr GW104.out) _) | exact HK.out)⟩, ⟨by repeat (first | (with_reducible first | exact HB.out | apply below_alloc | apply pw_below_drewN | apply below_drew1 | refine below_set ?_ GE101.out | refine below_set ?_ GE102.out | refine below_set ?_ GE104.out) | exact HB.out)⟩⟩
          ·
           rw [if_neg c48] at H
           exact absurd H (by simp)
         ·
          rw [if_neg c47] at H; have c47b0 : (a0_0 == 2) = false := beq_eq_false_iff_ne.mpr c47; have c47b1 : (a0_0 != 2) = true := bne_iff_ne.mpr c47; have H' := Aside0.mk H; clear H; have hnb58 := NB101_102.out; have hnc58 := NB102_101.out; have hnb59 := NB101_104.out; have hnc59 := NB104_101.out; obtain ⟨hcz60_0, hcz60_1, hcz60_2⟩ := cz3 BK101.out; obtain ⟨hfz60_0, hfz60_1, hfz60_2⟩ := fz3 BK101.out; have hnb61 := NB104_102.out; have hnc61 := NB102_104.out; obtain ⟨hcz62_0, hcz62_1, hcz62_2, hcz62_3⟩ := cz4 BK104.out; obtain ⟨hfz62_0, hfz62_1, hfz62_2, hfz62_3⟩ := fz4 BK104.out
          go_wp2
          go_meet
          case rel => exact ⟨_, (a0_0), (l0_1), (l0_2), (3), (((rd_T45 l0_1 a1).f1)), (((rd_T45 l0_1 a1).f2)), (((rd_T45 l0_1 a1).f3)), (.slice (some ad103) l0_1.length co6), (.slice Ao7 l0_2.length co7), H', ⟨by have := HJ15.out; first | omega | exact Nat.le_refl _⟩, ⟨rz (Kd.R_mono (Kd.R_far (p := ⟨gb104, 0, none⟩) (Kd.R_mono HO_102001.out (fun k_ hk => (⟨hk, hk.2⟩ : _ ∧ k_ ≠ gb104))) (fun _ hk => hk.2) (.int .i64 3)) (fun _ hk => ⟨hk.1.1, hk.1.2⟩))⟩, ⟨rz (Kd.R_mono (Kd.R_far (p := ⟨gb104, 0, none⟩) (Kd.R_types HO_102002.out BK104.out (by decide)) (fun _ hk => hk.2) (.int .i64 3)) (fun _ hk => hk.1))⟩, ⟨by (with_reducible repeat (first | refine blk_drewN ?_ _ | refine blk_drew ?_ | refine blk_alloc ?_ _ | refine blk_far ?_ NB101_104.out _)); exact BK101.out⟩, ⟨by (with_reducible repeat (first | refine blk_drewN ?_ _ | refine blk_drew ?_ | refine blk_alloc ?_ _ | refine blk_far ?_ NB102_104.out _)); exact BK102.out⟩, ⟨by (with_reducible repeat (first | refine blk_drewN ?_ _ | refine blk_drew ?_ | refine blk_alloc ?_ _)); refine blk_put (cs := #[.int .i64 ((rd_T45 l0_1 a1).f0), .int .i64 ((rd_T45 l0_1 a1).f1), .int .i64 ((rd_T45 l0_1 a1).f2), .bool ((rd_T45 l0_1 a1).f3)]) ?_ 0 _ rfl; (with_reducible repeat (first | refine blk_drewN ?_ _ | refine blk_drew ?_ | refine blk_alloc ?_ _)); exact BK104.out⟩, ⟨by repeat (first | (with_reducible first | exact HK.out | apply Kept.alloc | apply Kept.drewN | apply Kept.drew | refine Kept.setCell ?_ (.inr GW101.out) _ | refine Kept.setCell ?_ (.inr GW102.out) _ | refine Kept.setCell ?_ (.inr GW104.out) _) | exact HK.out)⟩, ⟨by repeat (first | (with_reducible first | exact HB.out | apply below_alloc | apply pw_below_drewN | apply below_drew1 | refine below_set ?_ GE101.out | refine below_set ?_ GE102.out | refine below_set ?_ GE104.out) | exact HB.out)⟩⟩
        ·
         rw [if_neg c46] at H; have c46b0 : (((rd_T45 l0_1 a1).f0) == 2) = false := beq_eq_false_iff_ne.mpr c46; have c46b1 : (((rd_T45 l0_1 a1).f0) != 2) = true := bne_iff_ne.mpr c46
         by_cases c63 : ((rd_T45 l0_1 a1).f0) = 4
         ·
          rw [if_pos c63] at H; have c63b0 : (((rd_T45 l0_1 a1).f0) == 4) = true := beq_iff_eq.mpr c63; have c63b1 : (((rd_T45 l0_1 a1).f0) != 4) = false := bne_eq_false_iff_eq.mpr c63; clear c63
          by_cases c64 : (wrap64 (a0_0 - 1)) ≤ 0
          ·
           rw [if_pos c64] at H; have c64b0 : decide ((wrap64 (a0_0 - 1)) ≤ 0) = true := decide_eq_true c64; clear c64; have H' := Aside0.mk H; clear H; have hnb65 := NB101_102.out; have hnc65 := NB102_101.out; have hnb66 := NB101_104.out; have hnc66 := NB104_101.out; obtain ⟨hcz67_0, hcz67_1, hcz67_2⟩ := cz3 BK101.out; obtain ⟨hfz67_0, hfz67_1, hfz67_2⟩ := fz3 BK101.out; have hnb68 := NB104_102.out; have hnc68 := NB102_104.out; obtain ⟨hcz69_0, hcz69_1, hcz69_2, hcz69_3⟩ := cz4 BK104.out; obtain ⟨hfz69_0, hfz69_1, hfz69_2, hfz69_3⟩ := fz4 BK104.out
           go_wp2
           go_meet
           case rel => exact ⟨_, (0), (l0_1), (l0_2), (0), (((rd_T45 l0_1 a1).f1)), (wrap64 (((rd_T45 l0_1 a1).f2) - 1)), (((rd_T45 l0_1 a1).f3)), (.slice (some ad103) l0_1.length co6), (.slice Ao7 l0_2.length co7), H', ⟨by have := HJ15.out; first | omega | exact Nat.le_refl _⟩, ⟨rz (Kd.R_mono (Kd.R_far (p := ⟨gb104, 2, none⟩) (Kd.R_far (p := ⟨gb104, 0, none⟩) (Kd.R_far (p := ⟨gb101, 0, none⟩) (Kd.R_far (p := ⟨gb104, 0, none⟩) (Kd.R_far (p := ⟨gb101, 0, none⟩) (Kd.R_mono (Kd.R_types HO_102001.out BK101.out (by decide)) (fun k_ hk => (⟨hk, hk.1.2⟩ : _ ∧ k_ ≠ gb104))) (fun _ hk => hk.1.2) (.int .i64 (wrap64 (a0_0 - 1)))) (fun _ hk => hk.2) (.int .i64 5)) (fun _ hk => hk.1.2) (.int .i64 0)) (fun _ hk => hk.2) (.int .i64 0)) (fun _ hk => hk.2) (.int .i64 (wrap64 (((rd_T45 l0_1 a1).f2) - 1)))) (fun _ hk => ⟨hk.1.1.1, hk.1.1.2⟩))⟩, ⟨rz (Kd.R_mono (Kd.R_far (p := ⟨gb104, 2, none⟩) (Kd.R_far (p := ⟨gb104, 0, none⟩) (Kd.R_far (p := ⟨gb101, 0, none⟩) (Kd.R_far (p := ⟨gb104, 0, none⟩) (Kd.R_far (p := ⟨gb101, 0, none⟩) (Kd.R_types (Kd.R_types HO_102002.out BK101.out (by decide)) BK104.out (by decide)) (fun _ hk => hk.1.2) (.int .i64 (wrap64 (a0_0 - 1)))) (fun _ hk => hk.2) (.int .i64 5)) (fun _ hk => hk.1.2) (.int .i64 0)) (fun _ hk => hk.2) (.int .i64 0)) (fun _ hk => hk.2) (.int .i64 (wrap64 (((rd_T45 l0_1 a1).f2) - 1)))) (fun _ hk => hk.1.1))⟩, ⟨by (with_reducible repeat (first | refine blk_drewN ?_ _ | refine blk_drew ?_ | refine blk_alloc ?_ _ | refine blk_far ?_ NB101_104.out _)); refine blk_put (cs := #[.int .i64 (wrap64 (a0_0 - 1)), .slice (some ad103) l0_1.length co6, .slice Ao7 l0_2.length co7]) ?_ 0 _ rfl; (with_reducible repeat (first | refine blk_drewN ?_ _ | refine blk_drew ?_ | refine blk_alloc ?_ _ | refine blk_far ?_ NB101_104.out _)); refine blk_put (cs := #[.int .i64 a0_0, .slice (some ad103) l0_1.length co6, .slice Ao7 l0_2.length co7]) ?_ 0 _ rfl; (with_reducible repeat (first | refine blk_drewN ?_ _ | refine blk_drew ?_ | refine blk_alloc ?_ _)); exact BK101.out⟩, ⟨by (with_reducible repeat (first | refine blk_drewN ?_ _ | refine blk_drew ?_ | refine blk_alloc ?_ _ | refine blk_far ?_ NB102_104.out _ | refine blk_far ?_ NB102_101.out _)); exact BK102.out⟩, ⟨by (with_reducible repeat (first | refine blk_drewN ?_ _ | refine blk_drew ?_ | refine blk_alloc ?_ _)); refine blk_put (cs := #[.int .i64 0, .int .i64 ((rd_T45 l0_1 a1).f1), .int .i64 ((rd_T45 l0_1 a1).f2), .bool ((rd_T45 l0_1 a1).f3)]) ?_ 2 _ rfl; (with_reducible repeat (first | refine blk_drewN ?_ _ | refine blk_drew ?_ | refine blk_alloc ?_ _)); refine blk_put (cs := #[.int .i64 5, .int .i64 ((rd_T45 l0_1 a1).f1), .int .i64 ((rd_T45 l0_1 a1).f2), .bool ((rd_T45 l0_1 a1).f3)]) ?_ 0 _ rfl; (with_reducible repeat (first | refine blk_drewN ?_ _ | refine blk_drew ?_ | refine blk_alloc ?_ _ | refine blk_far ?_ NB104_101.out _)); refine blk_put (cs := #[.int .i64 ((rd_T45 l0_1 a1).f0), .int .i64 ((rd_T45 l0_1 a1).f1), .int .i64 ((rd_T45 l0_1 a1).f2), .bool ((rd_T45 l0_1 a1).f3)]) ?_ 0 _ rfl; (with_reducible repeat (first | refine blk_drewN ?_ _ | refine blk_drew ?_ | refine blk_alloc ?_ _ | refine blk_far ?_ NB104_101.out _)); exact BK104.out⟩, ⟨by repeat (first | (with_reducible first | exact HK.out | apply Kept.alloc | apply Kept.drewN | apply Kept.drew | refine Kept.setCell ?_ (.inr GW101.out) _ | refine Kept.setCell ?_ (.inr GW102.out) _ | refine Kept.setCell ?_ (.inr GW104.out) _) | exact HK.out)⟩, ⟨by repeat (first | (with_reducible first | exact HB.out | apply below_alloc | apply pw_below_drewN | apply below_drew1 | refine below_set ?_ GE101.out | refine below_set ?_ GE102.out | refine below_set ?_ GE104.out) | exact HB.out)⟩⟩
          ·
           rw [if_neg c64] at H; have c64b0 : decide ((wrap64 (a0_0 - 1)) ≤ 0) = false := decide_eq_false c64; clear c64; have H' := Aside0.mk H; clear H; have hnb70 := NB101_102.out; have hnc70 := NB102_101.out; have hnb71 := NB101_104.out; have hnc71 := NB104_101.out; obtain ⟨hcz72_0, hcz72_1, hcz72_2⟩ := cz3 BK101.out; obtain ⟨hfz72_0, hfz72_1, hfz72_2⟩ := fz3 BK101.out; have hnb73 := NB104_102.out; have hnc73 := NB102_104.out; obtain ⟨hcz74_0, hcz74_1, hcz74_2, hcz74_3⟩ := cz4 BK104.out; obtain ⟨hfz74_0, hfz74_1, hfz74_2, hfz74_3⟩ := fz4 BK104.out
           go_wp2
           go_meet
           case rel => exact ⟨_, (wrap64 (a0_0 - 1)), (l0_1), (l0_2), (5), (((rd_T45 l0_1 a1).f1)), (((rd_T45 l0_1 a1).f2)), (((rd_T45 l0_1 a1).f3)), (.slice (some ad103) l0_1.length co6), (.slice Ao7 l0_2.length co7), H', ⟨by have := HJ15.out; first | omega | exact Nat.le_refl _⟩, ⟨rz (Kd.R_mono (Kd.R_far (p := ⟨gb104, 0, none⟩) (Kd.R_far (p := ⟨gb101, 0, none⟩) (Kd.R_mono (Kd.R_types HO_102001.out BK101.out (by decide)) (fun k_ hk => (⟨hk, hk.1.2⟩ : _ ∧ k_ ≠ gb104))) (fun _ hk => hk.1.2) (.int .i64 (wrap64 (a0_0 - 1)))) (fun _ hk => hk.2) (.int .i64 5)) (fun _ hk => ⟨hk.1.1.1, hk.1.1.2⟩))⟩, ⟨rz (Kd.R_mono (Kd.R_far (p := ⟨gb104, 0, none⟩) (Kd.R_far (p := ⟨gb101, 0, none⟩) (Kd.R_types (Kd.R_types HO_102002.out BK101.out (by decide)) BK104.out (by decide)) (fun _ hk => hk.1.2) (.int .i64 (wrap64 (a0_0 - 1)))) (fun _ hk => hk.2) (.int .i64 5)) (fun _ hk => hk.1.1))⟩, ⟨by (with_reducible repeat (first | refine blk_drewN ?_ _ | refine blk_drew ?_ | refine blk_alloc ?_ _ | refine blk_far ?_ NB101_104.out _)); refine blk_put (cs := #[.int .i64 a0_0, .slice (some ad103) l0_1.length co6, .slice Ao7 l0_2.length co7]) ?_ 0 _ rfl; (with_reducible repeat (first | refine blk_drewN ?_ _ | refine blk_drew ?_ | refine blk_alloc ?_ _)); exact BK101.out⟩, ⟨by (with_reducible repeat (first | refine blk_drewN ?_ _ | refine blk_drew ?_ | refine blk_alloc ?_ _ | refine blk_far ?_ NB102_104.out _ | refine blk_far ?_ NB102_101.out _)); exact BK102.out⟩, ⟨by (with_reducible repeat (first | refine blk_drewN ?_ _ | refine blk_drew ?_ | refine blk_alloc ?_ _)); refine blk_put (cs := #[.int .i64 ((rd_T45 l0_1 a1).f0), .int .i64 ((rd_T45 l0_1 a1).f1), .int .i64 ((rd_T45 l0_1 a1).f2), .bool ((rd_T45 l0_1 a1).f3)]) ?_ 0 _ rfl; (with_reducible repeat (first | refine blk_drewN ?_ _ | refine blk_drew ?_ | refine blk_alloc ?_ _ | refine blk_far ?_ NB104_101.out _)); exact BK104.out⟩, ⟨by repeat (first | (with_reducible first | exact HK.out | apply Kept.alloc | apply Kept.drewN | apply Kept.drew | refine Kept.setCell ?_ (.inr GW101.out) _ | refine Kept.setCell ?_ (.inr GW102.out) _ | refine Kept.setCell ?_ (.inr GW104.out) _) | exact HK.out)⟩, ⟨by repeat (first | (with_reducible first | exact HB.out | apply below_alloc | apply pw_below_drewN | apply below_drew1 | refine below_set ?_ GE101.out | refine below_set ?_ GE102.out | refine below_set ?_ GE104.out) | exact HB.out)⟩⟩
         ·
          rw [if_neg c63] at H; have c63b0 : (((rd_T45 l0_1 a1).f0) == 4) = false := beq_eq_false_iff_ne.mpr c63; have c63b1 : (((rd_T45 l0_1 a1).f0) != 4) = true := bne_iff_ne.mpr c63
          by_cases c75 : ((rd_T45 l0_1 a1).f0) = 5
          ·
           rw [if_pos c75] at H; have c75b0 : (((rd_T45 l0_1 a1).f0) == 5) = true := beq_iff_eq.mpr c75; have c75b1 : (((rd_T45 l0_1 a1).f0) != 5) = false := bne_eq_false_iff_eq.mpr c75; clear c75; have H' := Aside0.mk H; clear H; have hnb76 := NB101_102.out; have hnc76 := NB102_101.out; have hnb77 := NB101_104.out; have hnc77 := NB104_101.out; obtain ⟨hcz78_0, hcz78_1, hcz78_2⟩ := cz3 BK101.out; obtain ⟨hfz78_0, hfz78_1, hfz78_2⟩ := fz3 BK101.out; have hnb79 := NB104_102.out; have hnc79 := NB102_104.out; obtain ⟨hcz80_0, hcz80_1, hcz80_2, hcz80_3⟩ := cz4 BK104.out; obtain ⟨hfz80_0, hfz80_1, hfz80_2, hfz80_3⟩ := fz4 BK104.out
           go_wp2
           go_meet
           case rel => exact ⟨_, (0), (l0_1), (l0_2), (6), (((rd_T45 l0_1 a1).f1)), (((rd_T45 l0_1 a1).f2)), (((rd_T45 l0_1 a1).f3)), (.slice (some ad103) l0_1.length co6), (.slice Ao7 l0_2.length co7), H', ⟨by have := HJ15.out; first | omega | exact Nat.le_refl _⟩, ⟨rz (Kd.R_mono (Kd.R_far (p := ⟨gb104, 0, none⟩) (Kd.R_far (p := ⟨gb101, 0, none⟩) (Kd.R_mono (Kd.R_types HO_102001.out BK101.out (by decide)) (fun k_ hk => (⟨hk, hk.1.2⟩ : _ ∧ k_ ≠ gb104))) (fun _ hk => hk.1.2) (.int .i64 0)) (fun _ hk => hk.2) (.int .i64 6)) (fun _ hk => ⟨hk.1.1.1, hk.1.1.2⟩))⟩, ⟨rz (Kd.R_mono (Kd.R_far (p := ⟨gb104, 0, none⟩) (Kd.R_far (p := ⟨gb101, 0, none⟩) (Kd.R_types (Kd.R_types HO_102002.out BK101.out (by decide)) BK104.out (by decide)) (fun _ hk => hk.1.2) (.int .i64 0)) (fun _ hk => hk.2) (.int .i64 6)) (fun _ hk => hk.1.1))⟩, ⟨by (with_reducible repeat (first | refine blk_drewN ?_ _ | refine blk_drew ?_ | refine blk_alloc ?_ _ | refine blk_far ?_ NB101_104.out _)); refine blk_put (cs := #[.int .i64 a0_0, .slice (some ad103) l0_1.length co6, .slice Ao7 l0_2.length co7]) ?_ 0 _ rfl; (with_reducible repeat (first | refine blk_drewN ?_ _ | refine blk_drew ?_ | refine blk_alloc ?_ _)); exact BK101.out⟩, ⟨by (with_reducible repeat (first | refine blk_drewN ?_ _ | refine blk_drew ?_ | refine blk_alloc ?_ _ | refine blk_far ?_ NB102_104.out _ | refine blk_far ?_ NB102_101.out _)); exact BK102.out⟩, ⟨by (with_reducible repeat (first | refine blk_drewN ?_ _ | refine blk_drew ?_ | refine blk_alloc ?_ _)); refine blk_put (cs := #[.int .i64 ((rd_T45 l0_1 a1).f0), .int .i64 ((rd_T45 l0_1 a1).f1), .int .i64 ((rd_T45 l0_1 a1).f2), .bool ((rd_T45 l0_1 a1).f3)]) ?_ 0 _ rfl; (with_reducible repeat (first | refine blk_drewN ?_ _ | refine blk_drew ?_ | refine blk_alloc ?_ _ | refine blk_far ?_ NB104_101.out _)); exact BK104.out⟩, ⟨by repeat (first | (with_reducible first | exact HK.out | apply Kept.alloc | apply Kept.drewN | apply Kept.drew | refine Kept.setCell ?_ (.inr GW101.out) _ | refine Kept.setCell ?_ (.inr GW102.out) _ | refine Kept.setCell ?_ (.inr GW104.out) _) | exact HK.out)⟩, ⟨by repeat (first | (with_reducible first | exact HB.out | apply below_alloc | apply pw_below_drewN | apply below_drew1 | refine below_set ?_ GE101.out | refine below_set ?_ GE102.out | refine below_set ?_ GE104.out) | exact HB.out)⟩⟩
          ·
           rw [if_neg c75] at H; have c75b0 : (((rd_T45 l0_1 a1).f0) == 5) = false := beq_eq_false_iff_ne.mpr c75; have c75b1 : (((rd_T45 l0_1 a1).f0) != 5) = true := bne_iff_ne.mpr c75
           by_cases c81 : ((rd_T45 l0_1 a1).f0) = 6
           ·
            rw [if_pos c81] at H; have c81b0 : (((rd_T45 l0_1 a1).f0) == 6) = true := beq_iff_eq.mpr c81; have c81b1 : (((rd_T45 l0_1 a1).f0) != 6) = false := bne_eq_false_iff_eq.mpr c81; clear c81
            by_cases c82 : (l0_2.length : Int) > 0
            ·
             rw [if_pos c82] at H; have c82b0 : decide (0 < (l0_2.length : Int)) = true := decide_eq_true c82; have c82b1 : decide (0 < l0_2.length) = true := decide_eq_true (by omega); clear c82
             by_cases c83 : 0 < (l0_2.length : Int)
             ·
              rw [if_pos c83] at H; have c83b0 : decide (0 < (l0_2.length : Int)) = true := decide_eq_true c83; have c83b1 : decide (0 < l0_2.length) = true := decide_eq_true (by omega); clear c83
              by_cases c84 : 0 ≤ (rd l0_2 0)
              ·
               rw [if_pos c84] at H; have c84b0 : decide (0 ≤ (rd l0_2 0)) = true := decide_eq_true c84; clear c84
               by_cases c85 : (rd l0_2 0) < (l0_1.length : Int)
               ·
                rw [if_pos c85] at H; have c85b0 : decide ((rd l0_2 0) < (l0_1.length : Int)) = true := decide_eq_true c85; clear c85; obtain ⟨y109, hy109⟩ : ∃ y_ : List (S45), y_ = (l0_1.set ((rd l0_2 0) : Int).toNat (⟨(rd_T45 l0_1 (rd l0_2 0)).f0, (rd_T45 l0_1 (rd l0_2 0)).f1, (rd_T45 l0_1 (rd l0_2 0)).f2, false⟩ : S45)) := ⟨_, rfl⟩
                replace H : ((some (([] : List Int) : List Int)).bind fun y110 => (if 1 ≤ (l0_2.length : Int) then ((some (l0_2.drop 1 : List Int)).bind fun y113 => (if y110.length + y113.length < 17592186044416 then (spec_l12Step.j1 kj15 a1 a0_0 y109 (y110 ++ y113) 0 ((rd_T45 l0_1 a1).f1) (wrap64 (((rd_T45 l0_1 a1).f2) - 1)) ((rd_T45 l0_1 a1).f3)) else (none))) else (none))) = some (r1, r2, r3) := by first | (rw [hy109]; with_reducible exact H) | (have H2_ := (Option.bind_some _ _).symm.trans H; rw [hy109]; with_reducible exact H2_) | (have H2_ := (Option.bind_some _ _).symm.trans H; with_reducible exact H2_) | with_reducible exact H | (rw [hy109]; exact H) | exact H
                have Ny109 := Aside0.mk hy109; clear hy109; obtain ⟨y110, hy110⟩ : ∃ y_ : List Int, y_ = (([] : List Int)) := ⟨_, rfl⟩
                replace H : (if 1 ≤ (l0_2.length : Int) then ((some (l0_2.drop 1 : List Int)).bind fun y113 => (if y110.length + y113.length < 17592186044416 then (spec_l12Step.j1 kj15 a1 a0_0 y109 (y110 ++ y113) 0 ((rd_T45 l0_1 a1).f1) (wrap64 (((rd_T45 l0_1 a1).f2) - 1)) ((rd_T45 l0_1 a1).f3)) else (none))) else (none)) = some (r1, r2, r3) := by first | (rw [hy110]; with_reducible exact H) | (have H2_ := (Option.bind_some _ _).symm.trans H; rw [hy110]; with_reducible exact H2_) | (have H2_ := (Option.bind_some _ _).symm.trans H; with_reducible exact H2_) | with_reducible exact H | (rw [hy110]; exact H) | exact H
                have Ny110 := Aside0.mk hy110; clear hy110
                by_cases c87 : 1 ≤ (l0_2.length : Int)
                ·
                 rw [if_pos c87] at H; have c87b0 := eq_true c87; have c87b1 : decide (1 ≤ (l0_2.length : Int)) = true := decide_eq_true c87; clear c87; obtain ⟨y113, hy113⟩ : ∃ y_ : List Int, y_ = (l0_2.drop 1) := ⟨_, rfl⟩
                 replace H : (if y110.length + y113.length < 17592186044416 then (spec_l12Step.j1 kj15 a1 a0_0 y109 (y110 ++ y113) 0 ((rd_T45 l0_1 a1).f1) (wrap64 (((rd_T45 l0_1 a1).f2) - 1)) ((rd_T45 l0_1 a1).f3)) else (none)) = some (r1, r2, r3) := by first | (rw [hy113]; with_reducible exact H) | (have H2_ := (Option.bind_some _ _).symm.trans H; rw [hy113]; with_reducible exact H2_) | (have H2_ := (Option.bind_some _ _).symm.trans H; with_reducible exact H2_) | with_reducible exact H | (rw [hy113]; exact H) | exact H
                 have Ny113 := Aside0.mk hy113; clear hy113
                 by_cases c88 : y110.length + y113.length < 17592186044416
                 ·
                  rw [if_pos c88] at H; have LMc88 := Aside0.mk c88; clear c88; obtain ⟨y117, hy117⟩ : ∃ y_ : List Int, y_ = (y110 ++ y113) := ⟨_, rfl⟩
                  replace H : (spec_l12Step.j1 kj15 a1 a0_0 y109 y117 0 ((rd_T45 l0_1 a1).f1) (wrap64 (((rd_T45 l0_1 a1).f2) - 1)) ((rd_T45 l0_1 a1).f3)) = some (r1, r2, r3) := by first | (rw [hy117]; with_reducible exact H) | (have H2_ := (Option.bind_some _ _).symm.trans H; rw [hy117]; with_reducible exact H2_) | (have H2_ := (Option.bind_some _ _).symm.trans H; with_reducible exact H2_) | with_reducible exact H | (rw [hy117]; exact H) | exact H
                  have Ny117 := Aside0.mk hy117; clear hy117; have H' := Aside0.mk H; clear H; have hnb89 := NB101_102.out; have hnc89 := NB102_101.out; have hnb90 := NB101_104.out; have hnc90 := NB104_101.out; obtain ⟨hcz91_0, hcz91_1, hcz91_2⟩ := cz3 BK101.out; obtain ⟨hfz91_0, hfz91_1, hfz91_2⟩ := fz3 BK101.out
                  try go_wp2
                  replace HO_102001 := Aside0.mk (Kd.R_drew HO_102001.out); replace HO_102002 := Aside0.mk (Kd.R_drew HO_102002.out); replace BK101 := Aside0.mk (blk_drew BK101.out); replace BK102 := Aside0.mk (blk_drew BK102.out); replace BK104 := Aside0.mk (blk_drew BK104.out); replace HK := Aside0.mk (Kept.drew HK.out); replace HB := Aside0.mk (below_drew1 HB.out); have p108 : 0 ≤ (0 : Int) := (by omega); have q108 : 0 < (l0_2.length : Int) := of_decide_eq_true zs; obtain ⟨ad108, e108, hx108_0⟩ := Kd.at_int (Kd.R_reads' HO_102002.out).2.2 0 p108 q108; cases e108; have qi108 : (0 < l0_2.length) = True := eq_true (by omega); (try rw [show ((0 : Int)).toNat = 0 from rfl] at hx108_0); (try rw [Addr.add_zero'] at hx108_0); replace p108 := eq_true p108; replace q108 := eq_true q108; have p86 : 0 ≤ ((rd l0_2 0) : Int) := of_decide_eq_true zs; have q86 : ((rd l0_2 0) : Int) < ((l0_1.length : Int) : Int) := of_decide_eq_true zs; obtain ⟨go86, co86, eo86, gb86, gl86, cl86, HG86⟩ := Kd.R_form HO_102001.out (by omega)
                  (first | cases eo86 | (injection eo86 with ea_ en_ ec_; (first | subst ea_ | (injection ea_ with ea_; subst ea_)); subst ec_; clear en_))
                  have GB86 := Aside0.mk gb86; have GG86 := Aside0.mk HG86; clear gb86 gl86 HG86; have HMgo86 := Aside0.mk (show ((P0_1_ go86 ∨ P0_2_ go86) ∨ w.heap.size ≤ go86) from (HO_102001.out.1 _ rfl).1)
                  (first | simp only [add_plain] at hx103_0 | skip)
                  (first | simp only [add_plain] at hx103_1 | skip)
                  (first | simp only [add_plain] at hx103_2 | skip)
                  (first | simp only [add_plain] at hx103_3 | skip)
                  obtain ⟨ce86, hcl86, hM86, hcc86, hfr86⟩ := Kd.R_elem HO_102001.out z45 ((rd l0_2 0) : Int) p86 q86; obtain rfl := k45_openM hM86; have hx86_0 : World.cell? _ ⟨go86, ((rd l0_2 0) : Int).toNat * 4, none⟩ = some (.int .i64 ((rd_T45 l0_1 (rd l0_2 0)).f0)) := hcc86 0 _ rfl; have hx86_1 : World.cell? _ ⟨go86, ((rd l0_2 0) : Int).toNat * 4 + 1, none⟩ = some (.int .i64 ((rd_T45 l0_1 (rd l0_2 0)).f1)) := hcc86 1 _ rfl; have hx86_2 : World.cell? _ ⟨go86, ((rd l0_2 0) : Int).toNat * 4 + 2, none⟩ = some (.int .i64 ((rd_T45 l0_1 (rd l0_2 0)).f2)) := hcc86 2 _ rfl; have hx86_3 : World.cell? _ ⟨go86, ((rd l0_2 0) : Int).toNat * 4 + 3, none⟩ = some (.bool ((rd_T45 l0_1 (rd l0_2 0)).f3)) := hcc86 3 _ rfl; have hf86_0 : World.frozen? _ ⟨go86, ((rd l0_2 0) : Int).toNat * 4, none⟩ = false := hfr86 0; have hf86_1 : World.frozen? _ ⟨go86, ((rd l0_2 0) : Int).toNat * 4 + 1, none⟩ = false := hfr86 1; have hf86_2 : World.frozen? _ ⟨go86, ((rd l0_2 0) : Int).toNat * 4 + 2, none⟩ = false := hfr86 2; have hf86_3 : World.frozen? _ ⟨go86, ((rd l0_2 0) : Int).toNat * 4 + 3, none⟩ = false := hfr86 3; clear hcl86 hcc86 hfr86 hM86; replace p86 := eq_true p86; replace q86 := eq_true q86; obtain ⟨ce93, hcl93, hM93, hcc93, hfr93⟩ := Kd.R_elem HO_102001.out z45 ((rd l0_2 0) : Int) (of_decide_eq_true zs) (by have h_ : ((rd l0_2 0) : Int) < ((l0_1.length : Int) : Int) := of_decide_eq_true zs; first | exact h_ | (have e_ := (Kd.R_reads' HO_102001.out).1; omega) | simpa using h_); obtain rfl := k45_openM hM93; have HP93 := (Kd.R_seg HO_102001.out ((rd l0_2 0) : Int) (of_decide_eq_true zs) (by have h_ : ((rd l0_2 0) : Int) < ((l0_1.length : Int) : Int) := of_decide_eq_true zs; first | exact h_ | (have e_ := (Kd.R_reads' HO_102001.out).1; omega) | simpa using h_) (seg := [.bool false]) (j := 3) hcl93 hcc93 (show 4 ≤ 4 from by decide) (x' := (⟨(rd_T45 l0_1 (rd l0_2 0)).f0, (rd_T45 l0_1 (rd l0_2 0)).f1, (rd_T45 l0_1 (rd l0_2 0)).f2, false⟩ : S45)) (k45_mkM _ _ _ (⟨(rd_T45 l0_1 (rd l0_2 0)).f0, (rd_T45 l0_1 (rd l0_2 0)).f1, (rd_T45 l0_1 (rd l0_2 0)).f2, false⟩ : S45) ) (fun _ hk => hk)).1; rw [← Ny109.out] at HP93; have HQ93 := Aside0.mk HP93; clear hcl93 hcc93 hfr93 hM93 HP93; refine start_ (n := 9) (S := fun w' => w'.cell? ⟨gb101, 0, none⟩ = some (.int .i64 a0_0) ∧ w'.cell? ⟨gb101, 1, none⟩ = some (.slice (some ⟨go86, 0, none⟩) l0_1.length co6) ∧ w'.cell? ⟨gb101, 2, none⟩ = some (.slice (some ad108) l0_2.length co7) ∧ w'.cell? ad108 = some (.int .i64 (rd l0_2 0))) (ds := [8]) (lb 9 0) zk rfl rfl ⟨(blk_cell BK101.out 0).trans rfl, (blk_cell BK101.out 1).trans rfl, (blk_cell BK101.out 2).trans rfl, hx108_0⟩ (fun hHeld => ?_); refine with_tabW spec_l12Step.tab35 spec_l12Step.bits35 (fun HT_ HW_ => ?_)
                  generalize wc.drew = w92 at HO_102001 HO_102002 BK101 BK102 BK104 HK HB GG86 HQ93 hf86_0 hf86_1 hf86_2 hf86_3 hx108_0 hx86_0 hx86_1 hx86_2 hx86_3 hHeld ⊢
                  refine pz 0 (some 83) (lb 9 1) rfl rfl HT_.out ?_; refine pz 2 (some 85) (lb 9 5) rfl rfl HT_.out ?_; refine tz 1 (some 84) (lb 9 7) rfl rfl HT_.out HW_.out hHeld ?_; refine tz 3 (some 86) (lb 9 15) rfl rfl HT_.out HW_.out hHeld ?_; refine pz 4 (some 87) (lb 9 31) rfl rfl HT_.out ?_; refine tz 5 (some 88) (lb 9 63) rfl rfl HT_.out HW_.out hHeld ?_; refine pz 6 (some 89) (lb 9 127) rfl rfl HT_.out ?_; refine pz 7 (some 90) (lb 9 255) rfl rfl HT_.out ?_; refine last_ (i := 8) (N := none) (lb 9 511) rfl rfl (one_of HT_.out zk) (by decide) (fun K hK => ?_); refine skip_ (w1 := ?_) (by rfl) rfl ?_ ?_; rotate_left
                  ·
                   go_simp
                   rfl
                  refine hK.out _ _ ?_; clear hK K; refine done_ (done_of HT_.out zk) ?_; have n0_ : Aside0 (Kd.R k45 45 (w92.setCell ⟨go86, ((rd l0_2 0) : Int).toNat * 4 + 3, none⟩ (.bool false)) w0.heap.size (fun k_ => ((P0_1_ k_ ∨ P0_2_ k_) ∨ w.heap.size ≤ k_) ∧ k_ ≠ gb104) (.slice (some ⟨go86, 0, none⟩) l0_1.length co6) y109) := ⟨rz (HQ93.out)⟩; have n1_ : Aside0 (Kd.R (Kd.int .i64) 3 (w92.setCell ⟨go86, ((rd l0_2 0) : Int).toNat * 4 + 3, none⟩ (.bool false)) w0.heap.size (fun k_ => ((P0_1_ k_ ∨ P0_2_ k_) ∨ w.heap.size ≤ k_)) (.slice (some ad108) l0_2.length co7) l0_2) := ⟨rz (Kd.R_mono (Kd.R_far (p := ⟨go86, ((rd l0_2 0) : Int).toNat * 4 + 3, none⟩) (Kd.R_types HO_102002.out GG86.out (by decide)) (fun _ hk => hk.2) (.bool false)) (fun _ hk => hk.1))⟩; have n2_ : Aside0 ((w92.setCell ⟨go86, ((rd l0_2 0) : Int).toNat * 4 + 3, none⟩ (.bool false)).heap[gb101]? = some (.cells #[.int .i64 a0_0, .slice (some ⟨go86, 0, none⟩) l0_1.length co6, .slice (some ad108) l0_2.length co7] 37 (0, 0))) := ⟨by (with_reducible repeat (first | refine blk_drewN ?_ _ | refine blk_drew ?_ | refine blk_alloc ?_ _)); refine blk_far ?_ (by have h_ := Kd.R_ne HO_102001.out BK101.out (by decide); intro e_; exact h_ (by rw [e_]; rfl)) _; (with_reducible repeat (first | refine blk_drewN ?_ _ | refine blk_drew ?_ | refine blk_alloc ?_ _)); exact BK101.out⟩; have n3_ : Aside0 ((w92.setCell ⟨go86, ((rd l0_2 0) : Int).toNat * 4 + 3, none⟩ (.bool false)).heap[gb102]? = some (.cells #[.int .i64 0, .slice none 0 0, .slice none 0 0] 37 (0, 0))) := ⟨by (with_reducible repeat (first | refine blk_drewN ?_ _ | refine blk_drew ?_ | refine blk_alloc ?_ _)); refine blk_far ?_ (by have h_ := Kd.R_ne HO_102001.out BK102.out (by decide); intro e_; exact h_ (by rw [e_]; rfl)) _; (with_reducible repeat (first | refine blk_drewN ?_ _ | refine blk_drew ?_ | refine blk_alloc ?_ _)); exact BK102.out⟩; have n4_ : Aside0 ((w92.setCell ⟨go86, ((rd l0_2 0) : Int).toNat * 4 + 3, none⟩ (.bool false)).heap[gb104]? = some (.cells #[.int .i64 ((rd_T45 l0_1 a1).f0), .int .i64 ((rd_T45 l0_1 a1).f1), .int .i64 ((rd_T45 l0_1 a1).f2), .bool ((rd_T45 l0_1 a1).f3)] 45 (0, 0))) := ⟨by (with_reducible repeat (first | refine blk_drewN ?_ _ | refine blk_drew ?_ | refine blk_alloc ?_ _)); refine blk_far ?_ (by have h_ := Kd.R_away HO_102001.out (fun _ hk => hk.2); intro e_; exact h_ (by rw [e_]; rfl)) _; (with_reducible repeat (first | refine blk_drewN ?_ _ | refine blk_drew ?_ | refine blk_alloc ?_ _)); exact BK104.out⟩; have n5_ : Aside0 (Kept w (w92.setCell ⟨go86, ((rd l0_2 0) : Int).toNat * 4 + 3, none⟩ (.bool false)) (fun k_ => P0_1_ k_ ∨ P0_2_ k_)) := ⟨by repeat (first | (with_reducible first | exact HK.out | apply Kept.alloc | apply Kept.drewN | apply Kept.drew | refine Kept.setCell ?_ HMgo86.out _ | refine Kept.setCell ?_ (.inr GW101.out) _ | refine Kept.setCell ?_ (.inr GW102.out) _ | refine Kept.setCell ?_ (.inr GW104.out) _) | exact HK.out)⟩; have n6_ : Aside0 (Below w0.heap.size w0 (w92.setCell ⟨go86, ((rd l0_2 0) : Int).toNat * 4 + 3, none⟩ (.bool false))) := ⟨by repeat (first | (with_reducible first | exact HB.out | apply below_alloc | apply pw_below_drewN | apply below_drew1 | refine below_set ?_ GB86.out | refine below_set ?_ GE101.out | refine below_set ?_ GE102.out | refine below_set ?_ GE104.out) | exact HB.out)⟩; (try clear HO_102001); (try clear HO_102002); (try clear BK101); (try clear BK102); (try clear BK104); (try clear HK); (try clear HB)
                  generalize (w92.setCell ⟨go86, ((rd l0_2 0) : Int).toNat * 4 + 3, none⟩ (.bool false)) = w94 at n0_ n1_ n2_ n3_ n4_ n5_ n6_ ⊢
                  have HO_102001 := n0_; have HO_102002 := n1_; have BK101 := n2_; have BK102 := n3_; have BK104 := n4_; have HK := n5_; have HB := n6_; clear n0_ n1_ n2_ n3_ n4_ n5_ n6_
                  try go_wp2_with (first | ((with_reducible refine gate_dst (N := 91) rfl ?_); refine Kd.R_lit (Kd.int .i64) _ 3 ?hg (N := 91) ?hd (xs := ([] : List Int)) (inner := []) (ok := fun _ => True) (okp := fun _ => True) ?hr ?hp (fun _ hk => hk) trivial (Below.refl _ _) (Nat.le_refl _) (by simp) ?_; (case hd => rfl); (case hg => rfl); (case hr => first | (go_simp; done) | (go_simp; rfl)); (case hp => exact (Reps.none _ _)); intro v111 w95 ho96 hb hg_ hnew_; clear hg_ hnew_; (first | rw [← Ny110.out] at ho96 | (simp only [Int.reduceToNat] at ho96; rw [← Ny110.out] at ho96)); replace HO_102001 := Aside0.mk (Kd.R_below (rz HO_102001.out) hb); have HO112 := Aside0.mk (Kd.R_lower (Kd.R_new' (Kd.R_newM (M := fun k_ => ((P0_1_ k_ ∨ P0_2_ k_) ∨ w.heap.size ≤ k_)) ho96 (by first | exact HK.out.1 | exact (show Kept w _ (fun k_ => P0_1_ k_ ∨ P0_2_ k_) from by repeat (first | (with_reducible first | exact HK.out | apply Kept.alloc | apply Kept.drewN | apply Kept.drew | refine Kept.setCell ?_ (.inr GW101.out) _ | refine Kept.setCell ?_ (.inr GW102.out) _ | refine Kept.setCell ?_ (.inr GW104.out) _) | exact HK.out)).1) (fun k_ h_ => .inr h_)) (Kd.R_lt (rz HO_102002.out))) (below_size (w48_1 HB.out GE101.out GE102.out GE104.out))); replace HO_102002 := Aside0.mk (Kd.R_elder' (rz HO_102002.out) (Kd.R_base ho96) hb); replace BK101 := Aside0.mk (blk_below (kz BK101.out) hb); replace BK102 := Aside0.mk (blk_below (kz BK102.out) hb); replace BK104 := Aside0.mk (blk_below (kz BK104.out) hb); replace HK := Aside0.mk (Kept.below (S := (fun k_ => P0_1_ k_ ∨ P0_2_ k_)) (by repeat (first | (with_reducible first | exact HK.out | apply Kept.alloc | apply Kept.drewN | apply Kept.drew | refine Kept.setCell ?_ (.inr GW101.out) _ | refine Kept.setCell ?_ (.inr GW102.out) _ | refine Kept.setCell ?_ (.inr GW104.out) _) | exact HK.out)) hb); replace HB := Aside0.mk (below_step (w48_1 HB.out GE101.out GE102.out GE104.out) hb); clear hb ho96; obtain ⟨hcz97_0, hcz97_1, hcz97_2⟩ := cz3 BK101.out; obtain ⟨hfz97_0, hfz97_1, hfz97_2⟩ := fz3 BK101.out; have q98 : (1 : Int) ≤ ((l0_2.length : Int) : Int) := of_decide_eq_true zs; obtain ⟨i098, hi098, _, hsz98, _⟩ := info_parts info3; have hroom98 : l0_2.length ≤ co7 := (Kd.R_reads' HO_102002.out).2.1; have hC98 : Kd.C (Kd.int .i64) _ (some ad108) l0_2.length l0_2 := (Kd.R_reads' HO_102002.out).2.2; have hcut98 := cut_from (P := Try.prog) 30 3 .i64 Try.underlying30 hi098 1 hsz98 (some ad108) l0_2.length co7 1 (by omega) q98; have hr98 := Kd.C_drop (m := (1 : Int).toNat) (c := co7) hC98 (by omega) hroom98; obtain ⟨A98, hA98⟩ : ∃ A1, A1 = (if co7 = (1 : Int).toNat then (some ad108) else ((some ad108) : Option Addr).map (·.add ((1 : Int).toNat * 1))) := ⟨_, rfl⟩; obtain ⟨c98, hc98⟩ : ∃ c1, c1 = co7 - (1 : Int).toNat := ⟨_, rfl⟩; have hy98 : y113.length = l0_2.length - (1 : Int).toNat := (by rw [Ny113.out, List.length_drop] <;> omega); rw [show (l0_2).drop (1 : Int).toNat = y113 from Ny113.out.symm] at hr98; replace hr98 : Kd.C (Kd.int .i64) _ A98 y113.length y113 := (by rw [hA98]; exact hr98); rw [← hy98, ← hA98, ← hc98] at hcut98; have HR116 := Aside0.mk hr98; have HC116 := Aside0.mk (show y113.length ≤ c98 from by rw [hy98, hc98]; exact Nat.sub_le_sub_right hroom98 _); clear hr98 hC98 hroom98 hi098 hsz98 hc98; have KY98 := Aside0.mk hy98; have KA98 := Aside0.mk hA98; clear hy98 hA98; have KL98 := Aside0.mk (show 1 ≤ l0_2.length from by omega); replace q98 := eq_true q98) | ((with_reducible refine gate_builtin (b := .append) (xs := #[.tmp 91, .tmp 94]) rfl ?_); at_builtin; refine Kd.R_append_rows (Kd.int .i64) (w0 := w0) w0.heap.size rfl (.tmp 91) (.tmp 94) 30 3 (.int .i64 0) 8 rfl Try.underlying30 info3 rfl (by decide) (by omega) v111 y110 y113 _ _ _ (fun k_ => ((P0_1_ k_ ∨ P0_2_ k_) ∨ w.heap.size ≤ k_) ∧ some k_ ≠ (.slice (some ad108) l0_2.length co7 : Value).ownBlock) (fun _ => False) rfl rfl ?aO ?aR (fun _ _ h => h) (fun _ h => h.elim) ?aF ?aB ?aS ?aL ?_; (case aR => repeat (first | exact (by repeat (first | (with_reducible exact HR116.out) | (with_reducible refine Kd.C_alloc ?_ _) | (with_reducible refine Kd.C_drewN ?_ _) | (with_reducible refine Kd.C_drew ?_) | exact HR116.out)) | (with_reducible refine Kd.C_alloc ?_ _) | (with_reducible refine Kd.C_drewN ?_ _) | (with_reducible refine Kd.C_drew ?_))); (case aB => exact (w48_1 HB.out GE101.out GE102.out GE104.out)); (case aF => exact (fun k_ hk => ⟨(.inr (Nat.le_trans (by first | exact HK.out.1 | exact (show Kept w _ (fun k_ => P0_1_ k_ ∨ P0_2_ k_) from by repeat (first | (with_reducible first | exact HK.out | apply Kept.alloc | apply Kept.drewN | apply Kept.drew | refine Kept.setCell ?_ (.inr GW101.out) _ | refine Kept.setCell ?_ (.inr GW102.out) _ | refine Kept.setCell ?_ (.inr GW104.out) _) | exact HK.out)).1) hk)), Kd.fresh' (Kd.R_lt (rz HO_102002.out)) k_ hk⟩)); (case aO => exact (rz (Kd.R_mono HO112.out (fun _ hk => ⟨hk.1.1, hk.2⟩)))); (case aS => exact (below_size (w48_1 HB.out GE101.out GE102.out GE104.out))); (case aL => have := LMc88.out; omega); intro v118 w99 ho hb hg hat; rw [← Ny117.out] at ho; have n0_ := Aside0.mk (Kd.R_over' (rz HO_102001.out) (Kd.R_typed (rz HO112.out)) (by decide) hg); have n1_ := Aside0.mk (Kd.R_after (ok := (fun k_ => ((P0_1_ k_ ∨ P0_2_ k_) ∨ w.heap.size ≤ k_))) (rz HO_102002.out) hg hat); have n2_ := Aside0.mk (blk_grown (kz BK101.out) hg (Kd.R_ne HO112.out BK101.out (by decide))); have n3_ := Aside0.mk (blk_grown (kz BK102.out) hg (Kd.R_ne HO112.out BK102.out (by decide))); have n4_ := Aside0.mk (blk_grown (kz BK104.out) hg (Kd.R_ne HO112.out BK104.out (by decide))); have n5_ := Aside0.mk (hb); have n6_ := Aside0.mk (Kept.of_grown (S := (fun k_ => P0_1_ k_ ∨ P0_2_ k_)) hg (by repeat (first | (with_reducible first | exact HK.out | apply Kept.alloc | apply Kept.drewN | apply Kept.drew | refine Kept.setCell ?_ (.inr GW101.out) _ | refine Kept.setCell ?_ (.inr GW102.out) _ | refine Kept.setCell ?_ (.inr GW104.out) _) | exact HK.out)) (fun k_ e_ => (HO112.out.1 k_ e_).1.1)); have n7_ := Aside0.mk ((show Kd.C (Kd.int .i64) w99 A98 y113.length y113 from by rw [Ny113.out, KA98.out]; exact Kd.C_drop (m := 1) (c := co7) ((Kd.R_reads' (Kd.R_after (ok := (fun k_ => ((P0_1_ k_ ∨ P0_2_ k_) ∨ w.heap.size ≤ k_))) (rz HO_102002.out) hg hat)).2.2) KL98.out ((Kd.R_reads' (Kd.R_after (ok := (fun k_ => ((P0_1_ k_ ∨ P0_2_ k_) ∨ w.heap.size ≤ k_))) (rz HO_102002.out) hg hat)).2.1))); have n8_ := Aside0.mk (ho); clear HO_102001; clear HO_102002; clear BK101; clear BK102; clear BK104; clear HB; clear HK; clear HR116; clear HO112; have HO_102001 := n0_; have HO_102002 := n1_; have BK101 := n2_; have BK102 := n3_; have BK104 := n4_; have HB := n5_; have HK := n6_; have HR116 := n7_; have HO119 := n8_; clear n0_ n1_ n2_ n3_ n4_ n5_ n6_ n7_ n8_; clear ho hb hg hat; obtain ⟨Ao100, co100, eo100⟩ := Kd.R_slice HO119.out; subst eo100; obtain ⟨hcz101_0, hcz101_1, hcz101_2⟩ := cz3 BK101.out; obtain ⟨hfz101_0, hfz101_1, hfz101_2⟩ := fz3 BK101.out; have hnb102 := NB104_102.out; have hnc102 := NB102_104.out; obtain ⟨hcz103_0, hcz103_1, hcz103_2, hcz103_3⟩ := cz4 BK104.out; obtain ⟨hfz103_0, hfz103_1, hfz103_2, hfz103_3⟩ := fz4 BK104.out))
                  go_meet
                  case rel => exact ⟨_, (a0_0), (y109), (y117), (0), (((rd_T45 l0_1 a1).f1)), (wrap64 (((rd_T45 l0_1 a1).f2) - 1)), (((rd_T45 l0_1 a1).f3)), (.slice (some ⟨go86, 0, none⟩) l0_1.length co6), (.slice Ao100 y117.length co100), H', ⟨by have := HJ15.out; first | omega | exact Nat.le_refl _⟩, ⟨rz (Kd.R_mono (Kd.R_far (p := ⟨gb104, 2, none⟩) (Kd.R_far (p := ⟨gb104, 0, none⟩) (Kd.R_far (p := ⟨gb101, 2, none⟩) (Kd.R_mono (Kd.R_types HO_102001.out BK101.out (by decide)) (fun k_ hk => (⟨hk, hk.1.2⟩ : _ ∧ k_ ≠ gb104))) (fun _ hk => hk.1.2) (.slice Ao100 y117.length co100)) (fun _ hk => hk.2) (.int .i64 0)) (fun _ hk => hk.2) (.int .i64 (wrap64 (((rd_T45 l0_1 a1).f2) - 1)))) (fun _ hk => ⟨hk.1.1.1, hk.1.1.2⟩))⟩, ⟨rz (Kd.R_mono (Kd.R_far (p := ⟨gb104, 2, none⟩) (Kd.R_far (p := ⟨gb104, 0, none⟩) (Kd.R_far (p := ⟨gb101, 2, none⟩) (Kd.R_types (Kd.R_types HO119.out BK101.out (by decide)) BK104.out (by decide)) (fun _ hk => hk.1.2) (.slice Ao100 y117.length co100)) (fun _ hk => hk.2) (.int .i64 0)) (fun _ hk => hk.2) (.int .i64 (wrap64 (((rd_T45 l0_1 a1).f2) - 1)))) (fun _ hk => hk.1.1.1))⟩, ⟨by (with_reducible repeat (first | refine blk_drewN ?_ _ | refine blk_drew ?_ | refine blk_alloc ?_ _ | refine blk_far ?_ NB101_104.out _)); refine blk_put (cs := #[.int .i64 a0_0, .slice (some ⟨go86, 0, none⟩) l0_1.length co6, .slice (some ad108) l0_2.length co7]) ?_ 2 _ rfl; (with_reducible repeat (first | refine blk_drewN ?_ _ | refine blk_drew ?_ | refine blk_alloc ?_ _)); exact BK101.out⟩, ⟨by (with_reducible repeat (first | refine blk_drewN ?_ _ | refine blk_drew ?_ | refine blk_alloc ?_ _ | refine blk_far ?_ NB102_104.out _ | refine blk_far ?_ NB102_101.out _)); exact BK102.out⟩, ⟨by (with_reducible repeat (first | refine blk_drewN ?_ _ | refine blk_drew ?_ | refine blk_alloc ?_ _)); refine blk_put (cs := #[.int .i64 0, .int .i64 ((rd_T45 l0_1 a1).f1), .int .i64 ((rd_T45 l0_1 a1).f2), .bool ((rd_T45 l0_1 a1).f3)]) ?_ 2 _ rfl; (with_reducible repeat (first | refine blk_drewN ?_ _ | refine blk_drew ?_ | refine blk_alloc ?_ _)); refine blk_put (cs := #[.int .i64 ((rd_T45 l0_1 a1).f0), .int .i64 ((rd_T45 l0_1 a1).f1), .int .i64 ((rd_T45 l0_1 a1).f2), .bool ((rd_T45 l0_1 a1).f3)]) ?_ 0 _ rfl; (with_reducible repeat (first | refine blk_drewN ?_ _ | refine blk_drew ?_ | refine blk_alloc ?_ _ | refine blk_far ?_ NB104_101.out _)); exact BK104.out⟩, ⟨by repeat (first | (with_reducible first | exact HK.out | apply Kept.alloc | apply Kept.drewN | apply Kept.drew | refine Kept.setCell ?_ (.inr GW101.out) _ | refine Kept.setCell ?_ (.inr GW102.out) _ | refine Kept.setCell ?_ (.inr GW104.out) _) | exact HK.out)⟩, ⟨by repeat (first | (with_reducible first | exact HB.out | apply below_alloc | apply pw_below_drewN | apply below_drew1 | refine below_set ?_ GE101.out | refine below_set ?_ GE102.out | refine below_set ?_ GE104.out) | exact HB.out)⟩⟩
                 ·
                  rw [if_neg c88] at H
                  exact absurd H (by simp)
                ·
                 rw [if_neg c87] at H
                 exact absurd H (by simp)
               ·
                rw [if_neg c85] at H
                exact absurd H (by simp)
              ·
               rw [if_neg c84] at H
               exact absurd H (by simp)
             ·
              rw [if_neg c83] at H
              exact absurd H (by simp)
            ·
             rw [if_neg c82] at H; have c82b0 : decide (0 < (l0_2.length : Int)) = false := decide_eq_false c82; have c82b1 : decide (0 < l0_2.length) = false := decide_eq_false (by omega); clear c82; have H' := Aside0.mk H; clear H; have hnb104 := NB101_102.out; have hnc104 := NB102_101.out; have hnb105 := NB101_104.out; have hnc105 := NB104_101.out; obtain ⟨hcz106_0, hcz106_1, hcz106_2⟩ := cz3 BK101.out; obtain ⟨hfz106_0, hfz106_1, hfz106_2⟩ := fz3 BK101.out; have hnb107 := NB104_102.out; have hnc107 := NB102_104.out; obtain ⟨hcz108_0, hcz108_1, hcz108_2, hcz108_3⟩ := cz4 BK104.out; obtain ⟨hfz108_0, hfz108_1, hfz108_2, hfz108_3⟩ := fz4 BK104.out
             go_wp2
             go_meet
             case rel => exact ⟨_, (a0_0), (l0_1), (l0_2), (0), (((rd_T45 l0_1 a1).f1)), (wrap64 (((rd_T45 l0_1 a1).f2) - 1)), (((rd_T45 l0_1 a1).f3)), (.slice (some ad103) l0_1.length co6), (.slice Ao7 l0_2.length co7), H', ⟨by have := HJ15.out; first | omega | exact Nat.le_refl _⟩, ⟨rz (Kd.R_mono (Kd.R_far (p := ⟨gb104, 2, none⟩) (Kd.R_far (p := ⟨gb104, 0, none⟩) (Kd.R_mono HO_102001.out (fun k_ hk => (⟨hk, hk.2⟩ : _ ∧ k_ ≠ gb104))) (fun _ hk => hk.2) (.int .i64 0)) (fun _ hk => hk.2) (.int .i64 (wrap64 (((rd_T45 l0_1 a1).f2) - 1)))) (fun _ hk => ⟨hk.1.1, hk.1.2⟩))⟩, ⟨rz (Kd.R_mono (Kd.R_far (p := ⟨gb104, 2, none⟩) (Kd.R_far (p := ⟨gb104, 0, none⟩) (Kd.R_types HO_102002.out BK104.out (by decide)) (fun _ hk => hk.2) (.int .i64 0)) (fun _ hk => hk.2) (.int .i64 (wrap64 (((rd_T45 l0_1 a1).f2) - 1)))) (fun _ hk => hk.1))⟩, ⟨by (with_reducible repeat (first | refine blk_drewN ?_ _ | refine blk_drew ?_ | refine blk_alloc ?_ _ | refine blk_far ?_ NB101_104.out _)); exact BK101.out⟩, ⟨by (with_reducible repeat (first | refine blk_drewN ?_ _ | refine blk_drew ?_ | refine blk_alloc ?_ _ | refine blk_far ?_ NB102_104.out _)); exact BK102.out⟩, ⟨by (with_reducible repeat (first | refine blk_drewN ?_ _ | refine blk_drew ?_ | refine blk_alloc ?_ _)); refine blk_put (cs := #[.int .i64 0, .int .i64 ((rd_T45 l0_1 a1).f1), .int .i64 ((rd_T45 l0_1 a1).f2), .bool ((rd_T45 l0_1 a1).f3)]) ?_ 2 _ rfl; (with_reducible repeat (first | refine blk_drewN ?_ _ | refine blk_drew ?_ | refine blk_alloc ?_ _)); refine blk_put (cs := #[.int .i64 ((rd_T45 l0_1 a1).f0), .int .i64 ((rd_T45 l0_1 a1).f1), .int .i64 ((rd_T45 l0_1 a1).f2), .bool ((rd_T45 l0_1 a1).f3)]) ?_ 0 _ rfl; (with_reducible repeat (first | refine blk_drewN ?_ _ | refine blk_drew ?_ | refine blk_alloc ?_ _)); exact BK104.out⟩, ⟨by repeat (first | (with_reducible first | exact HK.out | apply Kept.alloc | apply Kept.drewN | apply Kept.drew | refine Kept.setCell ?_ (.inr GW101.out) _ | refine Kept.setCell ?_ (.inr GW102.out) _ | refine Kept.setCell ?_ (.inr GW104.out) _) | exact HK.out)⟩, ⟨by repeat (first | (with_reducible first | exact HB.out | apply below_alloc | apply pw_below_drewN | apply below_drew1 | refine below_set ?_ GE101.out | refine below_set ?_ GE102.out | refine below_set ?_ GE104.out) | exact HB.out)⟩⟩
           ·
            rw [if_neg c81] at H; have c81b0 : (((rd_T45 l0_1 a1).f0) == 6) = false := beq_eq_false_iff_ne.mpr c81; have c81b1 : (((rd_T45 l0_1 a1).f0) != 6) = true := bne_iff_ne.mpr c81; have H' := Aside0.mk H; clear H
            go_wp2
            go_meet
            case rel => exact ⟨_, (a0_0), (l0_1), (l0_2), (((rd_T45 l0_1 a1).f0)), (((rd_T45 l0_1 a1).f1)), (((rd_T45 l0_1 a1).f2)), (((rd_T45 l0_1 a1).f3)), (.slice (some ad103) l0_1.length co6), (.slice Ao7 l0_2.length co7), H', ⟨by have := HJ15.out; first | omega | exact Nat.le_refl _⟩, ⟨rz (HO_102001.out)⟩, ⟨rz (HO_102002.out)⟩, ⟨kz (BK101.out)⟩, ⟨kz (BK102.out)⟩, ⟨kz (BK104.out)⟩, ⟨by repeat (first | (with_reducible first | exact HK.out | apply Kept.alloc | apply Kept.drewN | apply Kept.drew | refine Kept.setCell ?_ (.inr GW101.out) _ | refine Kept.setCell ?_ (.inr GW102.out) _ | refine Kept.setCell ?_ (.inr GW104.out) _) | exact HK.out)⟩, ⟨by repeat (first | (with_reducible first | exact HB.out | apply below_alloc | apply pw_below_drewN | apply below_drew1 | refine below_set ?_ GE101.out | refine below_set ?_ GE102.out | refine below_set ?_ GE104.out) | exact HB.out)⟩⟩
   case rest =>
    clear HC5
    try clear c1
    try clear p1
    try clear q1
    try clear hx1
    try clear qi1
    try clear c2
    try clear p2
    try clear c3
    try clear c4
    try clear c5
    try clear c6
    try clear p6
    try clear c7
    try clear c8
    try clear p8
    try clear q8
    try clear hx8
    try clear hf8
    try clear c9
    try clear q9
    try clear c10
    try clear p10
    try clear q10
    try clear hx10
    try clear qi10
    try clear c18
    try clear c19
    try clear c19b0
    try clear c19b1
    try clear c20
    try clear c21
    try clear c23
    try clear c25
    try clear c26
    try clear c28
    try clear c30
    try clear c30b0
    try clear c30b1
    try clear c31
    try clear c31b0
    try clear c31b1
    try clear c32
    try clear c33
    try clear c35
    try clear c35b0
    try clear c35b1
    try clear c36
    try clear c37
    try clear c39
    try clear c41
    try clear c42
    try clear c44
    try clear c46
    try clear c46b0
    try clear c46b1
    try clear c47
    try clear c47b0
    try clear c47b1
    try clear c48
    try clear c49
    try clear c50
    try clear c52
    try clear c58
    try clear c59
    try clear c61
    try clear c63
    try clear c63b0
    try clear c63b1
    try clear c64
    try clear c64b0
    try clear p64
    try clear c65
    try clear c66
    try clear c68
    try clear c70
    try clear c71
    try clear c73
    try clear c75
    try clear c75b0
    try clear c75b1
    try clear c76
    try clear c77
    try clear c79
    try clear c81
    try clear c81b0
    try clear c81b1
    try clear c82
    try clear c82b0
    try clear c82b1
    try clear c83
    try clear c83b0
    try clear c83b1
    try clear c84
    try clear c84b0
    try clear c85
    try clear c85b0
    try clear c86
    try clear p86
    try clear q86
    try clear hx86
    try clear hf86
    try clear c87
    try clear c87b0
    try clear c87b1
    try clear c88
    try clear c89
    try clear c90
    try clear c93
    try clear c98
    try clear q98
    try clear c102
    try clear hx103
    try clear c104
    try clear c105
    try clear c107
    try clear p108
    try clear q108
    try clear hx108
    try clear qi108
    try clear hcz101_0
    try clear hcz101_1
    try clear hcz101_2
    try clear hcz103_0
    try clear hcz103_1
    try clear hcz103_2
    try clear hcz103_3
    try clear hcz106_0
    try clear hcz106_1
    try clear hcz106_2
    try clear hcz108_0
    try clear hcz108_1
    try clear hcz108_2
    try clear hcz108_3
    try clear hcz22_0
    try clear hcz22_1
    try clear hcz22_2
    try clear hcz24_0
    try clear hcz24_1
    try clear hcz24_2
    try clear hcz24_3
    try clear hcz27_0
    try clear hcz27_1
    try clear hcz27_2
    try clear hcz29_0
    try clear hcz29_1
    try clear hcz29_2
    try clear hcz29_3
    try clear hcz34_0
    try clear hcz34_1
    try clear hcz34_2
    try clear hcz34_3
    try clear hcz38_0
    try clear hcz38_1
    try clear hcz38_2
    try clear hcz38_3
    try clear hcz40_0
    try clear hcz40_1
    try clear hcz40_2
    try clear hcz43_0
    try clear hcz43_1
    try clear hcz43_2
    try clear hcz43_3
    try clear hcz45_0
    try clear hcz45_1
    try clear hcz45_2
    try clear hcz51_0
    try clear hcz51_1
    try clear hcz51_2
    try clear hcz53_0
    try clear hcz53_1
    try clear hcz53_2
    try clear hcz53_3
    try clear hcz56_0
    try clear hcz56_1
    try clear hcz56_2
    try clear hcz57_0
    try clear hcz57_1
    try clear hcz57_2
    try clear hcz57_3
    try clear hcz60_0
    try clear hcz60_1
    try clear hcz60_2
    try clear hcz62_0
    try clear hcz62_1
    try clear hcz62_2
    try clear hcz62_3
    try clear hcz67_0
    try clear hcz67_1
    try clear hcz67_2
    try clear hcz69_0
    try clear hcz69_1
    try clear hcz69_2
    try clear hcz69_3
    try clear hcz72_0
    try clear hcz72_1
    try clear hcz72_2
    try clear hcz74_0
    try clear hcz74_1
    try clear hcz74_2
    try clear hcz74_3
    try clear hcz78_0
    try clear hcz78_1
    try clear hcz78_2
    try clear hcz80_0
    try clear hcz80_1
    try clear hcz80_2
    try clear hcz80_3
    try clear hcz91_0
    try clear hcz91_1
    try clear hcz91_2
    try clear hcz97_0
    try clear hcz97_1
    try clear hcz97_2
    try clear hfz101_0
    try clear hfz101_1
    try clear hfz101_2
    try clear hfz103_0
    try clear hfz103_1
    try clear hfz103_2
    try clear hfz103_3
    try clear hfz106_0
    try clear hfz106_1
    try clear hfz106_2
    try clear hfz108_0
    try clear hfz108_1
    try clear hfz108_2
    try clear hfz108_3
    try clear hfz22_0
    try clear hfz22_1
    try clear hfz22_2
    try clear hfz24_0
    try clear hfz24_1
    try clear hfz24_2
    try clear hfz24_3
    try clear hfz27_0
    try clear hfz27_1
    try clear hfz27_2
    try clear hfz29_0
    try clear hfz29_1
    try clear hfz29_2
    try clear hfz29_3
    try clear hfz34_0
    try clear hfz34_1
    try clear hfz34_2
    try clear hfz34_3
    try clear hfz38_0
    try clear hfz38_1
    try clear hfz38_2
    try clear hfz38_3
    try clear hfz40_0
    try clear hfz40_1
    try clear hfz40_2
    try clear hfz43_0
    try clear hfz43_1
    try clear hfz43_2
    try clear hfz43_3
    try clear hfz45_0
    try clear hfz45_1
    try clear hfz45_2
    try clear hfz51_0
    try clear hfz51_1
    try clear hfz51_2
    try clear hfz53_0
    try clear hfz53_1
    try clear hfz53_2
    try clear hfz53_3
    try clear hfz56_0
    try clear hfz56_1
    try clear hfz56_2
    try clear hfz57_0
    try clear hfz57_1
    try clear hfz57_2
    try clear hfz57_3
    try clear hfz60_0
    try clear hfz60_1
    try clear hfz60_2
    try clear hfz62_0
    try clear hfz62_1
    try clear hfz62_2
    try clear hfz62_3
    try clear hfz67_0
    try clear hfz67_1
    try clear hfz67_2
    try clear hfz69_0
    try clear hfz69_1
    try clear hfz69_2
    try clear hfz69_3
    try clear hfz72_0
    try clear hfz72_1
    try clear hfz72_2
    try clear hfz74_0
    try clear hfz74_1
    try clear hfz74_2
    try clear hfz74_3
    try clear hfz78_0
    try clear hfz78_1
    try clear hfz78_2
    try clear hfz80_0
    try clear hfz80_1
    try clear hfz80_2
    try clear hfz80_3
    try clear hfz91_0
    try clear hfz91_1
    try clear hfz91_2
    try clear hfz97_0
    try clear hfz97_1
    try clear hfz97_2
    try clear hx103_0
    try clear hx103_1
    try clear hx103_2
    try clear hx103_3
    try clear hx108_0
    try clear hx86_0
    try clear hx86_1
    try clear hx86_2
    try clear hx86_3
    try clear p108
    try clear p86
    try clear q108
    try clear q86
    try clear q98
    obtain ⟨kq, x102000_4, x102001_4, x102002_4, x105000_4, x105001_4, x105002_4, x105003_4, u102001, u102002, HA, HJ4, HO_102001, HO_102002, BK101, BK102, BK104, HK, HB⟩ := hcut
    cases kq with
    | zero => exact absurd HA.out (by simp [spec_l12Step.j1])
    | succ kj4 =>
     have H := HA.out; clear HA; simp only [spec_l12Step.j1] at H
     by_cases c109 : 0 ≤ a1
     ·
      rw [if_pos c109] at H; have c109b0 : decide (0 ≤ a1) = true := decide_eq_true c109; clear c109
      by_cases c110 : a1 < (x102001_4.length : Int)
      ·
       rw [if_pos c110] at H; have c110b0 : decide (a1 < (x102001_4.length : Int)) = true := decide_eq_true c110; clear c110; obtain ⟨y120, hy120⟩ : ∃ y_ : List (S45), y_ = (x102001_4.set (a1 : Int).toNat (⟨x105000_4, x105001_4, x105002_4, x105003_4⟩ : S45)) := ⟨_, rfl⟩
       replace H : (some (x102000_4, y120, x102002_4)) = some (r1, r2, r3) := by first | (rw [hy120]; with_reducible exact H) | (have H2_ := (Option.bind_some _ _).symm.trans H; rw [hy120]; with_reducible exact H2_) | (have H2_ := (Option.bind_some _ _).symm.trans H; with_reducible exact H2_) | with_reducible exact H | (rw [hy120]; exact H) | exact H
       have Ny120 := Aside0.mk hy120; clear hy120; simp only [Option.some.injEq, Prod.mk.injEq] at H; obtain ⟨rfl, rfl, rfl⟩ := H; have hnb112 := NB101_102.out; have hnc112 := NB102_101.out; have hnb113 := NB101_104.out; have hnc113 := NB104_101.out; obtain ⟨hcz114_0, hcz114_1, hcz114_2⟩ := cz3 BK101.out; obtain ⟨hfz114_0, hfz114_1, hfz114_2⟩ := fz3 BK101.out; have hnb115 := NB104_102.out; have hnc115 := NB102_104.out; obtain ⟨hcz116_0, hcz116_1, hcz116_2, hcz116_3⟩ := cz4 BK104.out; obtain ⟨hfz116_0, hfz116_1, hfz116_2, hfz116_3⟩ := fz4 BK104.out; have p111 : 0 ≤ (a1 : Int) := of_decide_eq_true zs; have q111 : (a1 : Int) < ((x102001_4.length : Int) : Int) := of_decide_eq_true zs; obtain ⟨go111, co111, eo111, gb111, gl111, cl111, HG111⟩ := Kd.R_form HO_102001.out (by omega)
       (first | cases eo111 | (injection eo111 with ea_ en_ ec_; (first | subst ea_ | (injection ea_ with ea_; subst ea_)); subst ec_; clear en_))
       have GB111 := Aside0.mk gb111; have GG111 := Aside0.mk HG111; clear gb111 gl111 HG111; have HMgo111 := Aside0.mk (show ((P0_1_ go111 ∨ P0_2_ go111) ∨ w.heap.size ≤ go111) from (HO_102001.out.1 _ rfl).1); obtain ⟨ce111, hcl111, hM111, hcc111, hfr111⟩ := Kd.R_elem HO_102001.out z45 (a1 : Int) p111 q111; obtain rfl := k45_openM hM111; have hx111_0 : wc.cell? ⟨go111, (a1 : Int).toNat * 4, none⟩ = some (.int .i64 ((rd_T45 x102001_4 a1).f0)) := hcc111 0 _ rfl; have hx111_1 : wc.cell? ⟨go111, (a1 : Int).toNat * 4 + 1, none⟩ = some (.int .i64 ((rd_T45 x102001_4 a1).f1)) := hcc111 1 _ rfl; have hx111_2 : wc.cell? ⟨go111, (a1 : Int).toNat * 4 + 2, none⟩ = some (.int .i64 ((rd_T45 x102001_4 a1).f2)) := hcc111 2 _ rfl; have hx111_3 : wc.cell? ⟨go111, (a1 : Int).toNat * 4 + 3, none⟩ = some (.bool ((rd_T45 x102001_4 a1).f3)) := hcc111 3 _ rfl; have hf111_0 : wc.frozen? ⟨go111, (a1 : Int).toNat * 4, none⟩ = false := hfr111 0; have hf111_1 : wc.frozen? ⟨go111, (a1 : Int).toNat * 4 + 1, none⟩ = false := hfr111 1; have hf111_2 : wc.frozen? ⟨go111, (a1 : Int).toNat * 4 + 2, none⟩ = false := hfr111 2; have hf111_3 : wc.frozen? ⟨go111, (a1 : Int).toNat * 4 + 3, none⟩ = false := hfr111 3; clear hcl111 hcc111 hfr111 hM111; replace p111 := eq_true p111; replace q111 := eq_true q111; have HX117 := Aside0.mk (show Kd.R k45 45 wc w0.heap.size (fun k_ => ((P0_1_ k_ ∨ P0_2_ k_) ∨ w.heap.size ≤ k_) ∧ k_ ≠ gb104) (.slice (some ⟨go111, 0, none⟩) x102001_4.length co111) x102001_4 from (rz HO_102001.out)); obtain ⟨ce117, hcl117, hM117, hcc117, hfr117⟩ := Kd.R_elem HX117.out z45 (a1 : Int) (of_decide_eq_true zs) (by have h_ : (a1 : Int) < ((x102001_4.length : Int) : Int) := of_decide_eq_true zs; first | exact h_ | (have e_ := (Kd.R_reads' HO_102001.out).1; omega) | simpa using h_); obtain rfl := k45_openM hM117; have HP117 := Kd.R_seg HX117.out (a1 : Int) (of_decide_eq_true zs) (by have h_ : (a1 : Int) < ((x102001_4.length : Int) : Int) := of_decide_eq_true zs; first | exact h_ | (have e_ := (Kd.R_reads' HO_102001.out).1; omega) | simpa using h_) (seg := [.int .i64 x105000_4, .int .i64 x105001_4, .int .i64 x105002_4, .bool x105003_4]) (j := 0) hcl117 hcc117 (show 4 ≤ 4 from by decide) (x' := (⟨x105000_4, x105001_4, x105002_4, x105003_4⟩ : S45)) (k45_mkM _ _ _ (⟨x105000_4, x105001_4, x105002_4, x105003_4⟩ : S45) ) (fun _ hk => hk); have hx117_0 := hcc117 0 _ rfl; (try simp only [show (k45).sz = 4 from rfl, Nat.mul_one, Nat.add_zero] at hx117_0); have hf117_0 := hfr117 0; (try simp only [show (k45).sz = 4 from rfl, Nat.mul_one, Nat.add_zero] at hf117_0); have hx117_1 := hcc117 1 _ rfl; (try simp only [show (k45).sz = 4 from rfl, Nat.mul_one, Nat.add_zero] at hx117_1); have hf117_1 := hfr117 1; (try simp only [show (k45).sz = 4 from rfl, Nat.mul_one, Nat.add_zero] at hf117_1); have hx117_2 := hcc117 2 _ rfl; (try simp only [show (k45).sz = 4 from rfl, Nat.mul_one, Nat.add_zero] at hx117_2); have hf117_2 := hfr117 2; (try simp only [show (k45).sz = 4 from rfl, Nat.mul_one, Nat.add_zero] at hf117_2); have hx117_3 := hcc117 3 _ rfl; (try simp only [show (k45).sz = 4 from rfl, Nat.mul_one, Nat.add_zero] at hx117_3); have hf117_3 := hfr117 3; (try simp only [show (k45).sz = 4 from rfl, Nat.mul_one, Nat.add_zero] at hf117_3); clear hcl117 hcc117 hfr117 hM117
       go_wp2_with (first | ((with_reducible refine gate_store (t := 45) (p := 106) rfl ?_); refine store_event (t := 45) (p := 106) (v := ?vo_w118) (w1 := ((((wc.setCell ⟨go111, (a1 : Int).toNat * 4, none⟩ (.int .i64 x105000_4)).setCell ⟨go111, (a1 : Int).toNat * 4 + 1, none⟩ (.int .i64 x105001_4)).setCell ⟨go111, (a1 : Int).toNat * 4 + 2, none⟩ (.int .i64 x105002_4)).setCell ⟨go111, (a1 : Int).toNat * 4 + 3, none⟩ (.bool x105003_4))) ?hg ?ho ?hn ?hr ?_; (case ho => rfl); (case hg => rfl); (case hn => rfl); (case hr => first | (go_simp; done) | (go_simp; rfl)); intro w118 hw; have hg : wc.grownBy w118 (some go111) := (by rw [hw]; exact HP117.2); have hp_ : Kd.R k45 45 w118 w0.heap.size (fun k_ => ((P0_1_ k_ ∨ P0_2_ k_) ∨ w.heap.size ≤ k_) ∧ k_ ≠ gb104) (.slice (some ⟨go111, 0, none⟩) x102001_4.length co111) y120 := (by rw [hw, Ny120.out]; exact HP117.1); clear HP117; replace HO_102002 := Aside0.mk (Kd.R_over' (v := (.slice (some ⟨go111, 0, none⟩) x102001_4.length co111)) (rz HO_102002.out) (Kd.R_typed HO_102001.out) (by decide) hg); replace BK101 := Aside0.mk (blk_grown (kz BK101.out) hg (Kd.R_ne HO_102001.out BK101.out (by decide))); replace BK102 := Aside0.mk (blk_grown (kz BK102.out) hg (Kd.R_ne HO_102001.out BK102.out (by decide))); replace BK104 := Aside0.mk (blk_grown (kz BK104.out) hg (Kd.R_away HO_102001.out (fun _ hk => hk.2))); replace HB := Aside0.mk ((by rw [hw]; exact below_set (below_set (below_set (below_set (HB.out) GB111.out) GB111.out) GB111.out) GB111.out : Below w0.heap.size w0 w118)); replace HK := Aside0.mk (Kept.of_grown (S := (fun k_ => P0_1_ k_ ∨ P0_2_ k_)) hg (by repeat (first | (with_reducible first | exact HK.out | apply Kept.alloc | apply Kept.drewN | apply Kept.drew | refine Kept.setCell ?_ (.inr GW101.out) _ | refine Kept.setCell ?_ (.inr GW102.out) _ | refine Kept.setCell ?_ (.inr GW104.out) _) | exact HK.out)) (fun k_ e_ => (HO_102001.out.1 k_ e_).1)); replace HO_102001 := Aside0.mk (hp_); clear hg hw hp_; obtain ⟨hcz119_0, hcz119_1, hcz119_2⟩ := cz3 BK101.out; obtain ⟨hfz119_0, hfz119_1, hfz119_2⟩ := fz3 BK101.out; obtain ⟨hcz120_0, hcz120_1, hcz120_2⟩ := cz3 BK102.out; obtain ⟨hfz120_0, hfz120_1, hfz120_2⟩ := fz3 BK102.out; obtain ⟨Ao121, co121, eo121⟩ := Kd.R_slice HO_102002.out; subst eo121))
       refine bodyPost_ret (results_cell_row rfl _ _ gb102 37 #[.int .i64 x102000_4, .slice (some ⟨go111, 0, none⟩) x102001_4.length co111, .slice Ao121 x102002_4.length co121] (0, 0) _ rfl (by (with_reducible repeat (first | refine blk_drewN ?_ _ | refine blk_drew ?_ | refine blk_alloc ?_ _)); refine blk_put (cs := #[.int .i64 x102000_4, .slice (some ⟨go111, 0, none⟩) x102001_4.length co111, .slice none 0 0]) ?_ 2 _ rfl; (with_reducible repeat (first | refine blk_drewN ?_ _ | refine blk_drew ?_ | refine blk_alloc ?_ _)); refine blk_put (cs := #[.int .i64 x102000_4, .slice none 0 0, .slice none 0 0]) ?_ 1 _ rfl; (with_reducible repeat (first | refine blk_drewN ?_ _ | refine blk_drew ?_ | refine blk_alloc ?_ _)); refine blk_put (cs := #[.int .i64 0, .slice none 0 0, .slice none 0 0]) ?_ 0 _ rfl; (with_reducible repeat (first | refine blk_drewN ?_ _ | refine blk_drew ?_ | refine blk_alloc ?_ _)); exact BK102.out) Try.underlying37 rfl zk) rfl ?_
       exact ⟨_, _, ze, by (with_reducible repeat (first | apply Kd.R_alloc | apply Kd.R_drewN | apply Kd.R_drew)); exact Kd.R_mono (Kd.R_far (p := ⟨gb102, 2, none⟩) (Kd.R_far (p := ⟨gb102, 1, none⟩) (Kd.R_far (p := ⟨gb102, 0, none⟩) (Kd.R_types HO_102001.out BK102.out (by decide)) (fun _ hk => hk.2) (.int .i64 x102000_4)) (fun _ hk => hk.2) (.slice (some ⟨go111, 0, none⟩) x102001_4.length co111)) (fun _ hk => hk.2) (.slice Ao121 x102002_4.length co121)) (fun _ hk => hk.1.1), by (with_reducible repeat (first | apply Kd.R_alloc | apply Kd.R_drewN | apply Kd.R_drew)); exact Kd.R_mono (Kd.R_far (p := ⟨gb102, 2, none⟩) (Kd.R_far (p := ⟨gb102, 1, none⟩) (Kd.R_far (p := ⟨gb102, 0, none⟩) (Kd.R_types HO_102002.out BK102.out (by decide)) (fun _ hk => hk.2) (.int .i64 x102000_4)) (fun _ hk => hk.2) (.slice (some ⟨go111, 0, none⟩) x102001_4.length co111)) (fun _ hk => hk.2) (.slice Ao121 x102002_4.length co121)) (fun _ hk => hk.1), by repeat (first | (with_reducible first | exact HB.out | apply below_alloc | apply pw_below_drewN | apply below_drew1 | refine below_set ?_ GE101.out | refine below_set ?_ GE102.out | refine below_set ?_ GE104.out) | exact HB.out), by repeat (first | (with_reducible first | exact HK.out | apply Kept.alloc | apply Kept.drewN | apply Kept.drew | refine Kept.setCell ?_ (.inr GW101.out) _ | refine Kept.setCell ?_ (.inr GW102.out) _ | refine Kept.setCell ?_ (.inr GW104.out) _) | exact HK.out)⟩
      ·
       rw [if_neg c110] at H
       exact absurd H (by simp)
     ·
      rw [if_neg c109] at H
      exact absurd H (by simp)
  ·
   rw [if_neg c4] at H
   exact absurd H (by simp)
 ·
  rw [if_neg c3] at H
  exact absurd H (by simp)

end Go.Proofs.Ytmpdoodimmmemaa.P
