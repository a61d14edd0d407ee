-- printed by wip/qd.py
import Derived.Test.YtmpdoodimmmemaaPf0
import Derived.Test.YtmpdoodimmmemaaPfspecl6In
namespace Go.Proofs.Ytmpdoodimmmemaa.P
open Go.RowKit Go.Proofs.YtmpdoodimmmemaaW.PrintWords Go.Proofs.YtmpdoodimmmemaaW.PrintLast Go.Proofs.YtmpdoodimmmemaaW.PrintMore
attribute [local go_sem] max2_int min2_int max_two min_two max_three min_three max_four min_four Q.cell_set_map
set_option linter.unusedVariables false
set_option linter.unusedSimpArgs false

/-! ### spec_LockNew: function 46 -/
mutual
def spec_LockNew.j0 : Nat → Int → Int → Bool → Option (Int × (List (S45)) × List Int × Bool)
 | 0, _, _, _ => none
 | k + 1, x0, x1, x15 => if x15 = true then (some (0, ([] : List (S45)), ([] : List Int), false)) else (spec_LockNew.l0 k x0 x1 0 0 (([] : List (S45))) (([] : List Int)))
def spec_LockNew.l0 : Nat → Int → Int → Int → Int → List (S45) → List Int → Option (Int × (List (S45)) × List Int × Bool)
 | 0, _, _, _, _, _, _ => none
 | k + 1, x0, x1, x7, x111000, x111001, x111002 => if x7 < x0 then (if x111001.length < 4398046511104 then (spec_LockNew.l0 k x0 x1 (wrap64 (x7 + 1)) x111000 (x111001 ++ [(⟨0, 0, x1, false⟩ : S45)]) x111002) else (none)) else (some (x111000, x111001, x111002, true))
end
def spec_LockNew.f (k : Nat) (a0 : Int) (a1 : Int) : Option (Int × (List (S45)) × List Int × Bool) := (spec_l6In.f a0 1 4).bind fun t102 => (if t102 = true then ((spec_l6In.f a1 0 3).bind fun t103 => (spec_LockNew.j0 k a0 a1 (!t103))) else (spec_LockNew.j0 k a0 a1 true))
theorem spec_LockNew.mono_l : ∀ k, (∀ y0 y1 y2, LeO (spec_LockNew.j0 k y0 y1 y2) (spec_LockNew.j0 (k + 1) y0 y1 y2)) ∧ (∀ y0 y1 y2 y3 y4 y5, LeO (spec_LockNew.l0 k y0 y1 y2 y3 y4 y5) (spec_LockNew.l0 (k + 1) y0 y1 y2 y3 y4 y5))
 | 0 => ⟨fun _ _ _ r h => by simp [spec_LockNew.j0] at h, fun _ _ _ _ _ _ r h => by simp [spec_LockNew.l0] at h⟩
 | k + 1 => by
  obtain ⟨ih0, ih1⟩ := spec_LockNew.mono_l k
  refine ⟨?_, ?_⟩
  ·
   intro y0 y1 y2
   unfold spec_LockNew.j0
   repeat' first
   | (with_reducible exact ih0 _ _ _)
   | (with_reducible exact ih1 _ _ _ _ _ _)
   | (with_reducible exact LeO.refl _)
   | (with_reducible exact LeO.none _)
   | (with_reducible refine LeO.ite ?_ ?_)
   | (with_reducible refine LeO.bind ?_ (fun _ => ?_))
   | exact ih0 _ _ _
   | exact ih1 _ _ _ _ _ _
   | exact LeO.none _
   | refine LeO.ite ?_ ?_
   | refine LeO.bind ?_ (fun _ => ?_)
  ·
   intro y0 y1 y2 y3 y4 y5
   unfold spec_LockNew.l0
   repeat' first
   | (with_reducible exact ih0 _ _ _)
   | (with_reducible exact ih1 _ _ _ _ _ _)
   | (with_reducible exact LeO.refl _)
   | (with_reducible exact LeO.none _)
   | (with_reducible refine LeO.ite ?_ ?_)
   | (with_reducible refine LeO.bind ?_ (fun _ => ?_))
   | exact ih0 _ _ _
   | exact ih1 _ _ _ _ _ _
   | exact LeO.none _
   | refine LeO.ite ?_ ?_
   | refine LeO.bind ?_ (fun _ => ?_)
theorem spec_LockNew.mono : ∀ a0 a1 k, LeO (spec_LockNew.f k a0 a1) (spec_LockNew.f (k + 1) a0 a1) := by
 intro a0 a1 k
 obtain ⟨ih0, ih1⟩ := spec_LockNew.mono_l k
 unfold spec_LockNew.f
 repeat' first
   | (with_reducible exact ih0 _ _ _)
   | (with_reducible exact ih1 _ _ _ _ _ _)
   | (with_reducible exact LeO.refl _)
   | (with_reducible exact LeO.none _)
   | (with_reducible refine LeO.ite ?_ ?_)
   | (with_reducible refine LeO.bind ?_ (fun _ => ?_))
   | exact ih0 _ _ _
   | exact ih1 _ _ _ _ _ _
   | exact LeO.none _
   | refine LeO.ite ?_ ?_
   | refine LeO.bind ?_ (fun _ => ?_)
set_option maxHeartbeats 8000000 in
set_option maxRecDepth 100000 in
theorem spec_LockNew.calls (k : Nat) (a0 : Int) (a1 : Int) (r1 : Int) (r2 : List (S45)) (r3 : List Int) (r4 : Bool) (w : World) (h : spec_LockNew.f k a0 a1 = some (r1, r2, r3, r4)) :
  Calls Try.prog 46 #[.int .i64 a0, .int .i64 a1] w fun e w' => ∃ v1_ v2_ : Value, e = .returned (.tuple #[.agg #[.int .i64 r1, v1_, v2_], .bool r4]) ∧ Kd.R k45 45 w' w.heap.size (fun _ => True) v1_ r2 ∧ Kd.R (Kd.int .i64) 3 w' w.heap.size (fun _ => True) v2_ r3 ∧ Below w.heap.size w w' := by
 have hu37 := Try.underlying37; have hu45 := Try.underlying45; have HB := Aside0.mk (Below.refl w.heap.size w); have H : ((spec_l6In.f a0 1 4).bind fun t102 => (if t102 = true then ((spec_l6In.f a1 0 3).bind fun t103 => (spec_LockNew.j0 k a0 a1 (!t103))) else (spec_LockNew.j0 k a0 a1 true))) = some (r1, r2, r3, r4) := h; clear h; have HC3 := Aside0.mk H; clear H
 go_enter Try.func46, Try.ntmps46
 go_upto_region 1 with (first | ((with_reducible refine gate_dst (N := 4) rfl ?_); refine box_event ?hg (N := 4) ?hd (cs := #[.int .i64 0, .slice none 0 0, .slice none 0 0]) (t := 37) ?hr ?_; (case hd => rfl); (case hg => rfl); (case hr => first | (go_simp; done) | (go_simp; rfl)); intro gb101 hg w4 hbox hb; have BK101 := Aside0.mk (hbox); have GW101 := Aside0.mk ((by rw [hg]; exact (below_size (bz HB.out)) : w.heap.size ≤ gb101)); have GE101 := GW101; replace HB := Aside0.mk (below_step (bz HB.out) hb); clear hb hbox hg))
 (try simp only [Act.put, List.setIfInBounds_toArray, List.set_cons_zero, List.set_cons_succ])
 go_cut [15] (fun v15 wc => ∃ (kq : Nat) (x15_2 : Bool), v15 = .bool x15_2 ∧ Aside0 (spec_LockNew.j0 kq a0 a1 x15_2 = some (r1, r2, r3, r4)) ∧ Aside0 (kq ≤ k) ∧ Aside0 (wc.heap[gb101]? = some (.cells #[.int .i64 0, (.slice none 0 0), (.slice none 0 0)] 37 (0, 0))) ∧ Aside0 (Below w.heap.size w wc))
 case first =>
  have H := HC3.out; clear HC3; replace H := Option.bind_eq_some_iff.mp H; obtain ⟨t102, A50, H⟩ := H; have A5 := Aside0.mk A50; clear A50
  by_cases c6 : t102 = true
  ·
   subst c6; rw [if_pos rfl] at H; replace H := Option.bind_eq_some_iff.mp H; obtain ⟨t103, A70, H⟩ := H; have A7 := Aside0.mk A70; clear A70; have H' := Aside0.mk H; clear H
   go_wp2_with (first | ((with_reducible refine gate_callee (f := 39) rfl ?_); refine goesL_ (some 9) rfl rfl Try.func39 zk rfl #[.int .i64 a0, .int .i64 1, .int .i64 4] rfl zm ?_; (with_reducible refine (spec_l6In.calls a0 1 4 true _ A5.out).mono ?_); rintro e w' ⟨rfl, ⟨nd, rfl⟩⟩; refine ⟨_, rfl, ?_⟩) | (go_at_call 39; (with_reducible refine (spec_l6In.calls a1 0 3 t103 _ A7.out).mono ?_); rintro e w' ⟨rfl, ⟨nd, rfl⟩⟩))
   go_meet
   case rel => exact ⟨_, (!t103), zr, H', ⟨by first | omega | exact Nat.le_refl _⟩, ⟨kz (BK101.out)⟩, ⟨bs HB.out GE101.out⟩⟩
  ·
   replace c6 := Bool.eq_false_iff.mpr c6; subst c6; rw [if_neg nf_] at H; have H' := Aside0.mk H; clear H
   go_wp2_with (first | ((with_reducible refine gate_callee (f := 39) rfl ?_); refine goesL_ (some 9) rfl rfl Try.func39 zk rfl #[.int .i64 a0, .int .i64 1, .int .i64 4] rfl zm ?_; (with_reducible refine (spec_l6In.calls a0 1 4 false _ A5.out).mono ?_); rintro e w' ⟨rfl, ⟨nd, rfl⟩⟩; refine ⟨_, rfl, ?_⟩))
   go_meet
   case rel => exact ⟨_, (true), zr, H', ⟨by first | omega | exact Nat.le_refl _⟩, ⟨kz (BK101.out)⟩, ⟨bs HB.out GE101.out⟩⟩
 case rest =>
  clear HC3
  try clear p2
  try clear c3
  try clear c4
  try clear c6
  obtain ⟨kq, x15_2, rfl, HA, HJ2, BK101, HB⟩ := hcut
  cases kq with
  | zero => exact absurd HA.out (by simp [spec_LockNew.j0])
  | succ kj2 =>
   have H := HA.out; clear HA; simp only [spec_LockNew.j0] at H
   by_cases c8 : x15_2 = true
   ·
    subst c8; rw [if_pos rfl] at H; simp only [Option.some.injEq, Prod.mk.injEq] at H; obtain ⟨rfl, rfl, rfl, rfl⟩ := H; obtain ⟨hcz9_0, hcz9_1, hcz9_2⟩ := cz3 BK101.out; obtain ⟨hfz9_0, hfz9_1, hfz9_2⟩ := fz3 BK101.out
    go_wp2
    refine bodyPost_ret (results_ct rfl _ _ gb101 37 #[.int .i64 0, .slice none 0 0, .slice none 0 0] (0, 0) _ rfl (by (with_reducible repeat (first | refine blk_drewN ?_ _ | refine blk_drew ?_ | refine blk_alloc ?_ _)); refine blk_put (cs := #[.int .i64 0, .slice none 0 0, .slice none 0 0]) ?_ 2 _ rfl; (with_reducible repeat (first | refine blk_drewN ?_ _ | refine blk_drew ?_ | refine blk_alloc ?_ _)); refine blk_put (cs := #[.int .i64 0, .slice none 0 0, .slice none 0 0]) ?_ 1 _ rfl; (with_reducible repeat (first | refine blk_drewN ?_ _ | refine blk_drew ?_ | refine blk_alloc ?_ _)); refine blk_put (cs := #[.int .i64 0, .slice none 0 0, .slice none 0 0]) ?_ 0 _ rfl; (with_reducible repeat (first | refine blk_drewN ?_ _ | refine blk_drew ?_ | refine blk_alloc ?_ _)); exact BK101.out) Try.underlying37 rfl zk) rfl ?_
    exact ⟨_, _, ze, by first | exact Kd.R_nil _ _ _ _ _ | exact Kd.N_nil _ _ _ _ _ | exact Kd.V_nil _ _ _ _ _ | exact Kd.Q_nil _ _ _ _ _ | exact Kd.S_nil _ _ _ _ _, by first | exact Kd.R_nil _ _ _ _ _ | exact Kd.N_nil _ _ _ _ _ | exact Kd.V_nil _ _ _ _ _ | exact Kd.Q_nil _ _ _ _ _ | exact Kd.S_nil _ _ _ _ _, bs HB.out GE101.out⟩
   ·
    replace c8 := Bool.eq_false_iff.mpr c8; subst c8; rw [if_neg nf_] at H; obtain ⟨y104, hy104⟩ : ∃ y_ : List (S45), y_ = (([] : List (S45))) := ⟨_, rfl⟩
    replace H : (spec_LockNew.l0 kj2 a0 a1 0 0 y104 (([] : List Int))) = some (r1, r2, r3, r4) := by first | (rw [hy104]; with_reducible exact H) | (have H2_ := (Option.bind_some _ _).symm.trans H; rw [hy104]; with_reducible exact H2_) | (have H2_ := (Option.bind_some _ _).symm.trans H; with_reducible exact H2_) | with_reducible exact H | (rw [hy104]; exact H) | exact H
    have Ny104 := Aside0.mk hy104; clear hy104; obtain ⟨y107, hy107⟩ : ∃ y_ : List Int, y_ = (([] : List Int)) := ⟨_, rfl⟩
    replace H : (spec_LockNew.l0 kj2 a0 a1 0 0 y104 y107) = some (r1, r2, r3, r4) := by first | (rw [hy107]; with_reducible exact H) | (have H2_ := (Option.bind_some _ _).symm.trans H; rw [hy107]; with_reducible exact H2_) | (have H2_ := (Option.bind_some _ _).symm.trans H; with_reducible exact H2_) | with_reducible exact H | (rw [hy107]; exact H) | exact H
    have Ny107 := Aside0.mk hy107; clear hy107; have H' := Aside0.mk H; clear H
    go_wp2_with (first | ((with_reducible refine gate_dst (N := 17) rfl ?_); refine Kd.R_lit k45 _ 45 ?hg (N := 17) ?hd (xs := ([] : List (S45))) (inner := []) (ok := fun _ => True) (okp := fun _ => True) ?hr ?hp (fun _ hk => hk) trivial (Below.refl _ _) (Nat.le_refl _) (by simp) ?_; (case hd => rfl); (case hg => rfl); (case hr => first | (go_simp; done) | (go_simp; rfl)); (case hp => exact (Reps.none _ _)); intro v105 w10 ho11 hb hg_ hnew_; clear hg_ hnew_; (first | rw [← Ny104.out] at ho11 | (simp only [Int.reduceToNat] at ho11; rw [← Ny104.out] at ho11)); have HO106 := Aside0.mk (Kd.R_lower ho11 (below_size (bs HB.out GE101.out))); replace BK101 := Aside0.mk (blk_below (kz BK101.out) hb); replace HB := Aside0.mk (below_step (bs HB.out GE101.out) hb); clear hb ho11) | ((with_reducible refine gate_dst (N := 18) rfl ?_); refine Kd.R_lit (Kd.int .i64) _ 3 ?hg (N := 18) ?hd (xs := ([] : List Int)) (inner := []) (ok := fun _ => True) (okp := fun _ => True) ?hr ?hp (fun _ hk => hk) trivial (Below.refl _ _) (Nat.le_refl _) (by simp) ?_; (case hd => rfl); (case hg => rfl); (case hr => first | (go_simp; done) | (go_simp; rfl)); (case hp => exact (Reps.none _ _)); intro v108 w12 ho13 hb hg_ hnew_; clear hg_ hnew_; (first | rw [← Ny107.out] at ho13 | (simp only [Int.reduceToNat] at ho13; rw [← Ny107.out] at ho13)); replace HO106 := Aside0.mk (Kd.R_below (rz HO106.out) hb); have HO109 := Aside0.mk (Kd.R_lower ho13 (below_size (bs HB.out GE101.out))); replace BK101 := Aside0.mk (blk_below (kz BK101.out) hb); replace HB := Aside0.mk (below_step (bs HB.out GE101.out) hb); clear hb ho13; obtain ⟨Ao14, co14, eo14⟩ := Kd.R_slice HO109.out; subst eo14; obtain ⟨Ao15, co15, eo15⟩ := Kd.R_slice HO106.out; subst eo15) | ((with_reducible refine gate_dst (N := 6) rfl ?_); refine box_event ?hg (N := 6) ?hd (cs := #[.int .i64 0, .slice none 0 0, .slice none 0 0]) (t := 37) ?hr ?_; (case hd => rfl); (case hg => rfl); (case hr => first | (go_simp; done) | (go_simp; rfl)); intro gb110 hg w16 hbox hb; replace HO106 := Aside0.mk (Kd.R_below (rz HO106.out) hb); replace HO109 := Aside0.mk (Kd.R_below (rz HO109.out) hb); have BK110 := Aside0.mk (hbox); have GW110 := Aside0.mk ((by rw [hg]; exact (below_size (bs HB.out GE101.out)) : w.heap.size ≤ gb110)); have GE110 := GW110; replace HB := Aside0.mk (below_step (bs HB.out GE101.out) hb); have NB101_110 := Aside0.mk ((by rw [hg]; exact Nat.ne_of_lt (blk_lt (kz BK101.out)) : gb101 ≠ gb110)); have NB110_101 := Aside0.mk NB101_110.out.symm; replace BK101 := Aside0.mk (blk_below (kz BK101.out) hb); clear hb hbox hg; have hnb17 := NB110_101.out; have hnc17 := NB101_110.out; obtain ⟨hcz18_0, hcz18_1, hcz18_2⟩ := cz3 BK110.out; obtain ⟨hfz18_0, hfz18_1, hfz18_2⟩ := fz3 BK110.out))
    go_loopg [7] kj2 (fun kq v7 w' => ∃ (x7_2 : Int) (x111001_2 : List (S45)) (u111001 : Value), v7 = .int .i64 x7_2 ∧ Aside0 (spec_LockNew.l0 kq a0 a1 x7_2 0 x111001_2 y107 = some (r1, r2, r3, r4)) ∧ Aside0 (kq ≤ kj2) ∧ Aside0 (Kd.R k45 45 w' w.heap.size (fun _ => True) u111001 x111001_2) ∧ Aside0 (Kd.R (Kd.int .i64) 3 w' w.heap.size (fun _ => True) (.slice Ao14 y107.length co14) y107) ∧ Aside0 (w'.heap[gb101]? = some (.cells #[.int .i64 0, (.slice none 0 0), (.slice none 0 0)] 37 (0, 0))) ∧ Aside0 (w'.heap[gb110]? = some (.cells #[.int .i64 0, u111001, (.slice Ao14 y107.length co14)] 37 (0, 0))) ∧ Aside0 (Below w.heap.size w w'))
    case atStart => exact ⟨(0), (y104), (.slice Ao15 y104.length co15), zr, H', ⟨Nat.le_refl _⟩, ⟨rz (Kd.R_mono (Kd.R_far (p := ⟨gb110, 2, none⟩) (Kd.R_far (p := ⟨gb110, 1, none⟩) (Kd.R_far (p := ⟨gb110, 0, none⟩) (Kd.R_types HO106.out BK110.out (by decide)) (fun _ hk => hk.2) (.int .i64 0)) (fun _ hk => hk.2) (.slice Ao15 y104.length co15)) (fun _ hk => hk.2) (.slice Ao14 y107.length co14)) (fun _ hk => trivial))⟩, ⟨rz (Kd.R_mono (Kd.R_far (p := ⟨gb110, 2, none⟩) (Kd.R_far (p := ⟨gb110, 1, none⟩) (Kd.R_far (p := ⟨gb110, 0, none⟩) (Kd.R_types HO109.out BK110.out (by decide)) (fun _ hk => hk.2) (.int .i64 0)) (fun _ hk => hk.2) (.slice Ao15 y104.length co15)) (fun _ hk => hk.2) (.slice Ao14 y107.length co14)) (fun _ hk => trivial))⟩, ⟨by (with_reducible repeat (first | refine blk_drewN ?_ _ | refine blk_drew ?_ | refine blk_alloc ?_ _ | refine blk_far ?_ NB101_110.out _)); exact BK101.out⟩, ⟨by (with_reducible repeat (first | refine blk_drewN ?_ _ | refine blk_drew ?_ | refine blk_alloc ?_ _)); refine blk_put (cs := #[.int .i64 0, .slice Ao15 y104.length co15, .slice none 0 0]) ?_ 2 _ rfl; (with_reducible repeat (first | refine blk_drewN ?_ _ | refine blk_drew ?_ | refine blk_alloc ?_ _)); refine blk_put (cs := #[.int .i64 0, .slice none 0 0, .slice none 0 0]) ?_ 1 _ rfl; (with_reducible repeat (first | refine blk_drewN ?_ _ | refine blk_drew ?_ | refine blk_alloc ?_ _)); refine blk_put (cs := #[.int .i64 0, .slice none 0 0, .slice none 0 0]) ?_ 0 _ rfl; (with_reducible repeat (first | refine blk_drewN ?_ _ | refine blk_drew ?_ | refine blk_alloc ?_ _)); exact BK110.out⟩, ⟨bs2 HB.out GE101.out GE110.out⟩⟩
    case round =>
     clear H'
     try clear c1
     try clear p2
     try clear c3
     try clear c4
     try clear c6
     try clear c8
     try clear c17
     try clear hcz18_0
     try clear hcz18_1
     try clear hcz18_2
     try clear hcz9_0
     try clear hcz9_1
     try clear hcz9_2
     try clear hfz18_0
     try clear hfz18_1
     try clear hfz18_2
     try clear hfz9_0
     try clear hfz9_1
     try clear hfz9_2
     try clear p2
     obtain ⟨x7_2, x111001_2, u111001, rfl, HA, HK2, HO_111001, HO_111002, BK101, BK110, HB⟩ := hrel
     cases gk with
     | zero => exact absurd HA.out (by simp [spec_LockNew.l0])
     | succ k2 =>
      have H := HA.out; clear HA; simp only [spec_LockNew.l0] at H
      by_cases c19 : x7_2 < a0
      ·
       rw [if_pos c19] at H; have c19b0 : decide (x7_2 < a0) = true := decide_eq_true c19; clear c19
       by_cases c20 : x111001_2.length < 4398046511104
       ·
        rw [if_pos c20] at H; have LMc20 := Aside0.mk c20; clear c20; obtain ⟨y111, hy111⟩ : ∃ y_ : List (S45), y_ = (x111001_2 ++ [(⟨0, 0, a1, false⟩ : S45)]) := ⟨_, rfl⟩
        replace H : (spec_LockNew.l0 k2 a0 a1 (wrap64 (x7_2 + 1)) 0 y111 y107) = some (r1, r2, r3, r4) := by first | (rw [hy111]; with_reducible exact H) | (have H2_ := (Option.bind_some _ _).symm.trans H; rw [hy111]; with_reducible exact H2_) | (have H2_ := (Option.bind_some _ _).symm.trans H; with_reducible exact H2_) | with_reducible exact H | (rw [hy111]; exact H) | exact H
        have Ny111 := Aside0.mk hy111; clear hy111; have H' := Aside0.mk H; clear H; have hnb21 := NB110_101.out; have hnc21 := NB101_110.out; obtain ⟨hcz22_0, hcz22_1, hcz22_2⟩ := cz3 BK110.out; obtain ⟨hfz22_0, hfz22_1, hfz22_2⟩ := fz3 BK110.out
        go_wp2_with (first | ((with_reducible refine gate_builtin (b := .append) (xs := #[.tmp 26, .tmp 29]) rfl ?_); at_builtin; refine Kd.R_append k45 (w0 := w) w.heap.size rfl (.tmp 26) (.tmp 29) 35 45 (.agg #[(.int .i64 0), (.int .i64 0), (.int .i64 0), (.bool false)]) 32 rfl Try.underlying35 info45 rfl (by decide) (by omega) u111001 x111001_2 (⟨0, 0, a1, false⟩ : S45) [.int .i64 0, .int .i64 0, .int .i64 a1, .bool false] (fun _ => True) (fun _ => False) rfl rfl ?aP (fun _ hk => hk.elim) ?aF ?aO ?aB ?aS ?aL ?_; (case aP => exact k45_mkM _ _ _ (⟨0, 0, a1, false⟩ : S45)); (case aB => exact (bs2 HB.out GE101.out GE110.out)); (case aF => exact (fun _ _ => trivial)); (case aO => exact (rz HO_111001.out)); (case aS => exact (below_size (bs2 HB.out GE101.out GE110.out))); (case aL => have := LMc20.out; omega); intro v112 w23 ho hb hg hat; rw [← Ny111.out] at ho; have n0_ := Aside0.mk (Kd.R_over' (rz HO_111002.out) (Kd.R_typed (rz HO_111001.out)) (by decide) hg); have n1_ := Aside0.mk (blk_grown (kz BK101.out) hg (Kd.R_ne HO_111001.out BK101.out (by decide))); have n2_ := Aside0.mk (blk_grown (kz BK110.out) hg (Kd.R_ne HO_111001.out BK110.out (by decide))); have n3_ := Aside0.mk (hb); have n4_ := Aside0.mk (ho); clear HO_111002; clear BK101; clear BK110; clear HB; clear HO_111001; have HO_111002 := n0_; have BK101 := n1_; have BK110 := n2_; have HB := n3_; have HO113 := n4_; clear n0_ n1_ n2_ n3_ n4_; clear ho hb hg hat; obtain ⟨Ao24, co24, eo24⟩ := Kd.R_slice HO113.out; subst eo24; obtain ⟨hcz25_0, hcz25_1, hcz25_2⟩ := cz3 BK110.out; obtain ⟨hfz25_0, hfz25_1, hfz25_2⟩ := fz3 BK110.out))
        go_roundg k2
        case measure => have := HJ2.out; have := HK2.out; omega
        case rel => exact ⟨(wrap64 (x7_2 + 1)), (y111), (.slice Ao24 y111.length co24), zr, H', ⟨by have := HJ2.out; have := HK2.out; omega⟩, ⟨rz (Kd.R_mono (Kd.R_far (p := ⟨gb110, 1, none⟩) (Kd.R_types HO113.out BK110.out (by decide)) (fun _ hk => hk.2) (.slice Ao24 y111.length co24)) (fun _ hk => trivial))⟩, ⟨rz (Kd.R_mono (Kd.R_far (p := ⟨gb110, 1, none⟩) (Kd.R_types HO_111002.out BK110.out (by decide)) (fun _ hk => hk.2) (.slice Ao24 y111.length co24)) (fun _ hk => trivial))⟩, ⟨by (with_reducible repeat (first | refine blk_drewN ?_ _ | refine blk_drew ?_ | refine blk_alloc ?_ _ | refine blk_far ?_ NB101_110.out _)); exact BK101.out⟩, ⟨by (with_reducible repeat (first | refine blk_drewN ?_ _ | refine blk_drew ?_ | refine blk_alloc ?_ _)); refine blk_put (cs := #[.int .i64 0, u111001, .slice Ao14 y107.length co14]) ?_ 1 _ rfl; (with_reducible repeat (first | refine blk_drewN ?_ _ | refine blk_drew ?_ | refine blk_alloc ?_ _)); exact BK110.out⟩, ⟨bs2 HB.out GE101.out GE110.out⟩⟩
       ·
        rw [if_neg c20] at H
        exact absurd H (by simp)
      ·
       rw [if_neg c19] at H; have c19b0 : decide (x7_2 < a0) = false := decide_eq_false c19; clear c19; simp only [Option.some.injEq, Prod.mk.injEq] at H; obtain ⟨rfl, rfl, rfl, rfl⟩ := H; have hnb26 := NB110_101.out; have hnc26 := NB101_110.out; obtain ⟨hcz27_0, hcz27_1, hcz27_2⟩ := cz3 BK110.out; obtain ⟨hfz27_0, hfz27_1, hfz27_2⟩ := fz3 BK110.out; obtain ⟨hcz28_0, hcz28_1, hcz28_2⟩ := cz3 BK101.out; obtain ⟨hfz28_0, hfz28_1, hfz28_2⟩ := fz3 BK101.out; obtain ⟨Ao29, co29, eo29⟩ := Kd.R_slice HO_111001.out; subst eo29
       go_wp2
       refine bodyPost_ret (results_ct rfl _ _ gb101 37 #[.int .i64 0, .slice Ao29 x111001_2.length co29, .slice Ao14 y107.length co14] (0, 0) _ rfl (by (with_reducible repeat (first | refine blk_drewN ?_ _ | refine blk_drew ?_ | refine blk_alloc ?_ _)); refine blk_put (cs := #[.int .i64 0, .slice Ao29 x111001_2.length co29, .slice none 0 0]) ?_ 2 _ rfl; (with_reducible repeat (first | refine blk_drewN ?_ _ | refine blk_drew ?_ | refine blk_alloc ?_ _)); refine blk_put (cs := #[.int .i64 0, .slice none 0 0, .slice none 0 0]) ?_ 1 _ rfl; (with_reducible repeat (first | refine blk_drewN ?_ _ | refine blk_drew ?_ | refine blk_alloc ?_ _)); refine blk_put (cs := #[.int .i64 0, .slice none 0 0, .slice none 0 0]) ?_ 0 _ rfl; (with_reducible repeat (first | refine blk_drewN ?_ _ | refine blk_drew ?_ | refine blk_alloc ?_ _)); exact BK101.out) Try.underlying37 rfl zk) rfl ?_
       exact ⟨_, _, ze, by (with_reducible repeat (first | apply Kd.R_alloc | apply Kd.R_drewN | apply Kd.R_drew)); exact Kd.R_mono (Kd.R_far (p := ⟨gb101, 2, none⟩) (Kd.R_far (p := ⟨gb101, 1, none⟩) (Kd.R_far (p := ⟨gb101, 0, none⟩) (Kd.R_types HO_111001.out BK101.out (by decide)) (fun _ hk => hk.2) (.int .i64 0)) (fun _ hk => hk.2) (.slice Ao29 x111001_2.length co29)) (fun _ hk => hk.2) (.slice Ao14 y107.length co14)) (fun _ hk => trivial), by (with_reducible repeat (first | apply Kd.R_alloc | apply Kd.R_drewN | apply Kd.R_drew)); exact Kd.R_mono (Kd.R_far (p := ⟨gb101, 2, none⟩) (Kd.R_far (p := ⟨gb101, 1, none⟩) (Kd.R_far (p := ⟨gb101, 0, none⟩) (Kd.R_types HO_111002.out BK101.out (by decide)) (fun _ hk => hk.2) (.int .i64 0)) (fun _ hk => hk.2) (.slice Ao29 x111001_2.length co29)) (fun _ hk => hk.2) (.slice Ao14 y107.length co14)) (fun _ hk => trivial), bs2 HB.out GE101.out GE110.out⟩

end Go.Proofs.Ytmpdoodimmmemaa.P
