-- printed by this session's own driver (wip/qd.py) out of the translation; Lean checks it
import Derived.Test.YtlejcgnfpcngbaaPf0
import Derived.Test.YtlejcgnfpcngbaaPfspecl6In
import Derived.Test.YtlejcgnfpcngbaaPfspecl19Time
import Derived.Test.YtlejcgnfpcngbaaPfspecl19Ahead
namespace Go.Proofs.Ytlejcgnfpcngbaa.P
open Go.RowKit Go.Proofs.YtlejcgnfpcngbaaW.PrintWords Go.Proofs.YtlejcgnfpcngbaaW.PrintLast Go.Proofs.YtlejcgnfpcngbaaW.PrintMore
attribute [local go_sem] max2_int min2_int max_two min_two max_three min_three max_four min_four Q.cell_set_map   -- for this text's walks alone
set_option linter.unusedVariables false
set_option linter.unusedSimpArgs false

/-! ### spec_ClockOk: function 26 -/
mutual
def spec_ClockOk.l0 : Nat → Int → Int → List (S62) → Option (Bool)
 | 0, _, _, _ => none
 | k + 1, x3, x102000, x102001 => if x3 < (x102001.length : Int) then (if 0 ≤ x3 then ((spec_l6In.f ((rd_T62 x102001 x3).f0) 0 99).bind fun t105 => (if t105 = true then ((spec_l19Time.f ((rd_T62 x102001 x3).f1)).bind fun t106 => (if t106 = true then (if ((rd_T62 x102001 x3).f1) ≤ x102000 then (spec_ClockOk.j1 k x3 true x102000 x102001 ((rd_T62 x102001 x3).f0) ((rd_T62 x102001 x3).f1) ((rd_T62 x102001 x3).f2)) else ((spec_l6In.f ((rd_T62 x102001 x3).f2) 0 99).bind fun t107 => (if t107 = true then (if x3 > 0 then (if 0 ≤ (wrap64 (x3 - 1)) then (if (wrap64 (x3 - 1)) < (x102001.length : Int) then ((spec_l19Ahead.f ((rd_T62 x102001 (wrap64 (x3 - 1))).f0) ((rd_T62 x102001 (wrap64 (x3 - 1))).f1) ((rd_T62 x102001 (wrap64 (x3 - 1))).f2) ((rd_T62 x102001 x3).f0) ((rd_T62 x102001 x3).f1) ((rd_T62 x102001 x3).f2)).bind fun t109 => (spec_ClockOk.j1 k x3 (!t109) x102000 x102001 ((rd_T62 x102001 x3).f0) ((rd_T62 x102001 x3).f1) ((rd_T62 x102001 x3).f2))) else (none)) else (none)) else (spec_ClockOk.j1 k x3 false x102000 x102001 ((rd_T62 x102001 x3).f0) ((rd_T62 x102001 x3).f1) ((rd_T62 x102001 x3).f2))) else (spec_ClockOk.j1 k x3 true x102000 x102001 ((rd_T62 x102001 x3).f0) ((rd_T62 x102001 x3).f1) ((rd_T62 x102001 x3).f2))))) else (spec_ClockOk.j1 k x3 true x102000 x102001 ((rd_T62 x102001 x3).f0) ((rd_T62 x102001 x3).f1) ((rd_T62 x102001 x3).f2)))) else (spec_ClockOk.j1 k x3 true x102000 x102001 ((rd_T62 x102001 x3).f0) ((rd_T62 x102001 x3).f1) ((rd_T62 x102001 x3).f2)))) else (none)) else ((spec_l19Time.f x102000).bind fun t102 => (if t102 = true then (some (decide ((x102001.length : Int) ≤ 12))) else (some false)))
def spec_ClockOk.j1 : Nat → Int → Bool → Int → List (S62) → Int → Int → Int → Option (Bool)
 | 0, _, _, _, _, _, _, _ => none
 | k + 1, x3, x55, x102000, x102001, x105000, x105001, x105002 => if x55 = true then (some false) else (spec_ClockOk.l1 k x3 0 x102000 x102001 x105000 x105001 x105002)
def spec_ClockOk.l1 : Nat → Int → Int → Int → List (S62) → Int → Int → Int → Option (Bool)
 | 0, _, _, _, _, _, _, _ => none
 | k + 1, x3, x5, x102000, x102001, x105000, x105001, x105002 => if x5 < x3 then (if 0 ≤ x5 then (if x5 < (x102001.length : Int) then (if ((rd_T62 x102001 x5).f0) = x105000 then (some false) else (spec_ClockOk.l1 k x3 (wrap64 (x5 + 1)) x102000 x102001 x105000 x105001 x105002)) else (none)) else (none)) else (spec_ClockOk.l0 k (wrap64 (x3 + 1)) x102000 x102001)
end
def spec_ClockOk.f (k : Nat) (a0_0 : Int) (l0_1 : List (S62)) : Option (Bool) := spec_ClockOk.l0 k 0 a0_0 l0_1
theorem spec_ClockOk.mono_l : ∀ k, (∀ y0 y1 y2, LeO (spec_ClockOk.l0 k y0 y1 y2) (spec_ClockOk.l0 (k + 1) y0 y1 y2)) ∧ (∀ y0 y1 y2 y3 y4 y5 y6, LeO (spec_ClockOk.j1 k y0 y1 y2 y3 y4 y5 y6) (spec_ClockOk.j1 (k + 1) y0 y1 y2 y3 y4 y5 y6)) ∧ (∀ y0 y1 y2 y3 y4 y5 y6, LeO (spec_ClockOk.l1 k y0 y1 y2 y3 y4 y5 y6) (spec_ClockOk.l1 (k + 1) y0 y1 y2 y3 y4 y5 y6))
 | 0 => ⟨fun _ _ _ r h => by simp [spec_ClockOk.l0] at h, fun _ _ _ _ _ _ _ r h => by simp [spec_ClockOk.j1] at h, fun _ _ _ _ _ _ _ r h => by simp [spec_ClockOk.l1] at h⟩
 | k + 1 => by
  obtain ⟨ih0, ih1, ih2⟩ := spec_ClockOk.mono_l k
  refine ⟨?_, ?_, ?_⟩
  ·
   intro y0 y1 y2
   unfold spec_ClockOk.l0
   repeat' first
   | (with_reducible exact ih0 _ _ _)
   | (with_reducible exact ih1 _ _ _ _ _ _ _)
   | (with_reducible exact ih2 _ _ _ _ _ _ _)
   | (with_reducible exact LeO.refl _)
   | (with_reducible exact LeO.none _)
   | (with_reducible refine LeO.ite ?_ ?_)
   | (with_reducible refine LeO.bind ?_ (fun _ => ?_))
   | exact ih0 _ _ _
   | exact ih1 _ _ _ _ _ _ _
   | exact ih2 _ _ _ _ _ _ _
   | exact LeO.none _
   | refine LeO.ite ?_ ?_
   | refine LeO.bind ?_ (fun _ => ?_)
  ·
   intro y0 y1 y2 y3 y4 y5 y6
   unfold spec_ClockOk.j1
   repeat' first
   | (with_reducible exact ih0 _ _ _)
   | (with_reducible exact ih1 _ _ _ _ _ _ _)
   | (with_reducible exact ih2 _ _ _ _ _ _ _)
   | (with_reducible exact LeO.refl _)
   | (with_reducible exact LeO.none _)
   | (with_reducible refine LeO.ite ?_ ?_)
   | (with_reducible refine LeO.bind ?_ (fun _ => ?_))
   | exact ih0 _ _ _
   | exact ih1 _ _ _ _ _ _ _
   | exact ih2 _ _ _ _ _ _ _
   | exact LeO.none _
   | refine LeO.ite ?_ ?_
   | refine LeO.bind ?_ (fun _ => ?_)
  ·
   intro y0 y1 y2 y3 y4 y5 y6
   unfold spec_ClockOk.l1
   repeat' first
   | (with_reducible exact ih0 _ _ _)
   | (with_reducible exact ih1 _ _ _ _ _ _ _)
   | (with_reducible exact ih2 _ _ _ _ _ _ _)
   | (with_reducible exact LeO.refl _)
   | (with_reducible exact LeO.none _)
   | (with_reducible refine LeO.ite ?_ ?_)
   | (with_reducible refine LeO.bind ?_ (fun _ => ?_))
   | exact ih0 _ _ _
   | exact ih1 _ _ _ _ _ _ _
   | exact ih2 _ _ _ _ _ _ _
   | exact LeO.none _
   | refine LeO.ite ?_ ?_
   | refine LeO.bind ?_ (fun _ => ?_)
theorem spec_ClockOk.mono : ∀ a0 a1 k, LeO (spec_ClockOk.f k a0 a1) (spec_ClockOk.f (k + 1) a0 a1) := by
 intro a0 a1 k
 obtain ⟨ih0, ih1, ih2⟩ := spec_ClockOk.mono_l k
 unfold spec_ClockOk.f
 repeat' first
   | (with_reducible exact ih0 _ _ _)
   | (with_reducible exact ih1 _ _ _ _ _ _ _)
   | (with_reducible exact ih2 _ _ _ _ _ _ _)
   | (with_reducible exact LeO.refl _)
   | (with_reducible exact LeO.none _)
   | (with_reducible refine LeO.ite ?_ ?_)
   | (with_reducible refine LeO.bind ?_ (fun _ => ?_))
   | exact ih0 _ _ _
   | exact ih1 _ _ _ _ _ _ _
   | exact ih2 _ _ _ _ _ _ _
   | exact LeO.none _
   | refine LeO.ite ?_ ?_
   | refine LeO.bind ?_ (fun _ => ?_)
def spec_ClockOk.T5 : Bool × List (List Nat × List Nat) := (true, [([], []), ([0], [0]), ([1], [1]), ([2], [2]), ([3, 2], [3]), ([4], [4]), ([5, 4], [4, 5]), ([6, 4, 4], [4, 6]), ([7, 4], [4, 7]), ([4, 8], [4, 8]), ([9, 7], [9]), ([10], [10]), ([11, 10], [10, 11]), ([10], [10]), ([13, 10], [10, 13]), ([12, 14, 10], [10, 12, 14]), ([10, 15], [10, 15]), ([16, 10], [16]), ([17], [17]), ([18, 17], [17, 18]), ([19, 17, 17], [17, 19]), ([20, 17], [17, 20]), ([17, 21], [17, 21]), ([22, 20], [22]), ([23], [23]), ([24, 23], [23, 24]), ([25, 23, 23], [23, 25]), ([26], [26]), ([27, 26], [26, 27]), ([26], [26]), ([29, 26], [26, 29]), ([28, 30, 26], [26, 28, 30]), ([31, 26], [26, 31]), ([26], [26]), ([32, 33, 26, 26], [26, 32, 33]), ([34, 26], [26, 34]), ([26, 35, 23], [23, 26, 35]), ([23, 36], [23, 36])])
def spec_ClockOk.B5 : List Nat := [0, 1, 3, 7, 15, 31, 63, 127, 255, 511, 1023, 2047, 4095, 2047, 10239, 32767, 65535, 131071, 262143, 524287, 1048575, 2097151, 4194303, 8388607, 16777215, 33554431, 67108863, 134217727, 268435455, 134217727, 671088639, 2147483647, 4294967295, 134217727, 17179869183, 34359738367, 68719476735, 137438953471]
theorem spec_ClockOk.tab5 : rtab .any (opsOf Try.f26 5) = spec_ClockOk.T5 := by kernel_rfl
theorem spec_ClockOk.bits5 : waitsOk spec_ClockOk.T5.2 spec_ClockOk.B5 = true := by kernel_rfl
def spec_ClockOk.T10 : Bool × List (List Nat × List Nat) := (true, [([], []), ([0], [0]), ([], []), ([1, 2], [1, 2]), ([3], [3]), ([4], [4]), ([], []), ([6], [6]), ([5, 7], [5, 7])])
def spec_ClockOk.B10 : List Nat := [0, 1, 0, 7, 15, 31, 0, 64, 255]
theorem spec_ClockOk.tab10 : rtab .any (opsOf Try.f26 10) = spec_ClockOk.T10 := by kernel_rfl
theorem spec_ClockOk.bits10 : waitsOk spec_ClockOk.T10.2 spec_ClockOk.B10 = true := by kernel_rfl
set_option maxHeartbeats 8000000 in
set_option maxRecDepth 100000 in
theorem spec_ClockOk.calls (k : Nat) (a0_0 : Int) (A0_1 : Option Addr) (c0_1 : Nat) (l0_1 : List (S62)) (r : Bool) (w : World) (hr0_1 : Kd.C k62 w A0_1 l0_1.length l0_1) (hc0_1 : l0_1.length ≤ c0_1) (h : spec_ClockOk.f k a0_0 l0_1 = some r) :
  Calls Try.prog 26 #[.agg #[.int .i64 a0_0, .slice A0_1 l0_1.length c0_1]] w fun e w' => e = .returned (.bool r) ∧ Below w.heap.size w w' := by
 have hu26 := Try.underlying26; have hu62 := Try.underlying62; have HR0_1 := Aside0.mk hr0_1; have HC0_1 := Aside0.mk hc0_1; clear hr0_1 hc0_1; have HB := Aside0.mk (Below.refl w.heap.size w); have H : (spec_ClockOk.l0 k 0 a0_0 l0_1) = some r := h; clear h; have H' := Aside0.mk H; clear H
 go_enter Try.func26, Try.ntmps26
 go_wp2_with (first | ((with_reducible refine gate_dst (N := 1) rfl ?_); (try (refine gate_guard (by rfl) ?_; dsimp only)); refine box_event ?hg (N := 1) ?hd (cs := #[.int .i64 a0_0, .slice A0_1 l0_1.length c0_1]) (t := 26) ?hr ?_; (case hd => rfl); (case hg => rfl); (case hr => first | (go_simp; done) | (go_simp; rfl)); intro gb101 hg w2 hbox hb; have BK101 := Aside0.mk (hbox); have GW101 := Aside0.mk ((by rw [hg]; exact (below_size (bz HB.out)) : w.heap.size ≤ gb101)); have GE101 := Aside0.mk ((by rw [hg]; exact (below_size (bz HB.out)) : w.heap.size ≤ gb101)); replace HB := Aside0.mk (below_step (bz HB.out) hb); clear hb hbox hg))
 go_loopg [3] k (fun kq v3 w' => ∃ (x3_1 : Int), v3 = .int .i64 x3_1 ∧ Aside0 (spec_ClockOk.l0 kq x3_1 a0_0 l0_1 = some r) ∧ Aside0 (kq ≤ k) ∧ Aside0 (w'.heap[gb101]? = some (.cells #[.int .i64 a0_0, (.slice A0_1 l0_1.length c0_1)] 26 (0, 0))) ∧ Aside0 (Below w.heap.size w w'))
 case atStart => exact ⟨(0), zr, H', ⟨Nat.le_refl _⟩, ⟨kz (BK101.out)⟩, ⟨bs HB.out GE101.out⟩⟩
 case round =>
  clear H'
  try clear c2
  try clear p2
  obtain ⟨x3_1, rfl, HA, HK1, BK101, HB⟩ := hrel
  cases gk with
  | zero => exact absurd HA.out (by simp [spec_ClockOk.l0])
  | succ k1 =>
   have H := HA.out; clear HA; simp only [spec_ClockOk.l0] at H
   by_cases c3 : x3_1 < (l0_1.length : Int)
   ·
    rw [if_pos c3] at H; have c3b0 : decide (x3_1 < (l0_1.length : Int)) = true := decide_eq_true c3; clear c3
    by_cases c4 : 0 ≤ x3_1
    ·
     rw [if_pos c4] at H; have c4b0 : decide (0 ≤ x3_1) = true := decide_eq_true c4; clear c4; have HC5 := Aside0.mk H; clear H; have hcz6_0 : wr.cell? ⟨gb101, 0, none⟩ = some (.int .i64 a0_0) := (blk_cell BK101.out 0).trans rfl; have hcz6_1 : wr.cell? ⟨gb101, 1, none⟩ = some (.slice A0_1 l0_1.length c0_1) := (blk_cell BK101.out 1).trans rfl; have hfz6_0 := blk_frozen BK101.out 0; have hfz6_1 := blk_frozen BK101.out 1; have p103 : 0 ≤ (x3_1 : Int) := of_decide_eq_true zs; have q103 : x3_1 < (l0_1.length : Int) := of_decide_eq_true zs; obtain ⟨ad103, e103, hx103_0, hx103_1, hx103_2⟩ := at_T62 HR0_1.out x3_1 p103 q103; cases e103; replace hx103_0 := pw_cell_below HB.out hx103_0; replace hx103_1 := pw_cell_below HB.out hx103_1; replace hx103_2 := pw_cell_below HB.out hx103_2; replace p103 := eq_true p103; replace q103 := eq_true q103
     go_upto_region 5 with (first | ((with_reducible refine gate_dst (N := 4) rfl ?_); (try (refine gate_guard (by rfl) ?_; dsimp only)); refine box_event ?hg (N := 4) ?hd (cs := #[.int .i64 0, .int .i64 0, .int .i64 0]) (t := 62) ?hr ?_; (case hd => rfl); (case hg => rfl); (case hr => first | (go_simp; done) | (go_simp; rfl)); intro gb104 hg w7 hbox hb; have BK104 := Aside0.mk (hbox); have GW104 := Aside0.mk ((by rw [hg]; exact (below_size (bs HB.out GE101.out)) : w.heap.size ≤ gb104)); have GE104 := Aside0.mk ((by rw [hg]; exact (below_size (bs HB.out GE101.out)) : w.heap.size ≤ gb104)); replace HB := Aside0.mk (below_step (bs HB.out GE101.out) hb); have NB101_104 := Aside0.mk ((by rw [hg]; exact Nat.ne_of_lt (blk_lt (kz BK101.out)) : gb101 ≠ gb104)); have NB104_101 := Aside0.mk ((by rw [hg]; exact Nat.ne_of_gt (blk_lt (kz BK101.out)) : gb104 ≠ gb101)); replace BK101 := Aside0.mk (blk_below (kz BK101.out) hb); clear hb hbox hg; have hnb8 := NB104_101.out; have hnc8 := NB101_104.out; have hcz9_0 : w7.cell? ⟨gb104, 0, none⟩ = some (.int .i64 0) := (blk_cell BK104.out 0).trans rfl; have hcz9_1 : w7.cell? ⟨gb104, 1, none⟩ = some (.int .i64 0) := (blk_cell BK104.out 1).trans rfl; have hcz9_2 : w7.cell? ⟨gb104, 2, none⟩ = some (.int .i64 0) := (blk_cell BK104.out 2).trans rfl; have hfz9_0 := blk_frozen BK104.out 0; have hfz9_1 := blk_frozen BK104.out 1; have hfz9_2 := blk_frozen BK104.out 2))
     (try simp only [Act.put, List.setIfInBounds_toArray, List.set_cons_zero, List.set_cons_succ])
     go_cut [55] (fun v55 wc => ∃ (kq : Nat) (x55_4 : Bool), v55 = .bool x55_4 ∧ Aside0 (spec_ClockOk.j1 kq x3_1 x55_4 a0_0 l0_1 ((rd_T62 l0_1 x3_1).f0) ((rd_T62 l0_1 x3_1).f1) ((rd_T62 l0_1 x3_1).f2) = some r) ∧ Aside0 (kq ≤ k1) ∧ Aside0 (wc.heap[gb101]? = some (.cells #[.int .i64 a0_0, (.slice (some ad103) l0_1.length c0_1)] 26 (0, 0))) ∧ Aside0 (wc.heap[gb104]? = some (.cells #[.int .i64 ((rd_T62 l0_1 x3_1).f0), .int .i64 ((rd_T62 l0_1 x3_1).f1), .int .i64 ((rd_T62 l0_1 x3_1).f2)] 62 (0, 0))) ∧ Aside0 (Below w.heap.size w wc))
     case first =>
      have H := HC5.out; clear HC5; replace H := Option.bind_eq_some_iff.mp H; obtain ⟨t105, A100, H⟩ := H; have A10 := Aside0.mk A100; clear A100
      by_cases c11 : t105 = true
      ·
       subst c11; rw [if_pos rfl] at H; replace H := Option.bind_eq_some_iff.mp H; obtain ⟨t106, A120, H⟩ := H; have A12 := Aside0.mk A120; clear A120
       by_cases c13 : t106 = true
       ·
        subst c13; rw [if_pos rfl] at H
        by_cases c14 : ((rd_T62 l0_1 x3_1).f1) ≤ a0_0
        ·
         rw [if_pos c14] at H; have c14b0 : decide (((rd_T62 l0_1 x3_1).f1) ≤ a0_0) = true := decide_eq_true c14; clear c14
         (first | rw [c14b0] | (simp only [i64_w, i32_w]; rw [c14b0]) | skip)
         have H' := Aside0.mk H; clear H
         try go_wp2
         have n0_ : Aside0 ((((w7.setCell ⟨gb104, 0, none⟩ (.int .i64 ((rd_T62 l0_1 x3_1).f0))).setCell ⟨gb104, 1, none⟩ (.int .i64 ((rd_T62 l0_1 x3_1).f1))).setCell ⟨gb104, 2, none⟩ (.int .i64 ((rd_T62 l0_1 x3_1).f2))).heap[gb101]? = some (.cells #[.int .i64 a0_0, .slice (some ad103) l0_1.length c0_1] 26 (0, 0))) := ⟨by (with_reducible repeat (first | refine blk_drewN ?_ _ | refine blk_drew ?_ | refine blk_alloc ?_ _)); refine blk_far ?_ NB101_104.out _; (with_reducible repeat (first | refine blk_drewN ?_ _ | refine blk_drew ?_ | refine blk_alloc ?_ _)); refine blk_far ?_ NB101_104.out _; (with_reducible repeat (first | refine blk_drewN ?_ _ | refine blk_drew ?_ | refine blk_alloc ?_ _)); refine blk_far ?_ NB101_104.out _; (with_reducible repeat (first | refine blk_drewN ?_ _ | refine blk_drew ?_ | refine blk_alloc ?_ _)); exact BK101.out⟩; have n1_ : Aside0 ((((w7.setCell ⟨gb104, 0, none⟩ (.int .i64 ((rd_T62 l0_1 x3_1).f0))).setCell ⟨gb104, 1, none⟩ (.int .i64 ((rd_T62 l0_1 x3_1).f1))).setCell ⟨gb104, 2, none⟩ (.int .i64 ((rd_T62 l0_1 x3_1).f2))).heap[gb104]? = some (.cells #[.int .i64 ((rd_T62 l0_1 x3_1).f0), .int .i64 ((rd_T62 l0_1 x3_1).f1), .int .i64 ((rd_T62 l0_1 x3_1).f2)] 62 (0, 0))) := ⟨by (with_reducible repeat (first | refine blk_drewN ?_ _ | refine blk_drew ?_ | refine blk_alloc ?_ _)); refine blk_put (cs := #[.int .i64 ((rd_T62 l0_1 x3_1).f0), .int .i64 ((rd_T62 l0_1 x3_1).f1), .int .i64 0]) ?_ 2 _ rfl; (with_reducible repeat (first | refine blk_drewN ?_ _ | refine blk_drew ?_ | refine blk_alloc ?_ _)); refine blk_put (cs := #[.int .i64 ((rd_T62 l0_1 x3_1).f0), .int .i64 0, .int .i64 0]) ?_ 1 _ rfl; (with_reducible repeat (first | refine blk_drewN ?_ _ | refine blk_drew ?_ | refine blk_alloc ?_ _)); refine blk_put (cs := #[.int .i64 0, .int .i64 0, .int .i64 0]) ?_ 0 _ rfl; (with_reducible repeat (first | refine blk_drewN ?_ _ | refine blk_drew ?_ | refine blk_alloc ?_ _)); exact BK104.out⟩; have n2_ : Aside0 (Below w.heap.size w (((w7.setCell ⟨gb104, 0, none⟩ (.int .i64 ((rd_T62 l0_1 x3_1).f0))).setCell ⟨gb104, 1, none⟩ (.int .i64 ((rd_T62 l0_1 x3_1).f1))).setCell ⟨gb104, 2, none⟩ (.int .i64 ((rd_T62 l0_1 x3_1).f2)))) := ⟨bs2 HB.out GE101.out GE104.out⟩; (try clear BK101); (try clear BK104); (try clear HB)
         generalize (((w7.setCell ⟨gb104, 0, none⟩ (.int .i64 ((rd_T62 l0_1 x3_1).f0))).setCell ⟨gb104, 1, none⟩ (.int .i64 ((rd_T62 l0_1 x3_1).f1))).setCell ⟨gb104, 2, none⟩ (.int .i64 ((rd_T62 l0_1 x3_1).f2))) = w15 at n0_ n1_ n2_ ⊢
         have BK101 := n0_; have BK104 := n1_; have HB := n2_; clear n0_ n1_ n2_; replace BK101 := Aside0.mk (blk_drew BK101.out); replace BK104 := Aside0.mk (blk_drew BK104.out); replace HB := Aside0.mk (below_drew1 HB.out); refine start_ (n := 38) (S := fun w' => w'.cell? ⟨gb104, 0, none⟩ = some (.int .i64 ((rd_T62 l0_1 x3_1).f0)) ∧ w'.cell? ⟨gb104, 1, none⟩ = some (.int .i64 ((rd_T62 l0_1 x3_1).f1)) ∧ w'.cell? ⟨gb104, 2, none⟩ = some (.int .i64 ((rd_T62 l0_1 x3_1).f2)) ∧ w'.cell? ⟨gb101, 0, none⟩ = some (.int .i64 a0_0) ∧ w'.cell? ⟨gb101, 1, none⟩ = some (.slice (some ad103) l0_1.length c0_1)) (ds := []) (lb 38 0) zk rfl rfl ⟨(blk_cell BK104.out 0).trans rfl, (blk_cell BK104.out 1).trans rfl, (blk_cell BK104.out 2).trans rfl, (blk_cell BK101.out 0).trans rfl, (blk_cell BK101.out 1).trans rfl⟩ (fun hHeld => ?_); refine with_tabW spec_ClockOk.tab5 spec_ClockOk.bits5 (fun HT_ HW_ => ?_)
         generalize w15.drew = w16 at BK101 BK104 HB hHeld ⊢
         refine pz 0 (some 18) (lb 38 1) rfl rfl HT_.out ?_; refine tz 1 (some 19) (lb 38 3) rfl rfl HT_.out HW_.out hHeld ?_; refine one_ (i := 2) (N := some 20) (lb 38 7) rfl rfl (one_of HT_.out zk) (by decide) (fun K hK => ?_); refine goes_ Try.func52 zk rfl #[.int .i64 ((rd_T62 l0_1 x3_1).f0), .int .i64 0, .int .i64 99] (by rfl) rfl rfl zm ?_; (with_reducible refine (spec_l6In.calls ((rd_T62 l0_1 x3_1).f0) 0 99 true _ A10.out).mono ?_); rintro e w' ⟨rfl, ⟨nd, rfl⟩⟩; refine ⟨_, rfl, ?_⟩; refine hK.out _ _ ⟨(blk_cell BK104.out 0).trans rfl, (blk_cell BK104.out 1).trans rfl, (blk_cell BK104.out 2).trans rfl, (blk_cell BK101.out 0).trans rfl, (blk_cell BK101.out 1).trans rfl⟩ (fun hHeld => ?_); clear hK K; refine norm_ (a' := ?_) ?_ ?_; rotate_left
         ·
          show Act.put _ (some 20) _ = _
          simp only [Act.put, List.setIfInBounds_toArray, List.set_cons_zero, List.set_cons_succ, i64_w, i32_w]
          rfl
         refine pz 3 (some 21) (lb 38 15) rfl rfl HT_.out ?_; refine pz 4 (some 22) (lb 38 31) rfl rfl HT_.out ?_; refine pz 5 (some 23) (lb 38 63) rfl rfl HT_.out ?_; refine tz 6 (some 24) (lb 38 127) rfl rfl HT_.out HW_.out hHeld ?_; refine one_ (i := 7) (N := some 25) (lb 38 255) rfl rfl (one_of HT_.out zk) (by decide) (fun K hK => ?_); refine goes_ Try.func46 zk rfl #[.int .i64 ((rd_T62 l0_1 x3_1).f1)] (by rfl) rfl rfl zm ?_; (with_reducible refine (spec_l19Time.calls ((rd_T62 l0_1 x3_1).f1) true _ A12.out).mono ?_); rintro e w' ⟨rfl, ⟨nd, rfl⟩⟩; refine ⟨_, rfl, ?_⟩; refine hK.out _ _ ⟨(blk_cell BK104.out 0).trans rfl, (blk_cell BK104.out 1).trans rfl, (blk_cell BK104.out 2).trans rfl, (blk_cell BK101.out 0).trans rfl, (blk_cell BK101.out 1).trans rfl⟩ (fun hHeld => ?_); clear hK K; refine norm_ (a' := ?_) ?_ ?_; rotate_left
         ·
          show Act.put _ (some 25) _ = _
          simp only [Act.put, List.setIfInBounds_toArray, List.set_cons_zero, List.set_cons_succ, i64_w, i32_w]
          rfl
         refine pz 8 (some 26) (lb 38 511) rfl rfl HT_.out ?_; refine pz 9 (some 27) (lb 38 1023) rfl rfl HT_.out ?_; refine pz 10 (some 28) (lb 38 2047) rfl rfl HT_.out ?_; refine pz 11 (some 29) (lb 38 4095) rfl rfl HT_.out ?_; refine pz 13 (some 31) (lb 38 12287) rfl rfl HT_.out ?_; refine tz 12 (some 30) (lb 38 16383) rfl rfl HT_.out HW_.out hHeld ?_; refine tz 14 (some 32) (lb 38 32767) rfl rfl HT_.out HW_.out hHeld ?_; refine pz 15 (some 33) (lb 38 65535) rfl rfl HT_.out ?_; refine pz 16 (some 34) (lb 38 131071) rfl rfl HT_.out ?_; refine pz 17 (some 35) (lb 38 262143) rfl rfl HT_.out ?_; refine nz 18 (some 36) (lb 38 524287) rfl rfl HT_.out ?_; refine nz 19 (some 37) (lb 38 1048575) rfl rfl HT_.out ?_; refine nz 20 (some 38) (lb 38 2097151) rfl rfl HT_.out ?_; refine nz 21 (some 39) (lb 38 4194303) rfl rfl HT_.out ?_; refine pz 22 (some 40) (lb 38 8388607) rfl rfl HT_.out ?_; refine pz 23 (some 41) (lb 38 16777215) rfl rfl HT_.out ?_; refine nz 24 (some 42) (lb 38 33554431) rfl rfl HT_.out ?_; refine nz 25 (some 43) (lb 38 67108863) rfl rfl HT_.out ?_; refine nz 26 (some 44) (lb 38 134217727) rfl rfl HT_.out ?_; refine nz 27 (some 45) (lb 38 268435455) rfl rfl HT_.out ?_; refine nz 28 (some 46) (lb 38 536870911) rfl rfl HT_.out ?_; refine nz 29 (some 47) (lb 38 1073741823) rfl rfl HT_.out ?_; refine nz 30 (some 48) (lb 38 2147483647) rfl rfl HT_.out ?_; refine nz 31 (some 49) (lb 38 4294967295) rfl rfl HT_.out ?_; refine nz 32 (some 50) (lb 38 8589934591) rfl rfl HT_.out ?_; refine nz 33 (some 51) (lb 38 17179869183) rfl rfl HT_.out ?_; refine nz 34 (some 52) (lb 38 34359738367) rfl rfl HT_.out ?_; refine nz 35 (some 53) (lb 38 68719476735) rfl rfl HT_.out ?_; refine nz 36 (some 54) (lb 38 137438953471) rfl rfl HT_.out ?_; refine pz 37 (some 55) (lb 38 274877906943) rfl rfl HT_.out ?_; refine done_ (done_of HT_.out zk) ?_
         try go_wp2
         go_meet
         case rel => exact ⟨_, (true), zr, H', ⟨by have := HK1.out; first | omega | exact Nat.le_refl _⟩, ⟨kz (BK101.out)⟩, ⟨kz (BK104.out)⟩, ⟨bs2 HB.out GE101.out GE104.out⟩⟩
        ·
         rw [if_neg c14] at H; have c14b0 : decide (((rd_T62 l0_1 x3_1).f1) ≤ a0_0) = false := decide_eq_false c14; clear c14
         (first | rw [c14b0] | (simp only [i64_w, i32_w]; rw [c14b0]) | skip)
         replace H := Option.bind_eq_some_iff.mp H; obtain ⟨t107, A170, H⟩ := H; have A17 := Aside0.mk A170; clear A170
         by_cases c18 : t107 = true
         ·
          subst c18; rw [if_pos rfl] at H
          by_cases c19 : x3_1 > 0
          ·
           rw [if_pos c19] at H; have c19b0 : decide (0 < x3_1) = true := decide_eq_true c19; clear c19; obtain ⟨ji20, hji20⟩ : ∃ j_ : Int, (wrap64 (x3_1 - 1)) = j_ := ⟨_, rfl⟩
           replace H : (if 0 ≤ (ji20) then (if (ji20) < (l0_1.length : Int) then ((spec_l19Ahead.f ((rd_T62 l0_1 (ji20)).f0) ((rd_T62 l0_1 (ji20)).f1) ((rd_T62 l0_1 (ji20)).f2) ((rd_T62 l0_1 x3_1).f0) ((rd_T62 l0_1 x3_1).f1) ((rd_T62 l0_1 x3_1).f2)).bind fun t109 => (spec_ClockOk.j1 k1 x3_1 (!t109) a0_0 l0_1 ((rd_T62 l0_1 x3_1).f0) ((rd_T62 l0_1 x3_1).f1) ((rd_T62 l0_1 x3_1).f2))) else (none)) else (none)) = some r := by first | (rw [hji20] at H; exact H) | (simp only [hji20] at H ⊢; exact H)
           (try rw [hji20] at A10); (try rw [hji20] at A12); (try rw [hji20] at A17); have hji20w : (IntKind.i64.wrap (x3_1 - 1)) = ji20 := (i64_w _).trans hji20
           by_cases c21 : 0 ≤ (ji20)
           ·
            rw [if_pos c21] at H; have c21b0 : decide (0 ≤ (ji20)) = true := decide_eq_true c21; clear c21
            by_cases c22 : (ji20) < (l0_1.length : Int)
            ·
             rw [if_pos c22] at H; have c22b0 : decide ((ji20) < (l0_1.length : Int)) = true := decide_eq_true c22; clear c22; replace H := Option.bind_eq_some_iff.mp H; obtain ⟨t109, A230, H⟩ := H; have A23 := Aside0.mk A230; clear A230; have H' := Aside0.mk H; clear H
             try go_wp2
             have n0_ : Aside0 ((((w7.setCell ⟨gb104, 0, none⟩ (.int .i64 ((rd_T62 l0_1 x3_1).f0))).setCell ⟨gb104, 1, none⟩ (.int .i64 ((rd_T62 l0_1 x3_1).f1))).setCell ⟨gb104, 2, none⟩ (.int .i64 ((rd_T62 l0_1 x3_1).f2))).heap[gb101]? = some (.cells #[.int .i64 a0_0, .slice (some ad103) l0_1.length c0_1] 26 (0, 0))) := ⟨by (with_reducible repeat (first | refine blk_drewN ?_ _ | refine blk_drew ?_ | refine blk_alloc ?_ _)); refine blk_far ?_ NB101_104.out _; (with_reducible repeat (first | refine blk_drewN ?_ _ | refine blk_drew ?_ | refine blk_alloc ?_ _)); refine blk_far ?_ NB101_104.out _; (with_reducible repeat (first | refine blk_drewN ?_ _ | refine blk_drew ?_ | refine blk_alloc ?_ _)); refine blk_far ?_ NB101_104.out _; (with_reducible repeat (first | refine blk_drewN ?_ _ | refine blk_drew ?_ | refine blk_alloc ?_ _)); exact BK101.out⟩; have n1_ : Aside0 ((((w7.setCell ⟨gb104, 0, none⟩ (.int .i64 ((rd_T62 l0_1 x3_1).f0))).setCell ⟨gb104, 1, none⟩ (.int .i64 ((rd_T62 l0_1 x3_1).f1))).setCell ⟨gb104, 2, none⟩ (.int .i64 ((rd_T62 l0_1 x3_1).f2))).heap[gb104]? = some (.cells #[.int .i64 ((rd_T62 l0_1 x3_1).f0), .int .i64 ((rd_T62 l0_1 x3_1).f1), .int .i64 ((rd_T62 l0_1 x3_1).f2)] 62 (0, 0))) := ⟨by (with_reducible repeat (first | refine blk_drewN ?_ _ | refine blk_drew ?_ | refine blk_alloc ?_ _)); refine blk_put (cs := #[.int .i64 ((rd_T62 l0_1 x3_1).f0), .int .i64 ((rd_T62 l0_1 x3_1).f1), .int .i64 0]) ?_ 2 _ rfl; (with_reducible repeat (first | refine blk_drewN ?_ _ | refine blk_drew ?_ | refine blk_alloc ?_ _)); refine blk_put (cs := #[.int .i64 ((rd_T62 l0_1 x3_1).f0), .int .i64 0, .int .i64 0]) ?_ 1 _ rfl; (with_reducible repeat (first | refine blk_drewN ?_ _ | refine blk_drew ?_ | refine blk_alloc ?_ _)); refine blk_put (cs := #[.int .i64 0, .int .i64 0, .int .i64 0]) ?_ 0 _ rfl; (with_reducible repeat (first | refine blk_drewN ?_ _ | refine blk_drew ?_ | refine blk_alloc ?_ _)); exact BK104.out⟩; have n2_ : Aside0 (Below w.heap.size w (((w7.setCell ⟨gb104, 0, none⟩ (.int .i64 ((rd_T62 l0_1 x3_1).f0))).setCell ⟨gb104, 1, none⟩ (.int .i64 ((rd_T62 l0_1 x3_1).f1))).setCell ⟨gb104, 2, none⟩ (.int .i64 ((rd_T62 l0_1 x3_1).f2)))) := ⟨bs2 HB.out GE101.out GE104.out⟩; (try clear BK101); (try clear BK104); (try clear HB)
             generalize (((w7.setCell ⟨gb104, 0, none⟩ (.int .i64 ((rd_T62 l0_1 x3_1).f0))).setCell ⟨gb104, 1, none⟩ (.int .i64 ((rd_T62 l0_1 x3_1).f1))).setCell ⟨gb104, 2, none⟩ (.int .i64 ((rd_T62 l0_1 x3_1).f2))) = w24 at n0_ n1_ n2_ ⊢
             have BK101 := n0_; have BK104 := n1_; have HB := n2_; clear n0_ n1_ n2_; replace BK101 := Aside0.mk (blk_drew BK101.out); replace BK104 := Aside0.mk (blk_drew BK104.out); replace HB := Aside0.mk (below_drew1 HB.out); have p108 : 0 ≤ ((ji20) : Int) := of_decide_eq_true zs; have q108 : (ji20) < (l0_1.length : Int) := of_decide_eq_true zs; obtain ⟨ad108, e108, hx108_0, hx108_1, hx108_2⟩ := at_T62 HR0_1.out (ji20) p108 q108; have hw108_2 := hx108_2; have hw108_1 := hx108_1; have hw108_0 := hx108_0; obtain rfl : ad103 = ad108 := (by injection e108); replace hx108_0 := pw_cell_below HB.out hx108_0; replace hx108_1 := pw_cell_below HB.out hx108_1; replace hx108_2 := pw_cell_below HB.out hx108_2; replace p108 := eq_true p108; replace q108 := eq_true q108; refine start_ (n := 38) (S := fun w' => w'.cell? ⟨gb104, 0, none⟩ = some (.int .i64 ((rd_T62 l0_1 x3_1).f0)) ∧ w'.cell? ⟨gb104, 1, none⟩ = some (.int .i64 ((rd_T62 l0_1 x3_1).f1)) ∧ w'.cell? ⟨gb104, 2, none⟩ = some (.int .i64 ((rd_T62 l0_1 x3_1).f2)) ∧ w'.cell? ⟨gb101, 0, none⟩ = some (.int .i64 a0_0) ∧ w'.cell? ⟨gb101, 1, none⟩ = some (.slice (some ad103) l0_1.length c0_1) ∧ w'.cell? (ad103.add (((ji20)).toNat * 3)) = some (.int .i64 ((rd_T62 l0_1 (ji20)).f0)) ∧ w'.cell? ⟨(ad103.add (((ji20)).toNat * 3)).block, (ad103.add (((ji20)).toNat * 3)).off + 1, none⟩ = some (.int .i64 ((rd_T62 l0_1 (ji20)).f1)) ∧ w'.cell? ⟨(ad103.add (((ji20)).toNat * 3)).block, (ad103.add (((ji20)).toNat * 3)).off + 2, none⟩ = some (.int .i64 ((rd_T62 l0_1 (ji20)).f2))) (ds := []) (lb 38 0) zk rfl rfl ⟨(blk_cell BK104.out 0).trans rfl, (blk_cell BK104.out 1).trans rfl, (blk_cell BK104.out 2).trans rfl, (blk_cell BK101.out 0).trans rfl, (blk_cell BK101.out 1).trans rfl, (pw_cell_below HB.out hw108_0), (pw_cell_below HB.out hw108_1), (pw_cell_below HB.out hw108_2)⟩ (fun hHeld => ?_); refine with_tabW spec_ClockOk.tab5 spec_ClockOk.bits5 (fun HT_ HW_ => ?_)
             generalize w24.drew = w25 at BK101 BK104 HB hx108_0 hx108_1 hx108_2 hHeld ⊢
             refine pz 0 (some 18) (lb 38 1) rfl rfl HT_.out ?_; refine tz 1 (some 19) (lb 38 3) rfl rfl HT_.out HW_.out hHeld ?_; refine one_ (i := 2) (N := some 20) (lb 38 7) rfl rfl (one_of HT_.out zk) (by decide) (fun K hK => ?_); refine goes_ Try.func52 zk rfl #[.int .i64 ((rd_T62 l0_1 x3_1).f0), .int .i64 0, .int .i64 99] (by rfl) rfl rfl zm ?_; (with_reducible refine (spec_l6In.calls ((rd_T62 l0_1 x3_1).f0) 0 99 true _ A10.out).mono ?_); rintro e w' ⟨rfl, ⟨nd, rfl⟩⟩; refine ⟨_, rfl, ?_⟩; refine hK.out _ _ ⟨(blk_cell BK104.out 0).trans rfl, (blk_cell BK104.out 1).trans rfl, (blk_cell BK104.out 2).trans rfl, (blk_cell BK101.out 0).trans rfl, (blk_cell BK101.out 1).trans rfl, (pw_cell_below HB.out hw108_0), (pw_cell_below HB.out hw108_1), (pw_cell_below HB.out hw108_2)⟩ (fun hHeld => ?_); clear hK K; refine norm_ (a' := ?_) ?_ ?_; rotate_left
             ·
              show Act.put _ (some 20) _ = _
              simp only [Act.put, List.setIfInBounds_toArray, List.set_cons_zero, List.set_cons_succ, i64_w, i32_w]
              rfl
             refine pz 3 (some 21) (lb 38 15) rfl rfl HT_.out ?_; refine pz 4 (some 22) (lb 38 31) rfl rfl HT_.out ?_; refine pz 5 (some 23) (lb 38 63) rfl rfl HT_.out ?_; refine tz 6 (some 24) (lb 38 127) rfl rfl HT_.out HW_.out hHeld ?_; refine one_ (i := 7) (N := some 25) (lb 38 255) rfl rfl (one_of HT_.out zk) (by decide) (fun K hK => ?_); refine goes_ Try.func46 zk rfl #[.int .i64 ((rd_T62 l0_1 x3_1).f1)] (by rfl) rfl rfl zm ?_; (with_reducible refine (spec_l19Time.calls ((rd_T62 l0_1 x3_1).f1) true _ A12.out).mono ?_); rintro e w' ⟨rfl, ⟨nd, rfl⟩⟩; refine ⟨_, rfl, ?_⟩; refine hK.out _ _ ⟨(blk_cell BK104.out 0).trans rfl, (blk_cell BK104.out 1).trans rfl, (blk_cell BK104.out 2).trans rfl, (blk_cell BK101.out 0).trans rfl, (blk_cell BK101.out 1).trans rfl, (pw_cell_below HB.out hw108_0), (pw_cell_below HB.out hw108_1), (pw_cell_below HB.out hw108_2)⟩ (fun hHeld => ?_); clear hK K; refine norm_ (a' := ?_) ?_ ?_; rotate_left
             ·
              show Act.put _ (some 25) _ = _
              simp only [Act.put, List.setIfInBounds_toArray, List.set_cons_zero, List.set_cons_succ, i64_w, i32_w]
              rfl
             refine pz 8 (some 26) (lb 38 511) rfl rfl HT_.out ?_; refine pz 9 (some 27) (lb 38 1023) rfl rfl HT_.out ?_; refine pz 10 (some 28) (lb 38 2047) rfl rfl HT_.out ?_; refine pz 11 (some 29) (lb 38 4095) rfl rfl HT_.out ?_; refine pz 13 (some 31) (lb 38 12287) rfl rfl HT_.out ?_; refine tz 12 (some 30) (lb 38 16383) rfl rfl HT_.out HW_.out hHeld ?_; refine tz 14 (some 32) (lb 38 32767) rfl rfl HT_.out HW_.out hHeld ?_; refine pz 15 (some 33) (lb 38 65535) rfl rfl HT_.out ?_; refine pz 16 (some 34) (lb 38 131071) rfl rfl HT_.out ?_; refine pz 17 (some 35) (lb 38 262143) rfl rfl HT_.out ?_; refine pz 18 (some 36) (lb 38 524287) rfl rfl HT_.out ?_; refine tz 19 (some 37) (lb 38 1048575) rfl rfl HT_.out HW_.out hHeld ?_; refine one_ (i := 20) (N := some 38) (lb 38 2097151) rfl rfl (one_of HT_.out zk) (by decide) (fun K hK => ?_); refine goes_ Try.func52 zk rfl #[.int .i64 ((rd_T62 l0_1 x3_1).f2), .int .i64 0, .int .i64 99] (by rfl) rfl rfl zm ?_; (with_reducible refine (spec_l6In.calls ((rd_T62 l0_1 x3_1).f2) 0 99 true _ A17.out).mono ?_); rintro e w' ⟨rfl, ⟨nd, rfl⟩⟩; refine ⟨_, rfl, ?_⟩; refine hK.out _ _ ⟨(blk_cell BK104.out 0).trans rfl, (blk_cell BK104.out 1).trans rfl, (blk_cell BK104.out 2).trans rfl, (blk_cell BK101.out 0).trans rfl, (blk_cell BK101.out 1).trans rfl, (pw_cell_below HB.out hw108_0), (pw_cell_below HB.out hw108_1), (pw_cell_below HB.out hw108_2)⟩ (fun hHeld => ?_); clear hK K; refine norm_ (a' := ?_) ?_ ?_; rotate_left
             ·
              show Act.put _ (some 38) _ = _
              simp only [Act.put, List.setIfInBounds_toArray, List.set_cons_zero, List.set_cons_succ, i64_w, i32_w]
              rfl
             refine pz 21 (some 39) (lb 38 4194303) rfl rfl HT_.out ?_; refine pz 22 (some 40) (lb 38 8388607) rfl rfl HT_.out ?_; refine pz 23 (some 41) (lb 38 16777215) rfl rfl HT_.out ?_; refine pz 24 (some 42) (lb 38 33554431) rfl rfl HT_.out ?_; refine pz 25 (some 43) (lb 38 67108863) rfl rfl HT_.out ?_; refine pz 26 (some 44) (lb 38 134217727) rfl rfl HT_.out ?_; refine pz 27 (some 45) (lb 38 268435455) rfl rfl HT_.out ?_; refine pz 29 (some 47) (lb 38 805306367) rfl rfl HT_.out ?_; refine pz 30 (some 48) (lb 38 1879048191) rfl rfl HT_.out ?_; refine tz 28 (some 46) (lb 38 2147483647) rfl rfl HT_.out HW_.out hHeld ?_; refine pz 31 (some 49) (lb 38 4294967295) rfl rfl HT_.out ?_; refine tz 32 (some 50) (lb 38 8589934591) rfl rfl HT_.out HW_.out hHeld ?_; refine tz 33 (some 51) (lb 38 17179869183) rfl rfl HT_.out HW_.out hHeld ?_; refine one_ (i := 34) (N := some 52) (lb 38 34359738367) rfl rfl (one_of HT_.out zk) (by decide) (fun K hK => ?_); refine goes_ Try.func53 zk rfl #[.agg #[.int .i64 ((rd_T62 l0_1 (ji20)).f0), .int .i64 ((rd_T62 l0_1 (ji20)).f1), .int .i64 ((rd_T62 l0_1 (ji20)).f2)], .agg #[.int .i64 ((rd_T62 l0_1 x3_1).f0), .int .i64 ((rd_T62 l0_1 x3_1).f1), .int .i64 ((rd_T62 l0_1 x3_1).f2)]] (by rfl) rfl rfl (by (try simp only [List.map_toArray, List.map_cons, List.map_nil]); first | done | (simp only [hji20]; rfl) | rfl | (simp only [List.length_drop, List.length_take]; rfl)) ?_; (with_reducible refine (spec_l19Ahead.calls ((rd_T62 l0_1 (ji20)).f0) ((rd_T62 l0_1 (ji20)).f1) ((rd_T62 l0_1 (ji20)).f2) ((rd_T62 l0_1 x3_1).f0) ((rd_T62 l0_1 x3_1).f1) ((rd_T62 l0_1 x3_1).f2) t109 _ A23.out).mono ?_); rintro e w26 ⟨rfl, hb⟩; refine ⟨_, rfl, ?_⟩; replace BK101 := Aside0.mk (blk_below (kz BK101.out) hb); replace BK104 := Aside0.mk (blk_below (kz BK104.out) hb); replace HB := Aside0.mk (below_step (bs2 HB.out GE101.out GE104.out) hb); (try clear hb); refine hK.out _ _ ⟨(blk_cell BK104.out 0).trans rfl, (blk_cell BK104.out 1).trans rfl, (blk_cell BK104.out 2).trans rfl, (blk_cell BK101.out 0).trans rfl, (blk_cell BK101.out 1).trans rfl, (pw_cell_below HB.out hw108_0), (pw_cell_below HB.out hw108_1), (pw_cell_below HB.out hw108_2)⟩ (fun hHeld => ?_); clear hK K; refine norm_ (a' := ?_) ?_ ?_; rotate_left
             ·
              show Act.put _ (some 52) _ = _
              simp only [Act.put, List.setIfInBounds_toArray, List.set_cons_zero, List.set_cons_succ, i64_w, i32_w]
              rfl
             refine pz 35 (some 53) (lb 38 68719476735) rfl rfl HT_.out ?_; refine pz 36 (some 54) (lb 38 137438953471) rfl rfl HT_.out ?_; refine pz 37 (some 55) (lb 38 274877906943) rfl rfl HT_.out ?_; refine done_ (done_of HT_.out zk) ?_
             try go_wp2
             go_meet
             case rel => exact ⟨_, (!t109), zr, H', ⟨by have := HK1.out; first | omega | exact Nat.le_refl _⟩, ⟨kz (BK101.out)⟩, ⟨kz (BK104.out)⟩, ⟨bs2 HB.out GE101.out GE104.out⟩⟩
            ·
             rw [if_neg c22] at H
             exact absurd H (by simp)
           ·
            rw [if_neg c21] at H
            exact absurd H (by simp)
          ·
           rw [if_neg c19] at H; have c19b0 : decide (0 < x3_1) = false := decide_eq_false c19; clear c19; have H' := Aside0.mk H; clear H
           try go_wp2
           have n0_ : Aside0 ((((w7.setCell ⟨gb104, 0, none⟩ (.int .i64 ((rd_T62 l0_1 x3_1).f0))).setCell ⟨gb104, 1, none⟩ (.int .i64 ((rd_T62 l0_1 x3_1).f1))).setCell ⟨gb104, 2, none⟩ (.int .i64 ((rd_T62 l0_1 x3_1).f2))).heap[gb101]? = some (.cells #[.int .i64 a0_0, .slice (some ad103) l0_1.length c0_1] 26 (0, 0))) := ⟨by (with_reducible repeat (first | refine blk_drewN ?_ _ | refine blk_drew ?_ | refine blk_alloc ?_ _)); refine blk_far ?_ NB101_104.out _; (with_reducible repeat (first | refine blk_drewN ?_ _ | refine blk_drew ?_ | refine blk_alloc ?_ _)); refine blk_far ?_ NB101_104.out _; (with_reducible repeat (first | refine blk_drewN ?_ _ | refine blk_drew ?_ | refine blk_alloc ?_ _)); refine blk_far ?_ NB101_104.out _; (with_reducible repeat (first | refine blk_drewN ?_ _ | refine blk_drew ?_ | refine blk_alloc ?_ _)); exact BK101.out⟩; have n1_ : Aside0 ((((w7.setCell ⟨gb104, 0, none⟩ (.int .i64 ((rd_T62 l0_1 x3_1).f0))).setCell ⟨gb104, 1, none⟩ (.int .i64 ((rd_T62 l0_1 x3_1).f1))).setCell ⟨gb104, 2, none⟩ (.int .i64 ((rd_T62 l0_1 x3_1).f2))).heap[gb104]? = some (.cells #[.int .i64 ((rd_T62 l0_1 x3_1).f0), .int .i64 ((rd_T62 l0_1 x3_1).f1), .int .i64 ((rd_T62 l0_1 x3_1).f2)] 62 (0, 0))) := ⟨by (with_reducible repeat (first | refine blk_drewN ?_ _ | refine blk_drew ?_ | refine blk_alloc ?_ _)); refine blk_put (cs := #[.int .i64 ((rd_T62 l0_1 x3_1).f0), .int .i64 ((rd_T62 l0_1 x3_1).f1), .int .i64 0]) ?_ 2 _ rfl; (with_reducible repeat (first | refine blk_drewN ?_ _ | refine blk_drew ?_ | refine blk_alloc ?_ _)); refine blk_put (cs := #[.int .i64 ((rd_T62 l0_1 x3_1).f0), .int .i64 0, .int .i64 0]) ?_ 1 _ rfl; (with_reducible repeat (first | refine blk_drewN ?_ _ | refine blk_drew ?_ | refine blk_alloc ?_ _)); refine blk_put (cs := #[.int .i64 0, .int .i64 0, .int .i64 0]) ?_ 0 _ rfl; (with_reducible repeat (first | refine blk_drewN ?_ _ | refine blk_drew ?_ | refine blk_alloc ?_ _)); exact BK104.out⟩; have n2_ : Aside0 (Below w.heap.size w (((w7.setCell ⟨gb104, 0, none⟩ (.int .i64 ((rd_T62 l0_1 x3_1).f0))).setCell ⟨gb104, 1, none⟩ (.int .i64 ((rd_T62 l0_1 x3_1).f1))).setCell ⟨gb104, 2, none⟩ (.int .i64 ((rd_T62 l0_1 x3_1).f2)))) := ⟨bs2 HB.out GE101.out GE104.out⟩; (try clear BK101); (try clear BK104); (try clear HB)
           generalize (((w7.setCell ⟨gb104, 0, none⟩ (.int .i64 ((rd_T62 l0_1 x3_1).f0))).setCell ⟨gb104, 1, none⟩ (.int .i64 ((rd_T62 l0_1 x3_1).f1))).setCell ⟨gb104, 2, none⟩ (.int .i64 ((rd_T62 l0_1 x3_1).f2))) = w27 at n0_ n1_ n2_ ⊢
           have BK101 := n0_; have BK104 := n1_; have HB := n2_; clear n0_ n1_ n2_; replace BK101 := Aside0.mk (blk_drew BK101.out); replace BK104 := Aside0.mk (blk_drew BK104.out); replace HB := Aside0.mk (below_drew1 HB.out); refine start_ (n := 38) (S := fun w' => w'.cell? ⟨gb104, 0, none⟩ = some (.int .i64 ((rd_T62 l0_1 x3_1).f0)) ∧ w'.cell? ⟨gb104, 1, none⟩ = some (.int .i64 ((rd_T62 l0_1 x3_1).f1)) ∧ w'.cell? ⟨gb104, 2, none⟩ = some (.int .i64 ((rd_T62 l0_1 x3_1).f2)) ∧ w'.cell? ⟨gb101, 0, none⟩ = some (.int .i64 a0_0) ∧ w'.cell? ⟨gb101, 1, none⟩ = some (.slice (some ad103) l0_1.length c0_1)) (ds := []) (lb 38 0) zk rfl rfl ⟨(blk_cell BK104.out 0).trans rfl, (blk_cell BK104.out 1).trans rfl, (blk_cell BK104.out 2).trans rfl, (blk_cell BK101.out 0).trans rfl, (blk_cell BK101.out 1).trans rfl⟩ (fun hHeld => ?_); refine with_tabW spec_ClockOk.tab5 spec_ClockOk.bits5 (fun HT_ HW_ => ?_)
           generalize w27.drew = w28 at BK101 BK104 HB hHeld ⊢
           refine pz 0 (some 18) (lb 38 1) rfl rfl HT_.out ?_; refine tz 1 (some 19) (lb 38 3) rfl rfl HT_.out HW_.out hHeld ?_; refine one_ (i := 2) (N := some 20) (lb 38 7) rfl rfl (one_of HT_.out zk) (by decide) (fun K hK => ?_); refine goes_ Try.func52 zk rfl #[.int .i64 ((rd_T62 l0_1 x3_1).f0), .int .i64 0, .int .i64 99] (by rfl) rfl rfl zm ?_; (with_reducible refine (spec_l6In.calls ((rd_T62 l0_1 x3_1).f0) 0 99 true _ A10.out).mono ?_); rintro e w' ⟨rfl, ⟨nd, rfl⟩⟩; refine ⟨_, rfl, ?_⟩; refine hK.out _ _ ⟨(blk_cell BK104.out 0).trans rfl, (blk_cell BK104.out 1).trans rfl, (blk_cell BK104.out 2).trans rfl, (blk_cell BK101.out 0).trans rfl, (blk_cell BK101.out 1).trans rfl⟩ (fun hHeld => ?_); clear hK K; refine norm_ (a' := ?_) ?_ ?_; rotate_left
           ·
            show Act.put _ (some 20) _ = _
            simp only [Act.put, List.setIfInBounds_toArray, List.set_cons_zero, List.set_cons_succ, i64_w, i32_w]
            rfl
           refine pz 3 (some 21) (lb 38 15) rfl rfl HT_.out ?_; refine pz 4 (some 22) (lb 38 31) rfl rfl HT_.out ?_; refine pz 5 (some 23) (lb 38 63) rfl rfl HT_.out ?_; refine tz 6 (some 24) (lb 38 127) rfl rfl HT_.out HW_.out hHeld ?_; refine one_ (i := 7) (N := some 25) (lb 38 255) rfl rfl (one_of HT_.out zk) (by decide) (fun K hK => ?_); refine goes_ Try.func46 zk rfl #[.int .i64 ((rd_T62 l0_1 x3_1).f1)] (by rfl) rfl rfl zm ?_; (with_reducible refine (spec_l19Time.calls ((rd_T62 l0_1 x3_1).f1) true _ A12.out).mono ?_); rintro e w' ⟨rfl, ⟨nd, rfl⟩⟩; refine ⟨_, rfl, ?_⟩; refine hK.out _ _ ⟨(blk_cell BK104.out 0).trans rfl, (blk_cell BK104.out 1).trans rfl, (blk_cell BK104.out 2).trans rfl, (blk_cell BK101.out 0).trans rfl, (blk_cell BK101.out 1).trans rfl⟩ (fun hHeld => ?_); clear hK K; refine norm_ (a' := ?_) ?_ ?_; rotate_left
           ·
            show Act.put _ (some 25) _ = _
            simp only [Act.put, List.setIfInBounds_toArray, List.set_cons_zero, List.set_cons_succ, i64_w, i32_w]
            rfl
           refine pz 8 (some 26) (lb 38 511) rfl rfl HT_.out ?_; refine pz 9 (some 27) (lb 38 1023) rfl rfl HT_.out ?_; refine pz 10 (some 28) (lb 38 2047) rfl rfl HT_.out ?_; refine pz 11 (some 29) (lb 38 4095) rfl rfl HT_.out ?_; refine pz 13 (some 31) (lb 38 12287) rfl rfl HT_.out ?_; refine tz 12 (some 30) (lb 38 16383) rfl rfl HT_.out HW_.out hHeld ?_; refine tz 14 (some 32) (lb 38 32767) rfl rfl HT_.out HW_.out hHeld ?_; refine pz 15 (some 33) (lb 38 65535) rfl rfl HT_.out ?_; refine pz 16 (some 34) (lb 38 131071) rfl rfl HT_.out ?_; refine pz 17 (some 35) (lb 38 262143) rfl rfl HT_.out ?_; refine pz 18 (some 36) (lb 38 524287) rfl rfl HT_.out ?_; refine tz 19 (some 37) (lb 38 1048575) rfl rfl HT_.out HW_.out hHeld ?_; refine one_ (i := 20) (N := some 38) (lb 38 2097151) rfl rfl (one_of HT_.out zk) (by decide) (fun K hK => ?_); refine goes_ Try.func52 zk rfl #[.int .i64 ((rd_T62 l0_1 x3_1).f2), .int .i64 0, .int .i64 99] (by rfl) rfl rfl zm ?_; (with_reducible refine (spec_l6In.calls ((rd_T62 l0_1 x3_1).f2) 0 99 true _ A17.out).mono ?_); rintro e w' ⟨rfl, ⟨nd, rfl⟩⟩; refine ⟨_, rfl, ?_⟩; refine hK.out _ _ ⟨(blk_cell BK104.out 0).trans rfl, (blk_cell BK104.out 1).trans rfl, (blk_cell BK104.out 2).trans rfl, (blk_cell BK101.out 0).trans rfl, (blk_cell BK101.out 1).trans rfl⟩ (fun hHeld => ?_); clear hK K; refine norm_ (a' := ?_) ?_ ?_; rotate_left
           ·
            show Act.put _ (some 38) _ = _
            simp only [Act.put, List.setIfInBounds_toArray, List.set_cons_zero, List.set_cons_succ, i64_w, i32_w]
            rfl
           refine pz 21 (some 39) (lb 38 4194303) rfl rfl HT_.out ?_; refine pz 22 (some 40) (lb 38 8388607) rfl rfl HT_.out ?_; refine pz 23 (some 41) (lb 38 16777215) rfl rfl HT_.out ?_; refine pz 24 (some 42) (lb 38 33554431) rfl rfl HT_.out ?_; refine pz 25 (some 43) (lb 38 67108863) rfl rfl HT_.out ?_; refine pz 26 (some 44) (lb 38 134217727) rfl rfl HT_.out ?_; refine nz 27 (some 45) (lb 38 268435455) rfl rfl HT_.out ?_; refine nz 28 (some 46) (lb 38 536870911) rfl rfl HT_.out ?_; refine nz 29 (some 47) (lb 38 1073741823) rfl rfl HT_.out ?_; refine nz 30 (some 48) (lb 38 2147483647) rfl rfl HT_.out ?_; refine nz 31 (some 49) (lb 38 4294967295) rfl rfl HT_.out ?_; refine nz 32 (some 50) (lb 38 8589934591) rfl rfl HT_.out ?_; refine nz 33 (some 51) (lb 38 17179869183) rfl rfl HT_.out ?_; refine nz 34 (some 52) (lb 38 34359738367) rfl rfl HT_.out ?_; refine nz 35 (some 53) (lb 38 68719476735) rfl rfl HT_.out ?_; refine pz 36 (some 54) (lb 38 137438953471) rfl rfl HT_.out ?_; refine pz 37 (some 55) (lb 38 274877906943) rfl rfl HT_.out ?_; refine done_ (done_of HT_.out zk) ?_
           try go_wp2
           go_meet
           case rel => exact ⟨_, (false), zr, H', ⟨by have := HK1.out; first | omega | exact Nat.le_refl _⟩, ⟨kz (BK101.out)⟩, ⟨kz (BK104.out)⟩, ⟨bs2 HB.out GE101.out GE104.out⟩⟩
         ·
          replace c18 := Bool.eq_false_iff.mpr c18; subst c18; rw [if_neg nf_] at H; have H' := Aside0.mk H; clear H
          try go_wp2
          have n0_ : Aside0 ((((w7.setCell ⟨gb104, 0, none⟩ (.int .i64 ((rd_T62 l0_1 x3_1).f0))).setCell ⟨gb104, 1, none⟩ (.int .i64 ((rd_T62 l0_1 x3_1).f1))).setCell ⟨gb104, 2, none⟩ (.int .i64 ((rd_T62 l0_1 x3_1).f2))).heap[gb101]? = some (.cells #[.int .i64 a0_0, .slice (some ad103) l0_1.length c0_1] 26 (0, 0))) := ⟨by (with_reducible repeat (first | refine blk_drewN ?_ _ | refine blk_drew ?_ | refine blk_alloc ?_ _)); refine blk_far ?_ NB101_104.out _; (with_reducible repeat (first | refine blk_drewN ?_ _ | refine blk_drew ?_ | refine blk_alloc ?_ _)); refine blk_far ?_ NB101_104.out _; (with_reducible repeat (first | refine blk_drewN ?_ _ | refine blk_drew ?_ | refine blk_alloc ?_ _)); refine blk_far ?_ NB101_104.out _; (with_reducible repeat (first | refine blk_drewN ?_ _ | refine blk_drew ?_ | refine blk_alloc ?_ _)); exact BK101.out⟩; have n1_ : Aside0 ((((w7.setCell ⟨gb104, 0, none⟩ (.int .i64 ((rd_T62 l0_1 x3_1).f0))).setCell ⟨gb104, 1, none⟩ (.int .i64 ((rd_T62 l0_1 x3_1).f1))).setCell ⟨gb104, 2, none⟩ (.int .i64 ((rd_T62 l0_1 x3_1).f2))).heap[gb104]? = some (.cells #[.int .i64 ((rd_T62 l0_1 x3_1).f0), .int .i64 ((rd_T62 l0_1 x3_1).f1), .int .i64 ((rd_T62 l0_1 x3_1).f2)] 62 (0, 0))) := ⟨by (with_reducible repeat (first | refine blk_drewN ?_ _ | refine blk_drew ?_ | refine blk_alloc ?_ _)); refine blk_put (cs := #[.int .i64 ((rd_T62 l0_1 x3_1).f0), .int .i64 ((rd_T62 l0_1 x3_1).f1), .int .i64 0]) ?_ 2 _ rfl; (with_reducible repeat (first | refine blk_drewN ?_ _ | refine blk_drew ?_ | refine blk_alloc ?_ _)); refine blk_put (cs := #[.int .i64 ((rd_T62 l0_1 x3_1).f0), .int .i64 0, .int .i64 0]) ?_ 1 _ rfl; (with_reducible repeat (first | refine blk_drewN ?_ _ | refine blk_drew ?_ | refine blk_alloc ?_ _)); refine blk_put (cs := #[.int .i64 0, .int .i64 0, .int .i64 0]) ?_ 0 _ rfl; (with_reducible repeat (first | refine blk_drewN ?_ _ | refine blk_drew ?_ | refine blk_alloc ?_ _)); exact BK104.out⟩; have n2_ : Aside0 (Below w.heap.size w (((w7.setCell ⟨gb104, 0, none⟩ (.int .i64 ((rd_T62 l0_1 x3_1).f0))).setCell ⟨gb104, 1, none⟩ (.int .i64 ((rd_T62 l0_1 x3_1).f1))).setCell ⟨gb104, 2, none⟩ (.int .i64 ((rd_T62 l0_1 x3_1).f2)))) := ⟨bs2 HB.out GE101.out GE104.out⟩; (try clear BK101); (try clear BK104); (try clear HB)
          generalize (((w7.setCell ⟨gb104, 0, none⟩ (.int .i64 ((rd_T62 l0_1 x3_1).f0))).setCell ⟨gb104, 1, none⟩ (.int .i64 ((rd_T62 l0_1 x3_1).f1))).setCell ⟨gb104, 2, none⟩ (.int .i64 ((rd_T62 l0_1 x3_1).f2))) = w29 at n0_ n1_ n2_ ⊢
          have BK101 := n0_; have BK104 := n1_; have HB := n2_; clear n0_ n1_ n2_; replace BK101 := Aside0.mk (blk_drew BK101.out); replace BK104 := Aside0.mk (blk_drew BK104.out); replace HB := Aside0.mk (below_drew1 HB.out); refine start_ (n := 38) (S := fun w' => w'.cell? ⟨gb104, 0, none⟩ = some (.int .i64 ((rd_T62 l0_1 x3_1).f0)) ∧ w'.cell? ⟨gb104, 1, none⟩ = some (.int .i64 ((rd_T62 l0_1 x3_1).f1)) ∧ w'.cell? ⟨gb104, 2, none⟩ = some (.int .i64 ((rd_T62 l0_1 x3_1).f2)) ∧ w'.cell? ⟨gb101, 0, none⟩ = some (.int .i64 a0_0) ∧ w'.cell? ⟨gb101, 1, none⟩ = some (.slice (some ad103) l0_1.length c0_1)) (ds := []) (lb 38 0) zk rfl rfl ⟨(blk_cell BK104.out 0).trans rfl, (blk_cell BK104.out 1).trans rfl, (blk_cell BK104.out 2).trans rfl, (blk_cell BK101.out 0).trans rfl, (blk_cell BK101.out 1).trans rfl⟩ (fun hHeld => ?_); refine with_tabW spec_ClockOk.tab5 spec_ClockOk.bits5 (fun HT_ HW_ => ?_)
          generalize w29.drew = w30 at BK101 BK104 HB hHeld ⊢
          refine pz 0 (some 18) (lb 38 1) rfl rfl HT_.out ?_; refine tz 1 (some 19) (lb 38 3) rfl rfl HT_.out HW_.out hHeld ?_; refine one_ (i := 2) (N := some 20) (lb 38 7) rfl rfl (one_of HT_.out zk) (by decide) (fun K hK => ?_); refine goes_ Try.func52 zk rfl #[.int .i64 ((rd_T62 l0_1 x3_1).f0), .int .i64 0, .int .i64 99] (by rfl) rfl rfl zm ?_; (with_reducible refine (spec_l6In.calls ((rd_T62 l0_1 x3_1).f0) 0 99 true _ A10.out).mono ?_); rintro e w' ⟨rfl, ⟨nd, rfl⟩⟩; refine ⟨_, rfl, ?_⟩; refine hK.out _ _ ⟨(blk_cell BK104.out 0).trans rfl, (blk_cell BK104.out 1).trans rfl, (blk_cell BK104.out 2).trans rfl, (blk_cell BK101.out 0).trans rfl, (blk_cell BK101.out 1).trans rfl⟩ (fun hHeld => ?_); clear hK K; refine norm_ (a' := ?_) ?_ ?_; rotate_left
          ·
           show Act.put _ (some 20) _ = _
           simp only [Act.put, List.setIfInBounds_toArray, List.set_cons_zero, List.set_cons_succ, i64_w, i32_w]
           rfl
          refine pz 3 (some 21) (lb 38 15) rfl rfl HT_.out ?_; refine pz 4 (some 22) (lb 38 31) rfl rfl HT_.out ?_; refine pz 5 (some 23) (lb 38 63) rfl rfl HT_.out ?_; refine tz 6 (some 24) (lb 38 127) rfl rfl HT_.out HW_.out hHeld ?_; refine one_ (i := 7) (N := some 25) (lb 38 255) rfl rfl (one_of HT_.out zk) (by decide) (fun K hK => ?_); refine goes_ Try.func46 zk rfl #[.int .i64 ((rd_T62 l0_1 x3_1).f1)] (by rfl) rfl rfl zm ?_; (with_reducible refine (spec_l19Time.calls ((rd_T62 l0_1 x3_1).f1) true _ A12.out).mono ?_); rintro e w' ⟨rfl, ⟨nd, rfl⟩⟩; refine ⟨_, rfl, ?_⟩; refine hK.out _ _ ⟨(blk_cell BK104.out 0).trans rfl, (blk_cell BK104.out 1).trans rfl, (blk_cell BK104.out 2).trans rfl, (blk_cell BK101.out 0).trans rfl, (blk_cell BK101.out 1).trans rfl⟩ (fun hHeld => ?_); clear hK K; refine norm_ (a' := ?_) ?_ ?_; rotate_left
          ·
           show Act.put _ (some 25) _ = _
           simp only [Act.put, List.setIfInBounds_toArray, List.set_cons_zero, List.set_cons_succ, i64_w, i32_w]
           rfl
          refine pz 8 (some 26) (lb 38 511) rfl rfl HT_.out ?_; refine pz 9 (some 27) (lb 38 1023) rfl rfl HT_.out ?_; refine pz 10 (some 28) (lb 38 2047) rfl rfl HT_.out ?_; refine pz 11 (some 29) (lb 38 4095) rfl rfl HT_.out ?_; refine pz 13 (some 31) (lb 38 12287) rfl rfl HT_.out ?_; refine tz 12 (some 30) (lb 38 16383) rfl rfl HT_.out HW_.out hHeld ?_; refine tz 14 (some 32) (lb 38 32767) rfl rfl HT_.out HW_.out hHeld ?_; refine pz 15 (some 33) (lb 38 65535) rfl rfl HT_.out ?_; refine pz 16 (some 34) (lb 38 131071) rfl rfl HT_.out ?_; refine pz 17 (some 35) (lb 38 262143) rfl rfl HT_.out ?_; refine pz 18 (some 36) (lb 38 524287) rfl rfl HT_.out ?_; refine tz 19 (some 37) (lb 38 1048575) rfl rfl HT_.out HW_.out hHeld ?_; refine one_ (i := 20) (N := some 38) (lb 38 2097151) rfl rfl (one_of HT_.out zk) (by decide) (fun K hK => ?_); refine goes_ Try.func52 zk rfl #[.int .i64 ((rd_T62 l0_1 x3_1).f2), .int .i64 0, .int .i64 99] (by rfl) rfl rfl zm ?_; (with_reducible refine (spec_l6In.calls ((rd_T62 l0_1 x3_1).f2) 0 99 false _ A17.out).mono ?_); rintro e w' ⟨rfl, ⟨nd, rfl⟩⟩; refine ⟨_, rfl, ?_⟩; refine hK.out _ _ ⟨(blk_cell BK104.out 0).trans rfl, (blk_cell BK104.out 1).trans rfl, (blk_cell BK104.out 2).trans rfl, (blk_cell BK101.out 0).trans rfl, (blk_cell BK101.out 1).trans rfl⟩ (fun hHeld => ?_); clear hK K; refine norm_ (a' := ?_) ?_ ?_; rotate_left
          ·
           show Act.put _ (some 38) _ = _
           simp only [Act.put, List.setIfInBounds_toArray, List.set_cons_zero, List.set_cons_succ, i64_w, i32_w]
           rfl
          refine pz 21 (some 39) (lb 38 4194303) rfl rfl HT_.out ?_; refine pz 22 (some 40) (lb 38 8388607) rfl rfl HT_.out ?_; refine pz 23 (some 41) (lb 38 16777215) rfl rfl HT_.out ?_; refine nz 24 (some 42) (lb 38 33554431) rfl rfl HT_.out ?_; refine nz 25 (some 43) (lb 38 67108863) rfl rfl HT_.out ?_; refine nz 26 (some 44) (lb 38 134217727) rfl rfl HT_.out ?_; refine nz 27 (some 45) (lb 38 268435455) rfl rfl HT_.out ?_; refine nz 28 (some 46) (lb 38 536870911) rfl rfl HT_.out ?_; refine nz 29 (some 47) (lb 38 1073741823) rfl rfl HT_.out ?_; refine nz 30 (some 48) (lb 38 2147483647) rfl rfl HT_.out ?_; refine nz 31 (some 49) (lb 38 4294967295) rfl rfl HT_.out ?_; refine nz 32 (some 50) (lb 38 8589934591) rfl rfl HT_.out ?_; refine nz 33 (some 51) (lb 38 17179869183) rfl rfl HT_.out ?_; refine nz 34 (some 52) (lb 38 34359738367) rfl rfl HT_.out ?_; refine nz 35 (some 53) (lb 38 68719476735) rfl rfl HT_.out ?_; refine nz 36 (some 54) (lb 38 137438953471) rfl rfl HT_.out ?_; refine pz 37 (some 55) (lb 38 274877906943) rfl rfl HT_.out ?_; refine done_ (done_of HT_.out zk) ?_
          try go_wp2
          go_meet
          case rel => exact ⟨_, (true), zr, H', ⟨by have := HK1.out; first | omega | exact Nat.le_refl _⟩, ⟨kz (BK101.out)⟩, ⟨kz (BK104.out)⟩, ⟨bs2 HB.out GE101.out GE104.out⟩⟩
       ·
        replace c13 := Bool.eq_false_iff.mpr c13; subst c13; rw [if_neg nf_] at H; have H' := Aside0.mk H; clear H
        try go_wp2
        have n0_ : Aside0 ((((w7.setCell ⟨gb104, 0, none⟩ (.int .i64 ((rd_T62 l0_1 x3_1).f0))).setCell ⟨gb104, 1, none⟩ (.int .i64 ((rd_T62 l0_1 x3_1).f1))).setCell ⟨gb104, 2, none⟩ (.int .i64 ((rd_T62 l0_1 x3_1).f2))).heap[gb101]? = some (.cells #[.int .i64 a0_0, .slice (some ad103) l0_1.length c0_1] 26 (0, 0))) := ⟨by (with_reducible repeat (first | refine blk_drewN ?_ _ | refine blk_drew ?_ | refine blk_alloc ?_ _)); refine blk_far ?_ NB101_104.out _; (with_reducible repeat (first | refine blk_drewN ?_ _ | refine blk_drew ?_ | refine blk_alloc ?_ _)); refine blk_far ?_ NB101_104.out _; (with_reducible repeat (first | refine blk_drewN ?_ _ | refine blk_drew ?_ | refine blk_alloc ?_ _)); refine blk_far ?_ NB101_104.out _; (with_reducible repeat (first | refine blk_drewN ?_ _ | refine blk_drew ?_ | refine blk_alloc ?_ _)); exact BK101.out⟩; have n1_ : Aside0 ((((w7.setCell ⟨gb104, 0, none⟩ (.int .i64 ((rd_T62 l0_1 x3_1).f0))).setCell ⟨gb104, 1, none⟩ (.int .i64 ((rd_T62 l0_1 x3_1).f1))).setCell ⟨gb104, 2, none⟩ (.int .i64 ((rd_T62 l0_1 x3_1).f2))).heap[gb104]? = some (.cells #[.int .i64 ((rd_T62 l0_1 x3_1).f0), .int .i64 ((rd_T62 l0_1 x3_1).f1), .int .i64 ((rd_T62 l0_1 x3_1).f2)] 62 (0, 0))) := ⟨by (with_reducible repeat (first | refine blk_drewN ?_ _ | refine blk_drew ?_ | refine blk_alloc ?_ _)); refine blk_put (cs := #[.int .i64 ((rd_T62 l0_1 x3_1).f0), .int .i64 ((rd_T62 l0_1 x3_1).f1), .int .i64 0]) ?_ 2 _ rfl; (with_reducible repeat (first | refine blk_drewN ?_ _ | refine blk_drew ?_ | refine blk_alloc ?_ _)); refine blk_put (cs := #[.int .i64 ((rd_T62 l0_1 x3_1).f0), .int .i64 0, .int .i64 0]) ?_ 1 _ rfl; (with_reducible repeat (first | refine blk_drewN ?_ _ | refine blk_drew ?_ | refine blk_alloc ?_ _)); refine blk_put (cs := #[.int .i64 0, .int .i64 0, .int .i64 0]) ?_ 0 _ rfl; (with_reducible repeat (first | refine blk_drewN ?_ _ | refine blk_drew ?_ | refine blk_alloc ?_ _)); exact BK104.out⟩; have n2_ : Aside0 (Below w.heap.size w (((w7.setCell ⟨gb104, 0, none⟩ (.int .i64 ((rd_T62 l0_1 x3_1).f0))).setCell ⟨gb104, 1, none⟩ (.int .i64 ((rd_T62 l0_1 x3_1).f1))).setCell ⟨gb104, 2, none⟩ (.int .i64 ((rd_T62 l0_1 x3_1).f2)))) := ⟨bs2 HB.out GE101.out GE104.out⟩; (try clear BK101); (try clear BK104); (try clear HB)
        generalize (((w7.setCell ⟨gb104, 0, none⟩ (.int .i64 ((rd_T62 l0_1 x3_1).f0))).setCell ⟨gb104, 1, none⟩ (.int .i64 ((rd_T62 l0_1 x3_1).f1))).setCell ⟨gb104, 2, none⟩ (.int .i64 ((rd_T62 l0_1 x3_1).f2))) = w31 at n0_ n1_ n2_ ⊢
        have BK101 := n0_; have BK104 := n1_; have HB := n2_; clear n0_ n1_ n2_; replace BK101 := Aside0.mk (blk_drew BK101.out); replace BK104 := Aside0.mk (blk_drew BK104.out); replace HB := Aside0.mk (below_drew1 HB.out); refine start_ (n := 38) (S := fun w' => w'.cell? ⟨gb104, 0, none⟩ = some (.int .i64 ((rd_T62 l0_1 x3_1).f0)) ∧ w'.cell? ⟨gb104, 1, none⟩ = some (.int .i64 ((rd_T62 l0_1 x3_1).f1)) ∧ w'.cell? ⟨gb104, 2, none⟩ = some (.int .i64 ((rd_T62 l0_1 x3_1).f2))) (ds := []) (lb 38 0) zk rfl rfl ⟨(blk_cell BK104.out 0).trans rfl, (blk_cell BK104.out 1).trans rfl, (blk_cell BK104.out 2).trans rfl⟩ (fun hHeld => ?_); refine with_tabW spec_ClockOk.tab5 spec_ClockOk.bits5 (fun HT_ HW_ => ?_)
        generalize w31.drew = w32 at BK101 BK104 HB hHeld ⊢
        refine pz 0 (some 18) (lb 38 1) rfl rfl HT_.out ?_; refine tz 1 (some 19) (lb 38 3) rfl rfl HT_.out HW_.out hHeld ?_; refine one_ (i := 2) (N := some 20) (lb 38 7) rfl rfl (one_of HT_.out zk) (by decide) (fun K hK => ?_); refine goes_ Try.func52 zk rfl #[.int .i64 ((rd_T62 l0_1 x3_1).f0), .int .i64 0, .int .i64 99] (by rfl) rfl rfl zm ?_; (with_reducible refine (spec_l6In.calls ((rd_T62 l0_1 x3_1).f0) 0 99 true _ A10.out).mono ?_); rintro e w' ⟨rfl, ⟨nd, rfl⟩⟩; refine ⟨_, rfl, ?_⟩; refine hK.out _ _ ⟨(blk_cell BK104.out 0).trans rfl, (blk_cell BK104.out 1).trans rfl, (blk_cell BK104.out 2).trans rfl⟩ (fun hHeld => ?_); clear hK K; refine norm_ (a' := ?_) ?_ ?_; rotate_left
        ·
         show Act.put _ (some 20) _ = _
         simp only [Act.put, List.setIfInBounds_toArray, List.set_cons_zero, List.set_cons_succ, i64_w, i32_w]
         rfl
        refine pz 3 (some 21) (lb 38 15) rfl rfl HT_.out ?_; refine pz 4 (some 22) (lb 38 31) rfl rfl HT_.out ?_; refine pz 5 (some 23) (lb 38 63) rfl rfl HT_.out ?_; refine tz 6 (some 24) (lb 38 127) rfl rfl HT_.out HW_.out hHeld ?_; refine one_ (i := 7) (N := some 25) (lb 38 255) rfl rfl (one_of HT_.out zk) (by decide) (fun K hK => ?_); refine goes_ Try.func46 zk rfl #[.int .i64 ((rd_T62 l0_1 x3_1).f1)] (by rfl) rfl rfl zm ?_; (with_reducible refine (spec_l19Time.calls ((rd_T62 l0_1 x3_1).f1) false _ A12.out).mono ?_); rintro e w' ⟨rfl, ⟨nd, rfl⟩⟩; refine ⟨_, rfl, ?_⟩; refine hK.out _ _ ⟨(blk_cell BK104.out 0).trans rfl, (blk_cell BK104.out 1).trans rfl, (blk_cell BK104.out 2).trans rfl⟩ (fun hHeld => ?_); clear hK K; refine norm_ (a' := ?_) ?_ ?_; rotate_left
        ·
         show Act.put _ (some 25) _ = _
         simp only [Act.put, List.setIfInBounds_toArray, List.set_cons_zero, List.set_cons_succ, i64_w, i32_w]
         rfl
        refine pz 8 (some 26) (lb 38 511) rfl rfl HT_.out ?_; refine pz 9 (some 27) (lb 38 1023) rfl rfl HT_.out ?_; refine pz 10 (some 28) (lb 38 2047) rfl rfl HT_.out ?_; refine nz 11 (some 29) (lb 38 4095) rfl rfl HT_.out ?_; refine nz 12 (some 30) (lb 38 8191) rfl rfl HT_.out ?_; refine nz 13 (some 31) (lb 38 16383) rfl rfl HT_.out ?_; refine nz 14 (some 32) (lb 38 32767) rfl rfl HT_.out ?_; refine nz 15 (some 33) (lb 38 65535) rfl rfl HT_.out ?_; refine pz 16 (some 34) (lb 38 131071) rfl rfl HT_.out ?_; refine pz 17 (some 35) (lb 38 262143) rfl rfl HT_.out ?_; refine nz 18 (some 36) (lb 38 524287) rfl rfl HT_.out ?_; refine nz 19 (some 37) (lb 38 1048575) rfl rfl HT_.out ?_; refine nz 20 (some 38) (lb 38 2097151) rfl rfl HT_.out ?_; refine nz 21 (some 39) (lb 38 4194303) rfl rfl HT_.out ?_; refine pz 22 (some 40) (lb 38 8388607) rfl rfl HT_.out ?_; refine pz 23 (some 41) (lb 38 16777215) rfl rfl HT_.out ?_; refine nz 24 (some 42) (lb 38 33554431) rfl rfl HT_.out ?_; refine nz 25 (some 43) (lb 38 67108863) rfl rfl HT_.out ?_; refine nz 26 (some 44) (lb 38 134217727) rfl rfl HT_.out ?_; refine nz 27 (some 45) (lb 38 268435455) rfl rfl HT_.out ?_; refine nz 28 (some 46) (lb 38 536870911) rfl rfl HT_.out ?_; refine nz 29 (some 47) (lb 38 1073741823) rfl rfl HT_.out ?_; refine nz 30 (some 48) (lb 38 2147483647) rfl rfl HT_.out ?_; refine nz 31 (some 49) (lb 38 4294967295) rfl rfl HT_.out ?_; refine nz 32 (some 50) (lb 38 8589934591) rfl rfl HT_.out ?_; refine nz 33 (some 51) (lb 38 17179869183) rfl rfl HT_.out ?_; refine nz 34 (some 52) (lb 38 34359738367) rfl rfl HT_.out ?_; refine nz 35 (some 53) (lb 38 68719476735) rfl rfl HT_.out ?_; refine nz 36 (some 54) (lb 38 137438953471) rfl rfl HT_.out ?_; refine pz 37 (some 55) (lb 38 274877906943) rfl rfl HT_.out ?_; refine done_ (done_of HT_.out zk) ?_
        try go_wp2
        go_meet
        case rel => exact ⟨_, (true), zr, H', ⟨by have := HK1.out; first | omega | exact Nat.le_refl _⟩, ⟨kz (BK101.out)⟩, ⟨kz (BK104.out)⟩, ⟨bs2 HB.out GE101.out GE104.out⟩⟩
      ·
       replace c11 := Bool.eq_false_iff.mpr c11; subst c11; rw [if_neg nf_] at H; have H' := Aside0.mk H; clear H
       try go_wp2
       have n0_ : Aside0 ((((w7.setCell ⟨gb104, 0, none⟩ (.int .i64 ((rd_T62 l0_1 x3_1).f0))).setCell ⟨gb104, 1, none⟩ (.int .i64 ((rd_T62 l0_1 x3_1).f1))).setCell ⟨gb104, 2, none⟩ (.int .i64 ((rd_T62 l0_1 x3_1).f2))).heap[gb101]? = some (.cells #[.int .i64 a0_0, .slice (some ad103) l0_1.length c0_1] 26 (0, 0))) := ⟨by (with_reducible repeat (first | refine blk_drewN ?_ _ | refine blk_drew ?_ | refine blk_alloc ?_ _)); refine blk_far ?_ NB101_104.out _; (with_reducible repeat (first | refine blk_drewN ?_ _ | refine blk_drew ?_ | refine blk_alloc ?_ _)); refine blk_far ?_ NB101_104.out _; (with_reducible repeat (first | refine blk_drewN ?_ _ | refine blk_drew ?_ | refine blk_alloc ?_ _)); refine blk_far ?_ NB101_104.out _; (with_reducible repeat (first | refine blk_drewN ?_ _ | refine blk_drew ?_ | refine blk_alloc ?_ _)); exact BK101.out⟩; have n1_ : Aside0 ((((w7.setCell ⟨gb104, 0, none⟩ (.int .i64 ((rd_T62 l0_1 x3_1).f0))).setCell ⟨gb104, 1, none⟩ (.int .i64 ((rd_T62 l0_1 x3_1).f1))).setCell ⟨gb104, 2, none⟩ (.int .i64 ((rd_T62 l0_1 x3_1).f2))).heap[gb104]? = some (.cells #[.int .i64 ((rd_T62 l0_1 x3_1).f0), .int .i64 ((rd_T62 l0_1 x3_1).f1), .int .i64 ((rd_T62 l0_1 x3_1).f2)] 62 (0, 0))) := ⟨by (with_reducible repeat (first | refine blk_drewN ?_ _ | refine blk_drew ?_ | refine blk_alloc ?_ _)); refine blk_put (cs := #[.int .i64 ((rd_T62 l0_1 x3_1).f0), .int .i64 ((rd_T62 l0_1 x3_1).f1), .int .i64 0]) ?_ 2 _ rfl; (with_reducible repeat (first | refine blk_drewN ?_ _ | refine blk_drew ?_ | refine blk_alloc ?_ _)); refine blk_put (cs := #[.int .i64 ((rd_T62 l0_1 x3_1).f0), .int .i64 0, .int .i64 0]) ?_ 1 _ rfl; (with_reducible repeat (first | refine blk_drewN ?_ _ | refine blk_drew ?_ | refine blk_alloc ?_ _)); refine blk_put (cs := #[.int .i64 0, .int .i64 0, .int .i64 0]) ?_ 0 _ rfl; (with_reducible repeat (first | refine blk_drewN ?_ _ | refine blk_drew ?_ | refine blk_alloc ?_ _)); exact BK104.out⟩; have n2_ : Aside0 (Below w.heap.size w (((w7.setCell ⟨gb104, 0, none⟩ (.int .i64 ((rd_T62 l0_1 x3_1).f0))).setCell ⟨gb104, 1, none⟩ (.int .i64 ((rd_T62 l0_1 x3_1).f1))).setCell ⟨gb104, 2, none⟩ (.int .i64 ((rd_T62 l0_1 x3_1).f2)))) := ⟨bs2 HB.out GE101.out GE104.out⟩; (try clear BK101); (try clear BK104); (try clear HB)
       generalize (((w7.setCell ⟨gb104, 0, none⟩ (.int .i64 ((rd_T62 l0_1 x3_1).f0))).setCell ⟨gb104, 1, none⟩ (.int .i64 ((rd_T62 l0_1 x3_1).f1))).setCell ⟨gb104, 2, none⟩ (.int .i64 ((rd_T62 l0_1 x3_1).f2))) = w33 at n0_ n1_ n2_ ⊢
       have BK101 := n0_; have BK104 := n1_; have HB := n2_; clear n0_ n1_ n2_; replace BK101 := Aside0.mk (blk_drew BK101.out); replace BK104 := Aside0.mk (blk_drew BK104.out); replace HB := Aside0.mk (below_drew1 HB.out); refine start_ (n := 38) (S := fun w' => w'.cell? ⟨gb104, 0, none⟩ = some (.int .i64 ((rd_T62 l0_1 x3_1).f0)) ∧ w'.cell? ⟨gb104, 1, none⟩ = some (.int .i64 ((rd_T62 l0_1 x3_1).f1)) ∧ w'.cell? ⟨gb104, 2, none⟩ = some (.int .i64 ((rd_T62 l0_1 x3_1).f2))) (ds := []) (lb 38 0) zk rfl rfl ⟨(blk_cell BK104.out 0).trans rfl, (blk_cell BK104.out 1).trans rfl, (blk_cell BK104.out 2).trans rfl⟩ (fun hHeld => ?_); refine with_tabW spec_ClockOk.tab5 spec_ClockOk.bits5 (fun HT_ HW_ => ?_)
       generalize w33.drew = w34 at BK101 BK104 HB hHeld ⊢
       refine pz 0 (some 18) (lb 38 1) rfl rfl HT_.out ?_; refine tz 1 (some 19) (lb 38 3) rfl rfl HT_.out HW_.out hHeld ?_; refine one_ (i := 2) (N := some 20) (lb 38 7) rfl rfl (one_of HT_.out zk) (by decide) (fun K hK => ?_); refine goes_ Try.func52 zk rfl #[.int .i64 ((rd_T62 l0_1 x3_1).f0), .int .i64 0, .int .i64 99] (by rfl) rfl rfl zm ?_; (with_reducible refine (spec_l6In.calls ((rd_T62 l0_1 x3_1).f0) 0 99 false _ A10.out).mono ?_); rintro e w' ⟨rfl, ⟨nd, rfl⟩⟩; refine ⟨_, rfl, ?_⟩; refine hK.out _ _ ⟨(blk_cell BK104.out 0).trans rfl, (blk_cell BK104.out 1).trans rfl, (blk_cell BK104.out 2).trans rfl⟩ (fun hHeld => ?_); clear hK K; refine norm_ (a' := ?_) ?_ ?_; rotate_left
       ·
        show Act.put _ (some 20) _ = _
        simp only [Act.put, List.setIfInBounds_toArray, List.set_cons_zero, List.set_cons_succ, i64_w, i32_w]
        rfl
       refine pz 3 (some 21) (lb 38 15) rfl rfl HT_.out ?_; refine pz 4 (some 22) (lb 38 31) rfl rfl HT_.out ?_; refine nz 5 (some 23) (lb 38 63) rfl rfl HT_.out ?_; refine nz 6 (some 24) (lb 38 127) rfl rfl HT_.out ?_; refine nz 7 (some 25) (lb 38 255) rfl rfl HT_.out ?_; refine nz 8 (some 26) (lb 38 511) rfl rfl HT_.out ?_; refine pz 9 (some 27) (lb 38 1023) rfl rfl HT_.out ?_; refine pz 10 (some 28) (lb 38 2047) rfl rfl HT_.out ?_; refine nz 11 (some 29) (lb 38 4095) rfl rfl HT_.out ?_; refine nz 12 (some 30) (lb 38 8191) rfl rfl HT_.out ?_; refine nz 13 (some 31) (lb 38 16383) rfl rfl HT_.out ?_; refine nz 14 (some 32) (lb 38 32767) rfl rfl HT_.out ?_; refine nz 15 (some 33) (lb 38 65535) rfl rfl HT_.out ?_; refine pz 16 (some 34) (lb 38 131071) rfl rfl HT_.out ?_; refine pz 17 (some 35) (lb 38 262143) rfl rfl HT_.out ?_; refine nz 18 (some 36) (lb 38 524287) rfl rfl HT_.out ?_; refine nz 19 (some 37) (lb 38 1048575) rfl rfl HT_.out ?_; refine nz 20 (some 38) (lb 38 2097151) rfl rfl HT_.out ?_; refine nz 21 (some 39) (lb 38 4194303) rfl rfl HT_.out ?_; refine pz 22 (some 40) (lb 38 8388607) rfl rfl HT_.out ?_; refine pz 23 (some 41) (lb 38 16777215) rfl rfl HT_.out ?_; refine nz 24 (some 42) (lb 38 33554431) rfl rfl HT_.out ?_; refine nz 25 (some 43) (lb 38 67108863) rfl rfl HT_.out ?_; refine nz 26 (some 44) (lb 38 134217727) rfl rfl HT_.out ?_; refine nz 27 (some 45) (lb 38 268435455) rfl rfl HT_.out ?_; refine nz 28 (some 46) (lb 38 536870911) rfl rfl HT_.out ?_; refine nz 29 (some 47) (lb 38 1073741823) rfl rfl HT_.out ?_; refine nz 30 (some 48) (lb 38 2147483647) rfl rfl HT_.out ?_; refine nz 31 (some 49) (lb 38 4294967295) rfl rfl HT_.out ?_; refine nz 32 (some 50) (lb 38 8589934591) rfl rfl HT_.out ?_; refine nz 33 (some 51) (lb 38 17179869183) rfl rfl HT_.out ?_; refine nz 34 (some 52) (lb 38 34359738367) rfl rfl HT_.out ?_; refine nz 35 (some 53) (lb 38 68719476735) rfl rfl HT_.out ?_; refine nz 36 (some 54) (lb 38 137438953471) rfl rfl HT_.out ?_; refine pz 37 (some 55) (lb 38 274877906943) rfl rfl HT_.out ?_; refine done_ (done_of HT_.out zk) ?_
       try go_wp2
       go_meet
       case rel => exact ⟨_, (true), zr, H', ⟨by have := HK1.out; first | omega | exact Nat.le_refl _⟩, ⟨kz (BK101.out)⟩, ⟨kz (BK104.out)⟩, ⟨bs2 HB.out GE101.out GE104.out⟩⟩
     case rest =>
      clear HC5
      try clear c1
      try clear p2
      try clear c4
      try clear c5
      try clear c11
      try clear c13
      obtain ⟨kq, x55_4, rfl, HA, HJ4, BK101, BK104, HB⟩ := hcut
      cases kq with
      | zero => exact absurd HA.out (by simp [spec_ClockOk.j1])
      | succ kj4 =>
       have H := HA.out; clear HA; simp only [spec_ClockOk.j1] at H
       by_cases c35 : x55_4 = true
       ·
        subst c35; rw [if_pos rfl] at H; obtain rfl := Option.some.inj H
        go_wp2
        go_ret
        exact ⟨ze, bs2 HB.out GE101.out GE104.out⟩
       ·
        replace c35 := Bool.eq_false_iff.mpr c35; subst c35; rw [if_neg nf_] at H; have H' := Aside0.mk H; clear H
        go_wp2
        go_loopg [5] kj4 (fun kq v5 w' => ∃ (x5_3 : Int), v5 = .int .i64 x5_3 ∧ Aside0 (spec_ClockOk.l1 kq x3_1 x5_3 a0_0 l0_1 ((rd_T62 l0_1 x3_1).f0) ((rd_T62 l0_1 x3_1).f1) ((rd_T62 l0_1 x3_1).f2) = some r) ∧ Aside0 (kq ≤ kj4) ∧ Aside0 (w'.heap[gb101]? = some (.cells #[.int .i64 a0_0, (.slice (some ad103) l0_1.length c0_1)] 26 (0, 0))) ∧ Aside0 (w'.heap[gb104]? = some (.cells #[.int .i64 ((rd_T62 l0_1 x3_1).f0), .int .i64 ((rd_T62 l0_1 x3_1).f1), .int .i64 ((rd_T62 l0_1 x3_1).f2)] 62 (0, 0))) ∧ Aside0 (Below w.heap.size w w'))
        case atStart => exact ⟨(0), zr, H', ⟨Nat.le_refl _⟩, ⟨kz (BK101.out)⟩, ⟨kz (BK104.out)⟩, ⟨bs2 HB.out GE101.out GE104.out⟩⟩
        case round =>
         clear H'
         try clear c1
         try clear p2
         try clear c3
         try clear c4
         try clear c5
         try clear c11
         try clear c13
         try clear c35
         try clear p2
         obtain ⟨x5_3, rfl, HA, HK3, BK101, BK104, HB⟩ := hrel
         cases gk with
         | zero => exact absurd HA.out (by simp [spec_ClockOk.l1])
         | succ k3 =>
          have H := HA.out; clear HA; simp only [spec_ClockOk.l1] at H
          by_cases c36 : x5_3 < x3_1
          ·
           rw [if_pos c36] at H; have c36b0 : decide (x5_3 < x3_1) = true := decide_eq_true c36; clear c36
           by_cases c37 : 0 ≤ x5_3
           ·
            rw [if_pos c37] at H; have c37b0 : decide (0 ≤ x5_3) = true := decide_eq_true c37; clear c37
            by_cases c38 : x5_3 < (l0_1.length : Int)
            ·
             rw [if_pos c38] at H; have c38b0 : decide (x5_3 < (l0_1.length : Int)) = true := decide_eq_true c38; clear c38
             by_cases c39 : ((rd_T62 l0_1 x5_3).f0) = ((rd_T62 l0_1 x3_1).f0)
             ·
              rw [if_pos c39] at H; have c39b0 : (((rd_T62 l0_1 x5_3).f0) == ((rd_T62 l0_1 x3_1).f0)) = true := beq_iff_eq.mpr c39; have c39b1 : (((rd_T62 l0_1 x5_3).f0) != ((rd_T62 l0_1 x3_1).f0)) = false := bne_eq_false_iff_eq.mpr c39; clear c39; obtain rfl := Option.some.inj H
              try go_wp2
              replace BK101 := Aside0.mk (blk_drew BK101.out); replace BK104 := Aside0.mk (blk_drew BK104.out); replace HB := Aside0.mk (below_drew1 HB.out); have p110 : 0 ≤ (x5_3 : Int) := of_decide_eq_true zs; have q110 : x5_3 < (l0_1.length : Int) := of_decide_eq_true zs; obtain ⟨ad110, e110, hx110_0, hx110_1, hx110_2⟩ := at_T62 HR0_1.out x5_3 p110 q110; have hw110_2 := hx110_2; have hw110_1 := hx110_1; have hw110_0 := hx110_0; obtain rfl : ad103 = ad110 := (by injection e110); replace hx110_0 := pw_cell_below HB.out hx110_0; replace hx110_1 := pw_cell_below HB.out hx110_1; replace hx110_2 := pw_cell_below HB.out hx110_2; replace p110 := eq_true p110; replace q110 := eq_true q110; refine start_ (n := 9) (S := fun w' => w'.cell? ⟨gb101, 0, none⟩ = some (.int .i64 a0_0) ∧ w'.cell? ⟨gb101, 1, none⟩ = some (.slice (some ad103) l0_1.length c0_1) ∧ w'.cell? ⟨gb104, 0, none⟩ = some (.int .i64 ((rd_T62 l0_1 x3_1).f0)) ∧ w'.cell? ⟨gb104, 1, none⟩ = some (.int .i64 ((rd_T62 l0_1 x3_1).f1)) ∧ w'.cell? ⟨gb104, 2, none⟩ = some (.int .i64 ((rd_T62 l0_1 x3_1).f2)) ∧ w'.cell? (ad103.add ((x5_3).toNat * 3)) = some (.int .i64 ((rd_T62 l0_1 x5_3).f0)) ∧ w'.cell? ⟨(ad103.add ((x5_3).toNat * 3)).block, (ad103.add ((x5_3).toNat * 3)).off + 1, none⟩ = some (.int .i64 ((rd_T62 l0_1 x5_3).f1)) ∧ w'.cell? ⟨(ad103.add ((x5_3).toNat * 3)).block, (ad103.add ((x5_3).toNat * 3)).off + 2, none⟩ = some (.int .i64 ((rd_T62 l0_1 x5_3).f2))) (ds := []) (lb 9 0) zk rfl rfl ⟨(blk_cell BK101.out 0).trans rfl, (blk_cell BK101.out 1).trans rfl, (blk_cell BK104.out 0).trans rfl, (blk_cell BK104.out 1).trans rfl, (blk_cell BK104.out 2).trans rfl, (pw_cell_below HB.out hw110_0), (pw_cell_below HB.out hw110_1), (pw_cell_below HB.out hw110_2)⟩ (fun hHeld => ?_); refine with_tabW spec_ClockOk.tab10 spec_ClockOk.bits10 (fun HT_ HW_ => ?_)
              generalize wr.drew = w40 at BK101 BK104 HB hx110_0 hx110_1 hx110_2 hHeld ⊢
              refine pz 0 (some 61) (lb 9 1) rfl rfl HT_.out ?_; refine pz 2 (some 63) (lb 9 5) rfl rfl HT_.out ?_; refine pz 6 (some 67) (lb 9 69) rfl rfl HT_.out ?_; refine tz 1 (some 62) (lb 9 71) rfl rfl HT_.out HW_.out hHeld ?_; refine pz 3 (some 64) (lb 9 79) rfl rfl HT_.out ?_; refine pz 4 (some 65) (lb 9 95) rfl rfl HT_.out ?_; refine tz 5 (some 66) (lb 9 127) rfl rfl HT_.out HW_.out hHeld ?_; refine tz 7 (some 68) (lb 9 255) rfl rfl HT_.out HW_.out hHeld ?_; refine pz 8 (some 69) (lb 9 511) rfl rfl HT_.out ?_; refine done_ (done_of HT_.out zk) ?_
              try go_wp2
              go_ret
              exact ⟨ze, bs2 HB.out GE101.out GE104.out⟩
             ·
              rw [if_neg c39] at H; have c39b0 : (((rd_T62 l0_1 x5_3).f0) == ((rd_T62 l0_1 x3_1).f0)) = false := beq_eq_false_iff_ne.mpr c39; have c39b1 : (((rd_T62 l0_1 x5_3).f0) != ((rd_T62 l0_1 x3_1).f0)) = true := bne_iff_ne.mpr c39; have H' := Aside0.mk H; clear H
              try go_wp2
              replace BK101 := Aside0.mk (blk_drew BK101.out); replace BK104 := Aside0.mk (blk_drew BK104.out); replace HB := Aside0.mk (below_drew1 HB.out); have p110 : 0 ≤ (x5_3 : Int) := of_decide_eq_true zs; have q110 : x5_3 < (l0_1.length : Int) := of_decide_eq_true zs; obtain ⟨ad110, e110, hx110_0, hx110_1, hx110_2⟩ := at_T62 HR0_1.out x5_3 p110 q110; have hw110_2 := hx110_2; have hw110_1 := hx110_1; have hw110_0 := hx110_0; obtain rfl : ad103 = ad110 := (by injection e110); replace hx110_0 := pw_cell_below HB.out hx110_0; replace hx110_1 := pw_cell_below HB.out hx110_1; replace hx110_2 := pw_cell_below HB.out hx110_2; replace p110 := eq_true p110; replace q110 := eq_true q110; refine start_ (n := 9) (S := fun w' => w'.cell? ⟨gb101, 0, none⟩ = some (.int .i64 a0_0) ∧ w'.cell? ⟨gb101, 1, none⟩ = some (.slice (some ad103) l0_1.length c0_1) ∧ w'.cell? ⟨gb104, 0, none⟩ = some (.int .i64 ((rd_T62 l0_1 x3_1).f0)) ∧ w'.cell? ⟨gb104, 1, none⟩ = some (.int .i64 ((rd_T62 l0_1 x3_1).f1)) ∧ w'.cell? ⟨gb104, 2, none⟩ = some (.int .i64 ((rd_T62 l0_1 x3_1).f2)) ∧ w'.cell? (ad103.add ((x5_3).toNat * 3)) = some (.int .i64 ((rd_T62 l0_1 x5_3).f0)) ∧ w'.cell? ⟨(ad103.add ((x5_3).toNat * 3)).block, (ad103.add ((x5_3).toNat * 3)).off + 1, none⟩ = some (.int .i64 ((rd_T62 l0_1 x5_3).f1)) ∧ w'.cell? ⟨(ad103.add ((x5_3).toNat * 3)).block, (ad103.add ((x5_3).toNat * 3)).off + 2, none⟩ = some (.int .i64 ((rd_T62 l0_1 x5_3).f2))) (ds := []) (lb 9 0) zk rfl rfl ⟨(blk_cell BK101.out 0).trans rfl, (blk_cell BK101.out 1).trans rfl, (blk_cell BK104.out 0).trans rfl, (blk_cell BK104.out 1).trans rfl, (blk_cell BK104.out 2).trans rfl, (pw_cell_below HB.out hw110_0), (pw_cell_below HB.out hw110_1), (pw_cell_below HB.out hw110_2)⟩ (fun hHeld => ?_); refine with_tabW spec_ClockOk.tab10 spec_ClockOk.bits10 (fun HT_ HW_ => ?_)
              generalize wr.drew = w41 at BK101 BK104 HB hx110_0 hx110_1 hx110_2 hHeld ⊢
              refine pz 0 (some 61) (lb 9 1) rfl rfl HT_.out ?_; refine pz 2 (some 63) (lb 9 5) rfl rfl HT_.out ?_; refine pz 6 (some 67) (lb 9 69) rfl rfl HT_.out ?_; refine tz 1 (some 62) (lb 9 71) rfl rfl HT_.out HW_.out hHeld ?_; refine pz 3 (some 64) (lb 9 79) rfl rfl HT_.out ?_; refine pz 4 (some 65) (lb 9 95) rfl rfl HT_.out ?_; refine tz 5 (some 66) (lb 9 127) rfl rfl HT_.out HW_.out hHeld ?_; refine tz 7 (some 68) (lb 9 255) rfl rfl HT_.out HW_.out hHeld ?_; refine pz 8 (some 69) (lb 9 511) rfl rfl HT_.out ?_; refine done_ (done_of HT_.out zk) ?_
              try go_wp2
              go_roundg k3
              case measure => have := HK1.out; have := HJ4.out; have := HK3.out; omega
              case rel => exact ⟨(wrap64 (x5_3 + 1)), zr, H', ⟨by have := HK1.out; have := HJ4.out; have := HK3.out; omega⟩, ⟨kz (BK101.out)⟩, ⟨kz (BK104.out)⟩, ⟨bs2 HB.out GE101.out GE104.out⟩⟩
            ·
             rw [if_neg c38] at H
             exact absurd H (by simp)
           ·
            rw [if_neg c37] at H
            exact absurd H (by simp)
          ·
           rw [if_neg c36] at H; have c36b0 : decide (x5_3 < x3_1) = false := decide_eq_false c36; clear c36; have H' := Aside0.mk H; clear H
           go_wp2
           go_roundg k3
           case measure => have := HK1.out; have := HJ4.out; have := HK3.out; omega
           case rel => exact ⟨(wrap64 (x3_1 + 1)), zr, H', ⟨by have := HK1.out; have := HJ4.out; have := HK3.out; omega⟩, ⟨kz (BK101.out)⟩, ⟨bs2 HB.out GE101.out GE104.out⟩⟩
    ·
     rw [if_neg c4] at H
     exact absurd H (by simp)
   ·
    rw [if_neg c3] at H; have c3b0 : decide (x3_1 < (l0_1.length : Int)) = false := decide_eq_false c3; clear c3; replace H := Option.bind_eq_some_iff.mp H; obtain ⟨t102, A420, H⟩ := H; have A42 := Aside0.mk A420; clear A420
    by_cases c43 : t102 = true
    ·
     subst c43; rw [if_pos rfl] at H; obtain rfl := Option.some.inj H; have hcz44_0 : wr.cell? ⟨gb101, 0, none⟩ = some (.int .i64 a0_0) := (blk_cell BK101.out 0).trans rfl; have hcz44_1 : wr.cell? ⟨gb101, 1, none⟩ = some (.slice A0_1 l0_1.length c0_1) := (blk_cell BK101.out 1).trans rfl; have hfz44_0 := blk_frozen BK101.out 0; have hfz44_1 := blk_frozen BK101.out 1
     go_wp2_with (first | ((with_reducible refine gate_callee (f := 46) rfl ?_); refine goesL_ (some 72) rfl rfl Try.func46 zk rfl #[.int .i64 a0_0] rfl zm ?_; (with_reducible refine (spec_l19Time.calls a0_0 true _ A42.out).mono ?_); rintro e w' ⟨rfl, ⟨nd, rfl⟩⟩; refine ⟨_, rfl, ?_⟩))
     go_ret
     exact ⟨ze, bs HB.out GE101.out⟩
    ·
     replace c43 := Bool.eq_false_iff.mpr c43; subst c43; rw [if_neg nf_] at H; obtain rfl := Option.some.inj H; have hcz45_0 : wr.cell? ⟨gb101, 0, none⟩ = some (.int .i64 a0_0) := (blk_cell BK101.out 0).trans rfl; have hcz45_1 : wr.cell? ⟨gb101, 1, none⟩ = some (.slice A0_1 l0_1.length c0_1) := (blk_cell BK101.out 1).trans rfl; have hfz45_0 := blk_frozen BK101.out 0; have hfz45_1 := blk_frozen BK101.out 1
     go_wp2_with (first | ((with_reducible refine gate_callee (f := 46) rfl ?_); refine goesL_ (some 72) rfl rfl Try.func46 zk rfl #[.int .i64 a0_0] rfl zm ?_; (with_reducible refine (spec_l19Time.calls a0_0 false _ A42.out).mono ?_); rintro e w' ⟨rfl, ⟨nd, rfl⟩⟩; refine ⟨_, rfl, ?_⟩))
     go_ret
     exact ⟨ze, bs HB.out GE101.out⟩

end Go.Proofs.Ytlejcgnfpcngbaa.P
