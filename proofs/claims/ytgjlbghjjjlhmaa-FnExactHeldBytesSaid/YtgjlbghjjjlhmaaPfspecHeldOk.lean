-- printed by wip/qd.py
import Derived.Test.YtgjlbghjjjlhmaaPf0
import Derived.Test.YtgjlbghjjjlhmaaPfspecl17Hold
import Derived.Test.YtgjlbghjjjlhmaaPfspecl17Tidy
import Derived.Test.YtgjlbghjjjlhmaaPfspecl17Who
import Derived.Test.YtgjlbghjjjlhmaaPfspecl17Round
namespace Go.Proofs.Ytgjlbghjjjlhmaa.P
open Go.RowKit Go.Proofs.YtgjlbghjjjlhmaaW.PrintWords Go.Proofs.YtgjlbghjjjlhmaaW.PrintLast Go.Proofs.YtgjlbghjjjlhmaaW.PrintMore
attribute [local go_sem] max2_int min2_int max_two min_two max_three min_three max_four min_four Q.cell_set_map
set_option linter.unusedVariables false
set_option linter.unusedSimpArgs false

/-! ### spec_HeldOk: function 11 -/
mutual
def spec_HeldOk.l0 : Nat → Int → List (S40) → List (S40) → Option (Bool)
 | 0, _, _, _ => none
 | k + 1, x3, x102000, x102001 => if x3 < (x102001.length : Int) then (if 0 ≤ x3 then ((spec_l17Hold.f ((rd_T40 x102001 x3).f0) ((rd_T40 x102001 x3).f1) ((rd_T40 x102001 x3).f2) ((rd_T40 x102001 x3).f3)).bind fun t105 => (if t105 = true then (if x3 > 0 then (if 0 ≤ (wrap64 (x3 - 1)) then (if (wrap64 (x3 - 1)) < (x102001.length : Int) then (spec_HeldOk.j1 k x3 (decide (((rd_T40 x102001 (wrap64 (x3 - 1))).f0) ≥ ((rd_T40 x102001 x3).f0))) x102000 x102001 ((rd_T40 x102001 x3).f0) ((rd_T40 x102001 x3).f1) ((rd_T40 x102001 x3).f2) ((rd_T40 x102001 x3).f3)) else (none)) else (none)) else (spec_HeldOk.j1 k x3 false x102000 x102001 ((rd_T40 x102001 x3).f0) ((rd_T40 x102001 x3).f1) ((rd_T40 x102001 x3).f2) ((rd_T40 x102001 x3).f3))) else (spec_HeldOk.j1 k x3 true x102000 x102001 ((rd_T40 x102001 x3).f0) ((rd_T40 x102001 x3).f1) ((rd_T40 x102001 x3).f2) ((rd_T40 x102001 x3).f3)))) else (none)) else (some true)
def spec_HeldOk.j1 : Nat → Int → Bool → List (S40) → List (S40) → Int → Int → Int → Bool → Option (Bool)
 | 0, _, _, _, _, _, _, _, _ => none
 | k + 1, x3, x40, x102000, x102001, x105000, x105001, x105002, x105003 => if x40 = true then (some false) else ((spec_l17Who.f k x102000 x105000 x105001 x105002 x105003).bind fun t107 => (if (t107.length : Int) = 0 then (some false) else ((spec_l17Round.f k x102000 x102001 t107 x105000).bind fun t110 => (if t110 = true then (some false) else (spec_HeldOk.l0 k (wrap64 (x3 + 1)) x102000 x102001)))))
end
def spec_HeldOk.f (k : Nat) (l0_0 : List (S40)) (l0_1 : List (S40)) : Option (Bool) := (spec_l17Tidy.f k l0_0).bind fun t102 => (if t102 = true then (spec_HeldOk.l0 k 0 l0_0 l0_1) else (some false))
theorem spec_HeldOk.mono_l : ∀ k, (∀ y0 y1 y2, LeO (spec_HeldOk.l0 k y0 y1 y2) (spec_HeldOk.l0 (k + 1) y0 y1 y2)) ∧ (∀ y0 y1 y2 y3 y4 y5 y6 y7, LeO (spec_HeldOk.j1 k y0 y1 y2 y3 y4 y5 y6 y7) (spec_HeldOk.j1 (k + 1) y0 y1 y2 y3 y4 y5 y6 y7))
 | 0 => ⟨fun _ _ _ r h => by simp [spec_HeldOk.l0] at h, fun _ _ _ _ _ _ _ _ r h => by simp [spec_HeldOk.j1] at h⟩
 | k + 1 => by
  obtain ⟨ih0, ih1⟩ := spec_HeldOk.mono_l k
  refine ⟨?_, ?_⟩
  ·
   intro y0 y1 y2
   unfold spec_HeldOk.l0
   repeat' first
   | (with_reducible exact ih0 _ _ _)
   | (with_reducible exact ih1 _ _ _ _ _ _ _ _)
   | (with_reducible exact spec_l17Round.mono _ _ _ _ _)
   | (with_reducible exact spec_l17Tidy.mono _ _)
   | (with_reducible exact spec_l17Who.mono _ _ _ _ _ _)
   | (with_reducible exact LeO.refl _)
   | (with_reducible exact LeO.none _)
   | (with_reducible refine LeO.ite ?_ ?_)
   | (with_reducible refine LeO.bind ?_ (fun _ => ?_))
   | exact ih0 _ _ _
   | exact ih1 _ _ _ _ _ _ _ _
   | exact spec_l17Round.mono _ _ _ _ _
   | exact spec_l17Tidy.mono _ _
   | exact spec_l17Who.mono _ _ _ _ _ _
   | exact LeO.none _
   | refine LeO.ite ?_ ?_
   | refine LeO.bind ?_ (fun _ => ?_)
  ·
   intro y0 y1 y2 y3 y4 y5 y6 y7
   unfold spec_HeldOk.j1
   repeat' first
   | (with_reducible exact ih0 _ _ _)
   | (with_reducible exact ih1 _ _ _ _ _ _ _ _)
   | (with_reducible exact spec_l17Round.mono _ _ _ _ _)
   | (with_reducible exact spec_l17Tidy.mono _ _)
   | (with_reducible exact spec_l17Who.mono _ _ _ _ _ _)
   | (with_reducible exact LeO.refl _)
   | (with_reducible exact LeO.none _)
   | (with_reducible refine LeO.ite ?_ ?_)
   | (with_reducible refine LeO.bind ?_ (fun _ => ?_))
   | exact ih0 _ _ _
   | exact ih1 _ _ _ _ _ _ _ _
   | exact spec_l17Round.mono _ _ _ _ _
   | exact spec_l17Tidy.mono _ _
   | exact spec_l17Who.mono _ _ _ _ _ _
   | exact LeO.none _
   | refine LeO.ite ?_ ?_
   | refine LeO.bind ?_ (fun _ => ?_)
theorem spec_HeldOk.mono : ∀ a0 a1 k, LeO (spec_HeldOk.f k a0 a1) (spec_HeldOk.f (k + 1) a0 a1) := by
 intro a0 a1 k
 obtain ⟨ih0, ih1⟩ := spec_HeldOk.mono_l k
 unfold spec_HeldOk.f
 repeat' first
   | (with_reducible exact ih0 _ _ _)
   | (with_reducible exact ih1 _ _ _ _ _ _ _ _)
   | (with_reducible exact spec_l17Round.mono _ _ _ _ _)
   | (with_reducible exact spec_l17Tidy.mono _ _)
   | (with_reducible exact spec_l17Who.mono _ _ _ _ _ _)
   | (with_reducible exact LeO.refl _)
   | (with_reducible exact LeO.none _)
   | (with_reducible refine LeO.ite ?_ ?_)
   | (with_reducible refine LeO.bind ?_ (fun _ => ?_))
   | exact ih0 _ _ _
   | exact ih1 _ _ _ _ _ _ _ _
   | exact spec_l17Round.mono _ _ _ _ _
   | exact spec_l17Tidy.mono _ _
   | exact spec_l17Who.mono _ _ _ _ _ _
   | exact LeO.none _
   | refine LeO.ite ?_ ?_
   | refine LeO.bind ?_ (fun _ => ?_)
def spec_HeldOk.T7 : Bool × List (List Nat × List Nat) := (true, [([], []), ([0], [0]), ([1], [1]), ([2, 1], [2]), ([3], [3]), ([4, 3], [3, 4]), ([5, 3, 3], [3, 5]), ([6], [6]), ([7, 6], [6, 7]), ([6], [6]), ([9, 6], [6, 9]), ([8, 10, 6], [6, 8, 10]), ([11, 6], [6, 11]), ([12, 6], [6, 12]), ([6], [6]), ([14, 6], [6, 14]), ([13, 15, 6], [6, 13, 15]), ([6, 16, 3], [3, 6, 16]), ([3, 17], [3, 17])])
def spec_HeldOk.B7 : List Nat := [0, 1, 3, 7, 15, 31, 63, 127, 255, 127, 639, 2047, 4095, 8191, 127, 16511, 65535, 131071, 262143]
theorem spec_HeldOk.tab7 : rtab .any (opsOf Try.f11 7) = spec_HeldOk.T7 := by kernel_rfl
theorem spec_HeldOk.bits7 : waitsOk spec_HeldOk.T7.2 spec_HeldOk.B7 = true := by kernel_rfl
set_option maxHeartbeats 8000000 in
set_option maxRecDepth 100000 in
theorem spec_HeldOk.calls (k : Nat) (A0_0 : Option Addr) (c0_0 : Nat) (l0_0 : List (S40)) (A0_1 : Option Addr) (c0_1 : Nat) (l0_1 : List (S40)) (r : Bool) (w : World) (hr0_0 : Kd.C k40 w A0_0 l0_0.length l0_0) (hc0_0 : l0_0.length ≤ c0_0) (hr0_1 : Kd.C k40 w A0_1 l0_1.length l0_1) (hc0_1 : l0_1.length ≤ c0_1) (h : spec_HeldOk.f k l0_0 l0_1 = some r) :
  Calls Try.prog 11 #[.agg #[.slice A0_0 l0_0.length c0_0, .slice A0_1 l0_1.length c0_1]] w fun e w' => e = .returned (.bool r) ∧ Below w.heap.size w w' := by
 have hu29 := Try.underlying29; have hu40 := Try.underlying40; have HR0_0 := Aside0.mk hr0_0; have HC0_0 := Aside0.mk hc0_0; clear hr0_0 hc0_0; have HR0_1 := Aside0.mk hr0_1; have HC0_1 := Aside0.mk hc0_1; clear hr0_1 hc0_1; have HB := Aside0.mk (Below.refl w.heap.size w); have H : ((spec_l17Tidy.f k l0_0).bind fun t102 => (if t102 = true then (spec_HeldOk.l0 k 0 l0_0 l0_1) else (some false))) = some r := h; clear h; replace H := Option.bind_eq_some_iff.mp H; obtain ⟨t102, A20, H⟩ := H; have A2 := Aside0.mk A20; clear A20
 by_cases c3 : t102 = true
 ·
  subst c3; rw [if_pos rfl] at H; have H' := Aside0.mk H; clear H
  go_enter Try.func11, Try.ntmps11
  go_wp2_with (first | ((with_reducible refine gate_dst (N := 1) rfl ?_); refine box_event ?hg (N := 1) ?hd (cs := #[.slice A0_0 l0_0.length c0_0, .slice A0_1 l0_1.length c0_1]) (t := 29) ?hr ?_; (case hd => rfl); (case hg => rfl); (case hr => first | (go_simp; done) | (go_simp; rfl)); intro gb101 hg w4 hbox hb; have BK101 := Aside0.mk (hbox); have GW101 := Aside0.mk ((by rw [hg]; exact (below_size (bz HB.out)) : w.heap.size ≤ gb101)); have GE101 := GW101; replace HB := Aside0.mk (below_step (bz HB.out) hb); clear hb hbox hg; obtain ⟨hcz5_0, hcz5_1⟩ := cz2 BK101.out; obtain ⟨hfz5_0, hfz5_1⟩ := fz2 BK101.out) | ((with_reducible refine gate_callee (f := 34) rfl ?_); refine goesL_ (some 8) rfl rfl Try.func34 zk rfl #[.slice A0_0 l0_0.length c0_0] rfl zm ?_; (with_reducible refine (spec_l17Tidy.calls k _ _ l0_0 true _ ?side1 ?side2 A2.out).mono ?_); (case side1 => exact cz (Kd.C_below HR0_0.out HB.out)); (case side2 => exact HC0_0.out); rintro e w6 ⟨rfl, hb⟩; refine ⟨_, rfl, ?_⟩; replace BK101 := Aside0.mk (blk_below (kz BK101.out) hb); replace HB := Aside0.mk (below_step (bs HB.out GE101.out) hb); (try clear hb)))
  go_loopg [3] k (fun kq v3 w' => ∃ (x3_1 : Int), v3 = .int .i64 x3_1 ∧ Aside0 (spec_HeldOk.l0 kq x3_1 l0_0 l0_1 = some r) ∧ Aside0 (kq ≤ k) ∧ Aside0 (w'.heap[gb101]? = some (.cells #[(.slice A0_0 l0_0.length c0_0), (.slice A0_1 l0_1.length c0_1)] 29 (0, 0))) ∧ Aside0 (Below w.heap.size w w'))
  case atStart => exact ⟨(0), zr, H', ⟨Nat.le_refl _⟩, ⟨kz (BK101.out)⟩, ⟨bs HB.out GE101.out⟩⟩
  case round =>
   clear H'
   try clear c1
   try clear p2
   try clear c3
   try clear hcz5_0
   try clear hcz5_1
   try clear hfz5_0
   try clear hfz5_1
   obtain ⟨x3_1, rfl, HA, HK1, BK101, HB⟩ := hrel
   cases gk with
   | zero => exact absurd HA.out (by simp [spec_HeldOk.l0])
   | succ k1 =>
    have H := HA.out; clear HA; simp only [spec_HeldOk.l0] at H
    by_cases c7 : x3_1 < (l0_1.length : Int)
    ·
     rw [if_pos c7] at H; have c7b0 : decide (x3_1 < (l0_1.length : Int)) = true := decide_eq_true c7; clear c7
     by_cases c8 : 0 ≤ x3_1
     ·
      rw [if_pos c8] at H; have c8b0 : decide (0 ≤ x3_1) = true := decide_eq_true c8; clear c8; have HC9 := Aside0.mk H; clear H; obtain ⟨hcz10_0, hcz10_1⟩ := cz2 BK101.out; obtain ⟨hfz10_0, hfz10_1⟩ := fz2 BK101.out; have p103 : 0 ≤ (x3_1 : Int) := of_decide_eq_true zs; have q103 : x3_1 < (l0_1.length : Int) := of_decide_eq_true zs; obtain ⟨ad103, e103, hx103_0, hx103_1, hx103_2, hx103_3⟩ := at_T40 HR0_1.out x3_1 p103 q103; cases e103; replace hx103_0 := pw_cell_below HB.out hx103_0; replace hx103_1 := pw_cell_below HB.out hx103_1; replace hx103_2 := pw_cell_below HB.out hx103_2; replace hx103_3 := pw_cell_below HB.out hx103_3; replace p103 := eq_true p103; replace q103 := eq_true q103
      go_upto_region 7 with (first | ((with_reducible refine gate_dst (N := 4) rfl ?_); refine box_event ?hg (N := 4) ?hd (cs := #[.int .i64 0, .int .i64 0, .int .i64 0, .bool false]) (t := 40) ?hr ?_; (case hd => rfl); (case hg => rfl); (case hr => first | (go_simp; done) | (go_simp; rfl)); intro gb104 hg w11 hbox hb; have BK104 := Aside0.mk (hbox); have GW104 := Aside0.mk ((by rw [hg]; exact (below_size (bs HB.out GE101.out)) : w.heap.size ≤ gb104)); have GE104 := GW104; replace HB := Aside0.mk (below_step (bs HB.out GE101.out) hb); have NB101_104 := Aside0.mk ((by rw [hg]; exact Nat.ne_of_lt (blk_lt (kz BK101.out)) : gb101 ≠ gb104)); have NB104_101 := Aside0.mk NB101_104.out.symm; replace BK101 := Aside0.mk (blk_below (kz BK101.out) hb); clear hb hbox hg; have hnb12 := NB104_101.out; have hnc12 := NB101_104.out; obtain ⟨hcz13_0, hcz13_1, hcz13_2, hcz13_3⟩ := cz4 BK104.out; obtain ⟨hfz13_0, hfz13_1, hfz13_2, hfz13_3⟩ := fz4 BK104.out))
      (try simp only [Act.put, List.setIfInBounds_toArray, List.set_cons_zero, List.set_cons_succ])
      go_cut [40] (fun v40 wc => ∃ (kq : Nat) (x40_8 : Bool), v40 = .bool x40_8 ∧ Aside0 (spec_HeldOk.j1 kq x3_1 x40_8 l0_0 l0_1 ((rd_T40 l0_1 x3_1).f0) ((rd_T40 l0_1 x3_1).f1) ((rd_T40 l0_1 x3_1).f2) ((rd_T40 l0_1 x3_1).f3) = some r) ∧ Aside0 (kq ≤ k1) ∧ Aside0 (wc.heap[gb101]? = some (.cells #[(.slice A0_0 l0_0.length c0_0), (.slice (some ad103) l0_1.length c0_1)] 29 (0, 0))) ∧ Aside0 (wc.heap[gb104]? = some (.cells #[.int .i64 ((rd_T40 l0_1 x3_1).f0), .int .i64 ((rd_T40 l0_1 x3_1).f1), .int .i64 ((rd_T40 l0_1 x3_1).f2), .bool ((rd_T40 l0_1 x3_1).f3)] 40 (0, 0))) ∧ Aside0 (Below w.heap.size w wc))
      case first =>
       have H := HC9.out; clear HC9; replace H := Option.bind_eq_some_iff.mp H; obtain ⟨t105, A140, H⟩ := H; have A14 := Aside0.mk A140; clear A140
       by_cases c15 : t105 = true
       ·
        subst c15; rw [if_pos rfl] at H
        by_cases c16 : x3_1 > 0
        ·
         rw [if_pos c16] at H; have c16b0 : decide (0 < x3_1) = true := decide_eq_true c16; clear c16
         (first | rw [c16b0] | (simp only [i64_w, i32_w]; rw [c16b0]) | skip)
         obtain ⟨ji17, hji17⟩ : ∃ j_ : Int, (wrap64 (x3_1 - 1)) = j_ := ⟨_, rfl⟩
         replace H : (if 0 ≤ (ji17) then (if (ji17) < (l0_1.length : Int) then (spec_HeldOk.j1 k1 x3_1 (decide (((rd_T40 l0_1 (ji17)).f0) ≥ ((rd_T40 l0_1 x3_1).f0))) l0_0 l0_1 ((rd_T40 l0_1 x3_1).f0) ((rd_T40 l0_1 x3_1).f1) ((rd_T40 l0_1 x3_1).f2) ((rd_T40 l0_1 x3_1).f3)) else (none)) else (none)) = some r := by first | (rw [hji17] at H; exact H) | (simp only [hji17] at H ⊢; exact H)
         (try rw [hji17] at A14); have hji17w : (IntKind.i64.wrap (x3_1 - 1)) = ji17 := (i64_w _).trans hji17
         by_cases c18 : 0 ≤ (ji17)
         ·
          rw [if_pos c18] at H; have c18b0 : decide (0 ≤ (ji17)) = true := decide_eq_true c18; clear c18
          by_cases c19 : (ji17) < (l0_1.length : Int)
          ·
           rw [if_pos c19] at H; have c19b0 : decide ((ji17) < (l0_1.length : Int)) = true := decide_eq_true c19; clear c19; have H' := Aside0.mk H; clear H
           try go_wp2
           have n0_ : Aside0 (((((w11.setCell ⟨gb104, 0, none⟩ (.int .i64 ((rd_T40 l0_1 x3_1).f0))).setCell ⟨gb104, 1, none⟩ (.int .i64 ((rd_T40 l0_1 x3_1).f1))).setCell ⟨gb104, 2, none⟩ (.int .i64 ((rd_T40 l0_1 x3_1).f2))).setCell ⟨gb104, 3, none⟩ (.bool ((rd_T40 l0_1 x3_1).f3))).heap[gb101]? = some (.cells #[.slice A0_0 l0_0.length c0_0, .slice (some ad103) l0_1.length c0_1] 29 (0, 0))) := ⟨by (with_reducible repeat (first | refine blk_drewN ?_ _ | refine blk_drew ?_ | refine blk_alloc ?_ _ | refine blk_far ?_ NB101_104.out _)); exact BK101.out⟩; have n1_ : Aside0 (((((w11.setCell ⟨gb104, 0, none⟩ (.int .i64 ((rd_T40 l0_1 x3_1).f0))).setCell ⟨gb104, 1, none⟩ (.int .i64 ((rd_T40 l0_1 x3_1).f1))).setCell ⟨gb104, 2, none⟩ (.int .i64 ((rd_T40 l0_1 x3_1).f2))).setCell ⟨gb104, 3, none⟩ (.bool ((rd_T40 l0_1 x3_1).f3))).heap[gb104]? = some (.cells #[.int .i64 ((rd_T40 l0_1 x3_1).f0), .int .i64 ((rd_T40 l0_1 x3_1).f1), .int .i64 ((rd_T40 l0_1 x3_1).f2), .bool ((rd_T40 l0_1 x3_1).f3)] 40 (0, 0))) := ⟨by (with_reducible repeat (first | refine blk_drewN ?_ _ | refine blk_drew ?_ | refine blk_alloc ?_ _)); refine blk_put (cs := #[.int .i64 ((rd_T40 l0_1 x3_1).f0), .int .i64 ((rd_T40 l0_1 x3_1).f1), .int .i64 ((rd_T40 l0_1 x3_1).f2), .bool false]) ?_ 3 _ rfl; (with_reducible repeat (first | refine blk_drewN ?_ _ | refine blk_drew ?_ | refine blk_alloc ?_ _)); refine blk_put (cs := #[.int .i64 ((rd_T40 l0_1 x3_1).f0), .int .i64 ((rd_T40 l0_1 x3_1).f1), .int .i64 0, .bool false]) ?_ 2 _ rfl; (with_reducible repeat (first | refine blk_drewN ?_ _ | refine blk_drew ?_ | refine blk_alloc ?_ _)); refine blk_put (cs := #[.int .i64 ((rd_T40 l0_1 x3_1).f0), .int .i64 0, .int .i64 0, .bool false]) ?_ 1 _ rfl; (with_reducible repeat (first | refine blk_drewN ?_ _ | refine blk_drew ?_ | refine blk_alloc ?_ _)); refine blk_put (cs := #[.int .i64 0, .int .i64 0, .int .i64 0, .bool false]) ?_ 0 _ rfl; (with_reducible repeat (first | refine blk_drewN ?_ _ | refine blk_drew ?_ | refine blk_alloc ?_ _)); exact BK104.out⟩; have n2_ : Aside0 (Below w.heap.size w ((((w11.setCell ⟨gb104, 0, none⟩ (.int .i64 ((rd_T40 l0_1 x3_1).f0))).setCell ⟨gb104, 1, none⟩ (.int .i64 ((rd_T40 l0_1 x3_1).f1))).setCell ⟨gb104, 2, none⟩ (.int .i64 ((rd_T40 l0_1 x3_1).f2))).setCell ⟨gb104, 3, none⟩ (.bool ((rd_T40 l0_1 x3_1).f3)))) := ⟨bs2 HB.out GE101.out GE104.out⟩; (try clear BK101); (try clear BK104); (try clear HB)
           generalize ((((w11.setCell ⟨gb104, 0, none⟩ (.int .i64 ((rd_T40 l0_1 x3_1).f0))).setCell ⟨gb104, 1, none⟩ (.int .i64 ((rd_T40 l0_1 x3_1).f1))).setCell ⟨gb104, 2, none⟩ (.int .i64 ((rd_T40 l0_1 x3_1).f2))).setCell ⟨gb104, 3, none⟩ (.bool ((rd_T40 l0_1 x3_1).f3))) = w20 at n0_ n1_ n2_ ⊢
           have BK101 := n0_; have BK104 := n1_; have HB := n2_; clear n0_ n1_ n2_; replace BK101 := Aside0.mk (blk_drew BK101.out); replace BK104 := Aside0.mk (blk_drew BK104.out); replace HB := Aside0.mk (below_drew1 HB.out); have p106 : 0 ≤ ((ji17) : Int) := of_decide_eq_true zs; have q106 : (ji17) < (l0_1.length : Int) := of_decide_eq_true zs; obtain ⟨ad106, e106, hx106_0, hx106_1, hx106_2, hx106_3⟩ := at_T40 HR0_1.out (ji17) p106 q106; have hw106_3 := hx106_3; have hw106_2 := hx106_2; have hw106_1 := hx106_1; have hw106_0 := hx106_0; obtain rfl : ad103 = ad106 := (by injection e106); replace hx106_0 := pw_cell_below HB.out hx106_0; replace hx106_1 := pw_cell_below HB.out hx106_1; replace hx106_2 := pw_cell_below HB.out hx106_2; replace hx106_3 := pw_cell_below HB.out hx106_3; replace p106 := eq_true p106; replace q106 := eq_true q106; refine start_ (n := 19) (S := fun w' => w'.cell? ⟨gb104, 0, none⟩ = some (.int .i64 ((rd_T40 l0_1 x3_1).f0)) ∧ w'.cell? ⟨gb104, 1, none⟩ = some (.int .i64 ((rd_T40 l0_1 x3_1).f1)) ∧ w'.cell? ⟨gb104, 2, none⟩ = some (.int .i64 ((rd_T40 l0_1 x3_1).f2)) ∧ w'.cell? ⟨gb104, 3, none⟩ = some (.bool ((rd_T40 l0_1 x3_1).f3)) ∧ w'.cell? ⟨gb101, 0, none⟩ = some (.slice A0_0 l0_0.length c0_0) ∧ w'.cell? ⟨gb101, 1, none⟩ = some (.slice (some ad103) l0_1.length c0_1) ∧ w'.cell? (ad103.add (((ji17)).toNat * 4)) = some (.int .i64 ((rd_T40 l0_1 (ji17)).f0)) ∧ w'.cell? ⟨(ad103.add (((ji17)).toNat * 4)).block, (ad103.add (((ji17)).toNat * 4)).off + 1, none⟩ = some (.int .i64 ((rd_T40 l0_1 (ji17)).f1)) ∧ w'.cell? ⟨(ad103.add (((ji17)).toNat * 4)).block, (ad103.add (((ji17)).toNat * 4)).off + 2, none⟩ = some (.int .i64 ((rd_T40 l0_1 (ji17)).f2)) ∧ w'.cell? ⟨(ad103.add (((ji17)).toNat * 4)).block, (ad103.add (((ji17)).toNat * 4)).off + 3, none⟩ = some (.bool ((rd_T40 l0_1 (ji17)).f3))) (ds := []) (lb 19 0) zk rfl rfl ⟨(blk_cell BK104.out 0).trans rfl, (blk_cell BK104.out 1).trans rfl, (blk_cell BK104.out 2).trans rfl, (blk_cell BK104.out 3).trans rfl, (blk_cell BK101.out 0).trans rfl, (blk_cell BK101.out 1).trans rfl, (pw_cell_below HB.out hw106_0), (pw_cell_below HB.out hw106_1), (pw_cell_below HB.out hw106_2), (pw_cell_below HB.out hw106_3)⟩ (fun hHeld => ?_); refine with_tabW spec_HeldOk.tab7 spec_HeldOk.bits7 (fun HT_ HW_ => ?_)
           generalize w20.drew = w21 at BK101 BK104 HB hx106_0 hx106_1 hx106_2 hx106_3 hHeld ⊢
           refine tz 0 (some 22) (lb 19 1) rfl rfl HT_.out HW_.out hHeld ?_; refine one_ (i := 1) (N := some 23) (lb 19 3) rfl rfl (one_of HT_.out zk) (by decide) (fun K hK => ?_); refine goes_ Try.func35 zk rfl #[.agg #[.int .i64 ((rd_T40 l0_1 x3_1).f0), .int .i64 ((rd_T40 l0_1 x3_1).f1), .int .i64 ((rd_T40 l0_1 x3_1).f2), .bool ((rd_T40 l0_1 x3_1).f3)]] (by rfl) rfl rfl zm ?_; (with_reducible refine (spec_l17Hold.calls ((rd_T40 l0_1 x3_1).f0) ((rd_T40 l0_1 x3_1).f1) ((rd_T40 l0_1 x3_1).f2) ((rd_T40 l0_1 x3_1).f3) true _ A14.out).mono ?_); rintro e w22 ⟨rfl, hb⟩; refine ⟨_, rfl, ?_⟩; replace BK101 := Aside0.mk (blk_below (kz BK101.out) hb); replace BK104 := Aside0.mk (blk_below (kz BK104.out) hb); replace HB := Aside0.mk (below_step (bs2 HB.out GE101.out GE104.out) hb); (try clear hb); refine hK.out _ _ ⟨(blk_cell BK104.out 0).trans rfl, (blk_cell BK104.out 1).trans rfl, (blk_cell BK104.out 2).trans rfl, (blk_cell BK104.out 3).trans rfl, (blk_cell BK101.out 0).trans rfl, (blk_cell BK101.out 1).trans rfl, (pw_cell_below HB.out hw106_0), (pw_cell_below HB.out hw106_1), (pw_cell_below HB.out hw106_2), (pw_cell_below HB.out hw106_3)⟩ (fun hHeld => ?_); clear hK K; refine nm_ ?_; refine pz 2 (some 24) (lb 19 7) rfl rfl HT_.out ?_; refine pz 3 (some 25) (lb 19 15) rfl rfl HT_.out ?_; refine pz 4 (some 26) (lb 19 31) rfl rfl HT_.out ?_; refine pz 5 (some 27) (lb 19 63) rfl rfl HT_.out ?_; refine pz 6 (some 28) (lb 19 127) rfl rfl HT_.out ?_; refine pz 7 (some 29) (lb 19 255) rfl rfl HT_.out ?_; refine pz 9 (some 31) (lb 19 767) rfl rfl HT_.out ?_; refine pz 10 (some 32) (lb 19 1791) rfl rfl HT_.out ?_; refine pz 14 (some 36) (lb 19 18175) rfl rfl HT_.out ?_; refine tz 8 (some 30) (lb 19 18431) rfl rfl HT_.out HW_.out hHeld ?_; refine pz 11 (some 33) (lb 19 20479) rfl rfl HT_.out ?_; refine pz 12 (some 34) (lb 19 24575) rfl rfl HT_.out ?_; refine tz 13 (some 35) (lb 19 32767) rfl rfl HT_.out HW_.out hHeld ?_; refine tz 15 (some 37) (lb 19 65535) rfl rfl HT_.out HW_.out hHeld ?_; refine pz 16 (some 38) (lb 19 131071) rfl rfl HT_.out ?_; refine pz 17 (some 39) (lb 19 262143) rfl rfl HT_.out ?_; refine pz 18 (some 40) (lb 19 524287) rfl rfl HT_.out ?_; refine done_ (done_of HT_.out zk) ?_
           try go_wp2
           go_meet
           case rel => exact ⟨_, (decide (((rd_T40 l0_1 (ji17)).f0) ≥ ((rd_T40 l0_1 x3_1).f0))), (by first | rfl | (simp; done) | (simp only [← hji17] <;> (first | rfl | simp)) | (simp [*]; done)), H', ⟨by have := HK1.out; first | omega | exact Nat.le_refl _⟩, ⟨kz (BK101.out)⟩, ⟨kz (BK104.out)⟩, ⟨bs2 HB.out GE101.out GE104.out⟩⟩
          ·
           rw [if_neg c19] at H
           exact absurd H (by simp)
         ·
          rw [if_neg c18] at H
          exact absurd H (by simp)
        ·
         rw [if_neg c16] at H; have c16b0 : decide (0 < x3_1) = false := decide_eq_false c16; clear c16
         (first | rw [c16b0] | (simp only [i64_w, i32_w]; rw [c16b0]) | skip)
         have H' := Aside0.mk H; clear H
         try go_wp2
         have n0_ : Aside0 (((((w11.setCell ⟨gb104, 0, none⟩ (.int .i64 ((rd_T40 l0_1 x3_1).f0))).setCell ⟨gb104, 1, none⟩ (.int .i64 ((rd_T40 l0_1 x3_1).f1))).setCell ⟨gb104, 2, none⟩ (.int .i64 ((rd_T40 l0_1 x3_1).f2))).setCell ⟨gb104, 3, none⟩ (.bool ((rd_T40 l0_1 x3_1).f3))).heap[gb101]? = some (.cells #[.slice A0_0 l0_0.length c0_0, .slice (some ad103) l0_1.length c0_1] 29 (0, 0))) := ⟨by (with_reducible repeat (first | refine blk_drewN ?_ _ | refine blk_drew ?_ | refine blk_alloc ?_ _ | refine blk_far ?_ NB101_104.out _)); exact BK101.out⟩; have n1_ : Aside0 (((((w11.setCell ⟨gb104, 0, none⟩ (.int .i64 ((rd_T40 l0_1 x3_1).f0))).setCell ⟨gb104, 1, none⟩ (.int .i64 ((rd_T40 l0_1 x3_1).f1))).setCell ⟨gb104, 2, none⟩ (.int .i64 ((rd_T40 l0_1 x3_1).f2))).setCell ⟨gb104, 3, none⟩ (.bool ((rd_T40 l0_1 x3_1).f3))).heap[gb104]? = some (.cells #[.int .i64 ((rd_T40 l0_1 x3_1).f0), .int .i64 ((rd_T40 l0_1 x3_1).f1), .int .i64 ((rd_T40 l0_1 x3_1).f2), .bool ((rd_T40 l0_1 x3_1).f3)] 40 (0, 0))) := ⟨by (with_reducible repeat (first | refine blk_drewN ?_ _ | refine blk_drew ?_ | refine blk_alloc ?_ _)); refine blk_put (cs := #[.int .i64 ((rd_T40 l0_1 x3_1).f0), .int .i64 ((rd_T40 l0_1 x3_1).f1), .int .i64 ((rd_T40 l0_1 x3_1).f2), .bool false]) ?_ 3 _ rfl; (with_reducible repeat (first | refine blk_drewN ?_ _ | refine blk_drew ?_ | refine blk_alloc ?_ _)); refine blk_put (cs := #[.int .i64 ((rd_T40 l0_1 x3_1).f0), .int .i64 ((rd_T40 l0_1 x3_1).f1), .int .i64 0, .bool false]) ?_ 2 _ rfl; (with_reducible repeat (first | refine blk_drewN ?_ _ | refine blk_drew ?_ | refine blk_alloc ?_ _)); refine blk_put (cs := #[.int .i64 ((rd_T40 l0_1 x3_1).f0), .int .i64 0, .int .i64 0, .bool false]) ?_ 1 _ rfl; (with_reducible repeat (first | refine blk_drewN ?_ _ | refine blk_drew ?_ | refine blk_alloc ?_ _)); refine blk_put (cs := #[.int .i64 0, .int .i64 0, .int .i64 0, .bool false]) ?_ 0 _ rfl; (with_reducible repeat (first | refine blk_drewN ?_ _ | refine blk_drew ?_ | refine blk_alloc ?_ _)); exact BK104.out⟩; have n2_ : Aside0 (Below w.heap.size w ((((w11.setCell ⟨gb104, 0, none⟩ (.int .i64 ((rd_T40 l0_1 x3_1).f0))).setCell ⟨gb104, 1, none⟩ (.int .i64 ((rd_T40 l0_1 x3_1).f1))).setCell ⟨gb104, 2, none⟩ (.int .i64 ((rd_T40 l0_1 x3_1).f2))).setCell ⟨gb104, 3, none⟩ (.bool ((rd_T40 l0_1 x3_1).f3)))) := ⟨bs2 HB.out GE101.out GE104.out⟩; (try clear BK101); (try clear BK104); (try clear HB)
         generalize ((((w11.setCell ⟨gb104, 0, none⟩ (.int .i64 ((rd_T40 l0_1 x3_1).f0))).setCell ⟨gb104, 1, none⟩ (.int .i64 ((rd_T40 l0_1 x3_1).f1))).setCell ⟨gb104, 2, none⟩ (.int .i64 ((rd_T40 l0_1 x3_1).f2))).setCell ⟨gb104, 3, none⟩ (.bool ((rd_T40 l0_1 x3_1).f3))) = w23 at n0_ n1_ n2_ ⊢
         have BK101 := n0_; have BK104 := n1_; have HB := n2_; clear n0_ n1_ n2_; replace BK101 := Aside0.mk (blk_drew BK101.out); replace BK104 := Aside0.mk (blk_drew BK104.out); replace HB := Aside0.mk (below_drew1 HB.out); refine start_ (n := 19) (S := fun w' => w'.cell? ⟨gb104, 0, none⟩ = some (.int .i64 ((rd_T40 l0_1 x3_1).f0)) ∧ w'.cell? ⟨gb104, 1, none⟩ = some (.int .i64 ((rd_T40 l0_1 x3_1).f1)) ∧ w'.cell? ⟨gb104, 2, none⟩ = some (.int .i64 ((rd_T40 l0_1 x3_1).f2)) ∧ w'.cell? ⟨gb104, 3, none⟩ = some (.bool ((rd_T40 l0_1 x3_1).f3))) (ds := []) (lb 19 0) zk rfl rfl ⟨(blk_cell BK104.out 0).trans rfl, (blk_cell BK104.out 1).trans rfl, (blk_cell BK104.out 2).trans rfl, (blk_cell BK104.out 3).trans rfl⟩ (fun hHeld => ?_); refine with_tabW spec_HeldOk.tab7 spec_HeldOk.bits7 (fun HT_ HW_ => ?_)
         generalize w23.drew = w24 at BK101 BK104 HB hHeld ⊢
         refine tz 0 (some 22) (lb 19 1) rfl rfl HT_.out HW_.out hHeld ?_; refine one_ (i := 1) (N := some 23) (lb 19 3) rfl rfl (one_of HT_.out zk) (by decide) (fun K hK => ?_); refine goes_ Try.func35 zk rfl #[.agg #[.int .i64 ((rd_T40 l0_1 x3_1).f0), .int .i64 ((rd_T40 l0_1 x3_1).f1), .int .i64 ((rd_T40 l0_1 x3_1).f2), .bool ((rd_T40 l0_1 x3_1).f3)]] (by rfl) rfl rfl zm ?_; (with_reducible refine (spec_l17Hold.calls ((rd_T40 l0_1 x3_1).f0) ((rd_T40 l0_1 x3_1).f1) ((rd_T40 l0_1 x3_1).f2) ((rd_T40 l0_1 x3_1).f3) true _ A14.out).mono ?_); rintro e w25 ⟨rfl, hb⟩; refine ⟨_, rfl, ?_⟩; replace BK101 := Aside0.mk (blk_below (kz BK101.out) hb); replace BK104 := Aside0.mk (blk_below (kz BK104.out) hb); replace HB := Aside0.mk (below_step (bs2 HB.out GE101.out GE104.out) hb); (try clear hb); refine hK.out _ _ ⟨(blk_cell BK104.out 0).trans rfl, (blk_cell BK104.out 1).trans rfl, (blk_cell BK104.out 2).trans rfl, (blk_cell BK104.out 3).trans rfl⟩ (fun hHeld => ?_); clear hK K; refine nm_ ?_; refine pz 2 (some 24) (lb 19 7) rfl rfl HT_.out ?_; refine pz 3 (some 25) (lb 19 15) rfl rfl HT_.out ?_; refine pz 4 (some 26) (lb 19 31) rfl rfl HT_.out ?_; refine pz 5 (some 27) (lb 19 63) rfl rfl HT_.out ?_; refine pz 6 (some 28) (lb 19 127) rfl rfl HT_.out ?_; refine nz 7 (some 29) (lb 19 255) rfl rfl HT_.out ?_; refine nz 8 (some 30) (lb 19 511) rfl rfl HT_.out ?_; refine nz 9 (some 31) (lb 19 1023) rfl rfl HT_.out ?_; refine nz 10 (some 32) (lb 19 2047) rfl rfl HT_.out ?_; refine nz 11 (some 33) (lb 19 4095) rfl rfl HT_.out ?_; refine nz 12 (some 34) (lb 19 8191) rfl rfl HT_.out ?_; refine nz 13 (some 35) (lb 19 16383) rfl rfl HT_.out ?_; refine nz 14 (some 36) (lb 19 32767) rfl rfl HT_.out ?_; refine nz 15 (some 37) (lb 19 65535) rfl rfl HT_.out ?_; refine nz 16 (some 38) (lb 19 131071) rfl rfl HT_.out ?_; refine pz 17 (some 39) (lb 19 262143) rfl rfl HT_.out ?_; refine pz 18 (some 40) (lb 19 524287) rfl rfl HT_.out ?_; refine done_ (done_of HT_.out zk) ?_
         try go_wp2
         go_meet
         case rel => exact ⟨_, (false), zr, H', ⟨by have := HK1.out; first | omega | exact Nat.le_refl _⟩, ⟨kz (BK101.out)⟩, ⟨kz (BK104.out)⟩, ⟨bs2 HB.out GE101.out GE104.out⟩⟩
       ·
        replace c15 := Bool.eq_false_iff.mpr c15; subst c15; rw [if_neg nf_] at H; have H' := Aside0.mk H; clear H
        try go_wp2
        have n0_ : Aside0 (((((w11.setCell ⟨gb104, 0, none⟩ (.int .i64 ((rd_T40 l0_1 x3_1).f0))).setCell ⟨gb104, 1, none⟩ (.int .i64 ((rd_T40 l0_1 x3_1).f1))).setCell ⟨gb104, 2, none⟩ (.int .i64 ((rd_T40 l0_1 x3_1).f2))).setCell ⟨gb104, 3, none⟩ (.bool ((rd_T40 l0_1 x3_1).f3))).heap[gb101]? = some (.cells #[.slice A0_0 l0_0.length c0_0, .slice (some ad103) l0_1.length c0_1] 29 (0, 0))) := ⟨by (with_reducible repeat (first | refine blk_drewN ?_ _ | refine blk_drew ?_ | refine blk_alloc ?_ _ | refine blk_far ?_ NB101_104.out _)); exact BK101.out⟩; have n1_ : Aside0 (((((w11.setCell ⟨gb104, 0, none⟩ (.int .i64 ((rd_T40 l0_1 x3_1).f0))).setCell ⟨gb104, 1, none⟩ (.int .i64 ((rd_T40 l0_1 x3_1).f1))).setCell ⟨gb104, 2, none⟩ (.int .i64 ((rd_T40 l0_1 x3_1).f2))).setCell ⟨gb104, 3, none⟩ (.bool ((rd_T40 l0_1 x3_1).f3))).heap[gb104]? = some (.cells #[.int .i64 ((rd_T40 l0_1 x3_1).f0), .int .i64 ((rd_T40 l0_1 x3_1).f1), .int .i64 ((rd_T40 l0_1 x3_1).f2), .bool ((rd_T40 l0_1 x3_1).f3)] 40 (0, 0))) := ⟨by (with_reducible repeat (first | refine blk_drewN ?_ _ | refine blk_drew ?_ | refine blk_alloc ?_ _)); refine blk_put (cs := #[.int .i64 ((rd_T40 l0_1 x3_1).f0), .int .i64 ((rd_T40 l0_1 x3_1).f1), .int .i64 ((rd_T40 l0_1 x3_1).f2), .bool false]) ?_ 3 _ rfl; (with_reducible repeat (first | refine blk_drewN ?_ _ | refine blk_drew ?_ | refine blk_alloc ?_ _)); refine blk_put (cs := #[.int .i64 ((rd_T40 l0_1 x3_1).f0), .int .i64 ((rd_T40 l0_1 x3_1).f1), .int .i64 0, .bool false]) ?_ 2 _ rfl; (with_reducible repeat (first | refine blk_drewN ?_ _ | refine blk_drew ?_ | refine blk_alloc ?_ _)); refine blk_put (cs := #[.int .i64 ((rd_T40 l0_1 x3_1).f0), .int .i64 0, .int .i64 0, .bool false]) ?_ 1 _ rfl; (with_reducible repeat (first | refine blk_drewN ?_ _ | refine blk_drew ?_ | refine blk_alloc ?_ _)); refine blk_put (cs := #[.int .i64 0, .int .i64 0, .int .i64 0, .bool false]) ?_ 0 _ rfl; (with_reducible repeat (first | refine blk_drewN ?_ _ | refine blk_drew ?_ | refine blk_alloc ?_ _)); exact BK104.out⟩; have n2_ : Aside0 (Below w.heap.size w ((((w11.setCell ⟨gb104, 0, none⟩ (.int .i64 ((rd_T40 l0_1 x3_1).f0))).setCell ⟨gb104, 1, none⟩ (.int .i64 ((rd_T40 l0_1 x3_1).f1))).setCell ⟨gb104, 2, none⟩ (.int .i64 ((rd_T40 l0_1 x3_1).f2))).setCell ⟨gb104, 3, none⟩ (.bool ((rd_T40 l0_1 x3_1).f3)))) := ⟨bs2 HB.out GE101.out GE104.out⟩; (try clear BK101); (try clear BK104); (try clear HB)
        generalize ((((w11.setCell ⟨gb104, 0, none⟩ (.int .i64 ((rd_T40 l0_1 x3_1).f0))).setCell ⟨gb104, 1, none⟩ (.int .i64 ((rd_T40 l0_1 x3_1).f1))).setCell ⟨gb104, 2, none⟩ (.int .i64 ((rd_T40 l0_1 x3_1).f2))).setCell ⟨gb104, 3, none⟩ (.bool ((rd_T40 l0_1 x3_1).f3))) = w26 at n0_ n1_ n2_ ⊢
        have BK101 := n0_; have BK104 := n1_; have HB := n2_; clear n0_ n1_ n2_; replace BK101 := Aside0.mk (blk_drew BK101.out); replace BK104 := Aside0.mk (blk_drew BK104.out); replace HB := Aside0.mk (below_drew1 HB.out); refine start_ (n := 19) (S := fun w' => w'.cell? ⟨gb104, 0, none⟩ = some (.int .i64 ((rd_T40 l0_1 x3_1).f0)) ∧ w'.cell? ⟨gb104, 1, none⟩ = some (.int .i64 ((rd_T40 l0_1 x3_1).f1)) ∧ w'.cell? ⟨gb104, 2, none⟩ = some (.int .i64 ((rd_T40 l0_1 x3_1).f2)) ∧ w'.cell? ⟨gb104, 3, none⟩ = some (.bool ((rd_T40 l0_1 x3_1).f3))) (ds := []) (lb 19 0) zk rfl rfl ⟨(blk_cell BK104.out 0).trans rfl, (blk_cell BK104.out 1).trans rfl, (blk_cell BK104.out 2).trans rfl, (blk_cell BK104.out 3).trans rfl⟩ (fun hHeld => ?_); refine with_tabW spec_HeldOk.tab7 spec_HeldOk.bits7 (fun HT_ HW_ => ?_)
        generalize w26.drew = w27 at BK101 BK104 HB hHeld ⊢
        refine tz 0 (some 22) (lb 19 1) rfl rfl HT_.out HW_.out hHeld ?_; refine one_ (i := 1) (N := some 23) (lb 19 3) rfl rfl (one_of HT_.out zk) (by decide) (fun K hK => ?_); refine goes_ Try.func35 zk rfl #[.agg #[.int .i64 ((rd_T40 l0_1 x3_1).f0), .int .i64 ((rd_T40 l0_1 x3_1).f1), .int .i64 ((rd_T40 l0_1 x3_1).f2), .bool ((rd_T40 l0_1 x3_1).f3)]] (by rfl) rfl rfl zm ?_; (with_reducible refine (spec_l17Hold.calls ((rd_T40 l0_1 x3_1).f0) ((rd_T40 l0_1 x3_1).f1) ((rd_T40 l0_1 x3_1).f2) ((rd_T40 l0_1 x3_1).f3) false _ A14.out).mono ?_); rintro e w28 ⟨rfl, hb⟩; refine ⟨_, rfl, ?_⟩; replace BK101 := Aside0.mk (blk_below (kz BK101.out) hb); replace BK104 := Aside0.mk (blk_below (kz BK104.out) hb); replace HB := Aside0.mk (below_step (bs2 HB.out GE101.out GE104.out) hb); (try clear hb); refine hK.out _ _ ⟨(blk_cell BK104.out 0).trans rfl, (blk_cell BK104.out 1).trans rfl, (blk_cell BK104.out 2).trans rfl, (blk_cell BK104.out 3).trans rfl⟩ (fun hHeld => ?_); clear hK K; refine nm_ ?_; refine pz 2 (some 24) (lb 19 7) rfl rfl HT_.out ?_; refine pz 3 (some 25) (lb 19 15) rfl rfl HT_.out ?_; refine nz 4 (some 26) (lb 19 31) rfl rfl HT_.out ?_; refine nz 5 (some 27) (lb 19 63) rfl rfl HT_.out ?_; refine nz 6 (some 28) (lb 19 127) rfl rfl HT_.out ?_; refine nz 7 (some 29) (lb 19 255) rfl rfl HT_.out ?_; refine nz 8 (some 30) (lb 19 511) rfl rfl HT_.out ?_; refine nz 9 (some 31) (lb 19 1023) rfl rfl HT_.out ?_; refine nz 10 (some 32) (lb 19 2047) rfl rfl HT_.out ?_; refine nz 11 (some 33) (lb 19 4095) rfl rfl HT_.out ?_; refine nz 12 (some 34) (lb 19 8191) rfl rfl HT_.out ?_; refine nz 13 (some 35) (lb 19 16383) rfl rfl HT_.out ?_; refine nz 14 (some 36) (lb 19 32767) rfl rfl HT_.out ?_; refine nz 15 (some 37) (lb 19 65535) rfl rfl HT_.out ?_; refine nz 16 (some 38) (lb 19 131071) rfl rfl HT_.out ?_; refine nz 17 (some 39) (lb 19 262143) rfl rfl HT_.out ?_; refine pz 18 (some 40) (lb 19 524287) rfl rfl HT_.out ?_; refine done_ (done_of HT_.out zk) ?_
        try go_wp2
        go_meet
        case rel => exact ⟨_, (true), zr, H', ⟨by have := HK1.out; first | omega | exact Nat.le_refl _⟩, ⟨kz (BK101.out)⟩, ⟨kz (BK104.out)⟩, ⟨bs2 HB.out GE101.out GE104.out⟩⟩
      case rest =>
       clear HC9
       try clear c1
       try clear p1
       try clear q1
       try clear hx1
       try clear p2
       try clear c3
       try clear p6
       try clear c7
       try clear c7b0
       try clear c8
       try clear c8b0
       try clear p10
       try clear q10
       try clear hx10
       try clear c12
       try clear c15
       try clear c16
       try clear c16b0
       try clear c18
       try clear c18b0
       try clear c19
       try clear c19b0
       try clear hcz10_0
       try clear hcz10_1
       try clear hcz13_0
       try clear hcz13_1
       try clear hcz13_2
       try clear hcz13_3
       try clear hfz10_0
       try clear hfz10_1
       try clear hfz13_0
       try clear hfz13_1
       try clear hfz13_2
       try clear hfz13_3
       try clear hfz5_1
       try clear hx103_0
       try clear hx103_1
       try clear hx103_2
       try clear hx103_3
       try clear hx106_0
       try clear hx106_1
       try clear hx106_2
       try clear hx106_3
       try clear p103
       try clear p106
       try clear q103
       try clear q106
       obtain ⟨kq, x40_8, rfl, HA, HJ8, BK101, BK104, HB⟩ := hcut
       cases kq with
       | zero => exact absurd HA.out (by simp [spec_HeldOk.j1])
       | succ kj8 =>
        have H := HA.out; clear HA; simp only [spec_HeldOk.j1] at H
        by_cases c29 : x40_8 = true
        ·
         subst c29; rw [if_pos rfl] at H; obtain rfl := Option.some.inj H
         go_wp2
         go_ret
         exact ⟨ze, bs2 HB.out GE101.out GE104.out⟩
        ·
         replace c29 := Bool.eq_false_iff.mpr c29; subst c29; rw [if_neg nf_] at H; replace H := Option.bind_eq_some_iff.mp H; obtain ⟨t107, A300, H⟩ := H; have A30 := Aside0.mk A300; clear A300
         by_cases c31 : (t107.length : Int) = 0
         ·
          rw [if_pos c31] at H; have c31b0 : ((t107.length : Int) == 0) = true := beq_iff_eq.mpr c31; have c31b1 : ((t107.length : Int) != 0) = false := bne_eq_false_iff_eq.mpr c31; clear c31; obtain rfl := Option.some.inj H; have hnb32 := NB101_104.out; have hnc32 := NB104_101.out; obtain ⟨hcz33_0, hcz33_1⟩ := cz2 BK101.out; obtain ⟨hfz33_0, hfz33_1⟩ := fz2 BK101.out; obtain ⟨hcz34_0, hcz34_1, hcz34_2, hcz34_3⟩ := cz4 BK104.out; obtain ⟨hfz34_0, hfz34_1, hfz34_2, hfz34_3⟩ := fz4 BK104.out
          go_wp2_with (first | ((with_reducible refine gate_callee (f := 36) rfl ?_); refine goesL_ (some 44) rfl rfl Try.func36 zk rfl #[.slice A0_0 l0_0.length c0_0, .agg #[.int .i64 ((rd_T40 l0_1 x3_1).f0), .int .i64 ((rd_T40 l0_1 x3_1).f1), .int .i64 ((rd_T40 l0_1 x3_1).f2), .bool ((rd_T40 l0_1 x3_1).f3)]] rfl zm ?_; (with_reducible refine (spec_l17Who.calls kj8 _ _ l0_0 ((rd_T40 l0_1 x3_1).f0) ((rd_T40 l0_1 x3_1).f1) ((rd_T40 l0_1 x3_1).f2) ((rd_T40 l0_1 x3_1).f3) t107 _ ?side1 ?side2 A30.out).mono ?_); (case side1 => exact cz (Kd.C_below HR0_0.out HB.out)); (case side2 => exact HC0_0.out); rintro e w35 ⟨v108, rfl, ho0, hb⟩; refine ⟨_, rfl, ?_⟩; have HO109 := Aside0.mk (Kd.R_lower ho0 (below_size (bs2 HB.out GE101.out GE104.out))); replace BK101 := Aside0.mk (blk_below (kz BK101.out) hb); replace BK104 := Aside0.mk (blk_below (kz BK104.out) hb); replace HB := Aside0.mk (below_step (bs2 HB.out GE101.out GE104.out) hb); (try clear hb); (try clear ho0); obtain ⟨Ao36, co36, eo36⟩ := Kd.R_slice HO109.out; subst eo36))
          go_ret
          exact ⟨ze, bs2 HB.out GE101.out GE104.out⟩
         ·
          rw [if_neg c31] at H; have c31b0 : ((t107.length : Int) == 0) = false := beq_eq_false_iff_ne.mpr c31; have c31b1 : ((t107.length : Int) != 0) = true := bne_iff_ne.mpr c31
          have c31b2 : ¬ (t107 = []) := fun h_ => c31 (by rw [h_]; rfl)
          replace H := Option.bind_eq_some_iff.mp H; obtain ⟨t110, A370, H⟩ := H; have A37 := Aside0.mk A370; clear A370
          by_cases c38 : t110 = true
          ·
           subst c38; rw [if_pos rfl] at H; obtain rfl := Option.some.inj H; have hnb39 := NB101_104.out; have hnc39 := NB104_101.out; obtain ⟨hcz40_0, hcz40_1⟩ := cz2 BK101.out; obtain ⟨hfz40_0, hfz40_1⟩ := fz2 BK101.out; obtain ⟨hcz41_0, hcz41_1, hcz41_2, hcz41_3⟩ := cz4 BK104.out; obtain ⟨hfz41_0, hfz41_1, hfz41_2, hfz41_3⟩ := fz4 BK104.out
           go_wp2_with (first | ((with_reducible refine gate_callee (f := 36) rfl ?_); refine goesL_ (some 44) rfl rfl Try.func36 zk rfl #[.slice A0_0 l0_0.length c0_0, .agg #[.int .i64 ((rd_T40 l0_1 x3_1).f0), .int .i64 ((rd_T40 l0_1 x3_1).f1), .int .i64 ((rd_T40 l0_1 x3_1).f2), .bool ((rd_T40 l0_1 x3_1).f3)]] rfl zm ?_; (with_reducible refine (spec_l17Who.calls kj8 _ _ l0_0 ((rd_T40 l0_1 x3_1).f0) ((rd_T40 l0_1 x3_1).f1) ((rd_T40 l0_1 x3_1).f2) ((rd_T40 l0_1 x3_1).f3) t107 _ ?side1 ?side2 A30.out).mono ?_); (case side1 => exact cz (Kd.C_below HR0_0.out HB.out)); (case side2 => exact HC0_0.out); rintro e w42 ⟨v108, rfl, ho0, hb⟩; refine ⟨_, rfl, ?_⟩; have HO109 := Aside0.mk (Kd.R_lower ho0 (below_size (bs2 HB.out GE101.out GE104.out))); replace BK101 := Aside0.mk (blk_below (kz BK101.out) hb); replace BK104 := Aside0.mk (blk_below (kz BK104.out) hb); replace HB := Aside0.mk (below_step (bs2 HB.out GE101.out GE104.out) hb); (try clear hb); (try clear ho0); obtain ⟨Ao43, co43, eo43⟩ := Kd.R_slice HO109.out; subst eo43; obtain ⟨hcz44_0, hcz44_1⟩ := cz2 BK101.out; obtain ⟨hfz44_0, hfz44_1⟩ := fz2 BK101.out; obtain ⟨hcz45_0, hcz45_1, hcz45_2, hcz45_3⟩ := cz4 BK104.out; obtain ⟨hfz45_0, hfz45_1, hfz45_2, hfz45_3⟩ := fz4 BK104.out) | (go_at_call 37; (with_reducible refine (spec_l17Round.calls kj8 _ _ l0_0 _ _ l0_1 _ _ t107 ((rd_T40 l0_1 x3_1).f0) true _ ?side1 ?side2 ?side3 ?side4 ?side5 ?side6 A37.out).mono ?_); (case side1 => exact cz (Kd.C_below HR0_0.out HB.out)); (case side2 => exact HC0_0.out); (case side3 => exact cz (Kd.C_below HR0_1.out HB.out)); (case side4 => exact HC0_1.out); (case side5 => exact cz ((Kd.R_reads' HO109.out).2.2)); (case side6 => exact (Kd.R_reads' HO109.out).2.1); rintro e w46 ⟨rfl, hb⟩; replace HO109 := Aside0.mk (Kd.R_below (rz HO109.out) hb); replace BK101 := Aside0.mk (blk_below (kz BK101.out) hb); replace BK104 := Aside0.mk (blk_below (kz BK104.out) hb); replace HB := Aside0.mk (below_step (bs2 HB.out GE101.out GE104.out) hb); (try clear hb)))
           go_ret
           exact ⟨ze, bs2 HB.out GE101.out GE104.out⟩
          ·
           replace c38 := Bool.eq_false_iff.mpr c38; subst c38; rw [if_neg nf_] at H; have H' := Aside0.mk H; clear H; have hnb47 := NB101_104.out; have hnc47 := NB104_101.out; obtain ⟨hcz48_0, hcz48_1⟩ := cz2 BK101.out; obtain ⟨hfz48_0, hfz48_1⟩ := fz2 BK101.out; obtain ⟨hcz49_0, hcz49_1, hcz49_2, hcz49_3⟩ := cz4 BK104.out; obtain ⟨hfz49_0, hfz49_1, hfz49_2, hfz49_3⟩ := fz4 BK104.out
           go_wp2_with (first | ((with_reducible refine gate_callee (f := 36) rfl ?_); refine goesL_ (some 44) rfl rfl Try.func36 zk rfl #[.slice A0_0 l0_0.length c0_0, .agg #[.int .i64 ((rd_T40 l0_1 x3_1).f0), .int .i64 ((rd_T40 l0_1 x3_1).f1), .int .i64 ((rd_T40 l0_1 x3_1).f2), .bool ((rd_T40 l0_1 x3_1).f3)]] rfl zm ?_; (with_reducible refine (spec_l17Who.calls kj8 _ _ l0_0 ((rd_T40 l0_1 x3_1).f0) ((rd_T40 l0_1 x3_1).f1) ((rd_T40 l0_1 x3_1).f2) ((rd_T40 l0_1 x3_1).f3) t107 _ ?side1 ?side2 A30.out).mono ?_); (case side1 => exact cz (Kd.C_below HR0_0.out HB.out)); (case side2 => exact HC0_0.out); rintro e w50 ⟨v108, rfl, ho0, hb⟩; refine ⟨_, rfl, ?_⟩; have HO109 := Aside0.mk (Kd.R_lower ho0 (below_size (bs2 HB.out GE101.out GE104.out))); replace BK101 := Aside0.mk (blk_below (kz BK101.out) hb); replace BK104 := Aside0.mk (blk_below (kz BK104.out) hb); replace HB := Aside0.mk (below_step (bs2 HB.out GE101.out GE104.out) hb); (try clear hb); (try clear ho0); obtain ⟨Ao51, co51, eo51⟩ := Kd.R_slice HO109.out; subst eo51; obtain ⟨hcz52_0, hcz52_1⟩ := cz2 BK101.out; obtain ⟨hfz52_0, hfz52_1⟩ := fz2 BK101.out; obtain ⟨hcz53_0, hcz53_1, hcz53_2, hcz53_3⟩ := cz4 BK104.out; obtain ⟨hfz53_0, hfz53_1, hfz53_2, hfz53_3⟩ := fz4 BK104.out) | (go_at_call 37; (with_reducible refine (spec_l17Round.calls kj8 _ _ l0_0 _ _ l0_1 _ _ t107 ((rd_T40 l0_1 x3_1).f0) false _ ?side1 ?side2 ?side3 ?side4 ?side5 ?side6 A37.out).mono ?_); (case side1 => exact cz (Kd.C_below HR0_0.out HB.out)); (case side2 => exact HC0_0.out); (case side3 => exact cz (Kd.C_below HR0_1.out HB.out)); (case side4 => exact HC0_1.out); (case side5 => exact cz ((Kd.R_reads' HO109.out).2.2)); (case side6 => exact (Kd.R_reads' HO109.out).2.1); rintro e w54 ⟨rfl, hb⟩; replace HO109 := Aside0.mk (Kd.R_below (rz HO109.out) hb); replace BK101 := Aside0.mk (blk_below (kz BK101.out) hb); replace BK104 := Aside0.mk (blk_below (kz BK104.out) hb); replace HB := Aside0.mk (below_step (bs2 HB.out GE101.out GE104.out) hb); (try clear hb)))
           go_roundg kj8
           case measure => have := HK1.out; have := HJ8.out; omega
           case rel => exact ⟨(wrap64 (x3_1 + 1)), zr, H', ⟨by have := HK1.out; have := HJ8.out; omega⟩, ⟨kz (BK101.out)⟩, ⟨bs2 HB.out GE101.out GE104.out⟩⟩
     ·
      rw [if_neg c8] at H
      exact absurd H (by simp)
    ·
     rw [if_neg c7] at H; have c7b0 : decide (x3_1 < (l0_1.length : Int)) = false := decide_eq_false c7; clear c7; obtain rfl := Option.some.inj H; obtain ⟨hcz55_0, hcz55_1⟩ := cz2 BK101.out; obtain ⟨hfz55_0, hfz55_1⟩ := fz2 BK101.out
     go_wp2
     go_ret
     exact ⟨ze, bs HB.out GE101.out⟩
 ·
  replace c3 := Bool.eq_false_iff.mpr c3; subst c3; rw [if_neg nf_] at H; obtain rfl := Option.some.inj H
  go_enter Try.func11, Try.ntmps11
  go_wp2_with (first | ((with_reducible refine gate_dst (N := 1) rfl ?_); refine box_event ?hg (N := 1) ?hd (cs := #[.slice A0_0 l0_0.length c0_0, .slice A0_1 l0_1.length c0_1]) (t := 29) ?hr ?_; (case hd => rfl); (case hg => rfl); (case hr => first | (go_simp; done) | (go_simp; rfl)); intro gb101 hg w56 hbox hb; have BK101 := Aside0.mk (hbox); have GW101 := Aside0.mk ((by rw [hg]; exact (below_size (bz HB.out)) : w.heap.size ≤ gb101)); have GE101 := GW101; replace HB := Aside0.mk (below_step (bz HB.out) hb); clear hb hbox hg; obtain ⟨hcz57_0, hcz57_1⟩ := cz2 BK101.out; obtain ⟨hfz57_0, hfz57_1⟩ := fz2 BK101.out) | ((with_reducible refine gate_callee (f := 34) rfl ?_); refine goesL_ (some 8) rfl rfl Try.func34 zk rfl #[.slice A0_0 l0_0.length c0_0] rfl zm ?_; (with_reducible refine (spec_l17Tidy.calls k _ _ l0_0 false _ ?side1 ?side2 A2.out).mono ?_); (case side1 => exact cz (Kd.C_below HR0_0.out HB.out)); (case side2 => exact HC0_0.out); rintro e w58 ⟨rfl, hb⟩; refine ⟨_, rfl, ?_⟩; replace BK101 := Aside0.mk (blk_below (kz BK101.out) hb); replace HB := Aside0.mk (below_step (bs HB.out GE101.out) hb); (try clear hb)))
  go_ret
  exact ⟨ze, bs HB.out GE101.out⟩

end Go.Proofs.Ytgjlbghjjjlhmaa.P
