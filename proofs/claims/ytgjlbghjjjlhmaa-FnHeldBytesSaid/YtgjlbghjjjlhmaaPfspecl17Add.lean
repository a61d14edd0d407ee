-- printed by wip/qd.py
import Derived.Test.YtgjlbghjjjlhmaaPf0
namespace Go.Proofs.Ytgjlbghjjjlhmaa.P
open Go.RowKit Go.Proofs.YtgjlbghjjjlhmaaW.PrintWords Go.Proofs.YtgjlbghjjjlhmaaW.PrintLast Go.Proofs.YtgjlbghjjjlhmaaW.PrintMore
attribute [local go_sem] max2_int min2_int max_two min_two max_three min_three max_four min_four Q.cell_set_map
set_option linter.unusedVariables false
set_option linter.unusedSimpArgs false

/-! ### spec_l17Add: function 69 -/
mutual
def spec_l17Add.l0 : Nat → List (S40) → List (S40) → Int → Int → Int → Int → Bool → Option ((List (S40)))
 | 0, _, _, _, _, _, _, _ => none
 | k + 1, x0, x5, x6, x102000, x102001, x102002, x102003 => if x6 < 4 then (spec_l17Add.l1 k x0 x5 x6 0 x102000 x102001 x102002 x102003) else (some x5)
def spec_l17Add.l1 : Nat → List (S40) → List (S40) → Int → Int → Int → Int → Int → Bool → Option ((List (S40)))
 | 0, _, _, _, _, _, _, _, _ => none
 | k + 1, x0, x5, x6, x7, x102000, x102001, x102002, x102003 => if x7 < (x0.length : Int) then (if 0 ≤ x7 then (if ((rd_T40 x0 x7).f0) = x6 then (if x5.length < 4398046511104 then (spec_l17Add.l1 k x0 (x5 ++ [(⟨(rd_T40 x0 x7).f0, (rd_T40 x0 x7).f1, (rd_T40 x0 x7).f2, (rd_T40 x0 x7).f3⟩ : S40)]) x6 (wrap64 (x7 + 1)) x102000 x102001 x102002 x102003) else (none)) else (spec_l17Add.l1 k x0 x5 x6 (wrap64 (x7 + 1)) x102000 x102001 x102002 x102003)) else (none)) else (if x102000 = x6 then (if x5.length < 4398046511104 then (spec_l17Add.l0 k x0 (x5 ++ [(⟨x102000, x102001, x102002, x102003⟩ : S40)]) (wrap64 (x6 + 1)) x102000 x102001 x102002 x102003) else (none)) else (spec_l17Add.l0 k x0 x5 (wrap64 (x6 + 1)) x102000 x102001 x102002 x102003))
end
def spec_l17Add.f (k : Nat) (l0 : List (S40)) (a1_0 : Int) (a1_1 : Int) (a1_2 : Int) (a1_3 : Bool) : Option ((List (S40))) := spec_l17Add.l0 k l0 (([] : List (S40))) 0 a1_0 a1_1 a1_2 a1_3
theorem spec_l17Add.mono_l : ∀ k, (∀ y0 y1 y2 y3 y4 y5 y6, LeO (spec_l17Add.l0 k y0 y1 y2 y3 y4 y5 y6) (spec_l17Add.l0 (k + 1) y0 y1 y2 y3 y4 y5 y6)) ∧ (∀ y0 y1 y2 y3 y4 y5 y6 y7, LeO (spec_l17Add.l1 k y0 y1 y2 y3 y4 y5 y6 y7) (spec_l17Add.l1 (k + 1) y0 y1 y2 y3 y4 y5 y6 y7))
 | 0 => ⟨fun _ _ _ _ _ _ _ r h => by simp [spec_l17Add.l0] at h, fun _ _ _ _ _ _ _ _ r h => by simp [spec_l17Add.l1] at h⟩
 | k + 1 => by
  obtain ⟨ih0, ih1⟩ := spec_l17Add.mono_l k
  refine ⟨?_, ?_⟩
  ·
   intro y0 y1 y2 y3 y4 y5 y6
   unfold spec_l17Add.l0
   repeat' first
   | (with_reducible exact ih0 _ _ _ _ _ _ _)
   | (with_reducible exact ih1 _ _ _ _ _ _ _ _)
   | (with_reducible exact LeO.refl _)
   | (with_reducible exact LeO.none _)
   | (with_reducible refine LeO.ite ?_ ?_)
   | (with_reducible refine LeO.bind ?_ (fun _ => ?_))
   | exact ih0 _ _ _ _ _ _ _
   | exact ih1 _ _ _ _ _ _ _ _
   | exact LeO.none _
   | refine LeO.ite ?_ ?_
   | refine LeO.bind ?_ (fun _ => ?_)
  ·
   intro y0 y1 y2 y3 y4 y5 y6 y7
   unfold spec_l17Add.l1
   repeat' first
   | (with_reducible exact ih0 _ _ _ _ _ _ _)
   | (with_reducible exact ih1 _ _ _ _ _ _ _ _)
   | (with_reducible exact LeO.refl _)
   | (with_reducible exact LeO.none _)
   | (with_reducible refine LeO.ite ?_ ?_)
   | (with_reducible refine LeO.bind ?_ (fun _ => ?_))
   | exact ih0 _ _ _ _ _ _ _
   | exact ih1 _ _ _ _ _ _ _ _
   | exact LeO.none _
   | refine LeO.ite ?_ ?_
   | refine LeO.bind ?_ (fun _ => ?_)
theorem spec_l17Add.mono : ∀ a0 a1 a2 a3 a4 k, LeO (spec_l17Add.f k a0 a1 a2 a3 a4) (spec_l17Add.f (k + 1) a0 a1 a2 a3 a4) := by
 intro a0 a1 a2 a3 a4 k
 obtain ⟨ih0, ih1⟩ := spec_l17Add.mono_l k
 unfold spec_l17Add.f
 repeat' first
   | (with_reducible exact ih0 _ _ _ _ _ _ _)
   | (with_reducible exact ih1 _ _ _ _ _ _ _ _)
   | (with_reducible exact LeO.refl _)
   | (with_reducible exact LeO.none _)
   | (with_reducible refine LeO.ite ?_ ?_)
   | (with_reducible refine LeO.bind ?_ (fun _ => ?_))
   | exact ih0 _ _ _ _ _ _ _
   | exact ih1 _ _ _ _ _ _ _ _
   | exact LeO.none _
   | refine LeO.ite ?_ ?_
   | refine LeO.bind ?_ (fun _ => ?_)
set_option maxHeartbeats 8000000 in
set_option maxRecDepth 100000 in
theorem spec_l17Add.calls (k : Nat) (A0 : Option Addr) (c0 : Nat) (l0 : List (S40)) (a1_0 : Int) (a1_1 : Int) (a1_2 : Int) (a1_3 : Bool) (r : List (S40)) (w : World) (hr0 : Kd.C k40 w A0 l0.length l0) (hc0 : l0.length ≤ c0) (h : spec_l17Add.f k l0 a1_0 a1_1 a1_2 a1_3 = some r) :
  Calls Try.prog 69 #[.slice A0 l0.length c0, .agg #[.int .i64 a1_0, .int .i64 a1_1, .int .i64 a1_2, .bool a1_3]] w fun e w' => ∃ v0_ : Value, e = .returned (v0_) ∧ Kd.R k40 40 w' w.heap.size (fun _ => True) v0_ r ∧ Below w.heap.size w w' := by
 have hu40 := Try.underlying40; have HR0 := Aside0.mk hr0; have HC0 := Aside0.mk hc0; clear hr0 hc0; have HB := Aside0.mk (Below.refl w.heap.size w); have H : (spec_l17Add.l0 k l0 (([] : List (S40))) 0 a1_0 a1_1 a1_2 a1_3) = some r := h; clear h; obtain ⟨y102, hy102⟩ : ∃ y_ : List (S40), y_ = (([] : List (S40))) := ⟨_, rfl⟩
 replace H : (spec_l17Add.l0 k l0 y102 0 a1_0 a1_1 a1_2 a1_3) = some r := by first | (rw [hy102]; with_reducible exact H) | (have H2_ := (Option.bind_some _ _).symm.trans H; rw [hy102]; with_reducible exact H2_) | (have H2_ := (Option.bind_some _ _).symm.trans H; with_reducible exact H2_) | with_reducible exact H | (rw [hy102]; exact H) | exact H
 have Ny102 := Aside0.mk hy102; clear hy102; have H' := Aside0.mk H; clear H
 go_enter Try.func69, Try.ntmps69
 go_wp2_with (first | ((with_reducible refine gate_dst (N := 3) rfl ?_); refine box_event ?hg (N := 3) ?hd (cs := #[.int .i64 a1_0, .int .i64 a1_1, .int .i64 a1_2, .bool a1_3]) (t := 40) ?hr ?_; (case hd => rfl); (case hg => rfl); (case hr => first | (go_simp; done) | (go_simp; rfl)); intro gb101 hg w3 hbox hb; have BK101 := Aside0.mk (hbox); have GW101 := Aside0.mk ((by rw [hg]; exact (below_size (bz HB.out)) : w.heap.size ≤ gb101)); have GE101 := GW101; replace HB := Aside0.mk (below_step (bz HB.out) hb); clear hb hbox hg) | ((with_reducible refine gate_dst (N := 8) rfl ?_); refine Kd.R_lit k40 _ 40 ?hg (N := 8) ?hd (xs := ([] : List (S40))) (inner := []) (ok := fun _ => True) (okp := fun _ => True) ?hr ?hp (fun _ hk => hk) trivial (Below.refl _ _) (Nat.le_refl _) (by simp) ?_; (case hd => rfl); (case hg => rfl); (case hr => first | (go_simp; done) | (go_simp; rfl)); (case hp => exact (Reps.none _ _)); intro v103 w4 ho5 hb hg_ hnew_; clear hg_ hnew_; (first | rw [← Ny102.out] at ho5 | (simp only [Int.reduceToNat] at ho5; rw [← Ny102.out] at ho5)); have HO104 := Aside0.mk (Kd.R_lower (Kd.R_newB ho5 (g := gb101) (o := .cells #[.int .i64 a1_0, .int .i64 a1_1, .int .i64 a1_2, .bool a1_3] 40 (0, 0)) (kz BK101.out)) (below_size (bs HB.out GE101.out))); replace BK101 := Aside0.mk (blk_below (kz BK101.out) hb); replace HB := Aside0.mk (below_step (bs HB.out GE101.out) hb); clear hb ho5))
 go_loopg [5, 6] k (fun kq v5 v6 w' => ∃ (x5_1 : List (S40)) (x6_1 : Int), v6 = .int .i64 x6_1 ∧ Aside0 (spec_l17Add.l0 kq l0 x5_1 x6_1 a1_0 a1_1 a1_2 a1_3 = some r) ∧ Aside0 (kq ≤ k) ∧ Aside0 (Kd.R k40 40 w' w.heap.size (fun k_ => k_ ≠ gb101) v5 x5_1) ∧ Aside0 (w'.heap[gb101]? = some (.cells #[.int .i64 a1_0, .int .i64 a1_1, .int .i64 a1_2, .bool a1_3] 40 (0, 0))) ∧ Aside0 (Below w.heap.size w w'))
 case atStart => exact ⟨(y102), (0), zr, H', ⟨Nat.le_refl _⟩, ⟨rz (Kd.R_mono HO104.out (fun _ hk => hk.2))⟩, ⟨kz (BK101.out)⟩, ⟨bs HB.out GE101.out⟩⟩
 case round =>
  clear H'
  try clear p2
  obtain ⟨x5_1, x6_1, rfl, HA, HK1, HO_5, BK101, HB⟩ := hrel
  cases gk with
  | zero => exact absurd HA.out (by simp [spec_l17Add.l0])
  | succ k1 =>
   have H := HA.out; clear HA; simp only [spec_l17Add.l0] at H
   by_cases c6 : x6_1 < 4
   ·
    rw [if_pos c6] at H; have c6b0 : decide (x6_1 < 4) = true := decide_eq_true c6; clear c6; have H' := Aside0.mk H; clear H
    go_wp2
    go_loopg [5, 7] k1 (fun kq v5 v7 w' => ∃ (x5_2 : List (S40)) (x7_2 : Int), v7 = .int .i64 x7_2 ∧ Aside0 (spec_l17Add.l1 kq l0 x5_2 x6_1 x7_2 a1_0 a1_1 a1_2 a1_3 = some r) ∧ Aside0 (kq ≤ k1) ∧ Aside0 (Kd.R k40 40 w' w.heap.size (fun k_ => k_ ≠ gb101) v5 x5_2) ∧ Aside0 (w'.heap[gb101]? = some (.cells #[.int .i64 a1_0, .int .i64 a1_1, .int .i64 a1_2, .bool a1_3] 40 (0, 0))) ∧ Aside0 (Below w.heap.size w w'))
    case atStart => exact ⟨(x5_1), (0), zr, H', ⟨Nat.le_refl _⟩, ⟨rz (HO_5.out)⟩, ⟨kz (BK101.out)⟩, ⟨bs HB.out GE101.out⟩⟩
    case round =>
     clear H'
     try clear p2
     try clear c6
     try clear c6b0
     try clear p2
     obtain ⟨x5_2, x7_2, rfl, HA, HK2, HO_5, BK101, HB⟩ := hrel
     cases gk with
     | zero => exact absurd HA.out (by simp [spec_l17Add.l1])
     | succ k2 =>
      have H := HA.out; clear HA; simp only [spec_l17Add.l1] at H
      by_cases c7 : x7_2 < (l0.length : Int)
      ·
       rw [if_pos c7] at H; have c7b0 : decide (x7_2 < (l0.length : Int)) = true := decide_eq_true c7; clear c7
       by_cases c8 : 0 ≤ x7_2
       ·
        rw [if_pos c8] at H; have c8b0 : decide (0 ≤ x7_2) = true := decide_eq_true c8; clear c8
        by_cases c9 : ((rd_T40 l0 x7_2).f0) = x6_1
        ·
         rw [if_pos c9] at H; have c9b0 : (((rd_T40 l0 x7_2).f0) == x6_1) = true := beq_iff_eq.mpr c9; have c9b1 : (((rd_T40 l0 x7_2).f0) != x6_1) = false := bne_eq_false_iff_eq.mpr c9; clear c9
         by_cases c10 : x5_2.length < 4398046511104
         ·
          rw [if_pos c10] at H; have LMc10 := Aside0.mk c10; clear c10; obtain ⟨y107, hy107⟩ : ∃ y_ : List (S40), y_ = (x5_2 ++ [(⟨(rd_T40 l0 x7_2).f0, (rd_T40 l0 x7_2).f1, (rd_T40 l0 x7_2).f2, (rd_T40 l0 x7_2).f3⟩ : S40)]) := ⟨_, rfl⟩
          replace H : (spec_l17Add.l1 k2 l0 y107 x6_1 (wrap64 (x7_2 + 1)) a1_0 a1_1 a1_2 a1_3) = some r := by first | (rw [hy107]; with_reducible exact H) | (have H2_ := (Option.bind_some _ _).symm.trans H; rw [hy107]; with_reducible exact H2_) | (have H2_ := (Option.bind_some _ _).symm.trans H; with_reducible exact H2_) | with_reducible exact H | (rw [hy107]; exact H) | exact H
          have Ny107 := Aside0.mk hy107; clear hy107; have H' := Aside0.mk H; clear H; have p105 : 0 ≤ (x7_2 : Int) := of_decide_eq_true zs; have q105 : x7_2 < (l0.length : Int) := of_decide_eq_true zs; obtain ⟨ad105, e105, hx105_0, hx105_1, hx105_2, hx105_3⟩ := at_T40 HR0.out x7_2 p105 q105; cases e105; replace hx105_0 := pw_cell_below HB.out hx105_0; replace hx105_1 := pw_cell_below HB.out hx105_1; replace hx105_2 := pw_cell_below HB.out hx105_2; replace hx105_3 := pw_cell_below HB.out hx105_3; replace p105 := eq_true p105; replace q105 := eq_true q105; have p106 : 0 ≤ (x7_2 : Int) := of_decide_eq_true zs; have q106 : x7_2 < (l0.length : Int) := of_decide_eq_true zs; obtain ⟨ad106, e106, hx106_0, hx106_1, hx106_2, hx106_3⟩ := at_T40 HR0.out x7_2 p106 q106; obtain rfl : ad105 = ad106 := (by injection e106); replace hx106_0 := pw_cell_below HB.out hx106_0; replace hx106_1 := pw_cell_below HB.out hx106_1; replace hx106_2 := pw_cell_below HB.out hx106_2; replace hx106_3 := pw_cell_below HB.out hx106_3; replace p106 := eq_true p106; replace q106 := eq_true q106
          go_wp2_with (first | ((with_reducible refine gate_builtin (b := .append) (xs := #[.tmp 26, .tmp 31]) rfl ?_); at_builtin; refine Kd.R_append k40 (w0 := w) w.heap.size rfl (.tmp 26) (.tmp 31) 27 40 (.agg #[(.int .i64 0), (.int .i64 0), (.int .i64 0), (.bool false)]) 32 rfl Try.underlying27 info40 rfl (by decide) (by omega) u5 x5_2 (⟨(rd_T40 l0 x7_2).f0, (rd_T40 l0 x7_2).f1, (rd_T40 l0 x7_2).f2, (rd_T40 l0 x7_2).f3⟩ : S40) [.int .i64 ((rd_T40 l0 x7_2).f0), .int .i64 ((rd_T40 l0 x7_2).f1), .int .i64 ((rd_T40 l0 x7_2).f2), .bool ((rd_T40 l0 x7_2).f3)] (fun k_ => k_ ≠ gb101) (fun _ => False) rfl rfl ?aP (fun _ hk => hk.elim) ?aF ?aO ?aB ?aS ?aL ?_; (case aP => exact k40_mkM _ _ _ (⟨(rd_T40 l0 x7_2).f0, (rd_T40 l0 x7_2).f1, (rd_T40 l0 x7_2).f2, (rd_T40 l0 x7_2).f3⟩ : S40)); (case aB => exact (bs HB.out GE101.out)); (case aF => exact (fun k_ hk => Kd.freshB (kz BK101.out) k_ hk)); (case aO => exact (rz HO_5.out)); (case aS => exact (below_size (bs HB.out GE101.out))); (case aL => have := LMc10.out; omega); intro v108 w11 ho hb hg hat; rw [← Ny107.out] at ho; have n0_ := Aside0.mk (blk_grown (kz BK101.out) hg (Kd.R_away HO_5.out (fun _ hk => hk))); have n1_ := Aside0.mk (hb); have n2_ := Aside0.mk (ho); clear BK101; clear HB; clear HO_5; have BK101 := n0_; have HB := n1_; have HO109 := n2_; clear n0_ n1_ n2_; clear ho hb hg hat))
          go_roundg k2
          case measure => have := HK1.out; have := HK2.out; omega
          case rel => exact ⟨(y107), (wrap64 (x7_2 + 1)), zr, H', ⟨by have := HK1.out; have := HK2.out; omega⟩, ⟨rz (HO109.out)⟩, ⟨kz (BK101.out)⟩, ⟨bs HB.out GE101.out⟩⟩
         ·
          rw [if_neg c10] at H
          exact absurd H (by simp)
        ·
         rw [if_neg c9] at H; have c9b0 : (((rd_T40 l0 x7_2).f0) == x6_1) = false := beq_eq_false_iff_ne.mpr c9; have c9b1 : (((rd_T40 l0 x7_2).f0) != x6_1) = true := bne_iff_ne.mpr c9; have H' := Aside0.mk H; clear H; have p105 : 0 ≤ (x7_2 : Int) := of_decide_eq_true zs; have q105 : x7_2 < (l0.length : Int) := of_decide_eq_true zs; obtain ⟨ad105, e105, hx105_0, hx105_1, hx105_2, hx105_3⟩ := at_T40 HR0.out x7_2 p105 q105; cases e105; replace hx105_0 := pw_cell_below HB.out hx105_0; replace hx105_1 := pw_cell_below HB.out hx105_1; replace hx105_2 := pw_cell_below HB.out hx105_2; replace hx105_3 := pw_cell_below HB.out hx105_3; replace p105 := eq_true p105; replace q105 := eq_true q105
         go_wp2
         go_roundg k2
         case measure => have := HK1.out; have := HK2.out; omega
         case rel => exact ⟨(x5_2), (wrap64 (x7_2 + 1)), zr, H', ⟨by have := HK1.out; have := HK2.out; omega⟩, ⟨rz (HO_5.out)⟩, ⟨kz (BK101.out)⟩, ⟨bs HB.out GE101.out⟩⟩
       ·
        rw [if_neg c8] at H
        exact absurd H (by simp)
      ·
       rw [if_neg c7] at H; have c7b0 : decide (x7_2 < (l0.length : Int)) = false := decide_eq_false c7; clear c7
       by_cases c12 : a1_0 = x6_1
       ·
        rw [if_pos c12] at H; have c12b0 : (a1_0 == x6_1) = true := beq_iff_eq.mpr c12; have c12b1 : (a1_0 != x6_1) = false := bne_eq_false_iff_eq.mpr c12; clear c12
        by_cases c13 : x5_2.length < 4398046511104
        ·
         rw [if_pos c13] at H; have LMc13 := Aside0.mk c13; clear c13; obtain ⟨y110, hy110⟩ : ∃ y_ : List (S40), y_ = (x5_2 ++ [(⟨a1_0, a1_1, a1_2, a1_3⟩ : S40)]) := ⟨_, rfl⟩
         replace H : (spec_l17Add.l0 k2 l0 y110 (wrap64 (x6_1 + 1)) a1_0 a1_1 a1_2 a1_3) = some r := by first | (rw [hy110]; with_reducible exact H) | (have H2_ := (Option.bind_some _ _).symm.trans H; rw [hy110]; with_reducible exact H2_) | (have H2_ := (Option.bind_some _ _).symm.trans H; with_reducible exact H2_) | with_reducible exact H | (rw [hy110]; exact H) | exact H
         have Ny110 := Aside0.mk hy110; clear hy110; have H' := Aside0.mk H; clear H; obtain ⟨hcz14_0, hcz14_1, hcz14_2, hcz14_3⟩ := cz4 BK101.out; obtain ⟨hfz14_0, hfz14_1, hfz14_2, hfz14_3⟩ := fz4 BK101.out
         go_wp2_with (first | ((with_reducible refine gate_builtin (b := .append) (xs := #[.tmp 37, .tmp 39]) rfl ?_); at_builtin; refine Kd.R_append k40 (w0 := w) w.heap.size rfl (.tmp 37) (.tmp 39) 27 40 (.agg #[(.int .i64 0), (.int .i64 0), (.int .i64 0), (.bool false)]) 32 rfl Try.underlying27 info40 rfl (by decide) (by omega) u5 x5_2 (⟨a1_0, a1_1, a1_2, a1_3⟩ : S40) [.int .i64 a1_0, .int .i64 a1_1, .int .i64 a1_2, .bool a1_3] (fun k_ => k_ ≠ gb101) (fun _ => False) rfl rfl ?aP (fun _ hk => hk.elim) ?aF ?aO ?aB ?aS ?aL ?_; (case aP => exact k40_mkM _ _ _ (⟨a1_0, a1_1, a1_2, a1_3⟩ : S40)); (case aB => exact (bs HB.out GE101.out)); (case aF => exact (fun k_ hk => Kd.freshB (kz BK101.out) k_ hk)); (case aO => exact (rz HO_5.out)); (case aS => exact (below_size (bs HB.out GE101.out))); (case aL => have := LMc13.out; omega); intro v111 w15 ho hb hg hat; rw [← Ny110.out] at ho; have n0_ := Aside0.mk (blk_grown (kz BK101.out) hg (Kd.R_away HO_5.out (fun _ hk => hk))); have n1_ := Aside0.mk (hb); have n2_ := Aside0.mk (ho); clear BK101; clear HB; clear HO_5; have BK101 := n0_; have HB := n1_; have HO112 := n2_; clear n0_ n1_ n2_; clear ho hb hg hat))
         go_roundg k2
         case measure => have := HK1.out; have := HK2.out; omega
         case rel => exact ⟨(y110), (wrap64 (x6_1 + 1)), zr, H', ⟨by have := HK1.out; have := HK2.out; omega⟩, ⟨rz (HO112.out)⟩, ⟨kz (BK101.out)⟩, ⟨bs HB.out GE101.out⟩⟩
        ·
         rw [if_neg c13] at H
         exact absurd H (by simp)
       ·
        rw [if_neg c12] at H; have c12b0 : (a1_0 == x6_1) = false := beq_eq_false_iff_ne.mpr c12; have c12b1 : (a1_0 != x6_1) = true := bne_iff_ne.mpr c12; have H' := Aside0.mk H; clear H; obtain ⟨hcz16_0, hcz16_1, hcz16_2, hcz16_3⟩ := cz4 BK101.out; obtain ⟨hfz16_0, hfz16_1, hfz16_2, hfz16_3⟩ := fz4 BK101.out
        go_wp2
        go_roundg k2
        case measure => have := HK1.out; have := HK2.out; omega
        case rel => exact ⟨(x5_2), (wrap64 (x6_1 + 1)), zr, H', ⟨by have := HK1.out; have := HK2.out; omega⟩, ⟨rz (HO_5.out)⟩, ⟨kz (BK101.out)⟩, ⟨bs HB.out GE101.out⟩⟩
   ·
    rw [if_neg c6] at H; have c6b0 : decide (x6_1 < 4) = false := decide_eq_false c6; clear c6; obtain rfl := Option.some.inj H
    go_wp2
    go_ret
    exact ⟨_, ze, by (with_reducible repeat (first | apply Kd.R_alloc | apply Kd.R_drewN | apply Kd.R_drew)); exact Kd.R_mono HO_5.out (fun _ hk => trivial), bs HB.out GE101.out⟩

end Go.Proofs.Ytgjlbghjjjlhmaa.P
