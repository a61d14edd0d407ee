-- printed by wip/qd.py
import Derived.Test.YtgjlbghjjjlhmaaPf0
namespace Go.Proofs.Ytgjlbghjjjlhmaa.P
open Go.RowKit Go.Proofs.YtgjlbghjjjlhmaaW.PrintWords Go.Proofs.YtgjlbghjjjlhmaaW.PrintLast Go.Proofs.YtgjlbghjjjlhmaaW.PrintMore
attribute [local go_sem] max2_int min2_int max_two min_two max_three min_three max_four min_four Q.cell_set_map
set_option linter.unusedVariables false
set_option linter.unusedSimpArgs false

/-! ### spec_l17Modes: function 44 -/
mutual
def spec_l17Modes.l0 : Nat → List (S40) → Int → List Int → Int → Option (List Int)
 | 0, _, _, _, _ => none
 | k + 1, x0, x1, x5, x6 => if x6 < (x0.length : Int) then (if 0 ≤ x6 then (spec_l17Modes.l1 k x0 x1 x5 x6 ((rd_T40 x0 x6).f1)) else (none)) else (some x5)
def spec_l17Modes.l1 : Nat → List (S40) → Int → List Int → Int → Int → Option (List Int)
 | 0, _, _, _, _, _ => none
 | k + 1, x0, x1, x5, x6, x7 => if 0 ≤ x6 then (if x6 < (x0.length : Int) then (if x7 ≤ ((rd_T40 x0 x6).f2) then (spec_l17Modes.j2 k x0 x1 x5 x6 x7 (((rd_T40 x0 x6).f0) == x1)) else (spec_l17Modes.j2 k x0 x1 x5 x6 x7 false)) else (none)) else (none)
def spec_l17Modes.j2 : Nat → List (S40) → Int → List Int → Int → Int → Bool → Option (List Int)
 | 0, _, _, _, _, _, _ => none
 | k + 1, x0, x1, x5, x6, x7, x35 => if x35 = true then (if 0 ≤ x7 then (if x7 < (x5.length : Int) then ((some (x5.set (x7 : Int).toNat 1 : List Int)).bind fun y107 => (if 0 ≤ x6 then (if x6 < (x0.length : Int) then (if (rd_T40 x0 x6).f3 = true then (spec_l17Modes.l1 k x0 x1 (y107.set (x7 : Int).toNat 2) x6 (wrap64 (x7 + 1))) else (spec_l17Modes.l1 k x0 x1 y107 x6 (wrap64 (x7 + 1)))) else (none)) else (none))) else (none)) else (none)) else (spec_l17Modes.l0 k x0 x1 x5 (wrap64 (x6 + 1)))
end
def spec_l17Modes.f (k : Nat) (l0 : List (S40)) (a1 : Int) : Option (List Int) := if 16 ≤ 35184372088832 then (spec_l17Modes.l0 k l0 a1 (List.replicate 16 0) 0) else (none)
theorem spec_l17Modes.mono_l : ∀ k, (∀ y0 y1 y2 y3, LeO (spec_l17Modes.l0 k y0 y1 y2 y3) (spec_l17Modes.l0 (k + 1) y0 y1 y2 y3)) ∧ (∀ y0 y1 y2 y3 y4, LeO (spec_l17Modes.l1 k y0 y1 y2 y3 y4) (spec_l17Modes.l1 (k + 1) y0 y1 y2 y3 y4)) ∧ (∀ y0 y1 y2 y3 y4 y5, LeO (spec_l17Modes.j2 k y0 y1 y2 y3 y4 y5) (spec_l17Modes.j2 (k + 1) y0 y1 y2 y3 y4 y5))
 | 0 => ⟨fun _ _ _ _ r h => by simp [spec_l17Modes.l0] at h, fun _ _ _ _ _ r h => by simp [spec_l17Modes.l1] at h, fun _ _ _ _ _ _ r h => by simp [spec_l17Modes.j2] at h⟩
 | k + 1 => by
  obtain ⟨ih0, ih1, ih2⟩ := spec_l17Modes.mono_l k
  refine ⟨?_, ?_, ?_⟩
  ·
   intro y0 y1 y2 y3
   unfold spec_l17Modes.l0
   repeat' first
   | (with_reducible exact ih0 _ _ _ _)
   | (with_reducible exact ih1 _ _ _ _ _)
   | (with_reducible exact ih2 _ _ _ _ _ _)
   | (with_reducible exact LeO.refl _)
   | (with_reducible exact LeO.none _)
   | (with_reducible refine LeO.ite ?_ ?_)
   | (with_reducible refine LeO.bind ?_ (fun _ => ?_))
   | exact ih0 _ _ _ _
   | exact ih1 _ _ _ _ _
   | exact ih2 _ _ _ _ _ _
   | exact LeO.none _
   | refine LeO.ite ?_ ?_
   | refine LeO.bind ?_ (fun _ => ?_)
  ·
   intro y0 y1 y2 y3 y4
   unfold spec_l17Modes.l1
   repeat' first
   | (with_reducible exact ih0 _ _ _ _)
   | (with_reducible exact ih1 _ _ _ _ _)
   | (with_reducible exact ih2 _ _ _ _ _ _)
   | (with_reducible exact LeO.refl _)
   | (with_reducible exact LeO.none _)
   | (with_reducible refine LeO.ite ?_ ?_)
   | (with_reducible refine LeO.bind ?_ (fun _ => ?_))
   | exact ih0 _ _ _ _
   | exact ih1 _ _ _ _ _
   | exact ih2 _ _ _ _ _ _
   | exact LeO.none _
   | refine LeO.ite ?_ ?_
   | refine LeO.bind ?_ (fun _ => ?_)
  ·
   intro y0 y1 y2 y3 y4 y5
   unfold spec_l17Modes.j2
   repeat' first
   | (with_reducible exact ih0 _ _ _ _)
   | (with_reducible exact ih1 _ _ _ _ _)
   | (with_reducible exact ih2 _ _ _ _ _ _)
   | (with_reducible exact LeO.refl _)
   | (with_reducible exact LeO.none _)
   | (with_reducible refine LeO.ite ?_ ?_)
   | (with_reducible refine LeO.bind ?_ (fun _ => ?_))
   | exact ih0 _ _ _ _
   | exact ih1 _ _ _ _ _
   | exact ih2 _ _ _ _ _ _
   | exact LeO.none _
   | refine LeO.ite ?_ ?_
   | refine LeO.bind ?_ (fun _ => ?_)
theorem spec_l17Modes.mono : ∀ a0 a1 k, LeO (spec_l17Modes.f k a0 a1) (spec_l17Modes.f (k + 1) a0 a1) := by
 intro a0 a1 k
 obtain ⟨ih0, ih1, ih2⟩ := spec_l17Modes.mono_l k
 unfold spec_l17Modes.f
 repeat' first
   | (with_reducible exact ih0 _ _ _ _)
   | (with_reducible exact ih1 _ _ _ _ _)
   | (with_reducible exact ih2 _ _ _ _ _ _)
   | (with_reducible exact LeO.refl _)
   | (with_reducible exact LeO.none _)
   | (with_reducible refine LeO.ite ?_ ?_)
   | (with_reducible refine LeO.bind ?_ (fun _ => ?_))
   | exact ih0 _ _ _ _
   | exact ih1 _ _ _ _ _
   | exact ih2 _ _ _ _ _ _
   | exact LeO.none _
   | refine LeO.ite ?_ ?_
   | refine LeO.bind ?_ (fun _ => ?_)
set_option maxHeartbeats 8000000 in
set_option maxRecDepth 100000 in
theorem spec_l17Modes.calls (k : Nat) (A0 : Option Addr) (c0 : Nat) (l0 : List (S40)) (a1 : Int) (r : List Int) (w : World) (hr0 : Kd.C k40 w A0 l0.length l0) (hc0 : l0.length ≤ c0) (h : spec_l17Modes.f k l0 a1 = some r) :
  Calls Try.prog 44 #[.slice A0 l0.length c0, .int .i64 a1] w fun e w' => ∃ v0_ : Value, e = .returned (v0_) ∧ Kd.R (Kd.int .i64) 3 w' w.heap.size (fun _ => True) v0_ r ∧ Below w.heap.size w w' := by
 have HR0 := Aside0.mk hr0; have HC0 := Aside0.mk hc0; clear hr0 hc0; have HB := Aside0.mk (Below.refl w.heap.size w); have H : (if 16 ≤ 35184372088832 then (spec_l17Modes.l0 k l0 a1 (List.replicate 16 0) 0) else (none)) = some r := h; clear h
 by_cases c3 : 16 ≤ 35184372088832
 ·
  rw [if_pos c3] at H; have c3b0 := eq_true c3; have c3b1 : decide (16 ≤ 35184372088832) = true := decide_eq_true c3; clear c3; obtain ⟨y101, hy101⟩ : ∃ y_ : List Int, y_ = (List.replicate 16 0) := ⟨_, rfl⟩
  replace H : (spec_l17Modes.l0 k l0 a1 y101 0) = some r := by first | (rw [hy101]; with_reducible exact H) | (have H2_ := (Option.bind_some _ _).symm.trans H; rw [hy101]; with_reducible exact H2_) | (have H2_ := (Option.bind_some _ _).symm.trans H; with_reducible exact H2_) | with_reducible exact H | (rw [hy101]; exact H) | exact H
  have Ny101 := Aside0.mk hy101; clear hy101; have H' := Aside0.mk H; clear H
  go_enter Try.func44, Try.ntmps44
  go_wp2_with (first | ((with_reducible refine gate_dst (N := 8) rfl ?_); refine Kd.R_make (Kd.int .i64) _ 3 rfl (N := 8) rfl 37 _ _ rfl 16 rfl rfl Try.underlying37 (.int .i64 0) 8 info3 rfl (by decide) (by omega) 0 (ok := fun _ => True) (okp := fun _ => True) rfl (fun _ hk => hk) trivial (by omega) (by omega) (Below.refl _ _) (Nat.le_refl _) ?_; intro v102 w4 ho5 hb hg_ hnew_; clear hg_ hnew_; (first | rw [← Ny101.out] at ho5 | (simp only [Int.reduceToNat] at ho5; rw [← Ny101.out] at ho5)); have HO103 := Aside0.mk (Kd.R_lower ho5 (below_size (bz HB.out))); replace HB := Aside0.mk (below_step (bz HB.out) hb); clear hb ho5))
  go_loopg [6] k (fun kq v6 w' => ∃ (x5_1 : List Int) (x6_1 : Int), v6 = .int .i64 x6_1 ∧ Aside0 (spec_l17Modes.l0 kq l0 a1 x5_1 x6_1 = some r) ∧ Aside0 (kq ≤ k) ∧ Aside0 (Kd.R (Kd.int .i64) 3 w' w.heap.size (fun _ => True) v102 x5_1) ∧ Aside0 (Below w.heap.size w w'))
  case atStart => exact ⟨(y101), (0), zr, H', ⟨Nat.le_refl _⟩, ⟨rz (HO103.out)⟩, ⟨bz HB.out⟩⟩
  case round =>
   clear H'
   try clear p2
   try clear c3
   try clear c3b0
   try clear c3b1
   try clear c4
   obtain ⟨x5_1, x6_1, rfl, HA, HK1, HO_5, HB⟩ := hrel
   cases gk with
   | zero => exact absurd HA.out (by simp [spec_l17Modes.l0])
   | succ k1 =>
    have H := HA.out; clear HA; simp only [spec_l17Modes.l0] at H
    by_cases c6 : x6_1 < (l0.length : Int)
    ·
     rw [if_pos c6] at H; have c6b0 : decide (x6_1 < (l0.length : Int)) = true := decide_eq_true c6; clear c6
     by_cases c7 : 0 ≤ x6_1
     ·
      rw [if_pos c7] at H; have c7b0 : decide (0 ≤ x6_1) = true := decide_eq_true c7; clear c7; have H' := Aside0.mk H; clear H; have p104 : 0 ≤ (x6_1 : Int) := of_decide_eq_true zs; have q104 : x6_1 < (l0.length : Int) := of_decide_eq_true zs; obtain ⟨ad104, e104, hx104_0, hx104_1, hx104_2, hx104_3⟩ := at_T40 HR0.out x6_1 p104 q104; cases e104; replace hx104_0 := pw_cell_below HB.out hx104_0; replace hx104_1 := pw_cell_below HB.out hx104_1; replace hx104_2 := pw_cell_below HB.out hx104_2; replace hx104_3 := pw_cell_below HB.out hx104_3; replace p104 := eq_true p104; replace q104 := eq_true q104
      go_wp2
      go_loopg [7] k1 (fun kq v7 w' => ∃ (x5_2 : List Int) (x7_2 : Int), v7 = .int .i64 x7_2 ∧ Aside0 (spec_l17Modes.l1 kq l0 a1 x5_2 x6_1 x7_2 = some r) ∧ Aside0 (kq ≤ k1) ∧ Aside0 (Kd.R (Kd.int .i64) 3 w' w.heap.size (fun _ => True) v102 x5_2) ∧ Aside0 (Below w.heap.size w w'))
      case atStart => exact ⟨(x5_1), ((rd_T40 l0 x6_1).f1), zr, H', ⟨Nat.le_refl _⟩, ⟨rz (HO_5.out)⟩, ⟨bz HB.out⟩⟩
      case round =>
       clear H'
       try clear p1
       try clear q1
       try clear hx1
       try clear p2
       try clear c3
       try clear c3b0
       try clear c3b1
       try clear c4
       try clear c6
       try clear c6b0
       try clear c7
       try clear c7b0
       try clear hx104_0
       try clear hx104_1
       try clear hx104_2
       try clear hx104_3
       try clear p104
       try clear p2
       try clear q104
       obtain ⟨x5_2, x7_2, rfl, HA, HK2, HO_5, HB⟩ := hrel
       cases gk with
       | zero => exact absurd HA.out (by simp [spec_l17Modes.l1])
       | succ k2 =>
        have H := HA.out; clear HA; simp only [spec_l17Modes.l1] at H; have HC8 := Aside0.mk H; clear H
        go_upto_region 6 with (fail)
        go_cut [35] (fun v35 wc => ∃ (kq : Nat) (x35_7 : Bool), v35 = .bool x35_7 ∧ Aside0 (spec_l17Modes.j2 kq l0 a1 x5_2 x6_1 x7_2 x35_7 = some r) ∧ Aside0 (kq ≤ k2) ∧ Aside0 (Kd.R (Kd.int .i64) 3 wc w.heap.size (fun _ => True) v102 x5_2) ∧ Aside0 (Below w.heap.size w wc))
        case first =>
         have H := HC8.out; clear HC8
         by_cases c9 : 0 ≤ x6_1
         ·
          rw [if_pos c9] at H; have c9b0 : decide (0 ≤ x6_1) = true := decide_eq_true c9; clear c9
          (first | rw [c9b0] | (simp only [i64_w, i32_w]; rw [c9b0]) | skip)
          by_cases c10 : x6_1 < (l0.length : Int)
          ·
           rw [if_pos c10] at H; have c10b0 : decide (x6_1 < (l0.length : Int)) = true := decide_eq_true c10; clear c10
           by_cases c11 : x7_2 ≤ ((rd_T40 l0 x6_1).f2)
           ·
            rw [if_pos c11] at H; have c11b0 : decide (x7_2 ≤ ((rd_T40 l0 x6_1).f2)) = true := decide_eq_true c11; clear c11; have H' := Aside0.mk H; clear H; have p105 : 0 ≤ (x6_1 : Int) := of_decide_eq_true zs; have q105 : x6_1 < (l0.length : Int) := of_decide_eq_true zs; obtain ⟨ad105, e105, hx105_0, hx105_1, hx105_2, hx105_3⟩ := at_T40 HR0.out x6_1 p105 q105; obtain rfl : ad104 = ad105 := (by injection e105); replace hx105_0 := pw_cell_below HB.out hx105_0; replace hx105_1 := pw_cell_below HB.out hx105_1; replace hx105_2 := pw_cell_below HB.out hx105_2; replace hx105_3 := pw_cell_below HB.out hx105_3; replace p105 := eq_true p105; replace q105 := eq_true q105; have p106 : 0 ≤ (x6_1 : Int) := of_decide_eq_true zs; have q106 : x6_1 < (l0.length : Int) := of_decide_eq_true zs; obtain ⟨ad106, e106, hx106_0, hx106_1, hx106_2, hx106_3⟩ := at_T40 HR0.out x6_1 p106 q106; obtain rfl : ad104 = ad106 := (by injection e106); replace hx106_0 := pw_cell_below HB.out hx106_0; replace hx106_1 := pw_cell_below HB.out hx106_1; replace hx106_2 := pw_cell_below HB.out hx106_2; replace hx106_3 := pw_cell_below HB.out hx106_3; replace p106 := eq_true p106; replace q106 := eq_true q106
            go_wp2
            go_meet
            case rel => exact ⟨_, ((((rd_T40 l0 x6_1).f0) == a1)), zr, H', ⟨by have := HK1.out; have := HK2.out; first | omega | exact Nat.le_refl _⟩, ⟨rz (HO_5.out)⟩, ⟨bz HB.out⟩⟩
           ·
            rw [if_neg c11] at H; have c11b0 : decide (x7_2 ≤ ((rd_T40 l0 x6_1).f2)) = false := decide_eq_false c11; clear c11; have H' := Aside0.mk H; clear H; have p105 : 0 ≤ (x6_1 : Int) := of_decide_eq_true zs; have q105 : x6_1 < (l0.length : Int) := of_decide_eq_true zs; obtain ⟨ad105, e105, hx105_0, hx105_1, hx105_2, hx105_3⟩ := at_T40 HR0.out x6_1 p105 q105; obtain rfl : ad104 = ad105 := (by injection e105); replace hx105_0 := pw_cell_below HB.out hx105_0; replace hx105_1 := pw_cell_below HB.out hx105_1; replace hx105_2 := pw_cell_below HB.out hx105_2; replace hx105_3 := pw_cell_below HB.out hx105_3; replace p105 := eq_true p105; replace q105 := eq_true q105
            go_wp2
            go_meet
            case rel => exact ⟨_, (false), zr, H', ⟨by have := HK1.out; have := HK2.out; first | omega | exact Nat.le_refl _⟩, ⟨rz (HO_5.out)⟩, ⟨bz HB.out⟩⟩
          ·
           rw [if_neg c10] at H
           exact absurd H (by simp)
         ·
          rw [if_neg c9] at H
          exact absurd H (by simp)
        case rest =>
         clear HC8
         try clear c1
         try clear p1
         try clear q1
         try clear hx1
         try clear p2
         try clear c3
         try clear c3b0
         try clear c3b1
         try clear c4
         try clear c6
         try clear c6b0
         try clear c7
         try clear c7b0
         try clear c9
         try clear c9b0
         try clear c10
         try clear c10b0
         try clear p10
         try clear q10
         try clear hx10
         try clear c11
         try clear c11b0
         try clear hx104_0
         try clear hx104_1
         try clear hx104_2
         try clear hx104_3
         try clear hx105_0
         try clear hx105_1
         try clear hx105_2
         try clear hx105_3
         try clear hx106_0
         try clear hx106_1
         try clear hx106_2
         try clear hx106_3
         try clear p1
         try clear p104
         try clear p105
         try clear p106
         try clear p2
         try clear q1
         try clear q104
         try clear q105
         try clear q106
         obtain ⟨kq, x35_7, rfl, HA, HJ7, HO_5, HB⟩ := hcut
         cases kq with
         | zero => exact absurd HA.out (by simp [spec_l17Modes.j2])
         | succ kj7 =>
          have H := HA.out; clear HA; simp only [spec_l17Modes.j2] at H
          by_cases c12 : x35_7 = true
          ·
           subst c12; rw [if_pos rfl] at H
           by_cases c13 : 0 ≤ x7_2
           ·
            rw [if_pos c13] at H; have c13b0 : decide (0 ≤ x7_2) = true := decide_eq_true c13; clear c13
            by_cases c14 : x7_2 < (x5_2.length : Int)
            ·
             rw [if_pos c14] at H; have c14b0 : decide (x7_2 < (x5_2.length : Int)) = true := decide_eq_true c14; clear c14; obtain ⟨y107, hy107⟩ : ∃ y_ : List Int, y_ = (x5_2.set (x7_2 : Int).toNat 1) := ⟨_, rfl⟩
             replace H : (if 0 ≤ x6_1 then (if x6_1 < (l0.length : Int) then (if (rd_T40 l0 x6_1).f3 = true then (spec_l17Modes.l1 kj7 l0 a1 (y107.set (x7_2 : Int).toNat 2) x6_1 (wrap64 (x7_2 + 1))) else (spec_l17Modes.l1 kj7 l0 a1 y107 x6_1 (wrap64 (x7_2 + 1)))) else (none)) else (none)) = some r := by first | (rw [hy107]; with_reducible exact H) | (have H2_ := (Option.bind_some _ _).symm.trans H; rw [hy107]; with_reducible exact H2_) | (have H2_ := (Option.bind_some _ _).symm.trans H; with_reducible exact H2_) | with_reducible exact H | (rw [hy107]; exact H) | exact H
             have Ny107 := Aside0.mk hy107; clear hy107
             by_cases c16 : 0 ≤ x6_1
             ·
              rw [if_pos c16] at H; have c16b0 : decide (0 ≤ x6_1) = true := decide_eq_true c16; clear c16
              by_cases c17 : x6_1 < (l0.length : Int)
              ·
               rw [if_pos c17] at H; have c17b0 : decide (x6_1 < (l0.length : Int)) = true := decide_eq_true c17; clear c17; obtain ⟨bq18, hbq18⟩ : ∃ b_ : Bool, b_ = ((rd_T40 l0 x6_1).f3) := ⟨_, rfl⟩
               replace H : (if bq18 = true then (spec_l17Modes.l1 kj7 l0 a1 (y107.set (x7_2 : Int).toNat 2) x6_1 (wrap64 (x7_2 + 1))) else (spec_l17Modes.l1 kj7 l0 a1 y107 x6_1 (wrap64 (x7_2 + 1)))) = some r := by rw [← hbq18] at H; exact H
               have Nbq18 := Aside0.mk hbq18; clear hbq18
               by_cases c19 : bq18 = true
               ·
                subst c19; rw [if_pos rfl] at H; obtain ⟨y109, hy109⟩ : ∃ y_ : List Int, y_ = (y107.set (x7_2 : Int).toNat 2) := ⟨_, rfl⟩
                replace H : (spec_l17Modes.l1 kj7 l0 a1 y109 x6_1 (wrap64 (x7_2 + 1))) = some r := by first | (rw [hy109]; with_reducible exact H) | (have H2_ := (Option.bind_some _ _).symm.trans H; rw [hy109]; with_reducible exact H2_) | (have H2_ := (Option.bind_some _ _).symm.trans H; with_reducible exact H2_) | with_reducible exact H | (rw [hy109]; exact H) | exact H
                have Ny109 := Aside0.mk hy109; clear hy109; have H' := Aside0.mk H; clear H; have p15 : 0 ≤ (x7_2 : Int) := of_decide_eq_true zs; have q15 : (x7_2 : Int) < ((x5_2.length : Int) : Int) := of_decide_eq_true zs; obtain ⟨go15, co15, eo15, gb15, gl15, cl15, HG15⟩ := Kd.R_form HO_5.out (by omega)
                (first | cases eo15 | (injection eo15 with ea_ en_ ec_; (first | subst ea_ | (injection ea_ with ea_; subst ea_)); subst ec_; clear en_))
                have GB15 := Aside0.mk gb15; have GG15 := Aside0.mk HG15; clear gb15 gl15 HG15; obtain ⟨hx15_0, hf15_0⟩ := Kd.R_celln 0 HO_5.out (x7_2 : Int) p15 q15; replace p15 := eq_true p15; replace q15 := eq_true q15; have HP21 := Kd.R_putg HO_5.out (x7_2 : Int) 1
                go_wp2_with (first | ((with_reducible refine gate_store (t := 3) (p := 40) rfl ?_); refine store_event (t := 3) (p := 40) (v := ?vo_w22) (w1 := (wc.setCell ⟨go15, (x7_2 : Int).toNat, none⟩ (.int .i64 1))) ?hg ?ho ?hn ?hr ?_; (case ho => rfl); (case hg => rfl); (case hn => rfl); (case hr => first | (go_simp; done) | (go_simp; rfl)); intro w22 hw; have hg : wc.grownBy w22 (some go15) := (by rw [hw]; exact HP21.2); have hp_ : Kd.R (Kd.int .i64) 3 w22 w.heap.size (fun _ => True) (.slice (some ⟨go15, 0, none⟩) x5_2.length co15) y107 := (by rw [hw, Ny107.out]; exact HP21.1); clear HP21; replace HO_5 := Aside0.mk (hp_); replace HB := Aside0.mk ((by rw [hw]; exact below_set (HB.out) GB15.out : Below w.heap.size w w22)); clear hg hw hp_; have p108 : 0 ≤ (x6_1 : Int) := of_decide_eq_true zs; have q108 : x6_1 < (l0.length : Int) := of_decide_eq_true zs; obtain ⟨ad108, e108, hx108_0, hx108_1, hx108_2, hx108_3⟩ := at_T40 HR0.out x6_1 p108 q108; (try rw [← Nbq18.out] at hx108_3); obtain rfl : ad104 = ad108 := (by injection e108); replace hx108_0 := pw_cell_below HB.out hx108_0; replace hx108_1 := pw_cell_below HB.out hx108_1; replace hx108_2 := pw_cell_below HB.out hx108_2; replace hx108_3 := pw_cell_below HB.out hx108_3; replace p108 := eq_true p108; replace q108 := eq_true q108; have p20 : 0 ≤ (x7_2 : Int) := of_decide_eq_true zs; have q20 : (x7_2 : Int) < ((x5_2.length : Int) : Int) := of_decide_eq_true zs; obtain ⟨hx20_0, hf20_0⟩ := Kd.R_celln 0 HO_5.out (x7_2 : Int) p20 q20; replace p20 := eq_true p20; replace q20 := eq_true q20; obtain ⟨hy23_, hz23_⟩ := Kd.R_celln 0 HO_5.out (x7_2 : Int) (of_decide_eq_true zs) (of_decide_eq_true zs); have HP23 := Kd.R_putg HO_5.out (x7_2 : Int) 2) | ((with_reducible refine gate_store (t := 3) (p := 48) rfl ?_); refine store_event (t := 3) (p := 48) (v := ?vo_w24) (w1 := (w22.setCell ⟨go15, (x7_2 : Int).toNat, none⟩ (.int .i64 2))) ?hg ?ho ?hn ?hr ?_; (case ho => rfl); (case hg => rfl); (case hn => rfl); (case hr => first | (go_simp; done) | (go_simp; rfl)); intro w24 hw; have hg : w22.grownBy w24 (some go15) := (by rw [hw]; exact HP23.2); have hp_ : Kd.R (Kd.int .i64) 3 w24 w.heap.size (fun _ => True) (.slice (some ⟨go15, 0, none⟩) x5_2.length co15) y109 := (by rw [hw, Ny109.out]; exact HP23.1); clear HP23; replace HO_5 := Aside0.mk (hp_); replace HB := Aside0.mk ((by rw [hw]; exact below_set (HB.out) GB15.out : Below w.heap.size w w24)); clear hg hw hp_))
                go_roundg kj7
                case measure => have := HK1.out; have := HK2.out; have := HJ7.out; omega
                case rel => exact ⟨(y109), (wrap64 (x7_2 + 1)), zr, H', ⟨by have := HK1.out; have := HK2.out; have := HJ7.out; omega⟩, ⟨rz (HO_5.out)⟩, ⟨bz HB.out⟩⟩
               ·
                replace c19 := Bool.eq_false_iff.mpr c19; subst c19; rw [if_neg nf_] at H; have H' := Aside0.mk H; clear H; have p15 : 0 ≤ (x7_2 : Int) := of_decide_eq_true zs; have q15 : (x7_2 : Int) < ((x5_2.length : Int) : Int) := of_decide_eq_true zs; obtain ⟨go15, co15, eo15, gb15, gl15, cl15, HG15⟩ := Kd.R_form HO_5.out (by omega)
                (first | cases eo15 | (injection eo15 with ea_ en_ ec_; (first | subst ea_ | (injection ea_ with ea_; subst ea_)); subst ec_; clear en_))
                have GB15 := Aside0.mk gb15; have GG15 := Aside0.mk HG15; clear gb15 gl15 HG15; obtain ⟨hx15_0, hf15_0⟩ := Kd.R_celln 0 HO_5.out (x7_2 : Int) p15 q15; replace p15 := eq_true p15; replace q15 := eq_true q15; have HP25 := Kd.R_putg HO_5.out (x7_2 : Int) 1
                go_wp2_with (first | ((with_reducible refine gate_store (t := 3) (p := 40) rfl ?_); refine store_event (t := 3) (p := 40) (v := ?vo_w26) (w1 := (wc.setCell ⟨go15, (x7_2 : Int).toNat, none⟩ (.int .i64 1))) ?hg ?ho ?hn ?hr ?_; (case ho => rfl); (case hg => rfl); (case hn => rfl); (case hr => first | (go_simp; done) | (go_simp; rfl)); intro w26 hw; have hg : wc.grownBy w26 (some go15) := (by rw [hw]; exact HP25.2); have hp_ : Kd.R (Kd.int .i64) 3 w26 w.heap.size (fun _ => True) (.slice (some ⟨go15, 0, none⟩) x5_2.length co15) y107 := (by rw [hw, Ny107.out]; exact HP25.1); clear HP25; replace HO_5 := Aside0.mk (hp_); replace HB := Aside0.mk ((by rw [hw]; exact below_set (HB.out) GB15.out : Below w.heap.size w w26)); clear hg hw hp_; have p108 : 0 ≤ (x6_1 : Int) := of_decide_eq_true zs; have q108 : x6_1 < (l0.length : Int) := of_decide_eq_true zs; obtain ⟨ad108, e108, hx108_0, hx108_1, hx108_2, hx108_3⟩ := at_T40 HR0.out x6_1 p108 q108; (try rw [← Nbq18.out] at hx108_3); obtain rfl : ad104 = ad108 := (by injection e108); replace hx108_0 := pw_cell_below HB.out hx108_0; replace hx108_1 := pw_cell_below HB.out hx108_1; replace hx108_2 := pw_cell_below HB.out hx108_2; replace hx108_3 := pw_cell_below HB.out hx108_3; replace p108 := eq_true p108; replace q108 := eq_true q108))
                go_roundg kj7
                case measure => have := HK1.out; have := HK2.out; have := HJ7.out; omega
                case rel => exact ⟨(y107), (wrap64 (x7_2 + 1)), zr, H', ⟨by have := HK1.out; have := HK2.out; have := HJ7.out; omega⟩, ⟨rz (HO_5.out)⟩, ⟨bz HB.out⟩⟩
              ·
               rw [if_neg c17] at H
               exact absurd H (by simp)
             ·
              rw [if_neg c16] at H
              exact absurd H (by simp)
            ·
             rw [if_neg c14] at H
             exact absurd H (by simp)
           ·
            rw [if_neg c13] at H
            exact absurd H (by simp)
          ·
           replace c12 := Bool.eq_false_iff.mpr c12; subst c12; rw [if_neg nf_] at H; have H' := Aside0.mk H; clear H
           go_wp2
           go_roundg kj7
           case measure => have := HK1.out; have := HK2.out; have := HJ7.out; omega
           case rel => exact ⟨(x5_2), (wrap64 (x6_1 + 1)), zr, H', ⟨by have := HK1.out; have := HK2.out; have := HJ7.out; omega⟩, ⟨rz (HO_5.out)⟩, ⟨bz HB.out⟩⟩
     ·
      rw [if_neg c7] at H
      exact absurd H (by simp)
    ·
     rw [if_neg c6] at H; have c6b0 : decide (x6_1 < (l0.length : Int)) = false := decide_eq_false c6; clear c6; obtain rfl := Option.some.inj H
     go_wp2
     go_ret
     exact ⟨_, ze, by (with_reducible repeat (first | apply Kd.R_alloc | apply Kd.R_drewN | apply Kd.R_drew)); exact HO_5.out, bz HB.out⟩
 ·
  rw [if_neg c3] at H
  exact absurd H (by simp)

end Go.Proofs.Ytgjlbghjjjlhmaa.P
