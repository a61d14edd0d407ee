-- printed by wip/qd.py, laid together by wip/mergepf.py
import Derived.Test.YtkjjlkkfhbfbmaaDoorPf0
import Derived.Test.YtkjjlkkfhbfbmaaDoorPfM0
import Derived.Test.YtkjjlkkfhbfbmaaDoorQSem9
namespace Go.Proofs.YtkjjlkkfhbfbmaaDoor.P
open Go.RowKit Go.Proofs.YtkjjlkkfhbfbmaaDoorW.PrintWords Go.Proofs.YtkjjlkkfhbfbmaaDoorW.PrintLast Go.Proofs.YtkjjlkkfhbfbmaaDoorW.PrintMore
attribute [local go_sem] max2_int min2_int max_two min_two max_three min_three max_four min_four Q.cell_set_map Q.str_gtr Q.str_geq Q.str_leq
set_option linter.unusedVariables false
set_option linter.unusedSimpArgs false

/-! ### spec_PathSteps: function 22 -/
mutual
def spec_PathSteps.j0 : Nat → ByteArray → List ByteArray → Bool → Option (Bool × List ByteArray × Bool)
 | 0, _, _, _ => none
 | k + 1, x0, x5, x6 => if x6 = true then (if 1 ≤ (x0.size : Int) then (spec_PathSteps.j1 k (x0.extract 1 x0.size) x5 true) else (none)) else (spec_PathSteps.j1 k x0 x5 false)
def spec_PathSteps.j1 : Nat → ByteArray → List ByteArray → Bool → Option (Bool × List ByteArray × Bool)
 | 0, _, _, _ => none
 | k + 1, x0, x5, x6 => spec_PathSteps.l0 k x0 x5 x6 0 0
def spec_PathSteps.l0 : Nat → ByteArray → List ByteArray → Bool → Int → Int → Option (Bool × List ByteArray × Bool)
 | 0, _, _, _, _, _ => none
 | k + 1, x0, x5, x6, x7, x8 => if x8 ≤ (x0.size : Int) then (spec_PathSteps.j3 k x0 x5 x6 x7 x8 (x0.toList != ([] : List UInt8))) else (spec_PathSteps.j3 k x0 x5 x6 x7 x8 false)
def spec_PathSteps.j3 : Nat → ByteArray → List ByteArray → Bool → Int → Int → Bool → Option (Bool × List ByteArray × Bool)
 | 0, _, _, _, _, _, _ => none
 | k + 1, x0, x5, x6, x7, x8, x29 => if x29 = true then (if x8 < (x0.size : Int) then (if 0 ≤ x8 then (spec_PathSteps.j4 k x0 x5 x6 x7 x8 ((bt x0 x8) != 47)) else (none)) else (spec_PathSteps.j4 k x0 x5 x6 x7 x8 false)) else (some (x6, x5, true))
def spec_PathSteps.j4 : Nat → ByteArray → List ByteArray → Bool → Int → Int → Bool → Option (Bool × List ByteArray × Bool)
 | 0, _, _, _, _, _, _ => none
 | k + 1, x0, x5, x6, x7, x8, x41 => if x41 = true then (spec_PathSteps.l0 k x0 x5 x6 x7 (wrap64 (x8 + 1))) else (if 0 ≤ x7 then (if x7 ≤ x8 then (if x8 ≤ (x0.size : Int) then (if (x0.extract (x7 : Int).toNat (x8 : Int).toNat).toList = ([46, 46] : List UInt8) then (if (x5.length : Int) ≥ 6 then (some (false, (([] : List ByteArray)), false)) else (if x5.length < 8796093022208 then (spec_PathSteps.l0 k x0 (x5 ++ [x0.extract (x7 : Int).toNat (x8 : Int).toNat]) x6 (wrap64 (x8 + 1)) (wrap64 (x8 + 1))) else (none))) else ((spec_l7Name.f k (x0.extract (x7 : Int).toNat (x8 : Int).toNat)).bind fun t110 => (if t110 = true then (if (x5.length : Int) ≥ 6 then (some (false, (([] : List ByteArray)), false)) else (if x5.length < 8796093022208 then (spec_PathSteps.l0 k x0 (x5 ++ [x0.extract (x7 : Int).toNat (x8 : Int).toNat]) x6 (wrap64 (x8 + 1)) (wrap64 (x8 + 1))) else (none))) else (some (false, (([] : List ByteArray)), false))))) else (none)) else (none)) else (none))
end
def spec_PathSteps.f (k : Nat) (a0 : ByteArray) : Option (Bool × List ByteArray × Bool) := (some (([] : List ByteArray) : List ByteArray)).bind fun y101 => (if (a0.size : Int) > 0 then (if 0 < (a0.size : Int) then (spec_PathSteps.j0 k a0 y101 ((bt a0 0) == 47)) else (none)) else (spec_PathSteps.j0 k a0 y101 false))
theorem spec_PathSteps.mono_l : ∀ k, (∀ y0 y1 y2, LeO (spec_PathSteps.j0 k y0 y1 y2) (spec_PathSteps.j0 (k + 1) y0 y1 y2)) ∧ (∀ y0 y1 y2, LeO (spec_PathSteps.j1 k y0 y1 y2) (spec_PathSteps.j1 (k + 1) y0 y1 y2)) ∧ (∀ y0 y1 y2 y3 y4, LeO (spec_PathSteps.l0 k y0 y1 y2 y3 y4) (spec_PathSteps.l0 (k + 1) y0 y1 y2 y3 y4)) ∧ (∀ y0 y1 y2 y3 y4 y5, LeO (spec_PathSteps.j3 k y0 y1 y2 y3 y4 y5) (spec_PathSteps.j3 (k + 1) y0 y1 y2 y3 y4 y5)) ∧ (∀ y0 y1 y2 y3 y4 y5, LeO (spec_PathSteps.j4 k y0 y1 y2 y3 y4 y5) (spec_PathSteps.j4 (k + 1) y0 y1 y2 y3 y4 y5))
 | 0 => ⟨fun _ _ _ r h => by simp [spec_PathSteps.j0] at h, fun _ _ _ r h => by simp [spec_PathSteps.j1] at h, fun _ _ _ _ _ r h => by simp [spec_PathSteps.l0] at h, fun _ _ _ _ _ _ r h => by simp [spec_PathSteps.j3] at h, fun _ _ _ _ _ _ r h => by simp [spec_PathSteps.j4] at h⟩
 | k + 1 => by
  obtain ⟨ih0, ih1, ih2, ih3, ih4⟩ := spec_PathSteps.mono_l k
  refine ⟨?_, ?_, ?_, ?_, ?_⟩
  ·
   intro y0 y1 y2
   unfold spec_PathSteps.j0
   repeat' first
   | (with_reducible exact ih0 _ _ _)
   | (with_reducible exact ih1 _ _ _)
   | (with_reducible exact ih2 _ _ _ _ _)
   | (with_reducible exact ih3 _ _ _ _ _ _)
   | (with_reducible exact ih4 _ _ _ _ _ _)
   | (with_reducible exact spec_l7Name.mono _ _)
   | (with_reducible exact LeO.refl _)
   | (with_reducible exact LeO.none _)
   | (with_reducible refine LeO.ite ?_ ?_)
   | (with_reducible refine LeO.bind ?_ (fun _ => ?_))
   | exact ih0 _ _ _
   | exact ih1 _ _ _
   | exact ih2 _ _ _ _ _
   | exact ih3 _ _ _ _ _ _
   | exact ih4 _ _ _ _ _ _
   | exact spec_l7Name.mono _ _
   | exact LeO.none _
   | refine LeO.ite ?_ ?_
   | refine LeO.bind ?_ (fun _ => ?_)
  ·
   intro y0 y1 y2
   unfold spec_PathSteps.j1
   repeat' first
   | (with_reducible exact ih0 _ _ _)
   | (with_reducible exact ih1 _ _ _)
   | (with_reducible exact ih2 _ _ _ _ _)
   | (with_reducible exact ih3 _ _ _ _ _ _)
   | (with_reducible exact ih4 _ _ _ _ _ _)
   | (with_reducible exact spec_l7Name.mono _ _)
   | (with_reducible exact LeO.refl _)
   | (with_reducible exact LeO.none _)
   | (with_reducible refine LeO.ite ?_ ?_)
   | (with_reducible refine LeO.bind ?_ (fun _ => ?_))
   | exact ih0 _ _ _
   | exact ih1 _ _ _
   | exact ih2 _ _ _ _ _
   | exact ih3 _ _ _ _ _ _
   | exact ih4 _ _ _ _ _ _
   | exact spec_l7Name.mono _ _
   | exact LeO.none _
   | refine LeO.ite ?_ ?_
   | refine LeO.bind ?_ (fun _ => ?_)
  ·
   intro y0 y1 y2 y3 y4
   unfold spec_PathSteps.l0
   repeat' first
   | (with_reducible exact ih0 _ _ _)
   | (with_reducible exact ih1 _ _ _)
   | (with_reducible exact ih2 _ _ _ _ _)
   | (with_reducible exact ih3 _ _ _ _ _ _)
   | (with_reducible exact ih4 _ _ _ _ _ _)
   | (with_reducible exact spec_l7Name.mono _ _)
   | (with_reducible exact LeO.refl _)
   | (with_reducible exact LeO.none _)
   | (with_reducible refine LeO.ite ?_ ?_)
   | (with_reducible refine LeO.bind ?_ (fun _ => ?_))
   | exact ih0 _ _ _
   | exact ih1 _ _ _
   | exact ih2 _ _ _ _ _
   | exact ih3 _ _ _ _ _ _
   | exact ih4 _ _ _ _ _ _
   | exact spec_l7Name.mono _ _
   | exact LeO.none _
   | refine LeO.ite ?_ ?_
   | refine LeO.bind ?_ (fun _ => ?_)
  ·
   intro y0 y1 y2 y3 y4 y5
   unfold spec_PathSteps.j3
   repeat' first
   | (with_reducible exact ih0 _ _ _)
   | (with_reducible exact ih1 _ _ _)
   | (with_reducible exact ih2 _ _ _ _ _)
   | (with_reducible exact ih3 _ _ _ _ _ _)
   | (with_reducible exact ih4 _ _ _ _ _ _)
   | (with_reducible exact spec_l7Name.mono _ _)
   | (with_reducible exact LeO.refl _)
   | (with_reducible exact LeO.none _)
   | (with_reducible refine LeO.ite ?_ ?_)
   | (with_reducible refine LeO.bind ?_ (fun _ => ?_))
   | exact ih0 _ _ _
   | exact ih1 _ _ _
   | exact ih2 _ _ _ _ _
   | exact ih3 _ _ _ _ _ _
   | exact ih4 _ _ _ _ _ _
   | exact spec_l7Name.mono _ _
   | exact LeO.none _
   | refine LeO.ite ?_ ?_
   | refine LeO.bind ?_ (fun _ => ?_)
  ·
   intro y0 y1 y2 y3 y4 y5
   unfold spec_PathSteps.j4
   repeat' first
   | (with_reducible exact ih0 _ _ _)
   | (with_reducible exact ih1 _ _ _)
   | (with_reducible exact ih2 _ _ _ _ _)
   | (with_reducible exact ih3 _ _ _ _ _ _)
   | (with_reducible exact ih4 _ _ _ _ _ _)
   | (with_reducible exact spec_l7Name.mono _ _)
   | (with_reducible exact LeO.refl _)
   | (with_reducible exact LeO.none _)
   | (with_reducible refine LeO.ite ?_ ?_)
   | (with_reducible refine LeO.bind ?_ (fun _ => ?_))
   | exact ih0 _ _ _
   | exact ih1 _ _ _
   | exact ih2 _ _ _ _ _
   | exact ih3 _ _ _ _ _ _
   | exact ih4 _ _ _ _ _ _
   | exact spec_l7Name.mono _ _
   | exact LeO.none _
   | refine LeO.ite ?_ ?_
   | refine LeO.bind ?_ (fun _ => ?_)
theorem spec_PathSteps.mono : ∀ a0 k, LeO (spec_PathSteps.f k a0) (spec_PathSteps.f (k + 1) a0) := by
 intro a0 k
 obtain ⟨ih0, ih1, ih2, ih3, ih4⟩ := spec_PathSteps.mono_l k
 unfold spec_PathSteps.f
 repeat' first
   | (with_reducible exact ih0 _ _ _)
   | (with_reducible exact ih1 _ _ _)
   | (with_reducible exact ih2 _ _ _ _ _)
   | (with_reducible exact ih3 _ _ _ _ _ _)
   | (with_reducible exact ih4 _ _ _ _ _ _)
   | (with_reducible exact spec_l7Name.mono _ _)
   | (with_reducible exact LeO.refl _)
   | (with_reducible exact LeO.none _)
   | (with_reducible refine LeO.ite ?_ ?_)
   | (with_reducible refine LeO.bind ?_ (fun _ => ?_))
   | exact ih0 _ _ _
   | exact ih1 _ _ _
   | exact ih2 _ _ _ _ _
   | exact ih3 _ _ _ _ _ _
   | exact ih4 _ _ _ _ _ _
   | exact spec_l7Name.mono _ _
   | exact LeO.none _
   | refine LeO.ite ?_ ?_
   | refine LeO.bind ?_ (fun _ => ?_)
set_option maxHeartbeats 8000000 in
set_option maxRecDepth 100000 in
theorem spec_PathSteps.calls (k : Nat) (a0 : ByteArray) (r1 : Bool) (r2 : List ByteArray) (r3 : Bool) (w : World) (h : spec_PathSteps.f k a0 = some (r1, r2, r3)) :
  Calls Tryd.prog 22 #[.string a0] w fun e w' => ∃ v1_ : Value, e = .returned (.tuple #[.bool r1, v1_, .bool r3]) ∧ Kd.R Kd.string 9 w' w.heap.size (fun _ => True) v1_ r2 ∧ Below w.heap.size w w' := by
 have HB := Aside0.mk (Below.refl w.heap.size w); have H : ((some (([] : List ByteArray) : List ByteArray)).bind fun y101 => (if (a0.size : Int) > 0 then (if 0 < (a0.size : Int) then (spec_PathSteps.j0 k a0 y101 ((bt a0 0) == 47)) else (none)) else (spec_PathSteps.j0 k a0 y101 false))) = some (r1, r2, r3) := h; clear h; obtain ⟨y101, hy101⟩ : ∃ y_ : List ByteArray, y_ = (([] : List ByteArray)) := ⟨_, rfl⟩
 replace H : (if (a0.size : Int) > 0 then (if 0 < (a0.size : Int) then (spec_PathSteps.j0 k a0 y101 ((bt a0 0) == 47)) else (none)) else (spec_PathSteps.j0 k a0 y101 false)) = some (r1, r2, r3) := by first | (rw [hy101]; with_reducible exact H) | (have H2_ := (Option.bind_some _ _).symm.trans H; rw [hy101]; with_reducible exact H2_) | (have H2_ := (Option.bind_some _ _).symm.trans H; with_reducible exact H2_) | with_reducible exact H | (rw [hy101]; exact H) | exact H
 have Ny101 := Aside0.mk hy101; clear hy101; have HC2 := Aside0.mk H; clear H
 go_enter Tryd.func22, Tryd.ntmps22
 go_upto_region 2 with (first | ((with_reducible refine gate_dst (N := 10) rfl ?_); (try (refine gate_guard (by rfl) ?_; dsimp only)); refine Kd.R_lit Kd.string _ 9 ?hg (N := 10) ?hd (xs := ([] : List ByteArray)) (inner := []) (ok := fun _ => True) (okp := fun _ => True) ?hr ?hp (fun _ hk => hk) trivial (Below.refl _ _) (Nat.le_refl _) (by simp) ?_; (case hd => rfl); (case hg => rfl); (case hr => first | (go_simp; done) | (go_simp; rfl)); (case hp => exact (Reps.none _ _)); intro v102 w3 ho4 hb hg_ hnew_; clear hg_ hnew_; (first | rw [← Ny101.out] at ho4 | (simp only [Int.reduceToNat] at ho4; rw [← Ny101.out] at ho4)); have HO103 := Aside0.mk (Kd.R_lower ho4 (below_size (bz HB.out))); replace HB := Aside0.mk (below_step (bz HB.out) hb); clear hb ho4))
 (try simp only [Act.put, List.setIfInBounds_toArray, List.set_cons_zero, List.set_cons_succ])
 go_cut [6] (fun v6 wc => ∃ (kq : Nat) (x6_1 : Bool), v6 = .bool x6_1 ∧ Aside0 (spec_PathSteps.j0 kq a0 y101 x6_1 = some (r1, r2, r3)) ∧ Aside0 (kq ≤ k) ∧ Aside0 (Kd.R Kd.string 9 wc w.heap.size (fun _ => True) v102 y101) ∧ Aside0 (Below w.heap.size w wc))
 case first =>
  have H := HC2.out; clear HC2
  by_cases c5 : (a0.size : Int) > 0
  rotate_left
  ·
   rw [if_neg c5] at H; have c5b0 : decide (0 < (a0.size : Int)) = false := decide_eq_false c5; have c5b1 : decide (0 < a0.size) = false := decide_eq_false (by omega); clear c5
   (first | rw [c5b0] | (simp only [i64_w, i32_w]; rw [c5b0]) | skip)
   have H' := Aside0.mk H; clear H
   go_wp2
   go_meet
   case rel => exact ⟨_, (false), zr, H', ⟨by first | omega | exact Nat.le_refl _⟩, ⟨rz (HO103.out)⟩, ⟨bz HB.out⟩⟩
  rw [if_pos c5] at H; have c5b0 : decide (0 < (a0.size : Int)) = true := decide_eq_true c5; have c5b1 : decide (0 < a0.size) = true := decide_eq_true (by omega); clear c5
  (first | rw [c5b0] | (simp only [i64_w, i32_w]; rw [c5b0]) | skip)
  by_cases c6 : 0 < (a0.size : Int)
  rotate_left
  ·
   rw [if_neg c6] at H
   exact absurd H (by simp)
  rw [if_pos c6] at H; have c6b0 : decide (0 < (a0.size : Int)) = true := decide_eq_true c6; have c6b1 : decide (0 < a0.size) = true := decide_eq_true (by omega); clear c6; have H' := Aside0.mk H; clear H; have p7 : 0 ≤ (0 : Int) := (by omega); have q7 : 0 < a0.size := (by have : (0 : Int) < (a0.size : Int) := of_decide_eq_true zs; omega); have hx7 : ∀ h : 0 < a0.size, ((a0[0]'h).toNat : Int) = bt a0 0 := bt_at a0 0; clear p7; have qi7 : (0 < (a0.size : Int)) = True := eq_true (of_decide_eq_true zs); replace q7 := eq_true q7
  go_wp2
  go_meet
  case rel => exact ⟨_, (((bt a0 0) == 47)), zr, H', ⟨by first | omega | exact Nat.le_refl _⟩, ⟨rz (HO103.out)⟩, ⟨bz HB.out⟩⟩
 case rest =>
  clear HC2
  obtain ⟨kq, x6_1, rfl, HA, HJ1, HO_5, HB⟩ := hcut
  cases kq with
  | zero => exact absurd HA.out (by simp [spec_PathSteps.j0])
  | succ kj1 =>
   have H := HA.out; clear HA; simp only [spec_PathSteps.j0] at H; have HC8 := Aside0.mk H; clear H
   go_upto_if 19 with (fail)
   go_cut [0] (fun v0 wc => ∃ (kq : Nat) (x0_7 : ByteArray), v0 = .string x0_7 ∧ Aside0 (spec_PathSteps.j1 kq x0_7 y101 x6_1 = some (r1, r2, r3)) ∧ Aside0 (kq ≤ kj1) ∧ Aside0 (Kd.R Kd.string 9 wc w.heap.size (fun _ => True) v102 y101) ∧ Aside0 (Below w.heap.size w wc))
   case first =>
    have H := HC8.out; clear HC8
    by_cases c9 : x6_1 = true
    rotate_left
    ·
     replace c9 := Bool.eq_false_iff.mpr c9; subst c9; rw [if_neg nf_] at H; have H' := Aside0.mk H; clear H
     go_wp2
     go_meet
     case rel => exact ⟨_, (a0), zr, H', ⟨by have := HJ1.out; first | omega | exact Nat.le_refl _⟩, ⟨rz (HO_5.out)⟩, ⟨bz HB.out⟩⟩
    subst c9; rw [if_pos rfl] at H
    by_cases c10 : 1 ≤ (a0.size : Int)
    rotate_left
    ·
     rw [if_neg c10] at H
     exact absurd H (by simp)
    rw [if_pos c10] at H; have c10b0 := eq_true c10; have c10b1 : decide (1 ≤ (a0.size : Int)) = true := decide_eq_true c10; clear c10; have H' := Aside0.mk H; clear H
    go_wp2
    go_meet
    case rel => exact ⟨_, (a0.extract 1 a0.size), zr, H', ⟨by have := HJ1.out; first | omega | exact Nat.le_refl _⟩, ⟨rz (HO_5.out)⟩, ⟨bz HB.out⟩⟩
   case rest =>
    clear HC8
    obtain ⟨kq, x0_7, rfl, HA, HJ7, HO_5, HB⟩ := hcut
    cases kq with
    | zero => exact absurd HA.out (by simp [spec_PathSteps.j1])
    | succ kj7 =>
     have H := HA.out; clear HA; simp only [spec_PathSteps.j1] at H; have H' := Aside0.mk H; clear H
     go_wp2
     go_loopg [5, 7, 8] kj7 (fun kq v5 v7 v8 w' => ∃ (x5_3 : List ByteArray) (x7_3 : Int) (x8_3 : Int), v7 = .int .i64 x7_3 ∧ v8 = .int .i64 x8_3 ∧ Aside0 (spec_PathSteps.l0 kq x0_7 x5_3 x6_1 x7_3 x8_3 = some (r1, r2, r3)) ∧ Aside0 (kq ≤ kj7) ∧ Aside0 (Kd.R Kd.string 9 w' w.heap.size (fun _ => True) v5 x5_3) ∧ Aside0 (Below w.heap.size w w'))
     case atStart => exact ⟨(y101), (0), (0), zr, zr, H', ⟨Nat.le_refl _⟩, ⟨rz (HO_5.out)⟩, ⟨bz HB.out⟩⟩
     case round =>
      clear H'
      obtain ⟨x5_3, x7_3, x8_3, rfl, rfl, HA, HK3, HO_5, HB⟩ := hrel
      cases gk with
      | zero => exact absurd HA.out (by simp [spec_PathSteps.l0])
      | succ k3 =>
       have H := HA.out; clear HA; simp only [spec_PathSteps.l0] at H; have HC11 := Aside0.mk H; clear H
       go_upto_region 7 with (fail)
       go_cut [29] (fun v29 wc => ∃ (kq : Nat) (x29_10 : Bool), v29 = .bool x29_10 ∧ Aside0 (spec_PathSteps.j3 kq x0_7 x5_3 x6_1 x7_3 x8_3 x29_10 = some (r1, r2, r3)) ∧ Aside0 (kq ≤ k3) ∧ Aside0 (Kd.R Kd.string 9 wc w.heap.size (fun _ => True) u5 x5_3) ∧ Aside0 (Below w.heap.size w wc))
       case first =>
        have H := HC11.out; clear HC11
        by_cases c12 : x8_3 ≤ (x0_7.size : Int)
        rotate_left
        ·
         rw [if_neg c12] at H; have c12b0 : decide (x8_3 ≤ (x0_7.size : Int)) = false := decide_eq_false c12; clear c12
         (first | rw [c12b0] | (simp only [i64_w, i32_w]; rw [c12b0]) | skip)
         have H' := Aside0.mk H; clear H
         go_wp2
         go_meet
         case rel => exact ⟨_, (false), zr, H', ⟨by have := HJ1.out; have := HJ7.out; have := HK3.out; first | omega | exact Nat.le_refl _⟩, ⟨rz (HO_5.out)⟩, ⟨bz HB.out⟩⟩
        rw [if_pos c12] at H; have c12b0 : decide (x8_3 ≤ (x0_7.size : Int)) = true := decide_eq_true c12; clear c12
        (first | rw [c12b0] | (simp only [i64_w, i32_w]; rw [c12b0]) | skip)
        have H' := Aside0.mk H; clear H
        go_wp2
        go_meet
        case rel => exact ⟨_, ((x0_7.toList != ([] : List UInt8))), (by cases hq_ : x0_7.toList <;> simp [hq_]), H', ⟨by have := HJ1.out; have := HJ7.out; have := HK3.out; first | omega | exact Nat.le_refl _⟩, ⟨rz (HO_5.out)⟩, ⟨bz HB.out⟩⟩
       case rest =>
        clear HC11
        obtain ⟨kq, x29_10, rfl, HA, HJ10, HO_5, HB⟩ := hcut
        cases kq with
        | zero => exact absurd HA.out (by simp [spec_PathSteps.j3])
        | succ kj10 =>
         have H := HA.out; clear HA; simp only [spec_PathSteps.j3] at H
         by_cases c13 : x29_10 = true
         rotate_left
         ·
          replace c13 := Bool.eq_false_iff.mpr c13; subst c13; rw [if_neg nf_] at H; simp only [Option.some.injEq, Prod.mk.injEq] at H; obtain ⟨rfl, rfl, rfl⟩ := H
          go_wp2
          go_ret3
          exact ⟨_, ze, by (with_reducible repeat (first | apply Kd.R_alloc | apply Kd.R_drewN | apply Kd.R_drew)); exact HO_5.out, bz HB.out⟩
         subst c13; rw [if_pos rfl] at H; have HC14 := Aside0.mk H; clear H
         go_upto_region 9 with (fail)
         go_cut [41] (fun v41 wc => ∃ (kq : Nat) (x41_13 : Bool), v41 = .bool x41_13 ∧ Aside0 (spec_PathSteps.j4 kq x0_7 x5_3 x6_1 x7_3 x8_3 x41_13 = some (r1, r2, r3)) ∧ Aside0 (kq ≤ kj10) ∧ Aside0 (Kd.R Kd.string 9 wc w.heap.size (fun _ => True) u5 x5_3) ∧ Aside0 (Below w.heap.size w wc))
         case first =>
          have H := HC14.out; clear HC14
          by_cases c15 : x8_3 < (x0_7.size : Int)
          rotate_left
          ·
           rw [if_neg c15] at H; have c15b0 : decide (x8_3 < (x0_7.size : Int)) = false := decide_eq_false c15; clear c15
           (first | rw [c15b0] | (simp only [i64_w, i32_w]; rw [c15b0]) | skip)
           have H' := Aside0.mk H; clear H
           go_wp2
           go_meet
           case rel => exact ⟨_, (false), zr, H', ⟨by have := HJ1.out; have := HJ7.out; have := HK3.out; have := HJ10.out; first | omega | exact Nat.le_refl _⟩, ⟨rz (HO_5.out)⟩, ⟨bz HB.out⟩⟩
          rw [if_pos c15] at H; have c15b0 : decide (x8_3 < (x0_7.size : Int)) = true := decide_eq_true c15; clear c15
          (first | rw [c15b0] | (simp only [i64_w, i32_w]; rw [c15b0]) | skip)
          by_cases c16 : 0 ≤ x8_3
          rotate_left
          ·
           rw [if_neg c16] at H
           exact absurd H (by simp)
          rw [if_pos c16] at H; have c16b0 : decide (0 ≤ x8_3) = true := decide_eq_true c16; clear c16; have H' := Aside0.mk H; clear H; have p17 : 0 ≤ (x8_3 : Int) := of_decide_eq_true zs; have q17 : x8_3 < (x0_7.size : Int) := of_decide_eq_true zs; have hx17 := bt_at x0_7 x8_3; replace p17 := eq_true p17; replace q17 := eq_true q17
          go_wp2
          go_meet
          case rel => exact ⟨_, (((bt x0_7 x8_3) != 47)), zr, H', ⟨by have := HJ1.out; have := HJ7.out; have := HK3.out; have := HJ10.out; first | omega | exact Nat.le_refl _⟩, ⟨rz (HO_5.out)⟩, ⟨bz HB.out⟩⟩
         case rest =>
          clear HC14
          (try clear c13)
          obtain ⟨kq, x41_13, rfl, HA, HJ13, HO_5, HB⟩ := hcut
          cases kq with
          | zero => exact absurd HA.out (by simp [spec_PathSteps.j4])
          | succ kj13 =>
           have H := HA.out; clear HA; simp only [spec_PathSteps.j4] at H
           by_cases c18 : x41_13 = true
           ·
            subst c18; rw [if_pos rfl] at H; have H' := Aside0.mk H; clear H
            go_wp2
            go_roundg kj13
            case measure => have := HJ1.out; have := HJ7.out; have := HK3.out; have := HJ10.out; have := HJ13.out; omega
            case rel => exact ⟨(x5_3), (x7_3), (wrap64 (x8_3 + 1)), zr, zr, H', ⟨by have := HJ1.out; have := HJ7.out; have := HK3.out; have := HJ10.out; have := HJ13.out; omega⟩, ⟨rz (HO_5.out)⟩, ⟨bz HB.out⟩⟩
           replace c18 := Bool.eq_false_iff.mpr c18; subst c18; rw [if_neg nf_] at H
           by_cases c19 : 0 ≤ x7_3
           rotate_left
           ·
            rw [if_neg c19] at H
            exact absurd H (by simp)
           rw [if_pos c19] at H; have c19b0 := eq_true c19; have c19b1 : decide (0 ≤ x7_3) = true := decide_eq_true c19; clear c19
           by_cases c20 : x7_3 ≤ x8_3
           rotate_left
           ·
            rw [if_neg c20] at H
            exact absurd H (by simp)
           rw [if_pos c20] at H; have c20b0 := eq_true c20; have c20b1 : decide (x7_3 ≤ x8_3) = true := decide_eq_true c20; clear c20
           by_cases c21 : x8_3 ≤ (x0_7.size : Int)
           rotate_left
           ·
            rw [if_neg c21] at H
            exact absurd H (by simp)
           rw [if_pos c21] at H; have c21b0 := eq_true c21; have c21b1 : decide (x8_3 ≤ (x0_7.size : Int)) = true := decide_eq_true c21; clear c21
           by_cases c22 : (x0_7.extract (x7_3 : Int).toNat (x8_3 : Int).toNat).toList = ([46, 46] : List UInt8)
           ·
            rw [if_pos c22] at H; have c22b0 : ((x0_7.extract (x7_3 : Int).toNat (x8_3 : Int).toNat).toList == ([46, 46] : List UInt8)) = true := beq_iff_eq.mpr c22; have c22b1 : ((x0_7.extract (x7_3 : Int).toNat (x8_3 : Int).toNat).toList != ([46, 46] : List UInt8)) = false := bne_eq_false_iff_eq.mpr c22; clear c22
            by_cases c23 : (x5_3.length : Int) ≥ 6
            ·
             rw [if_pos c23] at H; have c23b0 : decide (6 ≤ (x5_3.length : Int)) = true := decide_eq_true c23; have c23b1 : decide (6 ≤ x5_3.length) = true := decide_eq_true (by omega); clear c23; obtain ⟨y104, hy104⟩ : ∃ y_ : List ByteArray, y_ = (([] : List ByteArray)) := ⟨_, rfl⟩
             replace H : (some (false, y104, false)) = some (r1, r2, r3) := by first | (rw [hy104]; with_reducible exact H) | (have H2_ := (Option.bind_some _ _).symm.trans H; rw [hy104]; with_reducible exact H2_) | (have H2_ := (Option.bind_some _ _).symm.trans H; with_reducible exact H2_) | with_reducible exact H | (rw [hy104]; exact H) | exact H
             have Ny104 := Aside0.mk hy104; clear hy104; simp only [Option.some.injEq, Prod.mk.injEq] at H; obtain ⟨rfl, rfl, rfl⟩ := H; obtain ⟨Ao24, co24, eo24⟩ := Kd.R_slice HO_5.out; subst eo24
             go_wp2_with (first | ((with_reducible refine gate_dst (N := 58) rfl ?_); (try (refine gate_guard (by rfl) ?_; dsimp only)); refine Kd.R_lit Kd.string _ 9 ?hg (N := 58) ?hd (xs := ([] : List ByteArray)) (inner := []) (ok := fun _ => True) (okp := fun _ => True) ?hr ?hp (fun _ hk => hk) trivial (Below.refl _ _) (Nat.le_refl _) (by simp) ?_; (case hd => rfl); (case hg => rfl); (case hr => first | (go_simp; done) | (go_simp; rfl)); (case hp => exact (Reps.none _ _)); intro v105 w25 ho26 hb hg_ hnew_; clear hg_ hnew_; (first | rw [← Ny104.out] at ho26 | (simp only [Int.reduceToNat] at ho26; rw [← Ny104.out] at ho26)); have HO106 := Aside0.mk (Kd.R_lower (Kd.R_new' ho26 (Kd.R_lt (rz HO_5.out))) (below_size (bz HB.out))); replace HO_5 := Aside0.mk (Kd.R_elder' (rz HO_5.out) (Kd.R_base ho26) hb); replace HB := Aside0.mk (below_step (bz HB.out) hb); clear hb ho26))
             go_ret3
             exact ⟨_, ze, by (with_reducible repeat (first | apply Kd.R_alloc | apply Kd.R_drewN | apply Kd.R_drew)); exact Kd.R_mono HO106.out (fun _ hk => trivial), bz HB.out⟩
            rw [if_neg c23] at H; have c23b0 : decide (6 ≤ (x5_3.length : Int)) = false := decide_eq_false c23; have c23b1 : decide (6 ≤ x5_3.length) = false := decide_eq_false (by omega); clear c23
            by_cases c27 : x5_3.length < 8796093022208
            rotate_left
            ·
             rw [if_neg c27] at H
             exact absurd H (by simp)
            rw [if_pos c27] at H; have LMc27 := Aside0.mk c27; clear c27; obtain ⟨y107, hy107⟩ : ∃ y_ : List ByteArray, y_ = (x5_3 ++ [x0_7.extract (x7_3 : Int).toNat (x8_3 : Int).toNat]) := ⟨_, rfl⟩
            replace H : (spec_PathSteps.l0 kj13 x0_7 y107 x6_1 (wrap64 (x8_3 + 1)) (wrap64 (x8_3 + 1))) = some (r1, r2, r3) := by first | (rw [hy107]; with_reducible exact H) | (have H2_ := (Option.bind_some _ _).symm.trans H; rw [hy107]; with_reducible exact H2_) | (have H2_ := (Option.bind_some _ _).symm.trans H; with_reducible exact H2_) | with_reducible exact H | (rw [hy107]; exact H) | exact H
            have Ny107 := Aside0.mk hy107; clear hy107; have H' := Aside0.mk H; clear H; obtain ⟨Ao28, co28, eo28⟩ := Kd.R_slice HO_5.out; subst eo28
            go_wp2_with (first | ((with_reducible refine gate_builtin (b := .append) (xs := #[.tmp 59, .tmp 61]) rfl ?_); (try (refine gate_guard (by rfl) ?_; dsimp only)); at_builtin; refine Kd.R_append Kd.string (w0 := w) w.heap.size rfl (.tmp 59) (.tmp 61) 32 9 (.string ⟨#[]⟩) 16 rfl Tryd.underlying32 info9 rfl (by decide) (by omega) (.slice Ao28 x5_3.length co28) x5_3 (x0_7.extract (x7_3 : Int).toNat (x8_3 : Int).toNat) [.string (x0_7.extract (x7_3 : Int).toNat (x8_3 : Int).toNat)] (fun _ => True) (fun _ => False) rfl rfl ?aP (fun _ hk => hk.elim) ?aF ?aO ?aB ?aS ?aL ?_; (case aP => exact rfl); (case aB => exact (bz HB.out)); (case aF => exact (fun _ _ => trivial)); (case aO => exact (rz HO_5.out)); (case aS => exact (below_size (bz HB.out))); (case aL => have := LMc27.out; omega); intro v108 w29 ho hb hg hat; rw [← Ny107.out] at ho; have n0_ := Aside0.mk (hb); have n1_ := Aside0.mk (ho); clear HB; clear HO_5; have HB := n0_; have HO109 := n1_; clear n0_ n1_; clear ho hb hg hat))
            go_roundg kj13
            case measure => have := HJ1.out; have := HJ7.out; have := HK3.out; have := HJ10.out; have := HJ13.out; omega
            case rel => exact ⟨(y107), (wrap64 (x8_3 + 1)), (wrap64 (x8_3 + 1)), zr, zr, H', ⟨by have := HJ1.out; have := HJ7.out; have := HK3.out; have := HJ10.out; have := HJ13.out; omega⟩, ⟨rz (HO109.out)⟩, ⟨bz HB.out⟩⟩
           rw [if_neg c22] at H; have c22b0 : ((x0_7.extract (x7_3 : Int).toNat (x8_3 : Int).toNat).toList == ([46, 46] : List UInt8)) = false := beq_eq_false_iff_ne.mpr c22; have c22b1 : ((x0_7.extract (x7_3 : Int).toNat (x8_3 : Int).toNat).toList != ([46, 46] : List UInt8)) = true := bne_iff_ne.mpr c22; replace H := Option.bind_eq_some_iff.mp H; obtain ⟨t110, A300, H⟩ := H; have A30 := Aside0.mk A300; clear A300
           by_cases c31 : t110 = true
           rotate_left
           ·
            replace c31 := Bool.eq_false_iff.mpr c31; subst c31; rw [if_neg nf_] at H; obtain ⟨y117, hy117⟩ : ∃ y_ : List ByteArray, y_ = (([] : List ByteArray)) := ⟨_, rfl⟩
            replace H : (some (false, y117, false)) = some (r1, r2, r3) := by first | (rw [hy117]; with_reducible exact H) | (have H2_ := (Option.bind_some _ _).symm.trans H; rw [hy117]; with_reducible exact H2_) | (have H2_ := (Option.bind_some _ _).symm.trans H; with_reducible exact H2_) | with_reducible exact H | (rw [hy117]; exact H) | exact H
            have Ny117 := Aside0.mk hy117; clear hy117; simp only [Option.some.injEq, Prod.mk.injEq] at H; obtain ⟨rfl, rfl, rfl⟩ := H
            go_wp2_with (first | (go_at_call 34; (with_reducible refine (spec_l7Name.calls kj13 (x0_7.extract (x7_3 : Int).toNat (x8_3 : Int).toNat) false _ A30.out).mono ?_); rintro e w' ⟨rfl, ⟨nd, rfl⟩⟩) | ((with_reducible refine gate_dst (N := 58) rfl ?_); (try (refine gate_guard (by rfl) ?_; dsimp only)); refine Kd.R_lit Kd.string _ 9 ?hg (N := 58) ?hd (xs := ([] : List ByteArray)) (inner := []) (ok := fun _ => True) (okp := fun _ => True) ?hr ?hp (fun _ hk => hk) trivial (Below.refl _ _) (Nat.le_refl _) (by simp) ?_; (case hd => rfl); (case hg => rfl); (case hr => first | (go_simp; done) | (go_simp; rfl)); (case hp => exact (Reps.none _ _)); intro v118 w39 ho40 hb hg_ hnew_; clear hg_ hnew_; (first | rw [← Ny117.out] at ho40 | (simp only [Int.reduceToNat] at ho40; rw [← Ny117.out] at ho40)); have HO119 := Aside0.mk (Kd.R_lower (Kd.R_new' ho40 (Kd.R_lt (rz HO_5.out))) (below_size (bz HB.out))); replace HO_5 := Aside0.mk (Kd.R_elder' (rz HO_5.out) (Kd.R_base ho40) hb); replace HB := Aside0.mk (below_step (bz HB.out) hb); clear hb ho40))
            go_ret3
            exact ⟨_, ze, by (with_reducible repeat (first | apply Kd.R_alloc | apply Kd.R_drewN | apply Kd.R_drew)); exact Kd.R_mono HO119.out (fun _ hk => trivial), bz HB.out⟩
           subst c31; rw [if_pos rfl] at H
           by_cases c32 : (x5_3.length : Int) ≥ 6
           ·
            rw [if_pos c32] at H; have c32b0 : decide (6 ≤ (x5_3.length : Int)) = true := decide_eq_true c32; have c32b1 : decide (6 ≤ x5_3.length) = true := decide_eq_true (by omega); clear c32; obtain ⟨y111, hy111⟩ : ∃ y_ : List ByteArray, y_ = (([] : List ByteArray)) := ⟨_, rfl⟩
            replace H : (some (false, y111, false)) = some (r1, r2, r3) := by first | (rw [hy111]; with_reducible exact H) | (have H2_ := (Option.bind_some _ _).symm.trans H; rw [hy111]; with_reducible exact H2_) | (have H2_ := (Option.bind_some _ _).symm.trans H; with_reducible exact H2_) | with_reducible exact H | (rw [hy111]; exact H) | exact H
            have Ny111 := Aside0.mk hy111; clear hy111; simp only [Option.some.injEq, Prod.mk.injEq] at H; obtain ⟨rfl, rfl, rfl⟩ := H
            go_wp2_with (first | (go_at_call 34; (with_reducible refine (spec_l7Name.calls kj13 (x0_7.extract (x7_3 : Int).toNat (x8_3 : Int).toNat) true _ A30.out).mono ?_); rintro e w' ⟨rfl, ⟨nd, rfl⟩⟩; obtain ⟨Ao33, co33, eo33⟩ := Kd.R_slice HO_5.out; subst eo33) | ((with_reducible refine gate_dst (N := 58) rfl ?_); (try (refine gate_guard (by rfl) ?_; dsimp only)); refine Kd.R_lit Kd.string _ 9 ?hg (N := 58) ?hd (xs := ([] : List ByteArray)) (inner := []) (ok := fun _ => True) (okp := fun _ => True) ?hr ?hp (fun _ hk => hk) trivial (Below.refl _ _) (Nat.le_refl _) (by simp) ?_; (case hd => rfl); (case hg => rfl); (case hr => first | (go_simp; done) | (go_simp; rfl)); (case hp => exact (Reps.none _ _)); intro v112 w34 ho35 hb hg_ hnew_; clear hg_ hnew_; (first | rw [← Ny111.out] at ho35 | (simp only [Int.reduceToNat] at ho35; rw [← Ny111.out] at ho35)); have HO113 := Aside0.mk (Kd.R_lower (Kd.R_new' ho35 (Kd.R_lt (rz HO_5.out))) (below_size (bz HB.out))); replace HO_5 := Aside0.mk (Kd.R_elder' (rz HO_5.out) (Kd.R_base ho35) hb); replace HB := Aside0.mk (below_step (bz HB.out) hb); clear hb ho35))
            go_ret3
            exact ⟨_, ze, by (with_reducible repeat (first | apply Kd.R_alloc | apply Kd.R_drewN | apply Kd.R_drew)); exact Kd.R_mono HO113.out (fun _ hk => trivial), bz HB.out⟩
           rw [if_neg c32] at H; have c32b0 : decide (6 ≤ (x5_3.length : Int)) = false := decide_eq_false c32; have c32b1 : decide (6 ≤ x5_3.length) = false := decide_eq_false (by omega); clear c32
           by_cases c36 : x5_3.length < 8796093022208
           rotate_left
           ·
            rw [if_neg c36] at H
            exact absurd H (by simp)
           rw [if_pos c36] at H; have LMc36 := Aside0.mk c36; clear c36; obtain ⟨y114, hy114⟩ : ∃ y_ : List ByteArray, y_ = (x5_3 ++ [x0_7.extract (x7_3 : Int).toNat (x8_3 : Int).toNat]) := ⟨_, rfl⟩
           replace H : (spec_PathSteps.l0 kj13 x0_7 y114 x6_1 (wrap64 (x8_3 + 1)) (wrap64 (x8_3 + 1))) = some (r1, r2, r3) := by first | (rw [hy114]; with_reducible exact H) | (have H2_ := (Option.bind_some _ _).symm.trans H; rw [hy114]; with_reducible exact H2_) | (have H2_ := (Option.bind_some _ _).symm.trans H; with_reducible exact H2_) | with_reducible exact H | (rw [hy114]; exact H) | exact H
           have Ny114 := Aside0.mk hy114; clear hy114; have H' := Aside0.mk H; clear H
           go_wp2_with (first | (go_at_call 34; (with_reducible refine (spec_l7Name.calls kj13 (x0_7.extract (x7_3 : Int).toNat (x8_3 : Int).toNat) true _ A30.out).mono ?_); rintro e w' ⟨rfl, ⟨nd, rfl⟩⟩; obtain ⟨Ao37, co37, eo37⟩ := Kd.R_slice HO_5.out; subst eo37) | ((with_reducible refine gate_builtin (b := .append) (xs := #[.tmp 59, .tmp 61]) rfl ?_); (try (refine gate_guard (by rfl) ?_; dsimp only)); at_builtin; refine Kd.R_append Kd.string (w0 := w) w.heap.size rfl (.tmp 59) (.tmp 61) 32 9 (.string ⟨#[]⟩) 16 rfl Tryd.underlying32 info9 rfl (by decide) (by omega) (.slice Ao37 x5_3.length co37) x5_3 (x0_7.extract (x7_3 : Int).toNat (x8_3 : Int).toNat) [.string (x0_7.extract (x7_3 : Int).toNat (x8_3 : Int).toNat)] (fun _ => True) (fun _ => False) rfl rfl ?aP (fun _ hk => hk.elim) ?aF ?aO ?aB ?aS ?aL ?_; (case aP => exact rfl); (case aB => exact (bz HB.out)); (case aF => exact (fun _ _ => trivial)); (case aO => exact (rz HO_5.out)); (case aS => exact (below_size (bz HB.out))); (case aL => have := LMc36.out; omega); intro v115 w38 ho hb hg hat; rw [← Ny114.out] at ho; have n0_ := Aside0.mk (hb); have n1_ := Aside0.mk (ho); clear HB; clear HO_5; have HB := n0_; have HO116 := n1_; clear n0_ n1_; clear ho hb hg hat))
           go_roundg kj13
           case measure => have := HJ1.out; have := HJ7.out; have := HK3.out; have := HJ10.out; have := HJ13.out; omega
           case rel => exact ⟨(y114), (wrap64 (x8_3 + 1)), (wrap64 (x8_3 + 1)), zr, zr, H', ⟨by have := HJ1.out; have := HJ7.out; have := HK3.out; have := HJ10.out; have := HJ13.out; omega⟩, ⟨rz (HO116.out)⟩, ⟨bz HB.out⟩⟩

end Go.Proofs.YtkjjlkkfhbfbmaaDoor.P

namespace Go.Proofs.YtkjjlkkfhbfbmaaDoor.P
open Go.RowKit Go.Proofs.YtkjjlkkfhbfbmaaDoorW.PrintWords Go.Proofs.YtkjjlkkfhbfbmaaDoorW.PrintLast Go.Proofs.YtkjjlkkfhbfbmaaDoorW.PrintMore
attribute [local go_sem] max2_int min2_int max_two min_two max_three min_three max_four min_four Q.cell_set_map Q.str_gtr Q.str_geq Q.str_leq
set_option linter.unusedVariables false
set_option linter.unusedSimpArgs false

/-! ### spec_CallOk: function 13 -/
-- IMPORT Derived.Test.YtkjjlkkfhbfbmaaDoorQSem9
def spec_CallOk.f (k : Nat) (a0_0 : Int) (a0_1 : Int) (a0_2 : Int) (a0_3 : ByteArray) (a0_4 : ByteArray) (a0_5 : ByteArray) : Option (Bool) := (spec_PathSteps.f k a0_3).bind fun bt102 => ((spec_PathSteps.f k a0_4).bind fun bt107 => ((spec_l6In.f a0_0 1 31).bind fun t112 => (if t112 = true then (if (a0_5.size : Int) ≤ 40 then (if (a0_3.size : Int) ≤ 40 then (if (a0_4.size : Int) ≤ 40 then (if bt102.2.2 = true then (some bt107.2.2) else (some false)) else (some false)) else (some false)) else (some false)) else (some false))))
theorem spec_CallOk.mono : ∀ a0 a1 a2 a3 a4 a5 k, LeO (spec_CallOk.f k a0 a1 a2 a3 a4 a5) (spec_CallOk.f (k + 1) a0 a1 a2 a3 a4 a5) := by
 intro a0 a1 a2 a3 a4 a5 k
 unfold spec_CallOk.f
 repeat' first
   | (with_reducible exact spec_PathSteps.mono _ _)
   | (with_reducible exact LeO.refl _)
   | (with_reducible exact LeO.none _)
   | (with_reducible refine LeO.ite ?_ ?_)
   | (with_reducible refine LeO.bind ?_ (fun _ => ?_))
   | exact spec_PathSteps.mono _ _
   | exact LeO.none _
   | refine LeO.ite ?_ ?_
   | refine LeO.bind ?_ (fun _ => ?_)
set_option maxHeartbeats 8000000 in
set_option maxRecDepth 100000 in
theorem spec_CallOk.calls (k : Nat) (a0_0 : Int) (a0_1 : Int) (a0_2 : Int) (a0_3 : ByteArray) (a0_4 : ByteArray) (a0_5 : ByteArray) (r : Bool) (w : World) (h : spec_CallOk.f k a0_0 a0_1 a0_2 a0_3 a0_4 a0_5 = some r) :
  Calls Tryd.prog 13 #[.agg #[.int .i64 a0_0, .int .i64 a0_1, .int .i64 a0_2, .string a0_3, .string a0_4, .string a0_5]] w fun e w' => e = .returned (.bool r) ∧ Below w.heap.size w w' := by
 have hu23 := Tryd.underlying23; have HB := Aside0.mk (Below.refl w.heap.size w); have H : ((spec_PathSteps.f k a0_3).bind fun bt102 => ((spec_PathSteps.f k a0_4).bind fun bt107 => ((spec_l6In.f a0_0 1 31).bind fun t112 => (if t112 = true then (if (a0_5.size : Int) ≤ 40 then (if (a0_3.size : Int) ≤ 40 then (if (a0_4.size : Int) ≤ 40 then (if bt102.2.2 = true then (some bt107.2.2) else (some false)) else (some false)) else (some false)) else (some false)) else (some false))))) = some r := h; clear h; replace H := Option.bind_eq_some_iff.mp H; obtain ⟨⟨t102, t103, t104⟩, A20, H⟩ := H; replace H : ((spec_PathSteps.f k a0_4).bind fun bt107 => ((spec_l6In.f a0_0 1 31).bind fun t112 => (if t112 = true then (if (a0_5.size : Int) ≤ 40 then (if (a0_3.size : Int) ≤ 40 then (if (a0_4.size : Int) ≤ 40 then (if t104 = true then (some bt107.2.2) else (some false)) else (some false)) else (some false)) else (some false)) else (some false)))) = some r := H; have A2 := Aside0.mk A20; clear A20; replace H := Option.bind_eq_some_iff.mp H; obtain ⟨⟨t107, t108, t109⟩, A30, H⟩ := H; replace H : ((spec_l6In.f a0_0 1 31).bind fun t112 => (if t112 = true then (if (a0_5.size : Int) ≤ 40 then (if (a0_3.size : Int) ≤ 40 then (if (a0_4.size : Int) ≤ 40 then (if t104 = true then (some t109) else (some false)) else (some false)) else (some false)) else (some false)) else (some false))) = some r := H; have A3 := Aside0.mk A30; clear A30; replace H := Option.bind_eq_some_iff.mp H; obtain ⟨t112, A40, H⟩ := H; have A4 := Aside0.mk A40; clear A40
 by_cases c5 : t112 = true
 rotate_left
 ·
  replace c5 := Bool.eq_false_iff.mpr c5; subst c5; rw [if_neg nf_] at H; obtain rfl := Option.some.inj H
  go_enter Tryd.func13, Tryd.ntmps13
  go_wp2_with (first | ((with_reducible refine gate_dst (N := 1) rfl ?_); (try (refine gate_guard (by rfl) ?_; dsimp only)); refine box_event ?hg (N := 1) ?hd (cs := #[.int .i64 a0_0, .int .i64 a0_1, .int .i64 a0_2, .string a0_3, .string a0_4, .string a0_5]) (t := 23) ?hr ?_; (case hd => rfl); (case hg => rfl); (case hr => first | (go_simp; done) | (go_simp; rfl)); intro gb101 hg w40 hbox hb; have BK101 := Aside0.mk (hbox); have GW101 := Aside0.mk ((by rw [hg]; exact (below_size (bz HB.out)) : w.heap.size ≤ gb101)); have GE101 := GW101; replace HB := Aside0.mk (below_step (bz HB.out) hb); clear hb hbox hg; obtain ⟨hcz41_0, hcz41_1, hcz41_2, hcz41_3, hcz41_4, hcz41_5⟩ := cz6 BK101.out; obtain ⟨hfz41_0, hfz41_1, hfz41_2, hfz41_3, hfz41_4, hfz41_5⟩ := fz6 BK101.out) | ((with_reducible refine gate_callee (f := 22) rfl ?_); refine goesL_ (some 12) rfl rfl Tryd.func22 zk rfl #[.string a0_3] rfl zm ?_; (with_reducible refine (spec_PathSteps.calls k a0_3 t102 t103 t104 _ A2.out).mono ?_); rintro e w42 ⟨v105, rfl, ho0, hb⟩; refine ⟨_, rfl, ?_⟩; have HO106 := Aside0.mk (Kd.R_lower ho0 (below_size (bs HB.out GE101.out))); replace BK101 := Aside0.mk (blk_below (kz BK101.out) hb); replace HB := Aside0.mk (below_step (bs HB.out GE101.out) hb); (try clear hb); (try clear ho0); obtain ⟨hcz43_0, hcz43_1, hcz43_2, hcz43_3, hcz43_4, hcz43_5⟩ := cz6 BK101.out; obtain ⟨hfz43_0, hfz43_1, hfz43_2, hfz43_3, hfz43_4, hfz43_5⟩ := fz6 BK101.out) | ((with_reducible refine gate_callee (f := 22) rfl ?_); refine goesL_ (some 19) rfl rfl Tryd.func22 zk rfl #[.string a0_4] rfl zm ?_; (with_reducible refine (spec_PathSteps.calls k a0_4 t107 t108 t109 _ A3.out).mono ?_); rintro e w44 ⟨v110, rfl, ho0, hb⟩; refine ⟨_, rfl, ?_⟩; have HO111 := Aside0.mk (Kd.R_lower (Kd.R_new' ho0 (Kd.R_lt (rz HO106.out))) (below_size (bs HB.out GE101.out))); replace HO106 := Aside0.mk (Kd.R_elder' (rz HO106.out) (Kd.R_base ho0) hb); replace BK101 := Aside0.mk (blk_below (kz BK101.out) hb); replace HB := Aside0.mk (below_step (bs HB.out GE101.out) hb); (try clear hb); (try clear ho0); obtain ⟨hcz45_0, hcz45_1, hcz45_2, hcz45_3, hcz45_4, hcz45_5⟩ := cz6 BK101.out; obtain ⟨hfz45_0, hfz45_1, hfz45_2, hfz45_3, hfz45_4, hfz45_5⟩ := fz6 BK101.out) | ((with_reducible refine gate_callee (f := 23) rfl ?_); refine goesL_ (some 25) rfl rfl Tryd.func23 zk rfl #[.int .i64 a0_0, .int .i64 1, .int .i64 31] rfl zm ?_; (with_reducible refine (spec_l6In.calls a0_0 1 31 false _ A4.out).mono ?_); rintro e w' ⟨rfl, ⟨nd, rfl⟩⟩; refine ⟨_, rfl, ?_⟩))
  go_ret
  exact ⟨ze, bs HB.out GE101.out⟩
 subst c5; rw [if_pos rfl] at H
 by_cases c6 : (a0_5.size : Int) ≤ 40
 rotate_left
 ·
  rw [if_neg c6] at H; have c6b0 : decide ((a0_5.size : Int) ≤ 40) = false := decide_eq_false c6; have c6b1 : decide (a0_5.size ≤ 40) = false := decide_eq_false (by omega); clear c6; obtain rfl := Option.some.inj H
  go_enter Tryd.func13, Tryd.ntmps13
  go_wp2_with (first | ((with_reducible refine gate_dst (N := 1) rfl ?_); (try (refine gate_guard (by rfl) ?_; dsimp only)); refine box_event ?hg (N := 1) ?hd (cs := #[.int .i64 a0_0, .int .i64 a0_1, .int .i64 a0_2, .string a0_3, .string a0_4, .string a0_5]) (t := 23) ?hr ?_; (case hd => rfl); (case hg => rfl); (case hr => first | (go_simp; done) | (go_simp; rfl)); intro gb101 hg w34 hbox hb; have BK101 := Aside0.mk (hbox); have GW101 := Aside0.mk ((by rw [hg]; exact (below_size (bz HB.out)) : w.heap.size ≤ gb101)); have GE101 := GW101; replace HB := Aside0.mk (below_step (bz HB.out) hb); clear hb hbox hg; obtain ⟨hcz35_0, hcz35_1, hcz35_2, hcz35_3, hcz35_4, hcz35_5⟩ := cz6 BK101.out; obtain ⟨hfz35_0, hfz35_1, hfz35_2, hfz35_3, hfz35_4, hfz35_5⟩ := fz6 BK101.out) | ((with_reducible refine gate_callee (f := 22) rfl ?_); refine goesL_ (some 12) rfl rfl Tryd.func22 zk rfl #[.string a0_3] rfl zm ?_; (with_reducible refine (spec_PathSteps.calls k a0_3 t102 t103 t104 _ A2.out).mono ?_); rintro e w36 ⟨v105, rfl, ho0, hb⟩; refine ⟨_, rfl, ?_⟩; have HO106 := Aside0.mk (Kd.R_lower ho0 (below_size (bs HB.out GE101.out))); replace BK101 := Aside0.mk (blk_below (kz BK101.out) hb); replace HB := Aside0.mk (below_step (bs HB.out GE101.out) hb); (try clear hb); (try clear ho0); obtain ⟨hcz37_0, hcz37_1, hcz37_2, hcz37_3, hcz37_4, hcz37_5⟩ := cz6 BK101.out; obtain ⟨hfz37_0, hfz37_1, hfz37_2, hfz37_3, hfz37_4, hfz37_5⟩ := fz6 BK101.out) | ((with_reducible refine gate_callee (f := 22) rfl ?_); refine goesL_ (some 19) rfl rfl Tryd.func22 zk rfl #[.string a0_4] rfl zm ?_; (with_reducible refine (spec_PathSteps.calls k a0_4 t107 t108 t109 _ A3.out).mono ?_); rintro e w38 ⟨v110, rfl, ho0, hb⟩; refine ⟨_, rfl, ?_⟩; have HO111 := Aside0.mk (Kd.R_lower (Kd.R_new' ho0 (Kd.R_lt (rz HO106.out))) (below_size (bs HB.out GE101.out))); replace HO106 := Aside0.mk (Kd.R_elder' (rz HO106.out) (Kd.R_base ho0) hb); replace BK101 := Aside0.mk (blk_below (kz BK101.out) hb); replace HB := Aside0.mk (below_step (bs HB.out GE101.out) hb); (try clear hb); (try clear ho0); obtain ⟨hcz39_0, hcz39_1, hcz39_2, hcz39_3, hcz39_4, hcz39_5⟩ := cz6 BK101.out; obtain ⟨hfz39_0, hfz39_1, hfz39_2, hfz39_3, hfz39_4, hfz39_5⟩ := fz6 BK101.out) | ((with_reducible refine gate_callee (f := 23) rfl ?_); refine goesL_ (some 25) rfl rfl Tryd.func23 zk rfl #[.int .i64 a0_0, .int .i64 1, .int .i64 31] rfl zm ?_; (with_reducible refine (spec_l6In.calls a0_0 1 31 true _ A4.out).mono ?_); rintro e w' ⟨rfl, ⟨nd, rfl⟩⟩; refine ⟨_, rfl, ?_⟩))
  go_ret
  exact ⟨ze, bs HB.out GE101.out⟩
 rw [if_pos c6] at H; have c6b0 : decide ((a0_5.size : Int) ≤ 40) = true := decide_eq_true c6; have c6b1 : decide (a0_5.size ≤ 40) = true := decide_eq_true (by omega); clear c6
 by_cases c7 : (a0_3.size : Int) ≤ 40
 rotate_left
 ·
  rw [if_neg c7] at H; have c7b0 : decide ((a0_3.size : Int) ≤ 40) = false := decide_eq_false c7; have c7b1 : decide (a0_3.size ≤ 40) = false := decide_eq_false (by omega); clear c7; obtain rfl := Option.some.inj H
  go_enter Tryd.func13, Tryd.ntmps13
  go_wp2_with (first | ((with_reducible refine gate_dst (N := 1) rfl ?_); (try (refine gate_guard (by rfl) ?_; dsimp only)); refine box_event ?hg (N := 1) ?hd (cs := #[.int .i64 a0_0, .int .i64 a0_1, .int .i64 a0_2, .string a0_3, .string a0_4, .string a0_5]) (t := 23) ?hr ?_; (case hd => rfl); (case hg => rfl); (case hr => first | (go_simp; done) | (go_simp; rfl)); intro gb101 hg w28 hbox hb; have BK101 := Aside0.mk (hbox); have GW101 := Aside0.mk ((by rw [hg]; exact (below_size (bz HB.out)) : w.heap.size ≤ gb101)); have GE101 := GW101; replace HB := Aside0.mk (below_step (bz HB.out) hb); clear hb hbox hg; obtain ⟨hcz29_0, hcz29_1, hcz29_2, hcz29_3, hcz29_4, hcz29_5⟩ := cz6 BK101.out; obtain ⟨hfz29_0, hfz29_1, hfz29_2, hfz29_3, hfz29_4, hfz29_5⟩ := fz6 BK101.out) | ((with_reducible refine gate_callee (f := 22) rfl ?_); refine goesL_ (some 12) rfl rfl Tryd.func22 zk rfl #[.string a0_3] rfl zm ?_; (with_reducible refine (spec_PathSteps.calls k a0_3 t102 t103 t104 _ A2.out).mono ?_); rintro e w30 ⟨v105, rfl, ho0, hb⟩; refine ⟨_, rfl, ?_⟩; have HO106 := Aside0.mk (Kd.R_lower ho0 (below_size (bs HB.out GE101.out))); replace BK101 := Aside0.mk (blk_below (kz BK101.out) hb); replace HB := Aside0.mk (below_step (bs HB.out GE101.out) hb); (try clear hb); (try clear ho0); obtain ⟨hcz31_0, hcz31_1, hcz31_2, hcz31_3, hcz31_4, hcz31_5⟩ := cz6 BK101.out; obtain ⟨hfz31_0, hfz31_1, hfz31_2, hfz31_3, hfz31_4, hfz31_5⟩ := fz6 BK101.out) | ((with_reducible refine gate_callee (f := 22) rfl ?_); refine goesL_ (some 19) rfl rfl Tryd.func22 zk rfl #[.string a0_4] rfl zm ?_; (with_reducible refine (spec_PathSteps.calls k a0_4 t107 t108 t109 _ A3.out).mono ?_); rintro e w32 ⟨v110, rfl, ho0, hb⟩; refine ⟨_, rfl, ?_⟩; have HO111 := Aside0.mk (Kd.R_lower (Kd.R_new' ho0 (Kd.R_lt (rz HO106.out))) (below_size (bs HB.out GE101.out))); replace HO106 := Aside0.mk (Kd.R_elder' (rz HO106.out) (Kd.R_base ho0) hb); replace BK101 := Aside0.mk (blk_below (kz BK101.out) hb); replace HB := Aside0.mk (below_step (bs HB.out GE101.out) hb); (try clear hb); (try clear ho0); obtain ⟨hcz33_0, hcz33_1, hcz33_2, hcz33_3, hcz33_4, hcz33_5⟩ := cz6 BK101.out; obtain ⟨hfz33_0, hfz33_1, hfz33_2, hfz33_3, hfz33_4, hfz33_5⟩ := fz6 BK101.out) | ((with_reducible refine gate_callee (f := 23) rfl ?_); refine goesL_ (some 25) rfl rfl Tryd.func23 zk rfl #[.int .i64 a0_0, .int .i64 1, .int .i64 31] rfl zm ?_; (with_reducible refine (spec_l6In.calls a0_0 1 31 true _ A4.out).mono ?_); rintro e w' ⟨rfl, ⟨nd, rfl⟩⟩; refine ⟨_, rfl, ?_⟩))
  go_ret
  exact ⟨ze, bs HB.out GE101.out⟩
 rw [if_pos c7] at H; have c7b0 : decide ((a0_3.size : Int) ≤ 40) = true := decide_eq_true c7; have c7b1 : decide (a0_3.size ≤ 40) = true := decide_eq_true (by omega); clear c7
 by_cases c8 : (a0_4.size : Int) ≤ 40
 rotate_left
 ·
  rw [if_neg c8] at H; have c8b0 : decide ((a0_4.size : Int) ≤ 40) = false := decide_eq_false c8; have c8b1 : decide (a0_4.size ≤ 40) = false := decide_eq_false (by omega); clear c8; obtain rfl := Option.some.inj H
  go_enter Tryd.func13, Tryd.ntmps13
  go_wp2_with (first | ((with_reducible refine gate_dst (N := 1) rfl ?_); (try (refine gate_guard (by rfl) ?_; dsimp only)); refine box_event ?hg (N := 1) ?hd (cs := #[.int .i64 a0_0, .int .i64 a0_1, .int .i64 a0_2, .string a0_3, .string a0_4, .string a0_5]) (t := 23) ?hr ?_; (case hd => rfl); (case hg => rfl); (case hr => first | (go_simp; done) | (go_simp; rfl)); intro gb101 hg w22 hbox hb; have BK101 := Aside0.mk (hbox); have GW101 := Aside0.mk ((by rw [hg]; exact (below_size (bz HB.out)) : w.heap.size ≤ gb101)); have GE101 := GW101; replace HB := Aside0.mk (below_step (bz HB.out) hb); clear hb hbox hg; obtain ⟨hcz23_0, hcz23_1, hcz23_2, hcz23_3, hcz23_4, hcz23_5⟩ := cz6 BK101.out; obtain ⟨hfz23_0, hfz23_1, hfz23_2, hfz23_3, hfz23_4, hfz23_5⟩ := fz6 BK101.out) | ((with_reducible refine gate_callee (f := 22) rfl ?_); refine goesL_ (some 12) rfl rfl Tryd.func22 zk rfl #[.string a0_3] rfl zm ?_; (with_reducible refine (spec_PathSteps.calls k a0_3 t102 t103 t104 _ A2.out).mono ?_); rintro e w24 ⟨v105, rfl, ho0, hb⟩; refine ⟨_, rfl, ?_⟩; have HO106 := Aside0.mk (Kd.R_lower ho0 (below_size (bs HB.out GE101.out))); replace BK101 := Aside0.mk (blk_below (kz BK101.out) hb); replace HB := Aside0.mk (below_step (bs HB.out GE101.out) hb); (try clear hb); (try clear ho0); obtain ⟨hcz25_0, hcz25_1, hcz25_2, hcz25_3, hcz25_4, hcz25_5⟩ := cz6 BK101.out; obtain ⟨hfz25_0, hfz25_1, hfz25_2, hfz25_3, hfz25_4, hfz25_5⟩ := fz6 BK101.out) | ((with_reducible refine gate_callee (f := 22) rfl ?_); refine goesL_ (some 19) rfl rfl Tryd.func22 zk rfl #[.string a0_4] rfl zm ?_; (with_reducible refine (spec_PathSteps.calls k a0_4 t107 t108 t109 _ A3.out).mono ?_); rintro e w26 ⟨v110, rfl, ho0, hb⟩; refine ⟨_, rfl, ?_⟩; have HO111 := Aside0.mk (Kd.R_lower (Kd.R_new' ho0 (Kd.R_lt (rz HO106.out))) (below_size (bs HB.out GE101.out))); replace HO106 := Aside0.mk (Kd.R_elder' (rz HO106.out) (Kd.R_base ho0) hb); replace BK101 := Aside0.mk (blk_below (kz BK101.out) hb); replace HB := Aside0.mk (below_step (bs HB.out GE101.out) hb); (try clear hb); (try clear ho0); obtain ⟨hcz27_0, hcz27_1, hcz27_2, hcz27_3, hcz27_4, hcz27_5⟩ := cz6 BK101.out; obtain ⟨hfz27_0, hfz27_1, hfz27_2, hfz27_3, hfz27_4, hfz27_5⟩ := fz6 BK101.out) | ((with_reducible refine gate_callee (f := 23) rfl ?_); refine goesL_ (some 25) rfl rfl Tryd.func23 zk rfl #[.int .i64 a0_0, .int .i64 1, .int .i64 31] rfl zm ?_; (with_reducible refine (spec_l6In.calls a0_0 1 31 true _ A4.out).mono ?_); rintro e w' ⟨rfl, ⟨nd, rfl⟩⟩; refine ⟨_, rfl, ?_⟩))
  go_ret
  exact ⟨ze, bs HB.out GE101.out⟩
 rw [if_pos c8] at H; have c8b0 : decide ((a0_4.size : Int) ≤ 40) = true := decide_eq_true c8; have c8b1 : decide (a0_4.size ≤ 40) = true := decide_eq_true (by omega); clear c8
 by_cases c9 : t104 = true
 ·
  subst c9; rw [if_pos rfl] at H; obtain rfl := Option.some.inj H
  go_enter Tryd.func13, Tryd.ntmps13
  go_wp2_with (first | ((with_reducible refine gate_dst (N := 1) rfl ?_); (try (refine gate_guard (by rfl) ?_; dsimp only)); refine box_event ?hg (N := 1) ?hd (cs := #[.int .i64 a0_0, .int .i64 a0_1, .int .i64 a0_2, .string a0_3, .string a0_4, .string a0_5]) (t := 23) ?hr ?_; (case hd => rfl); (case hg => rfl); (case hr => first | (go_simp; done) | (go_simp; rfl)); intro gb101 hg w10 hbox hb; have BK101 := Aside0.mk (hbox); have GW101 := Aside0.mk ((by rw [hg]; exact (below_size (bz HB.out)) : w.heap.size ≤ gb101)); have GE101 := GW101; replace HB := Aside0.mk (below_step (bz HB.out) hb); clear hb hbox hg; obtain ⟨hcz11_0, hcz11_1, hcz11_2, hcz11_3, hcz11_4, hcz11_5⟩ := cz6 BK101.out; obtain ⟨hfz11_0, hfz11_1, hfz11_2, hfz11_3, hfz11_4, hfz11_5⟩ := fz6 BK101.out) | ((with_reducible refine gate_callee (f := 22) rfl ?_); refine goesL_ (some 12) rfl rfl Tryd.func22 zk rfl #[.string a0_3] rfl zm ?_; (with_reducible refine (spec_PathSteps.calls k a0_3 t102 t103 true _ A2.out).mono ?_); rintro e w12 ⟨v105, rfl, ho0, hb⟩; refine ⟨_, rfl, ?_⟩; have HO106 := Aside0.mk (Kd.R_lower ho0 (below_size (bs HB.out GE101.out))); replace BK101 := Aside0.mk (blk_below (kz BK101.out) hb); replace HB := Aside0.mk (below_step (bs HB.out GE101.out) hb); (try clear hb); (try clear ho0); obtain ⟨hcz13_0, hcz13_1, hcz13_2, hcz13_3, hcz13_4, hcz13_5⟩ := cz6 BK101.out; obtain ⟨hfz13_0, hfz13_1, hfz13_2, hfz13_3, hfz13_4, hfz13_5⟩ := fz6 BK101.out) | ((with_reducible refine gate_callee (f := 22) rfl ?_); refine goesL_ (some 19) rfl rfl Tryd.func22 zk rfl #[.string a0_4] rfl zm ?_; (with_reducible refine (spec_PathSteps.calls k a0_4 t107 t108 t109 _ A3.out).mono ?_); rintro e w14 ⟨v110, rfl, ho0, hb⟩; refine ⟨_, rfl, ?_⟩; have HO111 := Aside0.mk (Kd.R_lower (Kd.R_new' ho0 (Kd.R_lt (rz HO106.out))) (below_size (bs HB.out GE101.out))); replace HO106 := Aside0.mk (Kd.R_elder' (rz HO106.out) (Kd.R_base ho0) hb); replace BK101 := Aside0.mk (blk_below (kz BK101.out) hb); replace HB := Aside0.mk (below_step (bs HB.out GE101.out) hb); (try clear hb); (try clear ho0); obtain ⟨hcz15_0, hcz15_1, hcz15_2, hcz15_3, hcz15_4, hcz15_5⟩ := cz6 BK101.out; obtain ⟨hfz15_0, hfz15_1, hfz15_2, hfz15_3, hfz15_4, hfz15_5⟩ := fz6 BK101.out) | ((with_reducible refine gate_callee (f := 23) rfl ?_); refine goesL_ (some 25) rfl rfl Tryd.func23 zk rfl #[.int .i64 a0_0, .int .i64 1, .int .i64 31] rfl zm ?_; (with_reducible refine (spec_l6In.calls a0_0 1 31 true _ A4.out).mono ?_); rintro e w' ⟨rfl, ⟨nd, rfl⟩⟩; refine ⟨_, rfl, ?_⟩))
  go_ret
  exact ⟨ze, bs HB.out GE101.out⟩
 replace c9 := Bool.eq_false_iff.mpr c9; subst c9; rw [if_neg nf_] at H; obtain rfl := Option.some.inj H
 go_enter Tryd.func13, Tryd.ntmps13
 go_wp2_with (first | ((with_reducible refine gate_dst (N := 1) rfl ?_); (try (refine gate_guard (by rfl) ?_; dsimp only)); refine box_event ?hg (N := 1) ?hd (cs := #[.int .i64 a0_0, .int .i64 a0_1, .int .i64 a0_2, .string a0_3, .string a0_4, .string a0_5]) (t := 23) ?hr ?_; (case hd => rfl); (case hg => rfl); (case hr => first | (go_simp; done) | (go_simp; rfl)); intro gb101 hg w16 hbox hb; have BK101 := Aside0.mk (hbox); have GW101 := Aside0.mk ((by rw [hg]; exact (below_size (bz HB.out)) : w.heap.size ≤ gb101)); have GE101 := GW101; replace HB := Aside0.mk (below_step (bz HB.out) hb); clear hb hbox hg; obtain ⟨hcz17_0, hcz17_1, hcz17_2, hcz17_3, hcz17_4, hcz17_5⟩ := cz6 BK101.out; obtain ⟨hfz17_0, hfz17_1, hfz17_2, hfz17_3, hfz17_4, hfz17_5⟩ := fz6 BK101.out) | ((with_reducible refine gate_callee (f := 22) rfl ?_); refine goesL_ (some 12) rfl rfl Tryd.func22 zk rfl #[.string a0_3] rfl zm ?_; (with_reducible refine (spec_PathSteps.calls k a0_3 t102 t103 false _ A2.out).mono ?_); rintro e w18 ⟨v105, rfl, ho0, hb⟩; refine ⟨_, rfl, ?_⟩; have HO106 := Aside0.mk (Kd.R_lower ho0 (below_size (bs HB.out GE101.out))); replace BK101 := Aside0.mk (blk_below (kz BK101.out) hb); replace HB := Aside0.mk (below_step (bs HB.out GE101.out) hb); (try clear hb); (try clear ho0); obtain ⟨hcz19_0, hcz19_1, hcz19_2, hcz19_3, hcz19_4, hcz19_5⟩ := cz6 BK101.out; obtain ⟨hfz19_0, hfz19_1, hfz19_2, hfz19_3, hfz19_4, hfz19_5⟩ := fz6 BK101.out) | ((with_reducible refine gate_callee (f := 22) rfl ?_); refine goesL_ (some 19) rfl rfl Tryd.func22 zk rfl #[.string a0_4] rfl zm ?_; (with_reducible refine (spec_PathSteps.calls k a0_4 t107 t108 t109 _ A3.out).mono ?_); rintro e w20 ⟨v110, rfl, ho0, hb⟩; refine ⟨_, rfl, ?_⟩; have HO111 := Aside0.mk (Kd.R_lower (Kd.R_new' ho0 (Kd.R_lt (rz HO106.out))) (below_size (bs HB.out GE101.out))); replace HO106 := Aside0.mk (Kd.R_elder' (rz HO106.out) (Kd.R_base ho0) hb); replace BK101 := Aside0.mk (blk_below (kz BK101.out) hb); replace HB := Aside0.mk (below_step (bs HB.out GE101.out) hb); (try clear hb); (try clear ho0); obtain ⟨hcz21_0, hcz21_1, hcz21_2, hcz21_3, hcz21_4, hcz21_5⟩ := cz6 BK101.out; obtain ⟨hfz21_0, hfz21_1, hfz21_2, hfz21_3, hfz21_4, hfz21_5⟩ := fz6 BK101.out) | ((with_reducible refine gate_callee (f := 23) rfl ?_); refine goesL_ (some 25) rfl rfl Tryd.func23 zk rfl #[.int .i64 a0_0, .int .i64 1, .int .i64 31] rfl zm ?_; (with_reducible refine (spec_l6In.calls a0_0 1 31 true _ A4.out).mono ?_); rintro e w' ⟨rfl, ⟨nd, rfl⟩⟩; refine ⟨_, rfl, ?_⟩))
 go_ret
 exact ⟨ze, bs HB.out GE101.out⟩

end Go.Proofs.YtkjjlkkfhbfbmaaDoor.P
