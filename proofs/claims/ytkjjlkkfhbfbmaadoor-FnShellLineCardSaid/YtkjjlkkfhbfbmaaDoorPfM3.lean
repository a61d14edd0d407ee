-- printed by wip/qd.py, laid together by wip/mergepf.py
import Derived.Test.YtkjjlkkfhbfbmaaDoorPf0
import Derived.Test.YtkjjlkkfhbfbmaaDoorQShelf
import Derived.Test.YtkjjlkkfhbfbmaaDoorQVal
import Derived.Test.YtkjjlkkfhbfbmaaDoorQSem9
import Derived.Test.YtkjjlkkfhbfbmaaDoorQWords
namespace Go.Proofs.YtkjjlkkfhbfbmaaDoor.P
open Go.RowKit Go.Proofs.YtkjjlkkfhbfbmaaDoorW.PrintWords Go.Proofs.YtkjjlkkfhbfbmaaDoorW.PrintLast Go.Proofs.YtkjjlkkfhbfbmaaDoorW.PrintMore
attribute [local go_sem] max2_int min2_int max_two min_two max_three min_three max_four min_four Q.cell_set_map Q.str_gtr Q.str_geq Q.str_leq
set_option linter.unusedVariables false
set_option linter.unusedSimpArgs false

/-! ### impl_in: function 20 -/
def impl_in.f (a0 : Int) (a1 : Int) (a2 : Int) : Option (Bool) := if a0 ≥ a1 then (some (decide (a0 ≤ a2))) else (some false)
set_option maxHeartbeats 8000000 in
set_option maxRecDepth 100000 in
theorem impl_in.calls (a0 : Int) (a1 : Int) (a2 : Int) (r : Bool) (w : World) (h : impl_in.f a0 a1 a2 = some r) :
  Calls Tryd.prog 20 #[.int .i64 a0, .int .i64 a1, .int .i64 a2] w fun e w' => e = .returned (.bool r) ∧ Drawn0 w w' := by
 have H : (if a0 ≥ a1 then (some (decide (a0 ≤ a2))) else (some false)) = some r := h
 clear h
 by_cases c4 : a0 ≥ a1
 ·
  rw [if_pos c4] at H
  have c4b0 : decide (a1 ≤ a0) = true := decide_eq_true c4
  clear c4
  obtain rfl := Option.some.inj H
  go_enter Tryd.func20, Tryd.ntmps20
  go_wp2
  go_ret
  exact ⟨by first | rfl | (simp; done) | (simp [*]; done), by repeat (first | exact Drawn0.refl _ | apply Drawn0.step)⟩
 ·
  rw [if_neg c4] at H
  have c4b0 : decide (a1 ≤ a0) = false := decide_eq_false c4
  clear c4
  obtain rfl := Option.some.inj H
  go_enter Tryd.func20, Tryd.ntmps20
  go_wp2
  go_ret
  exact ⟨by first | rfl | (simp; done) | (simp [*]; done), by repeat (first | exact Drawn0.refl _ | apply Drawn0.step)⟩

end Go.Proofs.YtkjjlkkfhbfbmaaDoor.P

namespace Go.Proofs.YtkjjlkkfhbfbmaaDoor.P
open Go.RowKit Go.Proofs.YtkjjlkkfhbfbmaaDoorW.PrintWords Go.Proofs.YtkjjlkkfhbfbmaaDoorW.PrintLast Go.Proofs.YtkjjlkkfhbfbmaaDoorW.PrintMore
attribute [local go_sem] max2_int min2_int max_two min_two max_three min_three max_four min_four Q.cell_set_map Q.str_gtr Q.str_geq Q.str_leq
set_option linter.unusedVariables false
set_option linter.unusedSimpArgs false

/-! ### strings_explode: function 35 -/
def strings_explode.f (a0 : ByteArray) (a1 : Int) : Option (List ByteArray) := none
theorem strings_explode.calls (a0 : ByteArray) (a1 : Int) (r1 : List ByteArray) (w : World) (h : strings_explode.f a0 a1 = some r1) :
    Calls Tryd.prog 35 #[.string a0, .int .i64 a1] w fun e w' => ∃ v0_ : Value, e = .returned v0_ ∧ Kd.R Kd.string 9 w' w.heap.size (fun _ => True) v0_ r1 ∧ Below w.heap.size w w' := by
  unfold strings_explode.f at h
  cases h


end Go.Proofs.YtkjjlkkfhbfbmaaDoor.P

namespace Go.Proofs.YtkjjlkkfhbfbmaaDoor.P
open Go.RowKit Go.Proofs.YtkjjlkkfhbfbmaaDoorW.PrintWords Go.Proofs.YtkjjlkkfhbfbmaaDoorW.PrintLast Go.Proofs.YtkjjlkkfhbfbmaaDoorW.PrintMore
attribute [local go_sem] max2_int min2_int max_two min_two max_three min_three max_four min_four Q.cell_set_map Q.str_gtr Q.str_geq Q.str_leq
set_option linter.unusedVariables false
set_option linter.unusedSimpArgs false

/-! ### strings_Count: function 36 -/
-- IMPORT Derived.Test.YtkjjlkkfhbfbmaaDoorQShelf
def strings_Count.f (a0 : ByteArray) (a1 : ByteArray) : Option Int := if a1.size = 1 then some (Lib.countByte a0.data.toList (a1.data.getD 0 0)) else none
theorem strings_Count.one (a1 : ByteArray) (h : a1.size = 1) : a1 = ⟨#[a1.data.getD 0 0]⟩ := by
  obtain ⟨⟨l⟩⟩ := a1
  rcases l with _ | ⟨x, _ | ⟨y, l⟩⟩
  · cases h
  · rfl
  · simp [ByteArray.size] at h
theorem strings_Count.calls (a0 : ByteArray) (a1 : ByteArray) (r1 : Int) (w : World) (h : strings_Count.f a0 a1 = some r1) :
    Calls Tryd.prog 36 #[.string a0, .string a1] w fun e w' => e = .returned (.int .i64 r1) ∧ Drawn0 w w' := by
  unfold strings_Count.f at h
  split at h
  · rename_i h1
    obtain rfl := Option.some.inj h
    have hh := Tryd.strings_Count_one a0 (a1.data.getD 0 0) w
    rw [← strings_Count.one a1 h1] at hh
    refine hh.mono ?_
    rintro e w' ⟨rfl, rfl⟩
    exact ⟨rfl, 0, rfl⟩
  · cases h


end Go.Proofs.YtkjjlkkfhbfbmaaDoor.P

namespace Go.Proofs.YtkjjlkkfhbfbmaaDoor.P
open Go.RowKit Go.Proofs.YtkjjlkkfhbfbmaaDoorW.PrintWords Go.Proofs.YtkjjlkkfhbfbmaaDoorW.PrintLast Go.Proofs.YtkjjlkkfhbfbmaaDoorW.PrintMore
attribute [local go_sem] max2_int min2_int max_two min_two max_three min_three max_four min_four Q.cell_set_map Q.str_gtr Q.str_geq Q.str_leq
set_option linter.unusedVariables false
set_option linter.unusedSimpArgs false

/-! ### strings_Index: function 37 -/
-- IMPORT Derived.Test.YtkjjlkkfhbfbmaaDoorQShelf
def strings_Index.f (a0 : ByteArray) (a1 : ByteArray) : Option Int := if a1.size = 1 then some (Lib.indexByte a0.data.toList (a1.data.getD 0 0)) else none
theorem strings_Index.one (a1 : ByteArray) (h : a1.size = 1) : a1 = ⟨#[a1.data.getD 0 0]⟩ := by
  obtain ⟨⟨l⟩⟩ := a1
  rcases l with _ | ⟨x, _ | ⟨y, l⟩⟩
  · cases h
  · rfl
  · simp [ByteArray.size] at h
theorem strings_Index.calls (a0 : ByteArray) (a1 : ByteArray) (r1 : Int) (w : World) (h : strings_Index.f a0 a1 = some r1) :
    Calls Tryd.prog 37 #[.string a0, .string a1] w fun e w' => e = .returned (.int .i64 r1) ∧ Drawn0 w w' := by
  unfold strings_Index.f at h
  split at h
  · rename_i h1
    obtain rfl := Option.some.inj h
    have hh := Tryd.strings_Index_one a0 (a1.data.getD 0 0) w
    rw [← strings_Index.one a1 h1] at hh
    refine hh.mono ?_
    rintro e w' ⟨rfl, rfl⟩
    exact ⟨rfl, 0, rfl⟩
  · cases h


end Go.Proofs.YtkjjlkkfhbfbmaaDoor.P

namespace Go.Proofs.YtkjjlkkfhbfbmaaDoor.P
open Go.RowKit Go.Proofs.YtkjjlkkfhbfbmaaDoorW.PrintWords Go.Proofs.YtkjjlkkfhbfbmaaDoorW.PrintLast Go.Proofs.YtkjjlkkfhbfbmaaDoorW.PrintMore
attribute [local go_sem] max2_int min2_int max_two min_two max_three min_three max_four min_four Q.cell_set_map Q.str_gtr Q.str_geq Q.str_leq
set_option linter.unusedVariables false
set_option linter.unusedSimpArgs false

/-! ### strings_genSplit: function 24 -/
mutual
def strings_genSplit.j0 : Nat → ByteArray → ByteArray → Int → Int → Option (List ByteArray)
 | 0, _, _, _, _ => none
 | k + 1, x0, x1, x2, x3 => if 0 ≤ (mn x3 (wrap64 ((x0.size : Int) + 1))) then (if (mn x3 (wrap64 ((x0.size : Int) + 1)) : Int).toNat ≤ 17592186044416 then (strings_genSplit.l0 k x0 x1 x2 (wrap64 ((mn x3 (wrap64 ((x0.size : Int) + 1))) - 1)) (List.replicate (mn x3 (wrap64 ((x0.size : Int) + 1)) : Int).toNat (⟨#[]⟩ : ByteArray)) 0) else (none)) else (none)
def strings_genSplit.l0 : Nat → ByteArray → ByteArray → Int → Int → List ByteArray → Int → Option (List ByteArray)
 | 0, _, _, _, _, _, _ => none
 | k + 1, x0, x1, x2, x3, x9, x10 => if x10 < x3 then ((strings_Index.f x0 x1).bind fun t108 => (if t108 < 0 then (if 0 ≤ x10 then (if x10 < (x9.length : Int) then (if 0 ≤ (wrap64 (x10 + 1)) then (if (wrap64 (x10 + 1)) ≤ (x9.length : Int) then (some ((x9.set (x10 : Int).toNat x0).take ((wrap64 (x10 + 1)) : Int).toNat)) else (none)) else (none)) else (none)) else (none)) else (if 0 ≤ (wrap64 (t108 + x2)) then (if (wrap64 (t108 + x2)) ≤ (x0.size : Int) then (if 0 ≤ x10 then (if x10 < (x9.length : Int) then (if 0 ≤ (wrap64 (t108 + (x1.size : Int))) then (if (wrap64 (t108 + (x1.size : Int))) ≤ (x0.size : Int) then (strings_genSplit.l0 k (x0.extract ((wrap64 (t108 + (x1.size : Int))) : Int).toNat x0.size) x1 x2 x3 (x9.set (x10 : Int).toNat (x0.extract 0 ((wrap64 (t108 + x2)) : Int).toNat)) (wrap64 (x10 + 1))) else (none)) else (none)) else (none)) else (none)) else (none)) else (none)))) else (if 0 ≤ x10 then (if x10 < (x9.length : Int) then (if 0 ≤ (wrap64 (x10 + 1)) then (if (wrap64 (x10 + 1)) ≤ (x9.length : Int) then (some ((x9.set (x10 : Int).toNat x0).take ((wrap64 (x10 + 1)) : Int).toNat)) else (none)) else (none)) else (none)) else (none))
end
def strings_genSplit.f (k : Nat) (a0 : ByteArray) (a1 : ByteArray) (a2 : Int) (a3 : Int) : Option (List ByteArray) := if a3 = 0 then (some ([] : List ByteArray)) else (if a1.toList = ([] : List UInt8) then ((strings_explode.f a0 a3).bind fun t101 => (some t101)) else (if a3 < 0 then ((strings_Count.f a0 a1).bind fun t104 => (strings_genSplit.j0 k a0 a1 a2 (wrap64 (t104 + 1)))) else (strings_genSplit.j0 k a0 a1 a2 a3)))
theorem strings_genSplit.mono_l : ∀ k, (∀ y0 y1 y2 y3, LeO (strings_genSplit.j0 k y0 y1 y2 y3) (strings_genSplit.j0 (k + 1) y0 y1 y2 y3)) ∧ (∀ y0 y1 y2 y3 y4 y5, LeO (strings_genSplit.l0 k y0 y1 y2 y3 y4 y5) (strings_genSplit.l0 (k + 1) y0 y1 y2 y3 y4 y5))
 | 0 => ⟨fun _ _ _ _ r h => by simp [strings_genSplit.j0] at h, fun _ _ _ _ _ _ r h => by simp [strings_genSplit.l0] at h⟩
 | k + 1 => by
  obtain ⟨ih0, ih1⟩ := strings_genSplit.mono_l k
  refine ⟨?_, ?_⟩
  ·
   intro y0 y1 y2 y3
   unfold strings_genSplit.j0
   repeat' first
   | (with_reducible exact ih0 _ _ _ _)
   | (with_reducible exact ih1 _ _ _ _ _ _)
   | (with_reducible exact LeO.refl _)
   | (with_reducible exact LeO.none _)
   | (with_reducible refine LeO.ite ?_ ?_)
   | (with_reducible refine LeO.bind ?_ (fun _ => ?_))
   | exact ih0 _ _ _ _
   | exact ih1 _ _ _ _ _ _
   | exact LeO.none _
   | refine LeO.ite ?_ ?_
   | refine LeO.bind ?_ (fun _ => ?_)
  ·
   intro y0 y1 y2 y3 y4 y5
   unfold strings_genSplit.l0
   repeat' first
   | (with_reducible exact ih0 _ _ _ _)
   | (with_reducible exact ih1 _ _ _ _ _ _)
   | (with_reducible exact LeO.refl _)
   | (with_reducible exact LeO.none _)
   | (with_reducible refine LeO.ite ?_ ?_)
   | (with_reducible refine LeO.bind ?_ (fun _ => ?_))
   | exact ih0 _ _ _ _
   | exact ih1 _ _ _ _ _ _
   | exact LeO.none _
   | refine LeO.ite ?_ ?_
   | refine LeO.bind ?_ (fun _ => ?_)
theorem strings_genSplit.mono : ∀ a0 a1 a2 a3 k, LeO (strings_genSplit.f k a0 a1 a2 a3) (strings_genSplit.f (k + 1) a0 a1 a2 a3) := by
 intro a0 a1 a2 a3 k
 obtain ⟨ih0, ih1⟩ := strings_genSplit.mono_l k
 unfold strings_genSplit.f
 repeat' first
   | (with_reducible exact ih0 _ _ _ _)
   | (with_reducible exact ih1 _ _ _ _ _ _)
   | (with_reducible exact LeO.refl _)
   | (with_reducible exact LeO.none _)
   | (with_reducible refine LeO.ite ?_ ?_)
   | (with_reducible refine LeO.bind ?_ (fun _ => ?_))
   | exact ih0 _ _ _ _
   | exact ih1 _ _ _ _ _ _
   | exact LeO.none _
   | refine LeO.ite ?_ ?_
   | refine LeO.bind ?_ (fun _ => ?_)
set_option maxHeartbeats 8000000 in
set_option maxRecDepth 100000 in
theorem strings_genSplit.calls (k : Nat) (a0 : ByteArray) (a1 : ByteArray) (a2 : Int) (a3 : Int) (r : List ByteArray) (w : World) (h : strings_genSplit.f k a0 a1 a2 a3 = some r) :
  Calls Tryd.prog 24 #[.string a0, .string a1, .int .i64 a2, .int .i64 a3] w fun e w' => ∃ v0_ : Value, e = .returned (v0_) ∧ Kd.R Kd.string 9 w' w.heap.size (fun _ => True) v0_ r ∧ Below w.heap.size w w' := by
 have HB := Aside0.mk (Below.refl w.heap.size w); have H : (if a3 = 0 then (some ([] : List ByteArray)) else (if a1.toList = ([] : List UInt8) then ((strings_explode.f a0 a3).bind fun t101 => (some t101)) else (if a3 < 0 then ((strings_Count.f a0 a1).bind fun t104 => (strings_genSplit.j0 k a0 a1 a2 (wrap64 (t104 + 1)))) else (strings_genSplit.j0 k a0 a1 a2 a3)))) = some r := h; clear h
 by_cases c5 : a3 = 0
 ·
  rw [if_pos c5] at H; have c5b0 : (a3 == 0) = true := beq_iff_eq.mpr c5; have c5b1 : (a3 != 0) = false := bne_eq_false_iff_eq.mpr c5; clear c5; obtain rfl := Option.some.inj H
  go_enter Tryd.func24, Tryd.ntmps24
  go_wp2
  go_ret
  exact ⟨_, ze, by first | exact Kd.R_nil _ _ _ _ _ | exact Kd.N_nil _ _ _ _ _ | exact Kd.V_nil _ _ _ _ _ | exact Kd.Q_nil _ _ _ _ _ | exact Kd.S_nil _ _ _ _ _, bz HB.out⟩
 rw [if_neg c5] at H; have c5b0 : (a3 == 0) = false := beq_eq_false_iff_ne.mpr c5; have c5b1 : (a3 != 0) = true := bne_iff_ne.mpr c5
 by_cases c6 : a1.toList = ([] : List UInt8)
 ·
  rw [if_pos c6] at H; have c6b0 : (a1.toList == ([] : List UInt8)) = true := beq_iff_eq.mpr c6; have c6b1 : (a1.toList != ([] : List UInt8)) = false := bne_eq_false_iff_eq.mpr c6; clear c6; replace H := Option.bind_eq_some_iff.mp H; obtain ⟨t101, A70, H⟩ := H; have A7 := Aside0.mk A70; clear A70; obtain rfl := Option.some.inj H
  go_enter Tryd.func24, Tryd.ntmps24
  go_wp2_with (first | ((with_reducible refine gate_callee (f := 35) rfl ?_); refine goesL_ (some 18) rfl rfl Tryd.func35 zk rfl #[.string a0, .int .i64 a3] rfl zm ?_; (with_reducible refine (strings_explode.calls a0 a3 t101 _ A7.out).mono ?_); rintro e w8 ⟨v102, rfl, ho0, hb⟩; refine ⟨_, rfl, ?_⟩; have HO103 := Aside0.mk (Kd.R_lower ho0 (below_size (bz HB.out))); replace HB := Aside0.mk (below_step (bz HB.out) hb); (try clear hb); (try clear ho0)))
  go_ret
  exact ⟨_, ze, by (with_reducible repeat (first | apply Kd.R_alloc | apply Kd.R_drewN | apply Kd.R_drew)); exact HO103.out, bz HB.out⟩
 rw [if_neg c6] at H; have c6b0 : (a1.toList == ([] : List UInt8)) = false := beq_eq_false_iff_ne.mpr c6; have c6b1 : (a1.toList != ([] : List UInt8)) = true := bne_iff_ne.mpr c6; have HC9 := Aside0.mk H; clear H
 go_enter Tryd.func24, Tryd.ntmps24
 go_upto_if 20 with (fail)
 go_cut [3] (fun v3 wc => ∃ (kq : Nat) (x3_8 : Int), v3 = .int .i64 x3_8 ∧ Aside0 (strings_genSplit.j0 kq a0 a1 a2 x3_8 = some r) ∧ Aside0 (kq ≤ k) ∧ Aside0 (Below w.heap.size w wc))
 case first =>
  have H := HC9.out; clear HC9
  by_cases c10 : a3 < 0
  rotate_left
  ·
   rw [if_neg c10] at H; have c10b0 : decide (a3 < 0) = false := decide_eq_false c10; clear c10
   (first | rw [c10b0] | (simp only [i64_w, i32_w]; rw [c10b0]) | skip)
   have H' := Aside0.mk H; clear H
   go_wp2
   go_meet
   case rel => exact ⟨_, (a3), zr, H', ⟨by first | omega | exact Nat.le_refl _⟩, ⟨bz HB.out⟩⟩
  rw [if_pos c10] at H; have c10b0 : decide (a3 < 0) = true := decide_eq_true c10; clear c10
  (first | rw [c10b0] | (simp only [i64_w, i32_w]; rw [c10b0]) | skip)
  replace H := Option.bind_eq_some_iff.mp H; obtain ⟨t104, A110, H⟩ := H; have A11 := Aside0.mk A110; clear A110; have H' := Aside0.mk H; clear H
  go_wp2_with (first | ((with_reducible refine gate_callee (f := 36) rfl ?_); refine goesL_ (some 23) rfl rfl Tryd.func36 zk rfl #[.string a0, .string a1] rfl zm ?_; (with_reducible refine (strings_Count.calls a0 a1 t104 _ A11.out).mono ?_); rintro e w' ⟨rfl, ⟨nd, rfl⟩⟩; refine ⟨_, rfl, ?_⟩))
  go_meet
  case rel => exact ⟨_, (wrap64 (t104 + 1)), zr, H', ⟨by first | omega | exact Nat.le_refl _⟩, ⟨bz HB.out⟩⟩
 case rest =>
  clear HC9
  (try clear c5); (try clear c5b0); (try clear c5b1); (try clear c6); (try clear c6b0); (try clear c6b1)
  obtain ⟨kq, x3_8, rfl, HA, HJ8, HB⟩ := hcut
  cases kq with
  | zero => exact absurd HA.out (by simp [strings_genSplit.j0])
  | succ kj8 =>
   have H := HA.out; clear HA; simp only [strings_genSplit.j0] at H; obtain ⟨ji12, hji12⟩ : ∃ j_ : Int, (mn x3_8 (wrap64 ((a0.size : Int) + 1))) = j_ := ⟨_, rfl⟩
   replace H : (if 0 ≤ (ji12) then (if (ji12 : Int).toNat ≤ 17592186044416 then (strings_genSplit.l0 kj8 a0 a1 a2 (wrap64 ((ji12) - 1)) (List.replicate (ji12 : Int).toNat (⟨#[]⟩ : ByteArray)) 0) else (none)) else (none)) = some r := by first | (rw [hji12] at H; exact H) | (simp only [hji12] at H ⊢; exact H)
   have hji12_ : (if (wrap64 ((a0.size : Int) + 1)) < x3_8 then (wrap64 ((a0.size : Int) + 1)) else x3_8) = ji12 := hji12
   by_cases c13 : 0 ≤ (ji12)
   rotate_left
   ·
    rw [if_neg c13] at H
    exact absurd H (by simp)
   rw [if_pos c13] at H; have c13b0 := eq_true c13; have c13b1 : decide (0 ≤ (ji12)) = true := decide_eq_true c13; clear c13
   by_cases c14 : (ji12 : Int).toNat ≤ 17592186044416
   rotate_left
   ·
    rw [if_neg c14] at H
    exact absurd H (by simp)
   rw [if_pos c14] at H; have c14b0 := eq_true c14; have c14b1 : decide ((ji12 : Int).toNat ≤ 17592186044416) = true := decide_eq_true c14; clear c14; obtain ⟨y105, hy105⟩ : ∃ y_ : List ByteArray, y_ = (List.replicate (ji12 : Int).toNat (⟨#[]⟩ : ByteArray)) := ⟨_, rfl⟩
   replace H : (strings_genSplit.l0 kj8 a0 a1 a2 (wrap64 ((ji12) - 1)) y105 0) = some r := by first | (rw [hy105]; with_reducible exact H) | (have H2_ := (Option.bind_some _ _).symm.trans H; rw [hy105]; with_reducible exact H2_) | (have H2_ := (Option.bind_some _ _).symm.trans H; with_reducible exact H2_) | with_reducible exact H | (rw [hy105]; exact H) | exact H
   have Ny105 := Aside0.mk hy105; clear hy105; have H' := Aside0.mk H; clear H
   go_wp2_with (first | ((with_reducible refine gate_dst (N := 31) rfl ?_); refine Kd.R_make Kd.string _ 9 rfl (N := 31) rfl 32 _ _ rfl ji12 rfl rfl Tryd.underlying32 (.string ⟨#[]⟩) 16 info9 rfl (by decide) (by omega) (⟨#[]⟩ : ByteArray) (ok := fun _ => True) (okp := fun _ => True) rfl (fun _ hk => hk) trivial (of_decide_eq_true zs) (Nat.le_trans (Nat.mul_le_mul_right _ (of_decide_eq_true zs : ji12.toNat ≤ 17592186044416)) (by omega)) (Below.refl _ _) (Nat.le_refl _) ?_; intro v106 w15 ho16 hb hg_ hnew_; clear hg_ hnew_; (first | rw [← Ny105.out] at ho16 | (simp only [Int.reduceToNat] at ho16; rw [← Ny105.out] at ho16)); have HO107 := Aside0.mk (Kd.R_lower ho16 (below_size (bz HB.out))); replace HB := Aside0.mk (below_step (bz HB.out) hb); clear hb ho16))
   go_loopg [0, 10] kj8 (fun kq v0 v10 w' => ∃ (x0_2 : ByteArray) (x9_2 : List ByteArray) (x10_2 : Int), v0 = .string x0_2 ∧ v10 = .int .i64 x10_2 ∧ Aside0 (strings_genSplit.l0 kq x0_2 a1 a2 (wrap64 ((ji12) - 1)) x9_2 x10_2 = some r) ∧ Aside0 (kq ≤ kj8) ∧ Aside0 (Kd.R Kd.string 9 w' w.heap.size (fun _ => True) v106 x9_2) ∧ Aside0 (Below w.heap.size w w'))
   case atStart => exact ⟨(a0), (y105), (0), zr, zr, H', ⟨Nat.le_refl _⟩, ⟨rz (HO107.out)⟩, ⟨bz HB.out⟩⟩
   case round =>
    clear H'
    (try clear c5); (try clear c5b0); (try clear c5b1); (try clear c6); (try clear c6b0); (try clear c6b1); (try clear c13); (try clear c13b0); (try clear c13b1); (try clear c14); (try clear c14b0); (try clear c14b1)
    obtain ⟨x0_2, x9_2, x10_2, rfl, rfl, HA, HK2, HO_9, HB⟩ := hrel
    cases gk with
    | zero => exact absurd HA.out (by simp [strings_genSplit.l0])
    | succ k2 =>
     have H := HA.out; clear HA; simp only [strings_genSplit.l0] at H
     by_cases c17 : x10_2 < (wrap64 ((ji12) - 1))
     rotate_left
     ·
      rw [if_neg c17] at H; have c17b0 : decide (x10_2 < (wrap64 ((ji12) - 1))) = false := decide_eq_false c17; clear c17
      by_cases c40 : 0 ≤ x10_2
      rotate_left
      ·
       rw [if_neg c40] at H
       exact absurd H (by simp)
      rw [if_pos c40] at H; have c40b0 : decide (0 ≤ x10_2) = true := decide_eq_true c40; clear c40
      by_cases c41 : x10_2 < (x9_2.length : Int)
      rotate_left
      ·
       rw [if_neg c41] at H
       exact absurd H (by simp)
      rw [if_pos c41] at H; have c41b0 : decide (x10_2 < (x9_2.length : Int)) = true := decide_eq_true c41; clear c41; obtain ⟨y114, hy114⟩ : ∃ y_ : List ByteArray, y_ = (x9_2.set (x10_2 : Int).toNat x0_2) := ⟨_, rfl⟩
      replace H : (if 0 ≤ (wrap64 (x10_2 + 1)) then (if (wrap64 (x10_2 + 1)) ≤ (x9_2.length : Int) then (some (y114.take ((wrap64 (x10_2 + 1)) : Int).toNat)) else (none)) else (none)) = some r := by first | (rw [hy114]; with_reducible exact H) | (have H2_ := (Option.bind_some _ _).symm.trans H; rw [hy114]; with_reducible exact H2_) | (have H2_ := (Option.bind_some _ _).symm.trans H; with_reducible exact H2_) | with_reducible exact H | (rw [hy114]; exact H) | exact H
      have Ny114 := Aside0.mk hy114; clear hy114; obtain ⟨ji43, hji43⟩ : ∃ j_ : Int, (wrap64 (x10_2 + 1)) = j_ := ⟨_, rfl⟩
      replace H : (if 0 ≤ (ji43) then (if (ji43) ≤ (x9_2.length : Int) then (some (y114.take ((ji43) : Int).toNat)) else (none)) else (none)) = some r := by first | (rw [hji43] at H; exact H) | (simp only [hji43] at H ⊢; exact H)
      have hji43w : (IntKind.i64.wrap (x10_2 + 1)) = ji43 := (i64_w _).trans hji43
      by_cases c44 : 0 ≤ (ji43)
      rotate_left
      ·
       rw [if_neg c44] at H
       exact absurd H (by simp)
      rw [if_pos c44] at H; have c44b0 := eq_true c44; have c44b1 : decide (0 ≤ (ji43)) = true := decide_eq_true c44; clear c44
      by_cases c45 : (ji43) ≤ (x9_2.length : Int)
      rotate_left
      ·
       rw [if_neg c45] at H
       exact absurd H (by simp)
      rw [if_pos c45] at H; have c45b0 := eq_true c45; have c45b1 : decide ((ji43) ≤ (x9_2.length : Int)) = true := decide_eq_true c45; clear c45; obtain ⟨y115, hy115⟩ : ∃ y_ : List ByteArray, y_ = (y114.take ((ji43) : Int).toNat) := ⟨_, rfl⟩
      replace H : (some y115) = some r := by first | (rw [hy115]; with_reducible exact H) | (have H2_ := (Option.bind_some _ _).symm.trans H; rw [hy115]; with_reducible exact H2_) | (have H2_ := (Option.bind_some _ _).symm.trans H; with_reducible exact H2_) | with_reducible exact H | (rw [hy115]; exact H) | exact H
      have Ny115 := Aside0.mk hy115; clear hy115; obtain rfl := Option.some.inj H; have p42 : 0 ≤ (x10_2 : Int) := of_decide_eq_true zs; have q42 : (x10_2 : Int) < ((x9_2.length : Int) : Int) := of_decide_eq_true zs; obtain ⟨go42, co42, eo42, gb42, gl42, cl42, HG42⟩ := Kd.R_form HO_9.out (by omega)
      (first | cases eo42 | (injection eo42 with ea_ en_ ec_; (first | subst ea_ | (injection ea_ with ea_; subst ea_)); subst ec_; clear en_))
      have GB42 := Aside0.mk gb42; have GG42 := Aside0.mk HG42; clear gb42 gl42 HG42; obtain ⟨hx42_0, hf42_0⟩ := Kd.R_celln (⟨#[]⟩ : ByteArray) HO_9.out (x10_2 : Int) p42 q42; replace p42 := eq_true p42; replace q42 := eq_true q42; have HP46 := Kd.R_putg HO_9.out (x10_2 : Int) x0_2
      go_wp2_with (first | ((with_reducible refine gate_store (t := 9) (p := 61) rfl ?_); refine store_event (t := 9) (p := 61) (v := ?vo_w47) (w1 := (wr.setCell ⟨go42, (x10_2 : Int).toNat, none⟩ (.string x0_2))) ?hg ?ho ?hn ?hr ?_; (case ho => rfl); (case hg => rfl); (case hn => rfl); (case hr => first | (go_simp; done) | (go_simp; rfl)); intro w47 hw; have hg : wr.grownBy w47 (some go42) := (by rw [hw]; exact HP46.2); have hp_ : Kd.R Kd.string 9 w47 w.heap.size (fun _ => True) (.slice (some ⟨go42, 0, none⟩) x9_2.length co42) y114 := (by rw [hw, Ny114.out]; exact HP46.1); clear HP46; replace HO_9 := Aside0.mk (hp_); have hlen_ : y114.length = x9_2.length := (by rw [Ny114.out, List.length_set]); replace HB := Aside0.mk ((by rw [hw]; exact below_set (HB.out) GB42.out : Below w.heap.size w w47)); clear hg hw hp_; have q48 : ((ji43) : Int) ≤ ((x9_2.length : Int) : Int) := of_decide_eq_true zs; obtain ⟨i048, hi048, _, hsz48, _⟩ := info_parts info9; have hcut48 := cut_to (P := Tryd.prog) 32 9 .i64 Tryd.underlying32 hi048 (some ⟨go42, 0, none⟩) x9_2.length co42 (ji43) (of_decide_eq_true zs) q48 (Kd.R_reads' HO_9.out).2.1; have hr48 := Kd.R_take (m := ((ji43) : Int).toNat) HO_9.out (by omega); have hy48 : y115.length = ((ji43) : Int).toNat := (by rw [Ny115.out, List.length_take]; omega); rw [← Ny115.out] at hr48; rw [← hy48] at hr48 hcut48; clear hy48 hi048 hsz48 HO_9; have HO117 := Aside0.mk hr48; clear hr48; replace q48 := eq_true q48))
      go_ret
      exact ⟨_, by first | rfl | (simp [errW_none, errW_some] <;> rfl) | (simp only [← hji12, ← hji43]; first | rfl | (simp [errW_none, errW_some] <;> rfl)) | (simp [*, errW_none, errW_some] <;> rfl), by (with_reducible repeat (first | apply Kd.R_alloc | apply Kd.R_drewN | apply Kd.R_drew)); exact HO117.out, bz HB.out⟩
     rw [if_pos c17] at H; have c17b0 : decide (x10_2 < (wrap64 ((ji12) - 1))) = true := decide_eq_true c17; clear c17; replace H := Option.bind_eq_some_iff.mp H; obtain ⟨t108, A180, H⟩ := H; have A18 := Aside0.mk A180; clear A180
     by_cases c19 : t108 < 0
     ·
      rw [if_pos c19] at H; have c19b0 : decide (t108 < 0) = true := decide_eq_true c19; clear c19
      by_cases c20 : 0 ≤ x10_2
      rotate_left
      ·
       rw [if_neg c20] at H
       exact absurd H (by simp)
      rw [if_pos c20] at H; have c20b0 : decide (0 ≤ x10_2) = true := decide_eq_true c20; clear c20
      by_cases c21 : x10_2 < (x9_2.length : Int)
      rotate_left
      ·
       rw [if_neg c21] at H
       exact absurd H (by simp)
      rw [if_pos c21] at H; have c21b0 : decide (x10_2 < (x9_2.length : Int)) = true := decide_eq_true c21; clear c21; obtain ⟨y109, hy109⟩ : ∃ y_ : List ByteArray, y_ = (x9_2.set (x10_2 : Int).toNat x0_2) := ⟨_, rfl⟩
      replace H : (if 0 ≤ (wrap64 (x10_2 + 1)) then (if (wrap64 (x10_2 + 1)) ≤ (x9_2.length : Int) then (some (y109.take ((wrap64 (x10_2 + 1)) : Int).toNat)) else (none)) else (none)) = some r := by first | (rw [hy109]; with_reducible exact H) | (have H2_ := (Option.bind_some _ _).symm.trans H; rw [hy109]; with_reducible exact H2_) | (have H2_ := (Option.bind_some _ _).symm.trans H; with_reducible exact H2_) | with_reducible exact H | (rw [hy109]; exact H) | exact H
      have Ny109 := Aside0.mk hy109; clear hy109; obtain ⟨ji23, hji23⟩ : ∃ j_ : Int, (wrap64 (x10_2 + 1)) = j_ := ⟨_, rfl⟩
      replace H : (if 0 ≤ (ji23) then (if (ji23) ≤ (x9_2.length : Int) then (some (y109.take ((ji23) : Int).toNat)) else (none)) else (none)) = some r := by first | (rw [hji23] at H; exact H) | (simp only [hji23] at H ⊢; exact H)
      (try rw [hji23] at A18); have hji23w : (IntKind.i64.wrap (x10_2 + 1)) = ji23 := (i64_w _).trans hji23
      by_cases c24 : 0 ≤ (ji23)
      rotate_left
      ·
       rw [if_neg c24] at H
       exact absurd H (by simp)
      rw [if_pos c24] at H; have c24b0 := eq_true c24; have c24b1 : decide (0 ≤ (ji23)) = true := decide_eq_true c24; clear c24
      by_cases c25 : (ji23) ≤ (x9_2.length : Int)
      rotate_left
      ·
       rw [if_neg c25] at H
       exact absurd H (by simp)
      rw [if_pos c25] at H; have c25b0 := eq_true c25; have c25b1 : decide ((ji23) ≤ (x9_2.length : Int)) = true := decide_eq_true c25; clear c25; obtain ⟨y110, hy110⟩ : ∃ y_ : List ByteArray, y_ = (y109.take ((ji23) : Int).toNat) := ⟨_, rfl⟩
      replace H : (some y110) = some r := by first | (rw [hy110]; with_reducible exact H) | (have H2_ := (Option.bind_some _ _).symm.trans H; rw [hy110]; with_reducible exact H2_) | (have H2_ := (Option.bind_some _ _).symm.trans H; with_reducible exact H2_) | with_reducible exact H | (rw [hy110]; exact H) | exact H
      have Ny110 := Aside0.mk hy110; clear hy110; obtain rfl := Option.some.inj H
      go_wp2_with (first | ((with_reducible refine gate_callee (f := 37) rfl ?_); refine goesL_ (some 39) rfl rfl Tryd.func37 zk rfl #[.string x0_2, .string a1] rfl zm ?_; (with_reducible refine (strings_Index.calls x0_2 a1 t108 _ A18.out).mono ?_); rintro e w' ⟨rfl, ⟨nd, rfl⟩⟩; refine ⟨_, rfl, ?_⟩; (try (rw [drewN_self wr]; generalize hq_ : World.drewN wr _ = wr; have n0_ : Aside0 (Kd.R Kd.string 9 wr w.heap.size (fun _ => True) v106 x9_2) := ⟨by rw [← hq_]; exact (rz HO_9.out)⟩; have n1_ : Aside0 (Below w.heap.size w wr) := ⟨by rw [← hq_]; exact (bz HB.out)⟩; clear HO_9 HB hq_; have HO_9 := n0_; have HB := n1_; clear n0_ n1_)); have p22 : 0 ≤ (x10_2 : Int) := of_decide_eq_true zs; have q22 : (x10_2 : Int) < ((x9_2.length : Int) : Int) := of_decide_eq_true zs; obtain ⟨go22, co22, eo22, gb22, gl22, cl22, HG22⟩ := Kd.R_form HO_9.out (by omega); (first | cases eo22 | (injection eo22 with ea_ en_ ec_; (first | subst ea_ | (injection ea_ with ea_; subst ea_)); subst ec_; clear en_)); have GB22 := Aside0.mk gb22; have GG22 := Aside0.mk HG22; clear gb22 gl22 HG22; obtain ⟨hx22_0, hf22_0⟩ := Kd.R_celln (⟨#[]⟩ : ByteArray) HO_9.out (x10_2 : Int) p22 q22; replace p22 := eq_true p22; replace q22 := eq_true q22; obtain ⟨hy26_, hz26_⟩ := Kd.R_celln (⟨#[]⟩ : ByteArray) HO_9.out (x10_2 : Int) (of_decide_eq_true zs) (of_decide_eq_true zs); have HP26 := Kd.R_putg HO_9.out (x10_2 : Int) x0_2) | ((with_reducible refine gate_store (t := 9) (p := 61) rfl ?_); refine store_event (t := 9) (p := 61) (v := ?vo_w27) (w1 := (wr.setCell ⟨go22, (x10_2 : Int).toNat, none⟩ (.string x0_2))) ?hg ?ho ?hn ?hr ?_; (case ho => rfl); (case hg => rfl); (case hn => rfl); (case hr => first | (go_simp; done) | (go_simp; rfl)); intro w27 hw; have hg : wr.grownBy w27 (some go22) := (by rw [hw]; exact HP26.2); have hp_ : Kd.R Kd.string 9 w27 w.heap.size (fun _ => True) (.slice (some ⟨go22, 0, none⟩) x9_2.length co22) y109 := (by rw [hw, Ny109.out]; exact HP26.1); clear HP26; replace HO_9 := Aside0.mk (hp_); have hlen_ : y109.length = x9_2.length := (by rw [Ny109.out, List.length_set]); replace HB := Aside0.mk ((by rw [hw]; exact below_set (HB.out) GB22.out : Below w.heap.size w w27)); clear hg hw hp_; have q28 : ((ji23) : Int) ≤ ((x9_2.length : Int) : Int) := of_decide_eq_true zs; obtain ⟨i028, hi028, _, hsz28, _⟩ := info_parts info9; have hcut28 := cut_to (P := Tryd.prog) 32 9 .i64 Tryd.underlying32 hi028 (some ⟨go22, 0, none⟩) x9_2.length co22 (ji23) (of_decide_eq_true zs) q28 (Kd.R_reads' HO_9.out).2.1; have hr28 := Kd.R_take (m := ((ji23) : Int).toNat) HO_9.out (by omega); have hy28 : y110.length = ((ji23) : Int).toNat := (by rw [Ny110.out, List.length_take]; omega); rw [← Ny110.out] at hr28; rw [← hy28] at hr28 hcut28; clear hy28 hi028 hsz28 HO_9; have HO112 := Aside0.mk hr28; clear hr28; replace q28 := eq_true q28))
      go_ret
      exact ⟨_, by first | rfl | (simp [errW_none, errW_some] <;> rfl) | (simp only [← hji12, ← hji23]; first | rfl | (simp [errW_none, errW_some] <;> rfl)) | (simp [*, errW_none, errW_some] <;> rfl), by (with_reducible repeat (first | apply Kd.R_alloc | apply Kd.R_drewN | apply Kd.R_drew)); exact HO112.out, bz HB.out⟩
     rw [if_neg c19] at H; have c19b0 : decide (t108 < 0) = false := decide_eq_false c19; clear c19; obtain ⟨ji29, hji29⟩ : ∃ j_ : Int, (wrap64 (t108 + a2)) = j_ := ⟨_, rfl⟩
     replace H : (if 0 ≤ (ji29) then (if (ji29) ≤ (x0_2.size : Int) then (if 0 ≤ x10_2 then (if x10_2 < (x9_2.length : Int) then (if 0 ≤ (wrap64 (t108 + (a1.size : Int))) then (if (wrap64 (t108 + (a1.size : Int))) ≤ (x0_2.size : Int) then (strings_genSplit.l0 k2 (x0_2.extract ((wrap64 (t108 + (a1.size : Int))) : Int).toNat x0_2.size) a1 a2 (wrap64 ((ji12) - 1)) (x9_2.set (x10_2 : Int).toNat (x0_2.extract 0 ((ji29) : Int).toNat)) (wrap64 (x10_2 + 1))) else (none)) else (none)) else (none)) else (none)) else (none)) else (none)) = some r := by first | (rw [hji29] at H; exact H) | (simp only [hji29] at H ⊢; exact H)
     (try rw [hji29] at A18); have hji29w : (IntKind.i64.wrap (t108 + a2)) = ji29 := (i64_w _).trans hji29
     by_cases c30 : 0 ≤ (ji29)
     rotate_left
     ·
      rw [if_neg c30] at H
      exact absurd H (by simp)
     rw [if_pos c30] at H; have c30b0 := eq_true c30; have c30b1 : decide (0 ≤ (ji29)) = true := decide_eq_true c30; clear c30
     by_cases c31 : (ji29) ≤ (x0_2.size : Int)
     rotate_left
     ·
      rw [if_neg c31] at H
      exact absurd H (by simp)
     rw [if_pos c31] at H; have c31b0 := eq_true c31; have c31b1 : decide ((ji29) ≤ (x0_2.size : Int)) = true := decide_eq_true c31; clear c31
     by_cases c32 : 0 ≤ x10_2
     rotate_left
     ·
      rw [if_neg c32] at H
      exact absurd H (by simp)
     rw [if_pos c32] at H; have c32b0 : decide (0 ≤ x10_2) = true := decide_eq_true c32; clear c32
     by_cases c33 : x10_2 < (x9_2.length : Int)
     rotate_left
     ·
      rw [if_neg c33] at H
      exact absurd H (by simp)
     rw [if_pos c33] at H; have c33b0 : decide (x10_2 < (x9_2.length : Int)) = true := decide_eq_true c33; clear c33; obtain ⟨y113, hy113⟩ : ∃ y_ : List ByteArray, y_ = (x9_2.set (x10_2 : Int).toNat (x0_2.extract 0 ((ji29) : Int).toNat)) := ⟨_, rfl⟩
     replace H : (if 0 ≤ (wrap64 (t108 + (a1.size : Int))) then (if (wrap64 (t108 + (a1.size : Int))) ≤ (x0_2.size : Int) then (strings_genSplit.l0 k2 (x0_2.extract ((wrap64 (t108 + (a1.size : Int))) : Int).toNat x0_2.size) a1 a2 (wrap64 ((ji12) - 1)) y113 (wrap64 (x10_2 + 1))) else (none)) else (none)) = some r := by first | (rw [hy113]; with_reducible exact H) | (have H2_ := (Option.bind_some _ _).symm.trans H; rw [hy113]; with_reducible exact H2_) | (have H2_ := (Option.bind_some _ _).symm.trans H; with_reducible exact H2_) | with_reducible exact H | (rw [hy113]; exact H) | exact H
     have Ny113 := Aside0.mk hy113; clear hy113; obtain ⟨ji35, hji35⟩ : ∃ j_ : Int, (wrap64 (t108 + (a1.size : Int))) = j_ := ⟨_, rfl⟩
     replace H : (if 0 ≤ (ji35) then (if (ji35) ≤ (x0_2.size : Int) then (strings_genSplit.l0 k2 (x0_2.extract ((ji35) : Int).toNat x0_2.size) a1 a2 (wrap64 ((ji12) - 1)) y113 (wrap64 (x10_2 + 1))) else (none)) else (none)) = some r := by first | (rw [hji35] at H; exact H) | (simp only [hji35] at H ⊢; exact H)
     (try rw [hji35] at A18); have hji35w : (IntKind.i64.wrap (t108 + (a1.size : Int))) = ji35 := (i64_w _).trans hji35
     by_cases c36 : 0 ≤ (ji35)
     rotate_left
     ·
      rw [if_neg c36] at H
      exact absurd H (by simp)
     rw [if_pos c36] at H; have c36b0 := eq_true c36; have c36b1 : decide (0 ≤ (ji35)) = true := decide_eq_true c36; clear c36
     by_cases c37 : (ji35) ≤ (x0_2.size : Int)
     rotate_left
     ·
      rw [if_neg c37] at H
      exact absurd H (by simp)
     rw [if_pos c37] at H; have c37b0 := eq_true c37; have c37b1 : decide ((ji35) ≤ (x0_2.size : Int)) = true := decide_eq_true c37; clear c37; have H' := Aside0.mk H; clear H
     go_wp2_with (first | ((with_reducible refine gate_callee (f := 37) rfl ?_); refine goesL_ (some 39) rfl rfl Tryd.func37 zk rfl #[.string x0_2, .string a1] rfl zm ?_; (with_reducible refine (strings_Index.calls x0_2 a1 t108 _ A18.out).mono ?_); rintro e w' ⟨rfl, ⟨nd, rfl⟩⟩; refine ⟨_, rfl, ?_⟩; (try (rw [drewN_self wr]; generalize hq_ : World.drewN wr _ = wr; have n0_ : Aside0 (Kd.R Kd.string 9 wr w.heap.size (fun _ => True) v106 x9_2) := ⟨by rw [← hq_]; exact (rz HO_9.out)⟩; have n1_ : Aside0 (Below w.heap.size w wr) := ⟨by rw [← hq_]; exact (bz HB.out)⟩; clear HO_9 HB hq_; have HO_9 := n0_; have HB := n1_; clear n0_ n1_)); have p34 : 0 ≤ (x10_2 : Int) := of_decide_eq_true zs; have q34 : (x10_2 : Int) < ((x9_2.length : Int) : Int) := of_decide_eq_true zs; obtain ⟨go34, co34, eo34, gb34, gl34, cl34, HG34⟩ := Kd.R_form HO_9.out (by omega); (first | cases eo34 | (injection eo34 with ea_ en_ ec_; (first | subst ea_ | (injection ea_ with ea_; subst ea_)); subst ec_; clear en_)); have GB34 := Aside0.mk gb34; have GG34 := Aside0.mk HG34; clear gb34 gl34 HG34; obtain ⟨hx34_0, hf34_0⟩ := Kd.R_celln (⟨#[]⟩ : ByteArray) HO_9.out (x10_2 : Int) p34 q34; replace p34 := eq_true p34; replace q34 := eq_true q34; obtain ⟨hy38_, hz38_⟩ := Kd.R_celln (⟨#[]⟩ : ByteArray) HO_9.out (x10_2 : Int) (of_decide_eq_true zs) (of_decide_eq_true zs); have HP38 := Kd.R_putg HO_9.out (x10_2 : Int) (x0_2.extract 0 ((ji29) : Int).toNat)) | ((with_reducible refine gate_store (t := 9) (p := 49) rfl ?_); refine store_event (t := 9) (p := 49) (v := ?vo_w39) (w1 := (wr.setCell ⟨go34, (x10_2 : Int).toNat, none⟩ (.string (x0_2.extract 0 ((ji29) : Int).toNat)))) ?hg ?ho ?hn ?hr ?_; (case ho => rfl); (case hg => rfl); (case hn => rfl); (case hr => first | (go_simp; done) | (go_simp; rfl)); intro w39 hw; have hg : wr.grownBy w39 (some go34) := (by rw [hw]; exact HP38.2); have hp_ : Kd.R Kd.string 9 w39 w.heap.size (fun _ => True) (.slice (some ⟨go34, 0, none⟩) x9_2.length co34) y113 := (by rw [hw, Ny113.out]; exact HP38.1); clear HP38; replace HO_9 := Aside0.mk (hp_); have hlen_ : y113.length = x9_2.length := (by rw [Ny113.out, List.length_set]); replace HB := Aside0.mk ((by rw [hw]; exact below_set (HB.out) GB34.out : Below w.heap.size w w39)); clear hg hw hp_))
     go_roundg k2
     case measure => have := HJ8.out; have := HK2.out; omega
     case rel => exact ⟨(x0_2.extract ((ji35) : Int).toNat x0_2.size), (y113), (wrap64 (x10_2 + 1)), (by first | rfl | (simp; done) | (simp only [← hji35] <;> (first | rfl | simp)) | (simp [*]; done)), zr, H', ⟨by have := HJ8.out; have := HK2.out; omega⟩, ⟨rz (HO_9.out)⟩, ⟨bz HB.out⟩⟩

end Go.Proofs.YtkjjlkkfhbfbmaaDoor.P

namespace Go.Proofs.YtkjjlkkfhbfbmaaDoor.P
open Go.RowKit Go.Proofs.YtkjjlkkfhbfbmaaDoorW.PrintWords Go.Proofs.YtkjjlkkfhbfbmaaDoorW.PrintLast Go.Proofs.YtkjjlkkfhbfbmaaDoorW.PrintMore
attribute [local go_sem] max2_int min2_int max_two min_two max_three min_three max_four min_four Q.cell_set_map Q.str_gtr Q.str_geq Q.str_leq
set_option linter.unusedVariables false
set_option linter.unusedSimpArgs false

/-! ### strings_Split: function 14 -/
def strings_Split.f (k : Nat) (a0 : ByteArray) (a1 : ByteArray) : Option (List ByteArray) := (strings_genSplit.f k a0 a1 0 (-1)).bind fun t101 => (some t101)
theorem strings_Split.mono : ∀ a0 a1 k, LeO (strings_Split.f k a0 a1) (strings_Split.f (k + 1) a0 a1) := by
 intro a0 a1 k
 unfold strings_Split.f
 repeat' first
   | (with_reducible exact strings_genSplit.mono _ _ _ _ _)
   | (with_reducible exact LeO.refl _)
   | (with_reducible exact LeO.none _)
   | (with_reducible refine LeO.ite ?_ ?_)
   | (with_reducible refine LeO.bind ?_ (fun _ => ?_))
   | exact strings_genSplit.mono _ _ _ _ _
   | exact LeO.none _
   | refine LeO.ite ?_ ?_
   | refine LeO.bind ?_ (fun _ => ?_)
set_option maxHeartbeats 8000000 in
set_option maxRecDepth 100000 in
theorem strings_Split.calls (k : Nat) (a0 : ByteArray) (a1 : ByteArray) (r : List ByteArray) (w : World) (h : strings_Split.f k a0 a1 = some r) :
  Calls Tryd.prog 14 #[.string a0, .string a1] w fun e w' => ∃ v0_ : Value, e = .returned (v0_) ∧ Kd.R Kd.string 9 w' w.heap.size (fun _ => True) v0_ r ∧ Below w.heap.size w w' := by
 have HB := Aside0.mk (Below.refl w.heap.size w)
 have H : ((strings_genSplit.f k a0 a1 0 (-1)).bind fun t101 => (some t101)) = some r := h
 clear h
 replace H := Option.bind_eq_some_iff.mp H
 obtain ⟨t101, A30, H⟩ := H
 have A3 := Aside0.mk A30
 clear A30
 obtain rfl := Option.some.inj H
 go_enter Tryd.func14, Tryd.ntmps14
 go_wp2_with (first | ((with_reducible refine gate_callee (f := 24) rfl ?_); refine goesL_ (some 7) rfl rfl Tryd.func24 zk rfl #[.string a0, .string a1, .int .i64 0, .int .i64 (-1)] rfl zm ?_; (with_reducible refine (strings_genSplit.calls k a0 a1 0 (-1) t101 _ A3.out).mono ?_); rintro e w4 ⟨v102, rfl, ho0, hb⟩; refine ⟨_, rfl, ?_⟩; have HO103 := Aside0.mk (Kd.R_lower ho0 (below_size (bz HB.out))); replace HB := Aside0.mk (below_step (bz HB.out) hb); (try clear hb); (try clear ho0)))
 go_ret
 exact ⟨_, ze, by (with_reducible repeat (first | apply Kd.R_alloc | apply Kd.R_drewN | apply Kd.R_drew)); exact HO103.out, bz HB.out⟩

end Go.Proofs.YtkjjlkkfhbfbmaaDoor.P

namespace Go.Proofs.YtkjjlkkfhbfbmaaDoor.P
open Go.RowKit Go.Proofs.YtkjjlkkfhbfbmaaDoorW.PrintWords Go.Proofs.YtkjjlkkfhbfbmaaDoorW.PrintLast Go.Proofs.YtkjjlkkfhbfbmaaDoorW.PrintMore
attribute [local go_sem] max2_int min2_int max_two min_two max_three min_three max_four min_four Q.cell_set_map Q.str_gtr Q.str_geq Q.str_leq
set_option linter.unusedVariables false
set_option linter.unusedSimpArgs false

/-! ### stringslite_HasPrefix: function 58 -/
def stringslite_HasPrefix.f (a0 : ByteArray) (a1 : ByteArray) : Option (Bool) := if (a0.size : Int) ≥ (a1.size : Int) then (if 0 ≤ (a1.size : Int) then (if (a1.size : Int) ≤ (a0.size : Int) then (some ((a0.extract 0 ((a1.size : Int) : Int).toNat).toList == a1.toList)) else (none)) else (none)) else (some false)
set_option maxHeartbeats 8000000 in
set_option maxRecDepth 100000 in
theorem stringslite_HasPrefix.calls (a0 : ByteArray) (a1 : ByteArray) (r : Bool) (w : World) (h : stringslite_HasPrefix.f a0 a1 = some r) :
  Calls Tryd.prog 58 #[.string a0, .string a1] w fun e w' => e = .returned (.bool r) ∧ Drawn0 w w' := by
 have H : (if (a0.size : Int) ≥ (a1.size : Int) then (if 0 ≤ (a1.size : Int) then (if (a1.size : Int) ≤ (a0.size : Int) then (some ((a0.extract 0 ((a1.size : Int) : Int).toNat).toList == a1.toList)) else (none)) else (none)) else (some false)) = some r := h
 clear h
 by_cases c3 : (a0.size : Int) ≥ (a1.size : Int)
 ·
  rw [if_pos c3] at H
  have c3b0 : decide ((a1.size : Int) ≤ (a0.size : Int)) = true := decide_eq_true c3
  have c3b1 : decide (a1.size ≤ a0.size) = true := decide_eq_true (Int.ofNat_le.mp c3)
  clear c3
  by_cases c4 : 0 ≤ (a1.size : Int)
  ·
   rw [if_pos c4] at H
   have c4b0 := eq_true c4
   have c4b1 : decide (0 ≤ (a1.size : Int)) = true := decide_eq_true c4
   clear c4
   by_cases c5 : (a1.size : Int) ≤ (a0.size : Int)
   ·
    rw [if_pos c5] at H
    have c5b0 := eq_true c5
    have c5b1 : decide ((a1.size : Int) ≤ (a0.size : Int)) = true := decide_eq_true c5
    clear c5
    obtain rfl := Option.some.inj H
    go_enter Tryd.func58, Tryd.ntmps58
    go_wp2
    go_ret
    exact ⟨by first | rfl | (simp; done) | (simp [*]; done), by repeat (first | exact Drawn0.refl _ | apply Drawn0.step)⟩
   ·
    rw [if_neg c5] at H
    exact absurd H (by simp)
  ·
   rw [if_neg c4] at H
   exact absurd H (by simp)
 ·
  rw [if_neg c3] at H
  have c3b0 : decide ((a1.size : Int) ≤ (a0.size : Int)) = false := decide_eq_false c3
  have c3b1 : decide (a1.size ≤ a0.size) = false := decide_eq_false (fun h => c3 (Int.ofNat_le.mpr h))
  clear c3
  obtain rfl := Option.some.inj H
  go_enter Tryd.func58, Tryd.ntmps58
  go_wp2
  go_ret
  exact ⟨by first | rfl | (simp; done) | (simp [*]; done), by repeat (first | exact Drawn0.refl _ | apply Drawn0.step)⟩

end Go.Proofs.YtkjjlkkfhbfbmaaDoor.P

namespace Go.Proofs.YtkjjlkkfhbfbmaaDoor.P
open Go.RowKit Go.Proofs.YtkjjlkkfhbfbmaaDoorW.PrintWords Go.Proofs.YtkjjlkkfhbfbmaaDoorW.PrintLast Go.Proofs.YtkjjlkkfhbfbmaaDoorW.PrintMore
attribute [local go_sem] max2_int min2_int max_two min_two max_three min_three max_four min_four Q.cell_set_map Q.str_gtr Q.str_geq Q.str_leq
set_option linter.unusedVariables false
set_option linter.unusedSimpArgs false

/-! ### stringslite_CutPrefix: function 43 -/
def stringslite_CutPrefix.f (a0 : ByteArray) (a1 : ByteArray) : Option (ByteArray × Bool) := (stringslite_HasPrefix.f a0 a1).bind fun t101 => (if t101 = true then (if 0 ≤ (a1.size : Int) then (if (a1.size : Int) ≤ (a0.size : Int) then (some (a0.extract ((a1.size : Int) : Int).toNat a0.size, true)) else (none)) else (none)) else (some (a0, false)))
set_option maxHeartbeats 8000000 in
set_option maxRecDepth 100000 in
theorem stringslite_CutPrefix.calls (a0 : ByteArray) (a1 : ByteArray) (r1 : ByteArray) (r2 : Bool) (w : World) (h : stringslite_CutPrefix.f a0 a1 = some (r1, r2)) :
  Calls Tryd.prog 43 #[.string a0, .string a1] w fun e w' => e = .returned (.tuple #[.string r1, .bool r2]) ∧ Drawn0 w w' := by
 have H : ((stringslite_HasPrefix.f a0 a1).bind fun t101 => (if t101 = true then (if 0 ≤ (a1.size : Int) then (if (a1.size : Int) ≤ (a0.size : Int) then (some (a0.extract ((a1.size : Int) : Int).toNat a0.size, true)) else (none)) else (none)) else (some (a0, false)))) = some (r1, r2) := h
 clear h
 replace H := Option.bind_eq_some_iff.mp H
 obtain ⟨t101, A30, H⟩ := H
 have A3 := Aside0.mk A30
 clear A30
 by_cases c4 : t101 = true
 ·
  subst c4
  rw [if_pos rfl] at H
  by_cases c5 : 0 ≤ (a1.size : Int)
  ·
   rw [if_pos c5] at H
   have c5b0 := eq_true c5
   have c5b1 : decide (0 ≤ (a1.size : Int)) = true := decide_eq_true c5
   clear c5
   by_cases c6 : (a1.size : Int) ≤ (a0.size : Int)
   ·
    rw [if_pos c6] at H
    have c6b0 := eq_true c6
    have c6b1 : decide ((a1.size : Int) ≤ (a0.size : Int)) = true := decide_eq_true c6
    clear c6
    simp only [Option.some.injEq, Prod.mk.injEq] at H
    obtain ⟨rfl, rfl⟩ := H
    go_enter Tryd.func43, Tryd.ntmps43
    go_wp2_with (first | ((with_reducible refine gate_callee (f := 58) rfl ?_); refine goesL_ (some 8) rfl rfl Tryd.func58 zk rfl #[.string a0, .string a1] rfl zm ?_; (with_reducible refine (stringslite_HasPrefix.calls a0 a1 true _ A3.out).mono ?_); rintro e w' ⟨rfl, ⟨nd, rfl⟩⟩; refine ⟨_, rfl, ?_⟩))
    go_ret2
    exact ⟨by first | rfl | (simp; done) | (simp [*]; done), by repeat (first | exact Drawn0.refl _ | apply Drawn0.step)⟩
   ·
    rw [if_neg c6] at H
    exact absurd H (by simp)
  ·
   rw [if_neg c5] at H
   exact absurd H (by simp)
 ·
  replace c4 := Bool.eq_false_iff.mpr c4
  subst c4
  rw [if_neg nf_] at H
  simp only [Option.some.injEq, Prod.mk.injEq] at H
  obtain ⟨rfl, rfl⟩ := H
  go_enter Tryd.func43, Tryd.ntmps43
  go_wp2_with (first | ((with_reducible refine gate_callee (f := 58) rfl ?_); refine goesL_ (some 8) rfl rfl Tryd.func58 zk rfl #[.string a0, .string a1] rfl zm ?_; (with_reducible refine (stringslite_HasPrefix.calls a0 a1 false _ A3.out).mono ?_); rintro e w' ⟨rfl, ⟨nd, rfl⟩⟩; refine ⟨_, rfl, ?_⟩))
  go_ret2
  exact ⟨by first | rfl | (simp; done) | (simp [*]; done), by repeat (first | exact Drawn0.refl _ | apply Drawn0.step)⟩

end Go.Proofs.YtkjjlkkfhbfbmaaDoor.P

namespace Go.Proofs.YtkjjlkkfhbfbmaaDoor.P
open Go.RowKit Go.Proofs.YtkjjlkkfhbfbmaaDoorW.PrintWords Go.Proofs.YtkjjlkkfhbfbmaaDoorW.PrintLast Go.Proofs.YtkjjlkkfhbfbmaaDoorW.PrintMore
attribute [local go_sem] max2_int min2_int max_two min_two max_three min_three max_four min_four Q.cell_set_map Q.str_gtr Q.str_geq Q.str_leq
set_option linter.unusedVariables false
set_option linter.unusedSimpArgs false

/-! ### strings_CutPrefix: function 30 -/
def strings_CutPrefix.f (a0 : ByteArray) (a1 : ByteArray) : Option (ByteArray × Bool) := (stringslite_CutPrefix.f a0 a1).bind fun bt101 => (some (bt101.1, bt101.2))
set_option maxHeartbeats 8000000 in
set_option maxRecDepth 100000 in
theorem strings_CutPrefix.calls (a0 : ByteArray) (a1 : ByteArray) (r1 : ByteArray) (r2 : Bool) (w : World) (h : strings_CutPrefix.f a0 a1 = some (r1, r2)) :
  Calls Tryd.prog 30 #[.string a0, .string a1] w fun e w' => e = .returned (.tuple #[.string r1, .bool r2]) ∧ Drawn0 w w' := by
 have H : ((stringslite_CutPrefix.f a0 a1).bind fun bt101 => (some (bt101.1, bt101.2))) = some (r1, r2) := h
 clear h
 replace H := Option.bind_eq_some_iff.mp H
 obtain ⟨⟨t101, t102⟩, A30, H⟩ := H
 replace H : (some (t101, t102)) = some (r1, r2) := H
 have A3 := Aside0.mk A30
 clear A30
 simp only [Option.some.injEq, Prod.mk.injEq] at H
 obtain ⟨rfl, rfl⟩ := H
 go_enter Tryd.func30, Tryd.ntmps30
 go_wp2_with (first | ((with_reducible refine gate_callee (f := 43) rfl ?_); refine goesL_ (some 8) rfl rfl Tryd.func43 zk rfl #[.string a0, .string a1] rfl zm ?_; (with_reducible refine (stringslite_CutPrefix.calls a0 a1 t101 t102 _ A3.out).mono ?_); rintro e w' ⟨rfl, ⟨nd, rfl⟩⟩; refine ⟨_, rfl, ?_⟩))
 go_ret2
 exact ⟨by first | rfl | (simp; done) | (simp [*]; done), by repeat (first | exact Drawn0.refl _ | apply Drawn0.step)⟩

end Go.Proofs.YtkjjlkkfhbfbmaaDoor.P

namespace Go.Proofs.YtkjjlkkfhbfbmaaDoor.P
open Go.RowKit Go.Proofs.YtkjjlkkfhbfbmaaDoorW.PrintWords Go.Proofs.YtkjjlkkfhbfbmaaDoorW.PrintLast Go.Proofs.YtkjjlkkfhbfbmaaDoorW.PrintMore
attribute [local go_sem] max2_int min2_int max_two min_two max_three min_three max_four min_four Q.cell_set_map Q.str_gtr Q.str_geq Q.str_leq
set_option linter.unusedVariables false
set_option linter.unusedSimpArgs false

/-! ### impl_nameOk_1: function 46 -/
def impl_nameOk_1.f (a0 : Int) : Option (Bool) := if a0 < 97 then (some true) else (some (decide (a0 > 122)))
set_option maxHeartbeats 8000000 in
set_option maxRecDepth 100000 in
theorem impl_nameOk_1.calls (a0 : Int) (r : Bool) (w : World) (h : impl_nameOk_1.f a0 = some r) :
  Calls Tryd.prog 46 #[.int .i32 a0] w fun e w' => e = .returned (.bool r) ∧ Drawn0 w w' := by
 have H : (if a0 < 97 then (some true) else (some (decide (a0 > 122)))) = some r := h
 clear h
 by_cases c2 : a0 < 97
 ·
  rw [if_pos c2] at H
  have c2b0 : decide (a0 < 97) = true := decide_eq_true c2
  clear c2
  obtain rfl := Option.some.inj H
  go_enter Tryd.func46, Tryd.ntmps46
  go_wp2
  go_ret
  exact ⟨by first | rfl | (simp; done) | (simp [*]; done), by repeat (first | exact Drawn0.refl _ | apply Drawn0.step)⟩
 ·
  rw [if_neg c2] at H
  have c2b0 : decide (a0 < 97) = false := decide_eq_false c2
  clear c2
  obtain rfl := Option.some.inj H
  go_enter Tryd.func46, Tryd.ntmps46
  go_wp2
  go_ret
  exact ⟨by first | rfl | (simp; done) | (simp [*]; done), by repeat (first | exact Drawn0.refl _ | apply Drawn0.step)⟩

end Go.Proofs.YtkjjlkkfhbfbmaaDoor.P

namespace Go.Proofs.YtkjjlkkfhbfbmaaDoor.P
open Go.RowKit Go.Proofs.YtkjjlkkfhbfbmaaDoorW.PrintWords Go.Proofs.YtkjjlkkfhbfbmaaDoorW.PrintLast Go.Proofs.YtkjjlkkfhbfbmaaDoorW.PrintMore
attribute [local go_sem] max2_int min2_int max_two min_two max_three min_three max_four min_four Q.cell_set_map Q.str_gtr Q.str_geq Q.str_leq
set_option linter.unusedVariables false
set_option linter.unusedSimpArgs false

/-! ### strings_IndexFunc: function 45 -/
-- IMPORT Derived.Test.YtkjjlkkfhbfbmaaDoorQShelf
def strings_IndexFunc.p (x : Nat) : Bool := if (x : Int) < 97 then true else decide ((x : Int) > 122)
def strings_IndexFunc.f (a0 : ByteArray) : Option Int := some (Lib.idxFunc strings_IndexFunc.p true a0)
theorem strings_IndexFunc.given (x : Nat) : impl_nameOk_1.f (x : Int) = some (strings_IndexFunc.p x) := by
  unfold impl_nameOk_1.f strings_IndexFunc.p
  by_cases h : (x : Int) < 97
  · rw [if_pos h, if_pos h]
  · rw [if_neg h, if_neg h]
theorem strings_IndexFunc.calls (a0 : ByteArray) (r1 : Int) (w : World) (h : strings_IndexFunc.f a0 = some r1) :
    Calls Tryd.prog 45 #[.string a0, .func (.func 46) #[] #[]] w fun e w' => e = .returned (.int .i64 r1) ∧ Below w.heap.size w w' := by
  obtain rfl := Option.some.inj h
  refine Tryd.strings_IndexFunc_runes 46 #[] ?_ strings_IndexFunc.p a0 w ?_
  · exact enters_of Tryd.func46 (by kernel_rfl) rfl
  · intro W x hx hb
    unfold FnGives
    rw [show #[encR x] ++ (#[] : Array Value) = #[Value.int .i32 (x : Int)] from rfl]
    refine (impl_nameOk_1.calls (x : Int) _ W (strings_IndexFunc.given x)).mono ?_
    rintro e w' ⟨h1, n, h2⟩
    exact ⟨h1, n, h2⟩


end Go.Proofs.YtkjjlkkfhbfbmaaDoor.P

namespace Go.Proofs.YtkjjlkkfhbfbmaaDoor.P
open Go.RowKit Go.Proofs.YtkjjlkkfhbfbmaaDoorW.PrintWords Go.Proofs.YtkjjlkkfhbfbmaaDoorW.PrintLast Go.Proofs.YtkjjlkkfhbfbmaaDoorW.PrintMore
attribute [local go_sem] max2_int min2_int max_two min_two max_three min_three max_four min_four Q.cell_set_map Q.str_gtr Q.str_geq Q.str_leq
set_option linter.unusedVariables false
set_option linter.unusedSimpArgs false

/-! ### impl_nameOk: function 33 -/
def impl_nameOk.f (a0 : ByteArray) : Option (Bool) := (impl_in.f (a0.size : Int) 1 3).bind fun t101 => (if t101 = true then ((strings_IndexFunc.f a0).bind fun t102 => (some (decide (t102 < 0)))) else (some false))
set_option maxHeartbeats 8000000 in
set_option maxRecDepth 100000 in
theorem impl_nameOk.calls (a0 : ByteArray) (r : Bool) (w : World) (h : impl_nameOk.f a0 = some r) :
  Calls Tryd.prog 33 #[.string a0] w fun e w' => e = .returned (.bool r) ∧ Below w.heap.size w w' := by
 have HB := Aside0.mk (Below.refl w.heap.size w)
 have H : ((impl_in.f (a0.size : Int) 1 3).bind fun t101 => (if t101 = true then ((strings_IndexFunc.f a0).bind fun t102 => (some (decide (t102 < 0)))) else (some false))) = some r := h
 clear h
 replace H := Option.bind_eq_some_iff.mp H
 obtain ⟨t101, A20, H⟩ := H
 have A2 := Aside0.mk A20
 clear A20
 by_cases c3 : t101 = true
 ·
  subst c3
  rw [if_pos rfl] at H
  replace H := Option.bind_eq_some_iff.mp H
  obtain ⟨t102, A40, H⟩ := H
  have A4 := Aside0.mk A40
  clear A40
  obtain rfl := Option.some.inj H
  go_enter Tryd.func33, Tryd.ntmps33
  go_wp2_with (first | ((with_reducible refine gate_callee (f := 20) rfl ?_); refine goesL_ (some 5) rfl rfl Tryd.func20 zk rfl #[.int .i64 (a0.size : Int), .int .i64 1, .int .i64 3] rfl zm ?_; (with_reducible refine (impl_in.calls (a0.size : Int) 1 3 true _ A2.out).mono ?_); rintro e w' ⟨rfl, ⟨nd, rfl⟩⟩; refine ⟨_, rfl, ?_⟩) | (go_at_call 45; (with_reducible refine (strings_IndexFunc.calls a0 t102 _ A4.out).mono ?_); rintro e w5 ⟨rfl, hb⟩; replace HB := Aside0.mk (below_step (bz HB.out) hb); (try clear hb)))
  go_ret
  exact ⟨ze, bz HB.out⟩
 ·
  replace c3 := Bool.eq_false_iff.mpr c3
  subst c3
  rw [if_neg nf_] at H
  obtain rfl := Option.some.inj H
  go_enter Tryd.func33, Tryd.ntmps33
  go_wp2_with (first | ((with_reducible refine gate_callee (f := 20) rfl ?_); refine goesL_ (some 5) rfl rfl Tryd.func20 zk rfl #[.int .i64 (a0.size : Int), .int .i64 1, .int .i64 3] rfl zm ?_; (with_reducible refine (impl_in.calls (a0.size : Int) 1 3 false _ A2.out).mono ?_); rintro e w' ⟨rfl, ⟨nd, rfl⟩⟩; refine ⟨_, rfl, ?_⟩))
  go_ret
  exact ⟨ze, bz HB.out⟩

end Go.Proofs.YtkjjlkkfhbfbmaaDoor.P

namespace Go.Proofs.YtkjjlkkfhbfbmaaDoor.P
open Go.RowKit Go.Proofs.YtkjjlkkfhbfbmaaDoorW.PrintWords Go.Proofs.YtkjjlkkfhbfbmaaDoorW.PrintLast Go.Proofs.YtkjjlkkfhbfbmaaDoorW.PrintMore
attribute [local go_sem] max2_int min2_int max_two min_two max_three min_three max_four min_four Q.cell_set_map Q.str_gtr Q.str_geq Q.str_leq
set_option linter.unusedVariables false
set_option linter.unusedSimpArgs false

/-! ### impl_PathSteps_1: function 32 -/
def impl_PathSteps_1.f (a0 : ByteArray) : Option (Bool) := if a0.toList = ([46, 46] : List UInt8) then (some false) else ((impl_nameOk.f a0).bind fun t101 => (some (!t101)))
set_option maxHeartbeats 8000000 in
set_option maxRecDepth 100000 in
theorem impl_PathSteps_1.calls (a0 : ByteArray) (r : Bool) (w : World) (h : impl_PathSteps_1.f a0 = some r) :
  Calls Tryd.prog 32 #[.string a0] w fun e w' => e = .returned (.bool r) ∧ Below w.heap.size w w' := by
 have HB := Aside0.mk (Below.refl w.heap.size w)
 have H : (if a0.toList = ([46, 46] : List UInt8) then (some false) else ((impl_nameOk.f a0).bind fun t101 => (some (!t101)))) = some r := h
 clear h
 by_cases c2 : a0.toList = ([46, 46] : List UInt8)
 ·
  rw [if_pos c2] at H
  have c2b0 : (a0.toList == ([46, 46] : List UInt8)) = true := beq_iff_eq.mpr c2
  have c2b1 : (a0.toList != ([46, 46] : List UInt8)) = false := bne_eq_false_iff_eq.mpr c2
  clear c2
  obtain rfl := Option.some.inj H
  go_enter Tryd.func32, Tryd.ntmps32
  go_wp2
  go_ret
  exact ⟨ze, bz HB.out⟩
 ·
  rw [if_neg c2] at H
  have c2b0 : (a0.toList == ([46, 46] : List UInt8)) = false := beq_eq_false_iff_ne.mpr c2
  have c2b1 : (a0.toList != ([46, 46] : List UInt8)) = true := bne_iff_ne.mpr c2
  replace H := Option.bind_eq_some_iff.mp H
  obtain ⟨t101, A30, H⟩ := H
  have A3 := Aside0.mk A30
  clear A30
  obtain rfl := Option.some.inj H
  go_enter Tryd.func32, Tryd.ntmps32
  go_wp2_with (first | (go_at_call 33; (with_reducible refine (impl_nameOk.calls a0 t101 _ A3.out).mono ?_); rintro e w4 ⟨rfl, hb⟩; replace HB := Aside0.mk (below_step (bz HB.out) hb); (try clear hb)))
  go_ret
  exact ⟨ze, bz HB.out⟩

end Go.Proofs.YtkjjlkkfhbfbmaaDoor.P

namespace Go.Proofs.YtkjjlkkfhbfbmaaDoor.P
open Go.RowKit Go.Proofs.YtkjjlkkfhbfbmaaDoorW.PrintWords Go.Proofs.YtkjjlkkfhbfbmaaDoorW.PrintLast Go.Proofs.YtkjjlkkfhbfbmaaDoorW.PrintMore
attribute [local go_sem] max2_int min2_int max_two min_two max_three min_three max_four min_four Q.cell_set_map Q.str_gtr Q.str_geq Q.str_leq
set_option linter.unusedVariables false
set_option linter.unusedSimpArgs false

/-! ### slices_IndexFunc_string: function 44 -/
def slices_IndexFunc_string.l0 : Nat → List ByteArray → Int → Int → Option (Int)
 | 0, _, _, _ => none
 | k + 1, x0, x7, x8 => if x8 < x7 then (if 0 ≤ x8 then (if x8 < (x0.length : Int) then ((impl_PathSteps_1.f (rdOf ByteArray.empty x0 x8)).bind fun t102 => (if t102 = true then (some x8) else (slices_IndexFunc_string.l0 k x0 x7 (wrap64 (x8 + 1))))) else (none)) else (none)) else (some (-1))
def slices_IndexFunc_string.f (k : Nat) (l0 : List ByteArray)  : Option (Int) := slices_IndexFunc_string.l0 k l0 (l0.length : Int) 0
theorem slices_IndexFunc_string.mono_l : ∀ k, (∀ y0 y1 y2, LeO (slices_IndexFunc_string.l0 k y0 y1 y2) (slices_IndexFunc_string.l0 (k + 1) y0 y1 y2))
 | 0 => fun _ _ _ r h => by simp [slices_IndexFunc_string.l0] at h
 | k + 1 => by
  have ih0 := slices_IndexFunc_string.mono_l k
  ·
   intro y0 y1 y2
   unfold slices_IndexFunc_string.l0
   repeat' first
   | (with_reducible exact ih0 _ _ _)
   | (with_reducible exact LeO.refl _)
   | (with_reducible exact LeO.none _)
   | (with_reducible refine LeO.ite ?_ ?_)
   | (with_reducible refine LeO.bind ?_ (fun _ => ?_))
   | exact ih0 _ _ _
   | exact LeO.none _
   | refine LeO.ite ?_ ?_
   | refine LeO.bind ?_ (fun _ => ?_)
theorem slices_IndexFunc_string.mono : ∀ a0 k, LeO (slices_IndexFunc_string.f k a0) (slices_IndexFunc_string.f (k + 1) a0) := by
 intro a0 k
 have ih0 := slices_IndexFunc_string.mono_l k
 unfold slices_IndexFunc_string.f
 repeat' first
   | (with_reducible exact ih0 _ _ _)
   | (with_reducible exact LeO.refl _)
   | (with_reducible exact LeO.none _)
   | (with_reducible refine LeO.ite ?_ ?_)
   | (with_reducible refine LeO.bind ?_ (fun _ => ?_))
   | exact ih0 _ _ _
   | exact LeO.none _
   | refine LeO.ite ?_ ?_
   | refine LeO.bind ?_ (fun _ => ?_)
set_option maxHeartbeats 8000000 in
set_option maxRecDepth 100000 in
theorem slices_IndexFunc_string.calls (k : Nat) (A0 : Option Addr) (c0 : Nat) (l0 : List ByteArray)  (r : Int) (w : World) (hr0 : Kd.C Kd.string w A0 l0.length l0) (hc0 : l0.length ≤ c0) (h : slices_IndexFunc_string.f k l0 = some r) :
  Calls Tryd.prog 44 #[.slice A0 l0.length c0, .func (.func 32) #[] #[]] w fun e w' => e = .returned (.int .i64 r) ∧ Below w.heap.size w w' := by
 have HR0 := Aside0.mk hr0
 have HC0 := Aside0.mk hc0
 clear hr0 hc0
 have HB := Aside0.mk (Below.refl w.heap.size w)
 have H : (slices_IndexFunc_string.l0 k l0 (l0.length : Int) 0) = some r := h
 clear h
 have H' := Aside0.mk H
 clear H
 go_enter Tryd.func44, Tryd.ntmps44
 go_wp2
 go_loopg [8] k (fun kq v8 w' => ∃ (x8_1 : Int), v8 = .int .i64 x8_1 ∧ Aside0 (slices_IndexFunc_string.l0 kq l0 (l0.length : Int) x8_1 = some r) ∧ Aside0 (kq ≤ k) ∧ Aside0 (Below w.heap.size w w'))
 case atStart => exact ⟨(0), zr, H', ⟨Nat.le_refl _⟩, ⟨bz HB.out⟩⟩
 case round =>
  clear H'
  try clear p2
  obtain ⟨x8_1, rfl, HA, HK1, HB⟩ := hrel
  cases gk with
  | zero => exact absurd HA.out (by simp [slices_IndexFunc_string.l0])
  | succ k1 =>
   have H := HA.out
   clear HA
   simp only [slices_IndexFunc_string.l0] at H
   by_cases c3 : x8_1 < (l0.length : Int)
   ·
    rw [if_pos c3] at H
    have c3b0 : decide (x8_1 < (l0.length : Int)) = true := decide_eq_true c3
    clear c3
    by_cases c4 : 0 ≤ x8_1
    ·
     rw [if_pos c4] at H
     have c4b0 : decide (0 ≤ x8_1) = true := decide_eq_true c4
     clear c4
     by_cases c5 : x8_1 < (l0.length : Int)
     ·
      rw [if_pos c5] at H
      have c5b0 : decide (x8_1 < (l0.length : Int)) = true := decide_eq_true c5
      clear c5
      replace H := Option.bind_eq_some_iff.mp H
      obtain ⟨t102, A60, H⟩ := H
      have A6 := Aside0.mk A60
      clear A60
      by_cases c7 : t102 = true
      ·
       subst c7
       rw [if_pos rfl] at H
       obtain rfl := Option.some.inj H
       have p101 : 0 ≤ (x8_1 : Int) := of_decide_eq_true zs
       have q101 : x8_1 < (l0.length : Int) := of_decide_eq_true zs
       obtain ⟨ad101, e101, hx101_0⟩ := Kd.at_string HR0.out x8_1 p101 q101
       cases e101
       replace hx101_0 := pw_cell_below HB.out hx101_0
       replace p101 := eq_true p101
       replace q101 := eq_true q101
       go_wp2_with (first | ((with_reducible refine gate_dst (N := 16) rfl ?_); refine Q.goesLV_ (some 16) rfl rfl Tryd.func32 zk rfl #[.string (rdOf ByteArray.empty l0 x8_1)] rfl (by rfl) zm ?_; (with_reducible refine (impl_PathSteps_1.calls (rdOf ByteArray.empty l0 x8_1) true _ A6.out).mono ?_); rintro e w8 ⟨rfl, hb⟩; refine ⟨_, rfl, ?_⟩; replace HB := Aside0.mk (below_step (bz HB.out) hb); (try clear hb)))
       go_ret
       exact ⟨ze, bz HB.out⟩
      ·
       replace c7 := Bool.eq_false_iff.mpr c7
       subst c7
       rw [if_neg nf_] at H
       have H' := Aside0.mk H
       clear H
       have p101 : 0 ≤ (x8_1 : Int) := of_decide_eq_true zs
       have q101 : x8_1 < (l0.length : Int) := of_decide_eq_true zs
       obtain ⟨ad101, e101, hx101_0⟩ := Kd.at_string HR0.out x8_1 p101 q101
       cases e101
       replace hx101_0 := pw_cell_below HB.out hx101_0
       replace p101 := eq_true p101
       replace q101 := eq_true q101
       go_wp2_with (first | ((with_reducible refine gate_dst (N := 16) rfl ?_); refine Q.goesLV_ (some 16) rfl rfl Tryd.func32 zk rfl #[.string (rdOf ByteArray.empty l0 x8_1)] rfl (by rfl) zm ?_; (with_reducible refine (impl_PathSteps_1.calls (rdOf ByteArray.empty l0 x8_1) false _ A6.out).mono ?_); rintro e w9 ⟨rfl, hb⟩; refine ⟨_, rfl, ?_⟩; replace HB := Aside0.mk (below_step (bz HB.out) hb); (try clear hb)))
       go_roundg k1
       case measure => have := HK1.out; omega
       case rel => exact ⟨(wrap64 (x8_1 + 1)), zr, H', ⟨by have := HK1.out; omega⟩, ⟨bz HB.out⟩⟩
     ·
      rw [if_neg c5] at H
      exact absurd H (by simp)
    ·
     rw [if_neg c4] at H
     exact absurd H (by simp)
   ·
    rw [if_neg c3] at H
    have c3b0 : decide (x8_1 < (l0.length : Int)) = false := decide_eq_false c3
    clear c3
    obtain rfl := Option.some.inj H
    go_wp2
    go_ret
    exact ⟨ze, bz HB.out⟩

end Go.Proofs.YtkjjlkkfhbfbmaaDoor.P

namespace Go.Proofs.YtkjjlkkfhbfbmaaDoor.P
open Go.RowKit Go.Proofs.YtkjjlkkfhbfbmaaDoorW.PrintWords Go.Proofs.YtkjjlkkfhbfbmaaDoorW.PrintLast Go.Proofs.YtkjjlkkfhbfbmaaDoorW.PrintMore
attribute [local go_sem] max2_int min2_int max_two min_two max_three min_three max_four min_four Q.cell_set_map Q.str_gtr Q.str_geq Q.str_leq
set_option linter.unusedVariables false
set_option linter.unusedSimpArgs false

/-! ### slices_ContainsFunc_string: function 31 -/
def slices_ContainsFunc_string.f (k : Nat) (l0 : List ByteArray)  : Option (Bool) := (slices_IndexFunc_string.f k l0).bind fun t101 => (some (decide (t101 ≥ 0)))
theorem slices_ContainsFunc_string.mono : ∀ a0 k, LeO (slices_ContainsFunc_string.f k a0) (slices_ContainsFunc_string.f (k + 1) a0) := by
 intro a0 k
 unfold slices_ContainsFunc_string.f
 repeat' first
   | (with_reducible exact slices_IndexFunc_string.mono _ _)
   | (with_reducible exact LeO.refl _)
   | (with_reducible exact LeO.none _)
   | (with_reducible refine LeO.ite ?_ ?_)
   | (with_reducible refine LeO.bind ?_ (fun _ => ?_))
   | exact slices_IndexFunc_string.mono _ _
   | exact LeO.none _
   | refine LeO.ite ?_ ?_
   | refine LeO.bind ?_ (fun _ => ?_)
set_option maxHeartbeats 8000000 in
set_option maxRecDepth 100000 in
theorem slices_ContainsFunc_string.calls (k : Nat) (A0 : Option Addr) (c0 : Nat) (l0 : List ByteArray)  (r : Bool) (w : World) (hr0 : Kd.C Kd.string w A0 l0.length l0) (hc0 : l0.length ≤ c0) (h : slices_ContainsFunc_string.f k l0 = some r) :
  Calls Tryd.prog 31 #[.slice A0 l0.length c0, .func (.func 32) #[] #[]] w fun e w' => e = .returned (.bool r) ∧ Below w.heap.size w w' := by
 have HR0 := Aside0.mk hr0
 have HC0 := Aside0.mk hc0
 clear hr0 hc0
 have HB := Aside0.mk (Below.refl w.heap.size w)
 have H : ((slices_IndexFunc_string.f k l0).bind fun t101 => (some (decide (t101 ≥ 0)))) = some r := h
 clear h
 replace H := Option.bind_eq_some_iff.mp H
 obtain ⟨t101, A30, H⟩ := H
 have A3 := Aside0.mk A30
 clear A30
 obtain rfl := Option.some.inj H
 go_enter Tryd.func31, Tryd.ntmps31
 go_wp2_with (first | ((with_reducible refine gate_callee (f := 44) rfl ?_); refine goesL_ (some 7) rfl rfl Tryd.func44 zk rfl #[.slice A0 l0.length c0, .func (.func 32) #[] #[]] rfl zm ?_; (with_reducible refine (slices_IndexFunc_string.calls k _ _ l0 t101 _ ?side1 ?side2 A3.out).mono ?_); (case side1 => exact cz HR0.out); (case side2 => exact HC0.out); rintro e w4 ⟨rfl, hb⟩; refine ⟨_, rfl, ?_⟩; replace HB := Aside0.mk (below_step (bz HB.out) hb); (try clear hb)))
 go_ret
 exact ⟨ze, bz HB.out⟩

end Go.Proofs.YtkjjlkkfhbfbmaaDoor.P

namespace Go.Proofs.YtkjjlkkfhbfbmaaDoor.P
open Go.RowKit Go.Proofs.YtkjjlkkfhbfbmaaDoorW.PrintWords Go.Proofs.YtkjjlkkfhbfbmaaDoorW.PrintLast Go.Proofs.YtkjjlkkfhbfbmaaDoorW.PrintMore
attribute [local go_sem] max2_int min2_int max_two min_two max_three min_three max_four min_four Q.cell_set_map Q.str_gtr Q.str_geq Q.str_leq
set_option linter.unusedVariables false
set_option linter.unusedSimpArgs false

/-! ### impl_PathSteps: function 19 -/
def impl_PathSteps.f (k : Nat) (a0 : ByteArray) : Option (Bool × List ByteArray × Bool) := (strings_CutPrefix.f a0 (⟨#[47]⟩ : ByteArray)).bind fun bt101 => (if bt101.1.toList = ([] : List UInt8) then (some (bt101.2, ([] : List ByteArray), true)) else ((strings_Split.f k bt101.1 (⟨#[47]⟩ : ByteArray)).bind fun t103 => (if (t103.length : Int) > 6 then (some (false, ([] : List ByteArray), false)) else ((slices_ContainsFunc_string.f k t103).bind fun t106 => (if t106 = true then (some (false, ([] : List ByteArray), false)) else (some (bt101.2, t103, true)))))))
theorem impl_PathSteps.mono : ∀ a0 k, LeO (impl_PathSteps.f k a0) (impl_PathSteps.f (k + 1) a0) := by
 intro a0 k
 unfold impl_PathSteps.f
 repeat' first
   | (with_reducible exact slices_ContainsFunc_string.mono _ _)
   | (with_reducible exact strings_Split.mono _ _ _)
   | (with_reducible exact LeO.refl _)
   | (with_reducible exact LeO.none _)
   | (with_reducible refine LeO.ite ?_ ?_)
   | (with_reducible refine LeO.bind ?_ (fun _ => ?_))
   | exact slices_ContainsFunc_string.mono _ _
   | exact strings_Split.mono _ _ _
   | exact LeO.none _
   | refine LeO.ite ?_ ?_
   | refine LeO.bind ?_ (fun _ => ?_)
set_option maxHeartbeats 8000000 in
set_option maxRecDepth 100000 in
theorem impl_PathSteps.calls (k : Nat) (a0 : ByteArray) (r1 : Bool) (r2 : List ByteArray) (r3 : Bool) (w : World) (h : impl_PathSteps.f k a0 = some (r1, r2, r3)) :
  Calls Tryd.prog 19 #[.string a0] w fun e w' => ∃ v1_ : Value, e = .returned (.tuple #[.bool r1, v1_, .bool r3]) ∧ Kd.R Kd.string 9 w' w.heap.size (fun _ => True) v1_ r2 ∧ Below w.heap.size w w' := by
 have HB := Aside0.mk (Below.refl w.heap.size w)
 have H : ((strings_CutPrefix.f a0 (⟨#[47]⟩ : ByteArray)).bind fun bt101 => (if bt101.1.toList = ([] : List UInt8) then (some (bt101.2, ([] : List ByteArray), true)) else ((strings_Split.f k bt101.1 (⟨#[47]⟩ : ByteArray)).bind fun t103 => (if (t103.length : Int) > 6 then (some (false, ([] : List ByteArray), false)) else ((slices_ContainsFunc_string.f k t103).bind fun t106 => (if t106 = true then (some (false, ([] : List ByteArray), false)) else (some (bt101.2, t103, true)))))))) = some (r1, r2, r3) := h
 clear h
 replace H := Option.bind_eq_some_iff.mp H
 obtain ⟨⟨t101, t102⟩, A20, H⟩ := H
 replace H : (if t101.toList = ([] : List UInt8) then (some (t102, ([] : List ByteArray), true)) else ((strings_Split.f k t101 (⟨#[47]⟩ : ByteArray)).bind fun t103 => (if (t103.length : Int) > 6 then (some (false, ([] : List ByteArray), false)) else ((slices_ContainsFunc_string.f k t103).bind fun t106 => (if t106 = true then (some (false, ([] : List ByteArray), false)) else (some (t102, t103, true))))))) = some (r1, r2, r3) := H
 have A2 := Aside0.mk A20
 clear A20
 by_cases c3 : t101.toList = ([] : List UInt8)
 ·
  rw [if_pos c3] at H
  have c3b0 : (t101.toList == ([] : List UInt8)) = true := beq_iff_eq.mpr c3
  have c3b1 : (t101.toList != ([] : List UInt8)) = false := bne_eq_false_iff_eq.mpr c3
  clear c3
  simp only [Option.some.injEq, Prod.mk.injEq] at H
  obtain ⟨rfl, rfl, rfl⟩ := H
  go_enter Tryd.func19, Tryd.ntmps19
  go_wp2_with (first | ((with_reducible refine gate_callee (f := 30) rfl ?_); refine goesL_ (some 10) rfl rfl Tryd.func30 zk rfl #[.string a0, .string (⟨#[47]⟩ : ByteArray)] rfl zm ?_; (with_reducible refine (strings_CutPrefix.calls a0 (⟨#[47]⟩ : ByteArray) t101 t102 _ A2.out).mono ?_); rintro e w' ⟨rfl, ⟨nd, rfl⟩⟩; refine ⟨_, rfl, ?_⟩))
  go_ret3
  exact ⟨_, ze, by first | exact Kd.R_nil _ _ _ _ _ | exact Kd.N_nil _ _ _ _ _ | exact Kd.V_nil _ _ _ _ _ | exact Kd.Q_nil _ _ _ _ _ | exact Kd.S_nil _ _ _ _ _, bz HB.out⟩
 ·
  rw [if_neg c3] at H
  have c3b0 : (t101.toList == ([] : List UInt8)) = false := beq_eq_false_iff_ne.mpr c3
  have c3b1 : (t101.toList != ([] : List UInt8)) = true := bne_iff_ne.mpr c3
  replace H := Option.bind_eq_some_iff.mp H
  obtain ⟨t103, A40, H⟩ := H
  have A4 := Aside0.mk A40
  clear A40
  by_cases c5 : (t103.length : Int) > 6
  ·
   rw [if_pos c5] at H
   have c5b0 : decide (6 < (t103.length : Int)) = true := decide_eq_true c5
   have c5b1 : decide (6 < t103.length) = true := decide_eq_true (by omega)
   clear c5
   simp only [Option.some.injEq, Prod.mk.injEq] at H
   obtain ⟨rfl, rfl, rfl⟩ := H
   go_enter Tryd.func19, Tryd.ntmps19
   go_wp2_with (first | ((with_reducible refine gate_callee (f := 30) rfl ?_); refine goesL_ (some 10) rfl rfl Tryd.func30 zk rfl #[.string a0, .string (⟨#[47]⟩ : ByteArray)] rfl zm ?_; (with_reducible refine (strings_CutPrefix.calls a0 (⟨#[47]⟩ : ByteArray) t101 t102 _ A2.out).mono ?_); rintro e w' ⟨rfl, ⟨nd, rfl⟩⟩; refine ⟨_, rfl, ?_⟩) | ((with_reducible refine gate_callee (f := 14) rfl ?_); refine goesL_ (some 17) rfl rfl Tryd.func14 zk rfl #[.string t101, .string (⟨#[47]⟩ : ByteArray)] rfl zm ?_; (with_reducible refine (strings_Split.calls k t101 (⟨#[47]⟩ : ByteArray) t103 _ A4.out).mono ?_); rintro e w6 ⟨v104, rfl, ho0, hb⟩; refine ⟨_, rfl, ?_⟩; have HO105 := Aside0.mk (Kd.R_lower ho0 (below_size (bz HB.out))); replace HB := Aside0.mk (below_step (bz HB.out) hb); (try clear hb); (try clear ho0); obtain ⟨Ao7, co7, eo7⟩ := Kd.R_slice HO105.out; subst eo7))
   go_ret3
   exact ⟨_, ze, by first | exact Kd.R_nil _ _ _ _ _ | exact Kd.N_nil _ _ _ _ _ | exact Kd.V_nil _ _ _ _ _ | exact Kd.Q_nil _ _ _ _ _ | exact Kd.S_nil _ _ _ _ _, bz HB.out⟩
  ·
   rw [if_neg c5] at H
   have c5b0 : decide (6 < (t103.length : Int)) = false := decide_eq_false c5
   have c5b1 : decide (6 < t103.length) = false := decide_eq_false (by omega)
   clear c5
   replace H := Option.bind_eq_some_iff.mp H
   obtain ⟨t106, A80, H⟩ := H
   have A8 := Aside0.mk A80
   clear A80
   by_cases c9 : t106 = true
   ·
    subst c9
    rw [if_pos rfl] at H
    simp only [Option.some.injEq, Prod.mk.injEq] at H
    obtain ⟨rfl, rfl, rfl⟩ := H
    go_enter Tryd.func19, Tryd.ntmps19
    go_wp2_with (first | ((with_reducible refine gate_callee (f := 30) rfl ?_); refine goesL_ (some 10) rfl rfl Tryd.func30 zk rfl #[.string a0, .string (⟨#[47]⟩ : ByteArray)] rfl zm ?_; (with_reducible refine (strings_CutPrefix.calls a0 (⟨#[47]⟩ : ByteArray) t101 t102 _ A2.out).mono ?_); rintro e w' ⟨rfl, ⟨nd, rfl⟩⟩; refine ⟨_, rfl, ?_⟩) | ((with_reducible refine gate_callee (f := 14) rfl ?_); refine goesL_ (some 17) rfl rfl Tryd.func14 zk rfl #[.string t101, .string (⟨#[47]⟩ : ByteArray)] rfl zm ?_; (with_reducible refine (strings_Split.calls k t101 (⟨#[47]⟩ : ByteArray) t103 _ A4.out).mono ?_); rintro e w10 ⟨v104, rfl, ho0, hb⟩; refine ⟨_, rfl, ?_⟩; have HO105 := Aside0.mk (Kd.R_lower ho0 (below_size (bz HB.out))); replace HB := Aside0.mk (below_step (bz HB.out) hb); (try clear hb); (try clear ho0); obtain ⟨Ao11, co11, eo11⟩ := Kd.R_slice HO105.out; subst eo11) | (go_at_call 31; (with_reducible refine (slices_ContainsFunc_string.calls k _ _ t103 true _ ?side1 ?side2 A8.out).mono ?_); (case side1 => exact cz ((Kd.R_reads' HO105.out).2.2)); (case side2 => exact (Kd.R_reads' HO105.out).2.1); rintro e w12 ⟨rfl, hb⟩; replace HO105 := Aside0.mk (Kd.R_below (rz HO105.out) hb); replace HB := Aside0.mk (below_step (bz HB.out) hb); (try clear hb)))
    go_ret3
    exact ⟨_, ze, by first | exact Kd.R_nil _ _ _ _ _ | exact Kd.N_nil _ _ _ _ _ | exact Kd.V_nil _ _ _ _ _ | exact Kd.Q_nil _ _ _ _ _ | exact Kd.S_nil _ _ _ _ _, bz HB.out⟩
   ·
    replace c9 := Bool.eq_false_iff.mpr c9
    subst c9
    rw [if_neg nf_] at H
    simp only [Option.some.injEq, Prod.mk.injEq] at H
    obtain ⟨rfl, rfl, rfl⟩ := H
    go_enter Tryd.func19, Tryd.ntmps19
    go_wp2_with (first | ((with_reducible refine gate_callee (f := 30) rfl ?_); refine goesL_ (some 10) rfl rfl Tryd.func30 zk rfl #[.string a0, .string (⟨#[47]⟩ : ByteArray)] rfl zm ?_; (with_reducible refine (strings_CutPrefix.calls a0 (⟨#[47]⟩ : ByteArray) t101 t102 _ A2.out).mono ?_); rintro e w' ⟨rfl, ⟨nd, rfl⟩⟩; refine ⟨_, rfl, ?_⟩) | ((with_reducible refine gate_callee (f := 14) rfl ?_); refine goesL_ (some 17) rfl rfl Tryd.func14 zk rfl #[.string t101, .string (⟨#[47]⟩ : ByteArray)] rfl zm ?_; (with_reducible refine (strings_Split.calls k t101 (⟨#[47]⟩ : ByteArray) t103 _ A4.out).mono ?_); rintro e w13 ⟨v104, rfl, ho0, hb⟩; refine ⟨_, rfl, ?_⟩; have HO105 := Aside0.mk (Kd.R_lower ho0 (below_size (bz HB.out))); replace HB := Aside0.mk (below_step (bz HB.out) hb); (try clear hb); (try clear ho0); obtain ⟨Ao14, co14, eo14⟩ := Kd.R_slice HO105.out; subst eo14) | (go_at_call 31; (with_reducible refine (slices_ContainsFunc_string.calls k _ _ t103 false _ ?side1 ?side2 A8.out).mono ?_); (case side1 => exact cz ((Kd.R_reads' HO105.out).2.2)); (case side2 => exact (Kd.R_reads' HO105.out).2.1); rintro e w15 ⟨rfl, hb⟩; replace HO105 := Aside0.mk (Kd.R_below (rz HO105.out) hb); replace HB := Aside0.mk (below_step (bz HB.out) hb); (try clear hb)))
    go_ret3
    exact ⟨_, ze, by (with_reducible repeat (first | apply Kd.R_alloc | apply Kd.R_drewN | apply Kd.R_drew)); exact HO105.out, bz HB.out⟩

end Go.Proofs.YtkjjlkkfhbfbmaaDoor.P

namespace Go.Proofs.YtkjjlkkfhbfbmaaDoor.P
open Go.RowKit Go.Proofs.YtkjjlkkfhbfbmaaDoorW.PrintWords Go.Proofs.YtkjjlkkfhbfbmaaDoorW.PrintLast Go.Proofs.YtkjjlkkfhbfbmaaDoorW.PrintMore
attribute [local go_sem] max2_int min2_int max_two min_two max_three min_three max_four min_four Q.cell_set_map Q.str_gtr Q.str_geq Q.str_leq
set_option linter.unusedVariables false
set_option linter.unusedSimpArgs false

/-! ### impl_CallOk: function 9 -/
-- IMPORT Derived.Test.YtkjjlkkfhbfbmaaDoorQSem9
def impl_CallOk.f (k : Nat) (a0_0 : Int) (a0_1 : Int) (a0_2 : Int) (a0_3 : ByteArray) (a0_4 : ByteArray) (a0_5 : ByteArray) : Option (Bool) := (impl_PathSteps.f k a0_3).bind fun bt102 => ((impl_PathSteps.f k a0_4).bind fun bt107 => ((impl_in.f a0_0 1 31).bind fun t112 => (if t112 = true then (if bt102.2.2 = true then (if bt107.2.2 = true then (if (a0_3.size : Int) ≤ 40 then (if (a0_4.size : Int) ≤ 40 then (some (decide ((a0_5.size : Int) ≤ 40))) else (some false)) else (some false)) else (some false)) else (some false)) else (some false))))
theorem impl_CallOk.mono : ∀ a0 a1 a2 a3 a4 a5 k, LeO (impl_CallOk.f k a0 a1 a2 a3 a4 a5) (impl_CallOk.f (k + 1) a0 a1 a2 a3 a4 a5) := by
 intro a0 a1 a2 a3 a4 a5 k
 unfold impl_CallOk.f
 repeat' first
   | (with_reducible exact impl_PathSteps.mono _ _)
   | (with_reducible exact LeO.refl _)
   | (with_reducible exact LeO.none _)
   | (with_reducible refine LeO.ite ?_ ?_)
   | (with_reducible refine LeO.bind ?_ (fun _ => ?_))
   | exact impl_PathSteps.mono _ _
   | exact LeO.none _
   | refine LeO.ite ?_ ?_
   | refine LeO.bind ?_ (fun _ => ?_)
set_option maxHeartbeats 8000000 in
set_option maxRecDepth 100000 in
theorem impl_CallOk.calls (k : Nat) (a0_0 : Int) (a0_1 : Int) (a0_2 : Int) (a0_3 : ByteArray) (a0_4 : ByteArray) (a0_5 : ByteArray) (r : Bool) (w : World) (h : impl_CallOk.f k a0_0 a0_1 a0_2 a0_3 a0_4 a0_5 = some r) :
  Calls Tryd.prog 9 #[.agg #[.int .i64 a0_0, .int .i64 a0_1, .int .i64 a0_2, .string a0_3, .string a0_4, .string a0_5]] w fun e w' => e = .returned (.bool r) ∧ Below w.heap.size w w' := by
 have hu23 := Tryd.underlying23; have HB := Aside0.mk (Below.refl w.heap.size w); have H : ((impl_PathSteps.f k a0_3).bind fun bt102 => ((impl_PathSteps.f k a0_4).bind fun bt107 => ((impl_in.f a0_0 1 31).bind fun t112 => (if t112 = true then (if bt102.2.2 = true then (if bt107.2.2 = true then (if (a0_3.size : Int) ≤ 40 then (if (a0_4.size : Int) ≤ 40 then (some (decide ((a0_5.size : Int) ≤ 40))) else (some false)) else (some false)) else (some false)) else (some false)) else (some false))))) = some r := h; clear h; replace H := Option.bind_eq_some_iff.mp H; obtain ⟨⟨t102, t103, t104⟩, A20, H⟩ := H; replace H : ((impl_PathSteps.f k a0_4).bind fun bt107 => ((impl_in.f a0_0 1 31).bind fun t112 => (if t112 = true then (if t104 = true then (if bt107.2.2 = true then (if (a0_3.size : Int) ≤ 40 then (if (a0_4.size : Int) ≤ 40 then (some (decide ((a0_5.size : Int) ≤ 40))) else (some false)) else (some false)) else (some false)) else (some false)) else (some false)))) = some r := H; have A2 := Aside0.mk A20; clear A20; replace H := Option.bind_eq_some_iff.mp H; obtain ⟨⟨t107, t108, t109⟩, A30, H⟩ := H; replace H : ((impl_in.f a0_0 1 31).bind fun t112 => (if t112 = true then (if t104 = true then (if t109 = true then (if (a0_3.size : Int) ≤ 40 then (if (a0_4.size : Int) ≤ 40 then (some (decide ((a0_5.size : Int) ≤ 40))) else (some false)) else (some false)) else (some false)) else (some false)) else (some false))) = some r := H; have A3 := Aside0.mk A30; clear A30; replace H := Option.bind_eq_some_iff.mp H; obtain ⟨t112, A40, H⟩ := H; have A4 := Aside0.mk A40; clear A40
 by_cases c5 : t112 = true
 rotate_left
 ·
  replace c5 := Bool.eq_false_iff.mpr c5; subst c5; rw [if_neg nf_] at H; obtain rfl := Option.some.inj H
  go_enter Tryd.func9, Tryd.ntmps9
  go_wp2_with (first | ((with_reducible refine gate_dst (N := 1) rfl ?_); (try (refine gate_guard (by rfl) ?_; dsimp only)); refine box_event ?hg (N := 1) ?hd (cs := #[.int .i64 a0_0, .int .i64 a0_1, .int .i64 a0_2, .string a0_3, .string a0_4, .string a0_5]) (t := 23) ?hr ?_; (case hd => rfl); (case hg => rfl); (case hr => first | (go_simp; done) | (go_simp; rfl)); intro gb101 hg w40 hbox hb; have BK101 := Aside0.mk (hbox); have GW101 := Aside0.mk ((by rw [hg]; exact (below_size (bz HB.out)) : w.heap.size ≤ gb101)); have GE101 := GW101; replace HB := Aside0.mk (below_step (bz HB.out) hb); clear hb hbox hg; obtain ⟨hcz41_0, hcz41_1, hcz41_2, hcz41_3, hcz41_4, hcz41_5⟩ := cz6 BK101.out; obtain ⟨hfz41_0, hfz41_1, hfz41_2, hfz41_3, hfz41_4, hfz41_5⟩ := fz6 BK101.out) | ((with_reducible refine gate_callee (f := 19) rfl ?_); refine goesL_ (some 12) rfl rfl Tryd.func19 zk rfl #[.string a0_3] rfl zm ?_; (with_reducible refine (impl_PathSteps.calls k a0_3 t102 t103 t104 _ A2.out).mono ?_); rintro e w42 ⟨v105, rfl, ho0, hb⟩; refine ⟨_, rfl, ?_⟩; have HO106 := Aside0.mk (Kd.R_lower ho0 (below_size (bs HB.out GE101.out))); replace BK101 := Aside0.mk (blk_below (kz BK101.out) hb); replace HB := Aside0.mk (below_step (bs HB.out GE101.out) hb); (try clear hb); (try clear ho0); obtain ⟨hcz43_0, hcz43_1, hcz43_2, hcz43_3, hcz43_4, hcz43_5⟩ := cz6 BK101.out; obtain ⟨hfz43_0, hfz43_1, hfz43_2, hfz43_3, hfz43_4, hfz43_5⟩ := fz6 BK101.out) | ((with_reducible refine gate_callee (f := 19) rfl ?_); refine goesL_ (some 19) rfl rfl Tryd.func19 zk rfl #[.string a0_4] rfl zm ?_; (with_reducible refine (impl_PathSteps.calls k a0_4 t107 t108 t109 _ A3.out).mono ?_); rintro e w44 ⟨v110, rfl, ho0, hb⟩; refine ⟨_, rfl, ?_⟩; have HO111 := Aside0.mk (Kd.R_lower (Kd.R_new' ho0 (Kd.R_lt (rz HO106.out))) (below_size (bs HB.out GE101.out))); replace HO106 := Aside0.mk (Kd.R_elder' (rz HO106.out) (Kd.R_base ho0) hb); replace BK101 := Aside0.mk (blk_below (kz BK101.out) hb); replace HB := Aside0.mk (below_step (bs HB.out GE101.out) hb); (try clear hb); (try clear ho0); obtain ⟨hcz45_0, hcz45_1, hcz45_2, hcz45_3, hcz45_4, hcz45_5⟩ := cz6 BK101.out; obtain ⟨hfz45_0, hfz45_1, hfz45_2, hfz45_3, hfz45_4, hfz45_5⟩ := fz6 BK101.out) | ((with_reducible refine gate_callee (f := 20) rfl ?_); refine goesL_ (some 25) rfl rfl Tryd.func20 zk rfl #[.int .i64 a0_0, .int .i64 1, .int .i64 31] rfl zm ?_; (with_reducible refine (impl_in.calls a0_0 1 31 false _ A4.out).mono ?_); rintro e w' ⟨rfl, ⟨nd, rfl⟩⟩; refine ⟨_, rfl, ?_⟩))
  go_ret
  exact ⟨ze, bs HB.out GE101.out⟩
 subst c5; rw [if_pos rfl] at H
 by_cases c6 : t104 = true
 rotate_left
 ·
  replace c6 := Bool.eq_false_iff.mpr c6; subst c6; rw [if_neg nf_] at H; obtain rfl := Option.some.inj H
  go_enter Tryd.func9, Tryd.ntmps9
  go_wp2_with (first | ((with_reducible refine gate_dst (N := 1) rfl ?_); (try (refine gate_guard (by rfl) ?_; dsimp only)); refine box_event ?hg (N := 1) ?hd (cs := #[.int .i64 a0_0, .int .i64 a0_1, .int .i64 a0_2, .string a0_3, .string a0_4, .string a0_5]) (t := 23) ?hr ?_; (case hd => rfl); (case hg => rfl); (case hr => first | (go_simp; done) | (go_simp; rfl)); intro gb101 hg w34 hbox hb; have BK101 := Aside0.mk (hbox); have GW101 := Aside0.mk ((by rw [hg]; exact (below_size (bz HB.out)) : w.heap.size ≤ gb101)); have GE101 := GW101; replace HB := Aside0.mk (below_step (bz HB.out) hb); clear hb hbox hg; obtain ⟨hcz35_0, hcz35_1, hcz35_2, hcz35_3, hcz35_4, hcz35_5⟩ := cz6 BK101.out; obtain ⟨hfz35_0, hfz35_1, hfz35_2, hfz35_3, hfz35_4, hfz35_5⟩ := fz6 BK101.out) | ((with_reducible refine gate_callee (f := 19) rfl ?_); refine goesL_ (some 12) rfl rfl Tryd.func19 zk rfl #[.string a0_3] rfl zm ?_; (with_reducible refine (impl_PathSteps.calls k a0_3 t102 t103 false _ A2.out).mono ?_); rintro e w36 ⟨v105, rfl, ho0, hb⟩; refine ⟨_, rfl, ?_⟩; have HO106 := Aside0.mk (Kd.R_lower ho0 (below_size (bs HB.out GE101.out))); replace BK101 := Aside0.mk (blk_below (kz BK101.out) hb); replace HB := Aside0.mk (below_step (bs HB.out GE101.out) hb); (try clear hb); (try clear ho0); obtain ⟨hcz37_0, hcz37_1, hcz37_2, hcz37_3, hcz37_4, hcz37_5⟩ := cz6 BK101.out; obtain ⟨hfz37_0, hfz37_1, hfz37_2, hfz37_3, hfz37_4, hfz37_5⟩ := fz6 BK101.out) | ((with_reducible refine gate_callee (f := 19) rfl ?_); refine goesL_ (some 19) rfl rfl Tryd.func19 zk rfl #[.string a0_4] rfl zm ?_; (with_reducible refine (impl_PathSteps.calls k a0_4 t107 t108 t109 _ A3.out).mono ?_); rintro e w38 ⟨v110, rfl, ho0, hb⟩; refine ⟨_, rfl, ?_⟩; have HO111 := Aside0.mk (Kd.R_lower (Kd.R_new' ho0 (Kd.R_lt (rz HO106.out))) (below_size (bs HB.out GE101.out))); replace HO106 := Aside0.mk (Kd.R_elder' (rz HO106.out) (Kd.R_base ho0) hb); replace BK101 := Aside0.mk (blk_below (kz BK101.out) hb); replace HB := Aside0.mk (below_step (bs HB.out GE101.out) hb); (try clear hb); (try clear ho0); obtain ⟨hcz39_0, hcz39_1, hcz39_2, hcz39_3, hcz39_4, hcz39_5⟩ := cz6 BK101.out; obtain ⟨hfz39_0, hfz39_1, hfz39_2, hfz39_3, hfz39_4, hfz39_5⟩ := fz6 BK101.out) | ((with_reducible refine gate_callee (f := 20) rfl ?_); refine goesL_ (some 25) rfl rfl Tryd.func20 zk rfl #[.int .i64 a0_0, .int .i64 1, .int .i64 31] rfl zm ?_; (with_reducible refine (impl_in.calls a0_0 1 31 true _ A4.out).mono ?_); rintro e w' ⟨rfl, ⟨nd, rfl⟩⟩; refine ⟨_, rfl, ?_⟩))
  go_ret
  exact ⟨ze, bs HB.out GE101.out⟩
 subst c6; rw [if_pos rfl] at H
 by_cases c7 : t109 = true
 rotate_left
 ·
  replace c7 := Bool.eq_false_iff.mpr c7; subst c7; rw [if_neg nf_] at H; obtain rfl := Option.some.inj H
  go_enter Tryd.func9, Tryd.ntmps9
  go_wp2_with (first | ((with_reducible refine gate_dst (N := 1) rfl ?_); (try (refine gate_guard (by rfl) ?_; dsimp only)); refine box_event ?hg (N := 1) ?hd (cs := #[.int .i64 a0_0, .int .i64 a0_1, .int .i64 a0_2, .string a0_3, .string a0_4, .string a0_5]) (t := 23) ?hr ?_; (case hd => rfl); (case hg => rfl); (case hr => first | (go_simp; done) | (go_simp; rfl)); intro gb101 hg w28 hbox hb; have BK101 := Aside0.mk (hbox); have GW101 := Aside0.mk ((by rw [hg]; exact (below_size (bz HB.out)) : w.heap.size ≤ gb101)); have GE101 := GW101; replace HB := Aside0.mk (below_step (bz HB.out) hb); clear hb hbox hg; obtain ⟨hcz29_0, hcz29_1, hcz29_2, hcz29_3, hcz29_4, hcz29_5⟩ := cz6 BK101.out; obtain ⟨hfz29_0, hfz29_1, hfz29_2, hfz29_3, hfz29_4, hfz29_5⟩ := fz6 BK101.out) | ((with_reducible refine gate_callee (f := 19) rfl ?_); refine goesL_ (some 12) rfl rfl Tryd.func19 zk rfl #[.string a0_3] rfl zm ?_; (with_reducible refine (impl_PathSteps.calls k a0_3 t102 t103 true _ A2.out).mono ?_); rintro e w30 ⟨v105, rfl, ho0, hb⟩; refine ⟨_, rfl, ?_⟩; have HO106 := Aside0.mk (Kd.R_lower ho0 (below_size (bs HB.out GE101.out))); replace BK101 := Aside0.mk (blk_below (kz BK101.out) hb); replace HB := Aside0.mk (below_step (bs HB.out GE101.out) hb); (try clear hb); (try clear ho0); obtain ⟨hcz31_0, hcz31_1, hcz31_2, hcz31_3, hcz31_4, hcz31_5⟩ := cz6 BK101.out; obtain ⟨hfz31_0, hfz31_1, hfz31_2, hfz31_3, hfz31_4, hfz31_5⟩ := fz6 BK101.out) | ((with_reducible refine gate_callee (f := 19) rfl ?_); refine goesL_ (some 19) rfl rfl Tryd.func19 zk rfl #[.string a0_4] rfl zm ?_; (with_reducible refine (impl_PathSteps.calls k a0_4 t107 t108 false _ A3.out).mono ?_); rintro e w32 ⟨v110, rfl, ho0, hb⟩; refine ⟨_, rfl, ?_⟩; have HO111 := Aside0.mk (Kd.R_lower (Kd.R_new' ho0 (Kd.R_lt (rz HO106.out))) (below_size (bs HB.out GE101.out))); replace HO106 := Aside0.mk (Kd.R_elder' (rz HO106.out) (Kd.R_base ho0) hb); replace BK101 := Aside0.mk (blk_below (kz BK101.out) hb); replace HB := Aside0.mk (below_step (bs HB.out GE101.out) hb); (try clear hb); (try clear ho0); obtain ⟨hcz33_0, hcz33_1, hcz33_2, hcz33_3, hcz33_4, hcz33_5⟩ := cz6 BK101.out; obtain ⟨hfz33_0, hfz33_1, hfz33_2, hfz33_3, hfz33_4, hfz33_5⟩ := fz6 BK101.out) | ((with_reducible refine gate_callee (f := 20) rfl ?_); refine goesL_ (some 25) rfl rfl Tryd.func20 zk rfl #[.int .i64 a0_0, .int .i64 1, .int .i64 31] rfl zm ?_; (with_reducible refine (impl_in.calls a0_0 1 31 true _ A4.out).mono ?_); rintro e w' ⟨rfl, ⟨nd, rfl⟩⟩; refine ⟨_, rfl, ?_⟩))
  go_ret
  exact ⟨ze, bs HB.out GE101.out⟩
 subst c7; rw [if_pos rfl] at H
 by_cases c8 : (a0_3.size : Int) ≤ 40
 rotate_left
 ·
  rw [if_neg c8] at H; have c8b0 : decide ((a0_3.size : Int) ≤ 40) = false := decide_eq_false c8; have c8b1 : decide (a0_3.size ≤ 40) = false := decide_eq_false (by omega); clear c8; obtain rfl := Option.some.inj H
  go_enter Tryd.func9, Tryd.ntmps9
  go_wp2_with (first | ((with_reducible refine gate_dst (N := 1) rfl ?_); (try (refine gate_guard (by rfl) ?_; dsimp only)); refine box_event ?hg (N := 1) ?hd (cs := #[.int .i64 a0_0, .int .i64 a0_1, .int .i64 a0_2, .string a0_3, .string a0_4, .string a0_5]) (t := 23) ?hr ?_; (case hd => rfl); (case hg => rfl); (case hr => first | (go_simp; done) | (go_simp; rfl)); intro gb101 hg w22 hbox hb; have BK101 := Aside0.mk (hbox); have GW101 := Aside0.mk ((by rw [hg]; exact (below_size (bz HB.out)) : w.heap.size ≤ gb101)); have GE101 := GW101; replace HB := Aside0.mk (below_step (bz HB.out) hb); clear hb hbox hg; obtain ⟨hcz23_0, hcz23_1, hcz23_2, hcz23_3, hcz23_4, hcz23_5⟩ := cz6 BK101.out; obtain ⟨hfz23_0, hfz23_1, hfz23_2, hfz23_3, hfz23_4, hfz23_5⟩ := fz6 BK101.out) | ((with_reducible refine gate_callee (f := 19) rfl ?_); refine goesL_ (some 12) rfl rfl Tryd.func19 zk rfl #[.string a0_3] rfl zm ?_; (with_reducible refine (impl_PathSteps.calls k a0_3 t102 t103 true _ A2.out).mono ?_); rintro e w24 ⟨v105, rfl, ho0, hb⟩; refine ⟨_, rfl, ?_⟩; have HO106 := Aside0.mk (Kd.R_lower ho0 (below_size (bs HB.out GE101.out))); replace BK101 := Aside0.mk (blk_below (kz BK101.out) hb); replace HB := Aside0.mk (below_step (bs HB.out GE101.out) hb); (try clear hb); (try clear ho0); obtain ⟨hcz25_0, hcz25_1, hcz25_2, hcz25_3, hcz25_4, hcz25_5⟩ := cz6 BK101.out; obtain ⟨hfz25_0, hfz25_1, hfz25_2, hfz25_3, hfz25_4, hfz25_5⟩ := fz6 BK101.out) | ((with_reducible refine gate_callee (f := 19) rfl ?_); refine goesL_ (some 19) rfl rfl Tryd.func19 zk rfl #[.string a0_4] rfl zm ?_; (with_reducible refine (impl_PathSteps.calls k a0_4 t107 t108 true _ A3.out).mono ?_); rintro e w26 ⟨v110, rfl, ho0, hb⟩; refine ⟨_, rfl, ?_⟩; have HO111 := Aside0.mk (Kd.R_lower (Kd.R_new' ho0 (Kd.R_lt (rz HO106.out))) (below_size (bs HB.out GE101.out))); replace HO106 := Aside0.mk (Kd.R_elder' (rz HO106.out) (Kd.R_base ho0) hb); replace BK101 := Aside0.mk (blk_below (kz BK101.out) hb); replace HB := Aside0.mk (below_step (bs HB.out GE101.out) hb); (try clear hb); (try clear ho0); obtain ⟨hcz27_0, hcz27_1, hcz27_2, hcz27_3, hcz27_4, hcz27_5⟩ := cz6 BK101.out; obtain ⟨hfz27_0, hfz27_1, hfz27_2, hfz27_3, hfz27_4, hfz27_5⟩ := fz6 BK101.out) | ((with_reducible refine gate_callee (f := 20) rfl ?_); refine goesL_ (some 25) rfl rfl Tryd.func20 zk rfl #[.int .i64 a0_0, .int .i64 1, .int .i64 31] rfl zm ?_; (with_reducible refine (impl_in.calls a0_0 1 31 true _ A4.out).mono ?_); rintro e w' ⟨rfl, ⟨nd, rfl⟩⟩; refine ⟨_, rfl, ?_⟩))
  go_ret
  exact ⟨ze, bs HB.out GE101.out⟩
 rw [if_pos c8] at H; have c8b0 : decide ((a0_3.size : Int) ≤ 40) = true := decide_eq_true c8; have c8b1 : decide (a0_3.size ≤ 40) = true := decide_eq_true (by omega); clear c8
 by_cases c9 : (a0_4.size : Int) ≤ 40
 ·
  rw [if_pos c9] at H; have c9b0 : decide ((a0_4.size : Int) ≤ 40) = true := decide_eq_true c9; have c9b1 : decide (a0_4.size ≤ 40) = true := decide_eq_true (by omega); clear c9; obtain rfl := Option.some.inj H
  go_enter Tryd.func9, Tryd.ntmps9
  go_wp2_with (first | ((with_reducible refine gate_dst (N := 1) rfl ?_); (try (refine gate_guard (by rfl) ?_; dsimp only)); refine box_event ?hg (N := 1) ?hd (cs := #[.int .i64 a0_0, .int .i64 a0_1, .int .i64 a0_2, .string a0_3, .string a0_4, .string a0_5]) (t := 23) ?hr ?_; (case hd => rfl); (case hg => rfl); (case hr => first | (go_simp; done) | (go_simp; rfl)); intro gb101 hg w10 hbox hb; have BK101 := Aside0.mk (hbox); have GW101 := Aside0.mk ((by rw [hg]; exact (below_size (bz HB.out)) : w.heap.size ≤ gb101)); have GE101 := GW101; replace HB := Aside0.mk (below_step (bz HB.out) hb); clear hb hbox hg; obtain ⟨hcz11_0, hcz11_1, hcz11_2, hcz11_3, hcz11_4, hcz11_5⟩ := cz6 BK101.out; obtain ⟨hfz11_0, hfz11_1, hfz11_2, hfz11_3, hfz11_4, hfz11_5⟩ := fz6 BK101.out) | ((with_reducible refine gate_callee (f := 19) rfl ?_); refine goesL_ (some 12) rfl rfl Tryd.func19 zk rfl #[.string a0_3] rfl zm ?_; (with_reducible refine (impl_PathSteps.calls k a0_3 t102 t103 true _ A2.out).mono ?_); rintro e w12 ⟨v105, rfl, ho0, hb⟩; refine ⟨_, rfl, ?_⟩; have HO106 := Aside0.mk (Kd.R_lower ho0 (below_size (bs HB.out GE101.out))); replace BK101 := Aside0.mk (blk_below (kz BK101.out) hb); replace HB := Aside0.mk (below_step (bs HB.out GE101.out) hb); (try clear hb); (try clear ho0); obtain ⟨hcz13_0, hcz13_1, hcz13_2, hcz13_3, hcz13_4, hcz13_5⟩ := cz6 BK101.out; obtain ⟨hfz13_0, hfz13_1, hfz13_2, hfz13_3, hfz13_4, hfz13_5⟩ := fz6 BK101.out) | ((with_reducible refine gate_callee (f := 19) rfl ?_); refine goesL_ (some 19) rfl rfl Tryd.func19 zk rfl #[.string a0_4] rfl zm ?_; (with_reducible refine (impl_PathSteps.calls k a0_4 t107 t108 true _ A3.out).mono ?_); rintro e w14 ⟨v110, rfl, ho0, hb⟩; refine ⟨_, rfl, ?_⟩; have HO111 := Aside0.mk (Kd.R_lower (Kd.R_new' ho0 (Kd.R_lt (rz HO106.out))) (below_size (bs HB.out GE101.out))); replace HO106 := Aside0.mk (Kd.R_elder' (rz HO106.out) (Kd.R_base ho0) hb); replace BK101 := Aside0.mk (blk_below (kz BK101.out) hb); replace HB := Aside0.mk (below_step (bs HB.out GE101.out) hb); (try clear hb); (try clear ho0); obtain ⟨hcz15_0, hcz15_1, hcz15_2, hcz15_3, hcz15_4, hcz15_5⟩ := cz6 BK101.out; obtain ⟨hfz15_0, hfz15_1, hfz15_2, hfz15_3, hfz15_4, hfz15_5⟩ := fz6 BK101.out) | ((with_reducible refine gate_callee (f := 20) rfl ?_); refine goesL_ (some 25) rfl rfl Tryd.func20 zk rfl #[.int .i64 a0_0, .int .i64 1, .int .i64 31] rfl zm ?_; (with_reducible refine (impl_in.calls a0_0 1 31 true _ A4.out).mono ?_); rintro e w' ⟨rfl, ⟨nd, rfl⟩⟩; refine ⟨_, rfl, ?_⟩))
  go_ret
  exact ⟨ze, bs HB.out GE101.out⟩
 rw [if_neg c9] at H; have c9b0 : decide ((a0_4.size : Int) ≤ 40) = false := decide_eq_false c9; have c9b1 : decide (a0_4.size ≤ 40) = false := decide_eq_false (by omega); clear c9; obtain rfl := Option.some.inj H
 go_enter Tryd.func9, Tryd.ntmps9
 go_wp2_with (first | ((with_reducible refine gate_dst (N := 1) rfl ?_); (try (refine gate_guard (by rfl) ?_; dsimp only)); refine box_event ?hg (N := 1) ?hd (cs := #[.int .i64 a0_0, .int .i64 a0_1, .int .i64 a0_2, .string a0_3, .string a0_4, .string a0_5]) (t := 23) ?hr ?_; (case hd => rfl); (case hg => rfl); (case hr => first | (go_simp; done) | (go_simp; rfl)); intro gb101 hg w16 hbox hb; have BK101 := Aside0.mk (hbox); have GW101 := Aside0.mk ((by rw [hg]; exact (below_size (bz HB.out)) : w.heap.size ≤ gb101)); have GE101 := GW101; replace HB := Aside0.mk (below_step (bz HB.out) hb); clear hb hbox hg; obtain ⟨hcz17_0, hcz17_1, hcz17_2, hcz17_3, hcz17_4, hcz17_5⟩ := cz6 BK101.out; obtain ⟨hfz17_0, hfz17_1, hfz17_2, hfz17_3, hfz17_4, hfz17_5⟩ := fz6 BK101.out) | ((with_reducible refine gate_callee (f := 19) rfl ?_); refine goesL_ (some 12) rfl rfl Tryd.func19 zk rfl #[.string a0_3] rfl zm ?_; (with_reducible refine (impl_PathSteps.calls k a0_3 t102 t103 true _ A2.out).mono ?_); rintro e w18 ⟨v105, rfl, ho0, hb⟩; refine ⟨_, rfl, ?_⟩; have HO106 := Aside0.mk (Kd.R_lower ho0 (below_size (bs HB.out GE101.out))); replace BK101 := Aside0.mk (blk_below (kz BK101.out) hb); replace HB := Aside0.mk (below_step (bs HB.out GE101.out) hb); (try clear hb); (try clear ho0); obtain ⟨hcz19_0, hcz19_1, hcz19_2, hcz19_3, hcz19_4, hcz19_5⟩ := cz6 BK101.out; obtain ⟨hfz19_0, hfz19_1, hfz19_2, hfz19_3, hfz19_4, hfz19_5⟩ := fz6 BK101.out) | ((with_reducible refine gate_callee (f := 19) rfl ?_); refine goesL_ (some 19) rfl rfl Tryd.func19 zk rfl #[.string a0_4] rfl zm ?_; (with_reducible refine (impl_PathSteps.calls k a0_4 t107 t108 true _ A3.out).mono ?_); rintro e w20 ⟨v110, rfl, ho0, hb⟩; refine ⟨_, rfl, ?_⟩; have HO111 := Aside0.mk (Kd.R_lower (Kd.R_new' ho0 (Kd.R_lt (rz HO106.out))) (below_size (bs HB.out GE101.out))); replace HO106 := Aside0.mk (Kd.R_elder' (rz HO106.out) (Kd.R_base ho0) hb); replace BK101 := Aside0.mk (blk_below (kz BK101.out) hb); replace HB := Aside0.mk (below_step (bs HB.out GE101.out) hb); (try clear hb); (try clear ho0); obtain ⟨hcz21_0, hcz21_1, hcz21_2, hcz21_3, hcz21_4, hcz21_5⟩ := cz6 BK101.out; obtain ⟨hfz21_0, hfz21_1, hfz21_2, hfz21_3, hfz21_4, hfz21_5⟩ := fz6 BK101.out) | ((with_reducible refine gate_callee (f := 20) rfl ?_); refine goesL_ (some 25) rfl rfl Tryd.func20 zk rfl #[.int .i64 a0_0, .int .i64 1, .int .i64 31] rfl zm ?_; (with_reducible refine (impl_in.calls a0_0 1 31 true _ A4.out).mono ?_); rintro e w' ⟨rfl, ⟨nd, rfl⟩⟩; refine ⟨_, rfl, ?_⟩))
 go_ret
 exact ⟨ze, bs HB.out GE101.out⟩

end Go.Proofs.YtkjjlkkfhbfbmaaDoor.P

namespace Go.Proofs.YtkjjlkkfhbfbmaaDoor.P
open Go.RowKit Go.Proofs.YtkjjlkkfhbfbmaaDoorW.PrintWords Go.Proofs.YtkjjlkkfhbfbmaaDoorW.PrintLast Go.Proofs.YtkjjlkkfhbfbmaaDoorW.PrintMore
attribute [local go_sem] max2_int min2_int max_two min_two max_three min_three max_four min_four Q.cell_set_map Q.str_gtr Q.str_geq Q.str_leq
set_option linter.unusedVariables false
set_option linter.unusedSimpArgs false

/-! ### impl_number: function 15 -/
-- IMPORT Derived.Test.YtkjjlkkfhbfbmaaDoorQWords
def impl_number.f (a0 : ByteArray) : Int × Bool :=
  match Lib.atoiAll a0.data.toList with
  | .ok v => (v, if v ≥ 0 then (if v ≤ 99999 then (Lib.itoa v == a0.toList) else false) else false)
  | .range => (Lib.atoiSat a0.data.toList, false)
  | _ => (0, false)
set_option maxHeartbeats 4000000 in
set_option maxRecDepth 100000 in
/-- A text read as a number. -/
theorem impl_number.calls (a0 : ByteArray) (w : World) (hT : Q.Tabs w) (hs : a0.size ≤ 1048576) :
    Calls Tryd.prog 15 #[.string a0] w fun e w' => e = .returned (.tuple #[.int .i64 (impl_number.f a0).1, .bool (impl_number.f a0).2]) ∧ Below w.heap.size w w' := by
  have HB := Aside0.mk (Below.refl w.heap.size w)
  have HT := Aside0.mk hT
  clear hT
  obtain ⟨o, ho⟩ : ∃ o, o = Lib.atoiAll a0.data.toList := ⟨_, rfl⟩
  cases o with
  | ok v =>
    obtain ⟨b0, b1⟩ := Lib.atoiAll_bounds ho.symm
    have e0 : impl_number.f a0 = (v, if v ≥ 0 then (if v ≤ 99999 then (Lib.itoa v == a0.toList) else false) else false) := by
      unfold impl_number.f
      rw [← ho]
    rw [e0]
    have HO := Aside0.mk ho
    clear ho e0
    by_cases h0 : v ≥ 0
    · by_cases h1 : v ≤ 99999
      ·
        have hin : impl_in.f v 0 99999 = some true := by
          unfold impl_in.f
          rw [if_pos h0, decide_eq_true h1]
        rw [if_pos h0, if_pos h1]
        go_enter Tryd.func15, Tryd.ntmps15
        go_wp2_with (first | (go_at_call 25; refine (Tryd.strconv_Atoi_ok a0 (by omega) v HO.out.symm _).mono ?_; rintro e w1 ⟨rfl, hW⟩; have hb1 : Below w.heap.size w w1 := (by rcases hW with rfl | ⟨t, rfl⟩; exact Below.refl _ _; exact Lib.bytesWorld_below _ _ _); replace HB := Aside0.mk hb1; replace HT := Aside0.mk (HT.out.below hb1); clear hb1 hW) | (go_at_call 20; refine (impl_in.calls v 0 99999 true _ hin).mono ?_; rintro e w2 ⟨rfl, ⟨nd, rfl⟩⟩) | (go_at_call 26; refine (Tryd.strconv_Itoa v b0 b1 _ ?tab).mono ?_; (case tab => exact HT.out.pw); rintro e w3 ⟨rfl, kx, os, rfl⟩))
        go_ret2
        exact ⟨rfl, Q.below_grow_ (pw_below_drewN HB.out _) _⟩
      ·
        have hin : impl_in.f v 0 99999 = some false := by
          unfold impl_in.f
          rw [if_pos h0, decide_eq_false h1]
        rw [if_pos h0, if_neg h1]
        go_enter Tryd.func15, Tryd.ntmps15
        go_wp2_with (first | (go_at_call 25; refine (Tryd.strconv_Atoi_ok a0 (by omega) v HO.out.symm _).mono ?_; rintro e w1 ⟨rfl, hW⟩; have hb1 : Below w.heap.size w w1 := (by rcases hW with rfl | ⟨t, rfl⟩; exact Below.refl _ _; exact Lib.bytesWorld_below _ _ _); replace HB := Aside0.mk hb1; replace HT := Aside0.mk (HT.out.below hb1); clear hb1 hW) | (go_at_call 20; refine (impl_in.calls v 0 99999 false _ hin).mono ?_; rintro e w2 ⟨rfl, ⟨nd, rfl⟩⟩))
        go_ret2
        exact ⟨rfl, pw_below_drewN HB.out _⟩
    ·
      have hin : impl_in.f v 0 99999 = some false := by
        unfold impl_in.f
        rw [if_neg h0]
      rw [if_neg h0]
      go_enter Tryd.func15, Tryd.ntmps15
      go_wp2_with (first | (go_at_call 25; refine (Tryd.strconv_Atoi_ok a0 (by omega) v HO.out.symm _).mono ?_; rintro e w1 ⟨rfl, hW⟩; have hb1 : Below w.heap.size w w1 := (by rcases hW with rfl | ⟨t, rfl⟩; exact Below.refl _ _; exact Lib.bytesWorld_below _ _ _); replace HB := Aside0.mk hb1; replace HT := Aside0.mk (HT.out.below hb1); clear hb1 hW) | (go_at_call 20; refine (impl_in.calls v 0 99999 false _ hin).mono ?_; rintro e w2 ⟨rfl, ⟨nd, rfl⟩⟩))
      go_ret2
      exact ⟨rfl, pw_below_drewN HB.out _⟩
  | range =>
    obtain ⟨t0, p0, hv⟩ := HT.out.er
    have e0 : impl_number.f a0 = (Lib.atoiSat a0.data.toList, false) := by
      unfold impl_number.f
      rw [← ho]
    rw [e0]
    have HO := Aside0.mk ho
    clear ho e0
    obtain ⟨b0, b1⟩ := Lib.atoiSat_bounds a0.data.toList
    generalize hsat : Lib.atoiSat a0.data.toList = sat at b0 b1 ⊢
    have HS := Aside0.mk hsat
    clear hsat
    go_enter Tryd.func15, Tryd.ntmps15
    go_wp2_with (go_at_call 25; refine (Tryd.strconv_Atoi_range a0 (by omega) HO.out.symm (.iface t0 p0) _ hv (.inr ⟨_, _, rfl⟩)).mono ?_; rintro e w1 ⟨N, rfl, hN, hc, hb1⟩; try rw [HS.out]; replace HB := Aside0.mk hb1; clear hb1 hc hN)
    go_ret2
    exact ⟨rfl, HB.out⟩
  | _ =>
    obtain ⟨t0, p0, hv⟩ := HT.out.es
    have e0 : impl_number.f a0 = (0, false) := by
      unfold impl_number.f
      rw [← ho]
    rw [e0]
    have HO := Aside0.mk ho
    clear ho e0
    go_enter Tryd.func15, Tryd.ntmps15
    go_wp2_with (go_at_call 25; refine (Tryd.strconv_Atoi_syntax a0 (by omega) (fun v hv => by rw [← HO.out] at hv; cases hv) (fun hv => by rw [← HO.out] at hv; cases hv) (.iface t0 p0) _ hv (.inr ⟨_, _, rfl⟩)).mono ?_; rintro e w1 ⟨N, rfl, hN, hc, hb1⟩; replace HB := Aside0.mk hb1; clear hb1 hc hN)
    go_ret2
    exact ⟨rfl, HB.out⟩


end Go.Proofs.YtkjjlkkfhbfbmaaDoor.P
