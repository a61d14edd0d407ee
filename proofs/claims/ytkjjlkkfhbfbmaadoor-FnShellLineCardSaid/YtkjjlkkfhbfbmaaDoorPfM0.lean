-- printed by wip/qd.py, laid together by wip/mergepf.py
import Derived.Test.YtkjjlkkfhbfbmaaDoorPf0
namespace Go.Proofs.YtkjjlkkfhbfbmaaDoor.P
open Go.RowKit Go.Proofs.YtkjjlkkfhbfbmaaDoorW.PrintWords Go.Proofs.YtkjjlkkfhbfbmaaDoorW.PrintLast Go.Proofs.YtkjjlkkfhbfbmaaDoorW.PrintMore
attribute [local go_sem] max2_int min2_int max_two min_two max_three min_three max_four min_four Q.cell_set_map Q.str_gtr Q.str_geq Q.str_leq
set_option linter.unusedVariables false
set_option linter.unusedSimpArgs false

/-! ### spec_l18Cut: function 10 -/
def spec_l18Cut.l0 : Nat → ByteArray → Int → List ByteArray → Int → Int → Option (List ByteArray)
 | 0, _, _, _, _, _ => none
 | k + 1, x0, x1, x5, x6, x7 => if x7 < (x0.size : Int) then (if 0 ≤ x7 then (if (bt x0 x7) = x1 then (if 0 ≤ x6 then (if x6 ≤ x7 then (if x7 ≤ (x0.size : Int) then (if x5.length < 8796093022208 then (spec_l18Cut.l0 k x0 x1 (x5 ++ [x0.extract (x6 : Int).toNat (x7 : Int).toNat]) (wrap64 (x7 + 1)) (wrap64 (x7 + 1))) else (none)) else (none)) else (none)) else (none)) else (spec_l18Cut.l0 k x0 x1 x5 x6 (wrap64 (x7 + 1)))) else (none)) else (if 0 ≤ x6 then (if x6 ≤ (x0.size : Int) then (if x5.length < 8796093022208 then (some (x5 ++ [x0.extract (x6 : Int).toNat x0.size])) else (none)) else (none)) else (none))
def spec_l18Cut.f (k : Nat) (a0 : ByteArray) (a1 : Int) : Option (List ByteArray) := spec_l18Cut.l0 k a0 a1 (([] : List ByteArray)) 0 0
theorem spec_l18Cut.mono_l : ∀ k, (∀ y0 y1 y2 y3 y4, LeO (spec_l18Cut.l0 k y0 y1 y2 y3 y4) (spec_l18Cut.l0 (k + 1) y0 y1 y2 y3 y4))
 | 0 => fun _ _ _ _ _ r h => by simp [spec_l18Cut.l0] at h
 | k + 1 => by
  have ih0 := spec_l18Cut.mono_l k
  ·
   intro y0 y1 y2 y3 y4
   unfold spec_l18Cut.l0
   repeat' first
   | (with_reducible exact ih0 _ _ _ _ _)
   | (with_reducible exact LeO.refl _)
   | (with_reducible exact LeO.none _)
   | (with_reducible refine LeO.ite ?_ ?_)
   | (with_reducible refine LeO.bind ?_ (fun _ => ?_))
   | exact ih0 _ _ _ _ _
   | exact LeO.none _
   | refine LeO.ite ?_ ?_
   | refine LeO.bind ?_ (fun _ => ?_)
theorem spec_l18Cut.mono : ∀ a0 a1 k, LeO (spec_l18Cut.f k a0 a1) (spec_l18Cut.f (k + 1) a0 a1) := by
 intro a0 a1 k
 have ih0 := spec_l18Cut.mono_l k
 unfold spec_l18Cut.f
 repeat' first
   | (with_reducible exact ih0 _ _ _ _ _)
   | (with_reducible exact LeO.refl _)
   | (with_reducible exact LeO.none _)
   | (with_reducible refine LeO.ite ?_ ?_)
   | (with_reducible refine LeO.bind ?_ (fun _ => ?_))
   | exact ih0 _ _ _ _ _
   | exact LeO.none _
   | refine LeO.ite ?_ ?_
   | refine LeO.bind ?_ (fun _ => ?_)
set_option maxHeartbeats 8000000 in
set_option maxRecDepth 100000 in
theorem spec_l18Cut.calls (k : Nat) (a0 : ByteArray) (a1 : Int) (r : List ByteArray) (w : World) (h : spec_l18Cut.f k a0 a1 = some r) :
  Calls Tryd.prog 10 #[.string a0, .int .u8 a1] w fun e w' => ∃ v0_ : Value, e = .returned (v0_) ∧ Kd.R Kd.string 9 w' w.heap.size (fun _ => True) v0_ r ∧ Below w.heap.size w w' := by
 have HB := Aside0.mk (Below.refl w.heap.size w)
 have H : (spec_l18Cut.l0 k a0 a1 (([] : List ByteArray)) 0 0) = some r := h
 clear h
 obtain ⟨y101, hy101⟩ : ∃ y_ : List ByteArray, y_ = (([] : List ByteArray)) := ⟨_, rfl⟩
 replace H : (spec_l18Cut.l0 k a0 a1 y101 0 0) = some r := by first | (rw [hy101]; with_reducible exact H) | (have H2_ := (Option.bind_some _ _).symm.trans H; rw [hy101]; with_reducible exact H2_) | (have H2_ := (Option.bind_some _ _).symm.trans H; with_reducible exact H2_) | with_reducible exact H | (rw [hy101]; exact H) | exact H
 have Ny101 := Aside0.mk hy101
 clear hy101
 have H' := Aside0.mk H
 clear H
 go_enter Tryd.func10, Tryd.ntmps10
 go_wp2_with (first | ((with_reducible refine gate_dst (N := 8) rfl ?_); refine Kd.R_lit Kd.string _ 9 ?hg (N := 8) ?hd (xs := ([] : List ByteArray)) (inner := []) (ok := fun _ => True) (okp := fun _ => True) ?hr ?hp (fun _ hk => hk) trivial (Below.refl _ _) (Nat.le_refl _) (by simp) ?_; (case hd => rfl); (case hg => rfl); (case hr => first | (go_simp; done) | (go_simp; rfl)); (case hp => exact (Reps.none _ _)); intro v102 w3 ho4 hb hg_ hnew_; clear hg_ hnew_; (first | rw [← Ny101.out] at ho4 | (simp only [Int.reduceToNat] at ho4; rw [← Ny101.out] at ho4)); have HO103 := Aside0.mk (Kd.R_lower ho4 (below_size (bz HB.out))); replace HB := Aside0.mk (below_step (bz HB.out) hb); clear hb ho4))
 go_loopg [5, 6, 7] k (fun kq v5 v6 v7 w' => ∃ (x5_1 : List ByteArray) (x6_1 : Int) (x7_1 : Int), v6 = .int .i64 x6_1 ∧ v7 = .int .i64 x7_1 ∧ Aside0 (spec_l18Cut.l0 kq a0 a1 x5_1 x6_1 x7_1 = some r) ∧ Aside0 (kq ≤ k) ∧ Aside0 (Kd.R Kd.string 9 w' w.heap.size (fun _ => True) v5 x5_1) ∧ Aside0 (Below w.heap.size w w'))
 case atStart => exact ⟨(y101), (0), (0), zr, zr, H', ⟨Nat.le_refl _⟩, ⟨by (with_reducible repeat (first | apply Kd.R_alloc | apply Kd.R_drewN | apply Kd.R_drew)); exact HO103.out⟩, ⟨bz HB.out⟩⟩
 case round =>
  clear H'
  try clear c1
  try clear p2
  obtain ⟨x5_1, x6_1, x7_1, rfl, rfl, HA, HK1, HO_5, HB⟩ := hrel
  cases gk with
  | zero => exact absurd HA.out (by simp [spec_l18Cut.l0])
  | succ k1 =>
   have H := HA.out
   clear HA
   simp only [spec_l18Cut.l0] at H
   by_cases c5 : x7_1 < (a0.size : Int)
   ·
    rw [if_pos c5] at H
    have c5b0 : decide (x7_1 < (a0.size : Int)) = true := decide_eq_true c5
    clear c5
    by_cases c6 : 0 ≤ x7_1
    ·
     rw [if_pos c6] at H
     have c6b0 : decide (0 ≤ x7_1) = true := decide_eq_true c6
     clear c6
     by_cases c8 : (bt a0 x7_1) = a1
     ·
      rw [if_pos c8] at H
      have c8b0 : ((bt a0 x7_1) == a1) = true := beq_iff_eq.mpr c8
      have c8b1 : ((bt a0 x7_1) != a1) = false := bne_eq_false_iff_eq.mpr c8
      clear c8
      by_cases c9 : 0 ≤ x6_1
      ·
       rw [if_pos c9] at H
       have c9b0 := eq_true c9
       have c9b1 : decide (0 ≤ x6_1) = true := decide_eq_true c9
       clear c9
       by_cases c10 : x6_1 ≤ x7_1
       ·
        rw [if_pos c10] at H
        have c10b0 := eq_true c10
        have c10b1 : decide (x6_1 ≤ x7_1) = true := decide_eq_true c10
        clear c10
        by_cases c11 : x7_1 ≤ (a0.size : Int)
        ·
         rw [if_pos c11] at H
         have c11b0 := eq_true c11
         have c11b1 : decide (x7_1 ≤ (a0.size : Int)) = true := decide_eq_true c11
         clear c11
         by_cases c12 : x5_1.length < 8796093022208
         ·
          rw [if_pos c12] at H
          have LMc12 := Aside0.mk c12
          clear c12
          obtain ⟨y104, hy104⟩ : ∃ y_ : List ByteArray, y_ = (x5_1 ++ [a0.extract (x6_1 : Int).toNat (x7_1 : Int).toNat]) := ⟨_, rfl⟩
          replace H : (spec_l18Cut.l0 k1 a0 a1 y104 (wrap64 (x7_1 + 1)) (wrap64 (x7_1 + 1))) = some r := by first | (rw [hy104]; with_reducible exact H) | (have H2_ := (Option.bind_some _ _).symm.trans H; rw [hy104]; with_reducible exact H2_) | (have H2_ := (Option.bind_some _ _).symm.trans H; with_reducible exact H2_) | with_reducible exact H | (rw [hy104]; exact H) | exact H
          have Ny104 := Aside0.mk hy104
          clear hy104
          have H' := Aside0.mk H
          clear H
          have p7 : 0 ≤ (x7_1 : Int) := of_decide_eq_true zs
          have q7 : x7_1 < (a0.size : Int) := of_decide_eq_true zs
          have hx7 := bt_at a0 x7_1
          replace p7 := eq_true p7
          replace q7 := eq_true q7
          go_wp2_with (first | ((with_reducible refine gate_builtin (b := .append) (xs := #[.tmp 20, .tmp 25]) rfl ?_); at_builtin; refine Kd.R_append Kd.string (w0 := w) w.heap.size rfl (.tmp 20) (.tmp 25) 32 9 (.string ⟨#[]⟩) 16 rfl Tryd.underlying32 info9 rfl (by decide) (by omega) u5 x5_1 (a0.extract (x6_1 : Int).toNat (x7_1 : Int).toNat) [.string (a0.extract (x6_1 : Int).toNat (x7_1 : Int).toNat)] (fun _ => True) (fun _ => False) rfl rfl ?aP (fun _ hk => hk.elim) ?aF ?aO ?aB ?aS ?aL ?_; (case aP => exact rfl); (case aB => exact (bz HB.out)); (case aF => exact (fun _ _ => trivial)); (case aO => exact (rz HO_5.out)); (case aS => exact (below_size (bz HB.out))); (case aL => have := LMc12.out; omega); intro v105 w13 ho hb hg hat; rw [← Ny104.out] at ho; have n0_ := Aside0.mk (hb); have n1_ := Aside0.mk (ho); clear HB; clear HO_5; have HB := n0_; have HO106 := n1_; clear n0_ n1_; clear ho hb hg hat))
          go_roundg k1
          case measure => have := HK1.out; omega
          case rel => exact ⟨(y104), (wrap64 (x7_1 + 1)), (wrap64 (x7_1 + 1)), zr, zr, H', ⟨by have := HK1.out; omega⟩, ⟨by (with_reducible repeat (first | apply Kd.R_alloc | apply Kd.R_drewN | apply Kd.R_drew)); exact HO106.out⟩, ⟨bz HB.out⟩⟩
         ·
          rw [if_neg c12] at H
          exact absurd H (by simp)
        ·
         rw [if_neg c11] at H
         exact absurd H (by simp)
       ·
        rw [if_neg c10] at H
        exact absurd H (by simp)
      ·
       rw [if_neg c9] at H
       exact absurd H (by simp)
     ·
      rw [if_neg c8] at H
      have c8b0 : ((bt a0 x7_1) == a1) = false := beq_eq_false_iff_ne.mpr c8
      have c8b1 : ((bt a0 x7_1) != a1) = true := bne_iff_ne.mpr c8
      have H' := Aside0.mk H
      clear H
      have p7 : 0 ≤ (x7_1 : Int) := of_decide_eq_true zs
      have q7 : x7_1 < (a0.size : Int) := of_decide_eq_true zs
      have hx7 := bt_at a0 x7_1
      replace p7 := eq_true p7
      replace q7 := eq_true q7
      go_wp2
      go_roundg k1
      case measure => have := HK1.out; omega
      case rel => exact ⟨(x5_1), (x6_1), (wrap64 (x7_1 + 1)), zr, zr, H', ⟨by have := HK1.out; omega⟩, ⟨by (with_reducible repeat (first | apply Kd.R_alloc | apply Kd.R_drewN | apply Kd.R_drew)); exact HO_5.out⟩, ⟨bz HB.out⟩⟩
    ·
     rw [if_neg c6] at H
     exact absurd H (by simp)
   ·
    rw [if_neg c5] at H
    have c5b0 : decide (x7_1 < (a0.size : Int)) = false := decide_eq_false c5
    clear c5
    by_cases c14 : 0 ≤ x6_1
    ·
     rw [if_pos c14] at H
     have c14b0 := eq_true c14
     have c14b1 : decide (0 ≤ x6_1) = true := decide_eq_true c14
     clear c14
     by_cases c15 : x6_1 ≤ (a0.size : Int)
     ·
      rw [if_pos c15] at H
      have c15b0 := eq_true c15
      have c15b1 : decide (x6_1 ≤ (a0.size : Int)) = true := decide_eq_true c15
      clear c15
      by_cases c16 : x5_1.length < 8796093022208
      ·
       rw [if_pos c16] at H
       have LMc16 := Aside0.mk c16
       clear c16
       obtain ⟨y107, hy107⟩ : ∃ y_ : List ByteArray, y_ = (x5_1 ++ [a0.extract (x6_1 : Int).toNat a0.size]) := ⟨_, rfl⟩
       replace H : (some y107) = some r := by first | (rw [hy107]; with_reducible exact H) | (have H2_ := (Option.bind_some _ _).symm.trans H; rw [hy107]; with_reducible exact H2_) | (have H2_ := (Option.bind_some _ _).symm.trans H; with_reducible exact H2_) | with_reducible exact H | (rw [hy107]; exact H) | exact H
       have Ny107 := Aside0.mk hy107
       clear hy107
       obtain rfl := Option.some.inj H
       go_wp2_with (first | ((with_reducible refine gate_builtin (b := .append) (xs := #[.tmp 29, .tmp 33]) rfl ?_); at_builtin; refine Kd.R_append Kd.string (w0 := w) w.heap.size rfl (.tmp 29) (.tmp 33) 32 9 (.string ⟨#[]⟩) 16 rfl Tryd.underlying32 info9 rfl (by decide) (by omega) u5 x5_1 (a0.extract (x6_1 : Int).toNat a0.size) [.string (a0.extract (x6_1 : Int).toNat a0.size)] (fun _ => True) (fun _ => False) rfl rfl ?aP (fun _ hk => hk.elim) ?aF ?aO ?aB ?aS ?aL ?_; (case aP => exact rfl); (case aB => exact (bz HB.out)); (case aF => exact (fun _ _ => trivial)); (case aO => exact (rz HO_5.out)); (case aS => exact (below_size (bz HB.out))); (case aL => have := LMc16.out; omega); intro v108 w17 ho hb hg hat; rw [← Ny107.out] at ho; have n0_ := Aside0.mk (hb); have n1_ := Aside0.mk (ho); clear HB; clear HO_5; have HB := n0_; have HO109 := n1_; clear n0_ n1_; clear ho hb hg hat))
       go_ret
       exact ⟨_, ze, by (with_reducible repeat (first | apply Kd.R_alloc | apply Kd.R_drewN | apply Kd.R_drew)); exact HO109.out, bz HB.out⟩
      ·
       rw [if_neg c16] at H
       exact absurd H (by simp)
     ·
      rw [if_neg c15] at H
      exact absurd H (by simp)
    ·
     rw [if_neg c14] at H
     exact absurd H (by simp)

end Go.Proofs.YtkjjlkkfhbfbmaaDoor.P

namespace Go.Proofs.YtkjjlkkfhbfbmaaDoor.P
open Go.RowKit Go.Proofs.YtkjjlkkfhbfbmaaDoorW.PrintWords Go.Proofs.YtkjjlkkfhbfbmaaDoorW.PrintLast Go.Proofs.YtkjjlkkfhbfbmaaDoorW.PrintMore
attribute [local go_sem] max2_int min2_int max_two min_two max_three min_three max_four min_four Q.cell_set_map Q.str_gtr Q.str_geq Q.str_leq
set_option linter.unusedVariables false
set_option linter.unusedSimpArgs false

/-! ### spec_l6Dec: function 21 -/
def spec_l6Dec.f : Nat → Int → Option (ByteArray)
 | 0, _ => none
 | k + 1, a0 => if a0 < (-9223372036854775807) then (some (⟨#[45, 57, 50, 50, 51, 51, 55, 50, 48, 51, 54, 56, 53, 52, 55, 55, 53, 56, 48, 56]⟩ : ByteArray)) else (if a0 < 0 then ((spec_l6Dec.f k (wrap64 (-a0))).bind fun t101 => (if 1 + t101.size ≤ 9223372036854775807 then (some ((⟨#[45]⟩ : ByteArray) ++ t101)) else (none))) else (if a0 < 10 then (some (strOfNums (([(wrap64 (48 + a0)) % 256] : List Int)))) else ((spec_l6Dec.f k (wrap64 (Int.tdiv a0 10))).bind fun t105 => ((some (([(wrap64 (48 + (Int.tmod a0 10))) % 256] : List Int) : List Int)).bind fun y106 => (if t105.size + (strOfNums y106).size ≤ 9223372036854775807 then (some (t105 ++ (strOfNums y106))) else (none))))))
theorem spec_l6Dec.mono_l : ∀ k, (∀ y0, LeO (spec_l6Dec.f k y0) (spec_l6Dec.f (k + 1) y0))
 | 0 => fun _ r h => by simp [spec_l6Dec.f] at h
 | k + 1 => by
  have ih0 := spec_l6Dec.mono_l k
  ·
   intro y0
   unfold spec_l6Dec.f
   repeat' first
   | (with_reducible exact ih0 _)
   | (with_reducible exact LeO.refl _)
   | (with_reducible exact LeO.none _)
   | (with_reducible refine LeO.ite ?_ ?_)
   | (with_reducible refine LeO.bind ?_ (fun _ => ?_))
   | exact ih0 _
   | exact LeO.none _
   | refine LeO.ite ?_ ?_
   | refine LeO.bind ?_ (fun _ => ?_)
theorem spec_l6Dec.mono : ∀ a0 k, LeO (spec_l6Dec.f k a0) (spec_l6Dec.f (k + 1) a0) := by
 intro a0 k
 have ih0 := spec_l6Dec.mono_l k
 exact ih0 a0
def spec_l6Dec.T7 : Bool × List (List Nat × List Nat) := (true, [([], []), ([0], [0]), ([1], [1]), ([], []), ([3], [3]), ([4], [4]), ([5], [5]), ([6], [6]), ([7], [7]), ([2, 8], [2, 8]), ([9, 2, 0, 1, 2, 3, 4, 5, 6, 7, 8, 9], [9])])
def spec_l6Dec.B7 : List Nat := [0, 1, 3, 0, 8, 24, 56, 120, 248, 511, 1023]
theorem spec_l6Dec.tab7 : rtab .any (opsOf Tryd.f21 7) = spec_l6Dec.T7 := by kernel_rfl
theorem spec_l6Dec.bits7 : waitsOk spec_l6Dec.T7.2 spec_l6Dec.B7 = true := by kernel_rfl
set_option maxHeartbeats 8000000 in
set_option maxRecDepth 100000 in
theorem spec_l6Dec.calls (k : Nat) : ∀ (a0 : Int) (r : ByteArray) (w : World) (h : spec_l6Dec.f k a0 = some r),
  Calls Tryd.prog 21 #[.int .i64 a0] w fun e w' => e = .returned (.string r) ∧ Below w.heap.size w w' := by
 induction k using Nat.strongRecOn with
 | _ k ih =>
 intro a0 r w h
 cases k with
 | zero => exact absurd h (by simp [spec_l6Dec.f])
 | succ k =>
 simp only [spec_l6Dec.f] at h
 have HB := Aside0.mk (Below.refl w.heap.size w)
 have H : (if a0 < (-9223372036854775807) then (some (⟨#[45, 57, 50, 50, 51, 51, 55, 50, 48, 51, 54, 56, 53, 52, 55, 55, 53, 56, 48, 56]⟩ : ByteArray)) else (if a0 < 0 then ((spec_l6Dec.f k (wrap64 (-a0))).bind fun t101 => (if 1 + t101.size ≤ 9223372036854775807 then (some ((⟨#[45]⟩ : ByteArray) ++ t101)) else (none))) else (if a0 < 10 then (some (strOfNums (([(wrap64 (48 + a0)) % 256] : List Int)))) else ((spec_l6Dec.f k (wrap64 (Int.tdiv a0 10))).bind fun t105 => ((some (([(wrap64 (48 + (Int.tmod a0 10))) % 256] : List Int) : List Int)).bind fun y106 => (if t105.size + (strOfNums y106).size ≤ 9223372036854775807 then (some (t105 ++ (strOfNums y106))) else (none))))))) = some r := h
 clear h
 by_cases c2 : a0 < (-9223372036854775807)
 ·
  rw [if_pos c2] at H
  have c2b0 : decide (a0 < (-9223372036854775807)) = true := decide_eq_true c2
  clear c2
  obtain rfl := Option.some.inj H
  go_enter Tryd.func21, Tryd.ntmps21
  go_wp2
  go_ret
  exact ⟨ze, bz HB.out⟩
 ·
  rw [if_neg c2] at H
  have c2b0 : decide (a0 < (-9223372036854775807)) = false := decide_eq_false c2
  clear c2
  by_cases c3 : a0 < 0
  ·
   rw [if_pos c3] at H
   have c3b0 : decide (a0 < 0) = true := decide_eq_true c3
   clear c3
   replace H := Option.bind_eq_some_iff.mp H
   obtain ⟨t101, A40, H⟩ := H
   have A4 := Aside0.mk A40
   clear A40
   by_cases c5 : 1 + t101.size ≤ 9223372036854775807
   ·
    rw [if_pos c5] at H
    have c5b0 := eq_true c5
    have c5b1 : decide (1 + t101.size ≤ 9223372036854775807) = true := decide_eq_true c5
    try have c5b2 : (9223372036854775807 < 1 + t101.size) = False := eq_false (Nat.not_lt.2 c5)
    obtain rfl := Option.some.inj H
    go_enter Tryd.func21, Tryd.ntmps21
    go_wp2_with (first | ((with_reducible refine gate_callee (f := 21) rfl ?_); refine goesL_ (some 9) rfl rfl Tryd.func21 zk rfl #[.int .i64 (wrap64 (-a0))] rfl zm ?_; (with_reducible refine (ih k (by omega) (wrap64 (-a0)) t101 _ A4.out).mono ?_); rintro e w6 ⟨rfl, hb⟩; refine ⟨_, rfl, ?_⟩; replace HB := Aside0.mk (below_step (bz HB.out) hb); (try clear hb)))
    go_ret
    exact ⟨ze, bz HB.out⟩
   ·
    rw [if_neg c5] at H
    exact absurd H (by simp)
  ·
   rw [if_neg c3] at H
   have c3b0 : decide (a0 < 0) = false := decide_eq_false c3
   clear c3
   by_cases c7 : a0 < 10
   ·
    rw [if_pos c7] at H
    have c7b0 : decide (a0 < 10) = true := decide_eq_true c7
    clear c7
    obtain ⟨y102, hy102⟩ : ∃ y_ : List Int, y_ = (([(wrap64 (48 + a0)) % 256] : List Int)) := ⟨_, rfl⟩
    replace H : (some (strOfNums y102)) = some r := by first | (rw [hy102]; with_reducible exact H) | (have H2_ := (Option.bind_some _ _).symm.trans H; rw [hy102]; with_reducible exact H2_) | (have H2_ := (Option.bind_some _ _).symm.trans H; with_reducible exact H2_) | with_reducible exact H | (rw [hy102]; exact H) | exact H
    have Ny102 := Aside0.mk hy102
    clear hy102
    obtain rfl := Option.some.inj H
    go_enter Tryd.func21, Tryd.ntmps21
    go_wp2_with (first | ((with_reducible refine gate_dst (N := 16) rfl ?_); refine Kd.R_lit (Kd.int .u8) _ 5 ?hg (N := 16) ?hd (xs := ([(wrap64 (48 + a0)) % 256] : List Int)) (inner := [.int .u8 ((wrap64 (48 + a0)) % 256)]) (ok := fun _ => True) (okp := fun _ => True) ?hr ?hp (fun _ hk => hk) trivial (Below.refl _ _) (Nat.le_refl _) (by simp) ?_; (case hd => rfl); (case hg => rfl); (case hr => first | (go_simp; done) | (go_simp; rfl)); (case hp => exact (Reps.one (show Kd.M (Kd.int .u8) _ _ _ ((wrap64 (48 + a0)) % 256) [.int .u8 ((wrap64 (48 + a0)) % 256)] from rfl) (Reps.none _ _))); intro v103 w8 ho9 hb hg_ hnew_; clear hg_ hnew_; (first | rw [← Ny102.out] at ho9 | (simp only [Int.reduceToNat] at ho9; rw [← Ny102.out] at ho9)); have HO104 := Aside0.mk (Kd.R_lower ho9 (below_size (bz HB.out))); replace HB := Aside0.mk (below_step (bz HB.out) hb); clear hb ho9; have hcv10 := own_string (P := Tryd.prog) Tryd.underlying28 Tryd.underlying5 Tryd.underlying9 (Kd.own_of_R HO104.out)))
    go_ret
    exact ⟨ze, bz HB.out⟩
   ·
    rw [if_neg c7] at H
    have c7b0 : decide (a0 < 10) = false := decide_eq_false c7
    clear c7
    replace H := Option.bind_eq_some_iff.mp H
    obtain ⟨t105, A110, H⟩ := H
    have A11 := Aside0.mk A110
    clear A110
    obtain ⟨y106, hy106⟩ : ∃ y_ : List Int, y_ = (([(wrap64 (48 + (Int.tmod a0 10))) % 256] : List Int)) := ⟨_, rfl⟩
    replace H : (if t105.size + (strOfNums y106).size ≤ 9223372036854775807 then (some (t105 ++ (strOfNums y106))) else (none)) = some r := by first | (rw [hy106]; with_reducible exact H) | (have H2_ := (Option.bind_some _ _).symm.trans H; rw [hy106]; with_reducible exact H2_) | (have H2_ := (Option.bind_some _ _).symm.trans H; with_reducible exact H2_) | with_reducible exact H | (rw [hy106]; exact H) | exact H
    have Ny106 := Aside0.mk hy106
    clear hy106
    by_cases c12 : t105.size + (strOfNums y106).size ≤ 9223372036854775807
    ·
     rw [if_pos c12] at H
     have c12b0 := eq_true c12
     have c12b1 : decide (t105.size + (strOfNums y106).size ≤ 9223372036854775807) = true := decide_eq_true c12
     try have c12b2 : (9223372036854775807 < t105.size + (strOfNums y106).size) = False := eq_false (Nat.not_lt.2 c12)
     obtain rfl := Option.some.inj H
     go_enter Tryd.func21, Tryd.ntmps21
     try go_wp2
     replace HB := Aside0.mk (below_drew1 HB.out)
     refine start_ (n := 11) (S := fun w' => True) (ds := []) (lb 11 0) zk rfl rfl trivial (fun hHeld => ?_); refine with_tabW spec_l6Dec.tab7 spec_l6Dec.bits7 (fun HT_ HW_ => ?_)
     generalize w.drew = w13 at HB hHeld ⊢
     refine pz 0 (some 18) (lb 11 1) rfl rfl HT_.out ?_
     refine pz 1 (some 19) (lb 11 3) rfl rfl HT_.out ?_
     refine pz 3 (some 21) (lb 11 11) rfl rfl HT_.out ?_
     refine pz 4 (some 22) (lb 11 27) rfl rfl HT_.out ?_
     refine pz 5 (some 23) (lb 11 59) rfl rfl HT_.out ?_
     refine pz 6 (some 24) (lb 11 123) rfl rfl HT_.out ?_
     refine join_ (σ := Value) 2 (lb 11 511) (fun s_ => [(20, .string t105), (25, s_), (26, .string (strOfNums y106))]) (fun s_ w' => (Kd.R (Kd.int .u8) 5 w' w.heap.size (fun _ => True) s_ y106) ∧ (Below w.heap.size w w')) ?_ ?_
     rotate_left
     ·
      intro hCont
      refine two_ (i := 2) (j := 7) (Ni := some 20) (Nj := some 25) (lb 11 127) (lb 11 251) rfl rfl rfl rfl (two_of HT_.out zk) (by decide) (by decide) (fun K hK => ?_) (fun K hK => ?_)
      ·
       skip
       refine goes_ Tryd.func21 zk rfl #[.int .i64 (wrap64 (Int.tdiv a0 10))] (by rfl) rfl rfl zm ?_
       with_reducible refine (ih k (by omega) (wrap64 (Int.tdiv a0 10)) t105 _ A11.out).mono ?_
       rintro e w14 ⟨rfl, hb⟩
       refine ⟨_, rfl, ?_⟩
       replace HB := Aside0.mk (below_step (bz HB.out) hb)
       (try clear hb)
       refine hK.out _ _ trivial (fun hHeld => ?_)
       clear hK K
       refine norm_ (a' := ?_) ?_ ?_
       rotate_left
       ·
        show Act.put _ (some 20) _ = _
        simp only [Act.put, List.setIfInBounds_toArray, List.set_cons_zero, List.set_cons_succ, i64_w, i32_w]
        rfl
       refine one_ (i := 7) (N := some 25) (lb 11 255) rfl rfl (one_of HT_.out zk) (by decide) (fun K hK => ?_)
       refine Kd.R_lit_step (Kd.int .u8) _ 5 ?hg (N := 25) ?hd (xs := ([(wrap64 (48 + (Int.tmod a0 10))) % 256] : List Int)) (inner := [.int .u8 ((wrap64 (48 + (Int.tmod a0 10))) % 256)]) (ok := fun _ => True) (okp := fun _ => True) ?hr ?hp (fun _ hk => hk) trivial (Below.refl _ _) (Nat.le_refl _) (by simp) ?_; (case hd => rfl); (case hg => rfl); (case hr => first | (go_simp; done) | (go_simp; rfl)); (case hp => exact (Reps.one (show Kd.M (Kd.int .u8) _ _ _ ((wrap64 (48 + (Int.tmod a0 10))) % 256) [.int .u8 ((wrap64 (48 + (Int.tmod a0 10))) % 256)] from rfl) (Reps.none _ _)))
       intro v107 w15 ho16 hb hg_ hnew_
       clear hg_ hnew_
       (first | rw [← Ny106.out] at ho16 | (simp only [Int.reduceToNat] at ho16; rw [← Ny106.out] at ho16))
       have HO108 := Aside0.mk (Kd.R_lower ho16 (below_size (bz HB.out)))
       replace HB := Aside0.mk (below_step (bz HB.out) hb)
       clear hb ho16
       refine hK.out _ _ trivial (fun hHeld => ?_)
       clear hK K
       refine norm_ (a' := ?_) ?_ ?_
       rotate_left
       ·
        show Act.put _ (some 25) _ = _
        simp only [Act.put, List.setIfInBounds_toArray, List.set_cons_zero, List.set_cons_succ, i64_w, i32_w]
        rfl
       refine one_ (i := 8) (N := some 26) (lb 11 511) rfl rfl (one_of HT_.out zk) (by decide) (fun K hK => ?_)
       have hcv17 := own_string (P := Tryd.prog) Tryd.underlying28 Tryd.underlying5 Tryd.underlying9 (Kd.own_of_R HO108.out)
       refine value_ (w1 := ?_) (v := ?_) (by rfl) rfl ?_ ?_
       rotate_left 2
       ·
        go_simp
        constructor
        ·
         rfl
        ·
         rfl
       clear hcv17
       refine hK.out _ _ trivial (fun hHeld => ?_)
       clear hK K
       refine norm_ (a' := ?_) ?_ ?_
       rotate_left
       ·
        show Act.put _ (some 26) _ = _
        simp only [Act.put, List.setIfInBounds_toArray, List.set_cons_zero, List.set_cons_succ, i64_w, i32_w]
        rfl
       exact norm_ (by simp only [putAll, Act.put, List.setIfInBounds_toArray, List.set_cons_zero, List.set_cons_succ]) (hCont (v107) _ ⟨(rz HO108.out), (bz HB.out)⟩)
      ·
       skip
       refine Kd.R_lit_step (Kd.int .u8) _ 5 ?hg (N := 25) ?hd (xs := ([(wrap64 (48 + (Int.tmod a0 10))) % 256] : List Int)) (inner := [.int .u8 ((wrap64 (48 + (Int.tmod a0 10))) % 256)]) (ok := fun _ => True) (okp := fun _ => True) ?hr ?hp (fun _ hk => hk) trivial (Below.refl _ _) (Nat.le_refl _) (by simp) ?_; (case hd => rfl); (case hg => rfl); (case hr => first | (go_simp; done) | (go_simp; rfl)); (case hp => exact (Reps.one (show Kd.M (Kd.int .u8) _ _ _ ((wrap64 (48 + (Int.tmod a0 10))) % 256) [.int .u8 ((wrap64 (48 + (Int.tmod a0 10))) % 256)] from rfl) (Reps.none _ _)))
       intro v107 w14 ho15 hb hg_ hnew_
       clear hg_ hnew_
       (first | rw [← Ny106.out] at ho15 | (simp only [Int.reduceToNat] at ho15; rw [← Ny106.out] at ho15))
       have HO108 := Aside0.mk (Kd.R_lower ho15 (below_size (bz HB.out)))
       replace HB := Aside0.mk (below_step (bz HB.out) hb)
       clear hb ho15
       refine hK.out _ _ trivial (fun hHeld => ?_)
       clear hK K
       refine norm_ (a' := ?_) ?_ ?_
       rotate_left
       ·
        show Act.put _ (some 25) _ = _
        simp only [Act.put, List.setIfInBounds_toArray, List.set_cons_zero, List.set_cons_succ, i64_w, i32_w]
        rfl
       refine two_ (i := 2) (j := 8) (Ni := some 20) (Nj := some 26) (lb 11 255) (lb 11 507) rfl rfl rfl rfl (two_of HT_.out zk) (by decide) (by decide) (fun K hK => ?_) (fun K hK => ?_)
       ·
        skip
        refine goes_ Tryd.func21 zk rfl #[.int .i64 (wrap64 (Int.tdiv a0 10))] (by rfl) rfl rfl zm ?_
        with_reducible refine (ih k (by omega) (wrap64 (Int.tdiv a0 10)) t105 _ A11.out).mono ?_
        rintro e w16 ⟨rfl, hb⟩
        refine ⟨_, rfl, ?_⟩
        replace HO108 := Aside0.mk (Kd.R_below (rz HO108.out) hb)
        replace HB := Aside0.mk (below_step (bz HB.out) hb)
        (try clear hb)
        refine hK.out _ _ trivial (fun hHeld => ?_)
        clear hK K
        refine norm_ (a' := ?_) ?_ ?_
        rotate_left
        ·
         show Act.put _ (some 20) _ = _
         simp only [Act.put, List.setIfInBounds_toArray, List.set_cons_zero, List.set_cons_succ, i64_w, i32_w]
         rfl
        refine one_ (i := 8) (N := some 26) (lb 11 511) rfl rfl (one_of HT_.out zk) (by decide) (fun K hK => ?_)
        have hcv17 := own_string (P := Tryd.prog) Tryd.underlying28 Tryd.underlying5 Tryd.underlying9 (Kd.own_of_R HO108.out)
        refine value_ (w1 := ?_) (v := ?_) (by rfl) rfl ?_ ?_
        rotate_left 2
        ·
         go_simp
         constructor
         ·
          rfl
         ·
          rfl
        clear hcv17
        refine hK.out _ _ trivial (fun hHeld => ?_)
        clear hK K
        refine norm_ (a' := ?_) ?_ ?_
        rotate_left
        ·
         show Act.put _ (some 26) _ = _
         simp only [Act.put, List.setIfInBounds_toArray, List.set_cons_zero, List.set_cons_succ, i64_w, i32_w]
         rfl
        exact norm_ (by simp only [putAll, Act.put, List.setIfInBounds_toArray, List.set_cons_zero, List.set_cons_succ]) (hCont (v107) _ ⟨(rz HO108.out), (bz HB.out)⟩)
       ·
        skip
        have hcv16 := own_string (P := Tryd.prog) Tryd.underlying28 Tryd.underlying5 Tryd.underlying9 (Kd.own_of_R HO108.out)
        refine value_ (w1 := ?_) (v := ?_) (by rfl) rfl ?_ ?_
        rotate_left 2
        ·
         go_simp
         constructor
         ·
          rfl
         ·
          rfl
        clear hcv16
        refine hK.out _ _ trivial (fun hHeld => ?_)
        clear hK K
        refine norm_ (a' := ?_) ?_ ?_
        rotate_left
        ·
         show Act.put _ (some 26) _ = _
         simp only [Act.put, List.setIfInBounds_toArray, List.set_cons_zero, List.set_cons_succ, i64_w, i32_w]
         rfl
        refine one_ (i := 2) (N := some 20) (lb 11 511) rfl rfl (one_of HT_.out zk) (by decide) (fun K hK => ?_)
        refine goes_ Tryd.func21 zk rfl #[.int .i64 (wrap64 (Int.tdiv a0 10))] (by rfl) rfl rfl zm ?_
        with_reducible refine (ih k (by omega) (wrap64 (Int.tdiv a0 10)) t105 _ A11.out).mono ?_
        rintro e w17 ⟨rfl, hb⟩
        refine ⟨_, rfl, ?_⟩
        replace HO108 := Aside0.mk (Kd.R_below (rz HO108.out) hb)
        replace HB := Aside0.mk (below_step (bz HB.out) hb)
        (try clear hb)
        refine hK.out _ _ trivial (fun hHeld => ?_)
        clear hK K
        refine norm_ (a' := ?_) ?_ ?_
        rotate_left
        ·
         show Act.put _ (some 20) _ = _
         simp only [Act.put, List.setIfInBounds_toArray, List.set_cons_zero, List.set_cons_succ, i64_w, i32_w]
         rfl
        exact norm_ (by simp only [putAll, Act.put, List.setIfInBounds_toArray, List.set_cons_zero, List.set_cons_succ]) (hCont (v107) _ ⟨(rz HO108.out), (bz HB.out)⟩)
     rintro v107 w18 ⟨h0_, h1_⟩
     have n0_ : Aside0 (Kd.R (Kd.int .u8) 5 w18 w.heap.size (fun _ => True) v107 y106) := ⟨h0_⟩
     have n1_ : Aside0 (Below w.heap.size w w18) := ⟨h1_⟩
     clear HB
     clear h0_ h1_
     have HO108 := n0_
     have HB := n1_
     clear n0_ n1_
     have hHeld := trivial
     refine norm_ (a' := ?_) ?_ ?_
     rotate_left
     ·
      simp only [putAll, Act.put, List.setIfInBounds_toArray, List.set_cons_zero, List.set_cons_succ]
      rfl
     refine pz 9 (some 27) (lb 11 1023) rfl rfl HT_.out ?_
     refine pz 10 (some 2) (lb 11 2047) rfl rfl HT_.out ?_
     refine done_ (done_of HT_.out zk) ?_
     try go_wp2
     go_ret
     exact ⟨ze, bz HB.out⟩
    ·
     rw [if_neg c12] at H
     exact absurd H (by simp)

end Go.Proofs.YtkjjlkkfhbfbmaaDoor.P

namespace Go.Proofs.YtkjjlkkfhbfbmaaDoor.P
open Go.RowKit Go.Proofs.YtkjjlkkfhbfbmaaDoorW.PrintWords Go.Proofs.YtkjjlkkfhbfbmaaDoorW.PrintLast Go.Proofs.YtkjjlkkfhbfbmaaDoorW.PrintMore
attribute [local go_sem] max2_int min2_int max_two min_two max_three min_three max_four min_four Q.cell_set_map Q.str_gtr Q.str_geq Q.str_leq
set_option linter.unusedVariables false
set_option linter.unusedSimpArgs false

/-! ### spec_l18Num: function 11 -/
mutual
def spec_l18Num.l0 : Nat → ByteArray → Int → Int → Option (Int × Bool)
 | 0, _, _, _ => none
 | k + 1, x0, x4, x5 => if x5 < (x0.size : Int) then (if 0 ≤ x5 then (if (bt x0 x5) < 48 then (spec_l18Num.j1 k x0 x4 x5 true) else (spec_l18Num.j1 k x0 x4 x5 (decide ((bt x0 x5) > 57)))) else (none)) else ((spec_l6Dec.f k x4).bind fun t101 => (some (x4, (x0.toList == t101.toList))))
def spec_l18Num.j1 : Nat → ByteArray → Int → Int → Bool → Option (Int × Bool)
 | 0, _, _, _, _ => none
 | k + 1, x0, x4, x5, x21 => if x21 = true then (some (0, false)) else (if 0 ≤ x5 then (if x5 < (x0.size : Int) then (if (wrap64 ((wrap64 (10 * x4)) + (((bt x0 x5) - 48) % 256))) > 99999 then (some (0, false)) else (spec_l18Num.l0 k x0 (wrap64 ((wrap64 (10 * x4)) + (((bt x0 x5) - 48) % 256))) (wrap64 (x5 + 1)))) else (none)) else (none))
end
def spec_l18Num.f (k : Nat) (a0 : ByteArray) : Option (Int × Bool) := spec_l18Num.l0 k a0 0 0
theorem spec_l18Num.mono_l : ∀ k, (∀ y0 y1 y2, LeO (spec_l18Num.l0 k y0 y1 y2) (spec_l18Num.l0 (k + 1) y0 y1 y2)) ∧ (∀ y0 y1 y2 y3, LeO (spec_l18Num.j1 k y0 y1 y2 y3) (spec_l18Num.j1 (k + 1) y0 y1 y2 y3))
 | 0 => ⟨fun _ _ _ r h => by simp [spec_l18Num.l0] at h, fun _ _ _ _ r h => by simp [spec_l18Num.j1] at h⟩
 | k + 1 => by
  obtain ⟨ih0, ih1⟩ := spec_l18Num.mono_l k
  refine ⟨?_, ?_⟩
  ·
   intro y0 y1 y2
   unfold spec_l18Num.l0
   repeat' first
   | (with_reducible exact ih0 _ _ _)
   | (with_reducible exact ih1 _ _ _ _)
   | (with_reducible exact spec_l6Dec.mono _ _)
   | (with_reducible exact LeO.refl _)
   | (with_reducible exact LeO.none _)
   | (with_reducible refine LeO.ite ?_ ?_)
   | (with_reducible refine LeO.bind ?_ (fun _ => ?_))
   | exact ih0 _ _ _
   | exact ih1 _ _ _ _
   | exact spec_l6Dec.mono _ _
   | exact LeO.none _
   | refine LeO.ite ?_ ?_
   | refine LeO.bind ?_ (fun _ => ?_)
  ·
   intro y0 y1 y2 y3
   unfold spec_l18Num.j1
   repeat' first
   | (with_reducible exact ih0 _ _ _)
   | (with_reducible exact ih1 _ _ _ _)
   | (with_reducible exact spec_l6Dec.mono _ _)
   | (with_reducible exact LeO.refl _)
   | (with_reducible exact LeO.none _)
   | (with_reducible refine LeO.ite ?_ ?_)
   | (with_reducible refine LeO.bind ?_ (fun _ => ?_))
   | exact ih0 _ _ _
   | exact ih1 _ _ _ _
   | exact spec_l6Dec.mono _ _
   | exact LeO.none _
   | refine LeO.ite ?_ ?_
   | refine LeO.bind ?_ (fun _ => ?_)
theorem spec_l18Num.mono : ∀ a0 k, LeO (spec_l18Num.f k a0) (spec_l18Num.f (k + 1) a0) := by
 intro a0 k
 obtain ⟨ih0, ih1⟩ := spec_l18Num.mono_l k
 unfold spec_l18Num.f
 repeat' first
   | (with_reducible exact ih0 _ _ _)
   | (with_reducible exact ih1 _ _ _ _)
   | (with_reducible exact spec_l6Dec.mono _ _)
   | (with_reducible exact LeO.refl _)
   | (with_reducible exact LeO.none _)
   | (with_reducible refine LeO.ite ?_ ?_)
   | (with_reducible refine LeO.bind ?_ (fun _ => ?_))
   | exact ih0 _ _ _
   | exact ih1 _ _ _ _
   | exact spec_l6Dec.mono _ _
   | exact LeO.none _
   | refine LeO.ite ?_ ?_
   | refine LeO.bind ?_ (fun _ => ?_)
set_option maxHeartbeats 8000000 in
set_option maxRecDepth 100000 in
theorem spec_l18Num.calls (k : Nat) (a0 : ByteArray) (r1 : Int) (r2 : Bool) (w : World) (h : spec_l18Num.f k a0 = some (r1, r2)) :
  Calls Tryd.prog 11 #[.string a0] w fun e w' => e = .returned (.tuple #[.int .i64 r1, .bool r2]) ∧ Below w.heap.size w w' := by
 have HB := Aside0.mk (Below.refl w.heap.size w)
 have H : (spec_l18Num.l0 k a0 0 0) = some (r1, r2) := h
 clear h
 have H' := Aside0.mk H
 clear H
 go_enter Tryd.func11, Tryd.ntmps11
 go_wp2
 go_loopg [4, 5] k (fun kq v4 v5 w' => ∃ (x4_1 : Int) (x5_1 : Int), v4 = .int .i64 x4_1 ∧ v5 = .int .i64 x5_1 ∧ Aside0 (spec_l18Num.l0 kq a0 x4_1 x5_1 = some (r1, r2)) ∧ Aside0 (kq ≤ k) ∧ Aside0 (Below w.heap.size w w'))
 case atStart => exact ⟨(0), (0), zr, zr, H', ⟨Nat.le_refl _⟩, ⟨bz HB.out⟩⟩
 case round =>
  clear H'
  try clear c1
  obtain ⟨x4_1, x5_1, rfl, rfl, HA, HK1, HB⟩ := hrel
  cases gk with
  | zero => exact absurd HA.out (by simp [spec_l18Num.l0])
  | succ k1 =>
   have H := HA.out
   clear HA
   simp only [spec_l18Num.l0] at H
   by_cases c2 : x5_1 < (a0.size : Int)
   ·
    rw [if_pos c2] at H
    have c2b0 : decide (x5_1 < (a0.size : Int)) = true := decide_eq_true c2
    clear c2
    have HC3 := Aside0.mk H
    clear H
    go_upto_region 5 with (fail)
    go_cut [21] (fun v21 wc => ∃ (kq : Nat) (x21_2 : Bool), v21 = .bool x21_2 ∧ Aside0 (spec_l18Num.j1 kq a0 x4_1 x5_1 x21_2 = some (r1, r2)) ∧ Aside0 (kq ≤ k1) ∧ Aside0 (Below w.heap.size w wc))
    case first =>
     have H := HC3.out
     clear HC3
     by_cases c4 : 0 ≤ x5_1
     ·
      rw [if_pos c4] at H
      have c4b0 : decide (0 ≤ x5_1) = true := decide_eq_true c4
      clear c4
      (first | rw [c4b0] | (simp only [i64_w, i32_w]; rw [c4b0]) | skip)
      by_cases c6 : (bt a0 x5_1) < 48
      ·
       rw [if_pos c6] at H
       have c6b0 : decide ((bt a0 x5_1) < 48) = true := decide_eq_true c6
       clear c6
       have H' := Aside0.mk H
       clear H
       have p5 : 0 ≤ (x5_1 : Int) := of_decide_eq_true zs
       have q5 : x5_1 < (a0.size : Int) := of_decide_eq_true zs
       have hx5 := bt_at a0 x5_1
       replace p5 := eq_true p5
       replace q5 := eq_true q5
       go_wp2
       go_meet
       case rel => exact ⟨_, (true), zr, H', ⟨by have := HK1.out; first | omega | exact Nat.le_refl _⟩, ⟨bz HB.out⟩⟩
      ·
       rw [if_neg c6] at H
       have c6b0 : decide ((bt a0 x5_1) < 48) = false := decide_eq_false c6
       clear c6
       have H' := Aside0.mk H
       clear H
       have p5 : 0 ≤ (x5_1 : Int) := of_decide_eq_true zs
       have q5 : x5_1 < (a0.size : Int) := of_decide_eq_true zs
       have hx5 := bt_at a0 x5_1
       replace p5 := eq_true p5
       replace q5 := eq_true q5
       have p7 : 0 ≤ (x5_1 : Int) := of_decide_eq_true zs
       have q7 : x5_1 < (a0.size : Int) := of_decide_eq_true zs
       have hx7 := bt_at a0 x5_1
       replace p7 := eq_true p7
       replace q7 := eq_true q7
       go_wp2
       go_meet
       case rel => exact ⟨_, (decide ((bt a0 x5_1) > 57)), zr, H', ⟨by have := HK1.out; first | omega | exact Nat.le_refl _⟩, ⟨bz HB.out⟩⟩
     ·
      rw [if_neg c4] at H
      exact absurd H (by simp)
    case rest =>
     clear HC3
     try clear c1
     try clear c2
     try clear c2b0
     try clear p2
     try clear c4
     try clear c4b0
     try clear p5
     try clear q5
     try clear hx5
     try clear c6
     try clear c6b0
     try clear p7
     try clear q7
     try clear hx7
     try clear p5
     try clear p7
     try clear q5
     try clear q7
     obtain ⟨kq, x21_2, rfl, HA, HJ2, HB⟩ := hcut
     cases kq with
     | zero => exact absurd HA.out (by simp [spec_l18Num.j1])
     | succ kj2 =>
      have H := HA.out
      clear HA
      simp only [spec_l18Num.j1] at H
      by_cases c8 : x21_2 = true
      ·
       subst c8
       rw [if_pos rfl] at H
       simp only [Option.some.injEq, Prod.mk.injEq] at H
       obtain ⟨rfl, rfl⟩ := H
       go_wp2
       go_ret2
       exact ⟨ze, bz HB.out⟩
      ·
       replace c8 := Bool.eq_false_iff.mpr c8
       subst c8
       rw [if_neg nf_] at H
       by_cases c9 : 0 ≤ x5_1
       ·
        rw [if_pos c9] at H
        have c9b0 : decide (0 ≤ x5_1) = true := decide_eq_true c9
        clear c9
        by_cases c10 : x5_1 < (a0.size : Int)
        ·
         rw [if_pos c10] at H
         have c10b0 : decide (x5_1 < (a0.size : Int)) = true := decide_eq_true c10
         clear c10
         by_cases c12 : (wrap64 ((wrap64 (10 * x4_1)) + (((bt a0 x5_1) - 48) % 256))) > 99999
         ·
          rw [if_pos c12] at H
          have c12b0 : decide (99999 < (wrap64 ((wrap64 (10 * x4_1)) + (((bt a0 x5_1) - 48) % 256)))) = true := decide_eq_true c12
          clear c12
          simp only [Option.some.injEq, Prod.mk.injEq] at H
          obtain ⟨rfl, rfl⟩ := H
          have p11 : 0 ≤ (x5_1 : Int) := of_decide_eq_true zs
          have q11 : x5_1 < (a0.size : Int) := of_decide_eq_true zs
          have hx11 := bt_at a0 x5_1
          replace p11 := eq_true p11
          replace q11 := eq_true q11
          go_wp2
          go_ret2
          exact ⟨ze, bz HB.out⟩
         ·
          rw [if_neg c12] at H
          have c12b0 : decide (99999 < (wrap64 ((wrap64 (10 * x4_1)) + (((bt a0 x5_1) - 48) % 256)))) = false := decide_eq_false c12
          clear c12
          have H' := Aside0.mk H
          clear H
          have p11 : 0 ≤ (x5_1 : Int) := of_decide_eq_true zs
          have q11 : x5_1 < (a0.size : Int) := of_decide_eq_true zs
          have hx11 := bt_at a0 x5_1
          replace p11 := eq_true p11
          replace q11 := eq_true q11
          go_wp2
          go_roundg kj2
          case measure => have := HK1.out; have := HJ2.out; omega
          case rel => exact ⟨(wrap64 ((wrap64 (10 * x4_1)) + (((bt a0 x5_1) - 48) % 256))), (wrap64 (x5_1 + 1)), zr, zr, H', ⟨by have := HK1.out; have := HJ2.out; omega⟩, ⟨bz HB.out⟩⟩
        ·
         rw [if_neg c10] at H
         exact absurd H (by simp)
       ·
        rw [if_neg c9] at H
        exact absurd H (by simp)
   ·
    rw [if_neg c2] at H
    have c2b0 : decide (x5_1 < (a0.size : Int)) = false := decide_eq_false c2
    clear c2
    replace H := Option.bind_eq_some_iff.mp H
    obtain ⟨t101, A130, H⟩ := H
    have A13 := Aside0.mk A130
    clear A130
    simp only [Option.some.injEq, Prod.mk.injEq] at H
    obtain ⟨rfl, rfl⟩ := H
    go_wp2_with (first | ((with_reducible refine gate_callee (f := 21) rfl ?_); refine goesL_ (some 35) rfl rfl Tryd.func21 zk rfl #[.int .i64 x4_1] rfl zm ?_; (with_reducible refine (spec_l6Dec.calls k1 x4_1 t101 _ A13.out).mono ?_); rintro e w14 ⟨rfl, hb⟩; refine ⟨_, rfl, ?_⟩; replace HB := Aside0.mk (below_step (bz HB.out) hb); (try clear hb)))
    go_ret2
    exact ⟨ze, bz HB.out⟩

end Go.Proofs.YtkjjlkkfhbfbmaaDoor.P

namespace Go.Proofs.YtkjjlkkfhbfbmaaDoor.P
open Go.RowKit Go.Proofs.YtkjjlkkfhbfbmaaDoorW.PrintWords Go.Proofs.YtkjjlkkfhbfbmaaDoorW.PrintLast Go.Proofs.YtkjjlkkfhbfbmaaDoorW.PrintMore
attribute [local go_sem] max2_int min2_int max_two min_two max_three min_three max_four min_four Q.cell_set_map Q.str_gtr Q.str_geq Q.str_leq
set_option linter.unusedVariables false
set_option linter.unusedSimpArgs false

/-! ### spec_l18Form: function 12 -/
def spec_l18Form.l0 : Nat → ByteArray → List ByteArray → Int → Option (Int × ByteArray)
 | 0, _, _, _ => none
 | k + 1, x0, x4, x5 => if x5 < (x4.length : Int) then (if 0 ≤ x5 then ((spec_l18Cut.f k (rdOf ByteArray.empty x4 x5) 32).bind fun t105 => (if 0 < (t105.length : Int) then (if (rdOf ByteArray.empty t105 0).toList = x0.toList then (if (t105.length : Int) = 1 then (some (x5, (⟨#[]⟩ : ByteArray))) else (if 1 < (t105.length : Int) then (some (x5, rdOf ByteArray.empty t105 1)) else (none))) else (spec_l18Form.l0 k x0 x4 (wrap64 (x5 + 1)))) else (none))) else (none)) else (some (0, (⟨#[]⟩ : ByteArray)))
def spec_l18Form.f (k : Nat) (a0 : ByteArray) : Option (Int × ByteArray) := spec_l18Form.l0 k a0 (([(⟨#[]⟩ : ByteArray), (⟨#[102, 111, 114, 107]⟩ : ByteArray), (⟨#[101, 120, 105, 116, 32, 110]⟩ : ByteArray), (⟨#[119, 97, 105, 116]⟩ : ByteArray), (⟨#[107, 105, 108, 108, 32, 110, 110]⟩ : ByteArray), (⟨#[115, 105, 103, 32, 110, 110]⟩ : ByteArray), (⟨#[98, 108, 111, 99, 107, 32, 110]⟩ : ByteArray), (⟨#[115, 105, 103, 115]⟩ : ByteArray), (⟨#[109, 97, 112, 32, 110, 110, 116]⟩ : ByteArray), (⟨#[117, 110, 109, 97, 112, 32, 110, 110]⟩ : ByteArray), (⟨#[108, 111, 97, 100, 32, 110]⟩ : ByteArray), (⟨#[115, 116, 111, 114, 101, 32, 110, 110]⟩ : ByteArray), (⟨#[111, 112, 101, 110, 32, 112, 110, 110]⟩ : ByteArray), (⟨#[99, 108, 111, 115, 101, 32, 110]⟩ : ByteArray), (⟨#[114, 101, 97, 100, 32, 110, 110]⟩ : ByteArray), (⟨#[119, 114, 105, 116, 101, 32, 110, 116]⟩ : ByteArray), (⟨#[100, 117, 112, 32, 110]⟩ : ByteArray), (⟨#[112, 105, 112, 101]⟩ : ByteArray), (⟨#[100, 105, 114, 32, 112]⟩ : ByteArray), (⟨#[102, 111, 108, 100, 101, 114, 32, 112, 110]⟩ : ByteArray), (⟨#[100, 114, 111, 112, 32, 112]⟩ : ByteArray), (⟨#[108, 105, 110, 107, 32, 112, 112]⟩ : ByteArray), (⟨#[109, 111, 118, 101, 32, 112, 112]⟩ : ByteArray), (⟨#[109, 111, 100, 101, 32, 112, 110]⟩ : ByteArray), (⟨#[111, 119, 110, 32, 112, 110]⟩ : ByteArray), (⟨#[117, 115, 101, 114, 32, 110]⟩ : ByteArray), (⟨#[109, 111, 117, 110, 116, 32, 112]⟩ : ByteArray), (⟨#[117, 110, 109, 111, 117, 110, 116]⟩ : ByteArray), (⟨#[114, 117, 110, 32, 112]⟩ : ByteArray), (⟨#[115, 101, 101, 107, 32, 110, 110]⟩ : ByteArray), (⟨#[119, 101, 105, 103, 104, 116, 32, 110]⟩ : ByteArray), (⟨#[105, 100]⟩ : ByteArray)] : List ByteArray)) 1
theorem spec_l18Form.mono_l : ∀ k, (∀ y0 y1 y2, LeO (spec_l18Form.l0 k y0 y1 y2) (spec_l18Form.l0 (k + 1) y0 y1 y2))
 | 0 => fun _ _ _ r h => by simp [spec_l18Form.l0] at h
 | k + 1 => by
  have ih0 := spec_l18Form.mono_l k
  ·
   intro y0 y1 y2
   unfold spec_l18Form.l0
   repeat' first
   | (with_reducible exact ih0 _ _ _)
   | (with_reducible exact spec_l18Cut.mono _ _ _)
   | (with_reducible exact LeO.refl _)
   | (with_reducible exact LeO.none _)
   | (with_reducible refine LeO.ite ?_ ?_)
   | (with_reducible refine LeO.bind ?_ (fun _ => ?_))
   | exact ih0 _ _ _
   | exact spec_l18Cut.mono _ _ _
   | exact LeO.none _
   | refine LeO.ite ?_ ?_
   | refine LeO.bind ?_ (fun _ => ?_)
theorem spec_l18Form.mono : ∀ a0 k, LeO (spec_l18Form.f k a0) (spec_l18Form.f (k + 1) a0) := by
 intro a0 k
 have ih0 := spec_l18Form.mono_l k
 unfold spec_l18Form.f
 repeat' first
   | (with_reducible exact ih0 _ _ _)
   | (with_reducible exact spec_l18Cut.mono _ _ _)
   | (with_reducible exact LeO.refl _)
   | (with_reducible exact LeO.none _)
   | (with_reducible refine LeO.ite ?_ ?_)
   | (with_reducible refine LeO.bind ?_ (fun _ => ?_))
   | exact ih0 _ _ _
   | exact spec_l18Cut.mono _ _ _
   | exact LeO.none _
   | refine LeO.ite ?_ ?_
   | refine LeO.bind ?_ (fun _ => ?_)
set_option maxHeartbeats 8000000 in
set_option maxRecDepth 100000 in
theorem spec_l18Form.calls (k : Nat) (a0 : ByteArray) (r1 : Int) (r2 : ByteArray) (w : World) (h : spec_l18Form.f k a0 = some (r1, r2)) :
  Calls Tryd.prog 12 #[.string a0] w fun e w' => e = .returned (.tuple #[.int .i64 r1, .string r2]) ∧ Below w.heap.size w w' := by
 have HB := Aside0.mk (Below.refl w.heap.size w); have H : (spec_l18Form.l0 k a0 (([(⟨#[]⟩ : ByteArray), (⟨#[102, 111, 114, 107]⟩ : ByteArray), (⟨#[101, 120, 105, 116, 32, 110]⟩ : ByteArray), (⟨#[119, 97, 105, 116]⟩ : ByteArray), (⟨#[107, 105, 108, 108, 32, 110, 110]⟩ : ByteArray), (⟨#[115, 105, 103, 32, 110, 110]⟩ : ByteArray), (⟨#[98, 108, 111, 99, 107, 32, 110]⟩ : ByteArray), (⟨#[115, 105, 103, 115]⟩ : ByteArray), (⟨#[109, 97, 112, 32, 110, 110, 116]⟩ : ByteArray), (⟨#[117, 110, 109, 97, 112, 32, 110, 110]⟩ : ByteArray), (⟨#[108, 111, 97, 100, 32, 110]⟩ : ByteArray), (⟨#[115, 116, 111, 114, 101, 32, 110, 110]⟩ : ByteArray), (⟨#[111, 112, 101, 110, 32, 112, 110, 110]⟩ : ByteArray), (⟨#[99, 108, 111, 115, 101, 32, 110]⟩ : ByteArray), (⟨#[114, 101, 97, 100, 32, 110, 110]⟩ : ByteArray), (⟨#[119, 114, 105, 116, 101, 32, 110, 116]⟩ : ByteArray), (⟨#[100, 117, 112, 32, 110]⟩ : ByteArray), (⟨#[112, 105, 112, 101]⟩ : ByteArray), (⟨#[100, 105, 114, 32, 112]⟩ : ByteArray), (⟨#[102, 111, 108, 100, 101, 114, 32, 112, 110]⟩ : ByteArray), (⟨#[100, 114, 111, 112, 32, 112]⟩ : ByteArray), (⟨#[108, 105, 110, 107, 32, 112, 112]⟩ : ByteArray), (⟨#[109, 111, 118, 101, 32, 112, 112]⟩ : ByteArray), (⟨#[109, 111, 100, 101, 32, 112, 110]⟩ : ByteArray), (⟨#[111, 119, 110, 32, 112, 110]⟩ : ByteArray), (⟨#[117, 115, 101, 114, 32, 110]⟩ : ByteArray), (⟨#[109, 111, 117, 110, 116, 32, 112]⟩ : ByteArray), (⟨#[117, 110, 109, 111, 117, 110, 116]⟩ : ByteArray), (⟨#[114, 117, 110, 32, 112]⟩ : ByteArray), (⟨#[115, 101, 101, 107, 32, 110, 110]⟩ : ByteArray), (⟨#[119, 101, 105, 103, 104, 116, 32, 110]⟩ : ByteArray), (⟨#[105, 100]⟩ : ByteArray)] : List ByteArray)) 1) = some (r1, r2) := h; clear h; obtain ⟨y101, hy101⟩ : ∃ y_ : List ByteArray, y_ = (([(⟨#[]⟩ : ByteArray), (⟨#[102, 111, 114, 107]⟩ : ByteArray), (⟨#[101, 120, 105, 116, 32, 110]⟩ : ByteArray), (⟨#[119, 97, 105, 116]⟩ : ByteArray), (⟨#[107, 105, 108, 108, 32, 110, 110]⟩ : ByteArray), (⟨#[115, 105, 103, 32, 110, 110]⟩ : ByteArray), (⟨#[98, 108, 111, 99, 107, 32, 110]⟩ : ByteArray), (⟨#[115, 105, 103, 115]⟩ : ByteArray), (⟨#[109, 97, 112, 32, 110, 110, 116]⟩ : ByteArray), (⟨#[117, 110, 109, 97, 112, 32, 110, 110]⟩ : ByteArray), (⟨#[108, 111, 97, 100, 32, 110]⟩ : ByteArray), (⟨#[115, 116, 111, 114, 101, 32, 110, 110]⟩ : ByteArray), (⟨#[111, 112, 101, 110, 32, 112, 110, 110]⟩ : ByteArray), (⟨#[99, 108, 111, 115, 101, 32, 110]⟩ : ByteArray), (⟨#[114, 101, 97, 100, 32, 110, 110]⟩ : ByteArray), (⟨#[119, 114, 105, 116, 101, 32, 110, 116]⟩ : ByteArray), (⟨#[100, 117, 112, 32, 110]⟩ : ByteArray), (⟨#[112, 105, 112, 101]⟩ : ByteArray), (⟨#[100, 105, 114, 32, 112]⟩ : ByteArray), (⟨#[102, 111, 108, 100, 101, 114, 32, 112, 110]⟩ : ByteArray), (⟨#[100, 114, 111, 112, 32, 112]⟩ : ByteArray), (⟨#[108, 105, 110, 107, 32, 112, 112]⟩ : ByteArray), (⟨#[109, 111, 118, 101, 32, 112, 112]⟩ : ByteArray), (⟨#[109, 111, 100, 101, 32, 112, 110]⟩ : ByteArray), (⟨#[111, 119, 110, 32, 112, 110]⟩ : ByteArray), (⟨#[117, 115, 101, 114, 32, 110]⟩ : ByteArray), (⟨#[109, 111, 117, 110, 116, 32, 112]⟩ : ByteArray), (⟨#[117, 110, 109, 111, 117, 110, 116]⟩ : ByteArray), (⟨#[114, 117, 110, 32, 112]⟩ : ByteArray), (⟨#[115, 101, 101, 107, 32, 110, 110]⟩ : ByteArray), (⟨#[119, 101, 105, 103, 104, 116, 32, 110]⟩ : ByteArray), (⟨#[105, 100]⟩ : ByteArray)] : List ByteArray)) := ⟨_, rfl⟩
 replace H : (spec_l18Form.l0 k a0 y101 1) = some (r1, r2) := by first | (rw [hy101]; with_reducible exact H) | (have H2_ := (Option.bind_some _ _).symm.trans H; rw [hy101]; with_reducible exact H2_) | (have H2_ := (Option.bind_some _ _).symm.trans H; with_reducible exact H2_) | with_reducible exact H | (rw [hy101]; exact H) | exact H
 have Ny101 := Aside0.mk hy101; clear hy101; have H' := Aside0.mk H; clear H
 go_enter Tryd.func12, Tryd.ntmps12
 go_wp2_with (first | ((with_reducible refine gate_dst (N := 7) rfl ?_); refine Kd.R_lit Kd.string _ 9 ?hg (N := 7) ?hd (xs := ([(⟨#[]⟩ : ByteArray), (⟨#[102, 111, 114, 107]⟩ : ByteArray), (⟨#[101, 120, 105, 116, 32, 110]⟩ : ByteArray), (⟨#[119, 97, 105, 116]⟩ : ByteArray), (⟨#[107, 105, 108, 108, 32, 110, 110]⟩ : ByteArray), (⟨#[115, 105, 103, 32, 110, 110]⟩ : ByteArray), (⟨#[98, 108, 111, 99, 107, 32, 110]⟩ : ByteArray), (⟨#[115, 105, 103, 115]⟩ : ByteArray), (⟨#[109, 97, 112, 32, 110, 110, 116]⟩ : ByteArray), (⟨#[117, 110, 109, 97, 112, 32, 110, 110]⟩ : ByteArray), (⟨#[108, 111, 97, 100, 32, 110]⟩ : ByteArray), (⟨#[115, 116, 111, 114, 101, 32, 110, 110]⟩ : ByteArray), (⟨#[111, 112, 101, 110, 32, 112, 110, 110]⟩ : ByteArray), (⟨#[99, 108, 111, 115, 101, 32, 110]⟩ : ByteArray), (⟨#[114, 101, 97, 100, 32, 110, 110]⟩ : ByteArray), (⟨#[119, 114, 105, 116, 101, 32, 110, 116]⟩ : ByteArray), (⟨#[100, 117, 112, 32, 110]⟩ : ByteArray), (⟨#[112, 105, 112, 101]⟩ : ByteArray), (⟨#[100, 105, 114, 32, 112]⟩ : ByteArray), (⟨#[102, 111, 108, 100, 101, 114, 32, 112, 110]⟩ : ByteArray), (⟨#[100, 114, 111, 112, 32, 112]⟩ : ByteArray), (⟨#[108, 105, 110, 107, 32, 112, 112]⟩ : ByteArray), (⟨#[109, 111, 118, 101, 32, 112, 112]⟩ : ByteArray), (⟨#[109, 111, 100, 101, 32, 112, 110]⟩ : ByteArray), (⟨#[111, 119, 110, 32, 112, 110]⟩ : ByteArray), (⟨#[117, 115, 101, 114, 32, 110]⟩ : ByteArray), (⟨#[109, 111, 117, 110, 116, 32, 112]⟩ : ByteArray), (⟨#[117, 110, 109, 111, 117, 110, 116]⟩ : ByteArray), (⟨#[114, 117, 110, 32, 112]⟩ : ByteArray), (⟨#[115, 101, 101, 107, 32, 110, 110]⟩ : ByteArray), (⟨#[119, 101, 105, 103, 104, 116, 32, 110]⟩ : ByteArray), (⟨#[105, 100]⟩ : ByteArray)] : List ByteArray)) (inner := [.string (⟨#[]⟩ : ByteArray), .string (⟨#[102, 111, 114, 107]⟩ : ByteArray), .string (⟨#[101, 120, 105, 116, 32, 110]⟩ : ByteArray), .string (⟨#[119, 97, 105, 116]⟩ : ByteArray), .string (⟨#[107, 105, 108, 108, 32, 110, 110]⟩ : ByteArray), .string (⟨#[115, 105, 103, 32, 110, 110]⟩ : ByteArray), .string (⟨#[98, 108, 111, 99, 107, 32, 110]⟩ : ByteArray), .string (⟨#[115, 105, 103, 115]⟩ : ByteArray), .string (⟨#[109, 97, 112, 32, 110, 110, 116]⟩ : ByteArray), .string (⟨#[117, 110, 109, 97, 112, 32, 110, 110]⟩ : ByteArray), .string (⟨#[108, 111, 97, 100, 32, 110]⟩ : ByteArray), .string (⟨#[115, 116, 111, 114, 101, 32, 110, 110]⟩ : ByteArray), .string (⟨#[111, 112, 101, 110, 32, 112, 110, 110]⟩ : ByteArray), .string (⟨#[99, 108, 111, 115, 101, 32, 110]⟩ : ByteArray), .string (⟨#[114, 101, 97, 100, 32, 110, 110]⟩ : ByteArray), .string (⟨#[119, 114, 105, 116, 101, 32, 110, 116]⟩ : ByteArray), .string (⟨#[100, 117, 112, 32, 110]⟩ : ByteArray), .string (⟨#[112, 105, 112, 101]⟩ : ByteArray), .string (⟨#[100, 105, 114, 32, 112]⟩ : ByteArray), .string (⟨#[102, 111, 108, 100, 101, 114, 32, 112, 110]⟩ : ByteArray), .string (⟨#[100, 114, 111, 112, 32, 112]⟩ : ByteArray), .string (⟨#[108, 105, 110, 107, 32, 112, 112]⟩ : ByteArray), .string (⟨#[109, 111, 118, 101, 32, 112, 112]⟩ : ByteArray), .string (⟨#[109, 111, 100, 101, 32, 112, 110]⟩ : ByteArray), .string (⟨#[111, 119, 110, 32, 112, 110]⟩ : ByteArray), .string (⟨#[117, 115, 101, 114, 32, 110]⟩ : ByteArray), .string (⟨#[109, 111, 117, 110, 116, 32, 112]⟩ : ByteArray), .string (⟨#[117, 110, 109, 111, 117, 110, 116]⟩ : ByteArray), .string (⟨#[114, 117, 110, 32, 112]⟩ : ByteArray), .string (⟨#[115, 101, 101, 107, 32, 110, 110]⟩ : ByteArray), .string (⟨#[119, 101, 105, 103, 104, 116, 32, 110]⟩ : ByteArray), .string (⟨#[105, 100]⟩ : ByteArray)]) (ok := fun _ => True) (okp := fun _ => True) ?hr ?hp (fun _ hk => hk) trivial (Below.refl _ _) (Nat.le_refl _) (by simp) ?_; (case hd => rfl); (case hg => rfl); (case hr => first | (go_simp; done) | (go_simp; rfl)); (case hp => exact (Reps.one (show Kd.M Kd.string _ _ _ (⟨#[]⟩ : ByteArray) [.string (⟨#[]⟩ : ByteArray)] from rfl) (Reps.one (show Kd.M Kd.string _ _ _ (⟨#[102, 111, 114, 107]⟩ : ByteArray) [.string (⟨#[102, 111, 114, 107]⟩ : ByteArray)] from rfl) (Reps.one (show Kd.M Kd.string _ _ _ (⟨#[101, 120, 105, 116, 32, 110]⟩ : ByteArray) [.string (⟨#[101, 120, 105, 116, 32, 110]⟩ : ByteArray)] from rfl) (Reps.one (show Kd.M Kd.string _ _ _ (⟨#[119, 97, 105, 116]⟩ : ByteArray) [.string (⟨#[119, 97, 105, 116]⟩ : ByteArray)] from rfl) (Reps.one (show Kd.M Kd.string _ _ _ (⟨#[107, 105, 108, 108, 32, 110, 110]⟩ : ByteArray) [.string (⟨#[107, 105, 108, 108, 32, 110, 110]⟩ : ByteArray)] from rfl) (Reps.one (show Kd.M Kd.string _ _ _ (⟨#[115, 105, 103, 32, 110, 110]⟩ : ByteArray) [.string (⟨#[115, 105, 103, 32, 110, 110]⟩ : ByteArray)] from rfl) (Reps.one (show Kd.M Kd.string _ _ _ (⟨#[98, 108, 111, 99, 107, 32, 110]⟩ : ByteArray) [.string (⟨#[98, 108, 111, 99, 107, 32, 110]⟩ : ByteArray)] from rfl) (Reps.one (show Kd.M Kd.string _ _ _ (⟨#[115, 105, 103, 115]⟩ : ByteArray) [.string (⟨#[115, 105, 103, 115]⟩ : ByteArray)] from rfl) (Reps.one (show Kd.M Kd.string _ _ _ (⟨#[109, 97, 112, 32, 110, 110, 116]⟩ : ByteArray) [.string (⟨#[109, 97, 112, 32, 110, 110, 116]⟩ : ByteArray)] from rfl) (Reps.one (show Kd.M Kd.string _ _ _ (⟨#[117, 110, 109, 97, 112, 32, 110, 110]⟩ : ByteArray) [.string (⟨#[117, 110, 109, 97, 112, 32, 110, 110]⟩ : ByteArray)] from rfl) (Reps.one (show Kd.M Kd.string _ _ _ (⟨#[108, 111, 97, 100, 32, 110]⟩ : ByteArray) [.string (⟨#[108, 111, 97, 100, 32, 110]⟩ : ByteArray)] from rfl) (Reps.one (show Kd.M Kd.string _ _ _ (⟨#[115, 116, 111, 114, 101, 32, 110, 110]⟩ : ByteArray) [.string (⟨#[115, 116, 111, 114, 101, 32, 110, 110]⟩ : ByteArray)] from rfl) (Reps.one (show Kd.M Kd.string _ _ _ (⟨#[111, 112, 101, 110, 32, 112, 110, 110]⟩ : ByteArray) [.string (⟨#[111, 112, 101, 110, 32, 112, 110, 110]⟩ : ByteArray)] from rfl) (Reps.one (show Kd.M Kd.string _ _ _ (⟨#[99, 108, 111, 115, 101, 32, 110]⟩ : ByteArray) [.string (⟨#[99, 108, 111, 115, 101, 32, 110]⟩ : ByteArray)] from rfl) (Reps.one (show Kd.M Kd.string _ _ _ (⟨#[114, 101, 97, 100, 32, 110, 110]⟩ : ByteArray) [.string (⟨#[114, 101, 97, 100, 32, 110, 110]⟩ : ByteArray)] from rfl) (Reps.one (show Kd.M Kd.string _ _ _ (⟨#[119, 114, 105, 116, 101, 32, 110, 116]⟩ : ByteArray) [.string (⟨#[119, 114, 105, 116, 101, 32, 110, 116]⟩ : ByteArray)] from rfl) (Reps.one (show Kd.M Kd.string _ _ _ (⟨#[100, 117, 112, 32, 110]⟩ : ByteArray) [.string (⟨#[100, 117, 112, 32, 110]⟩ : ByteArray)] from rfl) (Reps.one (show Kd.M Kd.string _ _ _ (⟨#[112, 105, 112, 101]⟩ : ByteArray) [.string (⟨#[112, 105, 112, 101]⟩ : ByteArray)] from rfl) (Reps.one (show Kd.M Kd.string _ _ _ (⟨#[100, 105, 114, 32, 112]⟩ : ByteArray) [.string (⟨#[100, 105, 114, 32, 112]⟩ : ByteArray)] from rfl) (Reps.one (show Kd.M Kd.string _ _ _ (⟨#[102, 111, 108, 100, 101, 114, 32, 112, 110]⟩ : ByteArray) [.string (⟨#[102, 111, 108, 100, 101, 114, 32, 112, 110]⟩ : ByteArray)] from rfl) (Reps.one (show Kd.M Kd.string _ _ _ (⟨#[100, 114, 111, 112, 32, 112]⟩ : ByteArray) [.string (⟨#[100, 114, 111, 112, 32, 112]⟩ : ByteArray)] from rfl) (Reps.one (show Kd.M Kd.string _ _ _ (⟨#[108, 105, 110, 107, 32, 112, 112]⟩ : ByteArray) [.string (⟨#[108, 105, 110, 107, 32, 112, 112]⟩ : ByteArray)] from rfl) (Reps.one (show Kd.M Kd.string _ _ _ (⟨#[109, 111, 118, 101, 32, 112, 112]⟩ : ByteArray) [.string (⟨#[109, 111, 118, 101, 32, 112, 112]⟩ : ByteArray)] from rfl) (Reps.one (show Kd.M Kd.string _ _ _ (⟨#[109, 111, 100, 101, 32, 112, 110]⟩ : ByteArray) [.string (⟨#[109, 111, 100, 101, 32, 112, 110]⟩ : ByteArray)] from rfl) (Reps.one (show Kd.M Kd.string _ _ _ (⟨#[111, 119, 110, 32, 112, 110]⟩ : ByteArray) [.string (⟨#[111, 119, 110, 32, 112, 110]⟩ : ByteArray)] from rfl) (Reps.one (show Kd.M Kd.string _ _ _ (⟨#[117, 115, 101, 114, 32, 110]⟩ : ByteArray) [.string (⟨#[117, 115, 101, 114, 32, 110]⟩ : ByteArray)] from rfl) (Reps.one (show Kd.M Kd.string _ _ _ (⟨#[109, 111, 117, 110, 116, 32, 112]⟩ : ByteArray) [.string (⟨#[109, 111, 117, 110, 116, 32, 112]⟩ : ByteArray)] from rfl) (Reps.one (show Kd.M Kd.string _ _ _ (⟨#[117, 110, 109, 111, 117, 110, 116]⟩ : ByteArray) [.string (⟨#[117, 110, 109, 111, 117, 110, 116]⟩ : ByteArray)] from rfl) (Reps.one (show Kd.M Kd.string _ _ _ (⟨#[114, 117, 110, 32, 112]⟩ : ByteArray) [.string (⟨#[114, 117, 110, 32, 112]⟩ : ByteArray)] from rfl) (Reps.one (show Kd.M Kd.string _ _ _ (⟨#[115, 101, 101, 107, 32, 110, 110]⟩ : ByteArray) [.string (⟨#[115, 101, 101, 107, 32, 110, 110]⟩ : ByteArray)] from rfl) (Reps.one (show Kd.M Kd.string _ _ _ (⟨#[119, 101, 105, 103, 104, 116, 32, 110]⟩ : ByteArray) [.string (⟨#[119, 101, 105, 103, 104, 116, 32, 110]⟩ : ByteArray)] from rfl) (Reps.one (show Kd.M Kd.string _ _ _ (⟨#[105, 100]⟩ : ByteArray) [.string (⟨#[105, 100]⟩ : ByteArray)] from rfl) (Reps.none _ _)))))))))))))))))))))))))))))))))); intro v102 w2 ho3 hb hg_ hnew_; clear hg_ hnew_; (first | rw [← Ny101.out] at ho3 | (simp only [Int.reduceToNat] at ho3; rw [← Ny101.out] at ho3)); have HO103 := Aside0.mk (Kd.R_lower ho3 (below_size (bz HB.out))); replace HB := Aside0.mk (below_step (bz HB.out) hb); clear hb ho3))
 repeat (go_quiet (first | ((with_reducible refine gate_dst (N := 7) rfl ?_); refine Kd.R_lit Kd.string _ 9 ?hg (N := 7) ?hd (xs := ([(⟨#[]⟩ : ByteArray), (⟨#[102, 111, 114, 107]⟩ : ByteArray), (⟨#[101, 120, 105, 116, 32, 110]⟩ : ByteArray), (⟨#[119, 97, 105, 116]⟩ : ByteArray), (⟨#[107, 105, 108, 108, 32, 110, 110]⟩ : ByteArray), (⟨#[115, 105, 103, 32, 110, 110]⟩ : ByteArray), (⟨#[98, 108, 111, 99, 107, 32, 110]⟩ : ByteArray), (⟨#[115, 105, 103, 115]⟩ : ByteArray), (⟨#[109, 97, 112, 32, 110, 110, 116]⟩ : ByteArray), (⟨#[117, 110, 109, 97, 112, 32, 110, 110]⟩ : ByteArray), (⟨#[108, 111, 97, 100, 32, 110]⟩ : ByteArray), (⟨#[115, 116, 111, 114, 101, 32, 110, 110]⟩ : ByteArray), (⟨#[111, 112, 101, 110, 32, 112, 110, 110]⟩ : ByteArray), (⟨#[99, 108, 111, 115, 101, 32, 110]⟩ : ByteArray), (⟨#[114, 101, 97, 100, 32, 110, 110]⟩ : ByteArray), (⟨#[119, 114, 105, 116, 101, 32, 110, 116]⟩ : ByteArray), (⟨#[100, 117, 112, 32, 110]⟩ : ByteArray), (⟨#[112, 105, 112, 101]⟩ : ByteArray), (⟨#[100, 105, 114, 32, 112]⟩ : ByteArray), (⟨#[102, 111, 108, 100, 101, 114, 32, 112, 110]⟩ : ByteArray), (⟨#[100, 114, 111, 112, 32, 112]⟩ : ByteArray), (⟨#[108, 105, 110, 107, 32, 112, 112]⟩ : ByteArray), (⟨#[109, 111, 118, 101, 32, 112, 112]⟩ : ByteArray), (⟨#[109, 111, 100, 101, 32, 112, 110]⟩ : ByteArray), (⟨#[111, 119, 110, 32, 112, 110]⟩ : ByteArray), (⟨#[117, 115, 101, 114, 32, 110]⟩ : ByteArray), (⟨#[109, 111, 117, 110, 116, 32, 112]⟩ : ByteArray), (⟨#[117, 110, 109, 111, 117, 110, 116]⟩ : ByteArray), (⟨#[114, 117, 110, 32, 112]⟩ : ByteArray), (⟨#[115, 101, 101, 107, 32, 110, 110]⟩ : ByteArray), (⟨#[119, 101, 105, 103, 104, 116, 32, 110]⟩ : ByteArray), (⟨#[105, 100]⟩ : ByteArray)] : List ByteArray)) (inner := [.string (⟨#[]⟩ : ByteArray), .string (⟨#[102, 111, 114, 107]⟩ : ByteArray), .string (⟨#[101, 120, 105, 116, 32, 110]⟩ : ByteArray), .string (⟨#[119, 97, 105, 116]⟩ : ByteArray), .string (⟨#[107, 105, 108, 108, 32, 110, 110]⟩ : ByteArray), .string (⟨#[115, 105, 103, 32, 110, 110]⟩ : ByteArray), .string (⟨#[98, 108, 111, 99, 107, 32, 110]⟩ : ByteArray), .string (⟨#[115, 105, 103, 115]⟩ : ByteArray), .string (⟨#[109, 97, 112, 32, 110, 110, 116]⟩ : ByteArray), .string (⟨#[117, 110, 109, 97, 112, 32, 110, 110]⟩ : ByteArray), .string (⟨#[108, 111, 97, 100, 32, 110]⟩ : ByteArray), .string (⟨#[115, 116, 111, 114, 101, 32, 110, 110]⟩ : ByteArray), .string (⟨#[111, 112, 101, 110, 32, 112, 110, 110]⟩ : ByteArray), .string (⟨#[99, 108, 111, 115, 101, 32, 110]⟩ : ByteArray), .string (⟨#[114, 101, 97, 100, 32, 110, 110]⟩ : ByteArray), .string (⟨#[119, 114, 105, 116, 101, 32, 110, 116]⟩ : ByteArray), .string (⟨#[100, 117, 112, 32, 110]⟩ : ByteArray), .string (⟨#[112, 105, 112, 101]⟩ : ByteArray), .string (⟨#[100, 105, 114, 32, 112]⟩ : ByteArray), .string (⟨#[102, 111, 108, 100, 101, 114, 32, 112, 110]⟩ : ByteArray), .string (⟨#[100, 114, 111, 112, 32, 112]⟩ : ByteArray), .string (⟨#[108, 105, 110, 107, 32, 112, 112]⟩ : ByteArray), .string (⟨#[109, 111, 118, 101, 32, 112, 112]⟩ : ByteArray), .string (⟨#[109, 111, 100, 101, 32, 112, 110]⟩ : ByteArray), .string (⟨#[111, 119, 110, 32, 112, 110]⟩ : ByteArray), .string (⟨#[117, 115, 101, 114, 32, 110]⟩ : ByteArray), .string (⟨#[109, 111, 117, 110, 116, 32, 112]⟩ : ByteArray), .string (⟨#[117, 110, 109, 111, 117, 110, 116]⟩ : ByteArray), .string (⟨#[114, 117, 110, 32, 112]⟩ : ByteArray), .string (⟨#[115, 101, 101, 107, 32, 110, 110]⟩ : ByteArray), .string (⟨#[119, 101, 105, 103, 104, 116, 32, 110]⟩ : ByteArray), .string (⟨#[105, 100]⟩ : ByteArray)]) (ok := fun _ => True) (okp := fun _ => True) ?hr ?hp (fun _ hk => hk) trivial (Below.refl _ _) (Nat.le_refl _) (by simp) ?_; (case hd => rfl); (case hg => rfl); (case hr => first | (go_simp; done) | (go_simp; rfl)); (case hp => exact (Reps.one (show Kd.M Kd.string _ _ _ (⟨#[]⟩ : ByteArray) [.string (⟨#[]⟩ : ByteArray)] from rfl) (Reps.one (show Kd.M Kd.string _ _ _ (⟨#[102, 111, 114, 107]⟩ : ByteArray) [.string (⟨#[102, 111, 114, 107]⟩ : ByteArray)] from rfl) (Reps.one (show Kd.M Kd.string _ _ _ (⟨#[101, 120, 105, 116, 32, 110]⟩ : ByteArray) [.string (⟨#[101, 120, 105, 116, 32, 110]⟩ : ByteArray)] from rfl) (Reps.one (show Kd.M Kd.string _ _ _ (⟨#[119, 97, 105, 116]⟩ : ByteArray) [.string (⟨#[119, 97, 105, 116]⟩ : ByteArray)] from rfl) (Reps.one (show Kd.M Kd.string _ _ _ (⟨#[107, 105, 108, 108, 32, 110, 110]⟩ : ByteArray) [.string (⟨#[107, 105, 108, 108, 32, 110, 110]⟩ : ByteArray)] from rfl) (Reps.one (show Kd.M Kd.string _ _ _ (⟨#[115, 105, 103, 32, 110, 110]⟩ : ByteArray) [.string (⟨#[115, 105, 103, 32, 110, 110]⟩ : ByteArray)] from rfl) (Reps.one (show Kd.M Kd.string _ _ _ (⟨#[98, 108, 111, 99, 107, 32, 110]⟩ : ByteArray) [.string (⟨#[98, 108, 111, 99, 107, 32, 110]⟩ : ByteArray)] from rfl) (Reps.one (show Kd.M Kd.string _ _ _ (⟨#[115, 105, 103, 115]⟩ : ByteArray) [.string (⟨#[115, 105, 103, 115]⟩ : ByteArray)] from rfl) (Reps.one (show Kd.M Kd.string _ _ _ (⟨#[109, 97, 112, 32, 110, 110, 116]⟩ : ByteArray) [.string (⟨#[109, 97, 112, 32, 110, 110, 116]⟩ : ByteArray)] from rfl) (Reps.one (show Kd.M Kd.string _ _ _ (⟨#[117, 110, 109, 97, 112, 32, 110, 110]⟩ : ByteArray) [.string (⟨#[117, 110, 109, 97, 112, 32, 110, 110]⟩ : ByteArray)] from rfl) (Reps.one (show Kd.M Kd.string _ _ _ (⟨#[108, 111, 97, 100, 32, 110]⟩ : ByteArray) [.string (⟨#[108, 111, 97, 100, 32, 110]⟩ : ByteArray)] from rfl) (Reps.one (show Kd.M Kd.string _ _ _ (⟨#[115, 116, 111, 114, 101, 32, 110, 110]⟩ : ByteArray) [.string (⟨#[115, 116, 111, 114, 101, 32, 110, 110]⟩ : ByteArray)] from rfl) (Reps.one (show Kd.M Kd.string _ _ _ (⟨#[111, 112, 101, 110, 32, 112, 110, 110]⟩ : ByteArray) [.string (⟨#[111, 112, 101, 110, 32, 112, 110, 110]⟩ : ByteArray)] from rfl) (Reps.one (show Kd.M Kd.string _ _ _ (⟨#[99, 108, 111, 115, 101, 32, 110]⟩ : ByteArray) [.string (⟨#[99, 108, 111, 115, 101, 32, 110]⟩ : ByteArray)] from rfl) (Reps.one (show Kd.M Kd.string _ _ _ (⟨#[114, 101, 97, 100, 32, 110, 110]⟩ : ByteArray) [.string (⟨#[114, 101, 97, 100, 32, 110, 110]⟩ : ByteArray)] from rfl) (Reps.one (show Kd.M Kd.string _ _ _ (⟨#[119, 114, 105, 116, 101, 32, 110, 116]⟩ : ByteArray) [.string (⟨#[119, 114, 105, 116, 101, 32, 110, 116]⟩ : ByteArray)] from rfl) (Reps.one (show Kd.M Kd.string _ _ _ (⟨#[100, 117, 112, 32, 110]⟩ : ByteArray) [.string (⟨#[100, 117, 112, 32, 110]⟩ : ByteArray)] from rfl) (Reps.one (show Kd.M Kd.string _ _ _ (⟨#[112, 105, 112, 101]⟩ : ByteArray) [.string (⟨#[112, 105, 112, 101]⟩ : ByteArray)] from rfl) (Reps.one (show Kd.M Kd.string _ _ _ (⟨#[100, 105, 114, 32, 112]⟩ : ByteArray) [.string (⟨#[100, 105, 114, 32, 112]⟩ : ByteArray)] from rfl) (Reps.one (show Kd.M Kd.string _ _ _ (⟨#[102, 111, 108, 100, 101, 114, 32, 112, 110]⟩ : ByteArray) [.string (⟨#[102, 111, 108, 100, 101, 114, 32, 112, 110]⟩ : ByteArray)] from rfl) (Reps.one (show Kd.M Kd.string _ _ _ (⟨#[100, 114, 111, 112, 32, 112]⟩ : ByteArray) [.string (⟨#[100, 114, 111, 112, 32, 112]⟩ : ByteArray)] from rfl) (Reps.one (show Kd.M Kd.string _ _ _ (⟨#[108, 105, 110, 107, 32, 112, 112]⟩ : ByteArray) [.string (⟨#[108, 105, 110, 107, 32, 112, 112]⟩ : ByteArray)] from rfl) (Reps.one (show Kd.M Kd.string _ _ _ (⟨#[109, 111, 118, 101, 32, 112, 112]⟩ : ByteArray) [.string (⟨#[109, 111, 118, 101, 32, 112, 112]⟩ : ByteArray)] from rfl) (Reps.one (show Kd.M Kd.string _ _ _ (⟨#[109, 111, 100, 101, 32, 112, 110]⟩ : ByteArray) [.string (⟨#[109, 111, 100, 101, 32, 112, 110]⟩ : ByteArray)] from rfl) (Reps.one (show Kd.M Kd.string _ _ _ (⟨#[111, 119, 110, 32, 112, 110]⟩ : ByteArray) [.string (⟨#[111, 119, 110, 32, 112, 110]⟩ : ByteArray)] from rfl) (Reps.one (show Kd.M Kd.string _ _ _ (⟨#[117, 115, 101, 114, 32, 110]⟩ : ByteArray) [.string (⟨#[117, 115, 101, 114, 32, 110]⟩ : ByteArray)] from rfl) (Reps.one (show Kd.M Kd.string _ _ _ (⟨#[109, 111, 117, 110, 116, 32, 112]⟩ : ByteArray) [.string (⟨#[109, 111, 117, 110, 116, 32, 112]⟩ : ByteArray)] from rfl) (Reps.one (show Kd.M Kd.string _ _ _ (⟨#[117, 110, 109, 111, 117, 110, 116]⟩ : ByteArray) [.string (⟨#[117, 110, 109, 111, 117, 110, 116]⟩ : ByteArray)] from rfl) (Reps.one (show Kd.M Kd.string _ _ _ (⟨#[114, 117, 110, 32, 112]⟩ : ByteArray) [.string (⟨#[114, 117, 110, 32, 112]⟩ : ByteArray)] from rfl) (Reps.one (show Kd.M Kd.string _ _ _ (⟨#[115, 101, 101, 107, 32, 110, 110]⟩ : ByteArray) [.string (⟨#[115, 101, 101, 107, 32, 110, 110]⟩ : ByteArray)] from rfl) (Reps.one (show Kd.M Kd.string _ _ _ (⟨#[119, 101, 105, 103, 104, 116, 32, 110]⟩ : ByteArray) [.string (⟨#[119, 101, 105, 103, 104, 116, 32, 110]⟩ : ByteArray)] from rfl) (Reps.one (show Kd.M Kd.string _ _ _ (⟨#[105, 100]⟩ : ByteArray) [.string (⟨#[105, 100]⟩ : ByteArray)] from rfl) (Reps.none _ _)))))))))))))))))))))))))))))))))); intro v102 w2 ho3 hb hg_ hnew_; clear hg_ hnew_; (first | rw [← Ny101.out] at ho3 | (simp only [Int.reduceToNat] at ho3; rw [← Ny101.out] at ho3)); have HO103 := Aside0.mk (Kd.R_lower ho3 (below_size (bz HB.out))); replace HB := Aside0.mk (below_step (bz HB.out) hb); clear hb ho3)); try go_wp2_with (first | ((with_reducible refine gate_dst (N := 7) rfl ?_); refine Kd.R_lit Kd.string _ 9 ?hg (N := 7) ?hd (xs := ([(⟨#[]⟩ : ByteArray), (⟨#[102, 111, 114, 107]⟩ : ByteArray), (⟨#[101, 120, 105, 116, 32, 110]⟩ : ByteArray), (⟨#[119, 97, 105, 116]⟩ : ByteArray), (⟨#[107, 105, 108, 108, 32, 110, 110]⟩ : ByteArray), (⟨#[115, 105, 103, 32, 110, 110]⟩ : ByteArray), (⟨#[98, 108, 111, 99, 107, 32, 110]⟩ : ByteArray), (⟨#[115, 105, 103, 115]⟩ : ByteArray), (⟨#[109, 97, 112, 32, 110, 110, 116]⟩ : ByteArray), (⟨#[117, 110, 109, 97, 112, 32, 110, 110]⟩ : ByteArray), (⟨#[108, 111, 97, 100, 32, 110]⟩ : ByteArray), (⟨#[115, 116, 111, 114, 101, 32, 110, 110]⟩ : ByteArray), (⟨#[111, 112, 101, 110, 32, 112, 110, 110]⟩ : ByteArray), (⟨#[99, 108, 111, 115, 101, 32, 110]⟩ : ByteArray), (⟨#[114, 101, 97, 100, 32, 110, 110]⟩ : ByteArray), (⟨#[119, 114, 105, 116, 101, 32, 110, 116]⟩ : ByteArray), (⟨#[100, 117, 112, 32, 110]⟩ : ByteArray), (⟨#[112, 105, 112, 101]⟩ : ByteArray), (⟨#[100, 105, 114, 32, 112]⟩ : ByteArray), (⟨#[102, 111, 108, 100, 101, 114, 32, 112, 110]⟩ : ByteArray), (⟨#[100, 114, 111, 112, 32, 112]⟩ : ByteArray), (⟨#[108, 105, 110, 107, 32, 112, 112]⟩ : ByteArray), (⟨#[109, 111, 118, 101, 32, 112, 112]⟩ : ByteArray), (⟨#[109, 111, 100, 101, 32, 112, 110]⟩ : ByteArray), (⟨#[111, 119, 110, 32, 112, 110]⟩ : ByteArray), (⟨#[117, 115, 101, 114, 32, 110]⟩ : ByteArray), (⟨#[109, 111, 117, 110, 116, 32, 112]⟩ : ByteArray), (⟨#[117, 110, 109, 111, 117, 110, 116]⟩ : ByteArray), (⟨#[114, 117, 110, 32, 112]⟩ : ByteArray), (⟨#[115, 101, 101, 107, 32, 110, 110]⟩ : ByteArray), (⟨#[119, 101, 105, 103, 104, 116, 32, 110]⟩ : ByteArray), (⟨#[105, 100]⟩ : ByteArray)] : List ByteArray)) (inner := [.string (⟨#[]⟩ : ByteArray), .string (⟨#[102, 111, 114, 107]⟩ : ByteArray), .string (⟨#[101, 120, 105, 116, 32, 110]⟩ : ByteArray), .string (⟨#[119, 97, 105, 116]⟩ : ByteArray), .string (⟨#[107, 105, 108, 108, 32, 110, 110]⟩ : ByteArray), .string (⟨#[115, 105, 103, 32, 110, 110]⟩ : ByteArray), .string (⟨#[98, 108, 111, 99, 107, 32, 110]⟩ : ByteArray), .string (⟨#[115, 105, 103, 115]⟩ : ByteArray), .string (⟨#[109, 97, 112, 32, 110, 110, 116]⟩ : ByteArray), .string (⟨#[117, 110, 109, 97, 112, 32, 110, 110]⟩ : ByteArray), .string (⟨#[108, 111, 97, 100, 32, 110]⟩ : ByteArray), .string (⟨#[115, 116, 111, 114, 101, 32, 110, 110]⟩ : ByteArray), .string (⟨#[111, 112, 101, 110, 32, 112, 110, 110]⟩ : ByteArray), .string (⟨#[99, 108, 111, 115, 101, 32, 110]⟩ : ByteArray), .string (⟨#[114, 101, 97, 100, 32, 110, 110]⟩ : ByteArray), .string (⟨#[119, 114, 105, 116, 101, 32, 110, 116]⟩ : ByteArray), .string (⟨#[100, 117, 112, 32, 110]⟩ : ByteArray), .string (⟨#[112, 105, 112, 101]⟩ : ByteArray), .string (⟨#[100, 105, 114, 32, 112]⟩ : ByteArray), .string (⟨#[102, 111, 108, 100, 101, 114, 32, 112, 110]⟩ : ByteArray), .string (⟨#[100, 114, 111, 112, 32, 112]⟩ : ByteArray), .string (⟨#[108, 105, 110, 107, 32, 112, 112]⟩ : ByteArray), .string (⟨#[109, 111, 118, 101, 32, 112, 112]⟩ : ByteArray), .string (⟨#[109, 111, 100, 101, 32, 112, 110]⟩ : ByteArray), .string (⟨#[111, 119, 110, 32, 112, 110]⟩ : ByteArray), .string (⟨#[117, 115, 101, 114, 32, 110]⟩ : ByteArray), .string (⟨#[109, 111, 117, 110, 116, 32, 112]⟩ : ByteArray), .string (⟨#[117, 110, 109, 111, 117, 110, 116]⟩ : ByteArray), .string (⟨#[114, 117, 110, 32, 112]⟩ : ByteArray), .string (⟨#[115, 101, 101, 107, 32, 110, 110]⟩ : ByteArray), .string (⟨#[119, 101, 105, 103, 104, 116, 32, 110]⟩ : ByteArray), .string (⟨#[105, 100]⟩ : ByteArray)]) (ok := fun _ => True) (okp := fun _ => True) ?hr ?hp (fun _ hk => hk) trivial (Below.refl _ _) (Nat.le_refl _) (by simp) ?_; (case hd => rfl); (case hg => rfl); (case hr => first | (go_simp; done) | (go_simp; rfl)); (case hp => exact (Reps.one (show Kd.M Kd.string _ _ _ (⟨#[]⟩ : ByteArray) [.string (⟨#[]⟩ : ByteArray)] from rfl) (Reps.one (show Kd.M Kd.string _ _ _ (⟨#[102, 111, 114, 107]⟩ : ByteArray) [.string (⟨#[102, 111, 114, 107]⟩ : ByteArray)] from rfl) (Reps.one (show Kd.M Kd.string _ _ _ (⟨#[101, 120, 105, 116, 32, 110]⟩ : ByteArray) [.string (⟨#[101, 120, 105, 116, 32, 110]⟩ : ByteArray)] from rfl) (Reps.one (show Kd.M Kd.string _ _ _ (⟨#[119, 97, 105, 116]⟩ : ByteArray) [.string (⟨#[119, 97, 105, 116]⟩ : ByteArray)] from rfl) (Reps.one (show Kd.M Kd.string _ _ _ (⟨#[107, 105, 108, 108, 32, 110, 110]⟩ : ByteArray) [.string (⟨#[107, 105, 108, 108, 32, 110, 110]⟩ : ByteArray)] from rfl) (Reps.one (show Kd.M Kd.string _ _ _ (⟨#[115, 105, 103, 32, 110, 110]⟩ : ByteArray) [.string (⟨#[115, 105, 103, 32, 110, 110]⟩ : ByteArray)] from rfl) (Reps.one (show Kd.M Kd.string _ _ _ (⟨#[98, 108, 111, 99, 107, 32, 110]⟩ : ByteArray) [.string (⟨#[98, 108, 111, 99, 107, 32, 110]⟩ : ByteArray)] from rfl) (Reps.one (show Kd.M Kd.string _ _ _ (⟨#[115, 105, 103, 115]⟩ : ByteArray) [.string (⟨#[115, 105, 103, 115]⟩ : ByteArray)] from rfl) (Reps.one (show Kd.M Kd.string _ _ _ (⟨#[109, 97, 112, 32, 110, 110, 116]⟩ : ByteArray) [.string (⟨#[109, 97, 112, 32, 110, 110, 116]⟩ : ByteArray)] from rfl) (Reps.one (show Kd.M Kd.string _ _ _ (⟨#[117, 110, 109, 97, 112, 32, 110, 110]⟩ : ByteArray) [.string (⟨#[117, 110, 109, 97, 112, 32, 110, 110]⟩ : ByteArray)] from rfl) (Reps.one (show Kd.M Kd.string _ _ _ (⟨#[108, 111, 97, 100, 32, 110]⟩ : ByteArray) [.string (⟨#[108, 111, 97, 100, 32, 110]⟩ : ByteArray)] from rfl) (Reps.one (show Kd.M Kd.string _ _ _ (⟨#[115, 116, 111, 114, 101, 32, 110, 110]⟩ : ByteArray) [.string (⟨#[115, 116, 111, 114, 101, 32, 110, 110]⟩ : ByteArray)] from rfl) (Reps.one (show Kd.M Kd.string _ _ _ (⟨#[111, 112, 101, 110, 32, 112, 110, 110]⟩ : ByteArray) [.string (⟨#[111, 112, 101, 110, 32, 112, 110, 110]⟩ : ByteArray)] from rfl) (Reps.one (show Kd.M Kd.string _ _ _ (⟨#[99, 108, 111, 115, 101, 32, 110]⟩ : ByteArray) [.string (⟨#[99, 108, 111, 115, 101, 32, 110]⟩ : ByteArray)] from rfl) (Reps.one (show Kd.M Kd.string _ _ _ (⟨#[114, 101, 97, 100, 32, 110, 110]⟩ : ByteArray) [.string (⟨#[114, 101, 97, 100, 32, 110, 110]⟩ : ByteArray)] from rfl) (Reps.one (show Kd.M Kd.string _ _ _ (⟨#[119, 114, 105, 116, 101, 32, 110, 116]⟩ : ByteArray) [.string (⟨#[119, 114, 105, 116, 101, 32, 110, 116]⟩ : ByteArray)] from rfl) (Reps.one (show Kd.M Kd.string _ _ _ (⟨#[100, 117, 112, 32, 110]⟩ : ByteArray) [.string (⟨#[100, 117, 112, 32, 110]⟩ : ByteArray)] from rfl) (Reps.one (show Kd.M Kd.string _ _ _ (⟨#[112, 105, 112, 101]⟩ : ByteArray) [.string (⟨#[112, 105, 112, 101]⟩ : ByteArray)] from rfl) (Reps.one (show Kd.M Kd.string _ _ _ (⟨#[100, 105, 114, 32, 112]⟩ : ByteArray) [.string (⟨#[100, 105, 114, 32, 112]⟩ : ByteArray)] from rfl) (Reps.one (show Kd.M Kd.string _ _ _ (⟨#[102, 111, 108, 100, 101, 114, 32, 112, 110]⟩ : ByteArray) [.string (⟨#[102, 111, 108, 100, 101, 114, 32, 112, 110]⟩ : ByteArray)] from rfl) (Reps.one (show Kd.M Kd.string _ _ _ (⟨#[100, 114, 111, 112, 32, 112]⟩ : ByteArray) [.string (⟨#[100, 114, 111, 112, 32, 112]⟩ : ByteArray)] from rfl) (Reps.one (show Kd.M Kd.string _ _ _ (⟨#[108, 105, 110, 107, 32, 112, 112]⟩ : ByteArray) [.string (⟨#[108, 105, 110, 107, 32, 112, 112]⟩ : ByteArray)] from rfl) (Reps.one (show Kd.M Kd.string _ _ _ (⟨#[109, 111, 118, 101, 32, 112, 112]⟩ : ByteArray) [.string (⟨#[109, 111, 118, 101, 32, 112, 112]⟩ : ByteArray)] from rfl) (Reps.one (show Kd.M Kd.string _ _ _ (⟨#[109, 111, 100, 101, 32, 112, 110]⟩ : ByteArray) [.string (⟨#[109, 111, 100, 101, 32, 112, 110]⟩ : ByteArray)] from rfl) (Reps.one (show Kd.M Kd.string _ _ _ (⟨#[111, 119, 110, 32, 112, 110]⟩ : ByteArray) [.string (⟨#[111, 119, 110, 32, 112, 110]⟩ : ByteArray)] from rfl) (Reps.one (show Kd.M Kd.string _ _ _ (⟨#[117, 115, 101, 114, 32, 110]⟩ : ByteArray) [.string (⟨#[117, 115, 101, 114, 32, 110]⟩ : ByteArray)] from rfl) (Reps.one (show Kd.M Kd.string _ _ _ (⟨#[109, 111, 117, 110, 116, 32, 112]⟩ : ByteArray) [.string (⟨#[109, 111, 117, 110, 116, 32, 112]⟩ : ByteArray)] from rfl) (Reps.one (show Kd.M Kd.string _ _ _ (⟨#[117, 110, 109, 111, 117, 110, 116]⟩ : ByteArray) [.string (⟨#[117, 110, 109, 111, 117, 110, 116]⟩ : ByteArray)] from rfl) (Reps.one (show Kd.M Kd.string _ _ _ (⟨#[114, 117, 110, 32, 112]⟩ : ByteArray) [.string (⟨#[114, 117, 110, 32, 112]⟩ : ByteArray)] from rfl) (Reps.one (show Kd.M Kd.string _ _ _ (⟨#[115, 101, 101, 107, 32, 110, 110]⟩ : ByteArray) [.string (⟨#[115, 101, 101, 107, 32, 110, 110]⟩ : ByteArray)] from rfl) (Reps.one (show Kd.M Kd.string _ _ _ (⟨#[119, 101, 105, 103, 104, 116, 32, 110]⟩ : ByteArray) [.string (⟨#[119, 101, 105, 103, 104, 116, 32, 110]⟩ : ByteArray)] from rfl) (Reps.one (show Kd.M Kd.string _ _ _ (⟨#[105, 100]⟩ : ByteArray) [.string (⟨#[105, 100]⟩ : ByteArray)] from rfl) (Reps.none _ _)))))))))))))))))))))))))))))))))); intro v102 w2 ho3 hb hg_ hnew_; clear hg_ hnew_; (first | rw [← Ny101.out] at ho3 | (simp only [Int.reduceToNat] at ho3; rw [← Ny101.out] at ho3)); have HO103 := Aside0.mk (Kd.R_lower ho3 (below_size (bz HB.out))); replace HB := Aside0.mk (below_step (bz HB.out) hb); clear hb ho3)))
 go_loopg [5] k (fun kq v5 w' => ∃ (x5_1 : Int), v5 = .int .i64 x5_1 ∧ Aside0 (spec_l18Form.l0 kq a0 y101 x5_1 = some (r1, r2)) ∧ Aside0 (kq ≤ k) ∧ Aside0 (Kd.R Kd.string 9 w' w.heap.size (fun _ => True) v102 y101) ∧ Aside0 (Below w.heap.size w w'))
 case atStart => exact ⟨(1), zr, H', ⟨Nat.le_refl _⟩, ⟨rz (HO103.out)⟩, ⟨bz HB.out⟩⟩
 case round =>
  clear H'
  obtain ⟨x5_1, rfl, HA, HK1, HO_4, HB⟩ := hrel
  cases gk with
  | zero => exact absurd HA.out (by simp [spec_l18Form.l0])
  | succ k1 =>
   have H := HA.out; clear HA; simp only [spec_l18Form.l0] at H
   by_cases c4 : x5_1 < (y101.length : Int)
   rotate_left
   ·
    rw [if_neg c4] at H; have c4b0 : decide (x5_1 < (y101.length : Int)) = false := decide_eq_false c4; clear c4; simp only [Option.some.injEq, Prod.mk.injEq] at H; obtain ⟨rfl, rfl⟩ := H; obtain ⟨Ao20, co20, eo20⟩ := Kd.R_slice HO_4.out; subst eo20
    go_wp2
    repeat (go_quiet (fail); try go_wp2)
    go_ret2
    exact ⟨ze, bz HB.out⟩
   rw [if_pos c4] at H; have c4b0 : decide (x5_1 < (y101.length : Int)) = true := decide_eq_true c4; clear c4
   by_cases c5 : 0 ≤ x5_1
   rotate_left
   ·
    rw [if_neg c5] at H
    exact absurd H (by simp)
   rw [if_pos c5] at H; have c5b0 : decide (0 ≤ x5_1) = true := decide_eq_true c5; clear c5; replace H := Option.bind_eq_some_iff.mp H; obtain ⟨t105, A60, H⟩ := H; have A6 := Aside0.mk A60; clear A60
   by_cases c7 : 0 < (t105.length : Int)
   rotate_left
   ·
    rw [if_neg c7] at H
    exact absurd H (by simp)
   rw [if_pos c7] at H; have c7b0 : decide (0 < (t105.length : Int)) = true := decide_eq_true c7; have c7b1 : decide (0 < t105.length) = true := decide_eq_true (by omega); clear c7
   by_cases c8 : (rdOf ByteArray.empty t105 0).toList = a0.toList
   rotate_left
   ·
    rw [if_neg c8] at H; have c8b0 : ((rdOf ByteArray.empty t105 0).toList == a0.toList) = false := beq_eq_false_iff_ne.mpr c8; have c8b1 : ((rdOf ByteArray.empty t105 0).toList != a0.toList) = true := bne_iff_ne.mpr c8; have H' := Aside0.mk H; clear H; obtain ⟨Ao17, co17, eo17⟩ := Kd.R_slice HO_4.out; subst eo17; have p104 : 0 ≤ (x5_1 : Int) := of_decide_eq_true zs; have q104 : x5_1 < (y101.length : Int) := of_decide_eq_true zs; obtain ⟨ad104, e104, hx104_0⟩ := Kd.at_string (Kd.R_reads' HO_4.out).2.2 x5_1 p104 q104; cases e104; replace p104 := eq_true p104; replace q104 := eq_true q104
    go_wp2_with (first | (go_at_call 10; (with_reducible refine (spec_l18Cut.calls k1 (rdOf ByteArray.empty y101 x5_1) 32 t105 _ A6.out).mono ?_); rintro e w18 ⟨v106, rfl, ho0, hb⟩; have HO107 := Aside0.mk (Kd.R_lower (Kd.R_new' ho0 (Kd.R_lt (rz HO_4.out))) (below_size (bz HB.out))); replace HO_4 := Aside0.mk (Kd.R_elder' (rz HO_4.out) (Kd.R_base ho0) hb); replace HB := Aside0.mk (below_step (bz HB.out) hb); (try clear hb); (try clear ho0); obtain ⟨Ao19, co19, eo19⟩ := Kd.R_slice HO107.out; subst eo19; have p108 : 0 ≤ (0 : Int) := (by omega); have q108 : 0 < (t105.length : Int) := of_decide_eq_true zs; obtain ⟨ad108, e108, hx108_0⟩ := Kd.at_string (Kd.R_reads' HO107.out).2.2 0 p108 q108; cases e108; have qi108 : (0 < t105.length) = True := eq_true (by omega); (try rw [show ((0 : Int)).toNat = 0 from rfl] at hx108_0); (try rw [Addr.add_zero'] at hx108_0); replace p108 := eq_true p108; replace q108 := eq_true q108))
    repeat (go_quiet (fail); try go_wp2_with (first | (go_at_call 10; (with_reducible refine (spec_l18Cut.calls k1 (rdOf ByteArray.empty y101 x5_1) 32 t105 _ A6.out).mono ?_); rintro e w18 ⟨v106, rfl, ho0, hb⟩; have HO107 := Aside0.mk (Kd.R_lower (Kd.R_new' ho0 (Kd.R_lt (rz HO_4.out))) (below_size (bz HB.out))); replace HO_4 := Aside0.mk (Kd.R_elder' (rz HO_4.out) (Kd.R_base ho0) hb); replace HB := Aside0.mk (below_step (bz HB.out) hb); (try clear hb); (try clear ho0); obtain ⟨Ao19, co19, eo19⟩ := Kd.R_slice HO107.out; subst eo19; have p108 : 0 ≤ (0 : Int) := (by omega); have q108 : 0 < (t105.length : Int) := of_decide_eq_true zs; obtain ⟨ad108, e108, hx108_0⟩ := Kd.at_string (Kd.R_reads' HO107.out).2.2 0 p108 q108; cases e108; have qi108 : (0 < t105.length) = True := eq_true (by omega); (try rw [show ((0 : Int)).toNat = 0 from rfl] at hx108_0); (try rw [Addr.add_zero'] at hx108_0); replace p108 := eq_true p108; replace q108 := eq_true q108)))
    go_roundg k1
    case measure => have := HK1.out; omega
    case rel => exact ⟨(wrap64 (x5_1 + 1)), zr, H', ⟨by have := HK1.out; omega⟩, ⟨rz (Kd.R_mono HO_4.out (fun _ hk => trivial))⟩, ⟨bz HB.out⟩⟩
   rw [if_pos c8] at H; have c8b0 : ((rdOf ByteArray.empty t105 0).toList == a0.toList) = true := beq_iff_eq.mpr c8; have c8b1 : ((rdOf ByteArray.empty t105 0).toList != a0.toList) = false := bne_eq_false_iff_eq.mpr c8; clear c8
   by_cases c9 : (t105.length : Int) = 1
   ·
    rw [if_pos c9] at H; have c9b0 : ((t105.length : Int) == 1) = true := beq_iff_eq.mpr c9; have c9b1 : ((t105.length : Int) != 1) = false := bne_eq_false_iff_eq.mpr c9; clear c9; simp only [Option.some.injEq, Prod.mk.injEq] at H; obtain ⟨rfl, rfl⟩ := H; obtain ⟨Ao10, co10, eo10⟩ := Kd.R_slice HO_4.out; subst eo10; have p104 : 0 ≤ (x5_1 : Int) := of_decide_eq_true zs; have q104 : x5_1 < (y101.length : Int) := of_decide_eq_true zs; obtain ⟨ad104, e104, hx104_0⟩ := Kd.at_string (Kd.R_reads' HO_4.out).2.2 x5_1 p104 q104; cases e104; replace p104 := eq_true p104; replace q104 := eq_true q104
    go_wp2_with (first | (go_at_call 10; (with_reducible refine (spec_l18Cut.calls k1 (rdOf ByteArray.empty y101 x5_1) 32 t105 _ A6.out).mono ?_); rintro e w11 ⟨v106, rfl, ho0, hb⟩; have HO107 := Aside0.mk (Kd.R_lower (Kd.R_new' ho0 (Kd.R_lt (rz HO_4.out))) (below_size (bz HB.out))); replace HO_4 := Aside0.mk (Kd.R_elder' (rz HO_4.out) (Kd.R_base ho0) hb); replace HB := Aside0.mk (below_step (bz HB.out) hb); (try clear hb); (try clear ho0); obtain ⟨Ao12, co12, eo12⟩ := Kd.R_slice HO107.out; subst eo12; have p108 : 0 ≤ (0 : Int) := (by omega); have q108 : 0 < (t105.length : Int) := of_decide_eq_true zs; obtain ⟨ad108, e108, hx108_0⟩ := Kd.at_string (Kd.R_reads' HO107.out).2.2 0 p108 q108; cases e108; have qi108 : (0 < t105.length) = True := eq_true (by omega); (try rw [show ((0 : Int)).toNat = 0 from rfl] at hx108_0); (try rw [Addr.add_zero'] at hx108_0); replace p108 := eq_true p108; replace q108 := eq_true q108))
    repeat (go_quiet (fail); try go_wp2_with (first | (go_at_call 10; (with_reducible refine (spec_l18Cut.calls k1 (rdOf ByteArray.empty y101 x5_1) 32 t105 _ A6.out).mono ?_); rintro e w11 ⟨v106, rfl, ho0, hb⟩; have HO107 := Aside0.mk (Kd.R_lower (Kd.R_new' ho0 (Kd.R_lt (rz HO_4.out))) (below_size (bz HB.out))); replace HO_4 := Aside0.mk (Kd.R_elder' (rz HO_4.out) (Kd.R_base ho0) hb); replace HB := Aside0.mk (below_step (bz HB.out) hb); (try clear hb); (try clear ho0); obtain ⟨Ao12, co12, eo12⟩ := Kd.R_slice HO107.out; subst eo12; have p108 : 0 ≤ (0 : Int) := (by omega); have q108 : 0 < (t105.length : Int) := of_decide_eq_true zs; obtain ⟨ad108, e108, hx108_0⟩ := Kd.at_string (Kd.R_reads' HO107.out).2.2 0 p108 q108; cases e108; have qi108 : (0 < t105.length) = True := eq_true (by omega); (try rw [show ((0 : Int)).toNat = 0 from rfl] at hx108_0); (try rw [Addr.add_zero'] at hx108_0); replace p108 := eq_true p108; replace q108 := eq_true q108)))
    go_ret2
    exact ⟨ze, bz HB.out⟩
   rw [if_neg c9] at H; have c9b0 : ((t105.length : Int) == 1) = false := beq_eq_false_iff_ne.mpr c9; have c9b1 : ((t105.length : Int) != 1) = true := bne_iff_ne.mpr c9
   by_cases c13 : 1 < (t105.length : Int)
   rotate_left
   ·
    rw [if_neg c13] at H
    exact absurd H (by simp)
   rw [if_pos c13] at H; have c13b0 : decide (1 < (t105.length : Int)) = true := decide_eq_true c13; have c13b1 : decide (1 < t105.length) = true := decide_eq_true (by omega); clear c13; simp only [Option.some.injEq, Prod.mk.injEq] at H; obtain ⟨rfl, rfl⟩ := H; obtain ⟨Ao14, co14, eo14⟩ := Kd.R_slice HO_4.out; subst eo14; have p104 : 0 ≤ (x5_1 : Int) := of_decide_eq_true zs; have q104 : x5_1 < (y101.length : Int) := of_decide_eq_true zs; obtain ⟨ad104, e104, hx104_0⟩ := Kd.at_string (Kd.R_reads' HO_4.out).2.2 x5_1 p104 q104; cases e104; replace p104 := eq_true p104; replace q104 := eq_true q104
   go_wp2_with (first | (go_at_call 10; (with_reducible refine (spec_l18Cut.calls k1 (rdOf ByteArray.empty y101 x5_1) 32 t105 _ A6.out).mono ?_); rintro e w15 ⟨v106, rfl, ho0, hb⟩; have HO107 := Aside0.mk (Kd.R_lower (Kd.R_new' ho0 (Kd.R_lt (rz HO_4.out))) (below_size (bz HB.out))); replace HO_4 := Aside0.mk (Kd.R_elder' (rz HO_4.out) (Kd.R_base ho0) hb); replace HB := Aside0.mk (below_step (bz HB.out) hb); (try clear hb); (try clear ho0); obtain ⟨Ao16, co16, eo16⟩ := Kd.R_slice HO107.out; subst eo16; have p108 : 0 ≤ (0 : Int) := (by omega); have q108 : 0 < (t105.length : Int) := of_decide_eq_true zs; obtain ⟨ad108, e108, hx108_0⟩ := Kd.at_string (Kd.R_reads' HO107.out).2.2 0 p108 q108; cases e108; have qi108 : (0 < t105.length) = True := eq_true (by omega); (try rw [show ((0 : Int)).toNat = 0 from rfl] at hx108_0); (try rw [Addr.add_zero'] at hx108_0); replace p108 := eq_true p108; replace q108 := eq_true q108; have p109 : 0 ≤ (1 : Int) := (by omega); have q109 : 1 < (t105.length : Int) := of_decide_eq_true zs; obtain ⟨ad109, e109, hx109_0⟩ := Kd.at_string (Kd.R_reads' HO107.out).2.2 1 p109 q109; obtain rfl : ad108 = ad109 := (by injection e109); (try simp only [show (1 : Int).toNat = 1 from rfl, Nat.reduceMul, Nat.reduceEqDiff, Go.Addr.add, ↓reduceIte] at hx109_0); have qi109 : (1 < t105.length) = True := eq_true (by omega); (try rw [show ((1 : Int)).toNat = 1 from rfl] at hx109_0); replace p109 := eq_true p109; replace q109 := eq_true q109))
   repeat (go_quiet (fail); try go_wp2_with (first | (go_at_call 10; (with_reducible refine (spec_l18Cut.calls k1 (rdOf ByteArray.empty y101 x5_1) 32 t105 _ A6.out).mono ?_); rintro e w15 ⟨v106, rfl, ho0, hb⟩; have HO107 := Aside0.mk (Kd.R_lower (Kd.R_new' ho0 (Kd.R_lt (rz HO_4.out))) (below_size (bz HB.out))); replace HO_4 := Aside0.mk (Kd.R_elder' (rz HO_4.out) (Kd.R_base ho0) hb); replace HB := Aside0.mk (below_step (bz HB.out) hb); (try clear hb); (try clear ho0); obtain ⟨Ao16, co16, eo16⟩ := Kd.R_slice HO107.out; subst eo16; have p108 : 0 ≤ (0 : Int) := (by omega); have q108 : 0 < (t105.length : Int) := of_decide_eq_true zs; obtain ⟨ad108, e108, hx108_0⟩ := Kd.at_string (Kd.R_reads' HO107.out).2.2 0 p108 q108; cases e108; have qi108 : (0 < t105.length) = True := eq_true (by omega); (try rw [show ((0 : Int)).toNat = 0 from rfl] at hx108_0); (try rw [Addr.add_zero'] at hx108_0); replace p108 := eq_true p108; replace q108 := eq_true q108; have p109 : 0 ≤ (1 : Int) := (by omega); have q109 : 1 < (t105.length : Int) := of_decide_eq_true zs; obtain ⟨ad109, e109, hx109_0⟩ := Kd.at_string (Kd.R_reads' HO107.out).2.2 1 p109 q109; obtain rfl : ad108 = ad109 := (by injection e109); (try simp only [show (1 : Int).toNat = 1 from rfl, Nat.reduceMul, Nat.reduceEqDiff, Go.Addr.add, ↓reduceIte] at hx109_0); have qi109 : (1 < t105.length) = True := eq_true (by omega); (try rw [show ((1 : Int)).toNat = 1 from rfl] at hx109_0); replace p109 := eq_true p109; replace q109 := eq_true q109)))
   go_ret2
   exact ⟨ze, bz HB.out⟩

end Go.Proofs.YtkjjlkkfhbfbmaaDoor.P

namespace Go.Proofs.YtkjjlkkfhbfbmaaDoor.P
open Go.RowKit Go.Proofs.YtkjjlkkfhbfbmaaDoorW.PrintWords Go.Proofs.YtkjjlkkfhbfbmaaDoorW.PrintLast Go.Proofs.YtkjjlkkfhbfbmaaDoorW.PrintMore
attribute [local go_sem] max2_int min2_int max_two min_two max_three min_three max_four min_four Q.cell_set_map Q.str_gtr Q.str_geq Q.str_leq
set_option linter.unusedVariables false
set_option linter.unusedSimpArgs false

/-! ### spec_l6In: function 23 -/
def spec_l6In.f (a0 : Int) (a1 : Int) (a2 : Int) : Option (Bool) := if a0 ≥ a1 then (some (decide (a0 ≤ a2))) else (some false)
set_option maxHeartbeats 8000000 in
set_option maxRecDepth 100000 in
theorem spec_l6In.calls (a0 : Int) (a1 : Int) (a2 : Int) (r : Bool) (w : World) (h : spec_l6In.f a0 a1 a2 = some r) :
  Calls Tryd.prog 23 #[.int .i64 a0, .int .i64 a1, .int .i64 a2] w fun e w' => e = .returned (.bool r) ∧ Drawn0 w w' := by
 have H : (if a0 ≥ a1 then (some (decide (a0 ≤ a2))) else (some false)) = some r := h
 clear h
 by_cases c4 : a0 ≥ a1
 ·
  rw [if_pos c4] at H
  have c4b0 : decide (a1 ≤ a0) = true := decide_eq_true c4
  clear c4
  obtain rfl := Option.some.inj H
  go_enter Tryd.func23, Tryd.ntmps23
  go_wp2
  go_ret
  exact ⟨by first | rfl | (simp; done) | (simp [*]; done), by repeat (first | exact Drawn0.refl _ | apply Drawn0.step)⟩
 ·
  rw [if_neg c4] at H
  have c4b0 : decide (a1 ≤ a0) = false := decide_eq_false c4
  clear c4
  obtain rfl := Option.some.inj H
  go_enter Tryd.func23, Tryd.ntmps23
  go_wp2
  go_ret
  exact ⟨by first | rfl | (simp; done) | (simp [*]; done), by repeat (first | exact Drawn0.refl _ | apply Drawn0.step)⟩

end Go.Proofs.YtkjjlkkfhbfbmaaDoor.P

namespace Go.Proofs.YtkjjlkkfhbfbmaaDoor.P
open Go.RowKit Go.Proofs.YtkjjlkkfhbfbmaaDoorW.PrintWords Go.Proofs.YtkjjlkkfhbfbmaaDoorW.PrintLast Go.Proofs.YtkjjlkkfhbfbmaaDoorW.PrintMore
attribute [local go_sem] max2_int min2_int max_two min_two max_three min_three max_four min_four Q.cell_set_map Q.str_gtr Q.str_geq Q.str_leq
set_option linter.unusedVariables false
set_option linter.unusedSimpArgs false

/-! ### spec_l7Name: function 34 -/
def spec_l7Name.l0 : Nat → ByteArray → Int → Option (Bool)
 | 0, _, _ => none
 | k + 1, x0, x3 => if x3 < (x0.size : Int) then (if 0 ≤ x3 then (if (bt x0 x3) < 97 then (some false) else (if (bt x0 x3) > 122 then (some false) else (spec_l7Name.l0 k x0 (wrap64 (x3 + 1))))) else (none)) else ((spec_l6In.f (x0.size : Int) 1 3).bind fun t101 => (some t101))
def spec_l7Name.f (k : Nat) (a0 : ByteArray) : Option (Bool) := spec_l7Name.l0 k a0 0
theorem spec_l7Name.mono_l : ∀ k, (∀ y0 y1, LeO (spec_l7Name.l0 k y0 y1) (spec_l7Name.l0 (k + 1) y0 y1))
 | 0 => fun _ _ r h => by simp [spec_l7Name.l0] at h
 | k + 1 => by
  have ih0 := spec_l7Name.mono_l k
  ·
   intro y0 y1
   unfold spec_l7Name.l0
   repeat' first
   | (with_reducible exact ih0 _ _)
   | (with_reducible exact LeO.refl _)
   | (with_reducible exact LeO.none _)
   | (with_reducible refine LeO.ite ?_ ?_)
   | (with_reducible refine LeO.bind ?_ (fun _ => ?_))
   | exact ih0 _ _
   | exact LeO.none _
   | refine LeO.ite ?_ ?_
   | refine LeO.bind ?_ (fun _ => ?_)
theorem spec_l7Name.mono : ∀ a0 k, LeO (spec_l7Name.f k a0) (spec_l7Name.f (k + 1) a0) := by
 intro a0 k
 have ih0 := spec_l7Name.mono_l k
 unfold spec_l7Name.f
 repeat' first
   | (with_reducible exact ih0 _ _)
   | (with_reducible exact LeO.refl _)
   | (with_reducible exact LeO.none _)
   | (with_reducible refine LeO.ite ?_ ?_)
   | (with_reducible refine LeO.bind ?_ (fun _ => ?_))
   | exact ih0 _ _
   | exact LeO.none _
   | refine LeO.ite ?_ ?_
   | refine LeO.bind ?_ (fun _ => ?_)
set_option maxHeartbeats 8000000 in
set_option maxRecDepth 100000 in
theorem spec_l7Name.calls (k : Nat) (a0 : ByteArray) (r : Bool) (w : World) (h : spec_l7Name.f k a0 = some r) :
  Calls Tryd.prog 34 #[.string a0] w fun e w' => e = .returned (.bool r) ∧ Drawn0 w w' := by
 have H : (spec_l7Name.l0 k a0 0) = some r := h
 clear h
 have H' := Aside0.mk H
 clear H
 go_enter Tryd.func34, Tryd.ntmps34
 go_wp2
 go_loopg [3] k (fun kq v3 w' => ∃ (x3_1 : Int), v3 = .int .i64 x3_1 ∧ Aside0 (spec_l7Name.l0 kq a0 x3_1 = some r) ∧ Aside0 (kq ≤ k) ∧ Drawn0 w w')
 case atStart => exact ⟨(0), zr, H', ⟨Nat.le_refl _⟩, by repeat (first | exact Drawn0.refl _ | apply Drawn0.step)⟩
 case round =>
  clear H'
  obtain ⟨x3_1, rfl, HA, HK1, ⟨m1, rfl⟩⟩ := hrel
  cases gk with
  | zero => exact absurd HA.out (by simp [spec_l7Name.l0])
  | succ k1 =>
   have H := HA.out
   clear HA
   simp only [spec_l7Name.l0] at H
   by_cases c2 : x3_1 < (a0.size : Int)
   ·
    rw [if_pos c2] at H
    have c2b0 : decide (x3_1 < (a0.size : Int)) = true := decide_eq_true c2
    clear c2
    by_cases c3 : 0 ≤ x3_1
    ·
     rw [if_pos c3] at H
     have c3b0 : decide (0 ≤ x3_1) = true := decide_eq_true c3
     clear c3
     by_cases c5 : (bt a0 x3_1) < 97
     ·
      rw [if_pos c5] at H
      have c5b0 : decide ((bt a0 x3_1) < 97) = true := decide_eq_true c5
      clear c5
      obtain rfl := Option.some.inj H
      have p4 : 0 ≤ (x3_1 : Int) := of_decide_eq_true zs
      have q4 : x3_1 < (a0.size : Int) := of_decide_eq_true zs
      have hx4 := bt_at a0 x3_1
      replace p4 := eq_true p4
      replace q4 := eq_true q4
      go_wp2
      go_ret
      exact ⟨by first | rfl | (simp; done) | (simp [*]; done), by repeat (first | exact Drawn0.refl _ | apply Drawn0.step)⟩
     ·
      rw [if_neg c5] at H
      have c5b0 : decide ((bt a0 x3_1) < 97) = false := decide_eq_false c5
      clear c5
      by_cases c7 : (bt a0 x3_1) > 122
      ·
       rw [if_pos c7] at H
       have c7b0 : decide (122 < (bt a0 x3_1)) = true := decide_eq_true c7
       clear c7
       obtain rfl := Option.some.inj H
       have p4 : 0 ≤ (x3_1 : Int) := of_decide_eq_true zs
       have q4 : x3_1 < (a0.size : Int) := of_decide_eq_true zs
       have hx4 := bt_at a0 x3_1
       replace p4 := eq_true p4
       replace q4 := eq_true q4
       have p6 : 0 ≤ (x3_1 : Int) := of_decide_eq_true zs
       have q6 : x3_1 < (a0.size : Int) := of_decide_eq_true zs
       have hx6 := bt_at a0 x3_1
       replace p6 := eq_true p6
       replace q6 := eq_true q6
       go_wp2
       go_ret
       exact ⟨by first | rfl | (simp; done) | (simp [*]; done), by repeat (first | exact Drawn0.refl _ | apply Drawn0.step)⟩
      ·
       rw [if_neg c7] at H
       have c7b0 : decide (122 < (bt a0 x3_1)) = false := decide_eq_false c7
       clear c7
       have H' := Aside0.mk H
       clear H
       have p4 : 0 ≤ (x3_1 : Int) := of_decide_eq_true zs
       have q4 : x3_1 < (a0.size : Int) := of_decide_eq_true zs
       have hx4 := bt_at a0 x3_1
       replace p4 := eq_true p4
       replace q4 := eq_true q4
       have p6 : 0 ≤ (x3_1 : Int) := of_decide_eq_true zs
       have q6 : x3_1 < (a0.size : Int) := of_decide_eq_true zs
       have hx6 := bt_at a0 x3_1
       replace p6 := eq_true p6
       replace q6 := eq_true q6
       go_wp2
       go_roundg k1
       case measure => have := HK1.out; omega
       case rel => exact ⟨(wrap64 (x3_1 + 1)), zr, H', ⟨by have := HK1.out; omega⟩, by repeat (first | exact Drawn0.refl _ | apply Drawn0.step)⟩
    ·
     rw [if_neg c3] at H
     exact absurd H (by simp)
   ·
    rw [if_neg c2] at H
    have c2b0 : decide (x3_1 < (a0.size : Int)) = false := decide_eq_false c2
    clear c2
    replace H := Option.bind_eq_some_iff.mp H
    obtain ⟨t101, A80, H⟩ := H
    have A8 := Aside0.mk A80
    clear A80
    obtain rfl := Option.some.inj H
    go_wp2_with (first | ((with_reducible refine gate_callee (f := 23) rfl ?_); refine goesL_ (some 22) rfl rfl Tryd.func23 zk rfl #[.int .i64 (a0.size : Int), .int .i64 1, .int .i64 3] rfl zm ?_; (with_reducible refine (spec_l6In.calls (a0.size : Int) 1 3 t101 _ A8.out).mono ?_); rintro e w' ⟨rfl, ⟨nd, rfl⟩⟩; refine ⟨_, rfl, ?_⟩))
    go_ret
    exact ⟨by first | rfl | (simp; done) | (simp [*]; done), by repeat (first | exact Drawn0.refl _ | apply Drawn0.step)⟩

end Go.Proofs.YtkjjlkkfhbfbmaaDoor.P
