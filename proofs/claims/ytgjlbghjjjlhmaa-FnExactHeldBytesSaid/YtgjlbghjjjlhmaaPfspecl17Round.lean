-- printed by wip/qd.py
import Derived.Test.YtgjlbghjjjlhmaaPf0
import Derived.Test.YtgjlbghjjjlhmaaPfspecl17Who
namespace Go.Proofs.Ytgjlbghjjjlhmaa.P
open Go.RowKit Go.Proofs.YtgjlbghjjjlhmaaW.PrintWords Go.Proofs.YtgjlbghjjjlhmaaW.PrintLast Go.Proofs.YtgjlbghjjjlhmaaW.PrintMore
attribute [local go_sem] max2_int min2_int max_two min_two max_three min_three max_four min_four Q.cell_set_map
set_option linter.unusedVariables false
set_option linter.unusedSimpArgs false

/-! ### spec_l17Round: function 37 -/
mutual
def spec_l17Round.l0 : Nat → List (S40) → List (S40) → Int → List Bool → List Int → Option (Bool)
 | 0, _, _, _, _, _ => none
 | k + 1, x0, x1, x3, x9, x10 => if (x10.length : Int) > 0 then (if 0 < (x10.length : Int) then ((some (([] : List Int) : List Int)).bind fun y111 => (if 1 ≤ (x10.length : Int) then ((some (x10.drop 1 : List Int)).bind fun y114 => (if y111.length + y114.length < 17592186044416 then ((some (y111 ++ y114 : List Int)).bind fun y118 => (if (rd x10 0) = x3 then (some true) else (if 0 ≤ (rd x10 0) then (if (rd x10 0) < (x9.length : Int) then (if rdOf false x9 (rd x10 0) = true then (spec_l17Round.l0 k x0 x1 x3 x9 y118) else (spec_l17Round.l1 k x0 x1 x3 (x9.set ((rd x10 0) : Int).toNat true) y118 (rd x10 0) 0)) else (none)) else (none)))) else (none))) else (none))) else (none)) else (some false)
def spec_l17Round.l1 : Nat → List (S40) → List (S40) → Int → List Bool → List Int → Int → Int → Option (Bool)
 | 0, _, _, _, _, _, _, _ => none
 | k + 1, x0, x1, x3, x9, x10, x11, x12 => if x12 < (x1.length : Int) then (if 0 ≤ x12 then (if ((rd_T40 x1 x12).f0) = x11 then ((spec_l17Who.f k x0 ((rd_T40 x1 x12).f0) ((rd_T40 x1 x12).f1) ((rd_T40 x1 x12).f2) ((rd_T40 x1 x12).f3)).bind fun t125 => (if x10.length + t125.length < 17592186044416 then (spec_l17Round.l1 k x0 x1 x3 x9 (x10 ++ t125) x11 (wrap64 (x12 + 1))) else (none))) else (spec_l17Round.l1 k x0 x1 x3 x9 x10 x11 (wrap64 (x12 + 1)))) else (none)) else (spec_l17Round.l0 k x0 x1 x3 x9 x10)
end
def spec_l17Round.f (k : Nat) (l0 : List (S40)) (l1 : List (S40)) (l2 : List Int) (a3 : Int) : Option (Bool) := if 4 ≤ 281474976710656 then ((some (([] : List Int) : List Int)).bind fun y104 => (if y104.length + l2.length < 17592186044416 then (spec_l17Round.l0 k l0 l1 a3 (List.replicate 4 false) (y104 ++ l2)) else (none))) else (none)
theorem spec_l17Round.mono_l : ∀ k, (∀ y0 y1 y2 y3 y4, LeO (spec_l17Round.l0 k y0 y1 y2 y3 y4) (spec_l17Round.l0 (k + 1) y0 y1 y2 y3 y4)) ∧ (∀ y0 y1 y2 y3 y4 y5 y6, LeO (spec_l17Round.l1 k y0 y1 y2 y3 y4 y5 y6) (spec_l17Round.l1 (k + 1) y0 y1 y2 y3 y4 y5 y6))
 | 0 => ⟨fun _ _ _ _ _ r h => by simp [spec_l17Round.l0] at h, fun _ _ _ _ _ _ _ r h => by simp [spec_l17Round.l1] at h⟩
 | k + 1 => by
  obtain ⟨ih0, ih1⟩ := spec_l17Round.mono_l k
  refine ⟨?_, ?_⟩
  ·
   intro y0 y1 y2 y3 y4
   unfold spec_l17Round.l0
   repeat' first
   | (with_reducible exact ih0 _ _ _ _ _)
   | (with_reducible exact ih1 _ _ _ _ _ _ _)
   | (with_reducible exact spec_l17Who.mono _ _ _ _ _ _)
   | (with_reducible exact LeO.refl _)
   | (with_reducible exact LeO.none _)
   | (with_reducible refine LeO.ite ?_ ?_)
   | (with_reducible refine LeO.bind ?_ (fun _ => ?_))
   | exact ih0 _ _ _ _ _
   | exact ih1 _ _ _ _ _ _ _
   | exact spec_l17Who.mono _ _ _ _ _ _
   | exact LeO.none _
   | refine LeO.ite ?_ ?_
   | refine LeO.bind ?_ (fun _ => ?_)
  ·
   intro y0 y1 y2 y3 y4 y5 y6
   unfold spec_l17Round.l1
   repeat' first
   | (with_reducible exact ih0 _ _ _ _ _)
   | (with_reducible exact ih1 _ _ _ _ _ _ _)
   | (with_reducible exact spec_l17Who.mono _ _ _ _ _ _)
   | (with_reducible exact LeO.refl _)
   | (with_reducible exact LeO.none _)
   | (with_reducible refine LeO.ite ?_ ?_)
   | (with_reducible refine LeO.bind ?_ (fun _ => ?_))
   | exact ih0 _ _ _ _ _
   | exact ih1 _ _ _ _ _ _ _
   | exact spec_l17Who.mono _ _ _ _ _ _
   | exact LeO.none _
   | refine LeO.ite ?_ ?_
   | refine LeO.bind ?_ (fun _ => ?_)
theorem spec_l17Round.mono : ∀ a0 a1 a2 a3 k, LeO (spec_l17Round.f k a0 a1 a2 a3) (spec_l17Round.f (k + 1) a0 a1 a2 a3) := by
 intro a0 a1 a2 a3 k
 obtain ⟨ih0, ih1⟩ := spec_l17Round.mono_l k
 unfold spec_l17Round.f
 repeat' first
   | (with_reducible exact ih0 _ _ _ _ _)
   | (with_reducible exact ih1 _ _ _ _ _ _ _)
   | (with_reducible exact spec_l17Who.mono _ _ _ _ _ _)
   | (with_reducible exact LeO.refl _)
   | (with_reducible exact LeO.none _)
   | (with_reducible refine LeO.ite ?_ ?_)
   | (with_reducible refine LeO.bind ?_ (fun _ => ?_))
   | exact ih0 _ _ _ _ _
   | exact ih1 _ _ _ _ _ _ _
   | exact spec_l17Who.mono _ _ _ _ _ _
   | exact LeO.none _
   | refine LeO.ite ?_ ?_
   | refine LeO.bind ?_ (fun _ => ?_)
set_option maxHeartbeats 8000000 in
set_option maxRecDepth 100000 in
theorem spec_l17Round.calls (k : Nat) (A0 : Option Addr) (c0 : Nat) (l0 : List (S40)) (A1 : Option Addr) (c1 : Nat) (l1 : List (S40)) (A2 : Option Addr) (c2 : Nat) (l2 : List Int) (a3 : Int) (r : Bool) (w : World) (hr0 : Kd.C k40 w A0 l0.length l0) (hc0 : l0.length ≤ c0) (hr1 : Kd.C k40 w A1 l1.length l1) (hc1 : l1.length ≤ c1) (hr2 : Kd.C (Kd.int .i64) w A2 l2.length l2) (hc2 : l2.length ≤ c2) (h : spec_l17Round.f k l0 l1 l2 a3 = some r) :
  Calls Try.prog 37 #[.slice A0 l0.length c0, .slice A1 l1.length c1, .slice A2 l2.length c2, .int .i64 a3] w fun e w' => e = .returned (.bool r) ∧ Below w.heap.size w w' := by
 have hu40 := Try.underlying40; have HR0 := Aside0.mk hr0; have HC0 := Aside0.mk hc0; clear hr0 hc0; have HR1 := Aside0.mk hr1; have HC1 := Aside0.mk hc1; clear hr1 hc1; have HR2 := Aside0.mk hr2; have HC2 := Aside0.mk hc2; clear hr2 hc2; have HB := Aside0.mk (Below.refl w.heap.size w); have H : (if 4 ≤ 281474976710656 then ((some (([] : List Int) : List Int)).bind fun y104 => (if y104.length + l2.length < 17592186044416 then (spec_l17Round.l0 k l0 l1 a3 (List.replicate 4 false) (y104 ++ l2)) else (none))) else (none)) = some r := h; clear h
 by_cases c5 : 4 ≤ 281474976710656
 ·
  rw [if_pos c5] at H; have c5b0 := eq_true c5; have c5b1 : decide (4 ≤ 281474976710656) = true := decide_eq_true c5; clear c5; obtain ⟨y101, hy101⟩ : ∃ y_ : List Bool, y_ = (List.replicate 4 false) := ⟨_, rfl⟩
  replace H : ((some (([] : List Int) : List Int)).bind fun y104 => (if y104.length + l2.length < 17592186044416 then (spec_l17Round.l0 k l0 l1 a3 y101 (y104 ++ l2)) else (none))) = some r := by first | (rw [hy101]; with_reducible exact H) | (have H2_ := (Option.bind_some _ _).symm.trans H; rw [hy101]; with_reducible exact H2_) | (have H2_ := (Option.bind_some _ _).symm.trans H; with_reducible exact H2_) | with_reducible exact H | (rw [hy101]; exact H) | exact H
  have Ny101 := Aside0.mk hy101; clear hy101; obtain ⟨y104, hy104⟩ : ∃ y_ : List Int, y_ = (([] : List Int)) := ⟨_, rfl⟩
  replace H : (if y104.length + l2.length < 17592186044416 then (spec_l17Round.l0 k l0 l1 a3 y101 (y104 ++ l2)) else (none)) = some r := by first | (rw [hy104]; with_reducible exact H) | (have H2_ := (Option.bind_some _ _).symm.trans H; rw [hy104]; with_reducible exact H2_) | (have H2_ := (Option.bind_some _ _).symm.trans H; with_reducible exact H2_) | with_reducible exact H | (rw [hy104]; exact H) | exact H
  have Ny104 := Aside0.mk hy104; clear hy104
  by_cases c6 : y104.length + l2.length < 17592186044416
  ·
   rw [if_pos c6] at H; have LMc6 := Aside0.mk c6; clear c6; obtain ⟨y107, hy107⟩ : ∃ y_ : List Int, y_ = (y104 ++ l2) := ⟨_, rfl⟩
   replace H : (spec_l17Round.l0 k l0 l1 a3 y101 y107) = some r := by first | (rw [hy107]; with_reducible exact H) | (have H2_ := (Option.bind_some _ _).symm.trans H; rw [hy107]; with_reducible exact H2_) | (have H2_ := (Option.bind_some _ _).symm.trans H; with_reducible exact H2_) | with_reducible exact H | (rw [hy107]; exact H) | exact H
   have Ny107 := Aside0.mk hy107; clear hy107; have H' := Aside0.mk H; clear H
   go_enter Try.func37, Try.ntmps37
   go_wp2_with (first | ((with_reducible refine gate_dst (N := 13) rfl ?_); refine Kd.R_make Kd.bool _ 4 rfl (N := 13) rfl 74 _ _ rfl 4 rfl rfl Try.underlying74 (.bool false) 1 info4 rfl (by decide) (by omega) false (ok := fun _ => True) (okp := fun _ => True) rfl (fun _ hk => hk) trivial (by omega) (by omega) (Below.refl _ _) (Nat.le_refl _) ?_; intro v102 w7 ho8 hb hg_ hnew_; clear hg_ hnew_; (first | rw [← Ny101.out] at ho8 | (simp only [Int.reduceToNat] at ho8; rw [← Ny101.out] at ho8)); have HO103 := Aside0.mk (Kd.R_lower ho8 (below_size (bz HB.out))); replace HB := Aside0.mk (below_step (bz HB.out) hb); clear hb ho8) | ((with_reducible refine gate_dst (N := 14) rfl ?_); refine Kd.R_lit (Kd.int .i64) _ 3 ?hg (N := 14) ?hd (xs := ([] : List Int)) (inner := []) (ok := fun _ => True) (okp := fun _ => True) ?hr ?hp (fun _ hk => hk) trivial (Below.refl _ _) (Nat.le_refl _) (by simp) ?_; (case hd => rfl); (case hg => rfl); (case hr => first | (go_simp; done) | (go_simp; rfl)); (case hp => exact (Reps.none _ _)); intro v105 w9 ho10 hb hg_ hnew_; clear hg_ hnew_; (first | rw [← Ny104.out] at ho10 | (simp only [Int.reduceToNat] at ho10; rw [← Ny104.out] at ho10)); replace HO103 := Aside0.mk (Kd.R_below (rz HO103.out) hb); have HO106 := Aside0.mk (Kd.R_lower ho10 (below_size (bz HB.out))); replace HB := Aside0.mk (below_step (bz HB.out) hb); clear hb ho10) | ((with_reducible refine gate_builtin (b := .append) (xs := #[.tmp 14, .tmp 15]) rfl ?_); at_builtin; refine Kd.R_append_rows (Kd.int .i64) (w0 := w) w.heap.size rfl (.tmp 14) (.tmp 15) 37 3 (.int .i64 0) 8 rfl Try.underlying37 info3 rfl (by decide) (by omega) v105 y104 l2 _ _ _ (fun _ => True) (fun _ => False) rfl rfl ?aO ?aR (fun _ _ h => h) (fun _ h => h.elim) ?aF ?aB ?aS ?aL ?_; (case aR => exact cz (Kd.C_below HR2.out HB.out)); (case aB => exact (bz HB.out)); (case aF => exact (fun _ _ => trivial)); (case aO => exact (rz HO106.out)); (case aS => exact (below_size (bz HB.out))); (case aL => have := LMc6.out; omega); intro v108 w11 ho hb hg hat; rw [← Ny107.out] at ho; have n0_ := Aside0.mk (Kd.R_over' (rz HO103.out) (Kd.R_typed (rz HO106.out)) (by decide) hg); have n1_ := Aside0.mk (hb); have n2_ := Aside0.mk (ho); clear HO103; clear HB; clear HO106; have HO103 := n0_; have HB := n1_; have HO109 := n2_; clear n0_ n1_ n2_; clear ho hb hg hat))
   go_loopg [10] k (fun kq v10 w' => ∃ (x9_1 : List Bool) (x10_1 : List Int), Aside0 (spec_l17Round.l0 kq l0 l1 a3 x9_1 x10_1 = some r) ∧ Aside0 (kq ≤ k) ∧ Aside0 (Kd.R Kd.bool 4 w' w.heap.size (fun _ => True) v102 x9_1) ∧ Aside0 (Kd.R (Kd.int .i64) 3 w' w.heap.size (fun _ => True) v10 x10_1) ∧ Aside0 (Below w.heap.size w w'))
   case atStart => exact ⟨(y101), (y107), H', ⟨Nat.le_refl _⟩, ⟨rz (HO103.out)⟩, ⟨rz (HO109.out)⟩, ⟨bz HB.out⟩⟩
   case round =>
    clear H'
    try clear c1
    try clear c2
    try clear p2
    try clear c3
    try clear c5
    try clear c5b0
    try clear c5b1
    try clear c6
    obtain ⟨x9_1, x10_1, HA, HK1, HO_9, HO_10, HB⟩ := hrel
    cases gk with
    | zero => exact absurd HA.out (by simp [spec_l17Round.l0])
    | succ k1 =>
     have H := HA.out; clear HA; simp only [spec_l17Round.l0] at H
     by_cases c12 : (x10_1.length : Int) > 0
     ·
      rw [if_pos c12] at H; have c12b0 : decide (0 < (x10_1.length : Int)) = true := decide_eq_true c12; have c12b1 : decide (0 < x10_1.length) = true := decide_eq_true (by omega); clear c12
      by_cases c13 : 0 < (x10_1.length : Int)
      ·
       rw [if_pos c13] at H; have c13b0 : decide (0 < (x10_1.length : Int)) = true := decide_eq_true c13; have c13b1 : decide (0 < x10_1.length) = true := decide_eq_true (by omega); clear c13; obtain ⟨y111, hy111⟩ : ∃ y_ : List Int, y_ = (([] : List Int)) := ⟨_, rfl⟩
       replace H : (if 1 ≤ (x10_1.length : Int) then ((some (x10_1.drop 1 : List Int)).bind fun y114 => (if y111.length + y114.length < 17592186044416 then ((some (y111 ++ y114 : List Int)).bind fun y118 => (if (rd x10_1 0) = a3 then (some true) else (if 0 ≤ (rd x10_1 0) then (if (rd x10_1 0) < (x9_1.length : Int) then (if rdOf false x9_1 (rd x10_1 0) = true then (spec_l17Round.l0 k1 l0 l1 a3 x9_1 y118) else (spec_l17Round.l1 k1 l0 l1 a3 (x9_1.set ((rd x10_1 0) : Int).toNat true) y118 (rd x10_1 0) 0)) else (none)) else (none)))) else (none))) else (none)) = some r := by first | (rw [hy111]; with_reducible exact H) | (have H2_ := (Option.bind_some _ _).symm.trans H; rw [hy111]; with_reducible exact H2_) | (have H2_ := (Option.bind_some _ _).symm.trans H; with_reducible exact H2_) | with_reducible exact H | (rw [hy111]; exact H) | exact H
       have Ny111 := Aside0.mk hy111; clear hy111
       by_cases c14 : 1 ≤ (x10_1.length : Int)
       ·
        rw [if_pos c14] at H; have c14b0 := eq_true c14; have c14b1 : decide (1 ≤ (x10_1.length : Int)) = true := decide_eq_true c14; clear c14; obtain ⟨y114, hy114⟩ : ∃ y_ : List Int, y_ = (x10_1.drop 1) := ⟨_, rfl⟩
        replace H : (if y111.length + y114.length < 17592186044416 then ((some (y111 ++ y114 : List Int)).bind fun y118 => (if (rd x10_1 0) = a3 then (some true) else (if 0 ≤ (rd x10_1 0) then (if (rd x10_1 0) < (x9_1.length : Int) then (if rdOf false x9_1 (rd x10_1 0) = true then (spec_l17Round.l0 k1 l0 l1 a3 x9_1 y118) else (spec_l17Round.l1 k1 l0 l1 a3 (x9_1.set ((rd x10_1 0) : Int).toNat true) y118 (rd x10_1 0) 0)) else (none)) else (none)))) else (none)) = some r := by first | (rw [hy114]; with_reducible exact H) | (have H2_ := (Option.bind_some _ _).symm.trans H; rw [hy114]; with_reducible exact H2_) | (have H2_ := (Option.bind_some _ _).symm.trans H; with_reducible exact H2_) | with_reducible exact H | (rw [hy114]; exact H) | exact H
        have Ny114 := Aside0.mk hy114; clear hy114
        by_cases c15 : y111.length + y114.length < 17592186044416
        ·
         rw [if_pos c15] at H; have LMc15 := Aside0.mk c15; clear c15; obtain ⟨y118, hy118⟩ : ∃ y_ : List Int, y_ = (y111 ++ y114) := ⟨_, rfl⟩
         replace H : (if (rd x10_1 0) = a3 then (some true) else (if 0 ≤ (rd x10_1 0) then (if (rd x10_1 0) < (x9_1.length : Int) then (if rdOf false x9_1 (rd x10_1 0) = true then (spec_l17Round.l0 k1 l0 l1 a3 x9_1 y118) else (spec_l17Round.l1 k1 l0 l1 a3 (x9_1.set ((rd x10_1 0) : Int).toNat true) y118 (rd x10_1 0) 0)) else (none)) else (none))) = some r := by first | (rw [hy118]; with_reducible exact H) | (have H2_ := (Option.bind_some _ _).symm.trans H; rw [hy118]; with_reducible exact H2_) | (have H2_ := (Option.bind_some _ _).symm.trans H; with_reducible exact H2_) | with_reducible exact H | (rw [hy118]; exact H) | exact H
         have Ny118 := Aside0.mk hy118; clear hy118
         by_cases c16 : (rd x10_1 0) = a3
         ·
          rw [if_pos c16] at H; have c16b0 : ((rd x10_1 0) == a3) = true := beq_iff_eq.mpr c16; have c16b1 : ((rd x10_1 0) != a3) = false := bne_eq_false_iff_eq.mpr c16; clear c16; obtain rfl := Option.some.inj H; obtain ⟨Ao17, co17, eo17⟩ := Kd.R_slice HO_10.out; subst eo17; have p110 : 0 ≤ (0 : Int) := (by omega); have q110 : 0 < (x10_1.length : Int) := of_decide_eq_true zs; obtain ⟨ad110, e110, hx110_0⟩ := Kd.at_int (Kd.R_reads' HO_10.out).2.2 0 p110 q110; cases e110; have qi110 : (0 < x10_1.length) = True := eq_true (by omega); (try rw [show ((0 : Int)).toNat = 0 from rfl] at hx110_0); (try rw [Addr.add_zero'] at hx110_0); replace p110 := eq_true p110; replace q110 := eq_true q110
          go_wp2_with (first | ((with_reducible refine gate_dst (N := 23) rfl ?_); refine Kd.R_lit (Kd.int .i64) _ 3 ?hg (N := 23) ?hd (xs := ([] : List Int)) (inner := []) (ok := fun _ => True) (okp := fun _ => True) ?hr ?hp (fun _ hk => hk) trivial (Below.refl _ _) (Nat.le_refl _) (by simp) ?_; (case hd => rfl); (case hg => rfl); (case hr => first | (go_simp; done) | (go_simp; rfl)); (case hp => exact (Reps.none _ _)); intro v112 w18 ho19 hb hg_ hnew_; clear hg_ hnew_; (first | rw [← Ny111.out] at ho19 | (simp only [Int.reduceToNat] at ho19; rw [← Ny111.out] at ho19)); replace HO_9 := Aside0.mk (Kd.R_below (rz HO_9.out) hb); have HO113 := Aside0.mk (Kd.R_lower (Kd.R_new' ho19 (Kd.R_lt (rz HO_10.out))) (below_size (bz HB.out))); replace HO_10 := Aside0.mk (Kd.R_elder' (rz HO_10.out) (Kd.R_base ho19) hb); replace HB := Aside0.mk (below_step (bz HB.out) hb); clear hb ho19; have q20 : (1 : Int) ≤ ((x10_1.length : Int) : Int) := of_decide_eq_true zs; obtain ⟨i020, hi020, _, hsz20, _⟩ := info_parts info3; have hroom20 : x10_1.length ≤ co17 := (Kd.R_reads' HO_10.out).2.1; have hC20 : Kd.C (Kd.int .i64) _ (some ad110) x10_1.length x10_1 := (Kd.R_reads' HO_10.out).2.2; have hcut20 := cut_from (P := Try.prog) 37 3 .i64 Try.underlying37 hi020 1 hsz20 (some ad110) x10_1.length co17 1 (by omega) q20; have hr20 := Kd.C_drop (m := (1 : Int).toNat) (c := co17) hC20 (by omega) hroom20; obtain ⟨A20, hA20⟩ : ∃ A1, A1 = (if co17 = (1 : Int).toNat then (some ad110) else ((some ad110) : Option Addr).map (·.add ((1 : Int).toNat * 1))) := ⟨_, rfl⟩; obtain ⟨c20, hc20⟩ : ∃ c1, c1 = co17 - (1 : Int).toNat := ⟨_, rfl⟩; have hy20 : y114.length = x10_1.length - (1 : Int).toNat := (by rw [Ny114.out, List.length_drop] <;> omega); rw [show (x10_1).drop (1 : Int).toNat = y114 from Ny114.out.symm] at hr20; replace hr20 : Kd.C (Kd.int .i64) _ A20 y114.length y114 := (by rw [hA20]; exact hr20); rw [← hy20, ← hA20, ← hc20] at hcut20; have HR117 := Aside0.mk hr20; have HC117 := Aside0.mk (show y114.length ≤ c20 from by rw [hy20, hc20]; exact Nat.sub_le_sub_right hroom20 _); clear hr20 hC20 hroom20 hi020 hsz20 hc20; have KY20 := Aside0.mk hy20; have KA20 := Aside0.mk hA20; clear hy20 hA20; have KL20 := Aside0.mk (show 1 ≤ x10_1.length from by omega); replace q20 := eq_true q20) | ((with_reducible refine gate_builtin (b := .append) (xs := #[.tmp 23, .tmp 25]) rfl ?_); at_builtin; refine Kd.R_append_rows (Kd.int .i64) (w0 := w) w.heap.size rfl (.tmp 23) (.tmp 25) 37 3 (.int .i64 0) 8 rfl Try.underlying37 info3 rfl (by decide) (by omega) v112 y111 y114 _ _ _ (fun k_ => some k_ ≠ (.slice (some ad110) x10_1.length co17 : Value).ownBlock) (fun _ => False) rfl rfl ?aO ?aR (fun _ _ h => h) (fun _ h => h.elim) ?aF ?aB ?aS ?aL ?_; (case aR => repeat (first | exact (by repeat (first | (with_reducible exact HR117.out) | (with_reducible refine Kd.C_alloc ?_ _) | (with_reducible refine Kd.C_drewN ?_ _) | (with_reducible refine Kd.C_drew ?_) | exact HR117.out)) | (with_reducible refine Kd.C_alloc ?_ _) | (with_reducible refine Kd.C_drewN ?_ _) | (with_reducible refine Kd.C_drew ?_))); (case aB => exact (bz HB.out)); (case aF => exact (fun k_ hk => Kd.fresh' (Kd.R_lt (rz HO_10.out)) k_ hk)); (case aO => exact (rz (Kd.R_mono HO113.out (fun _ hk => hk.2)))); (case aS => exact (below_size (bz HB.out))); (case aL => have := LMc15.out; omega); intro v119 w21 ho hb hg hat; rw [← Ny118.out] at ho; have n0_ := Aside0.mk (Kd.R_over' (rz HO_9.out) (Kd.R_typed (rz HO113.out)) (by decide) hg); have n1_ := Aside0.mk (Kd.R_after (ok := (fun _ => True)) (rz HO_10.out) hg hat); have n2_ := Aside0.mk (hb); have n3_ := Aside0.mk ((show Kd.C (Kd.int .i64) w21 A20 y114.length y114 from by rw [Ny114.out, KA20.out]; exact Kd.C_drop (m := 1) (c := co17) ((Kd.R_reads' (Kd.R_after (ok := (fun _ => True)) (rz HO_10.out) hg hat)).2.2) KL20.out ((Kd.R_reads' (Kd.R_after (ok := (fun _ => True)) (rz HO_10.out) hg hat)).2.1))); have n4_ := Aside0.mk (ho); clear HO_9; clear HO_10; clear HB; clear HR117; clear HO113; have HO_9 := n0_; have HO_10 := n1_; have HB := n2_; have HR117 := n3_; have HO120 := n4_; clear n0_ n1_ n2_ n3_ n4_; clear ho hb hg hat))
          go_ret
          exact ⟨ze, bz HB.out⟩
         ·
          rw [if_neg c16] at H; have c16b0 : ((rd x10_1 0) == a3) = false := beq_eq_false_iff_ne.mpr c16; have c16b1 : ((rd x10_1 0) != a3) = true := bne_iff_ne.mpr c16
          by_cases c22 : 0 ≤ (rd x10_1 0)
          ·
           rw [if_pos c22] at H; have c22b0 : decide (0 ≤ (rd x10_1 0)) = true := decide_eq_true c22; clear c22
           by_cases c23 : (rd x10_1 0) < (x9_1.length : Int)
           ·
            rw [if_pos c23] at H; have c23b0 : decide ((rd x10_1 0) < (x9_1.length : Int)) = true := decide_eq_true c23; clear c23; obtain ⟨bq24, hbq24⟩ : ∃ b_ : Bool, b_ = (rdOf false x9_1 (rd x10_1 0)) := ⟨_, rfl⟩
            replace H : (if bq24 = true then (spec_l17Round.l0 k1 l0 l1 a3 x9_1 y118) else (spec_l17Round.l1 k1 l0 l1 a3 (x9_1.set ((rd x10_1 0) : Int).toNat true) y118 (rd x10_1 0) 0)) = some r := by rw [← hbq24] at H; exact H
            have Nbq24 := Aside0.mk hbq24; clear hbq24
            by_cases c25 : bq24 = true
            ·
             subst c25; rw [if_pos rfl] at H; have H' := Aside0.mk H; clear H; obtain ⟨Ao26, co26, eo26⟩ := Kd.R_slice HO_10.out; subst eo26; have p110 : 0 ≤ (0 : Int) := (by omega); have q110 : 0 < (x10_1.length : Int) := of_decide_eq_true zs; obtain ⟨ad110, e110, hx110_0⟩ := Kd.at_int (Kd.R_reads' HO_10.out).2.2 0 p110 q110; cases e110; have qi110 : (0 < x10_1.length) = True := eq_true (by omega); (try rw [show ((0 : Int)).toNat = 0 from rfl] at hx110_0); (try rw [Addr.add_zero'] at hx110_0); replace p110 := eq_true p110; replace q110 := eq_true q110
             go_wp2_with (first | ((with_reducible refine gate_dst (N := 23) rfl ?_); refine Kd.R_lit (Kd.int .i64) _ 3 ?hg (N := 23) ?hd (xs := ([] : List Int)) (inner := []) (ok := fun _ => True) (okp := fun _ => True) ?hr ?hp (fun _ hk => hk) trivial (Below.refl _ _) (Nat.le_refl _) (by simp) ?_; (case hd => rfl); (case hg => rfl); (case hr => first | (go_simp; done) | (go_simp; rfl)); (case hp => exact (Reps.none _ _)); intro v112 w27 ho28 hb hg_ hnew_; clear hg_ hnew_; (first | rw [← Ny111.out] at ho28 | (simp only [Int.reduceToNat] at ho28; rw [← Ny111.out] at ho28)); replace HO_9 := Aside0.mk (Kd.R_below (rz HO_9.out) hb); have HO113 := Aside0.mk (Kd.R_lower (Kd.R_new' ho28 (Kd.R_lt (rz HO_10.out))) (below_size (bz HB.out))); replace HO_10 := Aside0.mk (Kd.R_elder' (rz HO_10.out) (Kd.R_base ho28) hb); replace HB := Aside0.mk (below_step (bz HB.out) hb); clear hb ho28; have q29 : (1 : Int) ≤ ((x10_1.length : Int) : Int) := of_decide_eq_true zs; obtain ⟨i029, hi029, _, hsz29, _⟩ := info_parts info3; have hroom29 : x10_1.length ≤ co26 := (Kd.R_reads' HO_10.out).2.1; have hC29 : Kd.C (Kd.int .i64) _ (some ad110) x10_1.length x10_1 := (Kd.R_reads' HO_10.out).2.2; have hcut29 := cut_from (P := Try.prog) 37 3 .i64 Try.underlying37 hi029 1 hsz29 (some ad110) x10_1.length co26 1 (by omega) q29; have hr29 := Kd.C_drop (m := (1 : Int).toNat) (c := co26) hC29 (by omega) hroom29; obtain ⟨A29, hA29⟩ : ∃ A1, A1 = (if co26 = (1 : Int).toNat then (some ad110) else ((some ad110) : Option Addr).map (·.add ((1 : Int).toNat * 1))) := ⟨_, rfl⟩; obtain ⟨c29, hc29⟩ : ∃ c1, c1 = co26 - (1 : Int).toNat := ⟨_, rfl⟩; have hy29 : y114.length = x10_1.length - (1 : Int).toNat := (by rw [Ny114.out, List.length_drop] <;> omega); rw [show (x10_1).drop (1 : Int).toNat = y114 from Ny114.out.symm] at hr29; replace hr29 : Kd.C (Kd.int .i64) _ A29 y114.length y114 := (by rw [hA29]; exact hr29); rw [← hy29, ← hA29, ← hc29] at hcut29; have HR117 := Aside0.mk hr29; have HC117 := Aside0.mk (show y114.length ≤ c29 from by rw [hy29, hc29]; exact Nat.sub_le_sub_right hroom29 _); clear hr29 hC29 hroom29 hi029 hsz29 hc29; have KY29 := Aside0.mk hy29; have KA29 := Aside0.mk hA29; clear hy29 hA29; have KL29 := Aside0.mk (show 1 ≤ x10_1.length from by omega); replace q29 := eq_true q29) | ((with_reducible refine gate_builtin (b := .append) (xs := #[.tmp 23, .tmp 25]) rfl ?_); at_builtin; refine Kd.R_append_rows (Kd.int .i64) (w0 := w) w.heap.size rfl (.tmp 23) (.tmp 25) 37 3 (.int .i64 0) 8 rfl Try.underlying37 info3 rfl (by decide) (by omega) v112 y111 y114 _ _ _ (fun k_ => some k_ ≠ (.slice (some ad110) x10_1.length co26 : Value).ownBlock) (fun _ => False) rfl rfl ?aO ?aR (fun _ _ h => h) (fun _ h => h.elim) ?aF ?aB ?aS ?aL ?_; (case aR => repeat (first | exact (by repeat (first | (with_reducible exact HR117.out) | (with_reducible refine Kd.C_alloc ?_ _) | (with_reducible refine Kd.C_drewN ?_ _) | (with_reducible refine Kd.C_drew ?_) | exact HR117.out)) | (with_reducible refine Kd.C_alloc ?_ _) | (with_reducible refine Kd.C_drewN ?_ _) | (with_reducible refine Kd.C_drew ?_))); (case aB => exact (bz HB.out)); (case aF => exact (fun k_ hk => Kd.fresh' (Kd.R_lt (rz HO_10.out)) k_ hk)); (case aO => exact (rz (Kd.R_mono HO113.out (fun _ hk => hk.2)))); (case aS => exact (below_size (bz HB.out))); (case aL => have := LMc15.out; omega); intro v119 w30 ho hb hg hat; rw [← Ny118.out] at ho; have n0_ := Aside0.mk (Kd.R_over' (rz HO_9.out) (Kd.R_typed (rz HO113.out)) (by decide) hg); have n1_ := Aside0.mk (Kd.R_after (ok := (fun _ => True)) (rz HO_10.out) hg hat); have n2_ := Aside0.mk (hb); have n3_ := Aside0.mk ((show Kd.C (Kd.int .i64) w30 A29 y114.length y114 from by rw [Ny114.out, KA29.out]; exact Kd.C_drop (m := 1) (c := co26) ((Kd.R_reads' (Kd.R_after (ok := (fun _ => True)) (rz HO_10.out) hg hat)).2.2) KL29.out ((Kd.R_reads' (Kd.R_after (ok := (fun _ => True)) (rz HO_10.out) hg hat)).2.1))); have n4_ := Aside0.mk (ho); clear HO_9; clear HO_10; clear HB; clear HR117; clear HO113; have HO_9 := n0_; have HO_10 := n1_; have HB := n2_; have HR117 := n3_; have HO120 := n4_; clear n0_ n1_ n2_ n3_ n4_; clear ho hb hg hat; obtain ⟨Ao31, co31, eo31⟩ := Kd.R_slice HO_9.out; subst eo31; have p121 : 0 ≤ ((rd x10_1 0) : Int) := of_decide_eq_true zs; have q121 : (rd x10_1 0) < (x9_1.length : Int) := of_decide_eq_true zs; obtain ⟨ad121, e121, hx121_0⟩ := Kd.at_bool (Kd.R_reads' HO_9.out).2.2 (rd x10_1 0) p121 q121; (try rw [← Nbq24.out] at hx121_0); cases e121; replace p121 := eq_true p121; replace q121 := eq_true q121))
             go_roundg k1
             case measure => have := HK1.out; omega
             case rel => exact ⟨(x9_1), (y118), H', ⟨by have := HK1.out; omega⟩, ⟨rz (HO_9.out)⟩, ⟨rz (Kd.R_mono HO120.out (fun _ hk => trivial))⟩, ⟨bz HB.out⟩⟩
            ·
             replace c25 := Bool.eq_false_iff.mpr c25; subst c25; rw [if_neg nf_] at H; obtain ⟨y122, hy122⟩ : ∃ y_ : List Bool, y_ = (x9_1.set ((rd x10_1 0) : Int).toNat true) := ⟨_, rfl⟩
             replace H : (spec_l17Round.l1 k1 l0 l1 a3 y122 y118 (rd x10_1 0) 0) = some r := by first | (rw [hy122]; with_reducible exact H) | (have H2_ := (Option.bind_some _ _).symm.trans H; rw [hy122]; with_reducible exact H2_) | (have H2_ := (Option.bind_some _ _).symm.trans H; with_reducible exact H2_) | with_reducible exact H | (rw [hy122]; exact H) | exact H
             have Ny122 := Aside0.mk hy122; clear hy122; have H' := Aside0.mk H; clear H; obtain ⟨Ao33, co33, eo33⟩ := Kd.R_slice HO_10.out; subst eo33; have p110 : 0 ≤ (0 : Int) := (by omega); have q110 : 0 < (x10_1.length : Int) := of_decide_eq_true zs; obtain ⟨ad110, e110, hx110_0⟩ := Kd.at_int (Kd.R_reads' HO_10.out).2.2 0 p110 q110; cases e110; have qi110 : (0 < x10_1.length) = True := eq_true (by omega); (try rw [show ((0 : Int)).toNat = 0 from rfl] at hx110_0); (try rw [Addr.add_zero'] at hx110_0); replace p110 := eq_true p110; replace q110 := eq_true q110
             go_wp2_with (first | ((with_reducible refine gate_dst (N := 23) rfl ?_); refine Kd.R_lit (Kd.int .i64) _ 3 ?hg (N := 23) ?hd (xs := ([] : List Int)) (inner := []) (ok := fun _ => True) (okp := fun _ => True) ?hr ?hp (fun _ hk => hk) trivial (Below.refl _ _) (Nat.le_refl _) (by simp) ?_; (case hd => rfl); (case hg => rfl); (case hr => first | (go_simp; done) | (go_simp; rfl)); (case hp => exact (Reps.none _ _)); intro v112 w34 ho35 hb hg_ hnew_; clear hg_ hnew_; (first | rw [← Ny111.out] at ho35 | (simp only [Int.reduceToNat] at ho35; rw [← Ny111.out] at ho35)); replace HO_9 := Aside0.mk (Kd.R_below (rz HO_9.out) hb); have HO113 := Aside0.mk (Kd.R_lower (Kd.R_new' ho35 (Kd.R_lt (rz HO_10.out))) (below_size (bz HB.out))); replace HO_10 := Aside0.mk (Kd.R_elder' (rz HO_10.out) (Kd.R_base ho35) hb); replace HB := Aside0.mk (below_step (bz HB.out) hb); clear hb ho35; have q36 : (1 : Int) ≤ ((x10_1.length : Int) : Int) := of_decide_eq_true zs; obtain ⟨i036, hi036, _, hsz36, _⟩ := info_parts info3; have hroom36 : x10_1.length ≤ co33 := (Kd.R_reads' HO_10.out).2.1; have hC36 : Kd.C (Kd.int .i64) _ (some ad110) x10_1.length x10_1 := (Kd.R_reads' HO_10.out).2.2; have hcut36 := cut_from (P := Try.prog) 37 3 .i64 Try.underlying37 hi036 1 hsz36 (some ad110) x10_1.length co33 1 (by omega) q36; have hr36 := Kd.C_drop (m := (1 : Int).toNat) (c := co33) hC36 (by omega) hroom36; obtain ⟨A36, hA36⟩ : ∃ A1, A1 = (if co33 = (1 : Int).toNat then (some ad110) else ((some ad110) : Option Addr).map (·.add ((1 : Int).toNat * 1))) := ⟨_, rfl⟩; obtain ⟨c36, hc36⟩ : ∃ c1, c1 = co33 - (1 : Int).toNat := ⟨_, rfl⟩; have hy36 : y114.length = x10_1.length - (1 : Int).toNat := (by rw [Ny114.out, List.length_drop] <;> omega); rw [show (x10_1).drop (1 : Int).toNat = y114 from Ny114.out.symm] at hr36; replace hr36 : Kd.C (Kd.int .i64) _ A36 y114.length y114 := (by rw [hA36]; exact hr36); rw [← hy36, ← hA36, ← hc36] at hcut36; have HR117 := Aside0.mk hr36; have HC117 := Aside0.mk (show y114.length ≤ c36 from by rw [hy36, hc36]; exact Nat.sub_le_sub_right hroom36 _); clear hr36 hC36 hroom36 hi036 hsz36 hc36; have KY36 := Aside0.mk hy36; have KA36 := Aside0.mk hA36; clear hy36 hA36; have KL36 := Aside0.mk (show 1 ≤ x10_1.length from by omega); replace q36 := eq_true q36) | ((with_reducible refine gate_builtin (b := .append) (xs := #[.tmp 23, .tmp 25]) rfl ?_); at_builtin; refine Kd.R_append_rows (Kd.int .i64) (w0 := w) w.heap.size rfl (.tmp 23) (.tmp 25) 37 3 (.int .i64 0) 8 rfl Try.underlying37 info3 rfl (by decide) (by omega) v112 y111 y114 _ _ _ (fun k_ => some k_ ≠ (.slice (some ad110) x10_1.length co33 : Value).ownBlock) (fun _ => False) rfl rfl ?aO ?aR (fun _ _ h => h) (fun _ h => h.elim) ?aF ?aB ?aS ?aL ?_; (case aR => repeat (first | exact (by repeat (first | (with_reducible exact HR117.out) | (with_reducible refine Kd.C_alloc ?_ _) | (with_reducible refine Kd.C_drewN ?_ _) | (with_reducible refine Kd.C_drew ?_) | exact HR117.out)) | (with_reducible refine Kd.C_alloc ?_ _) | (with_reducible refine Kd.C_drewN ?_ _) | (with_reducible refine Kd.C_drew ?_))); (case aB => exact (bz HB.out)); (case aF => exact (fun k_ hk => Kd.fresh' (Kd.R_lt (rz HO_10.out)) k_ hk)); (case aO => exact (rz (Kd.R_mono HO113.out (fun _ hk => hk.2)))); (case aS => exact (below_size (bz HB.out))); (case aL => have := LMc15.out; omega); intro v119 w37 ho hb hg hat; rw [← Ny118.out] at ho; have n0_ := Aside0.mk (Kd.R_over' (rz HO_9.out) (Kd.R_typed (rz HO113.out)) (by decide) hg); have n1_ := Aside0.mk (Kd.R_after (ok := (fun _ => True)) (rz HO_10.out) hg hat); have n2_ := Aside0.mk (hb); have n3_ := Aside0.mk ((show Kd.C (Kd.int .i64) w37 A36 y114.length y114 from by rw [Ny114.out, KA36.out]; exact Kd.C_drop (m := 1) (c := co33) ((Kd.R_reads' (Kd.R_after (ok := (fun _ => True)) (rz HO_10.out) hg hat)).2.2) KL36.out ((Kd.R_reads' (Kd.R_after (ok := (fun _ => True)) (rz HO_10.out) hg hat)).2.1))); have n4_ := Aside0.mk (ho); clear HO_9; clear HO_10; clear HB; clear HR117; clear HO113; have HO_9 := n0_; have HO_10 := n1_; have HB := n2_; have HR117 := n3_; have HO120 := n4_; clear n0_ n1_ n2_ n3_ n4_; clear ho hb hg hat; obtain ⟨Ao38, co38, eo38⟩ := Kd.R_slice HO_9.out; subst eo38; have p121 : 0 ≤ ((rd x10_1 0) : Int) := of_decide_eq_true zs; have q121 : (rd x10_1 0) < (x9_1.length : Int) := of_decide_eq_true zs; obtain ⟨ad121, e121, hx121_0⟩ := Kd.at_bool (Kd.R_reads' HO_9.out).2.2 (rd x10_1 0) p121 q121; (try rw [← Nbq24.out] at hx121_0); cases e121; replace p121 := eq_true p121; replace q121 := eq_true q121; have p32 : 0 ≤ ((rd x10_1 0) : Int) := of_decide_eq_true zs; have q32 : ((rd x10_1 0) : Int) < ((x9_1.length : Int) : Int) := of_decide_eq_true zs; obtain ⟨go32, co32, eo32, gb32, gl32, cl32, HG32⟩ := Kd.R_form HO_9.out (by omega); (first | cases eo32 | (injection eo32 with ea_ en_ ec_; (first | subst ea_ | (injection ea_ with ea_; subst ea_)); subst ec_; clear en_)); have GB32 := Aside0.mk gb32; have GG32 := Aside0.mk HG32; clear gb32 gl32 HG32; (first | simp only [add_plain] at hx121_0 | skip); obtain ⟨hx32_0, hf32_0⟩ := Kd.R_celln false HO_9.out ((rd x10_1 0) : Int) p32 q32; replace p32 := eq_true p32; replace q32 := eq_true q32; obtain ⟨hy39_, hz39_⟩ := Kd.R_celln false HO_9.out ((rd x10_1 0) : Int) (of_decide_eq_true zs) (of_decide_eq_true zs); have HP39 := Kd.R_putg HO_9.out ((rd x10_1 0) : Int) true) | ((with_reducible refine gate_store (t := 4) (p := 36) rfl ?_); refine store_event (t := 4) (p := 36) (v := ?vo_w40) (w1 := (w37.setCell ⟨go32, ((rd x10_1 0) : Int).toNat, none⟩ (.bool true))) ?hg ?ho ?hn ?hr ?_; (case ho => rfl); (case hg => rfl); (case hn => rfl); (case hr => first | (go_simp; done) | (go_simp; rfl)); intro w40 hw; have hg : w37.grownBy w40 (some go32) := (by rw [hw]; exact HP39.2); have hp_ : Kd.R Kd.bool 4 w40 w.heap.size (fun _ => True) (.slice (some ⟨go32, 0, none⟩) x9_1.length co38) y122 := (by rw [hw, Ny122.out]; exact HP39.1); clear HP39; replace HO120 := Aside0.mk (Kd.R_over' (v := (.slice (some ⟨go32, 0, none⟩) x9_1.length co38)) (rz HO120.out) (Kd.R_typed HO_9.out) (by decide) hg); replace HB := Aside0.mk ((by rw [hw]; exact below_set (HB.out) GB32.out : Below w.heap.size w w40)); replace HR117 := Aside0.mk ((show Kd.C (Kd.int .i64) w40 A36 y114.length y114 from by rw [Ny114.out, KA36.out]; exact Kd.C_drop (m := 1) (c := co33) ((Kd.R_reads' (Kd.R_over' (v := (.slice (some ⟨go32, 0, none⟩) x9_1.length co38)) (rz HO_10.out) (Kd.R_typed HO_9.out) (by decide) hg)).2.2) KL36.out ((Kd.R_reads' (Kd.R_over' (v := (.slice (some ⟨go32, 0, none⟩) x9_1.length co38)) (rz HO_10.out) (Kd.R_typed HO_9.out) (by decide) hg)).2.1))); replace HO_10 := Aside0.mk (Kd.R_over' (v := (.slice (some ⟨go32, 0, none⟩) x9_1.length co38)) (rz HO_10.out) (Kd.R_typed HO_9.out) (by decide) hg); replace HO_9 := Aside0.mk (hp_); clear hg hw hp_))
             go_loopg [10, 12] k1 (fun kq v10 v12 w' => ∃ (x10_2 : List Int) (x12_2 : Int), v12 = .int .i64 x12_2 ∧ Aside0 (spec_l17Round.l1 kq l0 l1 a3 y122 x10_2 (rd x10_1 0) x12_2 = some r) ∧ Aside0 (kq ≤ k1) ∧ Aside0 (Kd.R Kd.bool 4 w' w.heap.size (fun _ => True) (.slice (some ⟨go32, 0, none⟩) x9_1.length co38) y122) ∧ Aside0 (Kd.R (Kd.int .i64) 3 w' w.heap.size (fun _ => True) v10 x10_2) ∧ Aside0 (Below w.heap.size w w'))
             case atStart => exact ⟨(y118), (0), zr, H', ⟨Nat.le_refl _⟩, ⟨rz (HO_9.out)⟩, ⟨rz (Kd.R_mono HO120.out (fun _ hk => trivial))⟩, ⟨bz HB.out⟩⟩
             case round =>
              clear H'
              try clear c1
              try clear p1
              try clear q1
              try clear hx1
              try clear qi1
              try clear c2
              try clear p2
              try clear q2
              try clear c3
              try clear p3
              try clear q3
              try clear hx3
              try clear c5
              try clear c5b0
              try clear c5b1
              try clear c6
              try clear p11
              try clear q11
              try clear hx11
              try clear qi11
              try clear c12
              try clear c12b0
              try clear c12b1
              try clear p12
              try clear q12
              try clear hx12
              try clear c13
              try clear c13b0
              try clear c13b1
              try clear c14
              try clear c14b0
              try clear c14b1
              try clear c15
              try clear c16
              try clear c16b0
              try clear c16b1
              try clear c20
              try clear q20
              try clear c22
              try clear c22b0
              try clear c23
              try clear c23b0
              try clear q24
              try clear c25
              try clear c29
              try clear q29
              try clear p32
              try clear q32
              try clear hx32
              try clear hf32
              try clear c36
              try clear q36
              try clear c37
              try clear hx110_0
              try clear hx121_0
              try clear hx32_0
              try clear p110
              try clear p121
              try clear p2
              try clear p32
              try clear q110
              try clear q121
              try clear q20
              try clear q29
              try clear q32
              try clear q36
              obtain ⟨x10_2, x12_2, rfl, HA, HK2, HO_9, HO_10, HB⟩ := hrel; have hl9_2 := (Kd.R_reads' HO_9.out).1; rw [hl9_2] at HO_9; (try simp only [hl9_2]); (try simp only [hl9_2] at HO_10)
              cases gk with
              | zero => exact absurd HA.out (by simp [spec_l17Round.l1])
              | succ k2 =>
               have H := HA.out; clear HA; simp only [spec_l17Round.l1] at H
               by_cases c41 : x12_2 < (l1.length : Int)
               ·
                rw [if_pos c41] at H; have c41b0 : decide (x12_2 < (l1.length : Int)) = true := decide_eq_true c41; clear c41
                by_cases c42 : 0 ≤ x12_2
                ·
                 rw [if_pos c42] at H; have c42b0 : decide (0 ≤ x12_2) = true := decide_eq_true c42; clear c42
                 by_cases c43 : ((rd_T40 l1 x12_2).f0) = (rd x10_1 0)
                 ·
                  rw [if_pos c43] at H; have c43b0 : (((rd_T40 l1 x12_2).f0) == (rd x10_1 0)) = true := beq_iff_eq.mpr c43; have c43b1 : (((rd_T40 l1 x12_2).f0) != (rd x10_1 0)) = false := bne_eq_false_iff_eq.mpr c43; clear c43; replace H := Option.bind_eq_some_iff.mp H; obtain ⟨t125, A440, H⟩ := H; have A44 := Aside0.mk A440; clear A440
                  by_cases c45 : x10_2.length + t125.length < 17592186044416
                  ·
                   rw [if_pos c45] at H; have LMc45 := Aside0.mk c45; clear c45; obtain ⟨y128, hy128⟩ : ∃ y_ : List Int, y_ = (x10_2 ++ t125) := ⟨_, rfl⟩
                   replace H : (spec_l17Round.l1 k2 l0 l1 a3 y122 y128 (rd x10_1 0) (wrap64 (x12_2 + 1))) = some r := by first | (rw [hy128]; with_reducible exact H) | (have H2_ := (Option.bind_some _ _).symm.trans H; rw [hy128]; with_reducible exact H2_) | (have H2_ := (Option.bind_some _ _).symm.trans H; with_reducible exact H2_) | with_reducible exact H | (rw [hy128]; exact H) | exact H
                   have Ny128 := Aside0.mk hy128; clear hy128; have H' := Aside0.mk H; clear H; have p123 : 0 ≤ (x12_2 : Int) := of_decide_eq_true zs; have q123 : x12_2 < (l1.length : Int) := of_decide_eq_true zs; obtain ⟨ad123, e123, hx123_0, hx123_1, hx123_2, hx123_3⟩ := at_T40 HR1.out x12_2 p123 q123; (try rw [← Nbq24.out] at hx123_3); cases e123; replace hx123_0 := pw_cell_below HB.out hx123_0; replace hx123_1 := pw_cell_below HB.out hx123_1; replace hx123_2 := pw_cell_below HB.out hx123_2; replace hx123_3 := pw_cell_below HB.out hx123_3; replace p123 := eq_true p123; replace q123 := eq_true q123; have p124 : 0 ≤ (x12_2 : Int) := of_decide_eq_true zs; have q124 : x12_2 < (l1.length : Int) := of_decide_eq_true zs; obtain ⟨ad124, e124, hx124_0, hx124_1, hx124_2, hx124_3⟩ := at_T40 HR1.out x12_2 p124 q124; (try rw [← Nbq24.out] at hx124_3); obtain rfl : ad123 = ad124 := (by injection e124); replace hx124_0 := pw_cell_below HB.out hx124_0; replace hx124_1 := pw_cell_below HB.out hx124_1; replace hx124_2 := pw_cell_below HB.out hx124_2; replace hx124_3 := pw_cell_below HB.out hx124_3; replace p124 := eq_true p124; replace q124 := eq_true q124
                   go_wp2_with (first | ((with_reducible refine gate_callee (f := 36) rfl ?_); refine goesL_ (some 56) rfl rfl Try.func36 zk rfl #[.slice A0 l0.length c0, .agg #[.int .i64 ((rd_T40 l1 x12_2).f0), .int .i64 ((rd_T40 l1 x12_2).f1), .int .i64 ((rd_T40 l1 x12_2).f2), .bool ((rd_T40 l1 x12_2).f3)]] rfl zm ?_; (with_reducible refine (spec_l17Who.calls k2 _ _ l0 ((rd_T40 l1 x12_2).f0) ((rd_T40 l1 x12_2).f1) ((rd_T40 l1 x12_2).f2) ((rd_T40 l1 x12_2).f3) t125 _ ?side1 ?side2 A44.out).mono ?_); (case side1 => exact cz (Kd.C_below HR0.out HB.out)); (case side2 => exact HC0.out); rintro e w46 ⟨v126, rfl, ho0, hb⟩; refine ⟨_, rfl, ?_⟩; replace HO_9 := Aside0.mk (Kd.R_below (rz HO_9.out) hb); have HO127 := Aside0.mk (Kd.R_lower (Kd.R_new' ho0 (Kd.R_lt (rz HO_10.out))) (below_size (bz HB.out))); replace HO_10 := Aside0.mk (Kd.R_elder' (rz HO_10.out) (Kd.R_base ho0) hb); replace HB := Aside0.mk (below_step (bz HB.out) hb); (try clear hb); (try clear ho0); obtain ⟨Ao48, co48, eo48⟩ := Kd.R_slice HO127.out; subst eo48) | ((with_reducible refine gate_builtin (b := .append) (xs := #[.tmp 50, .tmp 56]) rfl ?_); at_builtin; refine Kd.R_append_rows (Kd.int .i64) (w0 := w) w.heap.size rfl (.tmp 50) (.tmp 56) 37 3 (.int .i64 0) 8 rfl Try.underlying37 info3 rfl (by decide) (by omega) u10 x10_2 t125 _ _ _ (fun k_ => some k_ ≠ (.slice Ao48 t125.length co48 : Value).ownBlock) (fun _ => False) rfl rfl ?aO ?aR (fun _ _ h => h) (fun _ h => h.elim) ?aF ?aB ?aS ?aL ?_; (case aR => exact cz ((Kd.R_reads' HO127.out).2.2)); (case aB => exact (bz HB.out)); (case aF => exact (fun k_ hk => Kd.fresh' (Kd.R_lt (rz HO127.out)) k_ hk)); (case aO => exact (rz (Kd.R_mono HO_10.out (fun _ hk => hk.2)))); (case aS => exact (below_size (bz HB.out))); (case aL => have := LMc45.out; omega); intro v129 w47 ho hb hg hat; rw [← Ny128.out] at ho; have n0_ := Aside0.mk (Kd.R_over' (rz HO_9.out) (Kd.R_typed (rz HO_10.out)) (by decide) hg); have n1_ := Aside0.mk (Kd.R_after (ok := (fun _ => True)) (rz HO127.out) hg hat); have n2_ := Aside0.mk (hb); have n3_ := Aside0.mk (ho); clear HO_9; clear HO127; clear HB; clear HO_10; have HO_9 := n0_; have HO127 := n1_; have HB := n2_; have HO130 := n3_; clear n0_ n1_ n2_ n3_; clear ho hb hg hat))
                   (try simp only [← hl9_2])
                   go_roundg k2
                   case measure => have := HK1.out; have := HK2.out; omega
                   case rel => exact ⟨(y128), (wrap64 (x12_2 + 1)), zr, H', ⟨by have := HK1.out; have := HK2.out; omega⟩, ⟨by (try simp only [hl9_2]); (with_reducible repeat (first | apply Kd.R_alloc | apply Kd.R_drewN | apply Kd.R_drew)); exact HO_9.out⟩, ⟨by (try simp only [hl9_2]); (with_reducible repeat (first | apply Kd.R_alloc | apply Kd.R_drewN | apply Kd.R_drew)); exact Kd.R_mono HO130.out (fun _ hk => trivial)⟩, ⟨bz HB.out⟩⟩
                  ·
                   rw [if_neg c45] at H
                   exact absurd H (by simp)
                 ·
                  rw [if_neg c43] at H; have c43b0 : (((rd_T40 l1 x12_2).f0) == (rd x10_1 0)) = false := beq_eq_false_iff_ne.mpr c43; have c43b1 : (((rd_T40 l1 x12_2).f0) != (rd x10_1 0)) = true := bne_iff_ne.mpr c43; have H' := Aside0.mk H; clear H; have p123 : 0 ≤ (x12_2 : Int) := of_decide_eq_true zs; have q123 : x12_2 < (l1.length : Int) := of_decide_eq_true zs; obtain ⟨ad123, e123, hx123_0, hx123_1, hx123_2, hx123_3⟩ := at_T40 HR1.out x12_2 p123 q123; (try rw [← Nbq24.out] at hx123_3); cases e123; replace hx123_0 := pw_cell_below HB.out hx123_0; replace hx123_1 := pw_cell_below HB.out hx123_1; replace hx123_2 := pw_cell_below HB.out hx123_2; replace hx123_3 := pw_cell_below HB.out hx123_3; replace p123 := eq_true p123; replace q123 := eq_true q123
                  go_wp2
                  (try simp only [← hl9_2])
                  go_roundg k2
                  case measure => have := HK1.out; have := HK2.out; omega
                  case rel => exact ⟨(x10_2), (wrap64 (x12_2 + 1)), zr, H', ⟨by have := HK1.out; have := HK2.out; omega⟩, ⟨by (try simp only [hl9_2]); (with_reducible repeat (first | apply Kd.R_alloc | apply Kd.R_drewN | apply Kd.R_drew)); exact HO_9.out⟩, ⟨by (try simp only [hl9_2]); (with_reducible repeat (first | apply Kd.R_alloc | apply Kd.R_drewN | apply Kd.R_drew)); exact HO_10.out⟩, ⟨bz HB.out⟩⟩
                ·
                 rw [if_neg c42] at H
                 exact absurd H (by simp)
               ·
                rw [if_neg c41] at H; have c41b0 : decide (x12_2 < (l1.length : Int)) = false := decide_eq_false c41; clear c41; have H' := Aside0.mk H; clear H
                go_wp2
                (try simp only [← hl9_2])
                go_roundg k2
                case measure => have := HK1.out; have := HK2.out; omega
                case rel => exact ⟨(y122), (x10_2), H', ⟨by have := HK1.out; have := HK2.out; omega⟩, ⟨by (try simp only [hl9_2]); (with_reducible repeat (first | apply Kd.R_alloc | apply Kd.R_drewN | apply Kd.R_drew)); exact HO_9.out⟩, ⟨by (try simp only [hl9_2]); (with_reducible repeat (first | apply Kd.R_alloc | apply Kd.R_drewN | apply Kd.R_drew)); exact HO_10.out⟩, ⟨bz HB.out⟩⟩
           ·
            rw [if_neg c23] at H
            exact absurd H (by simp)
          ·
           rw [if_neg c22] at H
           exact absurd H (by simp)
        ·
         rw [if_neg c15] at H
         exact absurd H (by simp)
       ·
        rw [if_neg c14] at H
        exact absurd H (by simp)
      ·
       rw [if_neg c13] at H
       exact absurd H (by simp)
     ·
      rw [if_neg c12] at H; have c12b0 : decide (0 < (x10_1.length : Int)) = false := decide_eq_false c12; have c12b1 : decide (0 < x10_1.length) = false := decide_eq_false (by omega); clear c12; obtain rfl := Option.some.inj H; obtain ⟨Ao49, co49, eo49⟩ := Kd.R_slice HO_10.out; subst eo49
      go_wp2
      go_ret
      exact ⟨ze, bz HB.out⟩
  ·
   rw [if_neg c6] at H
   exact absurd H (by simp)
 ·
  rw [if_neg c5] at H
  exact absurd H (by simp)

end Go.Proofs.Ytgjlbghjjjlhmaa.P
