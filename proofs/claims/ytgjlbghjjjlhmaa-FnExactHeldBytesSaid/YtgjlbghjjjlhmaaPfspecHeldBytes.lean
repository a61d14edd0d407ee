-- printed by wip/qd.py
import Derived.Test.YtgjlbghjjjlhmaaPf0
import Derived.Test.YtgjlbghjjjlhmaaPfspecHeldOk
import Derived.Test.YtgjlbghjjjlhmaaPfspecl17Modes
namespace Go.Proofs.Ytgjlbghjjjlhmaa.P
open Go.RowKit Go.Proofs.YtgjlbghjjjlhmaaW.PrintWords Go.Proofs.YtgjlbghjjjlhmaaW.PrintLast Go.Proofs.YtgjlbghjjjlhmaaW.PrintMore
attribute [local go_sem] max2_int min2_int max_two min_two max_three min_three max_four min_four Q.cell_set_map
set_option linter.unusedVariables false
set_option linter.unusedSimpArgs false

/-! ### spec_HeldBytes: function 26 -/
mutual
def spec_HeldBytes.l0 : Nat → List (List Int) → Int → List (S40) → List (S40) → Option ((List (List Int)) × Bool)
 | 0, _, _, _, _ => none
 | k + 1, x4, x5, x102000, x102001 => if x5 < 16 then (spec_HeldBytes.l1 k x4 x5 (([] : List Int)) 0 x102000 x102001) else (some (x4, true))
def spec_HeldBytes.l1 : Nat → List (List Int) → Int → List Int → Int → List (S40) → List (S40) → Option ((List (List Int)) × Bool)
 | 0, _, _, _, _, _, _ => none
 | k + 1, x4, x5, x6, x7, x102000, x102001 => if x7 < 4 then ((spec_l17Modes.f k x102000 x7).bind fun t109 => (if 0 ≤ x5 then (if x5 < (t109.length : Int) then (if (rd t109 x5) > 0 then (if x6.length < 17592186044416 then (spec_HeldBytes.l1 k x4 x5 (x6 ++ [x7]) (wrap64 (x7 + 1)) x102000 x102001) else (none)) else (spec_HeldBytes.l1 k x4 x5 x6 (wrap64 (x7 + 1)) x102000 x102001)) else (none)) else (none))) else (if x4.length < 5864062014805 then (spec_HeldBytes.l0 k (x4 ++ [x6]) (wrap64 (x5 + 1)) x102000 x102001) else (none))
end
def spec_HeldBytes.f (k : Nat) (l0_0 : List (S40)) (l0_1 : List (S40)) : Option ((List (List Int)) × Bool) := (some (([] : List (List Int)) : List (List Int))).bind fun y102 => ((spec_HeldOk.f k l0_0 l0_1).bind fun t105 => (if t105 = true then (spec_HeldBytes.l0 k y102 0 l0_0 l0_1) else (some (y102, false))))
theorem spec_HeldBytes.mono_l : ∀ k, (∀ y0 y1 y2 y3, LeO (spec_HeldBytes.l0 k y0 y1 y2 y3) (spec_HeldBytes.l0 (k + 1) y0 y1 y2 y3)) ∧ (∀ y0 y1 y2 y3 y4 y5, LeO (spec_HeldBytes.l1 k y0 y1 y2 y3 y4 y5) (spec_HeldBytes.l1 (k + 1) y0 y1 y2 y3 y4 y5))
 | 0 => ⟨fun _ _ _ _ r h => by simp [spec_HeldBytes.l0] at h, fun _ _ _ _ _ _ r h => by simp [spec_HeldBytes.l1] at h⟩
 | k + 1 => by
  obtain ⟨ih0, ih1⟩ := spec_HeldBytes.mono_l k
  refine ⟨?_, ?_⟩
  ·
   intro y0 y1 y2 y3
   unfold spec_HeldBytes.l0
   repeat' first
   | (with_reducible exact ih0 _ _ _ _)
   | (with_reducible exact ih1 _ _ _ _ _ _)
   | (with_reducible exact spec_HeldOk.mono _ _ _)
   | (with_reducible exact spec_l17Modes.mono _ _ _)
   | (with_reducible exact LeO.refl _)
   | (with_reducible exact LeO.none _)
   | (with_reducible refine LeO.ite ?_ ?_)
   | (with_reducible refine LeO.bind ?_ (fun _ => ?_))
   | exact ih0 _ _ _ _
   | exact ih1 _ _ _ _ _ _
   | exact spec_HeldOk.mono _ _ _
   | exact spec_l17Modes.mono _ _ _
   | exact LeO.none _
   | refine LeO.ite ?_ ?_
   | refine LeO.bind ?_ (fun _ => ?_)
  ·
   intro y0 y1 y2 y3 y4 y5
   unfold spec_HeldBytes.l1
   repeat' first
   | (with_reducible exact ih0 _ _ _ _)
   | (with_reducible exact ih1 _ _ _ _ _ _)
   | (with_reducible exact spec_HeldOk.mono _ _ _)
   | (with_reducible exact spec_l17Modes.mono _ _ _)
   | (with_reducible exact LeO.refl _)
   | (with_reducible exact LeO.none _)
   | (with_reducible refine LeO.ite ?_ ?_)
   | (with_reducible refine LeO.bind ?_ (fun _ => ?_))
   | exact ih0 _ _ _ _
   | exact ih1 _ _ _ _ _ _
   | exact spec_HeldOk.mono _ _ _
   | exact spec_l17Modes.mono _ _ _
   | exact LeO.none _
   | refine LeO.ite ?_ ?_
   | refine LeO.bind ?_ (fun _ => ?_)
theorem spec_HeldBytes.mono : ∀ a0 a1 k, LeO (spec_HeldBytes.f k a0 a1) (spec_HeldBytes.f (k + 1) a0 a1) := by
 intro a0 a1 k
 obtain ⟨ih0, ih1⟩ := spec_HeldBytes.mono_l k
 unfold spec_HeldBytes.f
 repeat' first
   | (with_reducible exact ih0 _ _ _ _)
   | (with_reducible exact ih1 _ _ _ _ _ _)
   | (with_reducible exact spec_HeldOk.mono _ _ _)
   | (with_reducible exact spec_l17Modes.mono _ _ _)
   | (with_reducible exact LeO.refl _)
   | (with_reducible exact LeO.none _)
   | (with_reducible refine LeO.ite ?_ ?_)
   | (with_reducible refine LeO.bind ?_ (fun _ => ?_))
   | exact ih0 _ _ _ _
   | exact ih1 _ _ _ _ _ _
   | exact spec_HeldOk.mono _ _ _
   | exact spec_l17Modes.mono _ _ _
   | exact LeO.none _
   | refine LeO.ite ?_ ?_
   | refine LeO.bind ?_ (fun _ => ?_)
set_option maxHeartbeats 8000000 in
set_option maxRecDepth 100000 in
theorem spec_HeldBytes.calls (k : Nat) (A0_0 : Option Addr) (c0_0 : Nat) (l0_0 : List (S40)) (A0_1 : Option Addr) (c0_1 : Nat) (l0_1 : List (S40)) (r1 : List (List Int)) (r2 : Bool) (w : World) (hr0_0 : Kd.C k40 w A0_0 l0_0.length l0_0) (hc0_0 : l0_0.length ≤ c0_0) (hr0_1 : Kd.C k40 w A0_1 l0_1.length l0_1) (hc0_1 : l0_1.length ≤ c0_1) (h : spec_HeldBytes.f k l0_0 l0_1 = some (r1, r2)) :
  Calls Try.prog 26 #[.agg #[.slice A0_0 l0_0.length c0_0, .slice A0_1 l0_1.length c0_1]] w fun e w' => ∃ v0_ : Value, e = .returned (.tuple #[v0_, .bool r2]) ∧ Kd.S (Kd.slice 3 (Kd.int .i64)) 37 w' w.heap.size (fun _ => True) v0_ r1 ∧ Below w.heap.size w w' := by
 have hu29 := Try.underlying29; have HR0_0 := Aside0.mk hr0_0; have HC0_0 := Aside0.mk hc0_0; clear hr0_0 hc0_0; have HR0_1 := Aside0.mk hr0_1; have HC0_1 := Aside0.mk hc0_1; clear hr0_1 hc0_1; have HB := Aside0.mk (Below.refl w.heap.size w); have H : ((some (([] : List (List Int)) : List (List Int))).bind fun y102 => ((spec_HeldOk.f k l0_0 l0_1).bind fun t105 => (if t105 = true then (spec_HeldBytes.l0 k y102 0 l0_0 l0_1) else (some (y102, false))))) = some (r1, r2) := h; clear h; obtain ⟨y102, hy102⟩ : ∃ y_ : List (List Int), y_ = (([] : List (List Int))) := ⟨_, rfl⟩
 replace H : ((spec_HeldOk.f k l0_0 l0_1).bind fun t105 => (if t105 = true then (spec_HeldBytes.l0 k y102 0 l0_0 l0_1) else (some (y102, false)))) = some (r1, r2) := by first | (rw [hy102]; with_reducible exact H) | (have H2_ := (Option.bind_some _ _).symm.trans H; rw [hy102]; with_reducible exact H2_) | (have H2_ := (Option.bind_some _ _).symm.trans H; with_reducible exact H2_) | with_reducible exact H | (rw [hy102]; exact H) | exact H
 have Ny102 := Aside0.mk hy102; clear hy102; replace H := Option.bind_eq_some_iff.mp H; obtain ⟨t105, A20, H⟩ := H; have A2 := Aside0.mk A20; clear A20
 by_cases c3 : t105 = true
 ·
  subst c3; rw [if_pos rfl] at H; have H' := Aside0.mk H; clear H
  go_enter Try.func26, Try.ntmps26
  go_wp2_with (first | ((with_reducible refine gate_dst (N := 1) rfl ?_); refine box_event ?hg (N := 1) ?hd (cs := #[.slice A0_0 l0_0.length c0_0, .slice A0_1 l0_1.length c0_1]) (t := 29) ?hr ?_; (case hd => rfl); (case hg => rfl); (case hr => first | (go_simp; done) | (go_simp; rfl)); intro gb101 hg w4 hbox hb; have BK101 := Aside0.mk (hbox); have GW101 := Aside0.mk ((by rw [hg]; exact (below_size (bz HB.out)) : w.heap.size ≤ gb101)); have GE101 := GW101; replace HB := Aside0.mk (below_step (bz HB.out) hb); clear hb hbox hg) | ((with_reducible refine gate_dst (N := 8) rfl ?_); refine Kd.S_lit (Kd.slice 3 (Kd.int .i64)) _ 37 ?hg (N := 8) ?hd (xs := ([] : List (List Int))) (inner := []) (ok := fun _ => True) (okp := fun _ => True) ?hr ?hp (fun _ hk => hk) trivial (Below.refl _ _) (Nat.le_refl _) (by simp) ?_; (case hd => rfl); (case hg => rfl); (case hr => first | (go_simp; done) | (go_simp; rfl)); (case hp => exact (Reps.none _ _)); intro v103 w5 ho6 hb hg_ hnew_; clear hg_ hnew_; (first | rw [← Ny102.out] at ho6 | (simp only [Int.reduceToNat] at ho6; rw [← Ny102.out] at ho6)); have HO104 := Aside0.mk (Kd.S_lower ho6 (below_size (bs HB.out GE101.out))); replace BK101 := Aside0.mk (blk_below (kz BK101.out) hb); replace HB := Aside0.mk (below_step (bs HB.out GE101.out) hb); clear hb ho6; obtain ⟨hcz7_0, hcz7_1⟩ := cz2 BK101.out; obtain ⟨hfz7_0, hfz7_1⟩ := fz2 BK101.out) | ((with_reducible refine gate_callee (f := 11) rfl ?_); refine goesL_ (some 10) rfl rfl Try.func11 zk rfl #[.agg #[.slice A0_0 l0_0.length c0_0, .slice A0_1 l0_1.length c0_1]] rfl zm ?_; (with_reducible refine (spec_HeldOk.calls k _ _ l0_0 _ _ l0_1 true _ ?side1 ?side2 ?side3 ?side4 A2.out).mono ?_); (case side1 => exact cz (Kd.C_below HR0_0.out HB.out)); (case side2 => exact HC0_0.out); (case side3 => exact cz (Kd.C_below HR0_1.out HB.out)); (case side4 => exact HC0_1.out); rintro e w8 ⟨rfl, hb⟩; refine ⟨_, rfl, ?_⟩; replace HO104 := Aside0.mk (Kd.S_below (by (with_reducible repeat (first | apply Kd.S_alloc | apply Kd.S_drewN | apply Kd.S_drew)); exact HO104.out) hb); replace BK101 := Aside0.mk (blk_below (kz BK101.out) hb); replace HB := Aside0.mk (below_step (bs HB.out GE101.out) hb); (try clear hb)))
  go_loopg [4, 5] k (fun kq v4 v5 w' => ∃ (x4_1 : List (List Int)) (x5_1 : Int), v5 = .int .i64 x5_1 ∧ Aside0 (spec_HeldBytes.l0 kq x4_1 x5_1 l0_0 l0_1 = some (r1, r2)) ∧ Aside0 (kq ≤ k) ∧ Aside0 (Kd.S (Kd.slice 3 (Kd.int .i64)) 37 w' w.heap.size (fun _ => True) v4 x4_1) ∧ Aside0 (w'.heap[gb101]? = some (.cells #[(.slice A0_0 l0_0.length c0_0), (.slice A0_1 l0_1.length c0_1)] 29 (0, 0))) ∧ Aside0 (Below w.heap.size w w'))
  case atStart => exact ⟨(y102), (0), zr, H', ⟨Nat.le_refl _⟩, ⟨by (with_reducible repeat (first | apply Kd.S_alloc | apply Kd.S_drewN | apply Kd.S_drew)); exact HO104.out⟩, ⟨kz (BK101.out)⟩, ⟨bs HB.out GE101.out⟩⟩
  case round =>
   clear H'
   try clear c1
   try clear c2
   try clear p2
   try clear c3
   try clear hcz7_0
   try clear hcz7_1
   try clear hfz7_0
   try clear hfz7_1
   obtain ⟨x4_1, x5_1, rfl, HA, HK1, HO_4, BK101, HB⟩ := hrel
   cases gk with
   | zero => exact absurd HA.out (by simp [spec_HeldBytes.l0])
   | succ k1 =>
    have H := HA.out; clear HA; simp only [spec_HeldBytes.l0] at H
    by_cases c9 : x5_1 < 16
    ·
     rw [if_pos c9] at H; have c9b0 : decide (x5_1 < 16) = true := decide_eq_true c9; clear c9; obtain ⟨y106, hy106⟩ : ∃ y_ : List Int, y_ = (([] : List Int)) := ⟨_, rfl⟩
     replace H : (spec_HeldBytes.l1 k1 x4_1 x5_1 y106 0 l0_0 l0_1) = some (r1, r2) := by first | (rw [hy106]; with_reducible exact H) | (have H2_ := (Option.bind_some _ _).symm.trans H; rw [hy106]; with_reducible exact H2_) | (have H2_ := (Option.bind_some _ _).symm.trans H; with_reducible exact H2_) | with_reducible exact H | (rw [hy106]; exact H) | exact H
     have Ny106 := Aside0.mk hy106; clear hy106; have H' := Aside0.mk H; clear H
     go_wp2_with (first | ((with_reducible refine gate_dst (N := 17) rfl ?_); refine Kd.R_lit (Kd.int .i64) _ 3 ?hg (N := 17) ?hd (xs := ([] : List Int)) (inner := []) (ok := fun _ => True) (okp := fun _ => True) ?hr ?hp (fun _ hk => hk) trivial (Below.refl _ _) (Nat.le_refl _) (by simp) ?_; (case hd => rfl); (case hg => rfl); (case hr => first | (go_simp; done) | (go_simp; rfl)); (case hp => exact (Reps.none _ _)); intro v107 w10 ho11 hb hg_ hnew_; clear hg_ hnew_; (first | rw [← Ny106.out] at ho11 | (simp only [Int.reduceToNat] at ho11; rw [← Ny106.out] at ho11)); replace HO_4 := Aside0.mk (Kd.S_elder' (by (with_reducible repeat (first | apply Kd.S_alloc | apply Kd.S_drewN | apply Kd.S_drew)); exact HO_4.out) (Kd.R_base ho11) hb); have HO108 := Aside0.mk (Kd.R_lower ho11 (below_size (bs HB.out GE101.out))); replace BK101 := Aside0.mk (blk_below (kz BK101.out) hb); replace HB := Aside0.mk (below_step (bs HB.out GE101.out) hb); clear hb ho11))
     go_loopg [6, 7] k1 (fun kq v6 v7 w' => ∃ (x6_2 : List Int) (x7_2 : Int), v7 = .int .i64 x7_2 ∧ Aside0 (spec_HeldBytes.l1 kq x4_1 x5_1 x6_2 x7_2 l0_0 l0_1 = some (r1, r2)) ∧ Aside0 (kq ≤ k1) ∧ Aside0 (Kd.S (Kd.slice 3 (Kd.int .i64)) 37 w' w.heap.size (fun k_ => some k_ ≠ (v6 : Value).ownBlock) u4 x4_1) ∧ Aside0 (Kd.R (Kd.int .i64) 3 w' w.heap.size (fun _ => True) v6 x6_2) ∧ Aside0 (w'.heap[gb101]? = some (.cells #[(.slice A0_0 l0_0.length c0_0), (.slice A0_1 l0_1.length c0_1)] 29 (0, 0))) ∧ Aside0 (Below w.heap.size w w'))
     case atStart => exact ⟨(y106), (0), zr, H', ⟨Nat.le_refl _⟩, ⟨by (with_reducible repeat (first | apply Kd.S_alloc | apply Kd.S_drewN | apply Kd.S_drew)); exact Kd.S_mono HO_4.out (fun _ hk => hk.2)⟩, ⟨rz (HO108.out)⟩, ⟨kz (BK101.out)⟩, ⟨bs HB.out GE101.out⟩⟩
     case round =>
      clear H'
      try clear c1
      try clear c2
      try clear p2
      try clear c3
      try clear c9
      try clear c9b0
      try clear c11
      try clear hcz7_0
      try clear hcz7_1
      try clear hfz7_0
      try clear hfz7_1
      try clear p2
      obtain ⟨x6_2, x7_2, rfl, HA, HK2, HO_4, HO_6, BK101, HB⟩ := hrel
      cases gk with
      | zero => exact absurd HA.out (by simp [spec_HeldBytes.l1])
      | succ k2 =>
       have H := HA.out; clear HA; simp only [spec_HeldBytes.l1] at H
       by_cases c12 : x7_2 < 4
       ·
        rw [if_pos c12] at H; have c12b0 : decide (x7_2 < 4) = true := decide_eq_true c12; clear c12; replace H := Option.bind_eq_some_iff.mp H; obtain ⟨t109, A130, H⟩ := H; have A13 := Aside0.mk A130; clear A130
        by_cases c14 : 0 ≤ x5_1
        ·
         rw [if_pos c14] at H; have c14b0 : decide (0 ≤ x5_1) = true := decide_eq_true c14; clear c14
         by_cases c15 : x5_1 < (t109.length : Int)
         ·
          rw [if_pos c15] at H; have c15b0 : decide (x5_1 < (t109.length : Int)) = true := decide_eq_true c15; clear c15
          by_cases c16 : (rd t109 x5_1) > 0
          ·
           rw [if_pos c16] at H; have c16b0 : decide (0 < (rd t109 x5_1)) = true := decide_eq_true c16; clear c16
           by_cases c17 : x6_2.length < 17592186044416
           ·
            rw [if_pos c17] at H; have LMc17 := Aside0.mk c17; clear c17; obtain ⟨y113, hy113⟩ : ∃ y_ : List Int, y_ = (x6_2 ++ [x7_2]) := ⟨_, rfl⟩
            replace H : (spec_HeldBytes.l1 k2 x4_1 x5_1 y113 (wrap64 (x7_2 + 1)) l0_0 l0_1) = some (r1, r2) := by first | (rw [hy113]; with_reducible exact H) | (have H2_ := (Option.bind_some _ _).symm.trans H; rw [hy113]; with_reducible exact H2_) | (have H2_ := (Option.bind_some _ _).symm.trans H; with_reducible exact H2_) | with_reducible exact H | (rw [hy113]; exact H) | exact H
            have Ny113 := Aside0.mk hy113; clear hy113; have H' := Aside0.mk H; clear H; obtain ⟨hcz18_0, hcz18_1⟩ := cz2 BK101.out; obtain ⟨hfz18_0, hfz18_1⟩ := fz2 BK101.out
            go_wp2_with (first | ((with_reducible refine gate_callee (f := 44) rfl ?_); refine goesL_ (some 25) rfl rfl Try.func44 zk rfl #[.slice A0_0 l0_0.length c0_0, .int .i64 x7_2] rfl zm ?_; (with_reducible refine (spec_l17Modes.calls k2 _ _ l0_0 x7_2 t109 _ ?side1 ?side2 A13.out).mono ?_); (case side1 => exact cz (Kd.C_below HR0_0.out HB.out)); (case side2 => exact HC0_0.out); rintro e w19 ⟨v110, rfl, ho0, hb⟩; refine ⟨_, rfl, ?_⟩; replace HO_4 := Aside0.mk (Kd.S_elder' (by (with_reducible repeat (first | apply Kd.S_alloc | apply Kd.S_drewN | apply Kd.S_drew)); exact HO_4.out) (Kd.R_base ho0) hb); have HO111 := Aside0.mk (Kd.R_lower (Kd.R_new' ho0 (Kd.R_lt (rz HO_6.out))) (below_size (bs HB.out GE101.out))); replace HO_6 := Aside0.mk (Kd.R_elder' (rz HO_6.out) (Kd.R_base ho0) hb); replace BK101 := Aside0.mk (blk_below (kz BK101.out) hb); replace HB := Aside0.mk (below_step (bs HB.out GE101.out) hb); (try clear hb); (try clear ho0); obtain ⟨Ao20, co20, eo20⟩ := Kd.R_slice HO111.out; subst eo20; have p112 : 0 ≤ (x5_1 : Int) := of_decide_eq_true zs; have q112 : x5_1 < (t109.length : Int) := of_decide_eq_true zs; obtain ⟨ad112, e112, hx112_0⟩ := Kd.at_int (Kd.R_reads' HO111.out).2.2 x5_1 p112 q112; cases e112; replace p112 := eq_true p112; replace q112 := eq_true q112) | ((with_reducible refine gate_builtin (b := .append) (xs := #[.tmp 30, .tmp 32]) rfl ?_); at_builtin; refine Kd.R_append (Kd.int .i64) (w0 := w) w.heap.size rfl (.tmp 30) (.tmp 32) 37 3 (.int .i64 0) 8 rfl Try.underlying37 info3 rfl (by decide) (by omega) u6 x6_2 x7_2 [.int .i64 x7_2] (fun k_ => some k_ ≠ (.slice (some ad112) t109.length co20 : Value).ownBlock) (fun _ => False) rfl rfl ?aP (fun _ hk => hk.elim) ?aF ?aO ?aB ?aS ?aL ?_; (case aP => exact rfl); (case aB => exact (bs HB.out GE101.out)); (case aF => exact (fun k_ hk => Kd.fresh' (Kd.R_lt (rz HO111.out)) k_ hk)); (case aO => exact (rz (Kd.R_mono HO_6.out (fun _ hk => hk.2)))); (case aS => exact (below_size (bs HB.out GE101.out))); (case aL => have := LMc17.out; omega); intro v114 w21 ho hb hg hat; rw [← Ny113.out] at ho; have n0_ := Aside0.mk (Kd.S_after (ok := (fun k_ => some k_ ≠ (.slice (some ad112) t109.length co20 : Value).ownBlock)) (by (with_reducible repeat (first | apply Kd.S_alloc | apply Kd.S_drewN | apply Kd.S_drew)); exact Kd.S_mono HO_4.out (fun _ hk => ⟨hk.2, hk.1⟩)) hg hat); have n1_ := Aside0.mk (blk_grown (kz BK101.out) hg (Kd.R_ne HO_6.out BK101.out (by decide))); have n2_ := Aside0.mk (Kd.R_after (ok := (fun _ => True)) (rz HO111.out) hg hat); have n3_ := Aside0.mk (hb); have n4_ := Aside0.mk (ho); clear HO_4; clear BK101; clear HO111; clear HB; clear HO_6; have HO_4 := n0_; have BK101 := n1_; have HO111 := n2_; have HB := n3_; have HO115 := n4_; clear n0_ n1_ n2_ n3_ n4_; clear ho hb hg hat))
            go_roundg k2
            case measure => have := HK1.out; have := HK2.out; omega
            case rel => exact ⟨(y113), (wrap64 (x7_2 + 1)), zr, H', ⟨by have := HK1.out; have := HK2.out; omega⟩, ⟨by (with_reducible repeat (first | apply Kd.S_alloc | apply Kd.S_drewN | apply Kd.S_drew)); exact Kd.S_mono HO_4.out (fun _ hk => hk.2)⟩, ⟨rz (Kd.R_mono HO115.out (fun _ hk => trivial))⟩, ⟨kz (BK101.out)⟩, ⟨bs HB.out GE101.out⟩⟩
           ·
            rw [if_neg c17] at H
            exact absurd H (by simp)
          ·
           rw [if_neg c16] at H; have c16b0 : decide (0 < (rd t109 x5_1)) = false := decide_eq_false c16; clear c16; have H' := Aside0.mk H; clear H; obtain ⟨hcz22_0, hcz22_1⟩ := cz2 BK101.out; obtain ⟨hfz22_0, hfz22_1⟩ := fz2 BK101.out
           go_wp2_with (first | ((with_reducible refine gate_callee (f := 44) rfl ?_); refine goesL_ (some 25) rfl rfl Try.func44 zk rfl #[.slice A0_0 l0_0.length c0_0, .int .i64 x7_2] rfl zm ?_; (with_reducible refine (spec_l17Modes.calls k2 _ _ l0_0 x7_2 t109 _ ?side1 ?side2 A13.out).mono ?_); (case side1 => exact cz (Kd.C_below HR0_0.out HB.out)); (case side2 => exact HC0_0.out); rintro e w23 ⟨v110, rfl, ho0, hb⟩; refine ⟨_, rfl, ?_⟩; replace HO_4 := Aside0.mk (Kd.S_elder' (by (with_reducible repeat (first | apply Kd.S_alloc | apply Kd.S_drewN | apply Kd.S_drew)); exact HO_4.out) (Kd.R_base ho0) hb); have HO111 := Aside0.mk (Kd.R_lower (Kd.R_new' ho0 (Kd.R_lt (rz HO_6.out))) (below_size (bs HB.out GE101.out))); replace HO_6 := Aside0.mk (Kd.R_elder' (rz HO_6.out) (Kd.R_base ho0) hb); replace BK101 := Aside0.mk (blk_below (kz BK101.out) hb); replace HB := Aside0.mk (below_step (bs HB.out GE101.out) hb); (try clear hb); (try clear ho0); obtain ⟨Ao24, co24, eo24⟩ := Kd.R_slice HO111.out; subst eo24; have p112 : 0 ≤ (x5_1 : Int) := of_decide_eq_true zs; have q112 : x5_1 < (t109.length : Int) := of_decide_eq_true zs; obtain ⟨ad112, e112, hx112_0⟩ := Kd.at_int (Kd.R_reads' HO111.out).2.2 x5_1 p112 q112; cases e112; replace p112 := eq_true p112; replace q112 := eq_true q112))
           go_roundg k2
           case measure => have := HK1.out; have := HK2.out; omega
           case rel => exact ⟨(x6_2), (wrap64 (x7_2 + 1)), zr, H', ⟨by have := HK1.out; have := HK2.out; omega⟩, ⟨by (with_reducible repeat (first | apply Kd.S_alloc | apply Kd.S_drewN | apply Kd.S_drew)); exact Kd.S_mono HO_4.out (fun _ hk => hk.1)⟩, ⟨rz (Kd.R_mono HO_6.out (fun _ hk => trivial))⟩, ⟨kz (BK101.out)⟩, ⟨bs HB.out GE101.out⟩⟩
         ·
          rw [if_neg c15] at H
          exact absurd H (by simp)
        ·
         rw [if_neg c14] at H
         exact absurd H (by simp)
       ·
        rw [if_neg c12] at H; have c12b0 : decide (x7_2 < 4) = false := decide_eq_false c12; clear c12
        by_cases c25 : x4_1.length < 5864062014805
        ·
         rw [if_pos c25] at H; have LMc25 := Aside0.mk c25; clear c25; obtain ⟨y116, hy116⟩ : ∃ y_ : List (List Int), y_ = (x4_1 ++ [x6_2]) := ⟨_, rfl⟩
         replace H : (spec_HeldBytes.l0 k2 y116 (wrap64 (x5_1 + 1)) l0_0 l0_1) = some (r1, r2) := by first | (rw [hy116]; with_reducible exact H) | (have H2_ := (Option.bind_some _ _).symm.trans H; rw [hy116]; with_reducible exact H2_) | (have H2_ := (Option.bind_some _ _).symm.trans H; with_reducible exact H2_) | with_reducible exact H | (rw [hy116]; exact H) | exact H
         have Ny116 := Aside0.mk hy116; clear hy116; have H' := Aside0.mk H; clear H; obtain ⟨Ao27, co27, eo27⟩ := Kd.R_slice HO_6.out; subst eo27
         go_wp2_with (first | ((with_reducible refine gate_builtin (b := .append) (xs := #[.tmp 34, .tmp 36]) rfl ?_); at_builtin; refine Kd.S_append (Kd.slice 3 (Kd.int .i64)) (w0 := w) w.heap.size rfl (.tmp 34) (.tmp 36) 51 37 (.slice none 0 0) 24 rfl Try.underlying51 info37 rfl (by decide) (by omega) u4 x4_1 x6_2 [.slice Ao27 x6_2.length co27] (fun _ => True) (fun k_ => some k_ = (.slice Ao27 x6_2.length co27 : Value).ownBlock) rfl rfl ?aP (fun k_ hk_ => ((Kd.R_mono (ok' := fun k_ => ((fun _ => True)) k_ ∧ some k_ ≠ (u4 : Value).ownBlock) (Kd.R_apart' (HO_6.out) (Kd.S_typed HO_4.out) (by decide)) (fun k_ hk => ⟨trivial, hk.2⟩))).1 k_ hk_.symm) ?aF ?aO ?aB ?aS ?aL ?_; (case aP => exact Kd.M_row (Kd.R_mono (Kd.R_tight rfl (Kd.R_mono (ok' := fun k_ => ((fun _ => True)) k_ ∧ some k_ ≠ (u4 : Value).ownBlock) (Kd.R_apart' (HO_6.out) (Kd.S_typed HO_4.out) (by decide)) (fun k_ hk => ⟨trivial, hk.2⟩))) (fun _ h_ => h_))); (case aB => exact (bs HB.out GE101.out)); (case aF => exact (fun _ _ => trivial)); (case aO => exact (by (with_reducible repeat (first | apply Kd.S_alloc | apply Kd.S_drewN | apply Kd.S_drew)); exact Kd.S_mono HO_4.out (fun k_ hk => ⟨trivial, fun e_ => hk e_⟩))); (case aS => exact (below_size (bs HB.out GE101.out))); (case aL => have := LMc25.out; omega); intro v117 w26 ho hb hg hat; rw [← Ny116.out] at ho; have n0_ := Aside0.mk (blk_grown (kz BK101.out) hg (Kd.S_ne HO_4.out BK101.out (by decide))); have n1_ := Aside0.mk (hb); have n2_ := Aside0.mk (ho); clear BK101; clear HB; clear HO_4; clear HO_6; have BK101 := n0_; have HB := n1_; have HO118 := n2_; clear n0_ n1_ n2_; clear ho hb hg hat))
         go_roundg k2
         case measure => have := HK1.out; have := HK2.out; omega
         case rel => exact ⟨(y116), (wrap64 (x5_1 + 1)), zr, H', ⟨by have := HK1.out; have := HK2.out; omega⟩, ⟨by (with_reducible repeat (first | apply Kd.S_alloc | apply Kd.S_drewN | apply Kd.S_drew)); exact HO118.out⟩, ⟨kz (BK101.out)⟩, ⟨bs HB.out GE101.out⟩⟩
        ·
         rw [if_neg c25] at H
         exact absurd H (by simp)
    ·
     rw [if_neg c9] at H; have c9b0 : decide (x5_1 < 16) = false := decide_eq_false c9; clear c9; simp only [Option.some.injEq, Prod.mk.injEq] at H; obtain ⟨rfl, rfl⟩ := H
     go_wp2
     go_ret2
     exact ⟨_, ze, by (with_reducible repeat (first | apply Kd.S_alloc | apply Kd.S_drewN | apply Kd.S_drew)); exact HO_4.out, bs HB.out GE101.out⟩
 ·
  replace c3 := Bool.eq_false_iff.mpr c3; subst c3; rw [if_neg nf_] at H; simp only [Option.some.injEq, Prod.mk.injEq] at H; obtain ⟨rfl, rfl⟩ := H
  go_enter Try.func26, Try.ntmps26
  go_wp2_with (first | ((with_reducible refine gate_dst (N := 1) rfl ?_); refine box_event ?hg (N := 1) ?hd (cs := #[.slice A0_0 l0_0.length c0_0, .slice A0_1 l0_1.length c0_1]) (t := 29) ?hr ?_; (case hd => rfl); (case hg => rfl); (case hr => first | (go_simp; done) | (go_simp; rfl)); intro gb101 hg w28 hbox hb; have BK101 := Aside0.mk (hbox); have GW101 := Aside0.mk ((by rw [hg]; exact (below_size (bz HB.out)) : w.heap.size ≤ gb101)); have GE101 := GW101; replace HB := Aside0.mk (below_step (bz HB.out) hb); clear hb hbox hg) | ((with_reducible refine gate_dst (N := 8) rfl ?_); refine Kd.S_lit (Kd.slice 3 (Kd.int .i64)) _ 37 ?hg (N := 8) ?hd (xs := ([] : List (List Int))) (inner := []) (ok := fun _ => True) (okp := fun _ => True) ?hr ?hp (fun _ hk => hk) trivial (Below.refl _ _) (Nat.le_refl _) (by simp) ?_; (case hd => rfl); (case hg => rfl); (case hr => first | (go_simp; done) | (go_simp; rfl)); (case hp => exact (Reps.none _ _)); intro v103 w29 ho30 hb hg_ hnew_; clear hg_ hnew_; (first | rw [← Ny102.out] at ho30 | (simp only [Int.reduceToNat] at ho30; rw [← Ny102.out] at ho30)); have HO104 := Aside0.mk (Kd.S_lower ho30 (below_size (bs HB.out GE101.out))); replace BK101 := Aside0.mk (blk_below (kz BK101.out) hb); replace HB := Aside0.mk (below_step (bs HB.out GE101.out) hb); clear hb ho30; obtain ⟨hcz31_0, hcz31_1⟩ := cz2 BK101.out; obtain ⟨hfz31_0, hfz31_1⟩ := fz2 BK101.out) | ((with_reducible refine gate_callee (f := 11) rfl ?_); refine goesL_ (some 10) rfl rfl Try.func11 zk rfl #[.agg #[.slice A0_0 l0_0.length c0_0, .slice A0_1 l0_1.length c0_1]] rfl zm ?_; (with_reducible refine (spec_HeldOk.calls k _ _ l0_0 _ _ l0_1 false _ ?side1 ?side2 ?side3 ?side4 A2.out).mono ?_); (case side1 => exact cz (Kd.C_below HR0_0.out HB.out)); (case side2 => exact HC0_0.out); (case side3 => exact cz (Kd.C_below HR0_1.out HB.out)); (case side4 => exact HC0_1.out); rintro e w32 ⟨rfl, hb⟩; refine ⟨_, rfl, ?_⟩; replace HO104 := Aside0.mk (Kd.S_below (by (with_reducible repeat (first | apply Kd.S_alloc | apply Kd.S_drewN | apply Kd.S_drew)); exact HO104.out) hb); replace BK101 := Aside0.mk (blk_below (kz BK101.out) hb); replace HB := Aside0.mk (below_step (bs HB.out GE101.out) hb); (try clear hb)))
  go_ret2
  exact ⟨_, ze, by (with_reducible repeat (first | apply Kd.S_alloc | apply Kd.S_drewN | apply Kd.S_drew)); exact HO104.out, bs HB.out GE101.out⟩

end Go.Proofs.Ytgjlbghjjjlhmaa.P
