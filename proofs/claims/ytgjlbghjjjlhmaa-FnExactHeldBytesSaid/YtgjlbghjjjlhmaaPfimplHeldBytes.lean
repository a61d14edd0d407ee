-- printed by wip/qd.py
import Derived.Test.YtgjlbghjjjlhmaaPf0
import Derived.Test.YtgjlbghjjjlhmaaPfimplHeldOk
namespace Go.Proofs.Ytgjlbghjjjlhmaa.P
open Go.RowKit Go.Proofs.YtgjlbghjjjlhmaaW.PrintWords Go.Proofs.YtgjlbghjjjlhmaaW.PrintLast Go.Proofs.YtgjlbghjjjlhmaaW.PrintMore
attribute [local go_sem] max2_int min2_int max_two min_two max_three min_three max_four min_four Q.cell_set_map
set_option linter.unusedVariables false
set_option linter.unusedSimpArgs false

/-! ### impl_HeldBytes: function 27 -/
mutual
def impl_HeldBytes.l0 : Nat → List (List Int) → List (S40) → Int → Int → Option ((List (List Int)) × Bool)
 | 0, _, _, _, _ => none
 | k + 1, x4, x13, x14, x15 => if x15 < x14 then (if 0 ≤ x15 then (if x15 < (x13.length : Int) then (impl_HeldBytes.l1 k x4 ((rd_T40 x13 x15).f1) x13 x14 x15 ((rd_T40 x13 x15).f0) ((rd_T40 x13 x15).f1) ((rd_T40 x13 x15).f2) ((rd_T40 x13 x15).f3)) else (none)) else (none)) else (some (x4, true))
def impl_HeldBytes.l1 : Nat → List (List Int) → Int → List (S40) → Int → Int → Int → Int → Int → Bool → Option ((List (List Int)) × Bool)
 | 0, _, _, _, _, _, _, _, _, _ => none
 | k + 1, x4, x7, x13, x14, x15, x108000, x108001, x108002, x108003 => if x7 ≤ x108002 then (if 0 ≤ x7 then (if x7 < (x4.length : Int) then (if (rd_L11 x4 x7).length < 17592186044416 then (impl_HeldBytes.l1 k (x4.set (x7 : Int).toNat ((rd_L11 x4 x7) ++ [x108000])) (wrap64 (x7 + 1)) x13 x14 x15 x108000 x108001 x108002 x108003) else (none)) else (none)) else (none)) else (impl_HeldBytes.l0 k x4 x13 x14 (wrap64 (x15 + 1)))
end
def impl_HeldBytes.f (k : Nat) (l0_0 : List (S40)) (l0_1 : List (S40)) : Option ((List (List Int)) × Bool) := (impl_HeldOk.f k l0_0 l0_1).bind fun t102 => (if t102 = true then (if 16 ≤ 11728124029610 then (impl_HeldBytes.l0 k (List.replicate 16 []) l0_0 (l0_0.length : Int) 0) else (none)) else (some (([] : List (List Int)), false)))
theorem impl_HeldBytes.mono_l : ∀ k, (∀ y0 y1 y2 y3, LeO (impl_HeldBytes.l0 k y0 y1 y2 y3) (impl_HeldBytes.l0 (k + 1) y0 y1 y2 y3)) ∧ (∀ y0 y1 y2 y3 y4 y5 y6 y7 y8, LeO (impl_HeldBytes.l1 k y0 y1 y2 y3 y4 y5 y6 y7 y8) (impl_HeldBytes.l1 (k + 1) y0 y1 y2 y3 y4 y5 y6 y7 y8))
 | 0 => ⟨fun _ _ _ _ r h => by simp [impl_HeldBytes.l0] at h, fun _ _ _ _ _ _ _ _ _ r h => by simp [impl_HeldBytes.l1] at h⟩
 | k + 1 => by
  obtain ⟨ih0, ih1⟩ := impl_HeldBytes.mono_l k
  refine ⟨?_, ?_⟩
  ·
   intro y0 y1 y2 y3
   unfold impl_HeldBytes.l0
   repeat' first
   | (with_reducible exact ih0 _ _ _ _)
   | (with_reducible exact ih1 _ _ _ _ _ _ _ _ _)
   | (with_reducible exact impl_HeldOk.mono _ _ _)
   | (with_reducible exact LeO.refl _)
   | (with_reducible exact LeO.none _)
   | (with_reducible refine LeO.ite ?_ ?_)
   | (with_reducible refine LeO.bind ?_ (fun _ => ?_))
   | exact ih0 _ _ _ _
   | exact ih1 _ _ _ _ _ _ _ _ _
   | exact impl_HeldOk.mono _ _ _
   | exact LeO.none _
   | refine LeO.ite ?_ ?_
   | refine LeO.bind ?_ (fun _ => ?_)
  ·
   intro y0 y1 y2 y3 y4 y5 y6 y7 y8
   unfold impl_HeldBytes.l1
   repeat' first
   | (with_reducible exact ih0 _ _ _ _)
   | (with_reducible exact ih1 _ _ _ _ _ _ _ _ _)
   | (with_reducible exact impl_HeldOk.mono _ _ _)
   | (with_reducible exact LeO.refl _)
   | (with_reducible exact LeO.none _)
   | (with_reducible refine LeO.ite ?_ ?_)
   | (with_reducible refine LeO.bind ?_ (fun _ => ?_))
   | exact ih0 _ _ _ _
   | exact ih1 _ _ _ _ _ _ _ _ _
   | exact impl_HeldOk.mono _ _ _
   | exact LeO.none _
   | refine LeO.ite ?_ ?_
   | refine LeO.bind ?_ (fun _ => ?_)
theorem impl_HeldBytes.mono : ∀ a0 a1 k, LeO (impl_HeldBytes.f k a0 a1) (impl_HeldBytes.f (k + 1) a0 a1) := by
 intro a0 a1 k
 obtain ⟨ih0, ih1⟩ := impl_HeldBytes.mono_l k
 unfold impl_HeldBytes.f
 repeat' first
   | (with_reducible exact ih0 _ _ _ _)
   | (with_reducible exact ih1 _ _ _ _ _ _ _ _ _)
   | (with_reducible exact impl_HeldOk.mono _ _ _)
   | (with_reducible exact LeO.refl _)
   | (with_reducible exact LeO.none _)
   | (with_reducible refine LeO.ite ?_ ?_)
   | (with_reducible refine LeO.bind ?_ (fun _ => ?_))
   | exact ih0 _ _ _ _
   | exact ih1 _ _ _ _ _ _ _ _ _
   | exact impl_HeldOk.mono _ _ _
   | exact LeO.none _
   | refine LeO.ite ?_ ?_
   | refine LeO.bind ?_ (fun _ => ?_)
def impl_HeldBytes.T10 : Bool × List (List Nat × List Nat) := (true, [([], []), ([], []), ([], []), ([], []), ([2, 3], [2, 3]), ([4], [4]), ([], []), ([6], [6]), ([7], [7]), ([5, 8], [5, 8]), ([0, 1, 0, 1, 2, 3, 4, 5, 6, 7, 8, 9], [0, 1]), ([10, 9, 9, 0, 1, 2, 3, 4, 5, 6, 7, 8, 9], [9, 10])])
def impl_HeldBytes.B10 : List Nat := [0, 0, 0, 0, 12, 28, 0, 64, 192, 508, 1023, 2047]
theorem impl_HeldBytes.tab10 : rtab .any (opsOf Try.f27 10) = impl_HeldBytes.T10 := by kernel_rfl
theorem impl_HeldBytes.bits10 : waitsOk impl_HeldBytes.T10.2 impl_HeldBytes.B10 = true := by kernel_rfl
set_option maxHeartbeats 8000000 in
set_option maxRecDepth 100000 in
theorem impl_HeldBytes.calls (k : Nat) (A0_0 : Option Addr) (c0_0 : Nat) (l0_0 : List (S40)) (A0_1 : Option Addr) (c0_1 : Nat) (l0_1 : List (S40)) (r1 : List (List Int)) (r2 : Bool) (w : World) (hr0_0 : Kd.C k40 w A0_0 l0_0.length l0_0) (hc0_0 : l0_0.length ≤ c0_0) (hr0_1 : Kd.C k40 w A0_1 l0_1.length l0_1) (hc0_1 : l0_1.length ≤ c0_1) (h : impl_HeldBytes.f k l0_0 l0_1 = some (r1, r2)) :
  Calls Try.prog 27 #[.agg #[.slice A0_0 l0_0.length c0_0, .slice A0_1 l0_1.length c0_1]] w fun e w' => ∃ v0_ : Value, e = .returned (.tuple #[v0_, .bool r2]) ∧ Kd.S (Kd.slice 3 (Kd.int .i64)) 37 w' w.heap.size (fun _ => True) v0_ r1 ∧ Below w.heap.size w w' := by
 have hu29 := Try.underlying29; have hu40 := Try.underlying40; have HR0_0 := Aside0.mk hr0_0; have HC0_0 := Aside0.mk hc0_0; clear hr0_0 hc0_0; have HR0_1 := Aside0.mk hr0_1; have HC0_1 := Aside0.mk hc0_1; clear hr0_1 hc0_1; have HB := Aside0.mk (Below.refl w.heap.size w); have H : ((impl_HeldOk.f k l0_0 l0_1).bind fun t102 => (if t102 = true then (if 16 ≤ 11728124029610 then (impl_HeldBytes.l0 k (List.replicate 16 []) l0_0 (l0_0.length : Int) 0) else (none)) else (some (([] : List (List Int)), false)))) = some (r1, r2) := h; clear h; replace H := Option.bind_eq_some_iff.mp H; obtain ⟨t102, A20, H⟩ := H; have A2 := Aside0.mk A20; clear A20
 by_cases c3 : t102 = true
 ·
  subst c3; rw [if_pos rfl] at H
  by_cases c4 : 16 ≤ 11728124029610
  ·
   rw [if_pos c4] at H; have c4b0 := eq_true c4; have c4b1 : decide (16 ≤ 11728124029610) = true := decide_eq_true c4; clear c4; obtain ⟨y103, hy103⟩ : ∃ y_ : List (List Int), y_ = (List.replicate 16 []) := ⟨_, rfl⟩
   replace H : (impl_HeldBytes.l0 k y103 l0_0 (l0_0.length : Int) 0) = some (r1, r2) := by first | (rw [hy103]; with_reducible exact H) | (have H2_ := (Option.bind_some _ _).symm.trans H; rw [hy103]; with_reducible exact H2_) | (have H2_ := (Option.bind_some _ _).symm.trans H; with_reducible exact H2_) | with_reducible exact H | (rw [hy103]; exact H) | exact H
   have Ny103 := Aside0.mk hy103; clear hy103; have H' := Aside0.mk H; clear H
   go_enter Try.func27, Try.ntmps27
   go_wp2_with (first | ((with_reducible refine gate_dst (N := 1) rfl ?_); refine box_event ?hg (N := 1) ?hd (cs := #[.slice A0_0 l0_0.length c0_0, .slice A0_1 l0_1.length c0_1]) (t := 29) ?hr ?_; (case hd => rfl); (case hg => rfl); (case hr => first | (go_simp; done) | (go_simp; rfl)); intro gb101 hg w5 hbox hb; have BK101 := Aside0.mk (hbox); have GW101 := Aside0.mk ((by rw [hg]; exact (below_size (bz HB.out)) : w.heap.size ≤ gb101)); have GE101 := GW101; replace HB := Aside0.mk (below_step (bz HB.out) hb); clear hb hbox hg; obtain ⟨hcz6_0, hcz6_1⟩ := cz2 BK101.out; obtain ⟨hfz6_0, hfz6_1⟩ := fz2 BK101.out) | ((with_reducible refine gate_callee (f := 13) rfl ?_); refine goesL_ (some 9) rfl rfl Try.func13 zk rfl #[.agg #[.slice A0_0 l0_0.length c0_0, .slice A0_1 l0_1.length c0_1]] rfl zm ?_; (with_reducible refine (impl_HeldOk.calls k _ _ l0_0 _ _ l0_1 true _ ?side1 ?side2 ?side3 ?side4 A2.out).mono ?_); (case side1 => exact cz (Kd.C_below HR0_0.out HB.out)); (case side2 => exact HC0_0.out); (case side3 => exact cz (Kd.C_below HR0_1.out HB.out)); (case side4 => exact HC0_1.out); rintro e w7 ⟨rfl, hb⟩; refine ⟨_, rfl, ?_⟩; replace BK101 := Aside0.mk (blk_below (kz BK101.out) hb); replace HB := Aside0.mk (below_step (bs HB.out GE101.out) hb); (try clear hb)) | ((with_reducible refine gate_dst (N := 11) rfl ?_); refine Kd.S_make (Kd.slice 3 (Kd.int .i64)) _ 37 rfl (N := 11) rfl 51 _ _ rfl 16 rfl rfl Try.underlying51 (.slice none 0 0) 24 info37 rfl (by decide) (by omega) [] (ok := fun _ => True) (okp := fun _ => True) ⟨_, rfl, Kd.R_nil _ _ _ _ _⟩ (fun _ hk => hk) trivial (by omega) (by omega) (Below.refl _ _) (Nat.le_refl _) ?_; intro v104 w8 ho9 hb hg_ hnew_; clear hg_ hnew_; (first | rw [← Ny103.out] at ho9 | (simp only [Int.reduceToNat] at ho9; rw [← Ny103.out] at ho9)); have HO105 := Aside0.mk (Kd.S_lower ho9 (below_size (bs HB.out GE101.out))); replace BK101 := Aside0.mk (blk_below (kz BK101.out) hb); replace HB := Aside0.mk (below_step (bs HB.out GE101.out) hb); clear hb ho9; obtain ⟨hcz10_0, hcz10_1⟩ := cz2 BK101.out; obtain ⟨hfz10_0, hfz10_1⟩ := fz2 BK101.out))
   go_loopg [15] k (fun kq v15 w' => ∃ (x4_1 : List (List Int)) (x15_1 : Int), v15 = .int .i64 x15_1 ∧ Aside0 (impl_HeldBytes.l0 kq x4_1 l0_0 (l0_0.length : Int) x15_1 = some (r1, r2)) ∧ Aside0 (kq ≤ k) ∧ Aside0 (Kd.S (Kd.slice 3 (Kd.int .i64)) 37 w' w.heap.size (fun _ => True) v104 x4_1) ∧ Aside0 (w'.heap[gb101]? = some (.cells #[(.slice A0_0 l0_0.length c0_0), (.slice A0_1 l0_1.length c0_1)] 29 (0, 0))) ∧ Aside0 (Below w.heap.size w w'))
   case atStart => exact ⟨(y103), (0), zr, H', ⟨Nat.le_refl _⟩, ⟨by (with_reducible repeat (first | apply Kd.S_alloc | apply Kd.S_drewN | apply Kd.S_drew)); exact HO105.out⟩, ⟨kz (BK101.out)⟩, ⟨bs HB.out GE101.out⟩⟩
   case round =>
    clear H'
    try clear c1
    try clear c2
    try clear p2
    try clear c3
    try clear c4
    try clear c4b0
    try clear c4b1
    try clear hcz10_0
    try clear hcz10_1
    try clear hcz6_0
    try clear hcz6_1
    try clear hfz10_0
    try clear hfz10_1
    try clear hfz6_0
    try clear hfz6_1
    obtain ⟨x4_1, x15_1, rfl, HA, HK1, HO_4, BK101, HB⟩ := hrel
    cases gk with
    | zero => exact absurd HA.out (by simp [impl_HeldBytes.l0])
    | succ k1 =>
     have H := HA.out; clear HA; simp only [impl_HeldBytes.l0] at H
     by_cases c11 : x15_1 < (l0_0.length : Int)
     ·
      rw [if_pos c11] at H; have c11b0 : decide (x15_1 < (l0_0.length : Int)) = true := decide_eq_true c11; clear c11
      by_cases c12 : 0 ≤ x15_1
      ·
       rw [if_pos c12] at H; have c12b0 : decide (0 ≤ x15_1) = true := decide_eq_true c12; clear c12
       by_cases c13 : x15_1 < (l0_0.length : Int)
       ·
        rw [if_pos c13] at H; have c13b0 : decide (x15_1 < (l0_0.length : Int)) = true := decide_eq_true c13; clear c13; have H' := Aside0.mk H; clear H; have p106 : 0 ≤ (x15_1 : Int) := of_decide_eq_true zs; have q106 : x15_1 < (l0_0.length : Int) := of_decide_eq_true zs; obtain ⟨ad106, e106, hx106_0, hx106_1, hx106_2, hx106_3⟩ := at_T40 HR0_0.out x15_1 p106 q106; cases e106; replace hx106_0 := pw_cell_below HB.out hx106_0; replace hx106_1 := pw_cell_below HB.out hx106_1; replace hx106_2 := pw_cell_below HB.out hx106_2; replace hx106_3 := pw_cell_below HB.out hx106_3; replace p106 := eq_true p106; replace q106 := eq_true q106
        go_wp2_with (first | ((with_reducible refine gate_dst (N := 6) rfl ?_); refine box_event ?hg (N := 6) ?hd (cs := #[.int .i64 0, .int .i64 0, .int .i64 0, .bool false]) (t := 40) ?hr ?_; (case hd => rfl); (case hg => rfl); (case hr => first | (go_simp; done) | (go_simp; rfl)); intro gb107 hg w14 hbox hb; replace HO_4 := Aside0.mk (Kd.S_below (by (with_reducible repeat (first | apply Kd.S_alloc | apply Kd.S_drewN | apply Kd.S_drew)); exact HO_4.out) hb); have BK107 := Aside0.mk (hbox); have GW107 := Aside0.mk ((by rw [hg]; exact (below_size (bs HB.out GE101.out)) : w.heap.size ≤ gb107)); have GE107 := GW107; replace HB := Aside0.mk (below_step (bs HB.out GE101.out) hb); have NB101_107 := Aside0.mk ((by rw [hg]; exact Nat.ne_of_lt (blk_lt (kz BK101.out)) : gb101 ≠ gb107)); have NB107_101 := Aside0.mk NB101_107.out.symm; replace BK101 := Aside0.mk (blk_below (kz BK101.out) hb); clear hb hbox hg; have hnb15 := NB107_101.out; have hnc15 := NB101_107.out; obtain ⟨hcz16_0, hcz16_1, hcz16_2, hcz16_3⟩ := cz4 BK107.out; obtain ⟨hfz16_0, hfz16_1, hfz16_2, hfz16_3⟩ := fz4 BK107.out))
        go_loopg [7] k1 (fun kq v7 w' => ∃ (x4_2 : List (List Int)) (x7_2 : Int), v7 = .int .i64 x7_2 ∧ Aside0 (impl_HeldBytes.l1 kq x4_2 x7_2 l0_0 (l0_0.length : Int) x15_1 ((rd_T40 l0_0 x15_1).f0) ((rd_T40 l0_0 x15_1).f1) ((rd_T40 l0_0 x15_1).f2) ((rd_T40 l0_0 x15_1).f3) = some (r1, r2)) ∧ Aside0 (kq ≤ k1) ∧ Aside0 (Kd.S (Kd.slice 3 (Kd.int .i64)) 37 w' w.heap.size (fun _ => True) v104 x4_2) ∧ Aside0 (w'.heap[gb101]? = some (.cells #[(.slice (some ad106) l0_0.length c0_0), (.slice A0_1 l0_1.length c0_1)] 29 (0, 0))) ∧ Aside0 (w'.heap[gb107]? = some (.cells #[.int .i64 ((rd_T40 l0_0 x15_1).f0), .int .i64 ((rd_T40 l0_0 x15_1).f1), .int .i64 ((rd_T40 l0_0 x15_1).f2), .bool ((rd_T40 l0_0 x15_1).f3)] 40 (0, 0))) ∧ Aside0 (Below w.heap.size w w'))
        case atStart => exact ⟨(x4_1), ((rd_T40 l0_0 x15_1).f1), zr, H', ⟨Nat.le_refl _⟩, ⟨by (with_reducible repeat (first | apply Kd.S_alloc | apply Kd.S_drewN | apply Kd.S_drew)); exact Kd.S_mono (Kd.S_far (p := ⟨gb107, 3, none⟩) (Kd.S_far (p := ⟨gb107, 2, none⟩) (Kd.S_far (p := ⟨gb107, 1, none⟩) (Kd.S_far (p := ⟨gb107, 0, none⟩) (Kd.S_types HO_4.out BK107.out (by decide)) (fun _ hk => hk.2) (.int .i64 ((rd_T40 l0_0 x15_1).f0))) (fun _ hk => hk.2) (.int .i64 ((rd_T40 l0_0 x15_1).f1))) (fun _ hk => hk.2) (.int .i64 ((rd_T40 l0_0 x15_1).f2))) (fun _ hk => hk.2) (.bool ((rd_T40 l0_0 x15_1).f3))) (fun _ hk => trivial)⟩, ⟨by (with_reducible repeat (first | refine blk_drewN ?_ _ | refine blk_drew ?_ | refine blk_alloc ?_ _ | refine blk_far ?_ NB101_107.out _)); exact BK101.out⟩, ⟨by (with_reducible repeat (first | refine blk_drewN ?_ _ | refine blk_drew ?_ | refine blk_alloc ?_ _)); refine blk_put (cs := #[.int .i64 ((rd_T40 l0_0 x15_1).f0), .int .i64 ((rd_T40 l0_0 x15_1).f1), .int .i64 ((rd_T40 l0_0 x15_1).f2), .bool false]) ?_ 3 _ rfl; (with_reducible repeat (first | refine blk_drewN ?_ _ | refine blk_drew ?_ | refine blk_alloc ?_ _)); refine blk_put (cs := #[.int .i64 ((rd_T40 l0_0 x15_1).f0), .int .i64 ((rd_T40 l0_0 x15_1).f1), .int .i64 0, .bool false]) ?_ 2 _ rfl; (with_reducible repeat (first | refine blk_drewN ?_ _ | refine blk_drew ?_ | refine blk_alloc ?_ _)); refine blk_put (cs := #[.int .i64 ((rd_T40 l0_0 x15_1).f0), .int .i64 0, .int .i64 0, .bool false]) ?_ 1 _ rfl; (with_reducible repeat (first | refine blk_drewN ?_ _ | refine blk_drew ?_ | refine blk_alloc ?_ _)); refine blk_put (cs := #[.int .i64 0, .int .i64 0, .int .i64 0, .bool false]) ?_ 0 _ rfl; (with_reducible repeat (first | refine blk_drewN ?_ _ | refine blk_drew ?_ | refine blk_alloc ?_ _)); exact BK107.out⟩, ⟨bs2 HB.out GE101.out GE107.out⟩⟩
        case round =>
         clear H'
         try clear c1
         try clear p1
         try clear q1
         try clear hx1
         try clear c2
         try clear p2
         try clear c3
         try clear c4
         try clear c4b0
         try clear c4b1
         try clear p10
         try clear q10
         try clear hx10
         try clear c11
         try clear c11b0
         try clear c12
         try clear c12b0
         try clear c13
         try clear c13b0
         try clear c15
         try clear hcz10_0
         try clear hcz10_1
         try clear hcz16_0
         try clear hcz16_1
         try clear hcz16_2
         try clear hcz16_3
         try clear hcz6_0
         try clear hcz6_1
         try clear hfz10_0
         try clear hfz10_1
         try clear hfz16_0
         try clear hfz16_1
         try clear hfz16_2
         try clear hfz16_3
         try clear hfz6_0
         try clear hfz6_1
         try clear hx106_0
         try clear hx106_1
         try clear hx106_2
         try clear hx106_3
         try clear p106
         try clear p2
         try clear q106
         obtain ⟨x4_2, x7_2, rfl, HA, HK2, HO_4, BK101, BK107, HB⟩ := hrel
         cases gk with
         | zero => exact absurd HA.out (by simp [impl_HeldBytes.l1])
         | succ k2 =>
          have H := HA.out; clear HA; simp only [impl_HeldBytes.l1] at H
          by_cases c17 : x7_2 ≤ ((rd_T40 l0_0 x15_1).f2)
          ·
           rw [if_pos c17] at H; have c17b0 : decide (x7_2 ≤ ((rd_T40 l0_0 x15_1).f2)) = true := decide_eq_true c17; clear c17
           by_cases c18 : 0 ≤ x7_2
           ·
            rw [if_pos c18] at H; have c18b0 : decide (0 ≤ x7_2) = true := decide_eq_true c18; clear c18
            by_cases c19 : x7_2 < (x4_2.length : Int)
            ·
             rw [if_pos c19] at H; have c19b0 : decide (x7_2 < (x4_2.length : Int)) = true := decide_eq_true c19; clear c19
             by_cases c20 : (rd_L11 x4_2 x7_2).length < 17592186044416
             ·
              rw [if_pos c20] at H; have LMc20 := Aside0.mk c20; clear c20; obtain ⟨y109, hy109⟩ : ∃ y_ : List Int, y_ = ((rd_L11 x4_2 x7_2) ++ [((rd_T40 l0_0 x15_1).f0)]) := ⟨_, rfl⟩
              replace H : (impl_HeldBytes.l1 k2 (x4_2.set (x7_2 : Int).toNat y109) (wrap64 (x7_2 + 1)) l0_0 (l0_0.length : Int) x15_1 ((rd_T40 l0_0 x15_1).f0) ((rd_T40 l0_0 x15_1).f1) ((rd_T40 l0_0 x15_1).f2) ((rd_T40 l0_0 x15_1).f3)) = some (r1, r2) := by first | (rw [hy109]; with_reducible exact H) | (have H2_ := (Option.bind_some _ _).symm.trans H; rw [hy109]; with_reducible exact H2_) | (have H2_ := (Option.bind_some _ _).symm.trans H; with_reducible exact H2_) | with_reducible exact H | (rw [hy109]; exact H) | exact H
              have Ny109 := Aside0.mk hy109; clear hy109; obtain ⟨y112, hy112⟩ : ∃ y_ : List (List Int), y_ = (x4_2.set (x7_2 : Int).toNat y109) := ⟨_, rfl⟩
              replace H : (impl_HeldBytes.l1 k2 y112 (wrap64 (x7_2 + 1)) l0_0 (l0_0.length : Int) x15_1 ((rd_T40 l0_0 x15_1).f0) ((rd_T40 l0_0 x15_1).f1) ((rd_T40 l0_0 x15_1).f2) ((rd_T40 l0_0 x15_1).f3)) = some (r1, r2) := by first | (rw [hy112]; with_reducible exact H) | (have H2_ := (Option.bind_some _ _).symm.trans H; rw [hy112]; with_reducible exact H2_) | (have H2_ := (Option.bind_some _ _).symm.trans H; with_reducible exact H2_) | with_reducible exact H | (rw [hy112]; exact H) | exact H
              have Ny112 := Aside0.mk hy112; clear hy112; have H' := Aside0.mk H; clear H; have hnb22 := NB107_101.out; have hnc22 := NB101_107.out; obtain ⟨hcz23_0, hcz23_1, hcz23_2, hcz23_3⟩ := cz4 BK107.out; obtain ⟨hfz23_0, hfz23_1, hfz23_2, hfz23_3⟩ := fz4 BK107.out
              try go_wp2
              replace HO_4 := Aside0.mk (Kd.S_drew HO_4.out); replace BK101 := Aside0.mk (blk_drew BK101.out); replace BK107 := Aside0.mk (blk_drew BK107.out); replace HB := Aside0.mk (below_drew1 HB.out); obtain ⟨Ao25, co25, eo25⟩ := Kd.S_slice HO_4.out
              (first | subst eo25 | (injection eo25 with f1_ f2_ f3_; have f4_ := f1_.symm; have f5_ := f3_.symm; clear f1_ f2_ f3_; subst f4_; subst f5_))
              have p108 : 0 ≤ (x7_2 : Int) := of_decide_eq_true zs; have q108 : x7_2 < (x4_2.length : Int) := of_decide_eq_true zs; obtain ⟨ad108, A108_0, c108_0, e108, hx108_0, hl108_0, hi108_0⟩ := at_L11 (Kd.S_reads' HO_4.out).2.2 x7_2 p108 q108; cases e108; obtain ⟨ce108, hce108, hMe108, hcc108⟩ := Kd.S_get HO_4.out [] x7_2 p108 (by first | exact q108 | exact of_decide_eq_true zs | (have e_ := (Kd.S_reads' HO_4.out).1; omega)); obtain ⟨ve108_0, rfl, ge108_0⟩ := hMe108; have hv108_0 := hcc108 0 _ rfl; rw [Nat.add_zero, show ((Kd.slice 3 (Kd.int .i64))).sz = 1 from rfl, Nat.mul_one] at hv108_0; replace hv108_0 := Option.some.inj (hv108_0.symm.trans hx108_0); rw [hv108_0] at ge108_0; have HL108_0 := Aside0.mk (show Kd.R (Kd.int .i64) 3 _ _ _ _ (rd_L11 x4_2 x7_2) from ge108_0); clear hv108_0 ge108_0; have HX108_0 := Aside0.mk hx108_0; clear hcc108 hce108; have HR108_0 := Aside0.mk hi108_0; have HC108_0 := Aside0.mk hl108_0; clear hi108_0 hl108_0; replace p108 := eq_true p108; replace q108 := eq_true q108; obtain ⟨go26, co26, eo26, gb26, gl26, cl26, HG26⟩ := Kd.S_form HO_4.out (by have h_ : (x7_2 : Int) < ((x4_2.length : Int) : Int) := of_decide_eq_true zs; have h2_ : 0 ≤ (x7_2 : Int) := (of_decide_eq_true zs); omega)
              (first | cases eo26 | (injection eo26 with ea_ en_ ec_; (first | subst ea_ | (injection ea_ with ea_; subst ea_)); subst ec_; clear en_))
              have GB26 := Aside0.mk gb26; have GG26 := Aside0.mk HG26; clear gb26 gl26 HG26
              (first | simp only [add_plain] at hx108_0 | skip)
              obtain ⟨oki26, ce26, hcl26, hM26, hcc26, _, _, hH26⟩ := Kd.S_elem HO_4.out [] (x7_2 : Int) (of_decide_eq_true zs) (by have h_ : (x7_2 : Int) < ((x4_2.length : Int) : Int) := of_decide_eq_true zs; first | exact h_ | (have e_ := (Kd.S_reads' HO_4.out).1; omega) | simpa using h_); obtain ⟨ve26_0, rfl, ge26_0⟩ := hM26; have hv26 := hcc26 0 _ rfl; have hX26 := HX108_0.out; (try simp only [add_plain] at hX26); (try simp only [Nat.add_zero] at hv26); (try rw [show ((Kd.slice 3 (Kd.int .i64))).sz = 1 from rfl, Nat.mul_one] at hv26); replace hv26 := Option.some.inj (hv26.symm.trans hX26); subst hv26; clear hX26 hcc26 hcl26; have UU26 := Aside0.mk (show Kd.R (Kd.int .i64) 3 _ w.heap.size oki26 (.slice A108_0 (rd_L11 x4_2 x7_2).length c108_0) (rd_L11 x4_2 x7_2) from ge26_0); have HH26 := Aside0.mk hH26; have HN26 := Aside0.mk (Kd.S_reads' HO_4.out).1; clear hH26 ge26_0; refine start_ (n := 12) (S := fun w' => w'.cell? ⟨gb107, 0, none⟩ = some (.int .i64 ((rd_T40 l0_0 x15_1).f0)) ∧ w'.cell? ⟨gb107, 1, none⟩ = some (.int .i64 ((rd_T40 l0_0 x15_1).f1)) ∧ w'.cell? ⟨gb107, 2, none⟩ = some (.int .i64 ((rd_T40 l0_0 x15_1).f2)) ∧ w'.cell? ⟨gb107, 3, none⟩ = some (.bool ((rd_T40 l0_0 x15_1).f3)) ∧ w'.cell? ⟨go26, (x7_2).toNat, none⟩ = some (.slice A108_0 (rd_L11 x4_2 x7_2).length c108_0)) (ds := [11]) (lb 12 0) zk rfl rfl ⟨(blk_cell BK107.out 0).trans rfl, (blk_cell BK107.out 1).trans rfl, (blk_cell BK107.out 2).trans rfl, (blk_cell BK107.out 3).trans rfl, hx108_0⟩ (fun hHeld => ?_); refine with_tabW impl_HeldBytes.tab10 impl_HeldBytes.bits10 (fun HT_ HW_ => ?_)
              generalize wr.drew = w24 at HO_4 BK101 BK107 HB GG26 HH26 HL108_0 HR108_0 HX108_0 UU26 hx108_0 hHeld ⊢
              refine pz 0 (some 27) (lb 12 1) rfl rfl HT_.out ?_; refine pz 1 (some 28) (lb 12 3) rfl rfl HT_.out ?_; refine pz 2 (some 29) (lb 12 7) rfl rfl HT_.out ?_; refine pz 3 (some 30) (lb 12 15) rfl rfl HT_.out ?_; refine pz 4 (some 31) (lb 12 31) rfl rfl HT_.out ?_; refine pz 6 (some 33) (lb 12 95) rfl rfl HT_.out ?_; refine tz 5 (some 32) (lb 12 127) rfl rfl HT_.out HW_.out hHeld ?_; refine tz 7 (some 34) (lb 12 255) rfl rfl HT_.out HW_.out hHeld ?_; refine one_ (i := 8) (N := some 35) (lb 12 511) rfl rfl (one_of HT_.out zk) (by decide) (fun K hK => ?_); refine value_ (w1 := ?_) (v := ?_) (by rfl) rfl ?_ ?_; rotate_left 2
              ·
               go_simp
               constructor
               ·
                rfl
               ·
                rfl
              refine hK.out _ _ ⟨(blk_cell (blk_alloc BK107.out _) 0).trans rfl, (blk_cell (blk_alloc BK107.out _) 1).trans rfl, (blk_cell (blk_alloc BK107.out _) 2).trans rfl, (blk_cell (blk_alloc BK107.out _) 3).trans rfl, (World.cell?_alloc_lt _ _ _ (World.block_lt_of_cell? _ _ (hHeld.2.2.2.2))).trans (hHeld.2.2.2.2)⟩ (fun hHeld => ?_); clear hK K; refine nm_ ?_; refine one_ (i := 9) (N := some 36) (lb 12 1023) rfl rfl (one_of HT_.out zk) (by decide) (fun K hK => ?_); refine Kd.R_append_step (Kd.int .i64) (w0 := w) w.heap.size (by rfl) (.tmp 32) (.tmp 35) 37 3 (.int .i64 0) 8 rfl Try.underlying37 info3 rfl (by decide) (by omega) (.slice A108_0 (rd_L11 x4_2 x7_2).length c108_0) (rd_L11 x4_2 x7_2) ((rd_T40 l0_0 x15_1).f0) [.int .i64 ((rd_T40 l0_0 x15_1).f0)] (fun k_ => oki26 k_ ∨ ((fun _ => True)) k_ ∧ w24.heap.size ≤ k_) (fun _ => False) rfl rfl ?aP (fun _ hk => hk.elim) ?aF ?aO ?aB ?aS ?aL ?_; (case aP => exact rfl); (case aB => exact (bs2 HB.out GE101.out GE107.out)); (case aF => exact (fun k_ hk => .inr ⟨trivial, hk⟩)); (case aO => exact (rz (Kd.R_mono UU26.out (fun _ hk => .inl hk)))); (case aS => exact (below_size (bs2 HB.out GE101.out GE107.out))); (case aL => have := LMc20.out; omega); intro v110 w27 ho hb hg hat
              (first | have HS4_ := cell_grown hg (hHeld.2.2.2.2) (by first | (rw [add_block]; exact (fun e_ => ((HL108_0.out.1 _ e_.symm).2) rfl)) | (show some (Addr.add _ _).block ≠ _; rw [add_block]; exact (fun e_ => ((HL108_0.out.1 _ e_.symm).2) rfl)) | exact (fun e_ => ((HL108_0.out.1 _ e_.symm).2) rfl)) | have HS4_ := cell_grown hg (cell_unalloc (hHeld.2.2.2.2) (by first | (rw [add_block]; exact Kd.S_lt HO_4.out _ rfl) | (show (Addr.add _ _).block < _; rw [add_block]; exact Kd.S_lt HO_4.out _ rfl) | exact Kd.S_lt HO_4.out _ rfl)) (by first | (rw [add_block]; exact (fun e_ => ((HL108_0.out.1 _ e_.symm).2) rfl)) | (show some (Addr.add _ _).block ≠ _; rw [add_block]; exact (fun e_ => ((HL108_0.out.1 _ e_.symm).2) rfl)) | exact (fun e_ => ((HL108_0.out.1 _ e_.symm).2) rfl)))
              rw [← Ny109.out] at ho; have n0_ := Aside0.mk (blk_grown (kz BK101.out) hg (Kd.R_ne HL108_0.out BK101.out (by decide))); have n1_ := Aside0.mk (blk_grown (kz BK107.out) hg (Kd.R_ne HL108_0.out BK107.out (by decide))); have n2_ := Aside0.mk (hb); have n3_ := Aside0.mk (Kd.H_grown (Kd.H_widen (by repeat (first | exact HH26.out | refine Kd.H_alloc ?_ _ | refine Kd.H_drewN ?_ _ | refine Kd.H_drew ?_))) hg (fun k_ e_ => .inl (UU26.out.1 k_ e_))); have n4_ := Aside0.mk (ho); clear BK101; clear BK107; clear HB; clear HH26; clear HO_4; clear UU26; clear HL108_0; have BK101 := n0_; have BK107 := n1_; have HB := n2_; have HH26 := n3_; have HO111 := n4_; clear n0_ n1_ n2_ n3_ n4_; clear ho hb hg hat; have p21 : 0 ≤ (x7_2 : Int) := of_decide_eq_true zs; have q21 : (x7_2 : Int) < ((x4_2.length : Int) : Int) := of_decide_eq_true zs; replace p21 := eq_true p21; replace q21 := eq_true q21; obtain ⟨Ao30, co30, eo30⟩ := Kd.R_slice HO111.out
              (first | subst eo30 | (injection eo30 with f1_ f2_ f3_; have f4_ := f1_.symm; have f5_ := f3_.symm; clear f1_ f2_ f3_; subst f4_; subst f5_))
              obtain ⟨_, _, hraw28, _, _, hcc28, _⟩ := Kd.H_raw HH26.out (of_decide_eq_true zs) (by have h_ : (x7_2 : Int) < ((x4_2.length : Int) : Int) := of_decide_eq_true zs; first | exact h_ | (have e_ := (HN26.out); omega) | simpa using h_); obtain ⟨_, hfr28⟩ := Kd.H_at HH26.out (of_decide_eq_true zs) (by have h_ : (x7_2 : Int) < ((x4_2.length : Int) : Int) := of_decide_eq_true zs; first | exact h_ | (have e_ := (HN26.out); omega) | simpa using h_); have hx28_0 := hcc28 0 _ rfl; have hf28_0 := hfr28 0; (try simp only [Nat.add_zero] at hx28_0 hf28_0); (try rw [show ((Kd.slice 3 (Kd.int .i64))).sz = 1 from rfl, Nat.mul_one] at hx28_0); (try rw [show ((Kd.slice 3 (Kd.int .i64))).sz = 1 from rfl, Nat.mul_one] at hf28_0); have HP28 := Kd.S_seg0 HH26.out (of_decide_eq_true zs) (by have h_ : (x7_2 : Int) < ((x4_2.length : Int) : Int) := of_decide_eq_true zs; first | exact h_ | (have e_ := (HN26.out); omega) | simpa using h_) (seg := [.slice Ao30 y109.length co30]) (j := 0) (show 1 ≤ 1 from by decide) (x' := y109) (Kd.M_row HO111.out) (fun _ hk => hk); (try simp only [show ((Kd.slice 3 (Kd.int .i64))).sz = 1 from rfl, Nat.mul_one, Nat.add_zero] at HP28); clear hcc28 hfr28; have HNB101_go26 := Aside0.mk (show gb101 ≠ go26 from by have h_ := Kd.R_ne hraw28 BK101.out (by decide); intro e_; exact h_ (by rw [e_]; rfl)); have HNB107_go26 := Aside0.mk (show gb107 ≠ go26 from by have h_ := Kd.R_ne hraw28 BK107.out (by decide); intro e_; exact h_ (by rw [e_]; rfl)); have HS28 := HP28.1; rw [← Ny112.out] at HS28; have HQ28 := Aside0.mk HS28; obtain ⟨_, hgg28⟩ := Kd.R_typed hraw28 go26 rfl; have GG28_ := Aside0.mk hgg28; clear HP28 HS28 hgg28; refine hK.out _ _ ⟨(blk_cell BK107.out 0).trans rfl, (blk_cell BK107.out 1).trans rfl, (blk_cell BK107.out 2).trans rfl, (blk_cell BK107.out 3).trans rfl, HS4_⟩ (fun hHeld => ?_); clear hK K; refine nm_ ?_; refine pz 10 (some 37) (lb 12 2047) rfl rfl HT_.out ?_; refine last_ (i := 11) (N := none) (lb 12 4095) rfl rfl (one_of HT_.out zk) (by decide) (fun K hK => ?_); refine skip_ (w1 := ?_) (by rfl) rfl ?_ ?_; rotate_left
              ·
               go_simp
               rfl
              refine hK.out _ _ ?_; clear hK K; refine done_ (done_of HT_.out zk) ?_
              try go_wp2
              go_roundg k2
              case measure => have := HK1.out; have := HK2.out; omega
              case rel => exact ⟨(y112), (wrap64 (x7_2 + 1)), zr, H', ⟨by have := HK1.out; have := HK2.out; omega⟩, ⟨by (with_reducible repeat (first | apply Kd.S_alloc | apply Kd.S_drewN | apply Kd.S_drew)); exact HQ28.out⟩, ⟨by (with_reducible repeat (first | refine blk_drewN ?_ _ | refine blk_drew ?_ | refine blk_alloc ?_ _ | refine blk_far ?_ HNB101_go26.out _)); exact BK101.out⟩, ⟨by (with_reducible repeat (first | refine blk_drewN ?_ _ | refine blk_drew ?_ | refine blk_alloc ?_ _ | refine blk_far ?_ HNB107_go26.out _)); exact BK107.out⟩, ⟨by repeat (first | (with_reducible first | exact HB.out | apply below_alloc | apply pw_below_drewN | apply below_drew1 | refine below_set ?_ GB26.out | refine below_set ?_ GE101.out | refine below_set ?_ GE107.out) | exact HB.out)⟩⟩
             ·
              rw [if_neg c20] at H
              exact absurd H (by simp)
            ·
             rw [if_neg c19] at H
             exact absurd H (by simp)
           ·
            rw [if_neg c18] at H
            exact absurd H (by simp)
          ·
           rw [if_neg c17] at H; have c17b0 : decide (x7_2 ≤ ((rd_T40 l0_0 x15_1).f2)) = false := decide_eq_false c17; clear c17; have H' := Aside0.mk H; clear H; have hnb31 := NB107_101.out; have hnc31 := NB101_107.out; obtain ⟨hcz32_0, hcz32_1, hcz32_2, hcz32_3⟩ := cz4 BK107.out; obtain ⟨hfz32_0, hfz32_1, hfz32_2, hfz32_3⟩ := fz4 BK107.out
           go_wp2
           go_roundg k2
           case measure => have := HK1.out; have := HK2.out; omega
           case rel => exact ⟨(x4_2), (wrap64 (x15_1 + 1)), zr, H', ⟨by have := HK1.out; have := HK2.out; omega⟩, ⟨by (with_reducible repeat (first | apply Kd.S_alloc | apply Kd.S_drewN | apply Kd.S_drew)); exact HO_4.out⟩, ⟨kz (BK101.out)⟩, ⟨bs2 HB.out GE101.out GE107.out⟩⟩
       ·
        rw [if_neg c13] at H
        exact absurd H (by simp)
      ·
       rw [if_neg c12] at H
       exact absurd H (by simp)
     ·
      rw [if_neg c11] at H; have c11b0 : decide (x15_1 < (l0_0.length : Int)) = false := decide_eq_false c11; clear c11; simp only [Option.some.injEq, Prod.mk.injEq] at H; obtain ⟨rfl, rfl⟩ := H
      go_wp2
      go_ret2
      exact ⟨_, ze, by (with_reducible repeat (first | apply Kd.S_alloc | apply Kd.S_drewN | apply Kd.S_drew)); exact HO_4.out, bs HB.out GE101.out⟩
  ·
   rw [if_neg c4] at H
   exact absurd H (by simp)
 ·
  replace c3 := Bool.eq_false_iff.mpr c3; subst c3; rw [if_neg nf_] at H; simp only [Option.some.injEq, Prod.mk.injEq] at H; obtain ⟨rfl, rfl⟩ := H
  go_enter Try.func27, Try.ntmps27
  go_wp2_with (first | ((with_reducible refine gate_dst (N := 1) rfl ?_); refine box_event ?hg (N := 1) ?hd (cs := #[.slice A0_0 l0_0.length c0_0, .slice A0_1 l0_1.length c0_1]) (t := 29) ?hr ?_; (case hd => rfl); (case hg => rfl); (case hr => first | (go_simp; done) | (go_simp; rfl)); intro gb101 hg w33 hbox hb; have BK101 := Aside0.mk (hbox); have GW101 := Aside0.mk ((by rw [hg]; exact (below_size (bz HB.out)) : w.heap.size ≤ gb101)); have GE101 := GW101; replace HB := Aside0.mk (below_step (bz HB.out) hb); clear hb hbox hg; obtain ⟨hcz34_0, hcz34_1⟩ := cz2 BK101.out; obtain ⟨hfz34_0, hfz34_1⟩ := fz2 BK101.out) | ((with_reducible refine gate_callee (f := 13) rfl ?_); refine goesL_ (some 9) rfl rfl Try.func13 zk rfl #[.agg #[.slice A0_0 l0_0.length c0_0, .slice A0_1 l0_1.length c0_1]] rfl zm ?_; (with_reducible refine (impl_HeldOk.calls k _ _ l0_0 _ _ l0_1 false _ ?side1 ?side2 ?side3 ?side4 A2.out).mono ?_); (case side1 => exact cz (Kd.C_below HR0_0.out HB.out)); (case side2 => exact HC0_0.out); (case side3 => exact cz (Kd.C_below HR0_1.out HB.out)); (case side4 => exact HC0_1.out); rintro e w35 ⟨rfl, hb⟩; refine ⟨_, rfl, ?_⟩; replace BK101 := Aside0.mk (blk_below (kz BK101.out) hb); replace HB := Aside0.mk (below_step (bs HB.out GE101.out) hb); (try clear hb)))
  go_ret2
  exact ⟨_, ze, by first | exact Kd.S_nil _ _ _ _ _ | exact Kd.N_nil _ _ _ _ _ | exact Kd.V_nil _ _ _ _ _ | exact Kd.Q_nil _ _ _ _ _ | exact Kd.R_nil _ _ _ _ _, bs HB.out GE101.out⟩

end Go.Proofs.Ytgjlbghjjjlhmaa.P
