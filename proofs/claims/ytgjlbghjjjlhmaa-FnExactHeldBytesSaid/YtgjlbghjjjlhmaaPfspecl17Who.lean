-- printed by wip/qd.py
import Derived.Test.YtgjlbghjjjlhmaaPf0
import Derived.Test.YtgjlbghjjjlhmaaPfspecl17Clash
namespace Go.Proofs.Ytgjlbghjjjlhmaa.P
open Go.RowKit Go.Proofs.YtgjlbghjjjlhmaaW.PrintWords Go.Proofs.YtgjlbghjjjlhmaaW.PrintLast Go.Proofs.YtgjlbghjjjlhmaaW.PrintMore
attribute [local go_sem] max2_int min2_int max_two min_two max_three min_three max_four min_four Q.cell_set_map
set_option linter.unusedVariables false
set_option linter.unusedSimpArgs false

/-! ### spec_l17Who: function 36 -/
mutual
def spec_l17Who.l0 : Nat → List (S40) → List Int → Int → Int → Int → Int → Bool → Option (List Int)
 | 0, _, _, _, _, _, _, _ => none
 | k + 1, x0, x5, x6, x102000, x102001, x102002, x102003 => if x6 < 4 then (spec_l17Who.l1 k x0 x5 x6 false 0 x102000 x102001 x102002 x102003) else (some x5)
def spec_l17Who.l1 : Nat → List (S40) → List Int → Int → Bool → Int → Int → Int → Int → Bool → Option (List Int)
 | 0, _, _, _, _, _, _, _, _, _ => none
 | k + 1, x0, x5, x6, x7, x8, x102000, x102001, x102002, x102003 => if x8 < (x0.length : Int) then (if x7 = true then (spec_l17Who.l1 k x0 x5 x6 true (wrap64 (x8 + 1)) x102000 x102001 x102002 x102003) else (if 0 ≤ x8 then (if ((rd_T40 x0 x8).f0) = x6 then ((spec_l17Clash.f ((rd_T40 x0 x8).f0) ((rd_T40 x0 x8).f1) ((rd_T40 x0 x8).f2) ((rd_T40 x0 x8).f3) x102000 x102001 x102002 x102003).bind fun t107 => (spec_l17Who.l1 k x0 x5 x6 t107 (wrap64 (x8 + 1)) x102000 x102001 x102002 x102003)) else (spec_l17Who.l1 k x0 x5 x6 false (wrap64 (x8 + 1)) x102000 x102001 x102002 x102003)) else (none))) else (if x7 = true then (if x5.length < 17592186044416 then (spec_l17Who.l0 k x0 (x5 ++ [x6]) (wrap64 (x6 + 1)) x102000 x102001 x102002 x102003) else (none)) else (spec_l17Who.l0 k x0 x5 (wrap64 (x6 + 1)) x102000 x102001 x102002 x102003))
end
def spec_l17Who.f (k : Nat) (l0 : List (S40)) (a1_0 : Int) (a1_1 : Int) (a1_2 : Int) (a1_3 : Bool) : Option (List Int) := spec_l17Who.l0 k l0 (([] : List Int)) 0 a1_0 a1_1 a1_2 a1_3
theorem spec_l17Who.mono_l : ∀ k, (∀ y0 y1 y2 y3 y4 y5 y6, LeO (spec_l17Who.l0 k y0 y1 y2 y3 y4 y5 y6) (spec_l17Who.l0 (k + 1) y0 y1 y2 y3 y4 y5 y6)) ∧ (∀ y0 y1 y2 y3 y4 y5 y6 y7 y8, LeO (spec_l17Who.l1 k y0 y1 y2 y3 y4 y5 y6 y7 y8) (spec_l17Who.l1 (k + 1) y0 y1 y2 y3 y4 y5 y6 y7 y8))
 | 0 => ⟨fun _ _ _ _ _ _ _ r h => by simp [spec_l17Who.l0] at h, fun _ _ _ _ _ _ _ _ _ r h => by simp [spec_l17Who.l1] at h⟩
 | k + 1 => by
  obtain ⟨ih0, ih1⟩ := spec_l17Who.mono_l k
  refine ⟨?_, ?_⟩
  ·
   intro y0 y1 y2 y3 y4 y5 y6
   unfold spec_l17Who.l0
   repeat' first
   | (with_reducible exact ih0 _ _ _ _ _ _ _)
   | (with_reducible exact ih1 _ _ _ _ _ _ _ _ _)
   | (with_reducible exact LeO.refl _)
   | (with_reducible exact LeO.none _)
   | (with_reducible refine LeO.ite ?_ ?_)
   | (with_reducible refine LeO.bind ?_ (fun _ => ?_))
   | exact ih0 _ _ _ _ _ _ _
   | exact ih1 _ _ _ _ _ _ _ _ _
   | exact LeO.none _
   | refine LeO.ite ?_ ?_
   | refine LeO.bind ?_ (fun _ => ?_)
  ·
   intro y0 y1 y2 y3 y4 y5 y6 y7 y8
   unfold spec_l17Who.l1
   repeat' first
   | (with_reducible exact ih0 _ _ _ _ _ _ _)
   | (with_reducible exact ih1 _ _ _ _ _ _ _ _ _)
   | (with_reducible exact LeO.refl _)
   | (with_reducible exact LeO.none _)
   | (with_reducible refine LeO.ite ?_ ?_)
   | (with_reducible refine LeO.bind ?_ (fun _ => ?_))
   | exact ih0 _ _ _ _ _ _ _
   | exact ih1 _ _ _ _ _ _ _ _ _
   | exact LeO.none _
   | refine LeO.ite ?_ ?_
   | refine LeO.bind ?_ (fun _ => ?_)
theorem spec_l17Who.mono : ∀ a0 a1 a2 a3 a4 k, LeO (spec_l17Who.f k a0 a1 a2 a3 a4) (spec_l17Who.f (k + 1) a0 a1 a2 a3 a4) := by
 intro a0 a1 a2 a3 a4 k
 obtain ⟨ih0, ih1⟩ := spec_l17Who.mono_l k
 unfold spec_l17Who.f
 repeat' first
   | (with_reducible exact ih0 _ _ _ _ _ _ _)
   | (with_reducible exact ih1 _ _ _ _ _ _ _ _ _)
   | (with_reducible exact LeO.refl _)
   | (with_reducible exact LeO.none _)
   | (with_reducible refine LeO.ite ?_ ?_)
   | (with_reducible refine LeO.bind ?_ (fun _ => ?_))
   | exact ih0 _ _ _ _ _ _ _
   | exact ih1 _ _ _ _ _ _ _ _ _
   | exact LeO.none _
   | refine LeO.ite ?_ ?_
   | refine LeO.bind ?_ (fun _ => ?_)
def spec_l17Who.T9 : Bool × List (List Nat × List Nat) := (true, [([], []), ([0], [0]), ([1], [1]), ([1], [1]), ([2, 3, 1], [1, 2, 3]), ([4, 1], [1, 4]), ([5, 1], [1, 5]), ([1], [1]), ([6, 7, 1], [1, 6, 7]), ([8, 1, 1], [1, 8]), ([9], [9]), ([9], [9]), ([10, 11, 9], [9, 10, 11]), ([12, 9], [9, 12]), ([9], [9]), ([13, 14, 9, 9], [9, 13, 14]), ([9, 15, 1], [1, 9, 15]), ([1, 16], [1, 16]), ([17, 15, 0, 1, 2, 3, 4, 5, 6, 7, 8, 9, 10, 11, 12, 13, 14, 15, 16, 17], [0, 17])])
def spec_l17Who.B9 : List Nat := [0, 1, 3, 3, 15, 31, 63, 3, 255, 511, 1023, 1023, 4095, 8191, 1023, 32767, 65535, 131071, 262143]
theorem spec_l17Who.tab9 : rtab .any (opsOf Try.f36 9) = spec_l17Who.T9 := by kernel_rfl
theorem spec_l17Who.bits9 : waitsOk spec_l17Who.T9.2 spec_l17Who.B9 = true := by kernel_rfl
set_option maxHeartbeats 8000000 in
set_option maxRecDepth 100000 in
theorem spec_l17Who.calls (k : Nat) (A0 : Option Addr) (c0 : Nat) (l0 : List (S40)) (a1_0 : Int) (a1_1 : Int) (a1_2 : Int) (a1_3 : Bool) (r : List Int) (w : World) (hr0 : Kd.C k40 w A0 l0.length l0) (hc0 : l0.length ≤ c0) (h : spec_l17Who.f k l0 a1_0 a1_1 a1_2 a1_3 = some r) :
  Calls Try.prog 36 #[.slice A0 l0.length c0, .agg #[.int .i64 a1_0, .int .i64 a1_1, .int .i64 a1_2, .bool a1_3]] w fun e w' => ∃ v0_ : Value, e = .returned (v0_) ∧ Kd.R (Kd.int .i64) 3 w' w.heap.size (fun _ => True) v0_ r ∧ Below w.heap.size w w' := by
 have hu40 := Try.underlying40; have HR0 := Aside0.mk hr0; have HC0 := Aside0.mk hc0; clear hr0 hc0; have HB := Aside0.mk (Below.refl w.heap.size w); have H : (spec_l17Who.l0 k l0 (([] : List Int)) 0 a1_0 a1_1 a1_2 a1_3) = some r := h; clear h; obtain ⟨y102, hy102⟩ : ∃ y_ : List Int, y_ = (([] : List Int)) := ⟨_, rfl⟩
 replace H : (spec_l17Who.l0 k l0 y102 0 a1_0 a1_1 a1_2 a1_3) = some r := by first | (rw [hy102]; with_reducible exact H) | (have H2_ := (Option.bind_some _ _).symm.trans H; rw [hy102]; with_reducible exact H2_) | (have H2_ := (Option.bind_some _ _).symm.trans H; with_reducible exact H2_) | with_reducible exact H | (rw [hy102]; exact H) | exact H
 have Ny102 := Aside0.mk hy102; clear hy102; have H' := Aside0.mk H; clear H
 go_enter Try.func36, Try.ntmps36
 go_wp2_with (first | ((with_reducible refine gate_dst (N := 3) rfl ?_); refine box_event ?hg (N := 3) ?hd (cs := #[.int .i64 a1_0, .int .i64 a1_1, .int .i64 a1_2, .bool a1_3]) (t := 40) ?hr ?_; (case hd => rfl); (case hg => rfl); (case hr => first | (go_simp; done) | (go_simp; rfl)); intro gb101 hg w3 hbox hb; have BK101 := Aside0.mk (hbox); have GW101 := Aside0.mk ((by rw [hg]; exact (below_size (bz HB.out)) : w.heap.size ≤ gb101)); have GE101 := GW101; replace HB := Aside0.mk (below_step (bz HB.out) hb); clear hb hbox hg) | ((with_reducible refine gate_dst (N := 9) rfl ?_); refine Kd.R_lit (Kd.int .i64) _ 3 ?hg (N := 9) ?hd (xs := ([] : List Int)) (inner := []) (ok := fun _ => True) (okp := fun _ => True) ?hr ?hp (fun _ hk => hk) trivial (Below.refl _ _) (Nat.le_refl _) (by simp) ?_; (case hd => rfl); (case hg => rfl); (case hr => first | (go_simp; done) | (go_simp; rfl)); (case hp => exact (Reps.none _ _)); intro v103 w4 ho5 hb hg_ hnew_; clear hg_ hnew_; (first | rw [← Ny102.out] at ho5 | (simp only [Int.reduceToNat] at ho5; rw [← Ny102.out] at ho5)); have HO104 := Aside0.mk (Kd.R_lower ho5 (below_size (bs HB.out GE101.out))); replace BK101 := Aside0.mk (blk_below (kz BK101.out) hb); replace HB := Aside0.mk (below_step (bs HB.out GE101.out) hb); clear hb ho5))
 go_loopg [5, 6] k (fun kq v5 v6 w' => ∃ (x5_1 : List Int) (x6_1 : Int), v6 = .int .i64 x6_1 ∧ Aside0 (spec_l17Who.l0 kq l0 x5_1 x6_1 a1_0 a1_1 a1_2 a1_3 = some r) ∧ Aside0 (kq ≤ k) ∧ Aside0 (Kd.R (Kd.int .i64) 3 w' w.heap.size (fun _ => True) v5 x5_1) ∧ Aside0 (w'.heap[gb101]? = some (.cells #[.int .i64 a1_0, .int .i64 a1_1, .int .i64 a1_2, .bool a1_3] 40 (0, 0))) ∧ Aside0 (Below w.heap.size w w'))
 case atStart => exact ⟨(y102), (0), zr, H', ⟨Nat.le_refl _⟩, ⟨rz (HO104.out)⟩, ⟨kz (BK101.out)⟩, ⟨bs HB.out GE101.out⟩⟩
 case round =>
  clear H'
  try clear p2
  try clear c3
  obtain ⟨x5_1, x6_1, rfl, HA, HK1, HO_5, BK101, HB⟩ := hrel
  cases gk with
  | zero => exact absurd HA.out (by simp [spec_l17Who.l0])
  | succ k1 =>
   have H := HA.out; clear HA; simp only [spec_l17Who.l0] at H
   by_cases c6 : x6_1 < 4
   ·
    rw [if_pos c6] at H; have c6b0 : decide (x6_1 < 4) = true := decide_eq_true c6; clear c6; have H' := Aside0.mk H; clear H
    go_wp2
    go_loopg [7, 8] k1 (fun kq v7 v8 w' => ∃ (x7_2 : Bool) (x8_2 : Int), v7 = .bool x7_2 ∧ v8 = .int .i64 x8_2 ∧ Aside0 (spec_l17Who.l1 kq l0 x5_1 x6_1 x7_2 x8_2 a1_0 a1_1 a1_2 a1_3 = some r) ∧ Aside0 (kq ≤ k1) ∧ Aside0 (Kd.R (Kd.int .i64) 3 w' w.heap.size (fun _ => True) u5 x5_1) ∧ Aside0 (w'.heap[gb101]? = some (.cells #[.int .i64 a1_0, .int .i64 a1_1, .int .i64 a1_2, .bool a1_3] 40 (0, 0))) ∧ Aside0 (Below w.heap.size w w'))
    case atStart => exact ⟨(false), (0), zr, zr, H', ⟨Nat.le_refl _⟩, ⟨rz (HO_5.out)⟩, ⟨kz (BK101.out)⟩, ⟨bs HB.out GE101.out⟩⟩
    case round =>
     clear H'
     try clear p2
     try clear c3
     try clear c6
     try clear c6b0
     try clear p2
     obtain ⟨x7_2, x8_2, rfl, rfl, HA, HK2, HO_5, BK101, HB⟩ := hrel
     cases gk with
     | zero => exact absurd HA.out (by simp [spec_l17Who.l1])
     | succ k2 =>
      have H := HA.out; clear HA; simp only [spec_l17Who.l1] at H
      by_cases c7 : x8_2 < (l0.length : Int)
      ·
       rw [if_pos c7] at H; have c7b0 : decide (x8_2 < (l0.length : Int)) = true := decide_eq_true c7; clear c7
       by_cases c8 : x7_2 = true
       ·
        subst c8; rw [if_pos rfl] at H; have H' := Aside0.mk H; clear H
        try go_wp2
        replace HO_5 := Aside0.mk (Kd.R_drew HO_5.out); replace BK101 := Aside0.mk (blk_drew BK101.out); replace HB := Aside0.mk (below_drew1 HB.out); refine start_ (n := 19) (S := fun w' => True) (ds := []) (lb 19 0) zk rfl rfl trivial (fun hHeld => ?_); refine with_tabW spec_l17Who.tab9 spec_l17Who.bits9 (fun HT_ HW_ => ?_)
        generalize wr.drew = w9 at HO_5 BK101 HB hHeld ⊢
        refine pz 0 (some 20) (lb 19 1) rfl rfl HT_.out ?_; refine pz 1 (some 21) (lb 19 3) rfl rfl HT_.out ?_; refine nz 2 (some 22) (lb 19 7) rfl rfl HT_.out ?_; refine nz 3 (some 23) (lb 19 15) rfl rfl HT_.out ?_; refine nz 4 (some 24) (lb 19 31) rfl rfl HT_.out ?_; refine nz 5 (some 25) (lb 19 63) rfl rfl HT_.out ?_; refine nz 6 (some 26) (lb 19 127) rfl rfl HT_.out ?_; refine nz 7 (some 27) (lb 19 255) rfl rfl HT_.out ?_; refine nz 8 (some 28) (lb 19 511) rfl rfl HT_.out ?_; refine nz 9 (some 29) (lb 19 1023) rfl rfl HT_.out ?_; refine nz 10 (some 30) (lb 19 2047) rfl rfl HT_.out ?_; refine nz 11 (some 31) (lb 19 4095) rfl rfl HT_.out ?_; refine nz 12 (some 32) (lb 19 8191) rfl rfl HT_.out ?_; refine nz 13 (some 33) (lb 19 16383) rfl rfl HT_.out ?_; refine nz 14 (some 34) (lb 19 32767) rfl rfl HT_.out ?_; refine nz 15 (some 35) (lb 19 65535) rfl rfl HT_.out ?_; refine nz 16 (some 36) (lb 19 131071) rfl rfl HT_.out ?_; refine pz 17 (some 37) (lb 19 262143) rfl rfl HT_.out ?_; refine pz 18 (some 7) (lb 19 524287) rfl rfl HT_.out ?_; refine done_ (done_of HT_.out zk) ?_
        try go_wp2
        go_roundg k2
        case measure => have := HK1.out; have := HK2.out; omega
        case rel => exact ⟨(true), (wrap64 (x8_2 + 1)), zr, zr, H', ⟨by have := HK1.out; have := HK2.out; omega⟩, ⟨rz (HO_5.out)⟩, ⟨kz (BK101.out)⟩, ⟨bs HB.out GE101.out⟩⟩
       ·
        replace c8 := Bool.eq_false_iff.mpr c8; subst c8; rw [if_neg nf_] at H
        by_cases c10 : 0 ≤ x8_2
        ·
         rw [if_pos c10] at H; have c10b0 : decide (0 ≤ x8_2) = true := decide_eq_true c10; clear c10
         by_cases c11 : ((rd_T40 l0 x8_2).f0) = x6_1
         ·
          rw [if_pos c11] at H; have c11b0 : (((rd_T40 l0 x8_2).f0) == x6_1) = true := beq_iff_eq.mpr c11; have c11b1 : (((rd_T40 l0 x8_2).f0) != x6_1) = false := bne_eq_false_iff_eq.mpr c11; clear c11; replace H := Option.bind_eq_some_iff.mp H; obtain ⟨t107, A120, H⟩ := H; have A12 := Aside0.mk A120; clear A120; have H' := Aside0.mk H; clear H
          try go_wp2
          replace HO_5 := Aside0.mk (Kd.R_drew HO_5.out); replace BK101 := Aside0.mk (blk_drew BK101.out); replace HB := Aside0.mk (below_drew1 HB.out); have p105 : 0 ≤ (x8_2 : Int) := of_decide_eq_true zs; have q105 : x8_2 < (l0.length : Int) := of_decide_eq_true zs; obtain ⟨ad105, e105, hx105_0, hx105_1, hx105_2, hx105_3⟩ := at_T40 HR0.out x8_2 p105 q105; have hw105_3 := hx105_3; have hw105_2 := hx105_2; have hw105_1 := hx105_1; have hw105_0 := hx105_0; cases e105; replace hx105_0 := pw_cell_below HB.out hx105_0; replace hx105_1 := pw_cell_below HB.out hx105_1; replace hx105_2 := pw_cell_below HB.out hx105_2; replace hx105_3 := pw_cell_below HB.out hx105_3; replace p105 := eq_true p105; replace q105 := eq_true q105; have p106 : 0 ≤ (x8_2 : Int) := of_decide_eq_true zs; have q106 : x8_2 < (l0.length : Int) := of_decide_eq_true zs; obtain ⟨ad106, e106, hx106_0, hx106_1, hx106_2, hx106_3⟩ := at_T40 HR0.out x8_2 p106 q106; have hw106_3 := hx106_3; have hw106_2 := hx106_2; have hw106_1 := hx106_1; have hw106_0 := hx106_0; obtain rfl : ad105 = ad106 := (by injection e106); replace hx106_0 := pw_cell_below HB.out hx106_0; replace hx106_1 := pw_cell_below HB.out hx106_1; replace hx106_2 := pw_cell_below HB.out hx106_2; replace hx106_3 := pw_cell_below HB.out hx106_3; replace p106 := eq_true p106; replace q106 := eq_true q106; refine start_ (n := 19) (S := fun w' => w'.cell? ⟨gb101, 0, none⟩ = some (.int .i64 a1_0) ∧ w'.cell? ⟨gb101, 1, none⟩ = some (.int .i64 a1_1) ∧ w'.cell? ⟨gb101, 2, none⟩ = some (.int .i64 a1_2) ∧ w'.cell? ⟨gb101, 3, none⟩ = some (.bool a1_3) ∧ w'.cell? (ad105.add ((x8_2).toNat * 4)) = some (.int .i64 ((rd_T40 l0 x8_2).f0)) ∧ w'.cell? ⟨(ad105.add ((x8_2).toNat * 4)).block, (ad105.add ((x8_2).toNat * 4)).off + 1, none⟩ = some (.int .i64 ((rd_T40 l0 x8_2).f1)) ∧ w'.cell? ⟨(ad105.add ((x8_2).toNat * 4)).block, (ad105.add ((x8_2).toNat * 4)).off + 2, none⟩ = some (.int .i64 ((rd_T40 l0 x8_2).f2)) ∧ w'.cell? ⟨(ad105.add ((x8_2).toNat * 4)).block, (ad105.add ((x8_2).toNat * 4)).off + 3, none⟩ = some (.bool ((rd_T40 l0 x8_2).f3)) ∧ w'.cell? (ad105.add ((x8_2).toNat * 4)) = some (.int .i64 ((rd_T40 l0 x8_2).f0)) ∧ w'.cell? ⟨(ad105.add ((x8_2).toNat * 4)).block, (ad105.add ((x8_2).toNat * 4)).off + 1, none⟩ = some (.int .i64 ((rd_T40 l0 x8_2).f1)) ∧ w'.cell? ⟨(ad105.add ((x8_2).toNat * 4)).block, (ad105.add ((x8_2).toNat * 4)).off + 2, none⟩ = some (.int .i64 ((rd_T40 l0 x8_2).f2)) ∧ w'.cell? ⟨(ad105.add ((x8_2).toNat * 4)).block, (ad105.add ((x8_2).toNat * 4)).off + 3, none⟩ = some (.bool ((rd_T40 l0 x8_2).f3))) (ds := []) (lb 19 0) zk rfl rfl ⟨(blk_cell BK101.out 0).trans rfl, (blk_cell BK101.out 1).trans rfl, (blk_cell BK101.out 2).trans rfl, (blk_cell BK101.out 3).trans rfl, (pw_cell_below HB.out hw105_0), (pw_cell_below HB.out hw105_1), (pw_cell_below HB.out hw105_2), (pw_cell_below HB.out hw105_3), (pw_cell_below HB.out hw106_0), (pw_cell_below HB.out hw106_1), (pw_cell_below HB.out hw106_2), (pw_cell_below HB.out hw106_3)⟩ (fun hHeld => ?_); refine with_tabW spec_l17Who.tab9 spec_l17Who.bits9 (fun HT_ HW_ => ?_)
          generalize wr.drew = w13 at HO_5 BK101 HB hx105_0 hx105_1 hx105_2 hx105_3 hx106_0 hx106_1 hx106_2 hx106_3 hHeld ⊢
          refine pz 0 (some 20) (lb 19 1) rfl rfl HT_.out ?_; refine pz 1 (some 21) (lb 19 3) rfl rfl HT_.out ?_; refine pz 2 (some 22) (lb 19 7) rfl rfl HT_.out ?_; refine pz 3 (some 23) (lb 19 15) rfl rfl HT_.out ?_; refine pz 4 (some 24) (lb 19 31) rfl rfl HT_.out ?_; refine pz 5 (some 25) (lb 19 63) rfl rfl HT_.out ?_; refine pz 7 (some 27) (lb 19 191) rfl rfl HT_.out ?_; refine tz 6 (some 26) (lb 19 255) rfl rfl HT_.out HW_.out hHeld ?_; refine pz 8 (some 28) (lb 19 511) rfl rfl HT_.out ?_; refine pz 9 (some 29) (lb 19 1023) rfl rfl HT_.out ?_; refine pz 10 (some 30) (lb 19 2047) rfl rfl HT_.out ?_; refine pz 11 (some 31) (lb 19 4095) rfl rfl HT_.out ?_; refine pz 12 (some 32) (lb 19 8191) rfl rfl HT_.out ?_; refine tz 13 (some 33) (lb 19 16383) rfl rfl HT_.out HW_.out hHeld ?_; refine tz 14 (some 34) (lb 19 32767) rfl rfl HT_.out HW_.out hHeld ?_; refine one_ (i := 15) (N := some 35) (lb 19 65535) rfl rfl (one_of HT_.out zk) (by decide) (fun K hK => ?_); refine goes_ Try.func53 zk rfl #[.agg #[.int .i64 ((rd_T40 l0 x8_2).f0), .int .i64 ((rd_T40 l0 x8_2).f1), .int .i64 ((rd_T40 l0 x8_2).f2), .bool ((rd_T40 l0 x8_2).f3)], .agg #[.int .i64 a1_0, .int .i64 a1_1, .int .i64 a1_2, .bool a1_3]] (by rfl) rfl rfl zm ?_; (with_reducible refine (spec_l17Clash.calls ((rd_T40 l0 x8_2).f0) ((rd_T40 l0 x8_2).f1) ((rd_T40 l0 x8_2).f2) ((rd_T40 l0 x8_2).f3) a1_0 a1_1 a1_2 a1_3 t107 _ A12.out).mono ?_); rintro e w14 ⟨rfl, hb⟩; refine ⟨_, rfl, ?_⟩; replace HO_5 := Aside0.mk (Kd.R_below (rz HO_5.out) hb); replace BK101 := Aside0.mk (blk_below (kz BK101.out) hb); replace HB := Aside0.mk (below_step (bs HB.out GE101.out) hb); (try clear hb); refine hK.out _ _ ⟨(blk_cell BK101.out 0).trans rfl, (blk_cell BK101.out 1).trans rfl, (blk_cell BK101.out 2).trans rfl, (blk_cell BK101.out 3).trans rfl, (pw_cell_below HB.out hw105_0), (pw_cell_below HB.out hw105_1), (pw_cell_below HB.out hw105_2), (pw_cell_below HB.out hw105_3), (pw_cell_below HB.out hw106_0), (pw_cell_below HB.out hw106_1), (pw_cell_below HB.out hw106_2), (pw_cell_below HB.out hw106_3)⟩ (fun hHeld => ?_); clear hK K; refine nm_ ?_; refine pz 16 (some 36) (lb 19 131071) rfl rfl HT_.out ?_; refine pz 17 (some 37) (lb 19 262143) rfl rfl HT_.out ?_; refine pz 18 (some 7) (lb 19 524287) rfl rfl HT_.out ?_; refine done_ (done_of HT_.out zk) ?_
          try go_wp2
          go_roundg k2
          case measure => have := HK1.out; have := HK2.out; omega
          case rel => exact ⟨(t107), (wrap64 (x8_2 + 1)), zr, zr, H', ⟨by have := HK1.out; have := HK2.out; omega⟩, ⟨rz (HO_5.out)⟩, ⟨kz (BK101.out)⟩, ⟨bs HB.out GE101.out⟩⟩
         ·
          rw [if_neg c11] at H; have c11b0 : (((rd_T40 l0 x8_2).f0) == x6_1) = false := beq_eq_false_iff_ne.mpr c11; have c11b1 : (((rd_T40 l0 x8_2).f0) != x6_1) = true := bne_iff_ne.mpr c11; have H' := Aside0.mk H; clear H
          try go_wp2
          replace HO_5 := Aside0.mk (Kd.R_drew HO_5.out); replace BK101 := Aside0.mk (blk_drew BK101.out); replace HB := Aside0.mk (below_drew1 HB.out); have p105 : 0 ≤ (x8_2 : Int) := of_decide_eq_true zs; have q105 : x8_2 < (l0.length : Int) := of_decide_eq_true zs; obtain ⟨ad105, e105, hx105_0, hx105_1, hx105_2, hx105_3⟩ := at_T40 HR0.out x8_2 p105 q105; have hw105_3 := hx105_3; have hw105_2 := hx105_2; have hw105_1 := hx105_1; have hw105_0 := hx105_0; cases e105; replace hx105_0 := pw_cell_below HB.out hx105_0; replace hx105_1 := pw_cell_below HB.out hx105_1; replace hx105_2 := pw_cell_below HB.out hx105_2; replace hx105_3 := pw_cell_below HB.out hx105_3; replace p105 := eq_true p105; replace q105 := eq_true q105; refine start_ (n := 19) (S := fun w' => w'.cell? (ad105.add ((x8_2).toNat * 4)) = some (.int .i64 ((rd_T40 l0 x8_2).f0)) ∧ w'.cell? ⟨(ad105.add ((x8_2).toNat * 4)).block, (ad105.add ((x8_2).toNat * 4)).off + 1, none⟩ = some (.int .i64 ((rd_T40 l0 x8_2).f1)) ∧ w'.cell? ⟨(ad105.add ((x8_2).toNat * 4)).block, (ad105.add ((x8_2).toNat * 4)).off + 2, none⟩ = some (.int .i64 ((rd_T40 l0 x8_2).f2)) ∧ w'.cell? ⟨(ad105.add ((x8_2).toNat * 4)).block, (ad105.add ((x8_2).toNat * 4)).off + 3, none⟩ = some (.bool ((rd_T40 l0 x8_2).f3))) (ds := []) (lb 19 0) zk rfl rfl ⟨(pw_cell_below HB.out hw105_0), (pw_cell_below HB.out hw105_1), (pw_cell_below HB.out hw105_2), (pw_cell_below HB.out hw105_3)⟩ (fun hHeld => ?_); refine with_tabW spec_l17Who.tab9 spec_l17Who.bits9 (fun HT_ HW_ => ?_)
          generalize wr.drew = w15 at HO_5 BK101 HB hx105_0 hx105_1 hx105_2 hx105_3 hHeld ⊢
          refine pz 0 (some 20) (lb 19 1) rfl rfl HT_.out ?_; refine pz 1 (some 21) (lb 19 3) rfl rfl HT_.out ?_; refine pz 2 (some 22) (lb 19 7) rfl rfl HT_.out ?_; refine pz 3 (some 23) (lb 19 15) rfl rfl HT_.out ?_; refine pz 4 (some 24) (lb 19 31) rfl rfl HT_.out ?_; refine pz 5 (some 25) (lb 19 63) rfl rfl HT_.out ?_; refine pz 7 (some 27) (lb 19 191) rfl rfl HT_.out ?_; refine tz 6 (some 26) (lb 19 255) rfl rfl HT_.out HW_.out hHeld ?_; refine pz 8 (some 28) (lb 19 511) rfl rfl HT_.out ?_; refine pz 9 (some 29) (lb 19 1023) rfl rfl HT_.out ?_; refine nz 10 (some 30) (lb 19 2047) rfl rfl HT_.out ?_; refine nz 11 (some 31) (lb 19 4095) rfl rfl HT_.out ?_; refine nz 12 (some 32) (lb 19 8191) rfl rfl HT_.out ?_; refine nz 13 (some 33) (lb 19 16383) rfl rfl HT_.out ?_; refine nz 14 (some 34) (lb 19 32767) rfl rfl HT_.out ?_; refine nz 15 (some 35) (lb 19 65535) rfl rfl HT_.out ?_; refine pz 16 (some 36) (lb 19 131071) rfl rfl HT_.out ?_; refine pz 17 (some 37) (lb 19 262143) rfl rfl HT_.out ?_; refine pz 18 (some 7) (lb 19 524287) rfl rfl HT_.out ?_; refine done_ (done_of HT_.out zk) ?_
          try go_wp2
          go_roundg k2
          case measure => have := HK1.out; have := HK2.out; omega
          case rel => exact ⟨(false), (wrap64 (x8_2 + 1)), zr, zr, H', ⟨by have := HK1.out; have := HK2.out; omega⟩, ⟨rz (HO_5.out)⟩, ⟨kz (BK101.out)⟩, ⟨bs HB.out GE101.out⟩⟩
        ·
         rw [if_neg c10] at H
         exact absurd H (by simp)
      ·
       rw [if_neg c7] at H; have c7b0 : decide (x8_2 < (l0.length : Int)) = false := decide_eq_false c7; clear c7
       by_cases c16 : x7_2 = true
       ·
        subst c16; rw [if_pos rfl] at H
        by_cases c17 : x5_1.length < 17592186044416
        ·
         rw [if_pos c17] at H; have LMc17 := Aside0.mk c17; clear c17; obtain ⟨y108, hy108⟩ : ∃ y_ : List Int, y_ = (x5_1 ++ [x6_1]) := ⟨_, rfl⟩
         replace H : (spec_l17Who.l0 k2 l0 y108 (wrap64 (x6_1 + 1)) a1_0 a1_1 a1_2 a1_3) = some r := by first | (rw [hy108]; with_reducible exact H) | (have H2_ := (Option.bind_some _ _).symm.trans H; rw [hy108]; with_reducible exact H2_) | (have H2_ := (Option.bind_some _ _).symm.trans H; with_reducible exact H2_) | with_reducible exact H | (rw [hy108]; exact H) | exact H
         have Ny108 := Aside0.mk hy108; clear hy108; have H' := Aside0.mk H; clear H
         go_wp2_with (first | ((with_reducible refine gate_builtin (b := .append) (xs := #[.tmp 39, .tmp 41]) rfl ?_); at_builtin; refine Kd.R_append (Kd.int .i64) (w0 := w) w.heap.size rfl (.tmp 39) (.tmp 41) 37 3 (.int .i64 0) 8 rfl Try.underlying37 info3 rfl (by decide) (by omega) u5 x5_1 x6_1 [.int .i64 x6_1] (fun _ => True) (fun _ => False) rfl rfl ?aP (fun _ hk => hk.elim) ?aF ?aO ?aB ?aS ?aL ?_; (case aP => exact rfl); (case aB => exact (bs HB.out GE101.out)); (case aF => exact (fun _ _ => trivial)); (case aO => exact (rz HO_5.out)); (case aS => exact (below_size (bs HB.out GE101.out))); (case aL => have := LMc17.out; omega); intro v109 w18 ho hb hg hat; rw [← Ny108.out] at ho; have n0_ := Aside0.mk (blk_grown (kz BK101.out) hg (Kd.R_ne HO_5.out BK101.out (by decide))); have n1_ := Aside0.mk (hb); have n2_ := Aside0.mk (ho); clear BK101; clear HB; clear HO_5; have BK101 := n0_; have HB := n1_; have HO110 := n2_; clear n0_ n1_ n2_; clear ho hb hg hat))
         go_roundg k2
         case measure => have := HK1.out; have := HK2.out; omega
         case rel => exact ⟨(y108), (wrap64 (x6_1 + 1)), zr, H', ⟨by have := HK1.out; have := HK2.out; omega⟩, ⟨rz (HO110.out)⟩, ⟨kz (BK101.out)⟩, ⟨bs HB.out GE101.out⟩⟩
        ·
         rw [if_neg c17] at H
         exact absurd H (by simp)
       ·
        replace c16 := Bool.eq_false_iff.mpr c16; subst c16; rw [if_neg nf_] at H; have H' := Aside0.mk H; clear H
        go_wp2
        go_roundg k2
        case measure => have := HK1.out; have := HK2.out; omega
        case rel => exact ⟨(x5_1), (wrap64 (x6_1 + 1)), zr, H', ⟨by have := HK1.out; have := HK2.out; omega⟩, ⟨rz (HO_5.out)⟩, ⟨kz (BK101.out)⟩, ⟨bs HB.out GE101.out⟩⟩
   ·
    rw [if_neg c6] at H; have c6b0 : decide (x6_1 < 4) = false := decide_eq_false c6; clear c6; obtain rfl := Option.some.inj H
    go_wp2
    go_ret
    exact ⟨_, ze, by (with_reducible repeat (first | apply Kd.R_alloc | apply Kd.R_drewN | apply Kd.R_drew)); exact HO_5.out, bs HB.out GE101.out⟩

end Go.Proofs.Ytgjlbghjjjlhmaa.P
