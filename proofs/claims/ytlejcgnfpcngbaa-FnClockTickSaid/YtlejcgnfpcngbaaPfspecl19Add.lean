-- printed by this session's own driver (wip/qd.py) out of the translation; Lean checks it
import Derived.Test.YtlejcgnfpcngbaaPf0
import Derived.Test.YtlejcgnfpcngbaaPfspecl19Ahead
namespace Go.Proofs.Ytlejcgnfpcngbaa.P
open Go.RowKit Go.Proofs.YtlejcgnfpcngbaaW.PrintWords Go.Proofs.YtlejcgnfpcngbaaW.PrintLast Go.Proofs.YtlejcgnfpcngbaaW.PrintMore
attribute [local go_sem] max2_int min2_int max_two min_two max_three min_three max_four min_four Q.cell_set_map   -- for this text's walks alone
set_option linter.unusedVariables false
set_option linter.unusedSimpArgs false

/-! ### spec_l19Add: function 61 -/
def spec_l19Add.l0 : Nat → List (S62) → List (S62) → Bool → Int → Int → Int → Int → Option ((List (S62)))
 | 0, _, _, _, _, _, _, _ => none
 | k + 1, x0, x5, x6, x7, x102000, x102001, x102002 => if x7 < (x0.length : Int) then (if x6 = true then (if 0 ≤ x7 then (if x5.length < 5864062014805 then (spec_l19Add.l0 k x0 (x5 ++ [(⟨(rd_T62 x0 x7).f0, (rd_T62 x0 x7).f1, (rd_T62 x0 x7).f2⟩ : S62)]) x6 (wrap64 (x7 + 1)) x102000 x102001 x102002) else (none)) else (none)) else (if 0 ≤ x7 then ((spec_l19Ahead.f x102000 x102001 x102002 ((rd_T62 x0 x7).f0) ((rd_T62 x0 x7).f1) ((rd_T62 x0 x7).f2)).bind fun t110 => (if t110 = true then (if x5.length < 5864062014805 then ((some (x5 ++ [(⟨x102000, x102001, x102002⟩ : S62)] : List (S62))).bind fun y111 => (if y111.length < 5864062014805 then (spec_l19Add.l0 k x0 (y111 ++ [(⟨(rd_T62 x0 x7).f0, (rd_T62 x0 x7).f1, (rd_T62 x0 x7).f2⟩ : S62)]) true (wrap64 (x7 + 1)) x102000 x102001 x102002) else (none))) else (none)) else (if x5.length < 5864062014805 then (spec_l19Add.l0 k x0 (x5 ++ [(⟨(rd_T62 x0 x7).f0, (rd_T62 x0 x7).f1, (rd_T62 x0 x7).f2⟩ : S62)]) x6 (wrap64 (x7 + 1)) x102000 x102001 x102002) else (none)))) else (none))) else (if x6 = true then (some x5) else (if x5.length < 5864062014805 then (some (x5 ++ [(⟨x102000, x102001, x102002⟩ : S62)])) else (none)))
def spec_l19Add.f (k : Nat) (l0 : List (S62)) (a1_0 : Int) (a1_1 : Int) (a1_2 : Int) : Option ((List (S62))) := spec_l19Add.l0 k l0 (([] : List (S62))) false 0 a1_0 a1_1 a1_2
theorem spec_l19Add.mono_l : ∀ k, (∀ y0 y1 y2 y3 y4 y5 y6, LeO (spec_l19Add.l0 k y0 y1 y2 y3 y4 y5 y6) (spec_l19Add.l0 (k + 1) y0 y1 y2 y3 y4 y5 y6))
 | 0 => fun _ _ _ _ _ _ _ r h => by simp [spec_l19Add.l0] at h
 | k + 1 => by
  have ih0 := spec_l19Add.mono_l k
  ·
   intro y0 y1 y2 y3 y4 y5 y6
   unfold spec_l19Add.l0
   repeat' first
   | (with_reducible exact ih0 _ _ _ _ _ _ _)
   | (with_reducible exact LeO.refl _)
   | (with_reducible exact LeO.none _)
   | (with_reducible refine LeO.ite ?_ ?_)
   | (with_reducible refine LeO.bind ?_ (fun _ => ?_))
   | exact ih0 _ _ _ _ _ _ _
   | exact LeO.none _
   | refine LeO.ite ?_ ?_
   | refine LeO.bind ?_ (fun _ => ?_)
theorem spec_l19Add.mono : ∀ a0 a1 a2 a3 k, LeO (spec_l19Add.f k a0 a1 a2 a3) (spec_l19Add.f (k + 1) a0 a1 a2 a3) := by
 intro a0 a1 a2 a3 k
 have ih0 := spec_l19Add.mono_l k
 unfold spec_l19Add.f
 repeat' first
   | (with_reducible exact ih0 _ _ _ _ _ _ _)
   | (with_reducible exact LeO.refl _)
   | (with_reducible exact LeO.none _)
   | (with_reducible refine LeO.ite ?_ ?_)
   | (with_reducible refine LeO.bind ?_ (fun _ => ?_))
   | exact ih0 _ _ _ _ _ _ _
   | exact LeO.none _
   | refine LeO.ite ?_ ?_
   | refine LeO.bind ?_ (fun _ => ?_)
def spec_l19Add.T6 : Bool × List (List Nat × List Nat) := (true, [([], []), ([0], [0]), ([1], [1]), ([2], [2]), ([2], [2]), ([2], [2]), ([4, 5, 2], [2, 4, 5]), ([6, 2], [2, 6]), ([3, 7, 2, 2], [2, 3, 7]), ([2, 8], [2, 8])])
def spec_l19Add.B6 : List Nat := [0, 1, 3, 7, 7, 7, 55, 119, 255, 511]
theorem spec_l19Add.tab6 : rtab .any (opsOf Try.f61 6) = spec_l19Add.T6 := by kernel_rfl
theorem spec_l19Add.bits6 : waitsOk spec_l19Add.T6.2 spec_l19Add.B6 = true := by kernel_rfl
set_option maxHeartbeats 8000000 in
set_option maxRecDepth 100000 in
theorem spec_l19Add.calls (k : Nat) (A0 : Option Addr) (c0 : Nat) (l0 : List (S62)) (a1_0 : Int) (a1_1 : Int) (a1_2 : Int) (r : List (S62)) (w : World) (hr0 : Kd.C k62 w A0 l0.length l0) (hc0 : l0.length ≤ c0) (h : spec_l19Add.f k l0 a1_0 a1_1 a1_2 = some r) :
  Calls Try.prog 61 #[.slice A0 l0.length c0, .agg #[.int .i64 a1_0, .int .i64 a1_1, .int .i64 a1_2]] w fun e w' => ∃ v0_ : Value, e = .returned (v0_) ∧ Kd.R k62 62 w' w.heap.size (fun _ => True) v0_ r ∧ Below w.heap.size w w' := by
 have hu62 := Try.underlying62; have HR0 := Aside0.mk hr0; have HC0 := Aside0.mk hc0; clear hr0 hc0; have HB := Aside0.mk (Below.refl w.heap.size w); have H : (spec_l19Add.l0 k l0 (([] : List (S62))) false 0 a1_0 a1_1 a1_2) = some r := h; clear h; obtain ⟨y102, hy102⟩ : ∃ y_ : List (S62), y_ = (([] : List (S62))) := ⟨_, rfl⟩
 replace H : (spec_l19Add.l0 k l0 y102 false 0 a1_0 a1_1 a1_2) = some r := by first | (rw [hy102]; with_reducible exact H) | (have H2_ := (Option.bind_some _ _).symm.trans H; rw [hy102]; with_reducible exact H2_) | (have H2_ := (Option.bind_some _ _).symm.trans H; with_reducible exact H2_) | with_reducible exact H | (rw [hy102]; exact H) | exact H
 have Ny102 := Aside0.mk hy102; clear hy102; have H' := Aside0.mk H; clear H
 go_enter Try.func61, Try.ntmps61
 go_wp2_with (first | ((with_reducible refine gate_dst (N := 3) rfl ?_); refine box_event ?hg (N := 3) ?hd (cs := #[.int .i64 a1_0, .int .i64 a1_1, .int .i64 a1_2]) (t := 62) ?hr ?_; (case hd => rfl); (case hg => rfl); (case hr => first | (go_simp; done) | (go_simp; rfl)); intro gb101 hg w3 hbox hb; have BK101 := Aside0.mk (hbox); have GW101 := Aside0.mk ((by rw [hg]; exact (below_size (bz HB.out)) : w.heap.size ≤ gb101)); have GE101 := Aside0.mk ((by rw [hg]; exact (below_size (bz HB.out)) : w.heap.size ≤ gb101)); replace HB := Aside0.mk (below_step (bz HB.out) hb); clear hb hbox hg) | ((with_reducible refine gate_dst (N := 8) rfl ?_); refine Kd.R_lit k62 _ 62 ?hg (N := 8) ?hd (xs := ([] : List (S62))) (inner := []) (ok := fun _ => True) (okp := fun _ => True) ?hr ?hp (fun _ hk => hk) trivial (Below.refl _ _) (Nat.le_refl _) (by simp) ?_; (case hd => rfl); (case hg => rfl); (case hr => first | (go_simp; done) | (go_simp; rfl)); (case hp => exact (Reps.none _ _)); intro v103 w4 ho5 hb hg_ hnew_; clear hg_ hnew_; (first | rw [← Ny102.out] at ho5 | (simp only [Int.reduceToNat] at ho5; rw [← Ny102.out] at ho5)); have HO104 := Aside0.mk (Kd.R_lower (Kd.R_newB ho5 (g := gb101) (o := .cells #[.int .i64 a1_0, .int .i64 a1_1, .int .i64 a1_2] 62 (0, 0)) (kz BK101.out)) (below_size (bs HB.out GE101.out))); replace BK101 := Aside0.mk (blk_below (kz BK101.out) hb); replace HB := Aside0.mk (below_step (bs HB.out GE101.out) hb); clear hb ho5))
 go_loopg [5, 6, 7] k (fun kq v5 v6 v7 w' => ∃ (x5_1 : List (S62)) (x6_1 : Bool) (x7_1 : Int), v6 = .bool x6_1 ∧ v7 = .int .i64 x7_1 ∧ Aside0 (spec_l19Add.l0 kq l0 x5_1 x6_1 x7_1 a1_0 a1_1 a1_2 = some r) ∧ Aside0 (kq ≤ k) ∧ Aside0 (Kd.R k62 62 w' w.heap.size (fun k_ => k_ ≠ gb101) v5 x5_1) ∧ Aside0 (w'.heap[gb101]? = some (.cells #[.int .i64 a1_0, .int .i64 a1_1, .int .i64 a1_2] 62 (0, 0))) ∧ Aside0 (Below w.heap.size w w'))
 case atStart => exact ⟨(y102), (false), (0), zr, zr, H', ⟨Nat.le_refl _⟩, ⟨rz (Kd.R_mono HO104.out (fun _ hk => hk.2))⟩, ⟨kz (BK101.out)⟩, ⟨bs HB.out GE101.out⟩⟩
 case round =>
  clear H'
  try clear p2
  obtain ⟨x5_1, x6_1, x7_1, rfl, rfl, HA, HK1, HO_5, BK101, HB⟩ := hrel
  cases gk with
  | zero => exact absurd HA.out (by simp [spec_l19Add.l0])
  | succ k1 =>
   have H := HA.out; clear HA; simp only [spec_l19Add.l0] at H
   by_cases c6 : x7_1 < (l0.length : Int)
   ·
    rw [if_pos c6] at H; have c6b0 : decide (x7_1 < (l0.length : Int)) = true := decide_eq_true c6; clear c6
    by_cases c7 : x6_1 = true
    ·
     subst c7; rw [if_pos rfl] at H
     by_cases c8 : 0 ≤ x7_1
     ·
      rw [if_pos c8] at H; have c8b0 : decide (0 ≤ x7_1) = true := decide_eq_true c8; clear c8
      by_cases c9 : x5_1.length < 5864062014805
      ·
       rw [if_pos c9] at H; have LMc9 := Aside0.mk c9; clear c9; obtain ⟨y106, hy106⟩ : ∃ y_ : List (S62), y_ = (x5_1 ++ [(⟨(rd_T62 l0 x7_1).f0, (rd_T62 l0 x7_1).f1, (rd_T62 l0 x7_1).f2⟩ : S62)]) := ⟨_, rfl⟩
       replace H : (spec_l19Add.l0 k1 l0 y106 true (wrap64 (x7_1 + 1)) a1_0 a1_1 a1_2) = some r := by first | (rw [hy106]; with_reducible exact H) | (have H2_ := (Option.bind_some _ _).symm.trans H; rw [hy106]; with_reducible exact H2_) | (have H2_ := (Option.bind_some _ _).symm.trans H; with_reducible exact H2_) | with_reducible exact H | (rw [hy106]; exact H) | exact H
       have Ny106 := Aside0.mk hy106; clear hy106; have H' := Aside0.mk H; clear H
       try go_wp2
       replace HO_5 := Aside0.mk (Kd.R_drew HO_5.out); replace BK101 := Aside0.mk (blk_drew BK101.out); replace HB := Aside0.mk (below_drew1 HB.out); refine start_ (n := 10) (S := fun w' => True) (ds := []) (lb 10 0) zk rfl rfl trivial (fun hHeld => ?_); refine with_tabW spec_l19Add.tab6 spec_l19Add.bits6 (fun HT_ HW_ => ?_)
       generalize wr.drew = w10 at HO_5 BK101 HB hHeld ⊢
       refine pz 0 (some 15) (lb 10 1) rfl rfl HT_.out ?_; refine pz 1 (some 16) (lb 10 3) rfl rfl HT_.out ?_; refine pz 2 (some 17) (lb 10 7) rfl rfl HT_.out ?_; refine nz 3 (some 18) (lb 10 15) rfl rfl HT_.out ?_; refine nz 4 (some 19) (lb 10 31) rfl rfl HT_.out ?_; refine nz 5 (some 20) (lb 10 63) rfl rfl HT_.out ?_; refine nz 6 (some 21) (lb 10 127) rfl rfl HT_.out ?_; refine nz 7 (some 22) (lb 10 255) rfl rfl HT_.out ?_; refine nz 8 (some 23) (lb 10 511) rfl rfl HT_.out ?_; refine pz 9 (some 24) (lb 10 1023) rfl rfl HT_.out ?_; refine done_ (done_of HT_.out zk) ?_; have p105 : 0 ≤ (x7_1 : Int) := of_decide_eq_true zs; have q105 : x7_1 < (l0.length : Int) := of_decide_eq_true zs; obtain ⟨ad105, e105, hx105_0, hx105_1, hx105_2⟩ := at_T62 HR0.out x7_1 p105 q105; cases e105; replace hx105_0 := pw_cell_below HB.out hx105_0; replace hx105_1 := pw_cell_below HB.out hx105_1; replace hx105_2 := pw_cell_below HB.out hx105_2; replace p105 := eq_true p105; replace q105 := eq_true q105
       try go_wp2_with (first | ((with_reducible refine gate_builtin (b := .append) (xs := #[.tmp 29, .tmp 34]) rfl ?_); at_builtin; refine Kd.R_append k62 (w0 := w) w.heap.size rfl (.tmp 29) (.tmp 34) 24 62 (.agg #[(.int .i64 0), (.int .i64 0), (.int .i64 0)]) 24 rfl Try.underlying24 info62 rfl (by decide) (by omega) u5 x5_1 (⟨(rd_T62 l0 x7_1).f0, (rd_T62 l0 x7_1).f1, (rd_T62 l0 x7_1).f2⟩ : S62) [.int .i64 ((rd_T62 l0 x7_1).f0), .int .i64 ((rd_T62 l0 x7_1).f1), .int .i64 ((rd_T62 l0 x7_1).f2)] (fun k_ => k_ ≠ gb101) (fun _ => False) rfl rfl ?aP (fun _ hk => hk.elim) ?aF ?aO ?aB ?aS ?aL ?_; (case aP => exact k62_mkM _ _ _ (⟨(rd_T62 l0 x7_1).f0, (rd_T62 l0 x7_1).f1, (rd_T62 l0 x7_1).f2⟩ : S62)); (case aB => exact (bs HB.out GE101.out)); (case aF => exact (fun k_ hk => Kd.freshB (g := gb101) (o := .cells #[.int .i64 a1_0, .int .i64 a1_1, .int .i64 a1_2] 62 (0, 0)) (kz BK101.out) k_ hk)); (case aO => exact (rz HO_5.out)); (case aS => exact (below_size (bs HB.out GE101.out))); (case aL => have := LMc9.out; omega); intro v107 w11 ho hb hg hat; rw [← Ny106.out] at ho; have n0_ := Aside0.mk (blk_grown (g := gb101) (o := .cells #[.int .i64 a1_0, .int .i64 a1_1, .int .i64 a1_2] 62 (0, 0)) (kz BK101.out) hg (Kd.R_away HO_5.out (fun _ hk => hk))); have n1_ := Aside0.mk (hb); have n2_ := Aside0.mk (ho); clear BK101; clear HB; clear HO_5; have BK101 := n0_; have HB := n1_; have HO108 := n2_; clear n0_ n1_ n2_; clear ho hb hg hat))
       go_roundg k1
       case measure => have := HK1.out; omega
       case rel => exact ⟨(y106), (true), (wrap64 (x7_1 + 1)), zr, zr, H', ⟨by have := HK1.out; omega⟩, ⟨rz (HO108.out)⟩, ⟨kz (BK101.out)⟩, ⟨bs HB.out GE101.out⟩⟩
      ·
       rw [if_neg c9] at H
       exact absurd H (by simp)
     ·
      rw [if_neg c8] at H
      exact absurd H (by simp)
    ·
     replace c7 := Bool.eq_false_iff.mpr c7; subst c7; rw [if_neg nf_] at H
     by_cases c12 : 0 ≤ x7_1
     ·
      rw [if_pos c12] at H; have c12b0 : decide (0 ≤ x7_1) = true := decide_eq_true c12; clear c12; replace H := Option.bind_eq_some_iff.mp H; obtain ⟨t110, A130, H⟩ := H; have A13 := Aside0.mk A130; clear A130
      by_cases c14 : t110 = true
      ·
       subst c14; rw [if_pos rfl] at H
       by_cases c15 : x5_1.length < 5864062014805
       ·
        rw [if_pos c15] at H; have LMc15 := Aside0.mk c15; clear c15; obtain ⟨y111, hy111⟩ : ∃ y_ : List (S62), y_ = (x5_1 ++ [(⟨a1_0, a1_1, a1_2⟩ : S62)]) := ⟨_, rfl⟩
        replace H : (if y111.length < 5864062014805 then (spec_l19Add.l0 k1 l0 (y111 ++ [(⟨(rd_T62 l0 x7_1).f0, (rd_T62 l0 x7_1).f1, (rd_T62 l0 x7_1).f2⟩ : S62)]) true (wrap64 (x7_1 + 1)) a1_0 a1_1 a1_2) else (none)) = some r := by first | (rw [hy111]; with_reducible exact H) | (have H2_ := (Option.bind_some _ _).symm.trans H; rw [hy111]; with_reducible exact H2_) | (have H2_ := (Option.bind_some _ _).symm.trans H; with_reducible exact H2_) | with_reducible exact H | (rw [hy111]; exact H) | exact H
        have Ny111 := Aside0.mk hy111; clear hy111
        by_cases c16 : y111.length < 5864062014805
        ·
         rw [if_pos c16] at H; have LMc16 := Aside0.mk c16; clear c16; obtain ⟨y115, hy115⟩ : ∃ y_ : List (S62), y_ = (y111 ++ [(⟨(rd_T62 l0 x7_1).f0, (rd_T62 l0 x7_1).f1, (rd_T62 l0 x7_1).f2⟩ : S62)]) := ⟨_, rfl⟩
         replace H : (spec_l19Add.l0 k1 l0 y115 true (wrap64 (x7_1 + 1)) a1_0 a1_1 a1_2) = some r := by first | (rw [hy115]; with_reducible exact H) | (have H2_ := (Option.bind_some _ _).symm.trans H; rw [hy115]; with_reducible exact H2_) | (have H2_ := (Option.bind_some _ _).symm.trans H; with_reducible exact H2_) | with_reducible exact H | (rw [hy115]; exact H) | exact H
         have Ny115 := Aside0.mk hy115; clear hy115; have H' := Aside0.mk H; clear H
         try go_wp2
         replace HO_5 := Aside0.mk (Kd.R_drew HO_5.out); replace BK101 := Aside0.mk (blk_drew BK101.out); replace HB := Aside0.mk (below_drew1 HB.out); have p109 : 0 ≤ (x7_1 : Int) := of_decide_eq_true zs; have q109 : x7_1 < (l0.length : Int) := of_decide_eq_true zs; obtain ⟨ad109, e109, hx109_0, hx109_1, hx109_2⟩ := at_T62 HR0.out x7_1 p109 q109; have hw109_2 := hx109_2; have hw109_1 := hx109_1; have hw109_0 := hx109_0; cases e109; replace hx109_0 := pw_cell_below HB.out hx109_0; replace hx109_1 := pw_cell_below HB.out hx109_1; replace hx109_2 := pw_cell_below HB.out hx109_2; replace p109 := eq_true p109; replace q109 := eq_true q109; refine start_ (n := 10) (S := fun w' => w'.cell? ⟨gb101, 0, none⟩ = some (.int .i64 a1_0) ∧ w'.cell? ⟨gb101, 1, none⟩ = some (.int .i64 a1_1) ∧ w'.cell? ⟨gb101, 2, none⟩ = some (.int .i64 a1_2) ∧ w'.cell? (ad109.add ((x7_1).toNat * 3)) = some (.int .i64 ((rd_T62 l0 x7_1).f0)) ∧ w'.cell? ⟨(ad109.add ((x7_1).toNat * 3)).block, (ad109.add ((x7_1).toNat * 3)).off + 1, none⟩ = some (.int .i64 ((rd_T62 l0 x7_1).f1)) ∧ w'.cell? ⟨(ad109.add ((x7_1).toNat * 3)).block, (ad109.add ((x7_1).toNat * 3)).off + 2, none⟩ = some (.int .i64 ((rd_T62 l0 x7_1).f2))) (ds := []) (lb 10 0) zk rfl rfl ⟨(blk_cell BK101.out 0).trans rfl, (blk_cell BK101.out 1).trans rfl, (blk_cell BK101.out 2).trans rfl, (pw_cell_below HB.out hw109_0), (pw_cell_below HB.out hw109_1), (pw_cell_below HB.out hw109_2)⟩ (fun hHeld => ?_); refine with_tabW spec_l19Add.tab6 spec_l19Add.bits6 (fun HT_ HW_ => ?_)
         generalize wr.drew = w17 at HO_5 BK101 HB hx109_0 hx109_1 hx109_2 hHeld ⊢
         refine pz 0 (some 15) (lb 10 1) rfl rfl HT_.out ?_; refine pz 1 (some 16) (lb 10 3) rfl rfl HT_.out ?_; refine pz 2 (some 17) (lb 10 7) rfl rfl HT_.out ?_; refine pz 4 (some 19) (lb 10 23) rfl rfl HT_.out ?_; refine pz 5 (some 20) (lb 10 55) rfl rfl HT_.out ?_; refine pz 6 (some 21) (lb 10 119) rfl rfl HT_.out ?_; refine tz 3 (some 18) (lb 10 127) rfl rfl HT_.out HW_.out hHeld ?_; refine tz 7 (some 22) (lb 10 255) rfl rfl HT_.out HW_.out hHeld ?_; refine one_ (i := 8) (N := some 23) (lb 10 511) rfl rfl (one_of HT_.out zk) (by decide) (fun K hK => ?_); refine goes_ Try.func53 zk rfl #[.agg #[.int .i64 a1_0, .int .i64 a1_1, .int .i64 a1_2], .agg #[.int .i64 ((rd_T62 l0 x7_1).f0), .int .i64 ((rd_T62 l0 x7_1).f1), .int .i64 ((rd_T62 l0 x7_1).f2)]] (by rfl) rfl rfl zm ?_; (with_reducible refine (spec_l19Ahead.calls a1_0 a1_1 a1_2 ((rd_T62 l0 x7_1).f0) ((rd_T62 l0 x7_1).f1) ((rd_T62 l0 x7_1).f2) true _ A13.out).mono ?_); rintro e w18 ⟨rfl, hb⟩; refine ⟨_, rfl, ?_⟩; replace HO_5 := Aside0.mk (Kd.R_below (rz HO_5.out) hb); replace BK101 := Aside0.mk (blk_below (kz BK101.out) hb); replace HB := Aside0.mk (below_step (bs HB.out GE101.out) hb); (try clear hb); refine hK.out _ _ ⟨(blk_cell BK101.out 0).trans rfl, (blk_cell BK101.out 1).trans rfl, (blk_cell BK101.out 2).trans rfl, (pw_cell_below HB.out hw109_0), (pw_cell_below HB.out hw109_1), (pw_cell_below HB.out hw109_2)⟩ (fun hHeld => ?_); clear hK K; refine norm_ (a' := ?_) ?_ ?_; rotate_left
         ·
          show Act.put _ (some 23) _ = _
          simp only [Act.put, List.setIfInBounds_toArray, List.set_cons_zero, List.set_cons_succ, i64_w, i32_w]
          rfl
         refine pz 9 (some 24) (lb 10 1023) rfl rfl HT_.out ?_; refine done_ (done_of HT_.out zk) ?_; have hcz19_0 : w18.cell? ⟨gb101, 0, none⟩ = some (.int .i64 a1_0) := (blk_cell BK101.out 0).trans rfl; have hcz19_1 : w18.cell? ⟨gb101, 1, none⟩ = some (.int .i64 a1_1) := (blk_cell BK101.out 1).trans rfl; have hcz19_2 : w18.cell? ⟨gb101, 2, none⟩ = some (.int .i64 a1_2) := (blk_cell BK101.out 2).trans rfl; have hfz19_0 := blk_frozen BK101.out 0; have hfz19_1 := blk_frozen BK101.out 1; have hfz19_2 := blk_frozen BK101.out 2
         try go_wp2_with (first | ((with_reducible refine gate_builtin (b := .append) (xs := #[.tmp 25, .tmp 27]) rfl ?_); at_builtin; refine Kd.R_append k62 (w0 := w) w.heap.size rfl (.tmp 25) (.tmp 27) 24 62 (.agg #[(.int .i64 0), (.int .i64 0), (.int .i64 0)]) 24 rfl Try.underlying24 info62 rfl (by decide) (by omega) u5 x5_1 (⟨a1_0, a1_1, a1_2⟩ : S62) [.int .i64 a1_0, .int .i64 a1_1, .int .i64 a1_2] (fun k_ => k_ ≠ gb101) (fun _ => False) rfl rfl ?aP (fun _ hk => hk.elim) ?aF ?aO ?aB ?aS ?aL ?_; (case aP => exact k62_mkM _ _ _ (⟨a1_0, a1_1, a1_2⟩ : S62)); (case aB => exact (bs HB.out GE101.out)); (case aF => exact (fun k_ hk => Kd.freshB (g := gb101) (o := .cells #[.int .i64 a1_0, .int .i64 a1_1, .int .i64 a1_2] 62 (0, 0)) (kz BK101.out) k_ hk)); (case aO => exact (rz HO_5.out)); (case aS => exact (below_size (bs HB.out GE101.out))); (case aL => have := LMc15.out; omega); intro v112 w20 ho hb hg hat; rw [← Ny111.out] at ho; have n0_ := Aside0.mk (blk_grown (g := gb101) (o := .cells #[.int .i64 a1_0, .int .i64 a1_1, .int .i64 a1_2] 62 (0, 0)) (kz BK101.out) hg (Kd.R_away HO_5.out (fun _ hk => hk))); have n1_ := Aside0.mk (hb); have n2_ := Aside0.mk (ho); clear BK101; clear HB; clear HO_5; have BK101 := n0_; have HB := n1_; have HO113 := n2_; clear n0_ n1_ n2_; clear ho hb hg hat; have p114 : 0 ≤ (x7_1 : Int) := of_decide_eq_true zs; have q114 : x7_1 < (l0.length : Int) := of_decide_eq_true zs; obtain ⟨ad114, e114, hx114_0, hx114_1, hx114_2⟩ := at_T62 HR0.out x7_1 p114 q114; obtain rfl : ad109 = ad114 := (by injection e114); replace hx114_0 := pw_cell_below HB.out hx114_0; replace hx114_1 := pw_cell_below HB.out hx114_1; replace hx114_2 := pw_cell_below HB.out hx114_2; replace p114 := eq_true p114; replace q114 := eq_true q114) | ((with_reducible refine gate_builtin (b := .append) (xs := #[.tmp 29, .tmp 34]) rfl ?_); at_builtin; refine Kd.R_append k62 (w0 := w) w.heap.size rfl (.tmp 29) (.tmp 34) 24 62 (.agg #[(.int .i64 0), (.int .i64 0), (.int .i64 0)]) 24 rfl Try.underlying24 info62 rfl (by decide) (by omega) v112 y111 (⟨(rd_T62 l0 x7_1).f0, (rd_T62 l0 x7_1).f1, (rd_T62 l0 x7_1).f2⟩ : S62) [.int .i64 ((rd_T62 l0 x7_1).f0), .int .i64 ((rd_T62 l0 x7_1).f1), .int .i64 ((rd_T62 l0 x7_1).f2)] (fun k_ => k_ ≠ gb101) (fun _ => False) rfl rfl ?aP (fun _ hk => hk.elim) ?aF ?aO ?aB ?aS ?aL ?_; (case aP => exact k62_mkM _ _ _ (⟨(rd_T62 l0 x7_1).f0, (rd_T62 l0 x7_1).f1, (rd_T62 l0 x7_1).f2⟩ : S62)); (case aB => exact (bs HB.out GE101.out)); (case aF => exact (fun k_ hk => Kd.freshB (g := gb101) (o := .cells #[.int .i64 a1_0, .int .i64 a1_1, .int .i64 a1_2] 62 (0, 0)) (kz BK101.out) k_ hk)); (case aO => exact (rz HO113.out)); (case aS => exact (below_size (bs HB.out GE101.out))); (case aL => have := LMc16.out; omega); intro v116 w21 ho hb hg hat; rw [← Ny115.out] at ho; have n0_ := Aside0.mk (blk_grown (g := gb101) (o := .cells #[.int .i64 a1_0, .int .i64 a1_1, .int .i64 a1_2] 62 (0, 0)) (kz BK101.out) hg (Kd.R_away HO113.out (fun _ hk => hk))); have n1_ := Aside0.mk (hb); have n2_ := Aside0.mk (ho); clear BK101; clear HB; clear HO113; have BK101 := n0_; have HB := n1_; have HO117 := n2_; clear n0_ n1_ n2_; clear ho hb hg hat))
         go_roundg k1
         case measure => have := HK1.out; omega
         case rel => exact ⟨(y115), (true), (wrap64 (x7_1 + 1)), zr, zr, H', ⟨by have := HK1.out; omega⟩, ⟨rz (HO117.out)⟩, ⟨kz (BK101.out)⟩, ⟨bs HB.out GE101.out⟩⟩
        ·
         rw [if_neg c16] at H
         exact absurd H (by simp)
       ·
        rw [if_neg c15] at H
        exact absurd H (by simp)
      ·
       replace c14 := Bool.eq_false_iff.mpr c14; subst c14; rw [if_neg nf_] at H
       by_cases c22 : x5_1.length < 5864062014805
       ·
        rw [if_pos c22] at H; have LMc22 := Aside0.mk c22; clear c22; obtain ⟨y119, hy119⟩ : ∃ y_ : List (S62), y_ = (x5_1 ++ [(⟨(rd_T62 l0 x7_1).f0, (rd_T62 l0 x7_1).f1, (rd_T62 l0 x7_1).f2⟩ : S62)]) := ⟨_, rfl⟩
        replace H : (spec_l19Add.l0 k1 l0 y119 false (wrap64 (x7_1 + 1)) a1_0 a1_1 a1_2) = some r := by first | (rw [hy119]; with_reducible exact H) | (have H2_ := (Option.bind_some _ _).symm.trans H; rw [hy119]; with_reducible exact H2_) | (have H2_ := (Option.bind_some _ _).symm.trans H; with_reducible exact H2_) | with_reducible exact H | (rw [hy119]; exact H) | exact H
        have Ny119 := Aside0.mk hy119; clear hy119; have H' := Aside0.mk H; clear H
        try go_wp2
        replace HO_5 := Aside0.mk (Kd.R_drew HO_5.out); replace BK101 := Aside0.mk (blk_drew BK101.out); replace HB := Aside0.mk (below_drew1 HB.out); have p109 : 0 ≤ (x7_1 : Int) := of_decide_eq_true zs; have q109 : x7_1 < (l0.length : Int) := of_decide_eq_true zs; obtain ⟨ad109, e109, hx109_0, hx109_1, hx109_2⟩ := at_T62 HR0.out x7_1 p109 q109; have hw109_2 := hx109_2; have hw109_1 := hx109_1; have hw109_0 := hx109_0; cases e109; replace hx109_0 := pw_cell_below HB.out hx109_0; replace hx109_1 := pw_cell_below HB.out hx109_1; replace hx109_2 := pw_cell_below HB.out hx109_2; replace p109 := eq_true p109; replace q109 := eq_true q109; refine start_ (n := 10) (S := fun w' => w'.cell? ⟨gb101, 0, none⟩ = some (.int .i64 a1_0) ∧ w'.cell? ⟨gb101, 1, none⟩ = some (.int .i64 a1_1) ∧ w'.cell? ⟨gb101, 2, none⟩ = some (.int .i64 a1_2) ∧ w'.cell? (ad109.add ((x7_1).toNat * 3)) = some (.int .i64 ((rd_T62 l0 x7_1).f0)) ∧ w'.cell? ⟨(ad109.add ((x7_1).toNat * 3)).block, (ad109.add ((x7_1).toNat * 3)).off + 1, none⟩ = some (.int .i64 ((rd_T62 l0 x7_1).f1)) ∧ w'.cell? ⟨(ad109.add ((x7_1).toNat * 3)).block, (ad109.add ((x7_1).toNat * 3)).off + 2, none⟩ = some (.int .i64 ((rd_T62 l0 x7_1).f2))) (ds := []) (lb 10 0) zk rfl rfl ⟨(blk_cell BK101.out 0).trans rfl, (blk_cell BK101.out 1).trans rfl, (blk_cell BK101.out 2).trans rfl, (pw_cell_below HB.out hw109_0), (pw_cell_below HB.out hw109_1), (pw_cell_below HB.out hw109_2)⟩ (fun hHeld => ?_); refine with_tabW spec_l19Add.tab6 spec_l19Add.bits6 (fun HT_ HW_ => ?_)
        generalize wr.drew = w23 at HO_5 BK101 HB hx109_0 hx109_1 hx109_2 hHeld ⊢
        refine pz 0 (some 15) (lb 10 1) rfl rfl HT_.out ?_; refine pz 1 (some 16) (lb 10 3) rfl rfl HT_.out ?_; refine pz 2 (some 17) (lb 10 7) rfl rfl HT_.out ?_; refine pz 4 (some 19) (lb 10 23) rfl rfl HT_.out ?_; refine pz 5 (some 20) (lb 10 55) rfl rfl HT_.out ?_; refine pz 6 (some 21) (lb 10 119) rfl rfl HT_.out ?_; refine tz 3 (some 18) (lb 10 127) rfl rfl HT_.out HW_.out hHeld ?_; refine tz 7 (some 22) (lb 10 255) rfl rfl HT_.out HW_.out hHeld ?_; refine one_ (i := 8) (N := some 23) (lb 10 511) rfl rfl (one_of HT_.out zk) (by decide) (fun K hK => ?_); refine goes_ Try.func53 zk rfl #[.agg #[.int .i64 a1_0, .int .i64 a1_1, .int .i64 a1_2], .agg #[.int .i64 ((rd_T62 l0 x7_1).f0), .int .i64 ((rd_T62 l0 x7_1).f1), .int .i64 ((rd_T62 l0 x7_1).f2)]] (by rfl) rfl rfl zm ?_; (with_reducible refine (spec_l19Ahead.calls a1_0 a1_1 a1_2 ((rd_T62 l0 x7_1).f0) ((rd_T62 l0 x7_1).f1) ((rd_T62 l0 x7_1).f2) false _ A13.out).mono ?_); rintro e w24 ⟨rfl, hb⟩; refine ⟨_, rfl, ?_⟩; replace HO_5 := Aside0.mk (Kd.R_below (rz HO_5.out) hb); replace BK101 := Aside0.mk (blk_below (kz BK101.out) hb); replace HB := Aside0.mk (below_step (bs HB.out GE101.out) hb); (try clear hb); refine hK.out _ _ ⟨(blk_cell BK101.out 0).trans rfl, (blk_cell BK101.out 1).trans rfl, (blk_cell BK101.out 2).trans rfl, (pw_cell_below HB.out hw109_0), (pw_cell_below HB.out hw109_1), (pw_cell_below HB.out hw109_2)⟩ (fun hHeld => ?_); clear hK K; refine norm_ (a' := ?_) ?_ ?_; rotate_left
        ·
         show Act.put _ (some 23) _ = _
         simp only [Act.put, List.setIfInBounds_toArray, List.set_cons_zero, List.set_cons_succ, i64_w, i32_w]
         rfl
        refine pz 9 (some 24) (lb 10 1023) rfl rfl HT_.out ?_; refine done_ (done_of HT_.out zk) ?_; have p118 : 0 ≤ (x7_1 : Int) := of_decide_eq_true zs; have q118 : x7_1 < (l0.length : Int) := of_decide_eq_true zs; obtain ⟨ad118, e118, hx118_0, hx118_1, hx118_2⟩ := at_T62 HR0.out x7_1 p118 q118; obtain rfl : ad109 = ad118 := (by injection e118); replace hx118_0 := pw_cell_below HB.out hx118_0; replace hx118_1 := pw_cell_below HB.out hx118_1; replace hx118_2 := pw_cell_below HB.out hx118_2; replace p118 := eq_true p118; replace q118 := eq_true q118
        try go_wp2_with (first | ((with_reducible refine gate_builtin (b := .append) (xs := #[.tmp 29, .tmp 34]) rfl ?_); at_builtin; refine Kd.R_append k62 (w0 := w) w.heap.size rfl (.tmp 29) (.tmp 34) 24 62 (.agg #[(.int .i64 0), (.int .i64 0), (.int .i64 0)]) 24 rfl Try.underlying24 info62 rfl (by decide) (by omega) u5 x5_1 (⟨(rd_T62 l0 x7_1).f0, (rd_T62 l0 x7_1).f1, (rd_T62 l0 x7_1).f2⟩ : S62) [.int .i64 ((rd_T62 l0 x7_1).f0), .int .i64 ((rd_T62 l0 x7_1).f1), .int .i64 ((rd_T62 l0 x7_1).f2)] (fun k_ => k_ ≠ gb101) (fun _ => False) rfl rfl ?aP (fun _ hk => hk.elim) ?aF ?aO ?aB ?aS ?aL ?_; (case aP => exact k62_mkM _ _ _ (⟨(rd_T62 l0 x7_1).f0, (rd_T62 l0 x7_1).f1, (rd_T62 l0 x7_1).f2⟩ : S62)); (case aB => exact (bs HB.out GE101.out)); (case aF => exact (fun k_ hk => Kd.freshB (g := gb101) (o := .cells #[.int .i64 a1_0, .int .i64 a1_1, .int .i64 a1_2] 62 (0, 0)) (kz BK101.out) k_ hk)); (case aO => exact (rz HO_5.out)); (case aS => exact (below_size (bs HB.out GE101.out))); (case aL => have := LMc22.out; omega); intro v120 w25 ho hb hg hat; rw [← Ny119.out] at ho; have n0_ := Aside0.mk (blk_grown (g := gb101) (o := .cells #[.int .i64 a1_0, .int .i64 a1_1, .int .i64 a1_2] 62 (0, 0)) (kz BK101.out) hg (Kd.R_away HO_5.out (fun _ hk => hk))); have n1_ := Aside0.mk (hb); have n2_ := Aside0.mk (ho); clear BK101; clear HB; clear HO_5; have BK101 := n0_; have HB := n1_; have HO121 := n2_; clear n0_ n1_ n2_; clear ho hb hg hat))
        go_roundg k1
        case measure => have := HK1.out; omega
        case rel => exact ⟨(y119), (false), (wrap64 (x7_1 + 1)), zr, zr, H', ⟨by have := HK1.out; omega⟩, ⟨rz (HO121.out)⟩, ⟨kz (BK101.out)⟩, ⟨bs HB.out GE101.out⟩⟩
       ·
        rw [if_neg c22] at H
        exact absurd H (by simp)
     ·
      rw [if_neg c12] at H
      exact absurd H (by simp)
   ·
    rw [if_neg c6] at H; have c6b0 : decide (x7_1 < (l0.length : Int)) = false := decide_eq_false c6; clear c6
    by_cases c26 : x6_1 = true
    ·
     subst c26; rw [if_pos rfl] at H; obtain rfl := Option.some.inj H
     go_wp2
     go_ret
     exact ⟨_, ze, by (with_reducible repeat (first | apply Kd.R_alloc | apply Kd.R_drewN | apply Kd.R_drew)); exact Kd.R_mono HO_5.out (fun _ hk => trivial), bs HB.out GE101.out⟩
    ·
     replace c26 := Bool.eq_false_iff.mpr c26; subst c26; rw [if_neg nf_] at H
     by_cases c27 : x5_1.length < 5864062014805
     ·
      rw [if_pos c27] at H; have LMc27 := Aside0.mk c27; clear c27; obtain ⟨y122, hy122⟩ : ∃ y_ : List (S62), y_ = (x5_1 ++ [(⟨a1_0, a1_1, a1_2⟩ : S62)]) := ⟨_, rfl⟩
      replace H : (some y122) = some r := by first | (rw [hy122]; with_reducible exact H) | (have H2_ := (Option.bind_some _ _).symm.trans H; rw [hy122]; with_reducible exact H2_) | (have H2_ := (Option.bind_some _ _).symm.trans H; with_reducible exact H2_) | with_reducible exact H | (rw [hy122]; exact H) | exact H
      have Ny122 := Aside0.mk hy122; clear hy122; obtain rfl := Option.some.inj H; have hcz28_0 : wr.cell? ⟨gb101, 0, none⟩ = some (.int .i64 a1_0) := (blk_cell BK101.out 0).trans rfl; have hcz28_1 : wr.cell? ⟨gb101, 1, none⟩ = some (.int .i64 a1_1) := (blk_cell BK101.out 1).trans rfl; have hcz28_2 : wr.cell? ⟨gb101, 2, none⟩ = some (.int .i64 a1_2) := (blk_cell BK101.out 2).trans rfl; have hfz28_0 := blk_frozen BK101.out 0; have hfz28_1 := blk_frozen BK101.out 1; have hfz28_2 := blk_frozen BK101.out 2
      go_wp2_with (first | ((with_reducible refine gate_builtin (b := .append) (xs := #[.tmp 38, .tmp 40]) rfl ?_); at_builtin; refine Kd.R_append k62 (w0 := w) w.heap.size rfl (.tmp 38) (.tmp 40) 24 62 (.agg #[(.int .i64 0), (.int .i64 0), (.int .i64 0)]) 24 rfl Try.underlying24 info62 rfl (by decide) (by omega) u5 x5_1 (⟨a1_0, a1_1, a1_2⟩ : S62) [.int .i64 a1_0, .int .i64 a1_1, .int .i64 a1_2] (fun k_ => k_ ≠ gb101) (fun _ => False) rfl rfl ?aP (fun _ hk => hk.elim) ?aF ?aO ?aB ?aS ?aL ?_; (case aP => exact k62_mkM _ _ _ (⟨a1_0, a1_1, a1_2⟩ : S62)); (case aB => exact (bs HB.out GE101.out)); (case aF => exact (fun k_ hk => Kd.freshB (g := gb101) (o := .cells #[.int .i64 a1_0, .int .i64 a1_1, .int .i64 a1_2] 62 (0, 0)) (kz BK101.out) k_ hk)); (case aO => exact (rz HO_5.out)); (case aS => exact (below_size (bs HB.out GE101.out))); (case aL => have := LMc27.out; omega); intro v123 w29 ho hb hg hat; rw [← Ny122.out] at ho; have n0_ := Aside0.mk (blk_grown (g := gb101) (o := .cells #[.int .i64 a1_0, .int .i64 a1_1, .int .i64 a1_2] 62 (0, 0)) (kz BK101.out) hg (Kd.R_away HO_5.out (fun _ hk => hk))); have n1_ := Aside0.mk (hb); have n2_ := Aside0.mk (ho); clear BK101; clear HB; clear HO_5; have BK101 := n0_; have HB := n1_; have HO124 := n2_; clear n0_ n1_ n2_; clear ho hb hg hat))
      go_ret
      exact ⟨_, ze, by (with_reducible repeat (first | apply Kd.R_alloc | apply Kd.R_drewN | apply Kd.R_drew)); exact Kd.R_mono HO124.out (fun _ hk => trivial), bs HB.out GE101.out⟩
     ·
      rw [if_neg c27] at H
      exact absurd H (by simp)

end Go.Proofs.Ytlejcgnfpcngbaa.P
