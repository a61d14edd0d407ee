-- printed by wip/qd.py
import Derived.Test.YtgjlbghjjjlhmaaPf0
import Derived.Test.YtgjlbghjjjlhmaaPfspecl17Hold
import Derived.Test.YtgjlbghjjjlhmaaPfspecHeldOk
import Derived.Test.YtgjlbghjjjlhmaaPfspecl17Change
import Derived.Test.YtgjlbghjjjlhmaaPfspecl17Settle
namespace Go.Proofs.Ytgjlbghjjjlhmaa.P
open Go.RowKit Go.Proofs.YtgjlbghjjjlhmaaW.PrintWords Go.Proofs.YtgjlbghjjjlhmaaW.PrintLast Go.Proofs.YtgjlbghjjjlhmaaW.PrintMore
attribute [local go_sem] max2_int min2_int max_two min_two max_three min_three max_four min_four Q.cell_set_map
set_option linter.unusedVariables false
set_option linter.unusedSimpArgs false

/-! ### spec_HeldFree: function 60 -/
mutual
def spec_HeldFree.j0 : Nat → Int → Int → Int → Bool → List (S40) → List (S40) → Option ((List (S40)) × (List (S40)) × Bool)
 | 0, _, _, _, _, _, _ => none
 | k + 1, x1, x2, x3, x22, x102000, x102001 => if x22 = true then (some (([] : List (S40)), ([] : List (S40)), false)) else (spec_HeldFree.l0 k x1 x2 x3 (([] : List (S40))) 0 x102000 x102001)
def spec_HeldFree.l0 : Nat → Int → Int → Int → List (S40) → Int → List (S40) → List (S40) → Option ((List (S40)) × (List (S40)) × Bool)
 | 0, _, _, _, _, _, _, _ => none
 | k + 1, x1, x2, x3, x10, x11, x102000, x102001 => if x11 < (x102001.length : Int) then (if 0 ≤ x11 then (if ((rd_T40 x102001 x11).f0) = x1 then (spec_HeldFree.l0 k x1 x2 x3 x10 (wrap64 (x11 + 1)) x102000 x102001) else (if x10.length < 4398046511104 then (spec_HeldFree.l0 k x1 x2 x3 (x10 ++ [(⟨(rd_T40 x102001 x11).f0, (rd_T40 x102001 x11).f1, (rd_T40 x102001 x11).f2, (rd_T40 x102001 x11).f3⟩ : S40)]) (wrap64 (x11 + 1)) x102000 x102001) else (none))) else (none)) else ((spec_l17Change.f k x102000 x1 x2 x3 0).bind fun t113 => ((spec_l17Settle.f k t113 x10).bind fun bt116 => (some (bt116.1, bt116.2, true))))
end
def spec_HeldFree.f (k : Nat) (l0_0 : List (S40)) (l0_1 : List (S40)) (a1 : Int) (a2 : Int) (a3 : Int) : Option ((List (S40)) × (List (S40)) × Bool) := (spec_HeldOk.f k l0_0 l0_1).bind fun t103 => (if t103 = true then ((spec_l17Hold.f a1 a2 a3 false).bind fun t104 => (spec_HeldFree.j0 k a1 a2 a3 (!t104) l0_0 l0_1)) else (spec_HeldFree.j0 k a1 a2 a3 true l0_0 l0_1))
theorem spec_HeldFree.mono_l : ∀ k, (∀ y0 y1 y2 y3 y4 y5, LeO (spec_HeldFree.j0 k y0 y1 y2 y3 y4 y5) (spec_HeldFree.j0 (k + 1) y0 y1 y2 y3 y4 y5)) ∧ (∀ y0 y1 y2 y3 y4 y5 y6, LeO (spec_HeldFree.l0 k y0 y1 y2 y3 y4 y5 y6) (spec_HeldFree.l0 (k + 1) y0 y1 y2 y3 y4 y5 y6))
 | 0 => ⟨fun _ _ _ _ _ _ r h => by simp [spec_HeldFree.j0] at h, fun _ _ _ _ _ _ _ r h => by simp [spec_HeldFree.l0] at h⟩
 | k + 1 => by
  obtain ⟨ih0, ih1⟩ := spec_HeldFree.mono_l k
  refine ⟨?_, ?_⟩
  ·
   intro y0 y1 y2 y3 y4 y5
   unfold spec_HeldFree.j0
   repeat' first
   | (with_reducible exact ih0 _ _ _ _ _ _)
   | (with_reducible exact ih1 _ _ _ _ _ _ _)
   | (with_reducible exact spec_HeldOk.mono _ _ _)
   | (with_reducible exact spec_l17Change.mono _ _ _ _ _ _)
   | (with_reducible exact spec_l17Settle.mono _ _ _)
   | (with_reducible exact LeO.refl _)
   | (with_reducible exact LeO.none _)
   | (with_reducible refine LeO.ite ?_ ?_)
   | (with_reducible refine LeO.bind ?_ (fun _ => ?_))
   | exact ih0 _ _ _ _ _ _
   | exact ih1 _ _ _ _ _ _ _
   | exact spec_HeldOk.mono _ _ _
   | exact spec_l17Change.mono _ _ _ _ _ _
   | exact spec_l17Settle.mono _ _ _
   | exact LeO.none _
   | refine LeO.ite ?_ ?_
   | refine LeO.bind ?_ (fun _ => ?_)
  ·
   intro y0 y1 y2 y3 y4 y5 y6
   unfold spec_HeldFree.l0
   repeat' first
   | (with_reducible exact ih0 _ _ _ _ _ _)
   | (with_reducible exact ih1 _ _ _ _ _ _ _)
   | (with_reducible exact spec_HeldOk.mono _ _ _)
   | (with_reducible exact spec_l17Change.mono _ _ _ _ _ _)
   | (with_reducible exact spec_l17Settle.mono _ _ _)
   | (with_reducible exact LeO.refl _)
   | (with_reducible exact LeO.none _)
   | (with_reducible refine LeO.ite ?_ ?_)
   | (with_reducible refine LeO.bind ?_ (fun _ => ?_))
   | exact ih0 _ _ _ _ _ _
   | exact ih1 _ _ _ _ _ _ _
   | exact spec_HeldOk.mono _ _ _
   | exact spec_l17Change.mono _ _ _ _ _ _
   | exact spec_l17Settle.mono _ _ _
   | exact LeO.none _
   | refine LeO.ite ?_ ?_
   | refine LeO.bind ?_ (fun _ => ?_)
theorem spec_HeldFree.mono : ∀ a0 a1 a2 a3 a4 k, LeO (spec_HeldFree.f k a0 a1 a2 a3 a4) (spec_HeldFree.f (k + 1) a0 a1 a2 a3 a4) := by
 intro a0 a1 a2 a3 a4 k
 obtain ⟨ih0, ih1⟩ := spec_HeldFree.mono_l k
 unfold spec_HeldFree.f
 repeat' first
   | (with_reducible exact ih0 _ _ _ _ _ _)
   | (with_reducible exact ih1 _ _ _ _ _ _ _)
   | (with_reducible exact spec_HeldOk.mono _ _ _)
   | (with_reducible exact spec_l17Change.mono _ _ _ _ _ _)
   | (with_reducible exact spec_l17Settle.mono _ _ _)
   | (with_reducible exact LeO.refl _)
   | (with_reducible exact LeO.none _)
   | (with_reducible refine LeO.ite ?_ ?_)
   | (with_reducible refine LeO.bind ?_ (fun _ => ?_))
   | exact ih0 _ _ _ _ _ _
   | exact ih1 _ _ _ _ _ _ _
   | exact spec_HeldOk.mono _ _ _
   | exact spec_l17Change.mono _ _ _ _ _ _
   | exact spec_l17Settle.mono _ _ _
   | exact LeO.none _
   | refine LeO.ite ?_ ?_
   | refine LeO.bind ?_ (fun _ => ?_)
set_option maxHeartbeats 8000000 in
set_option maxRecDepth 100000 in
theorem spec_HeldFree.calls (k : Nat) (A0_0 : Option Addr) (c0_0 : Nat) (l0_0 : List (S40)) (A0_1 : Option Addr) (c0_1 : Nat) (l0_1 : List (S40)) (a1 : Int) (a2 : Int) (a3 : Int) (r1 : List (S40)) (r2 : List (S40)) (r3 : Bool) (w : World) (hr0_0 : Kd.C k40 w A0_0 l0_0.length l0_0) (hc0_0 : l0_0.length ≤ c0_0) (hr0_1 : Kd.C k40 w A0_1 l0_1.length l0_1) (hc0_1 : l0_1.length ≤ c0_1) (h : spec_HeldFree.f k l0_0 l0_1 a1 a2 a3 = some (r1, r2, r3)) :
  Calls Try.prog 60 #[.agg #[.slice A0_0 l0_0.length c0_0, .slice A0_1 l0_1.length c0_1], .int .i64 a1, .int .i64 a2, .int .i64 a3] w fun e w' => ∃ v0_ v1_ : Value, e = .returned (.tuple #[.agg #[v0_, v1_], .bool r3]) ∧ Kd.R k40 40 w' w.heap.size (fun k_ => some k_ ≠ (v1_ : Value).ownBlock) v0_ r1 ∧ Kd.R k40 40 w' w.heap.size (fun k_ => some k_ ≠ (v0_ : Value).ownBlock) v1_ r2 ∧ Below w.heap.size w w' := by
 have hu29 := Try.underlying29; have hu40 := Try.underlying40; have HR0_0 := Aside0.mk hr0_0; have HC0_0 := Aside0.mk hc0_0; clear hr0_0 hc0_0; have HR0_1 := Aside0.mk hr0_1; have HC0_1 := Aside0.mk hc0_1; clear hr0_1 hc0_1; have HB := Aside0.mk (Below.refl w.heap.size w); have H : ((spec_HeldOk.f k l0_0 l0_1).bind fun t103 => (if t103 = true then ((spec_l17Hold.f a1 a2 a3 false).bind fun t104 => (spec_HeldFree.j0 k a1 a2 a3 (!t104) l0_0 l0_1)) else (spec_HeldFree.j0 k a1 a2 a3 true l0_0 l0_1))) = some (r1, r2, r3) := h; clear h; have HC5 := Aside0.mk H; clear H
 go_enter Try.func60, Try.ntmps60
 go_upto_region 1 with (first | ((with_reducible refine gate_dst (N := 4) rfl ?_); refine box_event ?hg (N := 4) ?hd (cs := #[.slice A0_0 l0_0.length c0_0, .slice A0_1 l0_1.length c0_1]) (t := 29) ?hr ?_; (case hd => rfl); (case hg => rfl); (case hr => first | (go_simp; done) | (go_simp; rfl)); intro gb101 hg w6 hbox hb; have BK101 := Aside0.mk (hbox); have GW101 := Aside0.mk ((by rw [hg]; exact (below_size (bz HB.out)) : w.heap.size ≤ gb101)); have GE101 := GW101; replace HB := Aside0.mk (below_step (bz HB.out) hb); clear hb hbox hg) | ((with_reducible refine gate_dst (N := 8) rfl ?_); refine box_event ?hg (N := 8) ?hd (cs := #[.slice none 0 0, .slice none 0 0]) (t := 29) ?hr ?_; (case hd => rfl); (case hg => rfl); (case hr => first | (go_simp; done) | (go_simp; rfl)); intro gb102 hg w7 hbox hb; have BK102 := Aside0.mk (hbox); have GW102 := Aside0.mk ((by rw [hg]; exact (below_size (bs HB.out GE101.out)) : w.heap.size ≤ gb102)); have GE102 := GW102; replace HB := Aside0.mk (below_step (bs HB.out GE101.out) hb); have NB101_102 := Aside0.mk ((by rw [hg]; exact Nat.ne_of_lt (blk_lt (kz BK101.out)) : gb101 ≠ gb102)); have NB102_101 := Aside0.mk NB101_102.out.symm; replace BK101 := Aside0.mk (blk_below (kz BK101.out) hb); clear hb hbox hg))
 (try simp only [Act.put, List.setIfInBounds_toArray, List.set_cons_zero, List.set_cons_succ])
 go_cut [22] (fun v22 wc => ∃ (kq : Nat) (x22_4 : Bool), v22 = .bool x22_4 ∧ Aside0 (spec_HeldFree.j0 kq a1 a2 a3 x22_4 l0_0 l0_1 = some (r1, r2, r3)) ∧ Aside0 (kq ≤ k) ∧ Aside0 (wc.heap[gb101]? = some (.cells #[(.slice A0_0 l0_0.length c0_0), (.slice A0_1 l0_1.length c0_1)] 29 (0, 0))) ∧ Aside0 (wc.heap[gb102]? = some (.cells #[(.slice none 0 0), (.slice none 0 0)] 29 (0, 0))) ∧ Aside0 (Below w.heap.size w wc))
 case first =>
  have H := HC5.out; clear HC5; replace H := Option.bind_eq_some_iff.mp H; obtain ⟨t103, A80, H⟩ := H; have A8 := Aside0.mk A80; clear A80
  by_cases c9 : t103 = true
  ·
   subst c9; rw [if_pos rfl] at H; replace H := Option.bind_eq_some_iff.mp H; obtain ⟨t104, A100, H⟩ := H; have A10 := Aside0.mk A100; clear A100; have H' := Aside0.mk H; clear H; have hnb11 := NB101_102.out; have hnc11 := NB102_101.out; obtain ⟨hcz12_0, hcz12_1⟩ := cz2 BK101.out; obtain ⟨hfz12_0, hfz12_1⟩ := fz2 BK101.out
   go_wp2_with (first | ((with_reducible refine gate_callee (f := 11) rfl ?_); refine goesL_ (some 13) rfl rfl Try.func11 zk rfl #[.agg #[.slice A0_0 l0_0.length c0_0, .slice A0_1 l0_1.length c0_1]] rfl zm ?_; (with_reducible refine (spec_HeldOk.calls k _ _ l0_0 _ _ l0_1 true _ ?side1 ?side2 ?side3 ?side4 A8.out).mono ?_); (case side1 => exact cz (Kd.C_below HR0_0.out HB.out)); (case side2 => exact HC0_0.out); (case side3 => exact cz (Kd.C_below HR0_1.out HB.out)); (case side4 => exact HC0_1.out); rintro e w13 ⟨rfl, hb⟩; refine ⟨_, rfl, ?_⟩; replace BK101 := Aside0.mk (blk_below (kz BK101.out) hb); replace BK102 := Aside0.mk (blk_below (kz BK102.out) hb); replace HB := Aside0.mk (below_step (bs2 HB.out GE101.out GE102.out) hb); (try clear hb)) | (go_at_call 35; (with_reducible refine (spec_l17Hold.calls a1 a2 a3 false t104 _ A10.out).mono ?_); rintro e w14 ⟨rfl, hb⟩; replace BK101 := Aside0.mk (blk_below (kz BK101.out) hb); replace BK102 := Aside0.mk (blk_below (kz BK102.out) hb); replace HB := Aside0.mk (below_step (bs2 HB.out GE101.out GE102.out) hb); (try clear hb)))
   go_meet
   case rel => exact ⟨_, (!t104), zr, H', ⟨by first | omega | exact Nat.le_refl _⟩, ⟨kz (BK101.out)⟩, ⟨kz (BK102.out)⟩, ⟨bs2 HB.out GE101.out GE102.out⟩⟩
  ·
   replace c9 := Bool.eq_false_iff.mpr c9; subst c9; rw [if_neg nf_] at H; have H' := Aside0.mk H; clear H; have hnb15 := NB101_102.out; have hnc15 := NB102_101.out; obtain ⟨hcz16_0, hcz16_1⟩ := cz2 BK101.out; obtain ⟨hfz16_0, hfz16_1⟩ := fz2 BK101.out
   go_wp2_with (first | ((with_reducible refine gate_callee (f := 11) rfl ?_); refine goesL_ (some 13) rfl rfl Try.func11 zk rfl #[.agg #[.slice A0_0 l0_0.length c0_0, .slice A0_1 l0_1.length c0_1]] rfl zm ?_; (with_reducible refine (spec_HeldOk.calls k _ _ l0_0 _ _ l0_1 false _ ?side1 ?side2 ?side3 ?side4 A8.out).mono ?_); (case side1 => exact cz (Kd.C_below HR0_0.out HB.out)); (case side2 => exact HC0_0.out); (case side3 => exact cz (Kd.C_below HR0_1.out HB.out)); (case side4 => exact HC0_1.out); rintro e w17 ⟨rfl, hb⟩; refine ⟨_, rfl, ?_⟩; replace BK101 := Aside0.mk (blk_below (kz BK101.out) hb); replace BK102 := Aside0.mk (blk_below (kz BK102.out) hb); replace HB := Aside0.mk (below_step (bs2 HB.out GE101.out GE102.out) hb); (try clear hb)))
   go_meet
   case rel => exact ⟨_, (true), zr, H', ⟨by first | omega | exact Nat.le_refl _⟩, ⟨kz (BK101.out)⟩, ⟨kz (BK102.out)⟩, ⟨bs2 HB.out GE101.out GE102.out⟩⟩
 case rest =>
  clear HC5
  try clear c1
  try clear p2
  try clear c6
  try clear c9
  try clear c11
  try clear c15
  try clear hcz12_0
  try clear hcz12_1
  try clear hcz16_0
  try clear hcz16_1
  try clear hfz12_0
  try clear hfz12_1
  try clear hfz16_0
  try clear hfz16_1
  obtain ⟨kq, x22_4, rfl, HA, HJ4, BK101, BK102, HB⟩ := hcut
  cases kq with
  | zero => exact absurd HA.out (by simp [spec_HeldFree.j0])
  | succ kj4 =>
   have H := HA.out; clear HA; simp only [spec_HeldFree.j0] at H
   by_cases c18 : x22_4 = true
   ·
    subst c18; rw [if_pos rfl] at H; simp only [Option.some.injEq, Prod.mk.injEq] at H; obtain ⟨rfl, rfl, rfl⟩ := H; have hnb19 := NB102_101.out; have hnc19 := NB101_102.out; obtain ⟨hcz20_0, hcz20_1⟩ := cz2 BK102.out; obtain ⟨hfz20_0, hfz20_1⟩ := fz2 BK102.out
    go_wp2
    refine bodyPost_ret (results_ct rfl _ _ gb102 29 #[.slice none 0 0, .slice none 0 0] (0, 0) _ rfl (by (with_reducible repeat (first | refine blk_drewN ?_ _ | refine blk_drew ?_ | refine blk_alloc ?_ _)); refine blk_put (cs := #[.slice none 0 0, .slice none 0 0]) ?_ 1 _ rfl; (with_reducible repeat (first | refine blk_drewN ?_ _ | refine blk_drew ?_ | refine blk_alloc ?_ _)); refine blk_put (cs := #[.slice none 0 0, .slice none 0 0]) ?_ 0 _ rfl; (with_reducible repeat (first | refine blk_drewN ?_ _ | refine blk_drew ?_ | refine blk_alloc ?_ _)); exact BK102.out) Try.underlying29 rfl zk) rfl ?_
    exact ⟨_, _, ze, by first | exact Kd.R_nil _ _ _ _ _ | exact Kd.N_nil _ _ _ _ _ | exact Kd.V_nil _ _ _ _ _ | exact Kd.Q_nil _ _ _ _ _ | exact Kd.S_nil _ _ _ _ _, by first | exact Kd.R_nil _ _ _ _ _ | exact Kd.N_nil _ _ _ _ _ | exact Kd.V_nil _ _ _ _ _ | exact Kd.Q_nil _ _ _ _ _ | exact Kd.S_nil _ _ _ _ _, bs2 HB.out GE101.out GE102.out⟩
   ·
    replace c18 := Bool.eq_false_iff.mpr c18; subst c18; rw [if_neg nf_] at H; obtain ⟨y105, hy105⟩ : ∃ y_ : List (S40), y_ = (([] : List (S40))) := ⟨_, rfl⟩
    replace H : (spec_HeldFree.l0 kj4 a1 a2 a3 y105 0 l0_0 l0_1) = some (r1, r2, r3) := by first | (rw [hy105]; with_reducible exact H) | (have H2_ := (Option.bind_some _ _).symm.trans H; rw [hy105]; with_reducible exact H2_) | (have H2_ := (Option.bind_some _ _).symm.trans H; with_reducible exact H2_) | with_reducible exact H | (rw [hy105]; exact H) | exact H
    have Ny105 := Aside0.mk hy105; clear hy105; have H' := Aside0.mk H; clear H
    go_wp2_with (first | ((with_reducible refine gate_dst (N := 24) rfl ?_); refine Kd.R_lit k40 _ 40 ?hg (N := 24) ?hd (xs := ([] : List (S40))) (inner := []) (ok := fun _ => True) (okp := fun _ => True) ?hr ?hp (fun _ hk => hk) trivial (Below.refl _ _) (Nat.le_refl _) (by simp) ?_; (case hd => rfl); (case hg => rfl); (case hr => first | (go_simp; done) | (go_simp; rfl)); (case hp => exact (Reps.none _ _)); intro v106 w21 ho22 hb hg_ hnew_; clear hg_ hnew_; (first | rw [← Ny105.out] at ho22 | (simp only [Int.reduceToNat] at ho22; rw [← Ny105.out] at ho22)); have HO107 := Aside0.mk (Kd.R_lower ho22 (below_size (bs2 HB.out GE101.out GE102.out))); replace BK101 := Aside0.mk (blk_below (kz BK101.out) hb); replace BK102 := Aside0.mk (blk_below (kz BK102.out) hb); replace HB := Aside0.mk (below_step (bs2 HB.out GE101.out GE102.out) hb); clear hb ho22))
    go_loopg [10, 11] kj4 (fun kq v10 v11 w' => ∃ (x10_2 : List (S40)) (x11_2 : Int), v11 = .int .i64 x11_2 ∧ Aside0 (spec_HeldFree.l0 kq a1 a2 a3 x10_2 x11_2 l0_0 l0_1 = some (r1, r2, r3)) ∧ Aside0 (kq ≤ kj4) ∧ Aside0 (Kd.R k40 40 w' w.heap.size (fun _ => True) v10 x10_2) ∧ Aside0 (w'.heap[gb101]? = some (.cells #[(.slice A0_0 l0_0.length c0_0), (.slice A0_1 l0_1.length c0_1)] 29 (0, 0))) ∧ Aside0 (w'.heap[gb102]? = some (.cells #[(.slice none 0 0), (.slice none 0 0)] 29 (0, 0))) ∧ Aside0 (Below w.heap.size w w'))
    case atStart => exact ⟨(y105), (0), zr, H', ⟨Nat.le_refl _⟩, ⟨rz (HO107.out)⟩, ⟨kz (BK101.out)⟩, ⟨kz (BK102.out)⟩, ⟨bs2 HB.out GE101.out GE102.out⟩⟩
    case round =>
     clear H'
     try clear c1
     try clear p2
     try clear c6
     try clear c9
     try clear c11
     try clear c15
     try clear c18
     try clear c19
     try clear hcz12_0
     try clear hcz12_1
     try clear hcz16_0
     try clear hcz16_1
     try clear hcz20_0
     try clear hcz20_1
     try clear hfz12_0
     try clear hfz12_1
     try clear hfz16_0
     try clear hfz16_1
     try clear hfz20_0
     try clear hfz20_1
     try clear p2
     obtain ⟨x10_2, x11_2, rfl, HA, HK2, HO_10, BK101, BK102, HB⟩ := hrel
     cases gk with
     | zero => exact absurd HA.out (by simp [spec_HeldFree.l0])
     | succ k2 =>
      have H := HA.out; clear HA; simp only [spec_HeldFree.l0] at H
      by_cases c23 : x11_2 < (l0_1.length : Int)
      ·
       rw [if_pos c23] at H; have c23b0 : decide (x11_2 < (l0_1.length : Int)) = true := decide_eq_true c23; clear c23
       by_cases c24 : 0 ≤ x11_2
       ·
        rw [if_pos c24] at H; have c24b0 : decide (0 ≤ x11_2) = true := decide_eq_true c24; clear c24
        by_cases c25 : ((rd_T40 l0_1 x11_2).f0) = a1
        ·
         rw [if_pos c25] at H; have c25b0 : (((rd_T40 l0_1 x11_2).f0) == a1) = true := beq_iff_eq.mpr c25; have c25b1 : (((rd_T40 l0_1 x11_2).f0) != a1) = false := bne_eq_false_iff_eq.mpr c25; clear c25; have H' := Aside0.mk H; clear H; have hnb26 := NB101_102.out; have hnc26 := NB102_101.out; obtain ⟨hcz27_0, hcz27_1⟩ := cz2 BK101.out; obtain ⟨hfz27_0, hfz27_1⟩ := fz2 BK101.out; have p108 : 0 ≤ (x11_2 : Int) := of_decide_eq_true zs; have q108 : x11_2 < (l0_1.length : Int) := of_decide_eq_true zs; obtain ⟨ad108, e108, hx108_0, hx108_1, hx108_2, hx108_3⟩ := at_T40 HR0_1.out x11_2 p108 q108; cases e108; replace hx108_0 := pw_cell_below HB.out hx108_0; replace hx108_1 := pw_cell_below HB.out hx108_1; replace hx108_2 := pw_cell_below HB.out hx108_2; replace hx108_3 := pw_cell_below HB.out hx108_3; replace p108 := eq_true p108; replace q108 := eq_true q108
         go_wp2
         go_roundg k2
         case measure => have := HJ4.out; have := HK2.out; omega
         case rel => exact ⟨(x10_2), (wrap64 (x11_2 + 1)), zr, H', ⟨by have := HJ4.out; have := HK2.out; omega⟩, ⟨rz (HO_10.out)⟩, ⟨kz (BK101.out)⟩, ⟨kz (BK102.out)⟩, ⟨bs2 HB.out GE101.out GE102.out⟩⟩
        ·
         rw [if_neg c25] at H; have c25b0 : (((rd_T40 l0_1 x11_2).f0) == a1) = false := beq_eq_false_iff_ne.mpr c25; have c25b1 : (((rd_T40 l0_1 x11_2).f0) != a1) = true := bne_iff_ne.mpr c25
         by_cases c28 : x10_2.length < 4398046511104
         ·
          rw [if_pos c28] at H; have LMc28 := Aside0.mk c28; clear c28; obtain ⟨y110, hy110⟩ : ∃ y_ : List (S40), y_ = (x10_2 ++ [(⟨(rd_T40 l0_1 x11_2).f0, (rd_T40 l0_1 x11_2).f1, (rd_T40 l0_1 x11_2).f2, (rd_T40 l0_1 x11_2).f3⟩ : S40)]) := ⟨_, rfl⟩
          replace H : (spec_HeldFree.l0 k2 a1 a2 a3 y110 (wrap64 (x11_2 + 1)) l0_0 l0_1) = some (r1, r2, r3) := by first | (rw [hy110]; with_reducible exact H) | (have H2_ := (Option.bind_some _ _).symm.trans H; rw [hy110]; with_reducible exact H2_) | (have H2_ := (Option.bind_some _ _).symm.trans H; with_reducible exact H2_) | with_reducible exact H | (rw [hy110]; exact H) | exact H
          have Ny110 := Aside0.mk hy110; clear hy110; have H' := Aside0.mk H; clear H; have hnb29 := NB101_102.out; have hnc29 := NB102_101.out; obtain ⟨hcz30_0, hcz30_1⟩ := cz2 BK101.out; obtain ⟨hfz30_0, hfz30_1⟩ := fz2 BK101.out; have p108 : 0 ≤ (x11_2 : Int) := of_decide_eq_true zs; have q108 : x11_2 < (l0_1.length : Int) := of_decide_eq_true zs; obtain ⟨ad108, e108, hx108_0, hx108_1, hx108_2, hx108_3⟩ := at_T40 HR0_1.out x11_2 p108 q108; cases e108; replace hx108_0 := pw_cell_below HB.out hx108_0; replace hx108_1 := pw_cell_below HB.out hx108_1; replace hx108_2 := pw_cell_below HB.out hx108_2; replace hx108_3 := pw_cell_below HB.out hx108_3; replace p108 := eq_true p108; replace q108 := eq_true q108; have p109 : 0 ≤ (x11_2 : Int) := of_decide_eq_true zs; have q109 : x11_2 < (l0_1.length : Int) := of_decide_eq_true zs; obtain ⟨ad109, e109, hx109_0, hx109_1, hx109_2, hx109_3⟩ := at_T40 HR0_1.out x11_2 p109 q109; obtain rfl : ad108 = ad109 := (by injection e109); replace hx109_0 := pw_cell_below HB.out hx109_0; replace hx109_1 := pw_cell_below HB.out hx109_1; replace hx109_2 := pw_cell_below HB.out hx109_2; replace hx109_3 := pw_cell_below HB.out hx109_3; replace p109 := eq_true p109; replace q109 := eq_true q109
          go_wp2_with (first | ((with_reducible refine gate_builtin (b := .append) (xs := #[.tmp 40, .tmp 46]) rfl ?_); at_builtin; refine Kd.R_append k40 (w0 := w) w.heap.size rfl (.tmp 40) (.tmp 46) 27 40 (.agg #[(.int .i64 0), (.int .i64 0), (.int .i64 0), (.bool false)]) 32 rfl Try.underlying27 info40 rfl (by decide) (by omega) u10 x10_2 (⟨(rd_T40 l0_1 x11_2).f0, (rd_T40 l0_1 x11_2).f1, (rd_T40 l0_1 x11_2).f2, (rd_T40 l0_1 x11_2).f3⟩ : S40) [.int .i64 ((rd_T40 l0_1 x11_2).f0), .int .i64 ((rd_T40 l0_1 x11_2).f1), .int .i64 ((rd_T40 l0_1 x11_2).f2), .bool ((rd_T40 l0_1 x11_2).f3)] (fun _ => True) (fun _ => False) rfl rfl ?aP (fun _ hk => hk.elim) ?aF ?aO ?aB ?aS ?aL ?_; (case aP => exact k40_mkM _ _ _ (⟨(rd_T40 l0_1 x11_2).f0, (rd_T40 l0_1 x11_2).f1, (rd_T40 l0_1 x11_2).f2, (rd_T40 l0_1 x11_2).f3⟩ : S40)); (case aB => exact (bs2 HB.out GE101.out GE102.out)); (case aF => exact (fun _ _ => trivial)); (case aO => exact (rz HO_10.out)); (case aS => exact (below_size (bs2 HB.out GE101.out GE102.out))); (case aL => have := LMc28.out; omega); intro v111 w31 ho hb hg hat; rw [← Ny110.out] at ho; have n0_ := Aside0.mk (blk_grown (kz BK101.out) hg (Kd.R_ne HO_10.out BK101.out (by decide))); have n1_ := Aside0.mk (blk_grown (kz BK102.out) hg (Kd.R_ne HO_10.out BK102.out (by decide))); have n2_ := Aside0.mk (hb); have n3_ := Aside0.mk (ho); clear BK101; clear BK102; clear HB; clear HO_10; have BK101 := n0_; have BK102 := n1_; have HB := n2_; have HO112 := n3_; clear n0_ n1_ n2_ n3_; clear ho hb hg hat))
          go_roundg k2
          case measure => have := HJ4.out; have := HK2.out; omega
          case rel => exact ⟨(y110), (wrap64 (x11_2 + 1)), zr, H', ⟨by have := HJ4.out; have := HK2.out; omega⟩, ⟨rz (HO112.out)⟩, ⟨kz (BK101.out)⟩, ⟨kz (BK102.out)⟩, ⟨bs2 HB.out GE101.out GE102.out⟩⟩
         ·
          rw [if_neg c28] at H
          exact absurd H (by simp)
       ·
        rw [if_neg c24] at H
        exact absurd H (by simp)
      ·
       rw [if_neg c23] at H; have c23b0 : decide (x11_2 < (l0_1.length : Int)) = false := decide_eq_false c23; clear c23; replace H := Option.bind_eq_some_iff.mp H; obtain ⟨t113, A320, H⟩ := H; have A32 := Aside0.mk A320; clear A320; replace H := Option.bind_eq_some_iff.mp H; obtain ⟨⟨t116, t119⟩, A330, H⟩ := H; replace H : (some (t116, t119, true)) = some (r1, r2, r3) := H; have A33 := Aside0.mk A330; clear A330; simp only [Option.some.injEq, Prod.mk.injEq] at H; obtain ⟨rfl, rfl, rfl⟩ := H; have hnb34 := NB101_102.out; have hnc34 := NB102_101.out; obtain ⟨hcz35_0, hcz35_1⟩ := cz2 BK101.out; obtain ⟨hfz35_0, hfz35_1⟩ := fz2 BK101.out
       go_wp2_with (first | ((with_reducible refine gate_callee (f := 66) rfl ?_); refine goesL_ (some 53) rfl rfl Try.func66 zk rfl #[.slice A0_0 l0_0.length c0_0, .int .i64 a1, .int .i64 a2, .int .i64 a3, .int .i64 0] rfl zm ?_; (with_reducible refine (spec_l17Change.calls k2 _ _ l0_0 a1 a2 a3 0 t113 _ ?side1 ?side2 A32.out).mono ?_); (case side1 => exact cz (Kd.C_below HR0_0.out HB.out)); (case side2 => exact HC0_0.out); rintro e w36 ⟨v114, rfl, ho0, hb⟩; refine ⟨_, rfl, ?_⟩; have HO115 := Aside0.mk (Kd.R_lower (Kd.R_new' ho0 (Kd.R_lt (rz HO_10.out))) (below_size (bs2 HB.out GE101.out GE102.out))); replace HO_10 := Aside0.mk (Kd.R_elder' (rz HO_10.out) (Kd.R_base ho0) hb); replace BK101 := Aside0.mk (blk_below (kz BK101.out) hb); replace BK102 := Aside0.mk (blk_below (kz BK102.out) hb); replace HB := Aside0.mk (below_step (bs2 HB.out GE101.out GE102.out) hb); (try clear hb); (try clear ho0); obtain ⟨Ao37, co37, eo37⟩ := Kd.R_slice HO_10.out; subst eo37; obtain ⟨Ao38, co38, eo38⟩ := Kd.R_slice HO115.out; subst eo38) | ((with_reducible refine gate_callee (f := 65) rfl ?_); refine goesL_ (some 56) rfl rfl Try.func65 zk rfl #[.agg #[.slice Ao38 t113.length co38, .slice Ao37 x10_2.length co37]] rfl zm ?_; (with_reducible refine (spec_l17Settle.calls k2 (fun k_ => some k_ = (.slice Ao38 t113.length co38 : Value).ownBlock) (.slice Ao38 t113.length co38) t113 (fun k_ => some k_ = (.slice Ao37 x10_2.length co37 : Value).ownBlock) (.slice Ao37 x10_2.length co37) x10_2 t116 t119 w _ ?side1 ?side2 ?side3 ?side4 ?side5 A33.out).mono ?_); (case side1 => repeat (first | (with_reducible first | exact HB.out | apply below_alloc | apply pw_below_drewN | apply below_drew1 | refine below_set ?_ GE101.out | refine below_set ?_ GE102.out) | exact HB.out)); (case side2 => exact Kd.R_tight rfl HO115.out); (case side3 => exact fun k_ e_ => (HO115.out.1 k_ e_.symm).2); (case side4 => exact Kd.R_tight rfl HO_10.out); (case side5 => exact fun k_ e_ => (HO_10.out.1 k_ e_.symm).2); rintro e w39 ⟨v117, v120, rfl, ho0, ho1, hb, hkp⟩; refine ⟨_, rfl, ?_⟩; have n0_ := Aside0.mk (blk_kept (kz BK101.out) hkp (fun hs_ => Or.elim hs_ (fun e_ => (fun e_ => (Kd.R_ne HO115.out BK101.out (by decide)) e_) e_) (fun e_ => (fun e_ => (Kd.R_ne HO_10.out BK101.out (by decide)) e_) e_))); have n1_ := Aside0.mk (blk_kept (kz BK102.out) hkp (fun hs_ => Or.elim hs_ (fun e_ => (fun e_ => (Kd.R_ne HO115.out BK102.out (by decide)) e_) e_) (fun e_ => (fun e_ => (Kd.R_ne HO_10.out BK102.out (by decide)) e_) e_))); have n2_ := Aside0.mk (Kd.R_mono (ok' := fun k_ => some k_ ≠ (v120 : Value).ownBlock) ho0 (fun k_ hk_ => hk_.2)); have n3_ := Aside0.mk (Kd.R_mono (ok' := fun k_ => some k_ ≠ (v117 : Value).ownBlock) ho1 (fun k_ hk_ => hk_.2)); have n4_ := Aside0.mk (hb); clear BK101; clear BK102; clear HB; clear HO115; clear HO_10; have BK101 := n0_; have BK102 := n1_; have HO118 := n2_; have HO121 := n3_; have HB := n4_; clear n0_ n1_ n2_ n3_ n4_; (try clear hb); (try clear hkp); (try clear ho0); (try clear ho1); obtain ⟨Ao40, co40, eo40⟩ := Kd.R_slice HO118.out; subst eo40; obtain ⟨hcz41_0, hcz41_1⟩ := cz2 BK102.out; obtain ⟨hfz41_0, hfz41_1⟩ := fz2 BK102.out; obtain ⟨Ao42, co42, eo42⟩ := Kd.R_slice HO121.out; subst eo42))
       refine bodyPost_ret (results_ct rfl _ _ gb102 29 #[.slice Ao40 t116.length co40, .slice Ao42 t119.length co42] (0, 0) _ rfl (by (with_reducible repeat (first | refine blk_drewN ?_ _ | refine blk_drew ?_ | refine blk_alloc ?_ _)); refine blk_put (cs := #[.slice Ao40 t116.length co40, .slice none 0 0]) ?_ 1 _ rfl; (with_reducible repeat (first | refine blk_drewN ?_ _ | refine blk_drew ?_ | refine blk_alloc ?_ _)); refine blk_put (cs := #[.slice none 0 0, .slice none 0 0]) ?_ 0 _ rfl; (with_reducible repeat (first | refine blk_drewN ?_ _ | refine blk_drew ?_ | refine blk_alloc ?_ _)); exact BK102.out) Try.underlying29 rfl zk) rfl ?_
       exact ⟨_, _, ze, by (with_reducible repeat (first | apply Kd.R_alloc | apply Kd.R_drewN | apply Kd.R_drew)); exact Kd.R_mono (Kd.R_far (p := ⟨gb102, 1, none⟩) (Kd.R_far (p := ⟨gb102, 0, none⟩) (Kd.R_types HO118.out BK102.out (by decide)) (fun _ hk => hk.2) (.slice Ao40 t116.length co40)) (fun _ hk => hk.2) (.slice Ao42 t119.length co42)) (fun _ hk => hk.1), by (with_reducible repeat (first | apply Kd.R_alloc | apply Kd.R_drewN | apply Kd.R_drew)); exact Kd.R_mono (Kd.R_far (p := ⟨gb102, 1, none⟩) (Kd.R_far (p := ⟨gb102, 0, none⟩) (Kd.R_types HO121.out BK102.out (by decide)) (fun _ hk => hk.2) (.slice Ao40 t116.length co40)) (fun _ hk => hk.2) (.slice Ao42 t119.length co42)) (fun _ hk => hk.1), bs2 HB.out GE101.out GE102.out⟩

end Go.Proofs.Ytgjlbghjjjlhmaa.P
