-- printed by this session's own driver (wip/qd.py) out of the translation; Lean checks it
import Derived.Test.YtlahnekinlkfmaaPf0
import Derived.Test.YtlahnekinlkfmaaPfspecAreasOk
import Derived.Test.YtlahnekinlkfmaaPfspecl2Add
import Derived.Test.YtlahnekinlkfmaaPfspecl2Part
import Derived.Test.YtlahnekinlkfmaaPfspecAreasCut
namespace Go.Proofs.Ytlahnekinlkfmaa.P
open Go.RowKit Go.Proofs.YtlahnekinlkfmaaW.PrintWords Go.Proofs.YtlahnekinlkfmaaW.PrintLast Go.Proofs.YtlahnekinlkfmaaW.PrintMore
attribute [local go_sem] max2_int min2_int max_two min_two max_three min_three max_four min_four Q.cell_set_map   -- for this text's walks alone
set_option linter.unusedVariables false
set_option linter.unusedSimpArgs false

/-! ### spec_AreasSet: function 45 -/
def spec_AreasSet.l0 : Nat → List (S24) → Int → Int → Bool → List (S24) → Int → Int → Option ((List (S24)) × Bool)
 | 0, _, _, _, _, _, _, _ => none
 | k + 1, x0, x1, x2, x3, x10, x12, x13 => if x13 < (x0.length : Int) then (if 0 ≤ x13 then ((spec_l2Part.f ((rd_T24 x0 x13).f0) ((rd_T24 x0 x13).f1) ((rd_T24 x0 x13).f2) ((rd_T24 x0 x13).f3) x1 (wrap64 ((wrap64 (x1 + x2)) - 1))).bind fun bt116 => (if bt116.2.2.2.2 = true then ((spec_l2Add.f k x10 bt116.1 bt116.2.1 x3 bt116.2.2.2.1).bind fun t122 => (spec_AreasSet.l0 k x0 x1 x2 x3 t122 (wrap64 (x12 + bt116.2.1)) (wrap64 (x13 + 1)))) else (spec_AreasSet.l0 k x0 x1 x2 x3 x10 x12 (wrap64 (x13 + 1))))) else (none)) else (if x12 = x2 then ((spec_AreasOk.f k x10).bind fun t108 => (if t108 = true then (some (x10, true)) else (some ((([] : List (S24))), false)))) else (some ((([] : List (S24))), false)))
def spec_AreasSet.f (k : Nat) (l0 : List (S24)) (a1 : Int) (a2 : Int) (a3 : Bool) : Option ((List (S24)) × Bool) := (spec_AreasCut.f k l0 a1 a2).bind fun bt101 => (if bt101.2 = true then (spec_AreasSet.l0 k l0 a1 a2 a3 bt101.1 0 0) else (some ((([] : List (S24))), false)))
theorem spec_AreasSet.mono_l : ∀ k, (∀ y0 y1 y2 y3 y4 y5 y6, LeO (spec_AreasSet.l0 k y0 y1 y2 y3 y4 y5 y6) (spec_AreasSet.l0 (k + 1) y0 y1 y2 y3 y4 y5 y6))
 | 0 => fun _ _ _ _ _ _ _ r h => by simp [spec_AreasSet.l0] at h
 | k + 1 => by
  have ih0 := spec_AreasSet.mono_l k
  ·
   intro y0 y1 y2 y3 y4 y5 y6
   unfold spec_AreasSet.l0
   repeat' first
   | (with_reducible exact ih0 _ _ _ _ _ _ _)
   | (with_reducible exact spec_AreasCut.mono _ _ _ _)
   | (with_reducible exact spec_AreasOk.mono _ _)
   | (with_reducible exact spec_l2Add.mono _ _ _ _ _ _)
   | (with_reducible exact LeO.refl _)
   | (with_reducible exact LeO.none _)
   | (with_reducible refine LeO.ite ?_ ?_)
   | (with_reducible refine LeO.bind ?_ (fun _ => ?_))
   | exact ih0 _ _ _ _ _ _ _
   | exact spec_AreasCut.mono _ _ _ _
   | exact spec_AreasOk.mono _ _
   | exact spec_l2Add.mono _ _ _ _ _ _
   | exact LeO.none _
   | refine LeO.ite ?_ ?_
   | refine LeO.bind ?_ (fun _ => ?_)
theorem spec_AreasSet.mono : ∀ a0 a1 a2 a3 k, LeO (spec_AreasSet.f k a0 a1 a2 a3) (spec_AreasSet.f (k + 1) a0 a1 a2 a3) := by
 intro a0 a1 a2 a3 k
 have ih0 := spec_AreasSet.mono_l k
 unfold spec_AreasSet.f
 repeat' first
   | (with_reducible exact ih0 _ _ _ _ _ _ _)
   | (with_reducible exact spec_AreasCut.mono _ _ _ _)
   | (with_reducible exact spec_AreasOk.mono _ _)
   | (with_reducible exact spec_l2Add.mono _ _ _ _ _ _)
   | (with_reducible exact LeO.refl _)
   | (with_reducible exact LeO.none _)
   | (with_reducible refine LeO.ite ?_ ?_)
   | (with_reducible refine LeO.bind ?_ (fun _ => ?_))
   | exact ih0 _ _ _ _ _ _ _
   | exact spec_AreasCut.mono _ _ _ _
   | exact spec_AreasOk.mono _ _
   | exact spec_l2Add.mono _ _ _ _ _ _
   | exact LeO.none _
   | refine LeO.ite ?_ ?_
   | refine LeO.bind ?_ (fun _ => ?_)
set_option maxHeartbeats 8000000 in
set_option maxRecDepth 100000 in
theorem spec_AreasSet.calls (k : Nat) (A0 : Option Addr) (c0 : Nat) (l0 : List (S24)) (a1 : Int) (a2 : Int) (a3 : Bool) (r1 : List (S24)) (r2 : Bool) (w : World) (hr0 : Kd.C k24 w A0 l0.length l0) (hc0 : l0.length ≤ c0) (h : spec_AreasSet.f k l0 a1 a2 a3 = some (r1, r2)) :
  Calls Try.prog 45 #[.slice A0 l0.length c0, .int .i64 a1, .int .i64 a2, .bool a3] w fun e w' => ∃ v0_ : Value, e = .returned (.tuple #[v0_, .bool r2]) ∧ Kd.R k24 24 w' w.heap.size (fun _ => True) v0_ r1 ∧ Below w.heap.size w w' := by
 have hu24 := Try.underlying24
 have HR0 := Aside0.mk hr0
 have HC0 := Aside0.mk hc0
 clear hr0 hc0
 have HB := Aside0.mk (Below.refl w.heap.size w)
 have H : ((spec_AreasCut.f k l0 a1 a2).bind fun bt101 => (if bt101.2 = true then (spec_AreasSet.l0 k l0 a1 a2 a3 bt101.1 0 0) else (some ((([] : List (S24))), false)))) = some (r1, r2) := h
 clear h
 replace H := Option.bind_eq_some_iff.mp H
 obtain ⟨⟨t101, t102⟩, A50, H⟩ := H
 replace H : (if t102 = true then (spec_AreasSet.l0 k l0 a1 a2 a3 t101 0 0) else (some ((([] : List (S24))), false))) = some (r1, r2) := H
 have A5 := Aside0.mk A50
 clear A50
 by_cases c6 : t102 = true
 ·
  subst c6
  rw [if_pos rfl] at H
  have H' := Aside0.mk H
  clear H
  go_enter Try.func45, Try.ntmps45
  go_wp2_with (first | ((with_reducible refine gate_callee (f := 35) rfl ?_); refine goesL_ (some 20) rfl rfl Try.func35 zk rfl #[.slice A0 l0.length c0, .int .i64 a1, .int .i64 a2] rfl zm ?_; (with_reducible refine (spec_AreasCut.calls k _ _ l0 a1 a2 t101 true _ ?side1 ?side2 A5.out).mono ?_); (case side1 => exact cz HR0.out); (case side2 => exact HC0.out); rintro e w7 ⟨v103, rfl, ho0, hb⟩; refine ⟨_, rfl, ?_⟩; have HO104 := Aside0.mk (Kd.R_lower ho0 (below_size (bz HB.out))); replace HB := Aside0.mk (below_step (bz HB.out) hb); (try clear hb); (try clear ho0)))
  go_loopg [10, 12, 13] k (fun kq v10 v12 v13 w' => ∃ (x10_1 : List (S24)) (x12_1 : Int) (x13_1 : Int), v12 = .int .i64 x12_1 ∧ v13 = .int .i64 x13_1 ∧ Aside0 (spec_AreasSet.l0 kq l0 a1 a2 a3 x10_1 x12_1 x13_1 = some (r1, r2)) ∧ Aside0 (kq ≤ k) ∧ Aside0 (Kd.R k24 24 w' w.heap.size (fun _ => True) v10 x10_1) ∧ Aside0 (Below w.heap.size w w'))
  case atStart => exact ⟨(t101), (0), (0), zr, zr, H', ⟨Nat.le_refl _⟩, ⟨by (with_reducible repeat (first | apply Kd.R_alloc | apply Kd.R_drewN | apply Kd.R_drew)); exact HO104.out⟩, ⟨bz HB.out⟩⟩
  case round =>
   clear H'
   try clear p2
   try clear c3
   try clear c4
   try clear c6
   obtain ⟨x10_1, x12_1, x13_1, rfl, rfl, HA, HK1, HO_10, HB⟩ := hrel
   cases gk with
   | zero => exact absurd HA.out (by simp [spec_AreasSet.l0])
   | succ k1 =>
    have H := HA.out
    clear HA
    simp only [spec_AreasSet.l0] at H
    by_cases c8 : x13_1 < (l0.length : Int)
    ·
     rw [if_pos c8] at H
     have c8b0 : decide (x13_1 < (l0.length : Int)) = true := decide_eq_true c8
     clear c8
     by_cases c9 : 0 ≤ x13_1
     ·
      rw [if_pos c9] at H
      have c9b0 : decide (0 ≤ x13_1) = true := decide_eq_true c9
      clear c9
      replace H := Option.bind_eq_some_iff.mp H
      obtain ⟨⟨t116, t117, t118, t119, t120⟩, A100, H⟩ := H
      replace H : (if t120 = true then ((spec_l2Add.f k1 x10_1 t116 t117 a3 t119).bind fun t122 => (spec_AreasSet.l0 k1 l0 a1 a2 a3 t122 (wrap64 (x12_1 + t117)) (wrap64 (x13_1 + 1)))) else (spec_AreasSet.l0 k1 l0 a1 a2 a3 x10_1 x12_1 (wrap64 (x13_1 + 1)))) = some (r1, r2) := H
      have A10 := Aside0.mk A100
      clear A100
      by_cases c11 : t120 = true
      ·
       subst c11
       rw [if_pos rfl] at H
       replace H := Option.bind_eq_some_iff.mp H
       obtain ⟨t122, A120, H⟩ := H
       have A12 := Aside0.mk A120
       clear A120
       have H' := Aside0.mk H
       clear H
       have p115 : 0 ≤ (x13_1 : Int) := of_decide_eq_true zs
       have q115 : x13_1 < (l0.length : Int) := of_decide_eq_true zs
       obtain ⟨ad115, e115, hx115_0, hx115_1, hx115_2, hx115_3⟩ := at_T24 HR0.out x13_1 p115 q115
       cases e115
       replace hx115_0 := pw_cell_below HB.out hx115_0
       replace hx115_1 := pw_cell_below HB.out hx115_1
       replace hx115_2 := pw_cell_below HB.out hx115_2
       replace hx115_3 := pw_cell_below HB.out hx115_3
       replace p115 := eq_true p115
       replace q115 := eq_true q115
       go_wp2_with (first | ((with_reducible refine gate_callee (f := 62) rfl ?_); refine goesL_ (some 42) rfl rfl Try.func62 zk rfl #[.agg #[.int .i64 ((rd_T24 l0 x13_1).f0), .int .i64 ((rd_T24 l0 x13_1).f1), .bool ((rd_T24 l0 x13_1).f2), .bool ((rd_T24 l0 x13_1).f3)], .int .i64 a1, .int .i64 (wrap64 ((wrap64 (a1 + a2)) - 1))] rfl zm ?_; (with_reducible refine (spec_l2Part.calls ((rd_T24 l0 x13_1).f0) ((rd_T24 l0 x13_1).f1) ((rd_T24 l0 x13_1).f2) ((rd_T24 l0 x13_1).f3) a1 (wrap64 ((wrap64 (a1 + a2)) - 1)) t116 t117 t118 t119 true _ A10.out).mono ?_); rintro e w13 ⟨rfl, hb⟩; refine ⟨_, rfl, ?_⟩; replace HO_10 := Aside0.mk (Kd.R_below (rz HO_10.out) hb); replace HB := Aside0.mk (below_step (bz HB.out) hb); (try clear hb)) | ((with_reducible refine gate_dst (N := 14) rfl ?_); refine box_event ?hg (N := 14) ?hd (cs := #[.int .i64 0, .int .i64 0, .bool false, .bool false]) (t := 24) ?hr ?_; (case hd => rfl); (case hg => rfl); (case hr => first | (go_simp; done) | (go_simp; rfl)); intro gb121 hg w14 hbox hb; replace HO_10 := Aside0.mk (Kd.R_below (Kd.R_elderB (rz HO_10.out) gb121 (Nat.le_of_eq hg.symm)) hb); have BK121 := Aside0.mk (hbox); have GW121 := Aside0.mk ((by rw [hg]; exact (below_size (bz HB.out)) : w.heap.size ≤ gb121)); have GE121 := Aside0.mk ((by rw [hg]; exact (below_size (bz HB.out)) : w.heap.size ≤ gb121)); replace HB := Aside0.mk (below_step (bz HB.out) hb); clear hb hbox hg; have hcz15_0 : w14.cell? ⟨gb121, 0, none⟩ = some (.int .i64 0) := (blk_cell BK121.out 0).trans rfl; have hcz15_1 : w14.cell? ⟨gb121, 1, none⟩ = some (.int .i64 0) := (blk_cell BK121.out 1).trans rfl; have hcz15_2 : w14.cell? ⟨gb121, 2, none⟩ = some (.bool false) := (blk_cell BK121.out 2).trans rfl; have hcz15_3 : w14.cell? ⟨gb121, 3, none⟩ = some (.bool false) := (blk_cell BK121.out 3).trans rfl; have hfz15_0 := blk_frozen BK121.out 0; have hfz15_1 := blk_frozen BK121.out 1; have hfz15_2 := blk_frozen BK121.out 2; have hfz15_3 := blk_frozen BK121.out 3; obtain ⟨Ao16, co16, eo16⟩ := Kd.R_slice HO_10.out; subst eo16) | ((with_reducible refine gate_callee (f := 58) rfl ?_); refine goesL_ (some 54) rfl rfl Try.func58 zk rfl #[.slice Ao16 x10_1.length co16, .agg #[.int .i64 t116, .int .i64 t117, .bool a3, .bool t119]] rfl zm ?_; (with_reducible refine (spec_l2Add.calls k1 _ _ x10_1 t116 t117 a3 t119 t122 _ ?side1 ?side2 A12.out).mono ?_); (case side1 => refine (Kd.R_reads' (e := 24) (base := w.heap.size) (ok := fun k_ => (True ∧ k_ ≠ gb121)) (n := x10_1.length) (c := co16) ?_).2.2; exact (by (with_reducible repeat (first | apply Kd.R_alloc | apply Kd.R_drewN | apply Kd.R_drew)); exact (Kd.R_mono (Kd.R_far (p := ⟨gb121, 2, none⟩) (Kd.R_far (p := ⟨gb121, 3, none⟩) (Kd.R_far (p := ⟨gb121, 2, none⟩) (Kd.R_far (p := ⟨gb121, 1, none⟩) (Kd.R_far (p := ⟨gb121, 0, none⟩) (Kd.R_mono HO_10.out (fun k_ hk => (⟨hk, hk.2⟩ : _ ∧ k_ ≠ gb121))) (fun _ hk => hk.2) (.int .i64 t116)) (fun _ hk => hk.2) (.int .i64 t117)) (fun _ hk => hk.2) (.bool t118)) (fun _ hk => hk.2) (.bool t119)) (fun _ hk => hk.2) (.bool a3)) (fun _ h_ => h_.1)))); (case side2 => exact (Kd.R_reads' HO_10.out).2.1); rintro e w17 ⟨v123, rfl, ho0, hb⟩; refine ⟨_, rfl, ?_⟩; have HO124 := Aside0.mk (Kd.R_lower (Kd.R_newB (Kd.R_new' ho0 (Kd.R_lt (by (with_reducible repeat (first | apply Kd.R_alloc | apply Kd.R_drewN | apply Kd.R_drew)); exact (Kd.R_mono (Kd.R_far (p := ⟨gb121, 2, none⟩) (Kd.R_far (p := ⟨gb121, 3, none⟩) (Kd.R_far (p := ⟨gb121, 2, none⟩) (Kd.R_far (p := ⟨gb121, 1, none⟩) (Kd.R_far (p := ⟨gb121, 0, none⟩) (Kd.R_mono HO_10.out (fun k_ hk => (⟨hk, hk.2⟩ : _ ∧ k_ ≠ gb121))) (fun _ hk => hk.2) (.int .i64 t116)) (fun _ hk => hk.2) (.int .i64 t117)) (fun _ hk => hk.2) (.bool t118)) (fun _ hk => hk.2) (.bool t119)) (fun _ hk => hk.2) (.bool a3)) (fun _ h_ => h_.1))))) (g := gb121) (o := .cells #[.int .i64 t116, .int .i64 t117, .bool a3, .bool t119] 24 (0, 0)) (by (with_reducible repeat (first | refine blk_drewN ?_ _ | refine blk_drew ?_ | refine blk_alloc ?_ _)); refine blk_put (cs := #[.int .i64 t116, .int .i64 t117, .bool t118, .bool t119]) ?_ 2 _ rfl; (with_reducible repeat (first | refine blk_drewN ?_ _ | refine blk_drew ?_ | refine blk_alloc ?_ _)); refine blk_put (cs := #[.int .i64 t116, .int .i64 t117, .bool t118, .bool false]) ?_ 3 _ rfl; (with_reducible repeat (first | refine blk_drewN ?_ _ | refine blk_drew ?_ | refine blk_alloc ?_ _)); refine blk_put (cs := #[.int .i64 t116, .int .i64 t117, .bool false, .bool false]) ?_ 2 _ rfl; (with_reducible repeat (first | refine blk_drewN ?_ _ | refine blk_drew ?_ | refine blk_alloc ?_ _)); refine blk_put (cs := #[.int .i64 t116, .int .i64 0, .bool false, .bool false]) ?_ 1 _ rfl; (with_reducible repeat (first | refine blk_drewN ?_ _ | refine blk_drew ?_ | refine blk_alloc ?_ _)); refine blk_put (cs := #[.int .i64 0, .int .i64 0, .bool false, .bool false]) ?_ 0 _ rfl; (with_reducible repeat (first | refine blk_drewN ?_ _ | refine blk_drew ?_ | refine blk_alloc ?_ _)); exact BK121.out)) (below_size (bs HB.out GE121.out))); replace HO_10 := Aside0.mk (Kd.R_elder' (by (with_reducible repeat (first | apply Kd.R_alloc | apply Kd.R_drewN | apply Kd.R_drew)); exact (Kd.R_mono (Kd.R_far (p := ⟨gb121, 2, none⟩) (Kd.R_far (p := ⟨gb121, 3, none⟩) (Kd.R_far (p := ⟨gb121, 2, none⟩) (Kd.R_far (p := ⟨gb121, 1, none⟩) (Kd.R_far (p := ⟨gb121, 0, none⟩) (Kd.R_mono HO_10.out (fun k_ hk => (⟨hk, hk.2⟩ : _ ∧ k_ ≠ gb121))) (fun _ hk => hk.2) (.int .i64 t116)) (fun _ hk => hk.2) (.int .i64 t117)) (fun _ hk => hk.2) (.bool t118)) (fun _ hk => hk.2) (.bool t119)) (fun _ hk => hk.2) (.bool a3)) (fun _ h_ => h_.1))) (Kd.R_base ho0) hb); replace BK121 := Aside0.mk (blk_below (g := gb121) (o := .cells #[.int .i64 t116, .int .i64 t117, .bool a3, .bool t119] 24 (0, 0)) (by (with_reducible repeat (first | refine blk_drewN ?_ _ | refine blk_drew ?_ | refine blk_alloc ?_ _)); refine blk_put (cs := #[.int .i64 t116, .int .i64 t117, .bool t118, .bool t119]) ?_ 2 _ rfl; (with_reducible repeat (first | refine blk_drewN ?_ _ | refine blk_drew ?_ | refine blk_alloc ?_ _)); refine blk_put (cs := #[.int .i64 t116, .int .i64 t117, .bool t118, .bool false]) ?_ 3 _ rfl; (with_reducible repeat (first | refine blk_drewN ?_ _ | refine blk_drew ?_ | refine blk_alloc ?_ _)); refine blk_put (cs := #[.int .i64 t116, .int .i64 t117, .bool false, .bool false]) ?_ 2 _ rfl; (with_reducible repeat (first | refine blk_drewN ?_ _ | refine blk_drew ?_ | refine blk_alloc ?_ _)); refine blk_put (cs := #[.int .i64 t116, .int .i64 0, .bool false, .bool false]) ?_ 1 _ rfl; (with_reducible repeat (first | refine blk_drewN ?_ _ | refine blk_drew ?_ | refine blk_alloc ?_ _)); refine blk_put (cs := #[.int .i64 0, .int .i64 0, .bool false, .bool false]) ?_ 0 _ rfl; (with_reducible repeat (first | refine blk_drewN ?_ _ | refine blk_drew ?_ | refine blk_alloc ?_ _)); exact BK121.out) hb); replace HB := Aside0.mk (below_step (bs HB.out GE121.out) hb); (try clear hb); (try clear ho0)))
       go_roundg k1
       case measure => have := HK1.out; omega
       case rel => exact ⟨(t122), (wrap64 (x12_1 + t117)), (wrap64 (x13_1 + 1)), zr, zr, H', ⟨by have := HK1.out; omega⟩, ⟨by (with_reducible repeat (first | apply Kd.R_alloc | apply Kd.R_drewN | apply Kd.R_drew)); exact Kd.R_mono HO124.out (fun _ hk => trivial)⟩, ⟨bs HB.out GE121.out⟩⟩
      ·
       replace c11 := Bool.eq_false_iff.mpr c11
       subst c11
       rw [if_neg nf_] at H
       have H' := Aside0.mk H
       clear H
       have p115 : 0 ≤ (x13_1 : Int) := of_decide_eq_true zs
       have q115 : x13_1 < (l0.length : Int) := of_decide_eq_true zs
       obtain ⟨ad115, e115, hx115_0, hx115_1, hx115_2, hx115_3⟩ := at_T24 HR0.out x13_1 p115 q115
       cases e115
       replace hx115_0 := pw_cell_below HB.out hx115_0
       replace hx115_1 := pw_cell_below HB.out hx115_1
       replace hx115_2 := pw_cell_below HB.out hx115_2
       replace hx115_3 := pw_cell_below HB.out hx115_3
       replace p115 := eq_true p115
       replace q115 := eq_true q115
       go_wp2_with (first | ((with_reducible refine gate_callee (f := 62) rfl ?_); refine goesL_ (some 42) rfl rfl Try.func62 zk rfl #[.agg #[.int .i64 ((rd_T24 l0 x13_1).f0), .int .i64 ((rd_T24 l0 x13_1).f1), .bool ((rd_T24 l0 x13_1).f2), .bool ((rd_T24 l0 x13_1).f3)], .int .i64 a1, .int .i64 (wrap64 ((wrap64 (a1 + a2)) - 1))] rfl zm ?_; (with_reducible refine (spec_l2Part.calls ((rd_T24 l0 x13_1).f0) ((rd_T24 l0 x13_1).f1) ((rd_T24 l0 x13_1).f2) ((rd_T24 l0 x13_1).f3) a1 (wrap64 ((wrap64 (a1 + a2)) - 1)) t116 t117 t118 t119 false _ A10.out).mono ?_); rintro e w18 ⟨rfl, hb⟩; refine ⟨_, rfl, ?_⟩; replace HO_10 := Aside0.mk (Kd.R_below (rz HO_10.out) hb); replace HB := Aside0.mk (below_step (bz HB.out) hb); (try clear hb)) | ((with_reducible refine gate_dst (N := 14) rfl ?_); refine box_event ?hg (N := 14) ?hd (cs := #[.int .i64 0, .int .i64 0, .bool false, .bool false]) (t := 24) ?hr ?_; (case hd => rfl); (case hg => rfl); (case hr => first | (go_simp; done) | (go_simp; rfl)); intro gb121 hg w19 hbox hb; replace HO_10 := Aside0.mk (Kd.R_below (Kd.R_elderB (rz HO_10.out) gb121 (Nat.le_of_eq hg.symm)) hb); have BK121 := Aside0.mk (hbox); have GW121 := Aside0.mk ((by rw [hg]; exact (below_size (bz HB.out)) : w.heap.size ≤ gb121)); have GE121 := Aside0.mk ((by rw [hg]; exact (below_size (bz HB.out)) : w.heap.size ≤ gb121)); replace HB := Aside0.mk (below_step (bz HB.out) hb); clear hb hbox hg; have hcz20_0 : w19.cell? ⟨gb121, 0, none⟩ = some (.int .i64 0) := (blk_cell BK121.out 0).trans rfl; have hcz20_1 : w19.cell? ⟨gb121, 1, none⟩ = some (.int .i64 0) := (blk_cell BK121.out 1).trans rfl; have hcz20_2 : w19.cell? ⟨gb121, 2, none⟩ = some (.bool false) := (blk_cell BK121.out 2).trans rfl; have hcz20_3 : w19.cell? ⟨gb121, 3, none⟩ = some (.bool false) := (blk_cell BK121.out 3).trans rfl; have hfz20_0 := blk_frozen BK121.out 0; have hfz20_1 := blk_frozen BK121.out 1; have hfz20_2 := blk_frozen BK121.out 2; have hfz20_3 := blk_frozen BK121.out 3))
       go_roundg k1
       case measure => have := HK1.out; omega
       case rel => exact ⟨(x10_1), (x12_1), (wrap64 (x13_1 + 1)), zr, zr, H', ⟨by have := HK1.out; omega⟩, ⟨by (with_reducible repeat (first | apply Kd.R_alloc | apply Kd.R_drewN | apply Kd.R_drew)); exact Kd.R_mono (Kd.R_far (p := ⟨gb121, 3, none⟩) (Kd.R_far (p := ⟨gb121, 2, none⟩) (Kd.R_far (p := ⟨gb121, 1, none⟩) (Kd.R_far (p := ⟨gb121, 0, none⟩) (Kd.R_mono HO_10.out (fun k_ hk => (⟨hk, hk.2⟩ : _ ∧ k_ ≠ gb121))) (fun _ hk => hk.2) (.int .i64 t116)) (fun _ hk => hk.2) (.int .i64 t117)) (fun _ hk => hk.2) (.bool t118)) (fun _ hk => hk.2) (.bool t119)) (fun _ hk => trivial)⟩, ⟨bs HB.out GE121.out⟩⟩
     ·
      rw [if_neg c9] at H
      exact absurd H (by simp)
    ·
     rw [if_neg c8] at H
     have c8b0 : decide (x13_1 < (l0.length : Int)) = false := decide_eq_false c8
     clear c8
     by_cases c21 : x12_1 = a2
     ·
      rw [if_pos c21] at H
      have c21b0 : (x12_1 == a2) = true := beq_iff_eq.mpr c21
      have c21b1 : (x12_1 != a2) = false := bne_eq_false_iff_eq.mpr c21
      clear c21
      replace H := Option.bind_eq_some_iff.mp H
      obtain ⟨t108, A220, H⟩ := H
      have A22 := Aside0.mk A220
      clear A220
      by_cases c23 : t108 = true
      ·
       subst c23
       rw [if_pos rfl] at H
       simp only [Option.some.injEq, Prod.mk.injEq] at H
       obtain ⟨rfl, rfl⟩ := H
       obtain ⟨Ao24, co24, eo24⟩ := Kd.R_slice HO_10.out
       subst eo24
       go_wp2_with (first | (go_at_call 23; (with_reducible refine (spec_AreasOk.calls k1 _ _ x10_1 true _ ?side1 ?side2 A22.out).mono ?_); (case side1 => exact cz ((Kd.R_reads' HO_10.out).2.2)); (case side2 => exact (Kd.R_reads' HO_10.out).2.1); rintro e w25 ⟨rfl, hb⟩; replace HO_10 := Aside0.mk (Kd.R_below (rz HO_10.out) hb); replace HB := Aside0.mk (below_step (bz HB.out) hb); (try clear hb)))
       go_ret2
       exact ⟨_, ze, by (with_reducible repeat (first | apply Kd.R_alloc | apply Kd.R_drewN | apply Kd.R_drew)); exact HO_10.out, bz HB.out⟩
      ·
       replace c23 := Bool.eq_false_iff.mpr c23
       subst c23
       rw [if_neg nf_] at H
       obtain ⟨y109, hy109⟩ : ∃ y_ : List (S24), y_ = (([] : List (S24))) := ⟨_, rfl⟩
       replace H : (some (y109, false)) = some (r1, r2) := by first | (rw [hy109]; with_reducible exact H) | (have H2_ := (Option.bind_some _ _).symm.trans H; rw [hy109]; with_reducible exact H2_) | (have H2_ := (Option.bind_some _ _).symm.trans H; with_reducible exact H2_) | with_reducible exact H | (rw [hy109]; exact H) | exact H
       have Ny109 := Aside0.mk hy109
       clear hy109
       simp only [Option.some.injEq, Prod.mk.injEq] at H
       obtain ⟨rfl, rfl⟩ := H
       obtain ⟨Ao26, co26, eo26⟩ := Kd.R_slice HO_10.out
       subst eo26
       go_wp2_with (first | (go_at_call 23; (with_reducible refine (spec_AreasOk.calls k1 _ _ x10_1 false _ ?side1 ?side2 A22.out).mono ?_); (case side1 => exact cz ((Kd.R_reads' HO_10.out).2.2)); (case side2 => exact (Kd.R_reads' HO_10.out).2.1); rintro e w27 ⟨rfl, hb⟩; replace HO_10 := Aside0.mk (Kd.R_below (rz HO_10.out) hb); replace HB := Aside0.mk (below_step (bz HB.out) hb); (try clear hb)) | ((with_reducible refine gate_dst (N := 63) rfl ?_); refine Kd.R_lit k24 _ 24 ?hg (N := 63) ?hd (xs := ([] : List (S24))) (inner := []) (ok := fun _ => True) (okp := fun _ => True) ?hr ?hp (fun _ hk => hk) trivial (Below.refl _ _) (Nat.le_refl _) (by simp) ?_; (case hd => rfl); (case hg => rfl); (case hr => first | (go_simp; done) | (go_simp; rfl)); (case hp => exact (Reps.none _ _)); intro v110 w28 ho29 hb hg_ hnew_; clear hg_ hnew_; (first | rw [← Ny109.out] at ho29 | (simp only [Int.reduceToNat] at ho29; rw [← Ny109.out] at ho29)); have HO111 := Aside0.mk (Kd.R_lower (Kd.R_new' ho29 (Kd.R_lt (rz HO_10.out))) (below_size (bz HB.out))); replace HO_10 := Aside0.mk (Kd.R_elder' (rz HO_10.out) (Kd.R_base ho29) hb); replace HB := Aside0.mk (below_step (bz HB.out) hb); clear hb ho29))
       go_ret2
       exact ⟨_, ze, by (with_reducible repeat (first | apply Kd.R_alloc | apply Kd.R_drewN | apply Kd.R_drew)); exact Kd.R_mono HO111.out (fun _ hk => trivial), bz HB.out⟩
     ·
      rw [if_neg c21] at H
      have c21b0 : (x12_1 == a2) = false := beq_eq_false_iff_ne.mpr c21
      have c21b1 : (x12_1 != a2) = true := bne_iff_ne.mpr c21
      obtain ⟨y112, hy112⟩ : ∃ y_ : List (S24), y_ = (([] : List (S24))) := ⟨_, rfl⟩
      replace H : (some (y112, false)) = some (r1, r2) := by first | (rw [hy112]; with_reducible exact H) | (have H2_ := (Option.bind_some _ _).symm.trans H; rw [hy112]; with_reducible exact H2_) | (have H2_ := (Option.bind_some _ _).symm.trans H; with_reducible exact H2_) | with_reducible exact H | (rw [hy112]; exact H) | exact H
      have Ny112 := Aside0.mk hy112
      clear hy112
      simp only [Option.some.injEq, Prod.mk.injEq] at H
      obtain ⟨rfl, rfl⟩ := H
      go_wp2_with (first | ((with_reducible refine gate_dst (N := 63) rfl ?_); refine Kd.R_lit k24 _ 24 ?hg (N := 63) ?hd (xs := ([] : List (S24))) (inner := []) (ok := fun _ => True) (okp := fun _ => True) ?hr ?hp (fun _ hk => hk) trivial (Below.refl _ _) (Nat.le_refl _) (by simp) ?_; (case hd => rfl); (case hg => rfl); (case hr => first | (go_simp; done) | (go_simp; rfl)); (case hp => exact (Reps.none _ _)); intro v113 w30 ho31 hb hg_ hnew_; clear hg_ hnew_; (first | rw [← Ny112.out] at ho31 | (simp only [Int.reduceToNat] at ho31; rw [← Ny112.out] at ho31)); have HO114 := Aside0.mk (Kd.R_lower (Kd.R_new' ho31 (Kd.R_lt (rz HO_10.out))) (below_size (bz HB.out))); replace HO_10 := Aside0.mk (Kd.R_elder' (rz HO_10.out) (Kd.R_base ho31) hb); replace HB := Aside0.mk (below_step (bz HB.out) hb); clear hb ho31))
      go_ret2
      exact ⟨_, ze, by (with_reducible repeat (first | apply Kd.R_alloc | apply Kd.R_drewN | apply Kd.R_drew)); exact Kd.R_mono HO114.out (fun _ hk => trivial), bz HB.out⟩
 ·
  replace c6 := Bool.eq_false_iff.mpr c6
  subst c6
  rw [if_neg nf_] at H
  obtain ⟨y105, hy105⟩ : ∃ y_ : List (S24), y_ = (([] : List (S24))) := ⟨_, rfl⟩
  replace H : (some (y105, false)) = some (r1, r2) := by first | (rw [hy105]; with_reducible exact H) | (have H2_ := (Option.bind_some _ _).symm.trans H; rw [hy105]; with_reducible exact H2_) | (have H2_ := (Option.bind_some _ _).symm.trans H; with_reducible exact H2_) | with_reducible exact H | (rw [hy105]; exact H) | exact H
  have Ny105 := Aside0.mk hy105
  clear hy105
  simp only [Option.some.injEq, Prod.mk.injEq] at H
  obtain ⟨rfl, rfl⟩ := H
  go_enter Try.func45, Try.ntmps45
  go_wp2_with (first | ((with_reducible refine gate_callee (f := 35) rfl ?_); refine goesL_ (some 20) rfl rfl Try.func35 zk rfl #[.slice A0 l0.length c0, .int .i64 a1, .int .i64 a2] rfl zm ?_; (with_reducible refine (spec_AreasCut.calls k _ _ l0 a1 a2 t101 false _ ?side1 ?side2 A5.out).mono ?_); (case side1 => exact cz HR0.out); (case side2 => exact HC0.out); rintro e w32 ⟨v103, rfl, ho0, hb⟩; refine ⟨_, rfl, ?_⟩; have HO104 := Aside0.mk (Kd.R_lower ho0 (below_size (bz HB.out))); replace HB := Aside0.mk (below_step (bz HB.out) hb); (try clear hb); (try clear ho0)) | ((with_reducible refine gate_dst (N := 25) rfl ?_); refine Kd.R_lit k24 _ 24 ?hg (N := 25) ?hd (xs := ([] : List (S24))) (inner := []) (ok := fun _ => True) (okp := fun _ => True) ?hr ?hp (fun _ hk => hk) trivial (Below.refl _ _) (Nat.le_refl _) (by simp) ?_; (case hd => rfl); (case hg => rfl); (case hr => first | (go_simp; done) | (go_simp; rfl)); (case hp => exact (Reps.none _ _)); intro v106 w33 ho34 hb hg_ hnew_; clear hg_ hnew_; (first | rw [← Ny105.out] at ho34 | (simp only [Int.reduceToNat] at ho34; rw [← Ny105.out] at ho34)); have HO107 := Aside0.mk (Kd.R_lower (Kd.R_new' ho34 (Kd.R_lt (rz HO104.out))) (below_size (bz HB.out))); replace HO104 := Aside0.mk (Kd.R_elder' (rz HO104.out) (Kd.R_base ho34) hb); replace HB := Aside0.mk (below_step (bz HB.out) hb); clear hb ho34))
  go_ret2
  exact ⟨_, ze, by (with_reducible repeat (first | apply Kd.R_alloc | apply Kd.R_drewN | apply Kd.R_drew)); exact Kd.R_mono HO107.out (fun _ hk => trivial), bz HB.out⟩

end Go.Proofs.Ytlahnekinlkfmaa.P
