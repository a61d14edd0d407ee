-- printed by this session's own driver (wip/qd.py) out of the translation; Lean checks it
import Derived.Test.YtlahnekinlkfmaaPf0
import Derived.Test.YtlahnekinlkfmaaPfimplAreaOk
import Derived.Test.YtlahnekinlkfmaaPfimplAreaend
import Derived.Test.YtlahnekinlkfmaaPfimplAreasOk
import Derived.Test.YtlahnekinlkfmaaPfimplAreasAt
import Derived.Test.YtlahnekinlkfmaaPfimplAreasCut
import Derived.Test.YtlahnekinlkfmaaPfimplAreasAdd
namespace Go.Proofs.Ytlahnekinlkfmaa.P
open Go.RowKit Go.Proofs.YtlahnekinlkfmaaW.PrintWords Go.Proofs.YtlahnekinlkfmaaW.PrintLast Go.Proofs.YtlahnekinlkfmaaW.PrintMore
attribute [local go_sem] max2_int min2_int max_two min_two max_three min_three max_four min_four Q.cell_set_map   -- for this text's walks alone
set_option linter.unusedVariables false
set_option linter.unusedSimpArgs false

/-! ### impl_AreasSet: function 44 -/
mutual
def impl_AreasSet.j0 : Nat → List (S24) → Int → Int → Bool → Bool → Int → Int → Bool → Bool → Option ((List (S24)) × Bool)
 | 0, _, _, _, _, _, _, _, _, _ => none
 | k + 1, x0, x1, x2, x3, x28, x102000, x102001, x102002, x102003 => if x28 = true then (some (([] : List (S24)), false)) else (impl_AreasSet.l0 k x0 x1 x2 x3 x1 x102000 x102001 x102002 x102003)
def impl_AreasSet.l0 : Nat → List (S24) → Int → Int → Bool → Int → Int → Int → Bool → Bool → Option ((List (S24)) × Bool)
 | 0, _, _, _, _, _, _, _, _, _ => none
 | k + 1, x0, x1, x2, x3, x11, x102000, x102001, x102002, x102003 => (impl_Area_end.f x102000 x102001 x102002 x102003).bind fun t104 => (if x11 < t104 then ((impl_AreasAt.f k x0 x11).bind fun t105 => (if t105 < 0 then (some (([] : List (S24)), false)) else (impl_AreasSet.l0 k x0 x1 x2 x3 (wrap64 (x11 + 1)) x102000 x102001 x102002 x102003))) else ((impl_AreasCut.f k x0 x1 x2).bind fun bt106 => (impl_AreasSet.l1 k x3 bt106.1 bt106.2 x0 (x0.length : Int) 0 x102000 x102001 x102002 x102003)))
def impl_AreasSet.l1 : Nat → Bool → List (S24) → Bool → List (S24) → Int → Int → Int → Int → Bool → Bool → Option ((List (S24)) × Bool)
 | 0, _, _, _, _, _, _, _, _, _, _ => none
 | k + 1, x3, x12, x13, x47, x48, x49, x102000, x102001, x102002, x102003 => if x49 < x48 then (if 0 ≤ x49 then (if x49 < (x47.length : Int) then ((impl_Area_end.f ((rd_T24 x47 x49).f0) ((rd_T24 x47 x49).f1) ((rd_T24 x47 x49).f2) ((rd_T24 x47 x49).f3)).bind fun t112 => ((impl_Area_end.f x102000 x102001 x102002 x102003).bind fun t113 => (if x13 = true then (if (mx ((rd_T24 x47 x49).f0) x102000) < (mn t112 t113) then ((impl_AreasAdd.f k x12 (mx ((rd_T24 x47 x49).f0) x102000) (wrap64 ((mn t112 t113) - (mx ((rd_T24 x47 x49).f0) x102000))) x3 ((rd_T24 x47 x49).f3)).bind fun bt114 => (impl_AreasSet.l1 k x3 bt114.1 bt114.2 x47 x48 (wrap64 (x49 + 1)) x102000 x102001 x102002 x102003)) else (impl_AreasSet.l1 k x3 x12 x13 x47 x48 (wrap64 (x49 + 1)) x102000 x102001 x102002 x102003)) else (impl_AreasSet.l1 k x3 x12 x13 x47 x48 (wrap64 (x49 + 1)) x102000 x102001 x102002 x102003)))) else (none)) else (none)) else (if x13 = true then (some (x12, true)) else (some (([] : List (S24)), false)))
end
def impl_AreasSet.f (k : Nat) (l0 : List (S24)) (a1 : Int) (a2 : Int) (a3 : Bool) : Option ((List (S24)) × Bool) := (impl_AreasOk.f k l0).bind fun t102 => (if t102 = true then ((impl_AreaOk.f a1 a2 false false).bind fun t103 => (impl_AreasSet.j0 k l0 a1 a2 a3 (!t103) a1 a2 false false)) else (impl_AreasSet.j0 k l0 a1 a2 a3 true a1 a2 false false))
theorem impl_AreasSet.mono_l : ∀ k, (∀ y0 y1 y2 y3 y4 y5 y6 y7 y8, LeO (impl_AreasSet.j0 k y0 y1 y2 y3 y4 y5 y6 y7 y8) (impl_AreasSet.j0 (k + 1) y0 y1 y2 y3 y4 y5 y6 y7 y8)) ∧ (∀ y0 y1 y2 y3 y4 y5 y6 y7 y8, LeO (impl_AreasSet.l0 k y0 y1 y2 y3 y4 y5 y6 y7 y8) (impl_AreasSet.l0 (k + 1) y0 y1 y2 y3 y4 y5 y6 y7 y8)) ∧ (∀ y0 y1 y2 y3 y4 y5 y6 y7 y8 y9, LeO (impl_AreasSet.l1 k y0 y1 y2 y3 y4 y5 y6 y7 y8 y9) (impl_AreasSet.l1 (k + 1) y0 y1 y2 y3 y4 y5 y6 y7 y8 y9))
 | 0 => ⟨fun _ _ _ _ _ _ _ _ _ r h => by simp [impl_AreasSet.j0] at h, fun _ _ _ _ _ _ _ _ _ r h => by simp [impl_AreasSet.l0] at h, fun _ _ _ _ _ _ _ _ _ _ r h => by simp [impl_AreasSet.l1] at h⟩
 | k + 1 => by
  obtain ⟨ih0, ih1, ih2⟩ := impl_AreasSet.mono_l k
  refine ⟨?_, ?_, ?_⟩
  ·
   intro y0 y1 y2 y3 y4 y5 y6 y7 y8
   unfold impl_AreasSet.j0
   repeat' first
   | (with_reducible exact ih0 _ _ _ _ _ _ _ _ _)
   | (with_reducible exact ih1 _ _ _ _ _ _ _ _ _)
   | (with_reducible exact ih2 _ _ _ _ _ _ _ _ _ _)
   | (with_reducible exact impl_AreasAdd.mono _ _ _ _ _ _)
   | (with_reducible exact impl_AreasAt.mono _ _ _)
   | (with_reducible exact impl_AreasCut.mono _ _ _ _)
   | (with_reducible exact impl_AreasOk.mono _ _)
   | (with_reducible exact LeO.refl _)
   | (with_reducible exact LeO.none _)
   | (with_reducible refine LeO.ite ?_ ?_)
   | (with_reducible refine LeO.bind ?_ (fun _ => ?_))
   | exact ih0 _ _ _ _ _ _ _ _ _
   | exact ih1 _ _ _ _ _ _ _ _ _
   | exact ih2 _ _ _ _ _ _ _ _ _ _
   | exact impl_AreasAdd.mono _ _ _ _ _ _
   | exact impl_AreasAt.mono _ _ _
   | exact impl_AreasCut.mono _ _ _ _
   | exact impl_AreasOk.mono _ _
   | exact LeO.none _
   | refine LeO.ite ?_ ?_
   | refine LeO.bind ?_ (fun _ => ?_)
  ·
   intro y0 y1 y2 y3 y4 y5 y6 y7 y8
   unfold impl_AreasSet.l0
   repeat' first
   | (with_reducible exact ih0 _ _ _ _ _ _ _ _ _)
   | (with_reducible exact ih1 _ _ _ _ _ _ _ _ _)
   | (with_reducible exact ih2 _ _ _ _ _ _ _ _ _ _)
   | (with_reducible exact impl_AreasAdd.mono _ _ _ _ _ _)
   | (with_reducible exact impl_AreasAt.mono _ _ _)
   | (with_reducible exact impl_AreasCut.mono _ _ _ _)
   | (with_reducible exact impl_AreasOk.mono _ _)
   | (with_reducible exact LeO.refl _)
   | (with_reducible exact LeO.none _)
   | (with_reducible refine LeO.ite ?_ ?_)
   | (with_reducible refine LeO.bind ?_ (fun _ => ?_))
   | exact ih0 _ _ _ _ _ _ _ _ _
   | exact ih1 _ _ _ _ _ _ _ _ _
   | exact ih2 _ _ _ _ _ _ _ _ _ _
   | exact impl_AreasAdd.mono _ _ _ _ _ _
   | exact impl_AreasAt.mono _ _ _
   | exact impl_AreasCut.mono _ _ _ _
   | exact impl_AreasOk.mono _ _
   | exact LeO.none _
   | refine LeO.ite ?_ ?_
   | refine LeO.bind ?_ (fun _ => ?_)
  ·
   intro y0 y1 y2 y3 y4 y5 y6 y7 y8 y9
   unfold impl_AreasSet.l1
   repeat' first
   | (with_reducible exact ih0 _ _ _ _ _ _ _ _ _)
   | (with_reducible exact ih1 _ _ _ _ _ _ _ _ _)
   | (with_reducible exact ih2 _ _ _ _ _ _ _ _ _ _)
   | (with_reducible exact impl_AreasAdd.mono _ _ _ _ _ _)
   | (with_reducible exact impl_AreasAt.mono _ _ _)
   | (with_reducible exact impl_AreasCut.mono _ _ _ _)
   | (with_reducible exact impl_AreasOk.mono _ _)
   | (with_reducible exact LeO.refl _)
   | (with_reducible exact LeO.none _)
   | (with_reducible refine LeO.ite ?_ ?_)
   | (with_reducible refine LeO.bind ?_ (fun _ => ?_))
   | exact ih0 _ _ _ _ _ _ _ _ _
   | exact ih1 _ _ _ _ _ _ _ _ _
   | exact ih2 _ _ _ _ _ _ _ _ _ _
   | exact impl_AreasAdd.mono _ _ _ _ _ _
   | exact impl_AreasAt.mono _ _ _
   | exact impl_AreasCut.mono _ _ _ _
   | exact impl_AreasOk.mono _ _
   | exact LeO.none _
   | refine LeO.ite ?_ ?_
   | refine LeO.bind ?_ (fun _ => ?_)
theorem impl_AreasSet.mono : ∀ a0 a1 a2 a3 k, LeO (impl_AreasSet.f k a0 a1 a2 a3) (impl_AreasSet.f (k + 1) a0 a1 a2 a3) := by
 intro a0 a1 a2 a3 k
 obtain ⟨ih0, ih1, ih2⟩ := impl_AreasSet.mono_l k
 unfold impl_AreasSet.f
 repeat' first
   | (with_reducible exact ih0 _ _ _ _ _ _ _ _ _)
   | (with_reducible exact ih1 _ _ _ _ _ _ _ _ _)
   | (with_reducible exact ih2 _ _ _ _ _ _ _ _ _ _)
   | (with_reducible exact impl_AreasAdd.mono _ _ _ _ _ _)
   | (with_reducible exact impl_AreasAt.mono _ _ _)
   | (with_reducible exact impl_AreasCut.mono _ _ _ _)
   | (with_reducible exact impl_AreasOk.mono _ _)
   | (with_reducible exact LeO.refl _)
   | (with_reducible exact LeO.none _)
   | (with_reducible refine LeO.ite ?_ ?_)
   | (with_reducible refine LeO.bind ?_ (fun _ => ?_))
   | exact ih0 _ _ _ _ _ _ _ _ _
   | exact ih1 _ _ _ _ _ _ _ _ _
   | exact ih2 _ _ _ _ _ _ _ _ _ _
   | exact impl_AreasAdd.mono _ _ _ _ _ _
   | exact impl_AreasAt.mono _ _ _
   | exact impl_AreasCut.mono _ _ _ _
   | exact impl_AreasOk.mono _ _
   | exact LeO.none _
   | refine LeO.ite ?_ ?_
   | refine LeO.bind ?_ (fun _ => ?_)
def impl_AreasSet.T13 : Bool × List (List Nat × List Nat) := (true, [([], []), ([0], [0]), ([], []), ([2], [2]), ([1, 3], [1, 3]), ([], []), ([5], [5]), ([], []), ([7, 6], [7]), ([6, 8], [6, 8]), ([4, 8, 0, 1, 2, 3, 4], [4]), ([9, 10, 0, 1, 2, 3, 4, 5, 6, 7, 8, 9, 10], [9])])
def impl_AreasSet.B13 : List Nat := [0, 1, 0, 4, 15, 0, 32, 0, 224, 480, 511, 2047]
theorem impl_AreasSet.tab13 : rtab .any (opsOf Try.f44 13) = impl_AreasSet.T13 := by kernel_rfl
theorem impl_AreasSet.bits13 : waitsOk impl_AreasSet.T13.2 impl_AreasSet.B13 = true := by kernel_rfl
set_option maxHeartbeats 8000000 in
set_option maxRecDepth 100000 in
theorem impl_AreasSet.calls (k : Nat) (A0 : Option Addr) (c0 : Nat) (l0 : List (S24)) (a1 : Int) (a2 : Int) (a3 : Bool) (r1 : List (S24)) (r2 : Bool) (w : World) (hr0 : Kd.C k24 w A0 l0.length l0) (hc0 : l0.length ≤ c0) (h : impl_AreasSet.f k l0 a1 a2 a3 = some (r1, r2)) :
  Calls Try.prog 44 #[.slice A0 l0.length c0, .int .i64 a1, .int .i64 a2, .bool a3] w fun e w' => ∃ v0_ : Value, e = .returned (.tuple #[v0_, .bool r2]) ∧ Kd.R k24 24 w' w.heap.size (fun _ => True) v0_ r1 ∧ Below w.heap.size w w' := by
 have hu24 := Try.underlying24
 have HR0 := Aside0.mk hr0
 have HC0 := Aside0.mk hc0
 clear hr0 hc0
 have HB := Aside0.mk (Below.refl w.heap.size w)
 have H : ((impl_AreasOk.f k l0).bind fun t102 => (if t102 = true then ((impl_AreaOk.f a1 a2 false false).bind fun t103 => (impl_AreasSet.j0 k l0 a1 a2 a3 (!t103) a1 a2 false false)) else (impl_AreasSet.j0 k l0 a1 a2 a3 true a1 a2 false false))) = some (r1, r2) := h
 clear h
 have HC5 := Aside0.mk H
 clear H
 go_enter Try.func44, Try.ntmps44
 go_upto_region 2 with (first | ((with_reducible refine gate_dst (N := 10) rfl ?_); refine box_event ?hg (N := 10) ?hd (cs := #[.int .i64 0, .int .i64 0, .bool false, .bool false]) (t := 24) ?hr ?_; (case hd => rfl); (case hg => rfl); (case hr => first | (go_simp; done) | (go_simp; rfl)); intro gb101 hg w6 hbox hb; have BK101 := Aside0.mk (hbox); have GW101 := Aside0.mk ((by rw [hg]; exact (below_size (bz HB.out)) : w.heap.size ≤ gb101)); have GE101 := Aside0.mk ((by rw [hg]; exact (below_size (bz HB.out)) : w.heap.size ≤ gb101)); replace HB := Aside0.mk (below_step (bz HB.out) hb); clear hb hbox hg; have hcz7_0 : w6.cell? ⟨gb101, 0, none⟩ = some (.int .i64 0) := (blk_cell BK101.out 0).trans rfl; have hcz7_1 : w6.cell? ⟨gb101, 1, none⟩ = some (.int .i64 0) := (blk_cell BK101.out 1).trans rfl; have hcz7_2 : w6.cell? ⟨gb101, 2, none⟩ = some (.bool false) := (blk_cell BK101.out 2).trans rfl; have hcz7_3 : w6.cell? ⟨gb101, 3, none⟩ = some (.bool false) := (blk_cell BK101.out 3).trans rfl; have hfz7_0 := blk_frozen BK101.out 0; have hfz7_1 := blk_frozen BK101.out 1; have hfz7_2 := blk_frozen BK101.out 2; have hfz7_3 := blk_frozen BK101.out 3))
 (try simp only [Act.put, List.setIfInBounds_toArray, List.set_cons_zero, List.set_cons_succ])
 go_cut [28] (fun v28 wc => ∃ (kq : Nat) (x28_4 : Bool), v28 = .bool x28_4 ∧ Aside0 (impl_AreasSet.j0 kq l0 a1 a2 a3 x28_4 a1 a2 false false = some (r1, r2)) ∧ Aside0 (kq ≤ k) ∧ Aside0 (wc.heap[gb101]? = some (.cells #[.int .i64 a1, .int .i64 a2, .bool false, .bool false] 24 (0, 0))) ∧ Aside0 (Below w.heap.size w wc))
 case first =>
  have H := HC5.out
  clear HC5
  replace H := Option.bind_eq_some_iff.mp H
  obtain ⟨t102, A80, H⟩ := H
  have A8 := Aside0.mk A80
  clear A80
  by_cases c9 : t102 = true
  ·
   subst c9
   rw [if_pos rfl] at H
   replace H := Option.bind_eq_some_iff.mp H
   obtain ⟨t103, A100, H⟩ := H
   have A10 := Aside0.mk A100
   clear A100
   have H' := Aside0.mk H
   clear H
   go_wp2_with (first | ((with_reducible refine gate_callee (f := 21) rfl ?_); refine goesL_ (some 22) rfl rfl Try.func21 zk rfl #[.slice A0 l0.length c0] rfl zm ?_; (with_reducible refine (impl_AreasOk.calls k _ _ l0 true _ ?side1 ?side2 A8.out).mono ?_); (case side1 => exact Kd.C_below HR0.out (bs HB.out GE101.out)); (case side2 => exact HC0.out); rintro e w11 ⟨rfl, hb⟩; refine ⟨_, rfl, ?_⟩; replace BK101 := Aside0.mk (blk_below (g := gb101) (o := .cells #[.int .i64 a1, .int .i64 a2, .bool false, .bool false] 24 (0, 0)) (by (with_reducible repeat (first | refine blk_drewN ?_ _ | refine blk_drew ?_ | refine blk_alloc ?_ _)); refine blk_put (cs := #[.int .i64 a1, .int .i64 a2, .bool false, .bool false]) ?_ 3 _ rfl; (with_reducible repeat (first | refine blk_drewN ?_ _ | refine blk_drew ?_ | refine blk_alloc ?_ _)); refine blk_put (cs := #[.int .i64 a1, .int .i64 a2, .bool false, .bool false]) ?_ 2 _ rfl; (with_reducible repeat (first | refine blk_drewN ?_ _ | refine blk_drew ?_ | refine blk_alloc ?_ _)); refine blk_put (cs := #[.int .i64 a1, .int .i64 0, .bool false, .bool false]) ?_ 1 _ rfl; (with_reducible repeat (first | refine blk_drewN ?_ _ | refine blk_drew ?_ | refine blk_alloc ?_ _)); refine blk_put (cs := #[.int .i64 0, .int .i64 0, .bool false, .bool false]) ?_ 0 _ rfl; (with_reducible repeat (first | refine blk_drewN ?_ _ | refine blk_drew ?_ | refine blk_alloc ?_ _)); exact BK101.out) hb); replace HB := Aside0.mk (below_step (bs HB.out GE101.out) hb); (try clear hb); have hcz12_0 : w11.cell? ⟨gb101, 0, none⟩ = some (.int .i64 a1) := (blk_cell BK101.out 0).trans rfl; have hcz12_1 : w11.cell? ⟨gb101, 1, none⟩ = some (.int .i64 a2) := (blk_cell BK101.out 1).trans rfl; have hcz12_2 : w11.cell? ⟨gb101, 2, none⟩ = some (.bool false) := (blk_cell BK101.out 2).trans rfl; have hcz12_3 : w11.cell? ⟨gb101, 3, none⟩ = some (.bool false) := (blk_cell BK101.out 3).trans rfl; have hfz12_0 := blk_frozen BK101.out 0; have hfz12_1 := blk_frozen BK101.out 1; have hfz12_2 := blk_frozen BK101.out 2; have hfz12_3 := blk_frozen BK101.out 3) | (go_at_call 19; (with_reducible refine (impl_AreaOk.calls a1 a2 false false t103 _ A10.out).mono ?_); rintro e w13 ⟨rfl, hb⟩; replace BK101 := Aside0.mk (blk_below (g := gb101) (o := .cells #[.int .i64 a1, .int .i64 a2, .bool false, .bool false] 24 (0, 0)) (kz BK101.out) hb); replace HB := Aside0.mk (below_step (bs HB.out GE101.out) hb); (try clear hb)))
   go_meet
   case rel => exact ⟨_, (!t103), zr, H', ⟨by first | omega | exact Nat.le_refl _⟩, ⟨by (with_reducible repeat (first | refine blk_drewN ?_ _ | refine blk_drew ?_ | refine blk_alloc ?_ _)); exact BK101.out⟩, ⟨bs HB.out GE101.out⟩⟩
  ·
   replace c9 := Bool.eq_false_iff.mpr c9
   subst c9
   rw [if_neg nf_] at H
   have H' := Aside0.mk H
   clear H
   go_wp2_with (first | ((with_reducible refine gate_callee (f := 21) rfl ?_); refine goesL_ (some 22) rfl rfl Try.func21 zk rfl #[.slice A0 l0.length c0] rfl zm ?_; (with_reducible refine (impl_AreasOk.calls k _ _ l0 false _ ?side1 ?side2 A8.out).mono ?_); (case side1 => exact Kd.C_below HR0.out (bs HB.out GE101.out)); (case side2 => exact HC0.out); rintro e w14 ⟨rfl, hb⟩; refine ⟨_, rfl, ?_⟩; replace BK101 := Aside0.mk (blk_below (g := gb101) (o := .cells #[.int .i64 a1, .int .i64 a2, .bool false, .bool false] 24 (0, 0)) (by (with_reducible repeat (first | refine blk_drewN ?_ _ | refine blk_drew ?_ | refine blk_alloc ?_ _)); refine blk_put (cs := #[.int .i64 a1, .int .i64 a2, .bool false, .bool false]) ?_ 3 _ rfl; (with_reducible repeat (first | refine blk_drewN ?_ _ | refine blk_drew ?_ | refine blk_alloc ?_ _)); refine blk_put (cs := #[.int .i64 a1, .int .i64 a2, .bool false, .bool false]) ?_ 2 _ rfl; (with_reducible repeat (first | refine blk_drewN ?_ _ | refine blk_drew ?_ | refine blk_alloc ?_ _)); refine blk_put (cs := #[.int .i64 a1, .int .i64 0, .bool false, .bool false]) ?_ 1 _ rfl; (with_reducible repeat (first | refine blk_drewN ?_ _ | refine blk_drew ?_ | refine blk_alloc ?_ _)); refine blk_put (cs := #[.int .i64 0, .int .i64 0, .bool false, .bool false]) ?_ 0 _ rfl; (with_reducible repeat (first | refine blk_drewN ?_ _ | refine blk_drew ?_ | refine blk_alloc ?_ _)); exact BK101.out) hb); replace HB := Aside0.mk (below_step (bs HB.out GE101.out) hb); (try clear hb)))
   go_meet
   case rel => exact ⟨_, (true), zr, H', ⟨by first | omega | exact Nat.le_refl _⟩, ⟨by (with_reducible repeat (first | refine blk_drewN ?_ _ | refine blk_drew ?_ | refine blk_alloc ?_ _)); exact BK101.out⟩, ⟨bs HB.out GE101.out⟩⟩
 case rest =>
  clear HC5
  try clear c2
  try clear p2
  try clear c4
  try clear c9
  try clear hcz12_0
  try clear hcz12_1
  try clear hcz12_2
  try clear hcz12_3
  try clear hcz7_0
  try clear hcz7_1
  try clear hcz7_2
  try clear hcz7_3
  try clear hfz12_0
  try clear hfz12_1
  try clear hfz12_2
  try clear hfz12_3
  try clear hfz7_0
  try clear hfz7_1
  try clear hfz7_2
  try clear hfz7_3
  obtain ⟨kq, x28_4, rfl, HA, HJ4, BK101, HB⟩ := hcut
  cases kq with
  | zero => exact absurd HA.out (by simp [impl_AreasSet.j0])
  | succ kj4 =>
   have H := HA.out
   clear HA
   simp only [impl_AreasSet.j0] at H
   by_cases c15 : x28_4 = true
   ·
    subst c15
    rw [if_pos rfl] at H
    simp only [Option.some.injEq, Prod.mk.injEq] at H
    obtain ⟨rfl, rfl⟩ := H
    go_wp2
    go_ret2
    exact ⟨_, ze, by first | exact Kd.R_nil _ _ _ _ _ | exact Kd.N_nil _ _ _ _ _ | exact Kd.V_nil _ _ _ _ _ | exact Kd.Q_nil _ _ _ _ _ | exact Kd.S_nil _ _ _ _ _, bs HB.out GE101.out⟩
   ·
    replace c15 := Bool.eq_false_iff.mpr c15
    subst c15
    rw [if_neg nf_] at H
    have H' := Aside0.mk H
    clear H
    go_wp2
    go_loopg [11] kj4 (fun kq v11 w' => ∃ (x11_2 : Int), v11 = .int .i64 x11_2 ∧ Aside0 (impl_AreasSet.l0 kq l0 a1 a2 a3 x11_2 a1 a2 false false = some (r1, r2)) ∧ Aside0 (kq ≤ kj4) ∧ Aside0 (w'.heap[gb101]? = some (.cells #[.int .i64 a1, .int .i64 a2, .bool false, .bool false] 24 (0, 0))) ∧ Aside0 (Below w.heap.size w w'))
    case atStart => exact ⟨(a1), zr, H', ⟨Nat.le_refl _⟩, ⟨by (with_reducible repeat (first | refine blk_drewN ?_ _ | refine blk_drew ?_ | refine blk_alloc ?_ _)); exact BK101.out⟩, ⟨bs HB.out GE101.out⟩⟩
    case round =>
     clear H'
     try clear c1
     try clear c2
     try clear p2
     try clear c4
     try clear c9
     try clear c15
     try clear hcz12_0
     try clear hcz12_1
     try clear hcz12_2
     try clear hcz12_3
     try clear hcz7_0
     try clear hcz7_1
     try clear hcz7_2
     try clear hcz7_3
     try clear hfz12_0
     try clear hfz12_1
     try clear hfz12_2
     try clear hfz12_3
     try clear hfz7_0
     try clear hfz7_1
     try clear hfz7_2
     try clear hfz7_3
     try clear p2
     obtain ⟨x11_2, rfl, HA, HK2, BK101, HB⟩ := hrel
     cases gk with
     | zero => exact absurd HA.out (by simp [impl_AreasSet.l0])
     | succ k2 =>
      have H := HA.out
      clear HA
      simp only [impl_AreasSet.l0] at H
      replace H := Option.bind_eq_some_iff.mp H
      obtain ⟨t104, A160, H⟩ := H
      have A16 := Aside0.mk A160
      clear A160
      by_cases c17 : x11_2 < t104
      ·
       rw [if_pos c17] at H
       have c17b0 : decide (x11_2 < t104) = true := decide_eq_true c17
       clear c17
       replace H := Option.bind_eq_some_iff.mp H
       obtain ⟨t105, A180, H⟩ := H
       have A18 := Aside0.mk A180
       clear A180
       by_cases c19 : t105 < 0
       ·
        rw [if_pos c19] at H
        have c19b0 : decide (t105 < 0) = true := decide_eq_true c19
        clear c19
        simp only [Option.some.injEq, Prod.mk.injEq] at H
        obtain ⟨rfl, rfl⟩ := H
        have hcz20_0 : wr.cell? ⟨gb101, 0, none⟩ = some (.int .i64 a1) := (blk_cell BK101.out 0).trans rfl
        have hcz20_1 : wr.cell? ⟨gb101, 1, none⟩ = some (.int .i64 a2) := (blk_cell BK101.out 1).trans rfl
        have hcz20_2 : wr.cell? ⟨gb101, 2, none⟩ = some (.bool false) := (blk_cell BK101.out 2).trans rfl
        have hcz20_3 : wr.cell? ⟨gb101, 3, none⟩ = some (.bool false) := (blk_cell BK101.out 3).trans rfl
        have hfz20_0 := blk_frozen BK101.out 0
        have hfz20_1 := blk_frozen BK101.out 1
        have hfz20_2 := blk_frozen BK101.out 2
        have hfz20_3 := blk_frozen BK101.out 3
        go_wp2_with (first | ((with_reducible refine gate_callee (f := 50) rfl ?_); refine goesL_ (some 32) rfl rfl Try.func50 zk rfl #[.agg #[.int .i64 a1, .int .i64 a2, .bool false, .bool false]] rfl zm ?_; (with_reducible refine (impl_Area_end.calls a1 a2 false false t104 _ A16.out).mono ?_); rintro e w21 ⟨rfl, hb⟩; refine ⟨_, rfl, ?_⟩; replace BK101 := Aside0.mk (blk_below (g := gb101) (o := .cells #[.int .i64 a1, .int .i64 a2, .bool false, .bool false] 24 (0, 0)) (kz BK101.out) hb); replace HB := Aside0.mk (below_step (bs HB.out GE101.out) hb); (try clear hb)) | ((with_reducible refine gate_callee (f := 29) rfl ?_); refine goesL_ (some 38) rfl rfl Try.func29 zk rfl #[.slice A0 l0.length c0, .int .i64 x11_2] rfl zm ?_; (with_reducible refine (impl_AreasAt.calls k2 _ _ l0 x11_2 t105 _ ?side1 ?side2 A18.out).mono ?_); (case side1 => exact cz (Kd.C_below HR0.out HB.out)); (case side2 => exact HC0.out); rintro e w22 ⟨rfl, hb⟩; refine ⟨_, rfl, ?_⟩; replace BK101 := Aside0.mk (blk_below (g := gb101) (o := .cells #[.int .i64 a1, .int .i64 a2, .bool false, .bool false] 24 (0, 0)) (kz BK101.out) hb); replace HB := Aside0.mk (below_step (bs HB.out GE101.out) hb); (try clear hb)))
        go_ret2
        exact ⟨_, ze, by first | exact Kd.R_nil _ _ _ _ _ | exact Kd.N_nil _ _ _ _ _ | exact Kd.V_nil _ _ _ _ _ | exact Kd.Q_nil _ _ _ _ _ | exact Kd.S_nil _ _ _ _ _, bs HB.out GE101.out⟩
       ·
        rw [if_neg c19] at H
        have c19b0 : decide (t105 < 0) = false := decide_eq_false c19
        clear c19
        have H' := Aside0.mk H
        clear H
        have hcz23_0 : wr.cell? ⟨gb101, 0, none⟩ = some (.int .i64 a1) := (blk_cell BK101.out 0).trans rfl
        have hcz23_1 : wr.cell? ⟨gb101, 1, none⟩ = some (.int .i64 a2) := (blk_cell BK101.out 1).trans rfl
        have hcz23_2 : wr.cell? ⟨gb101, 2, none⟩ = some (.bool false) := (blk_cell BK101.out 2).trans rfl
        have hcz23_3 : wr.cell? ⟨gb101, 3, none⟩ = some (.bool false) := (blk_cell BK101.out 3).trans rfl
        have hfz23_0 := blk_frozen BK101.out 0
        have hfz23_1 := blk_frozen BK101.out 1
        have hfz23_2 := blk_frozen BK101.out 2
        have hfz23_3 := blk_frozen BK101.out 3
        go_wp2_with (first | ((with_reducible refine gate_callee (f := 50) rfl ?_); refine goesL_ (some 32) rfl rfl Try.func50 zk rfl #[.agg #[.int .i64 a1, .int .i64 a2, .bool false, .bool false]] rfl zm ?_; (with_reducible refine (impl_Area_end.calls a1 a2 false false t104 _ A16.out).mono ?_); rintro e w24 ⟨rfl, hb⟩; refine ⟨_, rfl, ?_⟩; replace BK101 := Aside0.mk (blk_below (g := gb101) (o := .cells #[.int .i64 a1, .int .i64 a2, .bool false, .bool false] 24 (0, 0)) (kz BK101.out) hb); replace HB := Aside0.mk (below_step (bs HB.out GE101.out) hb); (try clear hb)) | ((with_reducible refine gate_callee (f := 29) rfl ?_); refine goesL_ (some 38) rfl rfl Try.func29 zk rfl #[.slice A0 l0.length c0, .int .i64 x11_2] rfl zm ?_; (with_reducible refine (impl_AreasAt.calls k2 _ _ l0 x11_2 t105 _ ?side1 ?side2 A18.out).mono ?_); (case side1 => exact cz (Kd.C_below HR0.out HB.out)); (case side2 => exact HC0.out); rintro e w25 ⟨rfl, hb⟩; refine ⟨_, rfl, ?_⟩; replace BK101 := Aside0.mk (blk_below (g := gb101) (o := .cells #[.int .i64 a1, .int .i64 a2, .bool false, .bool false] 24 (0, 0)) (kz BK101.out) hb); replace HB := Aside0.mk (below_step (bs HB.out GE101.out) hb); (try clear hb)))
        go_roundg k2
        case measure => have := HJ4.out; have := HK2.out; omega
        case rel => exact ⟨(wrap64 (x11_2 + 1)), zr, H', ⟨by have := HJ4.out; have := HK2.out; omega⟩, ⟨by (with_reducible repeat (first | refine blk_drewN ?_ _ | refine blk_drew ?_ | refine blk_alloc ?_ _)); exact BK101.out⟩, ⟨bs HB.out GE101.out⟩⟩
      ·
       rw [if_neg c17] at H
       have c17b0 : decide (x11_2 < t104) = false := decide_eq_false c17
       clear c17
       replace H := Option.bind_eq_some_iff.mp H
       obtain ⟨⟨t106, t107⟩, A260, H⟩ := H
       replace H : (impl_AreasSet.l1 k2 a3 t106 t107 l0 (l0.length : Int) 0 a1 a2 false false) = some (r1, r2) := H
       have A26 := Aside0.mk A260
       clear A260
       have H' := Aside0.mk H
       clear H
       have hcz27_0 : wr.cell? ⟨gb101, 0, none⟩ = some (.int .i64 a1) := (blk_cell BK101.out 0).trans rfl
       have hcz27_1 : wr.cell? ⟨gb101, 1, none⟩ = some (.int .i64 a2) := (blk_cell BK101.out 1).trans rfl
       have hcz27_2 : wr.cell? ⟨gb101, 2, none⟩ = some (.bool false) := (blk_cell BK101.out 2).trans rfl
       have hcz27_3 : wr.cell? ⟨gb101, 3, none⟩ = some (.bool false) := (blk_cell BK101.out 3).trans rfl
       have hfz27_0 := blk_frozen BK101.out 0
       have hfz27_1 := blk_frozen BK101.out 1
       have hfz27_2 := blk_frozen BK101.out 2
       have hfz27_3 := blk_frozen BK101.out 3
       go_wp2_with (first | ((with_reducible refine gate_callee (f := 50) rfl ?_); refine goesL_ (some 32) rfl rfl Try.func50 zk rfl #[.agg #[.int .i64 a1, .int .i64 a2, .bool false, .bool false]] rfl zm ?_; (with_reducible refine (impl_Area_end.calls a1 a2 false false t104 _ A16.out).mono ?_); rintro e w28 ⟨rfl, hb⟩; refine ⟨_, rfl, ?_⟩; replace BK101 := Aside0.mk (blk_below (g := gb101) (o := .cells #[.int .i64 a1, .int .i64 a2, .bool false, .bool false] 24 (0, 0)) (kz BK101.out) hb); replace HB := Aside0.mk (below_step (bs HB.out GE101.out) hb); (try clear hb)) | ((with_reducible refine gate_callee (f := 34) rfl ?_); refine goesL_ (some 44) rfl rfl Try.func34 zk rfl #[.slice A0 l0.length c0, .int .i64 a1, .int .i64 a2] rfl zm ?_; (with_reducible refine (impl_AreasCut.calls k2 _ _ l0 a1 a2 t106 t107 _ ?side1 ?side2 A26.out).mono ?_); (case side1 => exact cz (Kd.C_below HR0.out HB.out)); (case side2 => exact HC0.out); rintro e w29 ⟨v108, rfl, ho0, hb⟩; refine ⟨_, rfl, ?_⟩; have HO109 := Aside0.mk (Kd.R_lower (Kd.R_newB ho0 (g := gb101) (o := .cells #[.int .i64 a1, .int .i64 a2, .bool false, .bool false] 24 (0, 0)) (kz BK101.out)) (below_size (bs HB.out GE101.out))); replace BK101 := Aside0.mk (blk_below (g := gb101) (o := .cells #[.int .i64 a1, .int .i64 a2, .bool false, .bool false] 24 (0, 0)) (kz BK101.out) hb); replace HB := Aside0.mk (below_step (bs HB.out GE101.out) hb); (try clear hb); (try clear ho0)))
       go_loopg [12, 13, 49] k2 (fun kq v12 v13 v49 w' => ∃ (x12_3 : List (S24)) (x13_3 : Bool) (x49_3 : Int), v13 = .bool x13_3 ∧ v49 = .int .i64 x49_3 ∧ Aside0 (impl_AreasSet.l1 kq a3 x12_3 x13_3 l0 (l0.length : Int) x49_3 a1 a2 false false = some (r1, r2)) ∧ Aside0 (kq ≤ k2) ∧ Aside0 (Kd.R k24 24 w' w.heap.size (fun k_ => k_ ≠ gb101) v12 x12_3) ∧ Aside0 (w'.heap[gb101]? = some (.cells #[.int .i64 a1, .int .i64 a2, .bool false, .bool false] 24 (0, 0))) ∧ Aside0 (Below w.heap.size w w'))
       case atStart => exact ⟨(t106), (t107), (0), zr, zr, H', ⟨Nat.le_refl _⟩, ⟨by (with_reducible repeat (first | apply Kd.R_alloc | apply Kd.R_drewN | apply Kd.R_drew)); exact Kd.R_mono HO109.out (fun _ hk => hk.2)⟩, ⟨by (with_reducible repeat (first | refine blk_drewN ?_ _ | refine blk_drew ?_ | refine blk_alloc ?_ _)); exact BK101.out⟩, ⟨bs HB.out GE101.out⟩⟩
       case round =>
        clear H'
        try clear c1
        try clear c2
        try clear p2
        try clear c3
        try clear c4
        try clear c5
        try clear p6
        try clear c9
        try clear c15
        try clear c17
        try clear c17b0
        try clear c19
        try clear c19b0
        try clear c21
        try clear c29
        try clear hcz12_0
        try clear hcz12_1
        try clear hcz12_2
        try clear hcz12_3
        try clear hcz20_0
        try clear hcz20_1
        try clear hcz20_2
        try clear hcz20_3
        try clear hcz23_0
        try clear hcz23_1
        try clear hcz23_2
        try clear hcz23_3
        try clear hcz27_0
        try clear hcz27_1
        try clear hcz27_2
        try clear hcz27_3
        try clear hcz7_0
        try clear hcz7_1
        try clear hcz7_2
        try clear hcz7_3
        try clear hfz12_0
        try clear hfz12_1
        try clear hfz12_2
        try clear hfz12_3
        try clear hfz20_0
        try clear hfz20_1
        try clear hfz20_2
        try clear hfz20_3
        try clear hfz23_0
        try clear hfz23_1
        try clear hfz23_2
        try clear hfz23_3
        try clear hfz27_0
        try clear hfz27_1
        try clear hfz27_2
        try clear hfz27_3
        try clear hfz7_0
        try clear hfz7_1
        try clear hfz7_2
        try clear hfz7_3
        try clear p2
        obtain ⟨x12_3, x13_3, x49_3, rfl, rfl, HA, HK3, HO_12, BK101, HB⟩ := hrel
        cases gk with
        | zero => exact absurd HA.out (by simp [impl_AreasSet.l1])
        | succ k3 =>
         have H := HA.out
         clear HA
         simp only [impl_AreasSet.l1] at H
         by_cases c30 : x49_3 < (l0.length : Int)
         ·
          rw [if_pos c30] at H
          have c30b0 : decide (x49_3 < (l0.length : Int)) = true := decide_eq_true c30
          clear c30
          by_cases c31 : 0 ≤ x49_3
          ·
           rw [if_pos c31] at H
           have c31b0 : decide (0 ≤ x49_3) = true := decide_eq_true c31
           clear c31
           by_cases c32 : x49_3 < (l0.length : Int)
           ·
            rw [if_pos c32] at H
            have c32b0 : decide (x49_3 < (l0.length : Int)) = true := decide_eq_true c32
            clear c32
            obtain ⟨ji33, hji33⟩ : ∃ j_ : Int, (mx ((rd_T24 l0 x49_3).f0) a1) = j_ := ⟨_, rfl⟩
            replace H : ((impl_Area_end.f ((rd_T24 l0 x49_3).f0) ((rd_T24 l0 x49_3).f1) ((rd_T24 l0 x49_3).f2) ((rd_T24 l0 x49_3).f3)).bind fun t112 => ((impl_Area_end.f a1 a2 false false).bind fun t113 => (if x13_3 = true then (if (ji33) < (mn t112 t113) then ((impl_AreasAdd.f k3 x12_3 (ji33) (wrap64 ((mn t112 t113) - (ji33))) a3 ((rd_T24 l0 x49_3).f3)).bind fun bt114 => (impl_AreasSet.l1 k3 a3 bt114.1 bt114.2 l0 (l0.length : Int) (wrap64 (x49_3 + 1)) a1 a2 false false)) else (impl_AreasSet.l1 k3 a3 x12_3 x13_3 l0 (l0.length : Int) (wrap64 (x49_3 + 1)) a1 a2 false false)) else (impl_AreasSet.l1 k3 a3 x12_3 x13_3 l0 (l0.length : Int) (wrap64 (x49_3 + 1)) a1 a2 false false)))) = some (r1, r2) := by first | (rw [hji33] at H; exact H) | (simp only [hji33] at H ⊢; exact H)
            have hji33_ : (if ((rd_T24 l0 x49_3).f0) < a1 then a1 else ((rd_T24 l0 x49_3).f0)) = ji33 := hji33
            replace H := Option.bind_eq_some_iff.mp H
            obtain ⟨t112, A340, H⟩ := H
            have A34 := Aside0.mk A340
            clear A340
            replace H := Option.bind_eq_some_iff.mp H
            obtain ⟨t113, A350, H⟩ := H
            have A35 := Aside0.mk A350
            clear A350
            obtain ⟨ji36, hji36⟩ : ∃ j_ : Int, (mn t112 t113) = j_ := ⟨_, rfl⟩
            replace H : (if x13_3 = true then (if (ji33) < (ji36) then ((impl_AreasAdd.f k3 x12_3 (ji33) (wrap64 ((ji36) - (ji33))) a3 ((rd_T24 l0 x49_3).f3)).bind fun bt114 => (impl_AreasSet.l1 k3 a3 bt114.1 bt114.2 l0 (l0.length : Int) (wrap64 (x49_3 + 1)) a1 a2 false false)) else (impl_AreasSet.l1 k3 a3 x12_3 x13_3 l0 (l0.length : Int) (wrap64 (x49_3 + 1)) a1 a2 false false)) else (impl_AreasSet.l1 k3 a3 x12_3 x13_3 l0 (l0.length : Int) (wrap64 (x49_3 + 1)) a1 a2 false false)) = some (r1, r2) := by first | (rw [hji36] at H; exact H) | (simp only [hji36] at H ⊢; exact H)
            (try rw [hji36] at A34)
            (try rw [hji36] at A35)
            have hji36_ : (if t113 < t112 then t113 else t112) = ji36 := hji36
            by_cases c37 : x13_3 = true
            ·
             subst c37
             rw [if_pos rfl] at H
             by_cases c38 : (ji33) < (ji36)
             ·
              rw [if_pos c38] at H
              have c38b0 : decide ((ji33) < (ji36)) = true := decide_eq_true c38
              clear c38
              replace H := Option.bind_eq_some_iff.mp H
              obtain ⟨⟨t114, t117⟩, A390, H⟩ := H
              replace H : (impl_AreasSet.l1 k3 a3 t114 t117 l0 (l0.length : Int) (wrap64 (x49_3 + 1)) a1 a2 false false) = some (r1, r2) := H
              have A39 := Aside0.mk A390
              clear A390
              have H' := Aside0.mk H
              clear H
              have p110 : 0 ≤ (x49_3 : Int) := of_decide_eq_true zs
              have q110 : x49_3 < (l0.length : Int) := of_decide_eq_true zs
              obtain ⟨ad110, e110, hx110_0, hx110_1, hx110_2, hx110_3⟩ := at_T24 HR0.out x49_3 p110 q110
              cases e110
              replace hx110_0 := pw_cell_below HB.out hx110_0
              replace hx110_1 := pw_cell_below HB.out hx110_1
              replace hx110_2 := pw_cell_below HB.out hx110_2
              replace hx110_3 := pw_cell_below HB.out hx110_3
              replace p110 := eq_true p110
              replace q110 := eq_true q110
              try go_wp2_with (first | ((with_reducible refine gate_dst (N := 15) rfl ?_); refine box_event ?hg (N := 15) ?hd (cs := #[.int .i64 0, .int .i64 0, .bool false, .bool false]) (t := 24) ?hr ?_; (case hd => rfl); (case hg => rfl); (case hr => first | (go_simp; done) | (go_simp; rfl)); intro gb111 hg w40 hbox hb; replace HO_12 := Aside0.mk (Kd.R_below (Kd.R_elderB (rz HO_12.out) gb111 (Nat.le_of_eq hg.symm)) hb); have BK111 := Aside0.mk (hbox); have GW111 := Aside0.mk ((by rw [hg]; exact (below_size (bs HB.out GE101.out)) : w.heap.size ≤ gb111)); have GE111 := Aside0.mk ((by rw [hg]; exact (below_size (bs HB.out GE101.out)) : w.heap.size ≤ gb111)); replace HB := Aside0.mk (below_step (bs HB.out GE101.out) hb); have NB101_111 := Aside0.mk ((by rw [hg]; exact Nat.ne_of_lt (blk_lt (g := gb101) (o := .cells #[.int .i64 a1, .int .i64 a2, .bool false, .bool false] 24 (0, 0)) (kz BK101.out)) : gb101 ≠ gb111)); have NB111_101 := Aside0.mk ((by rw [hg]; exact Nat.ne_of_gt (blk_lt (g := gb101) (o := .cells #[.int .i64 a1, .int .i64 a2, .bool false, .bool false] 24 (0, 0)) (kz BK101.out)) : gb111 ≠ gb101)); replace BK101 := Aside0.mk (blk_below (g := gb101) (o := .cells #[.int .i64 a1, .int .i64 a2, .bool false, .bool false] 24 (0, 0)) (kz BK101.out) hb); clear hb hbox hg; have hnb41 := NB111_101.out; have hnc41 := NB101_111.out; have hcz42_0 : w40.cell? ⟨gb111, 0, none⟩ = some (.int .i64 0) := (blk_cell BK111.out 0).trans rfl; have hcz42_1 : w40.cell? ⟨gb111, 1, none⟩ = some (.int .i64 0) := (blk_cell BK111.out 1).trans rfl; have hcz42_2 : w40.cell? ⟨gb111, 2, none⟩ = some (.bool false) := (blk_cell BK111.out 2).trans rfl; have hcz42_3 : w40.cell? ⟨gb111, 3, none⟩ = some (.bool false) := (blk_cell BK111.out 3).trans rfl; have hfz42_0 := blk_frozen BK111.out 0; have hfz42_1 := blk_frozen BK111.out 1; have hfz42_2 := blk_frozen BK111.out 2; have hfz42_3 := blk_frozen BK111.out 3))
              have n0_ : Aside0 (Kd.R k24 24 ((((w40.setCell ⟨gb111, 0, none⟩ (.int .i64 ((rd_T24 l0 x49_3).f0))).setCell ⟨gb111, 1, none⟩ (.int .i64 ((rd_T24 l0 x49_3).f1))).setCell ⟨gb111, 2, none⟩ (.bool ((rd_T24 l0 x49_3).f2))).setCell ⟨gb111, 3, none⟩ (.bool ((rd_T24 l0 x49_3).f3))) w.heap.size (fun k_ => k_ ≠ gb101 ∧ k_ ≠ gb111) u12 x12_3) := ⟨by (with_reducible repeat (first | apply Kd.R_alloc | apply Kd.R_drewN | apply Kd.R_drew)); exact Kd.R_mono (Kd.R_far (p := ⟨gb111, 3, none⟩) (Kd.R_far (p := ⟨gb111, 2, none⟩) (Kd.R_far (p := ⟨gb111, 1, none⟩) (Kd.R_far (p := ⟨gb111, 0, none⟩) (Kd.R_mono HO_12.out (fun k_ hk => (⟨hk, hk.2⟩ : _ ∧ k_ ≠ gb111))) (fun _ hk => hk.2) (.int .i64 ((rd_T24 l0 x49_3).f0))) (fun _ hk => hk.2) (.int .i64 ((rd_T24 l0 x49_3).f1))) (fun _ hk => hk.2) (.bool ((rd_T24 l0 x49_3).f2))) (fun _ hk => hk.2) (.bool ((rd_T24 l0 x49_3).f3))) (fun _ hk => ⟨hk.1.1, hk.1.2⟩)⟩
              have n1_ : Aside0 (((((w40.setCell ⟨gb111, 0, none⟩ (.int .i64 ((rd_T24 l0 x49_3).f0))).setCell ⟨gb111, 1, none⟩ (.int .i64 ((rd_T24 l0 x49_3).f1))).setCell ⟨gb111, 2, none⟩ (.bool ((rd_T24 l0 x49_3).f2))).setCell ⟨gb111, 3, none⟩ (.bool ((rd_T24 l0 x49_3).f3))).heap[gb101]? = some (.cells #[.int .i64 a1, .int .i64 a2, .bool false, .bool false] 24 (0, 0))) := ⟨by (with_reducible repeat (first | refine blk_drewN ?_ _ | refine blk_drew ?_ | refine blk_alloc ?_ _)); refine blk_far ?_ NB101_111.out _; (with_reducible repeat (first | refine blk_drewN ?_ _ | refine blk_drew ?_ | refine blk_alloc ?_ _)); refine blk_far ?_ NB101_111.out _; (with_reducible repeat (first | refine blk_drewN ?_ _ | refine blk_drew ?_ | refine blk_alloc ?_ _)); refine blk_far ?_ NB101_111.out _; (with_reducible repeat (first | refine blk_drewN ?_ _ | refine blk_drew ?_ | refine blk_alloc ?_ _)); refine blk_far ?_ NB101_111.out _; (with_reducible repeat (first | refine blk_drewN ?_ _ | refine blk_drew ?_ | refine blk_alloc ?_ _)); exact BK101.out⟩
              have n2_ : Aside0 (((((w40.setCell ⟨gb111, 0, none⟩ (.int .i64 ((rd_T24 l0 x49_3).f0))).setCell ⟨gb111, 1, none⟩ (.int .i64 ((rd_T24 l0 x49_3).f1))).setCell ⟨gb111, 2, none⟩ (.bool ((rd_T24 l0 x49_3).f2))).setCell ⟨gb111, 3, none⟩ (.bool ((rd_T24 l0 x49_3).f3))).heap[gb111]? = some (.cells #[.int .i64 ((rd_T24 l0 x49_3).f0), .int .i64 ((rd_T24 l0 x49_3).f1), .bool ((rd_T24 l0 x49_3).f2), .bool ((rd_T24 l0 x49_3).f3)] 24 (0, 0))) := ⟨by (with_reducible repeat (first | refine blk_drewN ?_ _ | refine blk_drew ?_ | refine blk_alloc ?_ _)); refine blk_put (cs := #[.int .i64 ((rd_T24 l0 x49_3).f0), .int .i64 ((rd_T24 l0 x49_3).f1), .bool ((rd_T24 l0 x49_3).f2), .bool false]) ?_ 3 _ rfl; (with_reducible repeat (first | refine blk_drewN ?_ _ | refine blk_drew ?_ | refine blk_alloc ?_ _)); refine blk_put (cs := #[.int .i64 ((rd_T24 l0 x49_3).f0), .int .i64 ((rd_T24 l0 x49_3).f1), .bool false, .bool false]) ?_ 2 _ rfl; (with_reducible repeat (first | refine blk_drewN ?_ _ | refine blk_drew ?_ | refine blk_alloc ?_ _)); refine blk_put (cs := #[.int .i64 ((rd_T24 l0 x49_3).f0), .int .i64 0, .bool false, .bool false]) ?_ 1 _ rfl; (with_reducible repeat (first | refine blk_drewN ?_ _ | refine blk_drew ?_ | refine blk_alloc ?_ _)); refine blk_put (cs := #[.int .i64 0, .int .i64 0, .bool false, .bool false]) ?_ 0 _ rfl; (with_reducible repeat (first | refine blk_drewN ?_ _ | refine blk_drew ?_ | refine blk_alloc ?_ _)); exact BK111.out⟩
              have n3_ : Aside0 (Below w.heap.size w ((((w40.setCell ⟨gb111, 0, none⟩ (.int .i64 ((rd_T24 l0 x49_3).f0))).setCell ⟨gb111, 1, none⟩ (.int .i64 ((rd_T24 l0 x49_3).f1))).setCell ⟨gb111, 2, none⟩ (.bool ((rd_T24 l0 x49_3).f2))).setCell ⟨gb111, 3, none⟩ (.bool ((rd_T24 l0 x49_3).f3)))) := ⟨bs2 HB.out GE101.out GE111.out⟩
              (try clear HO_12)
              (try clear BK101)
              (try clear BK111)
              (try clear HB)
              generalize ((((w40.setCell ⟨gb111, 0, none⟩ (.int .i64 ((rd_T24 l0 x49_3).f0))).setCell ⟨gb111, 1, none⟩ (.int .i64 ((rd_T24 l0 x49_3).f1))).setCell ⟨gb111, 2, none⟩ (.bool ((rd_T24 l0 x49_3).f2))).setCell ⟨gb111, 3, none⟩ (.bool ((rd_T24 l0 x49_3).f3))) = w43 at n0_ n1_ n2_ n3_ ⊢
              have HO_12 := n0_
              have BK101 := n1_
              have BK111 := n2_
              have HB := n3_
              clear n0_ n1_ n2_ n3_
              replace HO_12 := Aside0.mk (Kd.R_drew HO_12.out)
              replace BK101 := Aside0.mk (blk_drew BK101.out)
              replace BK111 := Aside0.mk (blk_drew BK111.out)
              replace HB := Aside0.mk (below_drew1 HB.out)
              refine start_ (n := 12) (S := fun w' => w'.cell? ⟨gb111, 0, none⟩ = some (.int .i64 ((rd_T24 l0 x49_3).f0)) ∧ w'.cell? ⟨gb111, 1, none⟩ = some (.int .i64 ((rd_T24 l0 x49_3).f1)) ∧ w'.cell? ⟨gb111, 2, none⟩ = some (.bool ((rd_T24 l0 x49_3).f2)) ∧ w'.cell? ⟨gb111, 3, none⟩ = some (.bool ((rd_T24 l0 x49_3).f3)) ∧ w'.cell? ⟨gb101, 0, none⟩ = some (.int .i64 a1) ∧ w'.cell? ⟨gb101, 1, none⟩ = some (.int .i64 a2) ∧ w'.cell? ⟨gb101, 2, none⟩ = some (.bool false) ∧ w'.cell? ⟨gb101, 3, none⟩ = some (.bool false)) (ds := []) (lb 12 0) zk rfl rfl ⟨(blk_cell BK111.out 0).trans rfl, (blk_cell BK111.out 1).trans rfl, (blk_cell BK111.out 2).trans rfl, (blk_cell BK111.out 3).trans rfl, (blk_cell BK101.out 0).trans rfl, (blk_cell BK101.out 1).trans rfl, (blk_cell BK101.out 2).trans rfl, (blk_cell BK101.out 3).trans rfl⟩ (fun hHeld => ?_); refine with_tabW impl_AreasSet.tab13 impl_AreasSet.bits13 (fun HT_ HW_ => ?_)
              generalize w43.drew = w44 at HO_12 BK101 BK111 HB hHeld ⊢
              refine pz 0 (some 53) (lb 12 1) rfl rfl HT_.out ?_
              refine pz 2 (some 55) (lb 12 5) rfl rfl HT_.out ?_
              refine tz 1 (some 54) (lb 12 7) rfl rfl HT_.out HW_.out hHeld ?_
              refine tz 3 (some 56) (lb 12 15) rfl rfl HT_.out HW_.out hHeld ?_
              refine pz 4 (some 57) (lb 12 31) rfl rfl HT_.out ?_
              refine tz 5 (some 58) (lb 12 63) rfl rfl HT_.out HW_.out hHeld ?_
              refine tz 7 (some 60) (lb 12 191) rfl rfl HT_.out HW_.out hHeld ?_
              refine one_ (i := 6) (N := some 59) (lb 12 255) rfl rfl (one_of HT_.out zk) (by decide) (fun K hK => ?_)
              refine goes_ Try.func50 zk rfl #[.agg #[.int .i64 ((rd_T24 l0 x49_3).f0), .int .i64 ((rd_T24 l0 x49_3).f1), .bool ((rd_T24 l0 x49_3).f2), .bool ((rd_T24 l0 x49_3).f3)]] (by rfl) rfl rfl zm ?_
              with_reducible refine (impl_Area_end.calls ((rd_T24 l0 x49_3).f0) ((rd_T24 l0 x49_3).f1) ((rd_T24 l0 x49_3).f2) ((rd_T24 l0 x49_3).f3) t112 _ A34.out).mono ?_
              rintro e w45 ⟨rfl, hb⟩
              refine ⟨_, rfl, ?_⟩
              replace HO_12 := Aside0.mk (Kd.R_below (rz HO_12.out) hb)
              replace BK101 := Aside0.mk (blk_below (g := gb101) (o := .cells #[.int .i64 a1, .int .i64 a2, .bool false, .bool false] 24 (0, 0)) (kz BK101.out) hb)
              replace BK111 := Aside0.mk (blk_below (g := gb111) (o := .cells #[.int .i64 ((rd_T24 l0 x49_3).f0), .int .i64 ((rd_T24 l0 x49_3).f1), .bool ((rd_T24 l0 x49_3).f2), .bool ((rd_T24 l0 x49_3).f3)] 24 (0, 0)) (kz BK111.out) hb)
              replace HB := Aside0.mk (below_step (bs2 HB.out GE101.out GE111.out) hb)
              (try clear hb)
              refine hK.out _ _ ⟨(blk_cell BK111.out 0).trans rfl, (blk_cell BK111.out 1).trans rfl, (blk_cell BK111.out 2).trans rfl, (blk_cell BK111.out 3).trans rfl, (blk_cell BK101.out 0).trans rfl, (blk_cell BK101.out 1).trans rfl, (blk_cell BK101.out 2).trans rfl, (blk_cell BK101.out 3).trans rfl⟩ (fun hHeld => ?_)
              clear hK K
              refine norm_ (a' := ?_) ?_ ?_
              rotate_left
              ·
               show Act.put _ (some 59) _ = _
               simp only [Act.put, List.setIfInBounds_toArray, List.set_cons_zero, List.set_cons_succ, i64_w, i32_w]
               rfl
              refine one_ (i := 8) (N := some 61) (lb 12 511) rfl rfl (one_of HT_.out zk) (by decide) (fun K hK => ?_)
              refine goes_ Try.func50 zk rfl #[.agg #[.int .i64 a1, .int .i64 a2, .bool false, .bool false]] (by rfl) rfl rfl zm ?_
              with_reducible refine (impl_Area_end.calls a1 a2 false false t113 _ A35.out).mono ?_
              rintro e w46 ⟨rfl, hb⟩
              refine ⟨_, rfl, ?_⟩
              replace HO_12 := Aside0.mk (Kd.R_below (rz HO_12.out) hb)
              replace BK101 := Aside0.mk (blk_below (g := gb101) (o := .cells #[.int .i64 a1, .int .i64 a2, .bool false, .bool false] 24 (0, 0)) (kz BK101.out) hb)
              replace BK111 := Aside0.mk (blk_below (g := gb111) (o := .cells #[.int .i64 ((rd_T24 l0 x49_3).f0), .int .i64 ((rd_T24 l0 x49_3).f1), .bool ((rd_T24 l0 x49_3).f2), .bool ((rd_T24 l0 x49_3).f3)] 24 (0, 0)) (kz BK111.out) hb)
              replace HB := Aside0.mk (below_step (bs2 HB.out GE101.out GE111.out) hb)
              (try clear hb)
              refine hK.out _ _ ⟨(blk_cell BK111.out 0).trans rfl, (blk_cell BK111.out 1).trans rfl, (blk_cell BK111.out 2).trans rfl, (blk_cell BK111.out 3).trans rfl, (blk_cell BK101.out 0).trans rfl, (blk_cell BK101.out 1).trans rfl, (blk_cell BK101.out 2).trans rfl, (blk_cell BK101.out 3).trans rfl⟩ (fun hHeld => ?_)
              clear hK K
              refine norm_ (a' := ?_) ?_ ?_
              rotate_left
              ·
               show Act.put _ (some 61) _ = _
               simp only [Act.put, List.setIfInBounds_toArray, List.set_cons_zero, List.set_cons_succ, i64_w, i32_w]
               rfl
              refine pz 9 (some 62) (lb 12 1023) rfl rfl HT_.out ?_
              refine pz 10 (some 16) (lb 12 2047) rfl rfl HT_.out ?_
              refine pz 11 (some 17) (lb 12 4095) rfl rfl HT_.out ?_
              refine done_ (done_of HT_.out zk) ?_
              have hcz47_0 : w46.cell? ⟨gb111, 0, none⟩ = some (.int .i64 ((rd_T24 l0 x49_3).f0)) := (blk_cell BK111.out 0).trans rfl
              have hcz47_1 : w46.cell? ⟨gb111, 1, none⟩ = some (.int .i64 ((rd_T24 l0 x49_3).f1)) := (blk_cell BK111.out 1).trans rfl
              have hcz47_2 : w46.cell? ⟨gb111, 2, none⟩ = some (.bool ((rd_T24 l0 x49_3).f2)) := (blk_cell BK111.out 2).trans rfl
              have hcz47_3 : w46.cell? ⟨gb111, 3, none⟩ = some (.bool ((rd_T24 l0 x49_3).f3)) := (blk_cell BK111.out 3).trans rfl
              have hfz47_0 := blk_frozen BK111.out 0
              have hfz47_1 := blk_frozen BK111.out 1
              have hfz47_2 := blk_frozen BK111.out 2
              have hfz47_3 := blk_frozen BK111.out 3
              obtain ⟨Ao48, co48, eo48⟩ := Kd.R_slice HO_12.out
              subst eo48
              try go_wp2_with (first | ((with_reducible refine gate_callee (f := 41) rfl ?_); refine goesL_ (some 80) rfl rfl Try.func41 zk rfl #[.slice Ao48 x12_3.length co48, .agg #[.int .i64 ji33, .int .i64 (wrap64 ((ji36) - (ji33))), .bool a3, .bool ((rd_T24 l0 x49_3).f3)]] rfl (by (try simp only [List.map_toArray, List.map_cons, List.map_nil]); first | done | (simp only [hji33, hji36]; rfl) | rfl | (simp only [List.length_drop, List.length_take]; rfl)) ?_; (with_reducible refine (impl_AreasAdd.calls k3 _ _ x12_3 ji33 (wrap64 ((ji36) - (ji33))) a3 ((rd_T24 l0 x49_3).f3) t114 t117 _ ?side1 ?side2 A39.out).mono ?_); (case side1 => refine (Kd.R_reads' (e := 24) (base := w.heap.size) (ok := fun k_ => (k_ ≠ gb101 ∧ k_ ≠ gb111)) (n := x12_3.length) (c := co48) ?_).2.2; exact (by (with_reducible repeat (first | apply Kd.R_alloc | apply Kd.R_drewN | apply Kd.R_drew)); exact (Kd.R_mono (Kd.R_far (p := ⟨gb111, 2, none⟩) (Kd.R_far (p := ⟨gb111, 1, none⟩) (Kd.R_far (p := ⟨gb111, 0, none⟩) (Kd.R_mono HO_12.out (fun k_ hk => (⟨hk, hk.2⟩ : _ ∧ k_ ≠ gb111))) (fun _ hk => hk.2) (.int .i64 ji33)) (fun _ hk => hk.2) (.int .i64 (wrap64 ((ji36) - (ji33))))) (fun _ hk => hk.2) (.bool a3)) (fun _ h_ => h_.1)))); (case side2 => exact (Kd.R_reads' HO_12.out).2.1); rintro e w49 ⟨v115, rfl, ho0, hb⟩; refine ⟨_, rfl, ?_⟩; have HO116 := Aside0.mk (Kd.R_lower (Kd.R_newB (Kd.R_newB (Kd.R_new' ho0 (Kd.R_lt (by (with_reducible repeat (first | apply Kd.R_alloc | apply Kd.R_drewN | apply Kd.R_drew)); exact (Kd.R_mono (Kd.R_far (p := ⟨gb111, 2, none⟩) (Kd.R_far (p := ⟨gb111, 1, none⟩) (Kd.R_far (p := ⟨gb111, 0, none⟩) (Kd.R_mono HO_12.out (fun k_ hk => (⟨hk, hk.2⟩ : _ ∧ k_ ≠ gb111))) (fun _ hk => hk.2) (.int .i64 ji33)) (fun _ hk => hk.2) (.int .i64 (wrap64 ((ji36) - (ji33))))) (fun _ hk => hk.2) (.bool a3)) (fun _ h_ => h_.1))))) (g := gb101) (o := .cells #[.int .i64 a1, .int .i64 a2, .bool false, .bool false] 24 (0, 0)) (by (with_reducible repeat (first | refine blk_drewN ?_ _ | refine blk_drew ?_ | refine blk_alloc ?_ _)); refine blk_far ?_ NB101_111.out _; (with_reducible repeat (first | refine blk_drewN ?_ _ | refine blk_drew ?_ | refine blk_alloc ?_ _)); refine blk_far ?_ NB101_111.out _; (with_reducible repeat (first | refine blk_drewN ?_ _ | refine blk_drew ?_ | refine blk_alloc ?_ _)); refine blk_far ?_ NB101_111.out _; (with_reducible repeat (first | refine blk_drewN ?_ _ | refine blk_drew ?_ | refine blk_alloc ?_ _)); exact BK101.out)) (g := gb111) (o := .cells #[.int .i64 ji33, .int .i64 (wrap64 ((ji36) - (ji33))), .bool a3, .bool ((rd_T24 l0 x49_3).f3)] 24 (0, 0)) (by (with_reducible repeat (first | refine blk_drewN ?_ _ | refine blk_drew ?_ | refine blk_alloc ?_ _)); refine blk_put (cs := #[.int .i64 ji33, .int .i64 (wrap64 ((ji36) - (ji33))), .bool ((rd_T24 l0 x49_3).f2), .bool ((rd_T24 l0 x49_3).f3)]) ?_ 2 _ rfl; (with_reducible repeat (first | refine blk_drewN ?_ _ | refine blk_drew ?_ | refine blk_alloc ?_ _)); refine blk_put (cs := #[.int .i64 ji33, .int .i64 ((rd_T24 l0 x49_3).f1), .bool ((rd_T24 l0 x49_3).f2), .bool ((rd_T24 l0 x49_3).f3)]) ?_ 1 _ rfl; (with_reducible repeat (first | refine blk_drewN ?_ _ | refine blk_drew ?_ | refine blk_alloc ?_ _)); refine blk_put (cs := #[.int .i64 ((rd_T24 l0 x49_3).f0), .int .i64 ((rd_T24 l0 x49_3).f1), .bool ((rd_T24 l0 x49_3).f2), .bool ((rd_T24 l0 x49_3).f3)]) ?_ 0 _ rfl; (with_reducible repeat (first | refine blk_drewN ?_ _ | refine blk_drew ?_ | refine blk_alloc ?_ _)); exact BK111.out)) (below_size (bs2 HB.out GE101.out GE111.out))); replace HO_12 := Aside0.mk (Kd.R_elder' (by (with_reducible repeat (first | apply Kd.R_alloc | apply Kd.R_drewN | apply Kd.R_drew)); exact (Kd.R_mono (Kd.R_far (p := ⟨gb111, 2, none⟩) (Kd.R_far (p := ⟨gb111, 1, none⟩) (Kd.R_far (p := ⟨gb111, 0, none⟩) (Kd.R_mono HO_12.out (fun k_ hk => (⟨hk, hk.2⟩ : _ ∧ k_ ≠ gb111))) (fun _ hk => hk.2) (.int .i64 ji33)) (fun _ hk => hk.2) (.int .i64 (wrap64 ((ji36) - (ji33))))) (fun _ hk => hk.2) (.bool a3)) (fun _ h_ => h_.1))) (Kd.R_base ho0) hb); replace BK101 := Aside0.mk (blk_below (g := gb101) (o := .cells #[.int .i64 a1, .int .i64 a2, .bool false, .bool false] 24 (0, 0)) (by (with_reducible repeat (first | refine blk_drewN ?_ _ | refine blk_drew ?_ | refine blk_alloc ?_ _)); refine blk_far ?_ NB101_111.out _; (with_reducible repeat (first | refine blk_drewN ?_ _ | refine blk_drew ?_ | refine blk_alloc ?_ _)); refine blk_far ?_ NB101_111.out _; (with_reducible repeat (first | refine blk_drewN ?_ _ | refine blk_drew ?_ | refine blk_alloc ?_ _)); refine blk_far ?_ NB101_111.out _; (with_reducible repeat (first | refine blk_drewN ?_ _ | refine blk_drew ?_ | refine blk_alloc ?_ _)); exact BK101.out) hb); replace BK111 := Aside0.mk (blk_below (g := gb111) (o := .cells #[.int .i64 ji33, .int .i64 (wrap64 ((ji36) - (ji33))), .bool a3, .bool ((rd_T24 l0 x49_3).f3)] 24 (0, 0)) (by (with_reducible repeat (first | refine blk_drewN ?_ _ | refine blk_drew ?_ | refine blk_alloc ?_ _)); refine blk_put (cs := #[.int .i64 ji33, .int .i64 (wrap64 ((ji36) - (ji33))), .bool ((rd_T24 l0 x49_3).f2), .bool ((rd_T24 l0 x49_3).f3)]) ?_ 2 _ rfl; (with_reducible repeat (first | refine blk_drewN ?_ _ | refine blk_drew ?_ | refine blk_alloc ?_ _)); refine blk_put (cs := #[.int .i64 ji33, .int .i64 ((rd_T24 l0 x49_3).f1), .bool ((rd_T24 l0 x49_3).f2), .bool ((rd_T24 l0 x49_3).f3)]) ?_ 1 _ rfl; (with_reducible repeat (first | refine blk_drewN ?_ _ | refine blk_drew ?_ | refine blk_alloc ?_ _)); refine blk_put (cs := #[.int .i64 ((rd_T24 l0 x49_3).f0), .int .i64 ((rd_T24 l0 x49_3).f1), .bool ((rd_T24 l0 x49_3).f2), .bool ((rd_T24 l0 x49_3).f3)]) ?_ 0 _ rfl; (with_reducible repeat (first | refine blk_drewN ?_ _ | refine blk_drew ?_ | refine blk_alloc ?_ _)); exact BK111.out) hb); replace HB := Aside0.mk (below_step (bs2 HB.out GE101.out GE111.out) hb); (try clear hb); (try clear ho0)))
              go_roundg k3
              case measure => have := HJ4.out; have := HK2.out; have := HK3.out; omega
              case rel => exact ⟨(t114), (t117), (wrap64 (x49_3 + 1)), zr, zr, H', ⟨by have := HJ4.out; have := HK2.out; have := HK3.out; omega⟩, ⟨by (with_reducible repeat (first | apply Kd.R_alloc | apply Kd.R_drewN | apply Kd.R_drew)); exact Kd.R_mono HO116.out (fun _ hk => hk.1.2)⟩, ⟨by (with_reducible repeat (first | refine blk_drewN ?_ _ | refine blk_drew ?_ | refine blk_alloc ?_ _)); exact BK101.out⟩, ⟨bs2 HB.out GE101.out GE111.out⟩⟩
             ·
              rw [if_neg c38] at H
              have c38b0 : decide ((ji33) < (ji36)) = false := decide_eq_false c38
              clear c38
              have H' := Aside0.mk H
              clear H
              have p110 : 0 ≤ (x49_3 : Int) := of_decide_eq_true zs
              have q110 : x49_3 < (l0.length : Int) := of_decide_eq_true zs
              obtain ⟨ad110, e110, hx110_0, hx110_1, hx110_2, hx110_3⟩ := at_T24 HR0.out x49_3 p110 q110
              cases e110
              replace hx110_0 := pw_cell_below HB.out hx110_0
              replace hx110_1 := pw_cell_below HB.out hx110_1
              replace hx110_2 := pw_cell_below HB.out hx110_2
              replace hx110_3 := pw_cell_below HB.out hx110_3
              replace p110 := eq_true p110
              replace q110 := eq_true q110
              try go_wp2_with (first | ((with_reducible refine gate_dst (N := 15) rfl ?_); refine box_event ?hg (N := 15) ?hd (cs := #[.int .i64 0, .int .i64 0, .bool false, .bool false]) (t := 24) ?hr ?_; (case hd => rfl); (case hg => rfl); (case hr => first | (go_simp; done) | (go_simp; rfl)); intro gb111 hg w50 hbox hb; replace HO_12 := Aside0.mk (Kd.R_below (Kd.R_elderB (rz HO_12.out) gb111 (Nat.le_of_eq hg.symm)) hb); have BK111 := Aside0.mk (hbox); have GW111 := Aside0.mk ((by rw [hg]; exact (below_size (bs HB.out GE101.out)) : w.heap.size ≤ gb111)); have GE111 := Aside0.mk ((by rw [hg]; exact (below_size (bs HB.out GE101.out)) : w.heap.size ≤ gb111)); replace HB := Aside0.mk (below_step (bs HB.out GE101.out) hb); have NB101_111 := Aside0.mk ((by rw [hg]; exact Nat.ne_of_lt (blk_lt (g := gb101) (o := .cells #[.int .i64 a1, .int .i64 a2, .bool false, .bool false] 24 (0, 0)) (kz BK101.out)) : gb101 ≠ gb111)); have NB111_101 := Aside0.mk ((by rw [hg]; exact Nat.ne_of_gt (blk_lt (g := gb101) (o := .cells #[.int .i64 a1, .int .i64 a2, .bool false, .bool false] 24 (0, 0)) (kz BK101.out)) : gb111 ≠ gb101)); replace BK101 := Aside0.mk (blk_below (g := gb101) (o := .cells #[.int .i64 a1, .int .i64 a2, .bool false, .bool false] 24 (0, 0)) (kz BK101.out) hb); clear hb hbox hg; have hnb51 := NB111_101.out; have hnc51 := NB101_111.out; have hcz52_0 : w50.cell? ⟨gb111, 0, none⟩ = some (.int .i64 0) := (blk_cell BK111.out 0).trans rfl; have hcz52_1 : w50.cell? ⟨gb111, 1, none⟩ = some (.int .i64 0) := (blk_cell BK111.out 1).trans rfl; have hcz52_2 : w50.cell? ⟨gb111, 2, none⟩ = some (.bool false) := (blk_cell BK111.out 2).trans rfl; have hcz52_3 : w50.cell? ⟨gb111, 3, none⟩ = some (.bool false) := (blk_cell BK111.out 3).trans rfl; have hfz52_0 := blk_frozen BK111.out 0; have hfz52_1 := blk_frozen BK111.out 1; have hfz52_2 := blk_frozen BK111.out 2; have hfz52_3 := blk_frozen BK111.out 3))
              have n0_ : Aside0 (Kd.R k24 24 ((((w50.setCell ⟨gb111, 0, none⟩ (.int .i64 ((rd_T24 l0 x49_3).f0))).setCell ⟨gb111, 1, none⟩ (.int .i64 ((rd_T24 l0 x49_3).f1))).setCell ⟨gb111, 2, none⟩ (.bool ((rd_T24 l0 x49_3).f2))).setCell ⟨gb111, 3, none⟩ (.bool ((rd_T24 l0 x49_3).f3))) w.heap.size (fun k_ => k_ ≠ gb101 ∧ k_ ≠ gb111) u12 x12_3) := ⟨by (with_reducible repeat (first | apply Kd.R_alloc | apply Kd.R_drewN | apply Kd.R_drew)); exact Kd.R_mono (Kd.R_far (p := ⟨gb111, 3, none⟩) (Kd.R_far (p := ⟨gb111, 2, none⟩) (Kd.R_far (p := ⟨gb111, 1, none⟩) (Kd.R_far (p := ⟨gb111, 0, none⟩) (Kd.R_mono HO_12.out (fun k_ hk => (⟨hk, hk.2⟩ : _ ∧ k_ ≠ gb111))) (fun _ hk => hk.2) (.int .i64 ((rd_T24 l0 x49_3).f0))) (fun _ hk => hk.2) (.int .i64 ((rd_T24 l0 x49_3).f1))) (fun _ hk => hk.2) (.bool ((rd_T24 l0 x49_3).f2))) (fun _ hk => hk.2) (.bool ((rd_T24 l0 x49_3).f3))) (fun _ hk => ⟨hk.1.1, hk.1.2⟩)⟩
              have n1_ : Aside0 (((((w50.setCell ⟨gb111, 0, none⟩ (.int .i64 ((rd_T24 l0 x49_3).f0))).setCell ⟨gb111, 1, none⟩ (.int .i64 ((rd_T24 l0 x49_3).f1))).setCell ⟨gb111, 2, none⟩ (.bool ((rd_T24 l0 x49_3).f2))).setCell ⟨gb111, 3, none⟩ (.bool ((rd_T24 l0 x49_3).f3))).heap[gb101]? = some (.cells #[.int .i64 a1, .int .i64 a2, .bool false, .bool false] 24 (0, 0))) := ⟨by (with_reducible repeat (first | refine blk_drewN ?_ _ | refine blk_drew ?_ | refine blk_alloc ?_ _)); refine blk_far ?_ NB101_111.out _; (with_reducible repeat (first | refine blk_drewN ?_ _ | refine blk_drew ?_ | refine blk_alloc ?_ _)); refine blk_far ?_ NB101_111.out _; (with_reducible repeat (first | refine blk_drewN ?_ _ | refine blk_drew ?_ | refine blk_alloc ?_ _)); refine blk_far ?_ NB101_111.out _; (with_reducible repeat (first | refine blk_drewN ?_ _ | refine blk_drew ?_ | refine blk_alloc ?_ _)); refine blk_far ?_ NB101_111.out _; (with_reducible repeat (first | refine blk_drewN ?_ _ | refine blk_drew ?_ | refine blk_alloc ?_ _)); exact BK101.out⟩
              have n2_ : Aside0 (((((w50.setCell ⟨gb111, 0, none⟩ (.int .i64 ((rd_T24 l0 x49_3).f0))).setCell ⟨gb111, 1, none⟩ (.int .i64 ((rd_T24 l0 x49_3).f1))).setCell ⟨gb111, 2, none⟩ (.bool ((rd_T24 l0 x49_3).f2))).setCell ⟨gb111, 3, none⟩ (.bool ((rd_T24 l0 x49_3).f3))).heap[gb111]? = some (.cells #[.int .i64 ((rd_T24 l0 x49_3).f0), .int .i64 ((rd_T24 l0 x49_3).f1), .bool ((rd_T24 l0 x49_3).f2), .bool ((rd_T24 l0 x49_3).f3)] 24 (0, 0))) := ⟨by (with_reducible repeat (first | refine blk_drewN ?_ _ | refine blk_drew ?_ | refine blk_alloc ?_ _)); refine blk_put (cs := #[.int .i64 ((rd_T24 l0 x49_3).f0), .int .i64 ((rd_T24 l0 x49_3).f1), .bool ((rd_T24 l0 x49_3).f2), .bool false]) ?_ 3 _ rfl; (with_reducible repeat (first | refine blk_drewN ?_ _ | refine blk_drew ?_ | refine blk_alloc ?_ _)); refine blk_put (cs := #[.int .i64 ((rd_T24 l0 x49_3).f0), .int .i64 ((rd_T24 l0 x49_3).f1), .bool false, .bool false]) ?_ 2 _ rfl; (with_reducible repeat (first | refine blk_drewN ?_ _ | refine blk_drew ?_ | refine blk_alloc ?_ _)); refine blk_put (cs := #[.int .i64 ((rd_T24 l0 x49_3).f0), .int .i64 0, .bool false, .bool false]) ?_ 1 _ rfl; (with_reducible repeat (first | refine blk_drewN ?_ _ | refine blk_drew ?_ | refine blk_alloc ?_ _)); refine blk_put (cs := #[.int .i64 0, .int .i64 0, .bool false, .bool false]) ?_ 0 _ rfl; (with_reducible repeat (first | refine blk_drewN ?_ _ | refine blk_drew ?_ | refine blk_alloc ?_ _)); exact BK111.out⟩
              have n3_ : Aside0 (Below w.heap.size w ((((w50.setCell ⟨gb111, 0, none⟩ (.int .i64 ((rd_T24 l0 x49_3).f0))).setCell ⟨gb111, 1, none⟩ (.int .i64 ((rd_T24 l0 x49_3).f1))).setCell ⟨gb111, 2, none⟩ (.bool ((rd_T24 l0 x49_3).f2))).setCell ⟨gb111, 3, none⟩ (.bool ((rd_T24 l0 x49_3).f3)))) := ⟨bs2 HB.out GE101.out GE111.out⟩
              (try clear HO_12)
              (try clear BK101)
              (try clear BK111)
              (try clear HB)
              generalize ((((w50.setCell ⟨gb111, 0, none⟩ (.int .i64 ((rd_T24 l0 x49_3).f0))).setCell ⟨gb111, 1, none⟩ (.int .i64 ((rd_T24 l0 x49_3).f1))).setCell ⟨gb111, 2, none⟩ (.bool ((rd_T24 l0 x49_3).f2))).setCell ⟨gb111, 3, none⟩ (.bool ((rd_T24 l0 x49_3).f3))) = w53 at n0_ n1_ n2_ n3_ ⊢
              have HO_12 := n0_
              have BK101 := n1_
              have BK111 := n2_
              have HB := n3_
              clear n0_ n1_ n2_ n3_
              replace HO_12 := Aside0.mk (Kd.R_drew HO_12.out)
              replace BK101 := Aside0.mk (blk_drew BK101.out)
              replace BK111 := Aside0.mk (blk_drew BK111.out)
              replace HB := Aside0.mk (below_drew1 HB.out)
              refine start_ (n := 12) (S := fun w' => w'.cell? ⟨gb111, 0, none⟩ = some (.int .i64 ((rd_T24 l0 x49_3).f0)) ∧ w'.cell? ⟨gb111, 1, none⟩ = some (.int .i64 ((rd_T24 l0 x49_3).f1)) ∧ w'.cell? ⟨gb111, 2, none⟩ = some (.bool ((rd_T24 l0 x49_3).f2)) ∧ w'.cell? ⟨gb111, 3, none⟩ = some (.bool ((rd_T24 l0 x49_3).f3)) ∧ w'.cell? ⟨gb101, 0, none⟩ = some (.int .i64 a1) ∧ w'.cell? ⟨gb101, 1, none⟩ = some (.int .i64 a2) ∧ w'.cell? ⟨gb101, 2, none⟩ = some (.bool false) ∧ w'.cell? ⟨gb101, 3, none⟩ = some (.bool false)) (ds := []) (lb 12 0) zk rfl rfl ⟨(blk_cell BK111.out 0).trans rfl, (blk_cell BK111.out 1).trans rfl, (blk_cell BK111.out 2).trans rfl, (blk_cell BK111.out 3).trans rfl, (blk_cell BK101.out 0).trans rfl, (blk_cell BK101.out 1).trans rfl, (blk_cell BK101.out 2).trans rfl, (blk_cell BK101.out 3).trans rfl⟩ (fun hHeld => ?_); refine with_tabW impl_AreasSet.tab13 impl_AreasSet.bits13 (fun HT_ HW_ => ?_)
              generalize w53.drew = w54 at HO_12 BK101 BK111 HB hHeld ⊢
              refine pz 0 (some 53) (lb 12 1) rfl rfl HT_.out ?_
              refine pz 2 (some 55) (lb 12 5) rfl rfl HT_.out ?_
              refine tz 1 (some 54) (lb 12 7) rfl rfl HT_.out HW_.out hHeld ?_
              refine tz 3 (some 56) (lb 12 15) rfl rfl HT_.out HW_.out hHeld ?_
              refine pz 4 (some 57) (lb 12 31) rfl rfl HT_.out ?_
              refine tz 5 (some 58) (lb 12 63) rfl rfl HT_.out HW_.out hHeld ?_
              refine tz 7 (some 60) (lb 12 191) rfl rfl HT_.out HW_.out hHeld ?_
              refine one_ (i := 6) (N := some 59) (lb 12 255) rfl rfl (one_of HT_.out zk) (by decide) (fun K hK => ?_)
              refine goes_ Try.func50 zk rfl #[.agg #[.int .i64 ((rd_T24 l0 x49_3).f0), .int .i64 ((rd_T24 l0 x49_3).f1), .bool ((rd_T24 l0 x49_3).f2), .bool ((rd_T24 l0 x49_3).f3)]] (by rfl) rfl rfl zm ?_
              with_reducible refine (impl_Area_end.calls ((rd_T24 l0 x49_3).f0) ((rd_T24 l0 x49_3).f1) ((rd_T24 l0 x49_3).f2) ((rd_T24 l0 x49_3).f3) t112 _ A34.out).mono ?_
              rintro e w55 ⟨rfl, hb⟩
              refine ⟨_, rfl, ?_⟩
              replace HO_12 := Aside0.mk (Kd.R_below (rz HO_12.out) hb)
              replace BK101 := Aside0.mk (blk_below (g := gb101) (o := .cells #[.int .i64 a1, .int .i64 a2, .bool false, .bool false] 24 (0, 0)) (kz BK101.out) hb)
              replace BK111 := Aside0.mk (blk_below (g := gb111) (o := .cells #[.int .i64 ((rd_T24 l0 x49_3).f0), .int .i64 ((rd_T24 l0 x49_3).f1), .bool ((rd_T24 l0 x49_3).f2), .bool ((rd_T24 l0 x49_3).f3)] 24 (0, 0)) (kz BK111.out) hb)
              replace HB := Aside0.mk (below_step (bs2 HB.out GE101.out GE111.out) hb)
              (try clear hb)
              refine hK.out _ _ ⟨(blk_cell BK111.out 0).trans rfl, (blk_cell BK111.out 1).trans rfl, (blk_cell BK111.out 2).trans rfl, (blk_cell BK111.out 3).trans rfl, (blk_cell BK101.out 0).trans rfl, (blk_cell BK101.out 1).trans rfl, (blk_cell BK101.out 2).trans rfl, (blk_cell BK101.out 3).trans rfl⟩ (fun hHeld => ?_)
              clear hK K
              refine norm_ (a' := ?_) ?_ ?_
              rotate_left
              ·
               show Act.put _ (some 59) _ = _
               simp only [Act.put, List.setIfInBounds_toArray, List.set_cons_zero, List.set_cons_succ, i64_w, i32_w]
               rfl
              refine one_ (i := 8) (N := some 61) (lb 12 511) rfl rfl (one_of HT_.out zk) (by decide) (fun K hK => ?_)
              refine goes_ Try.func50 zk rfl #[.agg #[.int .i64 a1, .int .i64 a2, .bool false, .bool false]] (by rfl) rfl rfl zm ?_
              with_reducible refine (impl_Area_end.calls a1 a2 false false t113 _ A35.out).mono ?_
              rintro e w56 ⟨rfl, hb⟩
              refine ⟨_, rfl, ?_⟩
              replace HO_12 := Aside0.mk (Kd.R_below (rz HO_12.out) hb)
              replace BK101 := Aside0.mk (blk_below (g := gb101) (o := .cells #[.int .i64 a1, .int .i64 a2, .bool false, .bool false] 24 (0, 0)) (kz BK101.out) hb)
              replace BK111 := Aside0.mk (blk_below (g := gb111) (o := .cells #[.int .i64 ((rd_T24 l0 x49_3).f0), .int .i64 ((rd_T24 l0 x49_3).f1), .bool ((rd_T24 l0 x49_3).f2), .bool ((rd_T24 l0 x49_3).f3)] 24 (0, 0)) (kz BK111.out) hb)
              replace HB := Aside0.mk (below_step (bs2 HB.out GE101.out GE111.out) hb)
              (try clear hb)
              refine hK.out _ _ ⟨(blk_cell BK111.out 0).trans rfl, (blk_cell BK111.out 1).trans rfl, (blk_cell BK111.out 2).trans rfl, (blk_cell BK111.out 3).trans rfl, (blk_cell BK101.out 0).trans rfl, (blk_cell BK101.out 1).trans rfl, (blk_cell BK101.out 2).trans rfl, (blk_cell BK101.out 3).trans rfl⟩ (fun hHeld => ?_)
              clear hK K
              refine norm_ (a' := ?_) ?_ ?_
              rotate_left
              ·
               show Act.put _ (some 61) _ = _
               simp only [Act.put, List.setIfInBounds_toArray, List.set_cons_zero, List.set_cons_succ, i64_w, i32_w]
               rfl
              refine pz 9 (some 62) (lb 12 1023) rfl rfl HT_.out ?_
              refine pz 10 (some 16) (lb 12 2047) rfl rfl HT_.out ?_
              refine pz 11 (some 17) (lb 12 4095) rfl rfl HT_.out ?_
              refine done_ (done_of HT_.out zk) ?_
              try go_wp2
              go_roundg k3
              case measure => have := HJ4.out; have := HK2.out; have := HK3.out; omega
              case rel => exact ⟨(x12_3), (true), (wrap64 (x49_3 + 1)), zr, zr, H', ⟨by have := HJ4.out; have := HK2.out; have := HK3.out; omega⟩, ⟨by (with_reducible repeat (first | apply Kd.R_alloc | apply Kd.R_drewN | apply Kd.R_drew)); exact Kd.R_mono HO_12.out (fun _ hk => hk.1)⟩, ⟨by (with_reducible repeat (first | refine blk_drewN ?_ _ | refine blk_drew ?_ | refine blk_alloc ?_ _)); exact BK101.out⟩, ⟨bs2 HB.out GE101.out GE111.out⟩⟩
            ·
             replace c37 := Bool.eq_false_iff.mpr c37
             subst c37
             rw [if_neg nf_] at H
             have H' := Aside0.mk H
             clear H
             have p110 : 0 ≤ (x49_3 : Int) := of_decide_eq_true zs
             have q110 : x49_3 < (l0.length : Int) := of_decide_eq_true zs
             obtain ⟨ad110, e110, hx110_0, hx110_1, hx110_2, hx110_3⟩ := at_T24 HR0.out x49_3 p110 q110
             cases e110
             replace hx110_0 := pw_cell_below HB.out hx110_0
             replace hx110_1 := pw_cell_below HB.out hx110_1
             replace hx110_2 := pw_cell_below HB.out hx110_2
             replace hx110_3 := pw_cell_below HB.out hx110_3
             replace p110 := eq_true p110
             replace q110 := eq_true q110
             try go_wp2_with (first | ((with_reducible refine gate_dst (N := 15) rfl ?_); refine box_event ?hg (N := 15) ?hd (cs := #[.int .i64 0, .int .i64 0, .bool false, .bool false]) (t := 24) ?hr ?_; (case hd => rfl); (case hg => rfl); (case hr => first | (go_simp; done) | (go_simp; rfl)); intro gb111 hg w57 hbox hb; replace HO_12 := Aside0.mk (Kd.R_below (Kd.R_elderB (rz HO_12.out) gb111 (Nat.le_of_eq hg.symm)) hb); have BK111 := Aside0.mk (hbox); have GW111 := Aside0.mk ((by rw [hg]; exact (below_size (bs HB.out GE101.out)) : w.heap.size ≤ gb111)); have GE111 := Aside0.mk ((by rw [hg]; exact (below_size (bs HB.out GE101.out)) : w.heap.size ≤ gb111)); replace HB := Aside0.mk (below_step (bs HB.out GE101.out) hb); have NB101_111 := Aside0.mk ((by rw [hg]; exact Nat.ne_of_lt (blk_lt (g := gb101) (o := .cells #[.int .i64 a1, .int .i64 a2, .bool false, .bool false] 24 (0, 0)) (kz BK101.out)) : gb101 ≠ gb111)); have NB111_101 := Aside0.mk ((by rw [hg]; exact Nat.ne_of_gt (blk_lt (g := gb101) (o := .cells #[.int .i64 a1, .int .i64 a2, .bool false, .bool false] 24 (0, 0)) (kz BK101.out)) : gb111 ≠ gb101)); replace BK101 := Aside0.mk (blk_below (g := gb101) (o := .cells #[.int .i64 a1, .int .i64 a2, .bool false, .bool false] 24 (0, 0)) (kz BK101.out) hb); clear hb hbox hg; have hnb58 := NB111_101.out; have hnc58 := NB101_111.out; have hcz59_0 : w57.cell? ⟨gb111, 0, none⟩ = some (.int .i64 0) := (blk_cell BK111.out 0).trans rfl; have hcz59_1 : w57.cell? ⟨gb111, 1, none⟩ = some (.int .i64 0) := (blk_cell BK111.out 1).trans rfl; have hcz59_2 : w57.cell? ⟨gb111, 2, none⟩ = some (.bool false) := (blk_cell BK111.out 2).trans rfl; have hcz59_3 : w57.cell? ⟨gb111, 3, none⟩ = some (.bool false) := (blk_cell BK111.out 3).trans rfl; have hfz59_0 := blk_frozen BK111.out 0; have hfz59_1 := blk_frozen BK111.out 1; have hfz59_2 := blk_frozen BK111.out 2; have hfz59_3 := blk_frozen BK111.out 3))
             have n0_ : Aside0 (Kd.R k24 24 ((((w57.setCell ⟨gb111, 0, none⟩ (.int .i64 ((rd_T24 l0 x49_3).f0))).setCell ⟨gb111, 1, none⟩ (.int .i64 ((rd_T24 l0 x49_3).f1))).setCell ⟨gb111, 2, none⟩ (.bool ((rd_T24 l0 x49_3).f2))).setCell ⟨gb111, 3, none⟩ (.bool ((rd_T24 l0 x49_3).f3))) w.heap.size (fun k_ => k_ ≠ gb101 ∧ k_ ≠ gb111) u12 x12_3) := ⟨by (with_reducible repeat (first | apply Kd.R_alloc | apply Kd.R_drewN | apply Kd.R_drew)); exact Kd.R_mono (Kd.R_far (p := ⟨gb111, 3, none⟩) (Kd.R_far (p := ⟨gb111, 2, none⟩) (Kd.R_far (p := ⟨gb111, 1, none⟩) (Kd.R_far (p := ⟨gb111, 0, none⟩) (Kd.R_mono HO_12.out (fun k_ hk => (⟨hk, hk.2⟩ : _ ∧ k_ ≠ gb111))) (fun _ hk => hk.2) (.int .i64 ((rd_T24 l0 x49_3).f0))) (fun _ hk => hk.2) (.int .i64 ((rd_T24 l0 x49_3).f1))) (fun _ hk => hk.2) (.bool ((rd_T24 l0 x49_3).f2))) (fun _ hk => hk.2) (.bool ((rd_T24 l0 x49_3).f3))) (fun _ hk => ⟨hk.1.1, hk.1.2⟩)⟩
             have n1_ : Aside0 (((((w57.setCell ⟨gb111, 0, none⟩ (.int .i64 ((rd_T24 l0 x49_3).f0))).setCell ⟨gb111, 1, none⟩ (.int .i64 ((rd_T24 l0 x49_3).f1))).setCell ⟨gb111, 2, none⟩ (.bool ((rd_T24 l0 x49_3).f2))).setCell ⟨gb111, 3, none⟩ (.bool ((rd_T24 l0 x49_3).f3))).heap[gb101]? = some (.cells #[.int .i64 a1, .int .i64 a2, .bool false, .bool false] 24 (0, 0))) := ⟨by (with_reducible repeat (first | refine blk_drewN ?_ _ | refine blk_drew ?_ | refine blk_alloc ?_ _)); refine blk_far ?_ NB101_111.out _; (with_reducible repeat (first | refine blk_drewN ?_ _ | refine blk_drew ?_ | refine blk_alloc ?_ _)); refine blk_far ?_ NB101_111.out _; (with_reducible repeat (first | refine blk_drewN ?_ _ | refine blk_drew ?_ | refine blk_alloc ?_ _)); refine blk_far ?_ NB101_111.out _; (with_reducible repeat (first | refine blk_drewN ?_ _ | refine blk_drew ?_ | refine blk_alloc ?_ _)); refine blk_far ?_ NB101_111.out _; (with_reducible repeat (first | refine blk_drewN ?_ _ | refine blk_drew ?_ | refine blk_alloc ?_ _)); exact BK101.out⟩
             have n2_ : Aside0 (((((w57.setCell ⟨gb111, 0, none⟩ (.int .i64 ((rd_T24 l0 x49_3).f0))).setCell ⟨gb111, 1, none⟩ (.int .i64 ((rd_T24 l0 x49_3).f1))).setCell ⟨gb111, 2, none⟩ (.bool ((rd_T24 l0 x49_3).f2))).setCell ⟨gb111, 3, none⟩ (.bool ((rd_T24 l0 x49_3).f3))).heap[gb111]? = some (.cells #[.int .i64 ((rd_T24 l0 x49_3).f0), .int .i64 ((rd_T24 l0 x49_3).f1), .bool ((rd_T24 l0 x49_3).f2), .bool ((rd_T24 l0 x49_3).f3)] 24 (0, 0))) := ⟨by (with_reducible repeat (first | refine blk_drewN ?_ _ | refine blk_drew ?_ | refine blk_alloc ?_ _)); refine blk_put (cs := #[.int .i64 ((rd_T24 l0 x49_3).f0), .int .i64 ((rd_T24 l0 x49_3).f1), .bool ((rd_T24 l0 x49_3).f2), .bool false]) ?_ 3 _ rfl; (with_reducible repeat (first | refine blk_drewN ?_ _ | refine blk_drew ?_ | refine blk_alloc ?_ _)); refine blk_put (cs := #[.int .i64 ((rd_T24 l0 x49_3).f0), .int .i64 ((rd_T24 l0 x49_3).f1), .bool false, .bool false]) ?_ 2 _ rfl; (with_reducible repeat (first | refine blk_drewN ?_ _ | refine blk_drew ?_ | refine blk_alloc ?_ _)); refine blk_put (cs := #[.int .i64 ((rd_T24 l0 x49_3).f0), .int .i64 0, .bool false, .bool false]) ?_ 1 _ rfl; (with_reducible repeat (first | refine blk_drewN ?_ _ | refine blk_drew ?_ | refine blk_alloc ?_ _)); refine blk_put (cs := #[.int .i64 0, .int .i64 0, .bool false, .bool false]) ?_ 0 _ rfl; (with_reducible repeat (first | refine blk_drewN ?_ _ | refine blk_drew ?_ | refine blk_alloc ?_ _)); exact BK111.out⟩
             have n3_ : Aside0 (Below w.heap.size w ((((w57.setCell ⟨gb111, 0, none⟩ (.int .i64 ((rd_T24 l0 x49_3).f0))).setCell ⟨gb111, 1, none⟩ (.int .i64 ((rd_T24 l0 x49_3).f1))).setCell ⟨gb111, 2, none⟩ (.bool ((rd_T24 l0 x49_3).f2))).setCell ⟨gb111, 3, none⟩ (.bool ((rd_T24 l0 x49_3).f3)))) := ⟨bs2 HB.out GE101.out GE111.out⟩
             (try clear HO_12)
             (try clear BK101)
             (try clear BK111)
             (try clear HB)
             generalize ((((w57.setCell ⟨gb111, 0, none⟩ (.int .i64 ((rd_T24 l0 x49_3).f0))).setCell ⟨gb111, 1, none⟩ (.int .i64 ((rd_T24 l0 x49_3).f1))).setCell ⟨gb111, 2, none⟩ (.bool ((rd_T24 l0 x49_3).f2))).setCell ⟨gb111, 3, none⟩ (.bool ((rd_T24 l0 x49_3).f3))) = w60 at n0_ n1_ n2_ n3_ ⊢
             have HO_12 := n0_
             have BK101 := n1_
             have BK111 := n2_
             have HB := n3_
             clear n0_ n1_ n2_ n3_
             replace HO_12 := Aside0.mk (Kd.R_drew HO_12.out)
             replace BK101 := Aside0.mk (blk_drew BK101.out)
             replace BK111 := Aside0.mk (blk_drew BK111.out)
             replace HB := Aside0.mk (below_drew1 HB.out)
             refine start_ (n := 12) (S := fun w' => w'.cell? ⟨gb111, 0, none⟩ = some (.int .i64 ((rd_T24 l0 x49_3).f0)) ∧ w'.cell? ⟨gb111, 1, none⟩ = some (.int .i64 ((rd_T24 l0 x49_3).f1)) ∧ w'.cell? ⟨gb111, 2, none⟩ = some (.bool ((rd_T24 l0 x49_3).f2)) ∧ w'.cell? ⟨gb111, 3, none⟩ = some (.bool ((rd_T24 l0 x49_3).f3)) ∧ w'.cell? ⟨gb101, 0, none⟩ = some (.int .i64 a1) ∧ w'.cell? ⟨gb101, 1, none⟩ = some (.int .i64 a2) ∧ w'.cell? ⟨gb101, 2, none⟩ = some (.bool false) ∧ w'.cell? ⟨gb101, 3, none⟩ = some (.bool false)) (ds := []) (lb 12 0) zk rfl rfl ⟨(blk_cell BK111.out 0).trans rfl, (blk_cell BK111.out 1).trans rfl, (blk_cell BK111.out 2).trans rfl, (blk_cell BK111.out 3).trans rfl, (blk_cell BK101.out 0).trans rfl, (blk_cell BK101.out 1).trans rfl, (blk_cell BK101.out 2).trans rfl, (blk_cell BK101.out 3).trans rfl⟩ (fun hHeld => ?_); refine with_tabW impl_AreasSet.tab13 impl_AreasSet.bits13 (fun HT_ HW_ => ?_)
             generalize w60.drew = w61 at HO_12 BK101 BK111 HB hHeld ⊢
             refine pz 0 (some 53) (lb 12 1) rfl rfl HT_.out ?_
             refine pz 2 (some 55) (lb 12 5) rfl rfl HT_.out ?_
             refine tz 1 (some 54) (lb 12 7) rfl rfl HT_.out HW_.out hHeld ?_
             refine tz 3 (some 56) (lb 12 15) rfl rfl HT_.out HW_.out hHeld ?_
             refine pz 4 (some 57) (lb 12 31) rfl rfl HT_.out ?_
             refine tz 5 (some 58) (lb 12 63) rfl rfl HT_.out HW_.out hHeld ?_
             refine tz 7 (some 60) (lb 12 191) rfl rfl HT_.out HW_.out hHeld ?_
             refine one_ (i := 6) (N := some 59) (lb 12 255) rfl rfl (one_of HT_.out zk) (by decide) (fun K hK => ?_)
             refine goes_ Try.func50 zk rfl #[.agg #[.int .i64 ((rd_T24 l0 x49_3).f0), .int .i64 ((rd_T24 l0 x49_3).f1), .bool ((rd_T24 l0 x49_3).f2), .bool ((rd_T24 l0 x49_3).f3)]] (by rfl) rfl rfl zm ?_
             with_reducible refine (impl_Area_end.calls ((rd_T24 l0 x49_3).f0) ((rd_T24 l0 x49_3).f1) ((rd_T24 l0 x49_3).f2) ((rd_T24 l0 x49_3).f3) t112 _ A34.out).mono ?_
             rintro e w62 ⟨rfl, hb⟩
             refine ⟨_, rfl, ?_⟩
             replace HO_12 := Aside0.mk (Kd.R_below (rz HO_12.out) hb)
             replace BK101 := Aside0.mk (blk_below (g := gb101) (o := .cells #[.int .i64 a1, .int .i64 a2, .bool false, .bool false] 24 (0, 0)) (kz BK101.out) hb)
             replace BK111 := Aside0.mk (blk_below (g := gb111) (o := .cells #[.int .i64 ((rd_T24 l0 x49_3).f0), .int .i64 ((rd_T24 l0 x49_3).f1), .bool ((rd_T24 l0 x49_3).f2), .bool ((rd_T24 l0 x49_3).f3)] 24 (0, 0)) (kz BK111.out) hb)
             replace HB := Aside0.mk (below_step (bs2 HB.out GE101.out GE111.out) hb)
             (try clear hb)
             refine hK.out _ _ ⟨(blk_cell BK111.out 0).trans rfl, (blk_cell BK111.out 1).trans rfl, (blk_cell BK111.out 2).trans rfl, (blk_cell BK111.out 3).trans rfl, (blk_cell BK101.out 0).trans rfl, (blk_cell BK101.out 1).trans rfl, (blk_cell BK101.out 2).trans rfl, (blk_cell BK101.out 3).trans rfl⟩ (fun hHeld => ?_)
             clear hK K
             refine norm_ (a' := ?_) ?_ ?_
             rotate_left
             ·
              show Act.put _ (some 59) _ = _
              simp only [Act.put, List.setIfInBounds_toArray, List.set_cons_zero, List.set_cons_succ, i64_w, i32_w]
              rfl
             refine one_ (i := 8) (N := some 61) (lb 12 511) rfl rfl (one_of HT_.out zk) (by decide) (fun K hK => ?_)
             refine goes_ Try.func50 zk rfl #[.agg #[.int .i64 a1, .int .i64 a2, .bool false, .bool false]] (by rfl) rfl rfl zm ?_
             with_reducible refine (impl_Area_end.calls a1 a2 false false t113 _ A35.out).mono ?_
             rintro e w63 ⟨rfl, hb⟩
             refine ⟨_, rfl, ?_⟩
             replace HO_12 := Aside0.mk (Kd.R_below (rz HO_12.out) hb)
             replace BK101 := Aside0.mk (blk_below (g := gb101) (o := .cells #[.int .i64 a1, .int .i64 a2, .bool false, .bool false] 24 (0, 0)) (kz BK101.out) hb)
             replace BK111 := Aside0.mk (blk_below (g := gb111) (o := .cells #[.int .i64 ((rd_T24 l0 x49_3).f0), .int .i64 ((rd_T24 l0 x49_3).f1), .bool ((rd_T24 l0 x49_3).f2), .bool ((rd_T24 l0 x49_3).f3)] 24 (0, 0)) (kz BK111.out) hb)
             replace HB := Aside0.mk (below_step (bs2 HB.out GE101.out GE111.out) hb)
             (try clear hb)
             refine hK.out _ _ ⟨(blk_cell BK111.out 0).trans rfl, (blk_cell BK111.out 1).trans rfl, (blk_cell BK111.out 2).trans rfl, (blk_cell BK111.out 3).trans rfl, (blk_cell BK101.out 0).trans rfl, (blk_cell BK101.out 1).trans rfl, (blk_cell BK101.out 2).trans rfl, (blk_cell BK101.out 3).trans rfl⟩ (fun hHeld => ?_)
             clear hK K
             refine norm_ (a' := ?_) ?_ ?_
             rotate_left
             ·
              show Act.put _ (some 61) _ = _
              simp only [Act.put, List.setIfInBounds_toArray, List.set_cons_zero, List.set_cons_succ, i64_w, i32_w]
              rfl
             refine pz 9 (some 62) (lb 12 1023) rfl rfl HT_.out ?_
             refine pz 10 (some 16) (lb 12 2047) rfl rfl HT_.out ?_
             refine pz 11 (some 17) (lb 12 4095) rfl rfl HT_.out ?_
             refine done_ (done_of HT_.out zk) ?_
             try go_wp2
             go_roundg k3
             case measure => have := HJ4.out; have := HK2.out; have := HK3.out; omega
             case rel => exact ⟨(x12_3), (false), (wrap64 (x49_3 + 1)), zr, zr, H', ⟨by have := HJ4.out; have := HK2.out; have := HK3.out; omega⟩, ⟨by (with_reducible repeat (first | apply Kd.R_alloc | apply Kd.R_drewN | apply Kd.R_drew)); exact Kd.R_mono HO_12.out (fun _ hk => hk.1)⟩, ⟨by (with_reducible repeat (first | refine blk_drewN ?_ _ | refine blk_drew ?_ | refine blk_alloc ?_ _)); exact BK101.out⟩, ⟨bs2 HB.out GE101.out GE111.out⟩⟩
           ·
            rw [if_neg c32] at H
            exact absurd H (by simp)
          ·
           rw [if_neg c31] at H
           exact absurd H (by simp)
         ·
          rw [if_neg c30] at H
          have c30b0 : decide (x49_3 < (l0.length : Int)) = false := decide_eq_false c30
          clear c30
          by_cases c64 : x13_3 = true
          ·
           subst c64
           rw [if_pos rfl] at H
           simp only [Option.some.injEq, Prod.mk.injEq] at H
           obtain ⟨rfl, rfl⟩ := H
           go_wp2
           go_ret2
           exact ⟨_, ze, by (with_reducible repeat (first | apply Kd.R_alloc | apply Kd.R_drewN | apply Kd.R_drew)); exact Kd.R_mono HO_12.out (fun _ hk => trivial), bs HB.out GE101.out⟩
          ·
           replace c64 := Bool.eq_false_iff.mpr c64
           subst c64
           rw [if_neg nf_] at H
           simp only [Option.some.injEq, Prod.mk.injEq] at H
           obtain ⟨rfl, rfl⟩ := H
           go_wp2
           go_ret2
           exact ⟨_, ze, by first | exact Kd.R_nil _ _ _ _ _ | exact Kd.N_nil _ _ _ _ _ | exact Kd.V_nil _ _ _ _ _ | exact Kd.Q_nil _ _ _ _ _ | exact Kd.S_nil _ _ _ _ _, bs HB.out GE101.out⟩

end Go.Proofs.Ytlahnekinlkfmaa.P
