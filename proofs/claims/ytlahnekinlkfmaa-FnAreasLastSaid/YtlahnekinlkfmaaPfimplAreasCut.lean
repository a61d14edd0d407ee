-- printed by this session's own driver (wip/qd.py) out of the translation; Lean checks it
import Derived.Test.YtlahnekinlkfmaaPf0
import Derived.Test.YtlahnekinlkfmaaPfimplAreaOk
import Derived.Test.YtlahnekinlkfmaaPfimplAreaend
import Derived.Test.YtlahnekinlkfmaaPfimplAreasOk
namespace Go.Proofs.Ytlahnekinlkfmaa.P
open Go.RowKit Go.Proofs.YtlahnekinlkfmaaW.PrintWords Go.Proofs.YtlahnekinlkfmaaW.PrintLast Go.Proofs.YtlahnekinlkfmaaW.PrintMore
attribute [local go_sem] max2_int min2_int max_two min_two max_three min_three max_four min_four Q.cell_set_map   -- for this text's walks alone
set_option linter.unusedVariables false
set_option linter.unusedSimpArgs false

/-! ### impl_AreasCut: function 34 -/
mutual
def impl_AreasCut.j0 : Nat → List (S24) → Bool → Int → Int → Bool → Bool → Option ((List (S24)) × Bool)
 | 0, _, _, _, _, _, _ => none
 | k + 1, x0, x24, x102000, x102001, x102002, x102003 => if x24 = true then (some (([] : List (S24)), false)) else (impl_AreasCut.l0 k (([] : List (S24))) x0 (x0.length : Int) 0 x102000 x102001 x102002 x102003)
def impl_AreasCut.l0 : Nat → List (S24) → List (S24) → Int → Int → Int → Int → Bool → Bool → Option ((List (S24)) × Bool)
 | 0, _, _, _, _, _, _, _, _ => none
 | k + 1, x9, x26, x27, x28, x102000, x102001, x102002, x102003 => if x28 < x27 then (if 0 ≤ x28 then (if x28 < (x26.length : Int) then ((impl_Area_end.f x102000 x102001 x102002 x102003).bind fun t109 => (if t109 ≤ ((rd_T24 x26 x28).f0) then (impl_AreasCut.j2 k x9 x26 x27 x28 true x102000 x102001 x102002 x102003 ((rd_T24 x26 x28).f0) ((rd_T24 x26 x28).f1) ((rd_T24 x26 x28).f2) ((rd_T24 x26 x28).f3)) else ((impl_Area_end.f ((rd_T24 x26 x28).f0) ((rd_T24 x26 x28).f1) ((rd_T24 x26 x28).f2) ((rd_T24 x26 x28).f3)).bind fun t110 => (impl_AreasCut.j2 k x9 x26 x27 x28 (decide (x102000 ≥ t110)) x102000 x102001 x102002 x102003 ((rd_T24 x26 x28).f0) ((rd_T24 x26 x28).f1) ((rd_T24 x26 x28).f2) ((rd_T24 x26 x28).f3))))) else (none)) else (none)) else (if (x9.length : Int) > 6 then (some (([] : List (S24)), false)) else (some (x9, true)))
def impl_AreasCut.j2 : Nat → List (S24) → List (S24) → Int → Int → Bool → Int → Int → Bool → Bool → Int → Int → Bool → Bool → Option ((List (S24)) × Bool)
 | 0, _, _, _, _, _, _, _, _, _, _, _, _, _ => none
 | k + 1, x9, x26, x27, x28, x43, x102000, x102001, x102002, x102003, x109000, x109001, x109002, x109003 => if x43 = true then (if x9.length < 5864062014805 then (impl_AreasCut.l0 k (x9 ++ [(⟨x109000, x109001, x109002, x109003⟩ : S24)]) x26 x27 (wrap64 (x28 + 1)) x102000 x102001 x102002 x102003) else (none)) else (if x109000 < x102000 then (if x9.length < 5864062014805 then (impl_AreasCut.j3 k (x9 ++ [(⟨x109000, wrap64 (x102000 - x109000), x109002, x109003⟩ : S24)]) x26 x27 x28 x102000 x102001 x102002 x102003 x109000 x109001 x109002 x109003) else (none)) else (impl_AreasCut.j3 k x9 x26 x27 x28 x102000 x102001 x102002 x102003 x109000 x109001 x109002 x109003))
def impl_AreasCut.j3 : Nat → List (S24) → List (S24) → Int → Int → Int → Int → Bool → Bool → Int → Int → Bool → Bool → Option ((List (S24)) × Bool)
 | 0, _, _, _, _, _, _, _, _, _, _, _, _ => none
 | k + 1, x9, x26, x27, x28, x102000, x102001, x102002, x102003, x109000, x109001, x109002, x109003 => (impl_Area_end.f x102000 x102001 x102002 x102003).bind fun t118 => ((impl_Area_end.f x109000 x109001 x109002 x109003).bind fun t119 => (if t118 < t119 then ((impl_Area_end.f x102000 x102001 x102002 x102003).bind fun t121 => ((impl_Area_end.f x109000 x109001 x109002 x109003).bind fun t122 => ((impl_Area_end.f x102000 x102001 x102002 x102003).bind fun t123 => (if x9.length < 5864062014805 then (impl_AreasCut.l0 k (x9 ++ [(⟨t121, wrap64 (t122 - t123), x109002, x109003⟩ : S24)]) x26 x27 (wrap64 (x28 + 1)) x102000 x102001 x102002 x102003) else (none))))) else (impl_AreasCut.l0 k x9 x26 x27 (wrap64 (x28 + 1)) x102000 x102001 x102002 x102003)))
end
def impl_AreasCut.f (k : Nat) (l0 : List (S24)) (a1 : Int) (a2 : Int) : Option ((List (S24)) × Bool) := (impl_AreasOk.f k l0).bind fun t102 => (if t102 = true then ((impl_AreaOk.f a1 a2 false false).bind fun t103 => (impl_AreasCut.j0 k l0 (!t103) a1 a2 false false)) else (impl_AreasCut.j0 k l0 true a1 a2 false false))
theorem impl_AreasCut.mono_l : ∀ k, (∀ y0 y1 y2 y3 y4 y5, LeO (impl_AreasCut.j0 k y0 y1 y2 y3 y4 y5) (impl_AreasCut.j0 (k + 1) y0 y1 y2 y3 y4 y5)) ∧ (∀ y0 y1 y2 y3 y4 y5 y6 y7, LeO (impl_AreasCut.l0 k y0 y1 y2 y3 y4 y5 y6 y7) (impl_AreasCut.l0 (k + 1) y0 y1 y2 y3 y4 y5 y6 y7)) ∧ (∀ y0 y1 y2 y3 y4 y5 y6 y7 y8 y9 y10 y11 y12, LeO (impl_AreasCut.j2 k y0 y1 y2 y3 y4 y5 y6 y7 y8 y9 y10 y11 y12) (impl_AreasCut.j2 (k + 1) y0 y1 y2 y3 y4 y5 y6 y7 y8 y9 y10 y11 y12)) ∧ (∀ y0 y1 y2 y3 y4 y5 y6 y7 y8 y9 y10 y11, LeO (impl_AreasCut.j3 k y0 y1 y2 y3 y4 y5 y6 y7 y8 y9 y10 y11) (impl_AreasCut.j3 (k + 1) y0 y1 y2 y3 y4 y5 y6 y7 y8 y9 y10 y11))
 | 0 => ⟨fun _ _ _ _ _ _ r h => by simp [impl_AreasCut.j0] at h, fun _ _ _ _ _ _ _ _ r h => by simp [impl_AreasCut.l0] at h, fun _ _ _ _ _ _ _ _ _ _ _ _ _ r h => by simp [impl_AreasCut.j2] at h, fun _ _ _ _ _ _ _ _ _ _ _ _ r h => by simp [impl_AreasCut.j3] at h⟩
 | k + 1 => by
  obtain ⟨ih0, ih1, ih2, ih3⟩ := impl_AreasCut.mono_l k
  refine ⟨?_, ?_, ?_, ?_⟩
  ·
   intro y0 y1 y2 y3 y4 y5
   unfold impl_AreasCut.j0
   repeat' first
   | (with_reducible exact ih0 _ _ _ _ _ _)
   | (with_reducible exact ih1 _ _ _ _ _ _ _ _)
   | (with_reducible exact ih2 _ _ _ _ _ _ _ _ _ _ _ _ _)
   | (with_reducible exact ih3 _ _ _ _ _ _ _ _ _ _ _ _)
   | (with_reducible exact impl_AreasOk.mono _ _)
   | (with_reducible exact LeO.refl _)
   | (with_reducible exact LeO.none _)
   | (with_reducible refine LeO.ite ?_ ?_)
   | (with_reducible refine LeO.bind ?_ (fun _ => ?_))
   | exact ih0 _ _ _ _ _ _
   | exact ih1 _ _ _ _ _ _ _ _
   | exact ih2 _ _ _ _ _ _ _ _ _ _ _ _ _
   | exact ih3 _ _ _ _ _ _ _ _ _ _ _ _
   | exact impl_AreasOk.mono _ _
   | exact LeO.none _
   | refine LeO.ite ?_ ?_
   | refine LeO.bind ?_ (fun _ => ?_)
  ·
   intro y0 y1 y2 y3 y4 y5 y6 y7
   unfold impl_AreasCut.l0
   repeat' first
   | (with_reducible exact ih0 _ _ _ _ _ _)
   | (with_reducible exact ih1 _ _ _ _ _ _ _ _)
   | (with_reducible exact ih2 _ _ _ _ _ _ _ _ _ _ _ _ _)
   | (with_reducible exact ih3 _ _ _ _ _ _ _ _ _ _ _ _)
   | (with_reducible exact impl_AreasOk.mono _ _)
   | (with_reducible exact LeO.refl _)
   | (with_reducible exact LeO.none _)
   | (with_reducible refine LeO.ite ?_ ?_)
   | (with_reducible refine LeO.bind ?_ (fun _ => ?_))
   | exact ih0 _ _ _ _ _ _
   | exact ih1 _ _ _ _ _ _ _ _
   | exact ih2 _ _ _ _ _ _ _ _ _ _ _ _ _
   | exact ih3 _ _ _ _ _ _ _ _ _ _ _ _
   | exact impl_AreasOk.mono _ _
   | exact LeO.none _
   | refine LeO.ite ?_ ?_
   | refine LeO.bind ?_ (fun _ => ?_)
  ·
   intro y0 y1 y2 y3 y4 y5 y6 y7 y8 y9 y10 y11 y12
   unfold impl_AreasCut.j2
   repeat' first
   | (with_reducible exact ih0 _ _ _ _ _ _)
   | (with_reducible exact ih1 _ _ _ _ _ _ _ _)
   | (with_reducible exact ih2 _ _ _ _ _ _ _ _ _ _ _ _ _)
   | (with_reducible exact ih3 _ _ _ _ _ _ _ _ _ _ _ _)
   | (with_reducible exact impl_AreasOk.mono _ _)
   | (with_reducible exact LeO.refl _)
   | (with_reducible exact LeO.none _)
   | (with_reducible refine LeO.ite ?_ ?_)
   | (with_reducible refine LeO.bind ?_ (fun _ => ?_))
   | exact ih0 _ _ _ _ _ _
   | exact ih1 _ _ _ _ _ _ _ _
   | exact ih2 _ _ _ _ _ _ _ _ _ _ _ _ _
   | exact ih3 _ _ _ _ _ _ _ _ _ _ _ _
   | exact impl_AreasOk.mono _ _
   | exact LeO.none _
   | refine LeO.ite ?_ ?_
   | refine LeO.bind ?_ (fun _ => ?_)
  ·
   intro y0 y1 y2 y3 y4 y5 y6 y7 y8 y9 y10 y11
   unfold impl_AreasCut.j3
   repeat' first
   | (with_reducible exact ih0 _ _ _ _ _ _)
   | (with_reducible exact ih1 _ _ _ _ _ _ _ _)
   | (with_reducible exact ih2 _ _ _ _ _ _ _ _ _ _ _ _ _)
   | (with_reducible exact ih3 _ _ _ _ _ _ _ _ _ _ _ _)
   | (with_reducible exact impl_AreasOk.mono _ _)
   | (with_reducible exact LeO.refl _)
   | (with_reducible exact LeO.none _)
   | (with_reducible refine LeO.ite ?_ ?_)
   | (with_reducible refine LeO.bind ?_ (fun _ => ?_))
   | exact ih0 _ _ _ _ _ _
   | exact ih1 _ _ _ _ _ _ _ _
   | exact ih2 _ _ _ _ _ _ _ _ _ _ _ _ _
   | exact ih3 _ _ _ _ _ _ _ _ _ _ _ _
   | exact impl_AreasOk.mono _ _
   | exact LeO.none _
   | refine LeO.ite ?_ ?_
   | refine LeO.bind ?_ (fun _ => ?_)
theorem impl_AreasCut.mono : ∀ a0 a1 a2 k, LeO (impl_AreasCut.f k a0 a1 a2) (impl_AreasCut.f (k + 1) a0 a1 a2) := by
 intro a0 a1 a2 k
 obtain ⟨ih0, ih1, ih2, ih3⟩ := impl_AreasCut.mono_l k
 unfold impl_AreasCut.f
 repeat' first
   | (with_reducible exact ih0 _ _ _ _ _ _)
   | (with_reducible exact ih1 _ _ _ _ _ _ _ _)
   | (with_reducible exact ih2 _ _ _ _ _ _ _ _ _ _ _ _ _)
   | (with_reducible exact ih3 _ _ _ _ _ _ _ _ _ _ _ _)
   | (with_reducible exact impl_AreasOk.mono _ _)
   | (with_reducible exact LeO.refl _)
   | (with_reducible exact LeO.none _)
   | (with_reducible refine LeO.ite ?_ ?_)
   | (with_reducible refine LeO.bind ?_ (fun _ => ?_))
   | exact ih0 _ _ _ _ _ _
   | exact ih1 _ _ _ _ _ _ _ _
   | exact ih2 _ _ _ _ _ _ _ _ _ _ _ _ _
   | exact ih3 _ _ _ _ _ _ _ _ _ _ _ _
   | exact impl_AreasOk.mono _ _
   | exact LeO.none _
   | refine LeO.ite ?_ ?_
   | refine LeO.bind ?_ (fun _ => ?_)
def impl_AreasCut.T8 : Bool × List (List Nat × List Nat) := (true, [([], []), ([0], [0]), ([], []), ([2], [2]), ([1, 3], [1, 3]), ([4, 1], [4]), ([5], [5]), ([6, 5], [5, 6]), ([5], [5]), ([8, 5, 5], [5, 8]), ([7, 9, 5], [5, 7, 9]), ([5, 10], [5, 10])])
def impl_AreasCut.B8 : List Nat := [0, 1, 0, 4, 15, 31, 63, 127, 63, 319, 1023, 2047]
theorem impl_AreasCut.tab8 : rtab .any (opsOf Try.f34 8) = impl_AreasCut.T8 := by kernel_rfl
theorem impl_AreasCut.bits8 : waitsOk impl_AreasCut.T8.2 impl_AreasCut.B8 = true := by kernel_rfl
def impl_AreasCut.T16 : Bool × List (List Nat × List Nat) := (true, [([], []), ([0], [0]), ([], []), ([2, 1], [2]), ([], []), ([4, 3], [4]), ([3, 5], [3, 5]), ([0, 1], []), ([7, 1, 5, 0, 1], [1, 7]), ([0, 1, 2, 3, 4, 5, 6, 7, 8], []), ([9, 6, 8, 0, 1, 2, 3, 4, 5, 6, 7, 8], [6, 9])])
def impl_AreasCut.B16 : List Nat := [0, 1, 0, 7, 0, 31, 63, 3, 191, 511, 1023]
theorem impl_AreasCut.tab16 : rtab .any (opsOf Try.f34 16) = impl_AreasCut.T16 := by kernel_rfl
theorem impl_AreasCut.bits16 : waitsOk impl_AreasCut.T16.2 impl_AreasCut.B16 = true := by kernel_rfl
set_option maxHeartbeats 8000000 in
set_option maxRecDepth 100000 in
theorem impl_AreasCut.calls (k : Nat) (A0 : Option Addr) (c0 : Nat) (l0 : List (S24)) (a1 : Int) (a2 : Int) (r1 : List (S24)) (r2 : Bool) (w : World) (hr0 : Kd.C k24 w A0 l0.length l0) (hc0 : l0.length ≤ c0) (h : impl_AreasCut.f k l0 a1 a2 = some (r1, r2)) :
  Calls Try.prog 34 #[.slice A0 l0.length c0, .int .i64 a1, .int .i64 a2] w fun e w' => ∃ v0_ : Value, e = .returned (.tuple #[v0_, .bool r2]) ∧ Kd.R k24 24 w' w.heap.size (fun _ => True) v0_ r1 ∧ Below w.heap.size w w' := by
 have hu24 := Try.underlying24
 have HR0 := Aside0.mk hr0
 have HC0 := Aside0.mk hc0
 clear hr0 hc0
 have HB := Aside0.mk (Below.refl w.heap.size w)
 have H : ((impl_AreasOk.f k l0).bind fun t102 => (if t102 = true then ((impl_AreaOk.f a1 a2 false false).bind fun t103 => (impl_AreasCut.j0 k l0 (!t103) a1 a2 false false)) else (impl_AreasCut.j0 k l0 true a1 a2 false false))) = some (r1, r2) := h
 clear h
 have HC4 := Aside0.mk H
 clear H
 go_enter Try.func34, Try.ntmps34
 go_upto_region 2 with (first | ((with_reducible refine gate_dst (N := 8) rfl ?_); refine box_event ?hg (N := 8) ?hd (cs := #[.int .i64 0, .int .i64 0, .bool false, .bool false]) (t := 24) ?hr ?_; (case hd => rfl); (case hg => rfl); (case hr => first | (go_simp; done) | (go_simp; rfl)); intro gb101 hg w5 hbox hb; have BK101 := Aside0.mk (hbox); have GW101 := Aside0.mk ((by rw [hg]; exact (below_size (bz HB.out)) : w.heap.size ≤ gb101)); have GE101 := Aside0.mk ((by rw [hg]; exact (below_size (bz HB.out)) : w.heap.size ≤ gb101)); replace HB := Aside0.mk (below_step (bz HB.out) hb); clear hb hbox hg; have hcz6_0 : w5.cell? ⟨gb101, 0, none⟩ = some (.int .i64 0) := (blk_cell BK101.out 0).trans rfl; have hcz6_1 : w5.cell? ⟨gb101, 1, none⟩ = some (.int .i64 0) := (blk_cell BK101.out 1).trans rfl; have hcz6_2 : w5.cell? ⟨gb101, 2, none⟩ = some (.bool false) := (blk_cell BK101.out 2).trans rfl; have hcz6_3 : w5.cell? ⟨gb101, 3, none⟩ = some (.bool false) := (blk_cell BK101.out 3).trans rfl; have hfz6_0 := blk_frozen BK101.out 0; have hfz6_1 := blk_frozen BK101.out 1; have hfz6_2 := blk_frozen BK101.out 2; have hfz6_3 := blk_frozen BK101.out 3))
 (try simp only [Act.put, List.setIfInBounds_toArray, List.set_cons_zero, List.set_cons_succ])
 go_cut [24] (fun v24 wc => ∃ (kq : Nat) (x24_3 : Bool), v24 = .bool x24_3 ∧ Aside0 (impl_AreasCut.j0 kq l0 x24_3 a1 a2 false false = some (r1, r2)) ∧ Aside0 (kq ≤ k) ∧ Aside0 (wc.heap[gb101]? = some (.cells #[.int .i64 a1, .int .i64 a2, .bool false, .bool false] 24 (0, 0))) ∧ Aside0 (Below w.heap.size w wc))
 case first =>
  have H := HC4.out
  clear HC4
  replace H := Option.bind_eq_some_iff.mp H
  obtain ⟨t102, A70, H⟩ := H
  have A7 := Aside0.mk A70
  clear A70
  by_cases c8 : t102 = true
  ·
   subst c8
   rw [if_pos rfl] at H
   replace H := Option.bind_eq_some_iff.mp H
   obtain ⟨t103, A90, H⟩ := H
   have A9 := Aside0.mk A90
   clear A90
   have H' := Aside0.mk H
   clear H
   go_wp2_with (first | ((with_reducible refine gate_callee (f := 21) rfl ?_); refine goesL_ (some 18) rfl rfl Try.func21 zk rfl #[.slice A0 l0.length c0] rfl zm ?_; (with_reducible refine (impl_AreasOk.calls k _ _ l0 true _ ?side1 ?side2 A7.out).mono ?_); (case side1 => exact Kd.C_below HR0.out (bs HB.out GE101.out)); (case side2 => exact HC0.out); rintro e w10 ⟨rfl, hb⟩; refine ⟨_, rfl, ?_⟩; replace BK101 := Aside0.mk (blk_below (g := gb101) (o := .cells #[.int .i64 a1, .int .i64 a2, .bool false, .bool false] 24 (0, 0)) (by (with_reducible repeat (first | refine blk_drewN ?_ _ | refine blk_drew ?_ | refine blk_alloc ?_ _)); refine blk_put (cs := #[.int .i64 a1, .int .i64 a2, .bool false, .bool false]) ?_ 3 _ rfl; (with_reducible repeat (first | refine blk_drewN ?_ _ | refine blk_drew ?_ | refine blk_alloc ?_ _)); refine blk_put (cs := #[.int .i64 a1, .int .i64 a2, .bool false, .bool false]) ?_ 2 _ rfl; (with_reducible repeat (first | refine blk_drewN ?_ _ | refine blk_drew ?_ | refine blk_alloc ?_ _)); refine blk_put (cs := #[.int .i64 a1, .int .i64 0, .bool false, .bool false]) ?_ 1 _ rfl; (with_reducible repeat (first | refine blk_drewN ?_ _ | refine blk_drew ?_ | refine blk_alloc ?_ _)); refine blk_put (cs := #[.int .i64 0, .int .i64 0, .bool false, .bool false]) ?_ 0 _ rfl; (with_reducible repeat (first | refine blk_drewN ?_ _ | refine blk_drew ?_ | refine blk_alloc ?_ _)); exact BK101.out) hb); replace HB := Aside0.mk (below_step (bs HB.out GE101.out) hb); (try clear hb); have hcz11_0 : w10.cell? ⟨gb101, 0, none⟩ = some (.int .i64 a1) := (blk_cell BK101.out 0).trans rfl; have hcz11_1 : w10.cell? ⟨gb101, 1, none⟩ = some (.int .i64 a2) := (blk_cell BK101.out 1).trans rfl; have hcz11_2 : w10.cell? ⟨gb101, 2, none⟩ = some (.bool false) := (blk_cell BK101.out 2).trans rfl; have hcz11_3 : w10.cell? ⟨gb101, 3, none⟩ = some (.bool false) := (blk_cell BK101.out 3).trans rfl; have hfz11_0 := blk_frozen BK101.out 0; have hfz11_1 := blk_frozen BK101.out 1; have hfz11_2 := blk_frozen BK101.out 2; have hfz11_3 := blk_frozen BK101.out 3) | (go_at_call 19; (with_reducible refine (impl_AreaOk.calls a1 a2 false false t103 _ A9.out).mono ?_); rintro e w12 ⟨rfl, hb⟩; replace BK101 := Aside0.mk (blk_below (g := gb101) (o := .cells #[.int .i64 a1, .int .i64 a2, .bool false, .bool false] 24 (0, 0)) (kz BK101.out) hb); replace HB := Aside0.mk (below_step (bs HB.out GE101.out) hb); (try clear hb)))
   go_meet
   case rel => exact ⟨_, (!t103), zr, H', ⟨by first | omega | exact Nat.le_refl _⟩, ⟨by (with_reducible repeat (first | refine blk_drewN ?_ _ | refine blk_drew ?_ | refine blk_alloc ?_ _)); exact BK101.out⟩, ⟨bs HB.out GE101.out⟩⟩
  ·
   replace c8 := Bool.eq_false_iff.mpr c8
   subst c8
   rw [if_neg nf_] at H
   have H' := Aside0.mk H
   clear H
   go_wp2_with (first | ((with_reducible refine gate_callee (f := 21) rfl ?_); refine goesL_ (some 18) rfl rfl Try.func21 zk rfl #[.slice A0 l0.length c0] rfl zm ?_; (with_reducible refine (impl_AreasOk.calls k _ _ l0 false _ ?side1 ?side2 A7.out).mono ?_); (case side1 => exact Kd.C_below HR0.out (bs HB.out GE101.out)); (case side2 => exact HC0.out); rintro e w13 ⟨rfl, hb⟩; refine ⟨_, rfl, ?_⟩; replace BK101 := Aside0.mk (blk_below (g := gb101) (o := .cells #[.int .i64 a1, .int .i64 a2, .bool false, .bool false] 24 (0, 0)) (by (with_reducible repeat (first | refine blk_drewN ?_ _ | refine blk_drew ?_ | refine blk_alloc ?_ _)); refine blk_put (cs := #[.int .i64 a1, .int .i64 a2, .bool false, .bool false]) ?_ 3 _ rfl; (with_reducible repeat (first | refine blk_drewN ?_ _ | refine blk_drew ?_ | refine blk_alloc ?_ _)); refine blk_put (cs := #[.int .i64 a1, .int .i64 a2, .bool false, .bool false]) ?_ 2 _ rfl; (with_reducible repeat (first | refine blk_drewN ?_ _ | refine blk_drew ?_ | refine blk_alloc ?_ _)); refine blk_put (cs := #[.int .i64 a1, .int .i64 0, .bool false, .bool false]) ?_ 1 _ rfl; (with_reducible repeat (first | refine blk_drewN ?_ _ | refine blk_drew ?_ | refine blk_alloc ?_ _)); refine blk_put (cs := #[.int .i64 0, .int .i64 0, .bool false, .bool false]) ?_ 0 _ rfl; (with_reducible repeat (first | refine blk_drewN ?_ _ | refine blk_drew ?_ | refine blk_alloc ?_ _)); exact BK101.out) hb); replace HB := Aside0.mk (below_step (bs HB.out GE101.out) hb); (try clear hb)))
   go_meet
   case rel => exact ⟨_, (true), zr, H', ⟨by first | omega | exact Nat.le_refl _⟩, ⟨by (with_reducible repeat (first | refine blk_drewN ?_ _ | refine blk_drew ?_ | refine blk_alloc ?_ _)); exact BK101.out⟩, ⟨bs HB.out GE101.out⟩⟩
 case rest =>
  clear HC4
  try clear c2
  try clear p2
  try clear c3
  try clear c8
  try clear hcz11_0
  try clear hcz11_1
  try clear hcz11_2
  try clear hcz11_3
  try clear hcz6_0
  try clear hcz6_1
  try clear hcz6_2
  try clear hcz6_3
  try clear hfz11_0
  try clear hfz11_1
  try clear hfz11_2
  try clear hfz11_3
  try clear hfz6_0
  try clear hfz6_1
  try clear hfz6_2
  try clear hfz6_3
  obtain ⟨kq, x24_3, rfl, HA, HJ3, BK101, HB⟩ := hcut
  cases kq with
  | zero => exact absurd HA.out (by simp [impl_AreasCut.j0])
  | succ kj3 =>
   have H := HA.out
   clear HA
   simp only [impl_AreasCut.j0] at H
   by_cases c14 : x24_3 = true
   ·
    subst c14
    rw [if_pos rfl] at H
    simp only [Option.some.injEq, Prod.mk.injEq] at H
    obtain ⟨rfl, rfl⟩ := H
    go_wp2
    go_ret2
    exact ⟨_, ze, by first | exact Kd.R_nil _ _ _ _ _ | exact Kd.N_nil _ _ _ _ _ | exact Kd.V_nil _ _ _ _ _ | exact Kd.Q_nil _ _ _ _ _ | exact Kd.S_nil _ _ _ _ _, bs HB.out GE101.out⟩
   ·
    replace c14 := Bool.eq_false_iff.mpr c14
    subst c14
    rw [if_neg nf_] at H
    obtain ⟨y104, hy104⟩ : ∃ y_ : List (S24), y_ = (([] : List (S24))) := ⟨_, rfl⟩
    replace H : (impl_AreasCut.l0 kj3 y104 l0 (l0.length : Int) 0 a1 a2 false false) = some (r1, r2) := by first | (rw [hy104]; with_reducible exact H) | (have H2_ := (Option.bind_some _ _).symm.trans H; rw [hy104]; with_reducible exact H2_) | (have H2_ := (Option.bind_some _ _).symm.trans H; with_reducible exact H2_) | with_reducible exact H | (rw [hy104]; exact H) | exact H
    have Ny104 := Aside0.mk hy104
    clear hy104
    have H' := Aside0.mk H
    clear H
    go_wp2_with (first | ((with_reducible refine gate_dst (N := 25) rfl ?_); refine Kd.R_lit k24 _ 24 ?hg (N := 25) ?hd (xs := ([] : List (S24))) (inner := []) (ok := fun _ => True) (okp := fun _ => True) ?hr ?hp (fun _ hk => hk) trivial (Below.refl _ _) (Nat.le_refl _) (by simp) ?_; (case hd => rfl); (case hg => rfl); (case hr => first | (go_simp; done) | (go_simp; rfl)); (case hp => exact (Reps.none _ _)); intro v105 w15 ho16 hb hg_ hnew_; clear hg_ hnew_; (first | rw [← Ny104.out] at ho16 | (simp only [Int.reduceToNat] at ho16; rw [← Ny104.out] at ho16)); have HO106 := Aside0.mk (Kd.R_lower (Kd.R_newB ho16 (g := gb101) (o := .cells #[.int .i64 a1, .int .i64 a2, .bool false, .bool false] 24 (0, 0)) (kz BK101.out)) (below_size (bs HB.out GE101.out))); replace BK101 := Aside0.mk (blk_below (g := gb101) (o := .cells #[.int .i64 a1, .int .i64 a2, .bool false, .bool false] 24 (0, 0)) (kz BK101.out) hb); replace HB := Aside0.mk (below_step (bs HB.out GE101.out) hb); clear hb ho16))
    go_loopg [9, 28] kj3 (fun kq v9 v28 w' => ∃ (x9_2 : List (S24)) (x28_2 : Int), v28 = .int .i64 x28_2 ∧ Aside0 (impl_AreasCut.l0 kq x9_2 l0 (l0.length : Int) x28_2 a1 a2 false false = some (r1, r2)) ∧ Aside0 (kq ≤ kj3) ∧ Aside0 (Kd.R k24 24 w' w.heap.size (fun k_ => k_ ≠ gb101) v9 x9_2) ∧ Aside0 (w'.heap[gb101]? = some (.cells #[.int .i64 a1, .int .i64 a2, .bool false, .bool false] 24 (0, 0))) ∧ Aside0 (Below w.heap.size w w'))
    case atStart => exact ⟨(y104), (0), zr, H', ⟨Nat.le_refl _⟩, ⟨by (with_reducible repeat (first | apply Kd.R_alloc | apply Kd.R_drewN | apply Kd.R_drew)); exact Kd.R_mono HO106.out (fun _ hk => hk.2)⟩, ⟨by (with_reducible repeat (first | refine blk_drewN ?_ _ | refine blk_drew ?_ | refine blk_alloc ?_ _)); exact BK101.out⟩, ⟨bs HB.out GE101.out⟩⟩
    case round =>
     clear H'
     try clear c1
     try clear c2
     try clear p2
     try clear c3
     try clear c8
     try clear c14
     try clear hcz11_0
     try clear hcz11_1
     try clear hcz11_2
     try clear hcz11_3
     try clear hcz6_0
     try clear hcz6_1
     try clear hcz6_2
     try clear hcz6_3
     try clear hfz11_0
     try clear hfz11_1
     try clear hfz11_2
     try clear hfz11_3
     try clear hfz6_0
     try clear hfz6_1
     try clear hfz6_2
     try clear hfz6_3
     try clear p2
     obtain ⟨x9_2, x28_2, rfl, HA, HK2, HO_9, BK101, HB⟩ := hrel
     cases gk with
     | zero => exact absurd HA.out (by simp [impl_AreasCut.l0])
     | succ k2 =>
      have H := HA.out
      clear HA
      simp only [impl_AreasCut.l0] at H
      by_cases c17 : x28_2 < (l0.length : Int)
      ·
       rw [if_pos c17] at H
       have c17b0 : decide (x28_2 < (l0.length : Int)) = true := decide_eq_true c17
       clear c17
       by_cases c18 : 0 ≤ x28_2
       ·
        rw [if_pos c18] at H
        have c18b0 : decide (0 ≤ x28_2) = true := decide_eq_true c18
        clear c18
        by_cases c19 : x28_2 < (l0.length : Int)
        ·
         rw [if_pos c19] at H
         have c19b0 : decide (x28_2 < (l0.length : Int)) = true := decide_eq_true c19
         clear c19
         have HC20 := Aside0.mk H
         clear H
         have p107 : 0 ≤ (x28_2 : Int) := of_decide_eq_true zs
         have q107 : x28_2 < (l0.length : Int) := of_decide_eq_true zs
         obtain ⟨ad107, e107, hx107_0, hx107_1, hx107_2, hx107_3⟩ := at_T24 HR0.out x28_2 p107 q107
         cases e107
         replace hx107_0 := pw_cell_below HB.out hx107_0
         replace hx107_1 := pw_cell_below HB.out hx107_1
         replace hx107_2 := pw_cell_below HB.out hx107_2
         replace hx107_3 := pw_cell_below HB.out hx107_3
         replace p107 := eq_true p107
         replace q107 := eq_true q107
         go_upto_region 8 with (first | ((with_reducible refine gate_dst (N := 11) rfl ?_); refine box_event ?hg (N := 11) ?hd (cs := #[.int .i64 0, .int .i64 0, .bool false, .bool false]) (t := 24) ?hr ?_; (case hd => rfl); (case hg => rfl); (case hr => first | (go_simp; done) | (go_simp; rfl)); intro gb108 hg w21 hbox hb; replace HO_9 := Aside0.mk (Kd.R_below (Kd.R_elderB (rz HO_9.out) gb108 (Nat.le_of_eq hg.symm)) hb); have BK108 := Aside0.mk (hbox); have GW108 := Aside0.mk ((by rw [hg]; exact (below_size (bs HB.out GE101.out)) : w.heap.size ≤ gb108)); have GE108 := Aside0.mk ((by rw [hg]; exact (below_size (bs HB.out GE101.out)) : w.heap.size ≤ gb108)); replace HB := Aside0.mk (below_step (bs HB.out GE101.out) hb); have NB101_108 := Aside0.mk ((by rw [hg]; exact Nat.ne_of_lt (blk_lt (g := gb101) (o := .cells #[.int .i64 a1, .int .i64 a2, .bool false, .bool false] 24 (0, 0)) (kz BK101.out)) : gb101 ≠ gb108)); have NB108_101 := Aside0.mk ((by rw [hg]; exact Nat.ne_of_gt (blk_lt (g := gb101) (o := .cells #[.int .i64 a1, .int .i64 a2, .bool false, .bool false] 24 (0, 0)) (kz BK101.out)) : gb108 ≠ gb101)); replace BK101 := Aside0.mk (blk_below (g := gb101) (o := .cells #[.int .i64 a1, .int .i64 a2, .bool false, .bool false] 24 (0, 0)) (kz BK101.out) hb); clear hb hbox hg; have hnb22 := NB108_101.out; have hnc22 := NB101_108.out; have hcz23_0 : w21.cell? ⟨gb108, 0, none⟩ = some (.int .i64 0) := (blk_cell BK108.out 0).trans rfl; have hcz23_1 : w21.cell? ⟨gb108, 1, none⟩ = some (.int .i64 0) := (blk_cell BK108.out 1).trans rfl; have hcz23_2 : w21.cell? ⟨gb108, 2, none⟩ = some (.bool false) := (blk_cell BK108.out 2).trans rfl; have hcz23_3 : w21.cell? ⟨gb108, 3, none⟩ = some (.bool false) := (blk_cell BK108.out 3).trans rfl; have hfz23_0 := blk_frozen BK108.out 0; have hfz23_1 := blk_frozen BK108.out 1; have hfz23_2 := blk_frozen BK108.out 2; have hfz23_3 := blk_frozen BK108.out 3))
         (try simp only [Act.put, List.setIfInBounds_toArray, List.set_cons_zero, List.set_cons_succ])
         go_cut [43] (fun v43 wc => ∃ (kq : Nat) (x43_19 : Bool), v43 = .bool x43_19 ∧ Aside0 (impl_AreasCut.j2 kq x9_2 l0 (l0.length : Int) x28_2 x43_19 a1 a2 false false ((rd_T24 l0 x28_2).f0) ((rd_T24 l0 x28_2).f1) ((rd_T24 l0 x28_2).f2) ((rd_T24 l0 x28_2).f3) = some (r1, r2)) ∧ Aside0 (kq ≤ k2) ∧ Aside0 (Kd.R k24 24 wc w.heap.size (fun k_ => k_ ≠ gb101 ∧ k_ ≠ gb108) u9 x9_2) ∧ Aside0 (wc.heap[gb101]? = some (.cells #[.int .i64 a1, .int .i64 a2, .bool false, .bool false] 24 (0, 0))) ∧ Aside0 (wc.heap[gb108]? = some (.cells #[.int .i64 ((rd_T24 l0 x28_2).f0), .int .i64 ((rd_T24 l0 x28_2).f1), .bool ((rd_T24 l0 x28_2).f2), .bool ((rd_T24 l0 x28_2).f3)] 24 (0, 0))) ∧ Aside0 (Below w.heap.size w wc))
         case first =>
          have H := HC20.out
          clear HC20
          replace H := Option.bind_eq_some_iff.mp H
          obtain ⟨t109, A240, H⟩ := H
          have A24 := Aside0.mk A240
          clear A240
          by_cases c25 : t109 ≤ ((rd_T24 l0 x28_2).f0)
          ·
           rw [if_pos c25] at H
           have c25b0 : decide (t109 ≤ ((rd_T24 l0 x28_2).f0)) = true := decide_eq_true c25
           clear c25
           (first | rw [c25b0] | (simp only [i64_w, i32_w]; rw [c25b0]) | skip)
           have H' := Aside0.mk H
           clear H
           try go_wp2
           have n0_ : Aside0 (Kd.R k24 24 ((((w21.setCell ⟨gb108, 0, none⟩ (.int .i64 ((rd_T24 l0 x28_2).f0))).setCell ⟨gb108, 1, none⟩ (.int .i64 ((rd_T24 l0 x28_2).f1))).setCell ⟨gb108, 2, none⟩ (.bool ((rd_T24 l0 x28_2).f2))).setCell ⟨gb108, 3, none⟩ (.bool ((rd_T24 l0 x28_2).f3))) w.heap.size (fun k_ => k_ ≠ gb101 ∧ k_ ≠ gb108) u9 x9_2) := ⟨by (with_reducible repeat (first | apply Kd.R_alloc | apply Kd.R_drewN | apply Kd.R_drew)); exact Kd.R_mono (Kd.R_far (p := ⟨gb108, 3, none⟩) (Kd.R_far (p := ⟨gb108, 2, none⟩) (Kd.R_far (p := ⟨gb108, 1, none⟩) (Kd.R_far (p := ⟨gb108, 0, none⟩) (Kd.R_mono HO_9.out (fun k_ hk => (⟨hk, hk.2⟩ : _ ∧ k_ ≠ gb108))) (fun _ hk => hk.2) (.int .i64 ((rd_T24 l0 x28_2).f0))) (fun _ hk => hk.2) (.int .i64 ((rd_T24 l0 x28_2).f1))) (fun _ hk => hk.2) (.bool ((rd_T24 l0 x28_2).f2))) (fun _ hk => hk.2) (.bool ((rd_T24 l0 x28_2).f3))) (fun _ hk => ⟨hk.1.1, hk.1.2⟩)⟩
           have n1_ : Aside0 (((((w21.setCell ⟨gb108, 0, none⟩ (.int .i64 ((rd_T24 l0 x28_2).f0))).setCell ⟨gb108, 1, none⟩ (.int .i64 ((rd_T24 l0 x28_2).f1))).setCell ⟨gb108, 2, none⟩ (.bool ((rd_T24 l0 x28_2).f2))).setCell ⟨gb108, 3, none⟩ (.bool ((rd_T24 l0 x28_2).f3))).heap[gb101]? = some (.cells #[.int .i64 a1, .int .i64 a2, .bool false, .bool false] 24 (0, 0))) := ⟨by (with_reducible repeat (first | refine blk_drewN ?_ _ | refine blk_drew ?_ | refine blk_alloc ?_ _)); refine blk_far ?_ NB101_108.out _; (with_reducible repeat (first | refine blk_drewN ?_ _ | refine blk_drew ?_ | refine blk_alloc ?_ _)); refine blk_far ?_ NB101_108.out _; (with_reducible repeat (first | refine blk_drewN ?_ _ | refine blk_drew ?_ | refine blk_alloc ?_ _)); refine blk_far ?_ NB101_108.out _; (with_reducible repeat (first | refine blk_drewN ?_ _ | refine blk_drew ?_ | refine blk_alloc ?_ _)); refine blk_far ?_ NB101_108.out _; (with_reducible repeat (first | refine blk_drewN ?_ _ | refine blk_drew ?_ | refine blk_alloc ?_ _)); exact BK101.out⟩
           have n2_ : Aside0 (((((w21.setCell ⟨gb108, 0, none⟩ (.int .i64 ((rd_T24 l0 x28_2).f0))).setCell ⟨gb108, 1, none⟩ (.int .i64 ((rd_T24 l0 x28_2).f1))).setCell ⟨gb108, 2, none⟩ (.bool ((rd_T24 l0 x28_2).f2))).setCell ⟨gb108, 3, none⟩ (.bool ((rd_T24 l0 x28_2).f3))).heap[gb108]? = some (.cells #[.int .i64 ((rd_T24 l0 x28_2).f0), .int .i64 ((rd_T24 l0 x28_2).f1), .bool ((rd_T24 l0 x28_2).f2), .bool ((rd_T24 l0 x28_2).f3)] 24 (0, 0))) := ⟨by (with_reducible repeat (first | refine blk_drewN ?_ _ | refine blk_drew ?_ | refine blk_alloc ?_ _)); refine blk_put (cs := #[.int .i64 ((rd_T24 l0 x28_2).f0), .int .i64 ((rd_T24 l0 x28_2).f1), .bool ((rd_T24 l0 x28_2).f2), .bool false]) ?_ 3 _ rfl; (with_reducible repeat (first | refine blk_drewN ?_ _ | refine blk_drew ?_ | refine blk_alloc ?_ _)); refine blk_put (cs := #[.int .i64 ((rd_T24 l0 x28_2).f0), .int .i64 ((rd_T24 l0 x28_2).f1), .bool false, .bool false]) ?_ 2 _ rfl; (with_reducible repeat (first | refine blk_drewN ?_ _ | refine blk_drew ?_ | refine blk_alloc ?_ _)); refine blk_put (cs := #[.int .i64 ((rd_T24 l0 x28_2).f0), .int .i64 0, .bool false, .bool false]) ?_ 1 _ rfl; (with_reducible repeat (first | refine blk_drewN ?_ _ | refine blk_drew ?_ | refine blk_alloc ?_ _)); refine blk_put (cs := #[.int .i64 0, .int .i64 0, .bool false, .bool false]) ?_ 0 _ rfl; (with_reducible repeat (first | refine blk_drewN ?_ _ | refine blk_drew ?_ | refine blk_alloc ?_ _)); exact BK108.out⟩
           have n3_ : Aside0 (Below w.heap.size w ((((w21.setCell ⟨gb108, 0, none⟩ (.int .i64 ((rd_T24 l0 x28_2).f0))).setCell ⟨gb108, 1, none⟩ (.int .i64 ((rd_T24 l0 x28_2).f1))).setCell ⟨gb108, 2, none⟩ (.bool ((rd_T24 l0 x28_2).f2))).setCell ⟨gb108, 3, none⟩ (.bool ((rd_T24 l0 x28_2).f3)))) := ⟨bs2 HB.out GE101.out GE108.out⟩
           (try clear HO_9)
           (try clear BK101)
           (try clear BK108)
           (try clear HB)
           generalize ((((w21.setCell ⟨gb108, 0, none⟩ (.int .i64 ((rd_T24 l0 x28_2).f0))).setCell ⟨gb108, 1, none⟩ (.int .i64 ((rd_T24 l0 x28_2).f1))).setCell ⟨gb108, 2, none⟩ (.bool ((rd_T24 l0 x28_2).f2))).setCell ⟨gb108, 3, none⟩ (.bool ((rd_T24 l0 x28_2).f3))) = w26 at n0_ n1_ n2_ n3_ ⊢
           have HO_9 := n0_
           have BK101 := n1_
           have BK108 := n2_
           have HB := n3_
           clear n0_ n1_ n2_ n3_
           replace HO_9 := Aside0.mk (Kd.R_drew HO_9.out)
           replace BK101 := Aside0.mk (blk_drew BK101.out)
           replace BK108 := Aside0.mk (blk_drew BK108.out)
           replace HB := Aside0.mk (below_drew1 HB.out)
           refine start_ (n := 12) (S := fun w' => w'.cell? ⟨gb101, 0, none⟩ = some (.int .i64 a1) ∧ w'.cell? ⟨gb101, 1, none⟩ = some (.int .i64 a2) ∧ w'.cell? ⟨gb101, 2, none⟩ = some (.bool false) ∧ w'.cell? ⟨gb101, 3, none⟩ = some (.bool false) ∧ w'.cell? ⟨gb108, 0, none⟩ = some (.int .i64 ((rd_T24 l0 x28_2).f0)) ∧ w'.cell? ⟨gb108, 1, none⟩ = some (.int .i64 ((rd_T24 l0 x28_2).f1)) ∧ w'.cell? ⟨gb108, 2, none⟩ = some (.bool ((rd_T24 l0 x28_2).f2)) ∧ w'.cell? ⟨gb108, 3, none⟩ = some (.bool ((rd_T24 l0 x28_2).f3))) (ds := []) (lb 12 0) zk rfl rfl ⟨(blk_cell BK101.out 0).trans rfl, (blk_cell BK101.out 1).trans rfl, (blk_cell BK101.out 2).trans rfl, (blk_cell BK101.out 3).trans rfl, (blk_cell BK108.out 0).trans rfl, (blk_cell BK108.out 1).trans rfl, (blk_cell BK108.out 2).trans rfl, (blk_cell BK108.out 3).trans rfl⟩ (fun hHeld => ?_); refine with_tabW impl_AreasCut.tab8 impl_AreasCut.bits8 (fun HT_ HW_ => ?_)
           generalize w26.drew = w27 at HO_9 BK101 BK108 HB hHeld ⊢
           refine pz 2 (some 34) (lb 12 4) rfl rfl HT_.out ?_
           refine tz 0 (some 32) (lb 12 5) rfl rfl HT_.out HW_.out hHeld ?_
           refine tz 3 (some 35) (lb 12 13) rfl rfl HT_.out HW_.out hHeld ?_
           refine one_ (i := 1) (N := some 33) (lb 12 15) rfl rfl (one_of HT_.out zk) (by decide) (fun K hK => ?_)
           refine goes_ Try.func50 zk rfl #[.agg #[.int .i64 a1, .int .i64 a2, .bool false, .bool false]] (by rfl) rfl rfl zm ?_
           with_reducible refine (impl_Area_end.calls a1 a2 false false t109 _ A24.out).mono ?_
           rintro e w28 ⟨rfl, hb⟩
           refine ⟨_, rfl, ?_⟩
           replace HO_9 := Aside0.mk (Kd.R_below (rz HO_9.out) hb)
           replace BK101 := Aside0.mk (blk_below (g := gb101) (o := .cells #[.int .i64 a1, .int .i64 a2, .bool false, .bool false] 24 (0, 0)) (kz BK101.out) hb)
           replace BK108 := Aside0.mk (blk_below (g := gb108) (o := .cells #[.int .i64 ((rd_T24 l0 x28_2).f0), .int .i64 ((rd_T24 l0 x28_2).f1), .bool ((rd_T24 l0 x28_2).f2), .bool ((rd_T24 l0 x28_2).f3)] 24 (0, 0)) (kz BK108.out) hb)
           replace HB := Aside0.mk (below_step (bs2 HB.out GE101.out GE108.out) hb)
           (try clear hb)
           refine hK.out _ _ ⟨(blk_cell BK101.out 0).trans rfl, (blk_cell BK101.out 1).trans rfl, (blk_cell BK101.out 2).trans rfl, (blk_cell BK101.out 3).trans rfl, (blk_cell BK108.out 0).trans rfl, (blk_cell BK108.out 1).trans rfl, (blk_cell BK108.out 2).trans rfl, (blk_cell BK108.out 3).trans rfl⟩ (fun hHeld => ?_)
           clear hK K
           refine norm_ (a' := ?_) ?_ ?_
           rotate_left
           ·
            show Act.put _ (some 33) _ = _
            simp only [Act.put, List.setIfInBounds_toArray, List.set_cons_zero, List.set_cons_succ, i64_w, i32_w]
            rfl
           refine pz 4 (some 36) (lb 12 31) rfl rfl HT_.out ?_
           refine pz 5 (some 37) (lb 12 63) rfl rfl HT_.out ?_
           refine nz 6 (some 38) (lb 12 127) rfl rfl HT_.out ?_
           refine nz 7 (some 39) (lb 12 255) rfl rfl HT_.out ?_
           refine nz 8 (some 40) (lb 12 511) rfl rfl HT_.out ?_
           refine nz 9 (some 41) (lb 12 1023) rfl rfl HT_.out ?_
           refine nz 10 (some 42) (lb 12 2047) rfl rfl HT_.out ?_
           refine pz 11 (some 43) (lb 12 4095) rfl rfl HT_.out ?_
           refine done_ (done_of HT_.out zk) ?_
           try go_wp2
           go_meet
           case rel => exact ⟨_, (true), zr, H', ⟨by have := HJ3.out; have := HK2.out; first | omega | exact Nat.le_refl _⟩, ⟨by (with_reducible repeat (first | apply Kd.R_alloc | apply Kd.R_drewN | apply Kd.R_drew)); exact HO_9.out⟩, ⟨by (with_reducible repeat (first | refine blk_drewN ?_ _ | refine blk_drew ?_ | refine blk_alloc ?_ _)); exact BK101.out⟩, ⟨by (with_reducible repeat (first | refine blk_drewN ?_ _ | refine blk_drew ?_ | refine blk_alloc ?_ _)); exact BK108.out⟩, ⟨bs2 HB.out GE101.out GE108.out⟩⟩
          ·
           rw [if_neg c25] at H
           have c25b0 : decide (t109 ≤ ((rd_T24 l0 x28_2).f0)) = false := decide_eq_false c25
           clear c25
           (first | rw [c25b0] | (simp only [i64_w, i32_w]; rw [c25b0]) | skip)
           replace H := Option.bind_eq_some_iff.mp H
           obtain ⟨t110, A290, H⟩ := H
           have A29 := Aside0.mk A290
           clear A290
           have H' := Aside0.mk H
           clear H
           try go_wp2
           have n0_ : Aside0 (Kd.R k24 24 ((((w21.setCell ⟨gb108, 0, none⟩ (.int .i64 ((rd_T24 l0 x28_2).f0))).setCell ⟨gb108, 1, none⟩ (.int .i64 ((rd_T24 l0 x28_2).f1))).setCell ⟨gb108, 2, none⟩ (.bool ((rd_T24 l0 x28_2).f2))).setCell ⟨gb108, 3, none⟩ (.bool ((rd_T24 l0 x28_2).f3))) w.heap.size (fun k_ => k_ ≠ gb101 ∧ k_ ≠ gb108) u9 x9_2) := ⟨by (with_reducible repeat (first | apply Kd.R_alloc | apply Kd.R_drewN | apply Kd.R_drew)); exact Kd.R_mono (Kd.R_far (p := ⟨gb108, 3, none⟩) (Kd.R_far (p := ⟨gb108, 2, none⟩) (Kd.R_far (p := ⟨gb108, 1, none⟩) (Kd.R_far (p := ⟨gb108, 0, none⟩) (Kd.R_mono HO_9.out (fun k_ hk => (⟨hk, hk.2⟩ : _ ∧ k_ ≠ gb108))) (fun _ hk => hk.2) (.int .i64 ((rd_T24 l0 x28_2).f0))) (fun _ hk => hk.2) (.int .i64 ((rd_T24 l0 x28_2).f1))) (fun _ hk => hk.2) (.bool ((rd_T24 l0 x28_2).f2))) (fun _ hk => hk.2) (.bool ((rd_T24 l0 x28_2).f3))) (fun _ hk => ⟨hk.1.1, hk.1.2⟩)⟩
           have n1_ : Aside0 (((((w21.setCell ⟨gb108, 0, none⟩ (.int .i64 ((rd_T24 l0 x28_2).f0))).setCell ⟨gb108, 1, none⟩ (.int .i64 ((rd_T24 l0 x28_2).f1))).setCell ⟨gb108, 2, none⟩ (.bool ((rd_T24 l0 x28_2).f2))).setCell ⟨gb108, 3, none⟩ (.bool ((rd_T24 l0 x28_2).f3))).heap[gb101]? = some (.cells #[.int .i64 a1, .int .i64 a2, .bool false, .bool false] 24 (0, 0))) := ⟨by (with_reducible repeat (first | refine blk_drewN ?_ _ | refine blk_drew ?_ | refine blk_alloc ?_ _)); refine blk_far ?_ NB101_108.out _; (with_reducible repeat (first | refine blk_drewN ?_ _ | refine blk_drew ?_ | refine blk_alloc ?_ _)); refine blk_far ?_ NB101_108.out _; (with_reducible repeat (first | refine blk_drewN ?_ _ | refine blk_drew ?_ | refine blk_alloc ?_ _)); refine blk_far ?_ NB101_108.out _; (with_reducible repeat (first | refine blk_drewN ?_ _ | refine blk_drew ?_ | refine blk_alloc ?_ _)); refine blk_far ?_ NB101_108.out _; (with_reducible repeat (first | refine blk_drewN ?_ _ | refine blk_drew ?_ | refine blk_alloc ?_ _)); exact BK101.out⟩
           have n2_ : Aside0 (((((w21.setCell ⟨gb108, 0, none⟩ (.int .i64 ((rd_T24 l0 x28_2).f0))).setCell ⟨gb108, 1, none⟩ (.int .i64 ((rd_T24 l0 x28_2).f1))).setCell ⟨gb108, 2, none⟩ (.bool ((rd_T24 l0 x28_2).f2))).setCell ⟨gb108, 3, none⟩ (.bool ((rd_T24 l0 x28_2).f3))).heap[gb108]? = some (.cells #[.int .i64 ((rd_T24 l0 x28_2).f0), .int .i64 ((rd_T24 l0 x28_2).f1), .bool ((rd_T24 l0 x28_2).f2), .bool ((rd_T24 l0 x28_2).f3)] 24 (0, 0))) := ⟨by (with_reducible repeat (first | refine blk_drewN ?_ _ | refine blk_drew ?_ | refine blk_alloc ?_ _)); refine blk_put (cs := #[.int .i64 ((rd_T24 l0 x28_2).f0), .int .i64 ((rd_T24 l0 x28_2).f1), .bool ((rd_T24 l0 x28_2).f2), .bool false]) ?_ 3 _ rfl; (with_reducible repeat (first | refine blk_drewN ?_ _ | refine blk_drew ?_ | refine blk_alloc ?_ _)); refine blk_put (cs := #[.int .i64 ((rd_T24 l0 x28_2).f0), .int .i64 ((rd_T24 l0 x28_2).f1), .bool false, .bool false]) ?_ 2 _ rfl; (with_reducible repeat (first | refine blk_drewN ?_ _ | refine blk_drew ?_ | refine blk_alloc ?_ _)); refine blk_put (cs := #[.int .i64 ((rd_T24 l0 x28_2).f0), .int .i64 0, .bool false, .bool false]) ?_ 1 _ rfl; (with_reducible repeat (first | refine blk_drewN ?_ _ | refine blk_drew ?_ | refine blk_alloc ?_ _)); refine blk_put (cs := #[.int .i64 0, .int .i64 0, .bool false, .bool false]) ?_ 0 _ rfl; (with_reducible repeat (first | refine blk_drewN ?_ _ | refine blk_drew ?_ | refine blk_alloc ?_ _)); exact BK108.out⟩
           have n3_ : Aside0 (Below w.heap.size w ((((w21.setCell ⟨gb108, 0, none⟩ (.int .i64 ((rd_T24 l0 x28_2).f0))).setCell ⟨gb108, 1, none⟩ (.int .i64 ((rd_T24 l0 x28_2).f1))).setCell ⟨gb108, 2, none⟩ (.bool ((rd_T24 l0 x28_2).f2))).setCell ⟨gb108, 3, none⟩ (.bool ((rd_T24 l0 x28_2).f3)))) := ⟨bs2 HB.out GE101.out GE108.out⟩
           (try clear HO_9)
           (try clear BK101)
           (try clear BK108)
           (try clear HB)
           generalize ((((w21.setCell ⟨gb108, 0, none⟩ (.int .i64 ((rd_T24 l0 x28_2).f0))).setCell ⟨gb108, 1, none⟩ (.int .i64 ((rd_T24 l0 x28_2).f1))).setCell ⟨gb108, 2, none⟩ (.bool ((rd_T24 l0 x28_2).f2))).setCell ⟨gb108, 3, none⟩ (.bool ((rd_T24 l0 x28_2).f3))) = w30 at n0_ n1_ n2_ n3_ ⊢
           have HO_9 := n0_
           have BK101 := n1_
           have BK108 := n2_
           have HB := n3_
           clear n0_ n1_ n2_ n3_
           replace HO_9 := Aside0.mk (Kd.R_drew HO_9.out)
           replace BK101 := Aside0.mk (blk_drew BK101.out)
           replace BK108 := Aside0.mk (blk_drew BK108.out)
           replace HB := Aside0.mk (below_drew1 HB.out)
           refine start_ (n := 12) (S := fun w' => w'.cell? ⟨gb101, 0, none⟩ = some (.int .i64 a1) ∧ w'.cell? ⟨gb101, 1, none⟩ = some (.int .i64 a2) ∧ w'.cell? ⟨gb101, 2, none⟩ = some (.bool false) ∧ w'.cell? ⟨gb101, 3, none⟩ = some (.bool false) ∧ w'.cell? ⟨gb108, 0, none⟩ = some (.int .i64 ((rd_T24 l0 x28_2).f0)) ∧ w'.cell? ⟨gb108, 1, none⟩ = some (.int .i64 ((rd_T24 l0 x28_2).f1)) ∧ w'.cell? ⟨gb108, 2, none⟩ = some (.bool ((rd_T24 l0 x28_2).f2)) ∧ w'.cell? ⟨gb108, 3, none⟩ = some (.bool ((rd_T24 l0 x28_2).f3))) (ds := []) (lb 12 0) zk rfl rfl ⟨(blk_cell BK101.out 0).trans rfl, (blk_cell BK101.out 1).trans rfl, (blk_cell BK101.out 2).trans rfl, (blk_cell BK101.out 3).trans rfl, (blk_cell BK108.out 0).trans rfl, (blk_cell BK108.out 1).trans rfl, (blk_cell BK108.out 2).trans rfl, (blk_cell BK108.out 3).trans rfl⟩ (fun hHeld => ?_); refine with_tabW impl_AreasCut.tab8 impl_AreasCut.bits8 (fun HT_ HW_ => ?_)
           generalize w30.drew = w31 at HO_9 BK101 BK108 HB hHeld ⊢
           refine pz 2 (some 34) (lb 12 4) rfl rfl HT_.out ?_
           refine tz 0 (some 32) (lb 12 5) rfl rfl HT_.out HW_.out hHeld ?_
           refine tz 3 (some 35) (lb 12 13) rfl rfl HT_.out HW_.out hHeld ?_
           refine one_ (i := 1) (N := some 33) (lb 12 15) rfl rfl (one_of HT_.out zk) (by decide) (fun K hK => ?_)
           refine goes_ Try.func50 zk rfl #[.agg #[.int .i64 a1, .int .i64 a2, .bool false, .bool false]] (by rfl) rfl rfl zm ?_
           with_reducible refine (impl_Area_end.calls a1 a2 false false t109 _ A24.out).mono ?_
           rintro e w32 ⟨rfl, hb⟩
           refine ⟨_, rfl, ?_⟩
           replace HO_9 := Aside0.mk (Kd.R_below (rz HO_9.out) hb)
           replace BK101 := Aside0.mk (blk_below (g := gb101) (o := .cells #[.int .i64 a1, .int .i64 a2, .bool false, .bool false] 24 (0, 0)) (kz BK101.out) hb)
           replace BK108 := Aside0.mk (blk_below (g := gb108) (o := .cells #[.int .i64 ((rd_T24 l0 x28_2).f0), .int .i64 ((rd_T24 l0 x28_2).f1), .bool ((rd_T24 l0 x28_2).f2), .bool ((rd_T24 l0 x28_2).f3)] 24 (0, 0)) (kz BK108.out) hb)
           replace HB := Aside0.mk (below_step (bs2 HB.out GE101.out GE108.out) hb)
           (try clear hb)
           refine hK.out _ _ ⟨(blk_cell BK101.out 0).trans rfl, (blk_cell BK101.out 1).trans rfl, (blk_cell BK101.out 2).trans rfl, (blk_cell BK101.out 3).trans rfl, (blk_cell BK108.out 0).trans rfl, (blk_cell BK108.out 1).trans rfl, (blk_cell BK108.out 2).trans rfl, (blk_cell BK108.out 3).trans rfl⟩ (fun hHeld => ?_)
           clear hK K
           refine norm_ (a' := ?_) ?_ ?_
           rotate_left
           ·
            show Act.put _ (some 33) _ = _
            simp only [Act.put, List.setIfInBounds_toArray, List.set_cons_zero, List.set_cons_succ, i64_w, i32_w]
            rfl
           refine pz 4 (some 36) (lb 12 31) rfl rfl HT_.out ?_
           refine pz 5 (some 37) (lb 12 63) rfl rfl HT_.out ?_
           refine pz 6 (some 38) (lb 12 127) rfl rfl HT_.out ?_
           refine tz 7 (some 39) (lb 12 255) rfl rfl HT_.out HW_.out hHeld ?_
           refine tz 8 (some 40) (lb 12 511) rfl rfl HT_.out HW_.out hHeld ?_
           refine one_ (i := 9) (N := some 41) (lb 12 1023) rfl rfl (one_of HT_.out zk) (by decide) (fun K hK => ?_)
           refine goes_ Try.func50 zk rfl #[.agg #[.int .i64 ((rd_T24 l0 x28_2).f0), .int .i64 ((rd_T24 l0 x28_2).f1), .bool ((rd_T24 l0 x28_2).f2), .bool ((rd_T24 l0 x28_2).f3)]] (by rfl) rfl rfl zm ?_
           with_reducible refine (impl_Area_end.calls ((rd_T24 l0 x28_2).f0) ((rd_T24 l0 x28_2).f1) ((rd_T24 l0 x28_2).f2) ((rd_T24 l0 x28_2).f3) t110 _ A29.out).mono ?_
           rintro e w33 ⟨rfl, hb⟩
           refine ⟨_, rfl, ?_⟩
           replace HO_9 := Aside0.mk (Kd.R_below (rz HO_9.out) hb)
           replace BK101 := Aside0.mk (blk_below (g := gb101) (o := .cells #[.int .i64 a1, .int .i64 a2, .bool false, .bool false] 24 (0, 0)) (kz BK101.out) hb)
           replace BK108 := Aside0.mk (blk_below (g := gb108) (o := .cells #[.int .i64 ((rd_T24 l0 x28_2).f0), .int .i64 ((rd_T24 l0 x28_2).f1), .bool ((rd_T24 l0 x28_2).f2), .bool ((rd_T24 l0 x28_2).f3)] 24 (0, 0)) (kz BK108.out) hb)
           replace HB := Aside0.mk (below_step (bs2 HB.out GE101.out GE108.out) hb)
           (try clear hb)
           refine hK.out _ _ ⟨(blk_cell BK101.out 0).trans rfl, (blk_cell BK101.out 1).trans rfl, (blk_cell BK101.out 2).trans rfl, (blk_cell BK101.out 3).trans rfl, (blk_cell BK108.out 0).trans rfl, (blk_cell BK108.out 1).trans rfl, (blk_cell BK108.out 2).trans rfl, (blk_cell BK108.out 3).trans rfl⟩ (fun hHeld => ?_)
           clear hK K
           refine norm_ (a' := ?_) ?_ ?_
           rotate_left
           ·
            show Act.put _ (some 41) _ = _
            simp only [Act.put, List.setIfInBounds_toArray, List.set_cons_zero, List.set_cons_succ, i64_w, i32_w]
            rfl
           refine pz 10 (some 42) (lb 12 2047) rfl rfl HT_.out ?_
           refine pz 11 (some 43) (lb 12 4095) rfl rfl HT_.out ?_
           refine done_ (done_of HT_.out zk) ?_
           try go_wp2
           go_meet
           case rel => exact ⟨_, (decide (a1 ≥ t110)), zr, H', ⟨by have := HJ3.out; have := HK2.out; first | omega | exact Nat.le_refl _⟩, ⟨by (with_reducible repeat (first | apply Kd.R_alloc | apply Kd.R_drewN | apply Kd.R_drew)); exact HO_9.out⟩, ⟨by (with_reducible repeat (first | refine blk_drewN ?_ _ | refine blk_drew ?_ | refine blk_alloc ?_ _)); exact BK101.out⟩, ⟨by (with_reducible repeat (first | refine blk_drewN ?_ _ | refine blk_drew ?_ | refine blk_alloc ?_ _)); exact BK108.out⟩, ⟨bs2 HB.out GE101.out GE108.out⟩⟩
         case rest =>
          clear HC20
          try clear c1
          try clear p1
          try clear q1
          try clear hx1
          try clear c2
          try clear p2
          try clear c3
          try clear c5
          try clear c8
          try clear p10
          try clear q10
          try clear hx10
          try clear c14
          try clear c17
          try clear c17b0
          try clear c18
          try clear c18b0
          try clear c19
          try clear c19b0
          try clear c21
          try clear c22
          try clear c25
          try clear c25b0
          try clear hcz11_0
          try clear hcz11_1
          try clear hcz11_2
          try clear hcz11_3
          try clear hcz23_0
          try clear hcz23_1
          try clear hcz23_2
          try clear hcz23_3
          try clear hcz6_0
          try clear hcz6_1
          try clear hcz6_2
          try clear hcz6_3
          try clear hfz11_0
          try clear hfz11_1
          try clear hfz11_2
          try clear hfz11_3
          try clear hfz23_0
          try clear hfz23_1
          try clear hfz23_2
          try clear hfz23_3
          try clear hfz6_0
          try clear hfz6_1
          try clear hfz6_2
          try clear hfz6_3
          try clear hx107_0
          try clear hx107_1
          try clear hx107_2
          try clear hx107_3
          try clear p107
          try clear p2
          try clear q107
          obtain ⟨kq, x43_19, rfl, HA, HJ19, HO_9, BK101, BK108, HB⟩ := hcut
          cases kq with
          | zero => exact absurd HA.out (by simp [impl_AreasCut.j2])
          | succ kj19 =>
           have H := HA.out
           clear HA
           simp only [impl_AreasCut.j2] at H
           by_cases c34 : x43_19 = true
           ·
            subst c34
            rw [if_pos rfl] at H
            by_cases c35 : x9_2.length < 5864062014805
            ·
             rw [if_pos c35] at H
             have LMc35 := Aside0.mk c35
             clear c35
             obtain ⟨y111, hy111⟩ : ∃ y_ : List (S24), y_ = (x9_2 ++ [(⟨((rd_T24 l0 x28_2).f0), ((rd_T24 l0 x28_2).f1), ((rd_T24 l0 x28_2).f2), ((rd_T24 l0 x28_2).f3)⟩ : S24)]) := ⟨_, rfl⟩
             replace H : (impl_AreasCut.l0 kj19 y111 l0 (l0.length : Int) (wrap64 (x28_2 + 1)) a1 a2 false false) = some (r1, r2) := by first | (rw [hy111]; with_reducible exact H) | (have H2_ := (Option.bind_some _ _).symm.trans H; rw [hy111]; with_reducible exact H2_) | (have H2_ := (Option.bind_some _ _).symm.trans H; with_reducible exact H2_) | with_reducible exact H | (rw [hy111]; exact H) | exact H
             have Ny111 := Aside0.mk hy111
             clear hy111
             have H' := Aside0.mk H
             clear H
             have hnb36 := NB108_101.out
             have hnc36 := NB101_108.out
             have hcz37_0 : wc.cell? ⟨gb108, 0, none⟩ = some (.int .i64 ((rd_T24 l0 x28_2).f0)) := (blk_cell BK108.out 0).trans rfl
             have hcz37_1 : wc.cell? ⟨gb108, 1, none⟩ = some (.int .i64 ((rd_T24 l0 x28_2).f1)) := (blk_cell BK108.out 1).trans rfl
             have hcz37_2 : wc.cell? ⟨gb108, 2, none⟩ = some (.bool ((rd_T24 l0 x28_2).f2)) := (blk_cell BK108.out 2).trans rfl
             have hcz37_3 : wc.cell? ⟨gb108, 3, none⟩ = some (.bool ((rd_T24 l0 x28_2).f3)) := (blk_cell BK108.out 3).trans rfl
             have hfz37_0 := blk_frozen BK108.out 0
             have hfz37_1 := blk_frozen BK108.out 1
             have hfz37_2 := blk_frozen BK108.out 2
             have hfz37_3 := blk_frozen BK108.out 3
             go_wp2_with (first | ((with_reducible refine gate_builtin (b := .append) (xs := #[.tmp 44, .tmp 46]) rfl ?_); at_builtin; refine Kd.R_append k24 (w0 := w) w.heap.size rfl (.tmp 44) (.tmp 46) 28 24 (.agg #[(.int .i64 0), (.int .i64 0), (.bool false), (.bool false)]) 24 rfl Try.underlying28 info24 rfl (by decide) (by omega) u9 x9_2 (⟨((rd_T24 l0 x28_2).f0), ((rd_T24 l0 x28_2).f1), ((rd_T24 l0 x28_2).f2), ((rd_T24 l0 x28_2).f3)⟩ : S24) [.int .i64 ((rd_T24 l0 x28_2).f0), .int .i64 ((rd_T24 l0 x28_2).f1), .bool ((rd_T24 l0 x28_2).f2), .bool ((rd_T24 l0 x28_2).f3)] (fun k_ => k_ ≠ gb101 ∧ k_ ≠ gb108) (fun _ => False) rfl rfl ?aP (fun _ hk => hk.elim) ?aF ?aO ?aB ?aS ?aL ?_; (case aP => exact k24_mkM _ _ _ (⟨((rd_T24 l0 x28_2).f0), ((rd_T24 l0 x28_2).f1), ((rd_T24 l0 x28_2).f2), ((rd_T24 l0 x28_2).f3)⟩ : S24)); (case aB => exact (bs2 HB.out GE101.out GE108.out)); (case aF => exact (fun k_ hk => ⟨Kd.freshB (g := gb101) (o := .cells #[.int .i64 a1, .int .i64 a2, .bool false, .bool false] 24 (0, 0)) (kz BK101.out) k_ hk, Kd.freshB (g := gb108) (o := .cells #[.int .i64 ((rd_T24 l0 x28_2).f0), .int .i64 ((rd_T24 l0 x28_2).f1), .bool ((rd_T24 l0 x28_2).f2), .bool ((rd_T24 l0 x28_2).f3)] 24 (0, 0)) (kz BK108.out) k_ hk⟩)); (case aO => exact (rz HO_9.out)); (case aS => exact (below_size (bs2 HB.out GE101.out GE108.out))); (case aL => have := LMc35.out; omega); intro v112 w38 ho hb hg hat; rw [← Ny111.out] at ho; have n0_ := Aside0.mk (blk_grown (g := gb101) (o := .cells #[.int .i64 a1, .int .i64 a2, .bool false, .bool false] 24 (0, 0)) (kz BK101.out) hg (Kd.R_away HO_9.out (fun _ hk => hk.1))); have n1_ := Aside0.mk (blk_grown (g := gb108) (o := .cells #[.int .i64 ((rd_T24 l0 x28_2).f0), .int .i64 ((rd_T24 l0 x28_2).f1), .bool ((rd_T24 l0 x28_2).f2), .bool ((rd_T24 l0 x28_2).f3)] 24 (0, 0)) (kz BK108.out) hg (Kd.R_away HO_9.out (fun _ hk => hk.2))); have n2_ := Aside0.mk (hb); have n3_ := Aside0.mk (ho); clear BK101; clear BK108; clear HB; clear HO_9; have BK101 := n0_; have BK108 := n1_; have HB := n2_; have HO113 := n3_; clear n0_ n1_ n2_ n3_; clear ho hb hg hat))
             go_roundg kj19
             case measure => have := HJ3.out; have := HK2.out; have := HJ19.out; omega
             case rel => exact ⟨(y111), (wrap64 (x28_2 + 1)), zr, H', ⟨by have := HJ3.out; have := HK2.out; have := HJ19.out; omega⟩, ⟨by (with_reducible repeat (first | apply Kd.R_alloc | apply Kd.R_drewN | apply Kd.R_drew)); exact Kd.R_mono HO113.out (fun _ hk => hk.1)⟩, ⟨by (with_reducible repeat (first | refine blk_drewN ?_ _ | refine blk_drew ?_ | refine blk_alloc ?_ _)); exact BK101.out⟩, ⟨bs2 HB.out GE101.out GE108.out⟩⟩
            ·
             rw [if_neg c35] at H
             exact absurd H (by simp)
           ·
            replace c34 := Bool.eq_false_iff.mpr c34
            subst c34
            rw [if_neg nf_] at H
            have HC39 := Aside0.mk H
            clear H
            have hnb40 := NB108_101.out
            have hnc40 := NB101_108.out
            have hcz41_0 : wc.cell? ⟨gb108, 0, none⟩ = some (.int .i64 ((rd_T24 l0 x28_2).f0)) := (blk_cell BK108.out 0).trans rfl
            have hcz41_1 : wc.cell? ⟨gb108, 1, none⟩ = some (.int .i64 ((rd_T24 l0 x28_2).f1)) := (blk_cell BK108.out 1).trans rfl
            have hcz41_2 : wc.cell? ⟨gb108, 2, none⟩ = some (.bool ((rd_T24 l0 x28_2).f2)) := (blk_cell BK108.out 2).trans rfl
            have hcz41_3 : wc.cell? ⟨gb108, 3, none⟩ = some (.bool ((rd_T24 l0 x28_2).f3)) := (blk_cell BK108.out 3).trans rfl
            have hfz41_0 := blk_frozen BK108.out 0
            have hfz41_1 := blk_frozen BK108.out 1
            have hfz41_2 := blk_frozen BK108.out 2
            have hfz41_3 := blk_frozen BK108.out 3
            have hcz42_0 : wc.cell? ⟨gb101, 0, none⟩ = some (.int .i64 a1) := (blk_cell BK101.out 0).trans rfl
            have hcz42_1 : wc.cell? ⟨gb101, 1, none⟩ = some (.int .i64 a2) := (blk_cell BK101.out 1).trans rfl
            have hcz42_2 : wc.cell? ⟨gb101, 2, none⟩ = some (.bool false) := (blk_cell BK101.out 2).trans rfl
            have hcz42_3 : wc.cell? ⟨gb101, 3, none⟩ = some (.bool false) := (blk_cell BK101.out 3).trans rfl
            have hfz42_0 := blk_frozen BK101.out 0
            have hfz42_1 := blk_frozen BK101.out 1
            have hfz42_2 := blk_frozen BK101.out 2
            have hfz42_3 := blk_frozen BK101.out 3
            go_upto_if 52 with (fail)
            go_cut [9] (fun v9 wc => ∃ (kq : Nat) (x9_38 : List (S24)), Aside0 (impl_AreasCut.j3 kq x9_38 l0 (l0.length : Int) x28_2 a1 a2 false false ((rd_T24 l0 x28_2).f0) ((rd_T24 l0 x28_2).f1) ((rd_T24 l0 x28_2).f2) ((rd_T24 l0 x28_2).f3) = some (r1, r2)) ∧ Aside0 (kq ≤ kj19) ∧ Aside0 (Kd.R k24 24 wc w.heap.size (fun k_ => k_ ≠ gb101 ∧ k_ ≠ gb108) v9 x9_38) ∧ Aside0 (wc.heap[gb101]? = some (.cells #[.int .i64 a1, .int .i64 a2, .bool false, .bool false] 24 (0, 0))) ∧ Aside0 (wc.heap[gb108]? = some (.cells #[.int .i64 ((rd_T24 l0 x28_2).f0), .int .i64 ((rd_T24 l0 x28_2).f1), .bool ((rd_T24 l0 x28_2).f2), .bool ((rd_T24 l0 x28_2).f3)] 24 (0, 0))) ∧ Aside0 (Below w.heap.size w wc))
            case first =>
             have H := HC39.out
             clear HC39
             by_cases c43 : ((rd_T24 l0 x28_2).f0) < a1
             ·
              rw [if_pos c43] at H
              have c43b0 : decide (((rd_T24 l0 x28_2).f0) < a1) = true := decide_eq_true c43
              clear c43
              (first | rw [c43b0] | (simp only [i64_w, i32_w]; rw [c43b0]) | skip)
              by_cases c44 : x9_2.length < 5864062014805
              ·
               rw [if_pos c44] at H
               have LMc44 := Aside0.mk c44
               clear c44
               obtain ⟨y115, hy115⟩ : ∃ y_ : List (S24), y_ = (x9_2 ++ [(⟨((rd_T24 l0 x28_2).f0), wrap64 (a1 - ((rd_T24 l0 x28_2).f0)), ((rd_T24 l0 x28_2).f2), ((rd_T24 l0 x28_2).f3)⟩ : S24)]) := ⟨_, rfl⟩
               replace H : (impl_AreasCut.j3 kj19 y115 l0 (l0.length : Int) x28_2 a1 a2 false false ((rd_T24 l0 x28_2).f0) ((rd_T24 l0 x28_2).f1) ((rd_T24 l0 x28_2).f2) ((rd_T24 l0 x28_2).f3)) = some (r1, r2) := by first | (rw [hy115]; with_reducible exact H) | (have H2_ := (Option.bind_some _ _).symm.trans H; rw [hy115]; with_reducible exact H2_) | (have H2_ := (Option.bind_some _ _).symm.trans H; with_reducible exact H2_) | with_reducible exact H | (rw [hy115]; exact H) | exact H
               have Ny115 := Aside0.mk hy115
               clear hy115
               have H' := Aside0.mk H
               clear H
               have hnb45 := NB108_101.out
               have hnc45 := NB101_108.out
               have hcz46_0 : wc.cell? ⟨gb108, 0, none⟩ = some (.int .i64 ((rd_T24 l0 x28_2).f0)) := (blk_cell BK108.out 0).trans rfl
               have hcz46_1 : wc.cell? ⟨gb108, 1, none⟩ = some (.int .i64 ((rd_T24 l0 x28_2).f1)) := (blk_cell BK108.out 1).trans rfl
               have hcz46_2 : wc.cell? ⟨gb108, 2, none⟩ = some (.bool ((rd_T24 l0 x28_2).f2)) := (blk_cell BK108.out 2).trans rfl
               have hcz46_3 : wc.cell? ⟨gb108, 3, none⟩ = some (.bool ((rd_T24 l0 x28_2).f3)) := (blk_cell BK108.out 3).trans rfl
               have hfz46_0 := blk_frozen BK108.out 0
               have hfz46_1 := blk_frozen BK108.out 1
               have hfz46_2 := blk_frozen BK108.out 2
               have hfz46_3 := blk_frozen BK108.out 3
               go_wp2_with (first | ((with_reducible refine gate_dst (N := 12) rfl ?_); refine box_event ?hg (N := 12) ?hd (cs := #[.int .i64 0, .int .i64 0, .bool false, .bool false]) (t := 24) ?hr ?_; (case hd => rfl); (case hg => rfl); (case hr => first | (go_simp; done) | (go_simp; rfl)); intro gb114 hg w47 hbox hb; replace HO_9 := Aside0.mk (Kd.R_below (Kd.R_elderB (rz HO_9.out) gb114 (Nat.le_of_eq hg.symm)) hb); have BK114 := Aside0.mk (hbox); have GW114 := Aside0.mk ((by rw [hg]; exact (below_size (bs2 HB.out GE101.out GE108.out)) : w.heap.size ≤ gb114)); have GE114 := Aside0.mk ((by rw [hg]; exact (below_size (bs2 HB.out GE101.out GE108.out)) : w.heap.size ≤ gb114)); replace HB := Aside0.mk (below_step (bs2 HB.out GE101.out GE108.out) hb); have NB101_114 := Aside0.mk ((by rw [hg]; exact Nat.ne_of_lt (blk_lt (g := gb101) (o := .cells #[.int .i64 a1, .int .i64 a2, .bool false, .bool false] 24 (0, 0)) (kz BK101.out)) : gb101 ≠ gb114)); have NB114_101 := Aside0.mk ((by rw [hg]; exact Nat.ne_of_gt (blk_lt (g := gb101) (o := .cells #[.int .i64 a1, .int .i64 a2, .bool false, .bool false] 24 (0, 0)) (kz BK101.out)) : gb114 ≠ gb101)); replace BK101 := Aside0.mk (blk_below (g := gb101) (o := .cells #[.int .i64 a1, .int .i64 a2, .bool false, .bool false] 24 (0, 0)) (kz BK101.out) hb); have NB108_114 := Aside0.mk ((by rw [hg]; exact Nat.ne_of_lt (blk_lt (g := gb108) (o := .cells #[.int .i64 ((rd_T24 l0 x28_2).f0), .int .i64 ((rd_T24 l0 x28_2).f1), .bool ((rd_T24 l0 x28_2).f2), .bool ((rd_T24 l0 x28_2).f3)] 24 (0, 0)) (kz BK108.out)) : gb108 ≠ gb114)); have NB114_108 := Aside0.mk ((by rw [hg]; exact Nat.ne_of_gt (blk_lt (g := gb108) (o := .cells #[.int .i64 ((rd_T24 l0 x28_2).f0), .int .i64 ((rd_T24 l0 x28_2).f1), .bool ((rd_T24 l0 x28_2).f2), .bool ((rd_T24 l0 x28_2).f3)] 24 (0, 0)) (kz BK108.out)) : gb114 ≠ gb108)); replace BK108 := Aside0.mk (blk_below (g := gb108) (o := .cells #[.int .i64 ((rd_T24 l0 x28_2).f0), .int .i64 ((rd_T24 l0 x28_2).f1), .bool ((rd_T24 l0 x28_2).f2), .bool ((rd_T24 l0 x28_2).f3)] 24 (0, 0)) (kz BK108.out) hb); clear hb hbox hg; have hnb48 := NB114_101.out; have hnc48 := NB101_114.out; have hnb49 := NB114_108.out; have hnc49 := NB108_114.out; have hcz50_0 : w47.cell? ⟨gb114, 0, none⟩ = some (.int .i64 0) := (blk_cell BK114.out 0).trans rfl; have hcz50_1 : w47.cell? ⟨gb114, 1, none⟩ = some (.int .i64 0) := (blk_cell BK114.out 1).trans rfl; have hcz50_2 : w47.cell? ⟨gb114, 2, none⟩ = some (.bool false) := (blk_cell BK114.out 2).trans rfl; have hcz50_3 : w47.cell? ⟨gb114, 3, none⟩ = some (.bool false) := (blk_cell BK114.out 3).trans rfl; have hfz50_0 := blk_frozen BK114.out 0; have hfz50_1 := blk_frozen BK114.out 1; have hfz50_2 := blk_frozen BK114.out 2; have hfz50_3 := blk_frozen BK114.out 3; have hcz51_0 : w47.cell? ⟨gb101, 0, none⟩ = some (.int .i64 a1) := (blk_cell BK101.out 0).trans rfl; have hcz51_1 : w47.cell? ⟨gb101, 1, none⟩ = some (.int .i64 a2) := (blk_cell BK101.out 1).trans rfl; have hcz51_2 : w47.cell? ⟨gb101, 2, none⟩ = some (.bool false) := (blk_cell BK101.out 2).trans rfl; have hcz51_3 : w47.cell? ⟨gb101, 3, none⟩ = some (.bool false) := (blk_cell BK101.out 3).trans rfl; have hfz51_0 := blk_frozen BK101.out 0; have hfz51_1 := blk_frozen BK101.out 1; have hfz51_2 := blk_frozen BK101.out 2; have hfz51_3 := blk_frozen BK101.out 3; have hcz52_0 : w47.cell? ⟨gb108, 0, none⟩ = some (.int .i64 ((rd_T24 l0 x28_2).f0)) := (blk_cell BK108.out 0).trans rfl; have hcz52_1 : w47.cell? ⟨gb108, 1, none⟩ = some (.int .i64 ((rd_T24 l0 x28_2).f1)) := (blk_cell BK108.out 1).trans rfl; have hcz52_2 : w47.cell? ⟨gb108, 2, none⟩ = some (.bool ((rd_T24 l0 x28_2).f2)) := (blk_cell BK108.out 2).trans rfl; have hcz52_3 : w47.cell? ⟨gb108, 3, none⟩ = some (.bool ((rd_T24 l0 x28_2).f3)) := (blk_cell BK108.out 3).trans rfl; have hfz52_0 := blk_frozen BK108.out 0; have hfz52_1 := blk_frozen BK108.out 1; have hfz52_2 := blk_frozen BK108.out 2; have hfz52_3 := blk_frozen BK108.out 3) | ((with_reducible refine gate_builtin (b := .append) (xs := #[.tmp 60, .tmp 62]) rfl ?_); at_builtin; refine Kd.R_append k24 (w0 := w) w.heap.size rfl (.tmp 60) (.tmp 62) 28 24 (.agg #[(.int .i64 0), (.int .i64 0), (.bool false), (.bool false)]) 24 rfl Try.underlying28 info24 rfl (by decide) (by omega) u9 x9_2 (⟨((rd_T24 l0 x28_2).f0), wrap64 (a1 - ((rd_T24 l0 x28_2).f0)), ((rd_T24 l0 x28_2).f2), ((rd_T24 l0 x28_2).f3)⟩ : S24) [.int .i64 ((rd_T24 l0 x28_2).f0), .int .i64 (wrap64 (a1 - ((rd_T24 l0 x28_2).f0))), .bool ((rd_T24 l0 x28_2).f2), .bool ((rd_T24 l0 x28_2).f3)] (fun k_ => k_ ≠ gb101 ∧ k_ ≠ gb108 ∧ k_ ≠ gb114) (fun _ => False) rfl (by first | (go_simp; done) | (go_simp; rfl)) ?aP (fun _ hk => hk.elim) ?aF ?aO ?aB ?aS ?aL ?_; (case aP => exact k24_mkM _ _ _ (⟨((rd_T24 l0 x28_2).f0), wrap64 (a1 - ((rd_T24 l0 x28_2).f0)), ((rd_T24 l0 x28_2).f2), ((rd_T24 l0 x28_2).f3)⟩ : S24)); (case aB => exact (by repeat (first | (with_reducible first | exact HB.out | apply below_alloc | apply pw_below_drewN | apply below_drew1 | refine below_set ?_ GE101.out | refine below_set ?_ GE108.out | refine below_set ?_ GE114.out) | exact HB.out))); (case aF => exact (fun k_ hk => ⟨Kd.freshB (g := gb101) (o := .cells #[.int .i64 a1, .int .i64 a2, .bool false, .bool false] 24 (0, 0)) (by (with_reducible repeat (first | refine blk_drewN ?_ _ | refine blk_drew ?_ | refine blk_alloc ?_ _)); refine blk_far ?_ NB101_114.out _; (with_reducible repeat (first | refine blk_drewN ?_ _ | refine blk_drew ?_ | refine blk_alloc ?_ _)); refine blk_far ?_ NB101_114.out _; (with_reducible repeat (first | refine blk_drewN ?_ _ | refine blk_drew ?_ | refine blk_alloc ?_ _)); refine blk_far ?_ NB101_114.out _; (with_reducible repeat (first | refine blk_drewN ?_ _ | refine blk_drew ?_ | refine blk_alloc ?_ _)); refine blk_far ?_ NB101_114.out _; (with_reducible repeat (first | refine blk_drewN ?_ _ | refine blk_drew ?_ | refine blk_alloc ?_ _)); refine blk_far ?_ NB101_114.out _; (with_reducible repeat (first | refine blk_drewN ?_ _ | refine blk_drew ?_ | refine blk_alloc ?_ _)); exact BK101.out) k_ hk, Kd.freshB (g := gb108) (o := .cells #[.int .i64 ((rd_T24 l0 x28_2).f0), .int .i64 ((rd_T24 l0 x28_2).f1), .bool ((rd_T24 l0 x28_2).f2), .bool ((rd_T24 l0 x28_2).f3)] 24 (0, 0)) (by (with_reducible repeat (first | refine blk_drewN ?_ _ | refine blk_drew ?_ | refine blk_alloc ?_ _)); refine blk_far ?_ NB108_114.out _; (with_reducible repeat (first | refine blk_drewN ?_ _ | refine blk_drew ?_ | refine blk_alloc ?_ _)); refine blk_far ?_ NB108_114.out _; (with_reducible repeat (first | refine blk_drewN ?_ _ | refine blk_drew ?_ | refine blk_alloc ?_ _)); refine blk_far ?_ NB108_114.out _; (with_reducible repeat (first | refine blk_drewN ?_ _ | refine blk_drew ?_ | refine blk_alloc ?_ _)); refine blk_far ?_ NB108_114.out _; (with_reducible repeat (first | refine blk_drewN ?_ _ | refine blk_drew ?_ | refine blk_alloc ?_ _)); refine blk_far ?_ NB108_114.out _; (with_reducible repeat (first | refine blk_drewN ?_ _ | refine blk_drew ?_ | refine blk_alloc ?_ _)); exact BK108.out) k_ hk, Kd.freshB (g := gb114) (o := .cells #[.int .i64 ((rd_T24 l0 x28_2).f0), .int .i64 (wrap64 (a1 - ((rd_T24 l0 x28_2).f0))), .bool ((rd_T24 l0 x28_2).f2), .bool ((rd_T24 l0 x28_2).f3)] 24 (0, 0)) (by (with_reducible repeat (first | refine blk_drewN ?_ _ | refine blk_drew ?_ | refine blk_alloc ?_ _)); refine blk_put (cs := #[.int .i64 ((rd_T24 l0 x28_2).f0), .int .i64 ((rd_T24 l0 x28_2).f1), .bool ((rd_T24 l0 x28_2).f2), .bool ((rd_T24 l0 x28_2).f3)]) ?_ 1 _ rfl; (with_reducible repeat (first | refine blk_drewN ?_ _ | refine blk_drew ?_ | refine blk_alloc ?_ _)); refine blk_put (cs := #[.int .i64 ((rd_T24 l0 x28_2).f0), .int .i64 ((rd_T24 l0 x28_2).f1), .bool ((rd_T24 l0 x28_2).f2), .bool false]) ?_ 3 _ rfl; (with_reducible repeat (first | refine blk_drewN ?_ _ | refine blk_drew ?_ | refine blk_alloc ?_ _)); refine blk_put (cs := #[.int .i64 ((rd_T24 l0 x28_2).f0), .int .i64 ((rd_T24 l0 x28_2).f1), .bool false, .bool false]) ?_ 2 _ rfl; (with_reducible repeat (first | refine blk_drewN ?_ _ | refine blk_drew ?_ | refine blk_alloc ?_ _)); refine blk_put (cs := #[.int .i64 ((rd_T24 l0 x28_2).f0), .int .i64 0, .bool false, .bool false]) ?_ 1 _ rfl; (with_reducible repeat (first | refine blk_drewN ?_ _ | refine blk_drew ?_ | refine blk_alloc ?_ _)); refine blk_put (cs := #[.int .i64 0, .int .i64 0, .bool false, .bool false]) ?_ 0 _ rfl; (with_reducible repeat (first | refine blk_drewN ?_ _ | refine blk_drew ?_ | refine blk_alloc ?_ _)); exact BK114.out) k_ hk⟩)); (case aO => exact (by (with_reducible repeat (first | apply Kd.R_alloc | apply Kd.R_drewN | apply Kd.R_drew)); exact Kd.R_mono (Kd.R_far (p := ⟨gb114, 1, none⟩) (Kd.R_far (p := ⟨gb114, 3, none⟩) (Kd.R_far (p := ⟨gb114, 2, none⟩) (Kd.R_far (p := ⟨gb114, 1, none⟩) (Kd.R_far (p := ⟨gb114, 0, none⟩) (Kd.R_mono HO_9.out (fun k_ hk => (⟨hk, hk.2⟩ : _ ∧ k_ ≠ gb114))) (fun _ hk => hk.2) (.int .i64 ((rd_T24 l0 x28_2).f0))) (fun _ hk => hk.2) (.int .i64 ((rd_T24 l0 x28_2).f1))) (fun _ hk => hk.2) (.bool ((rd_T24 l0 x28_2).f2))) (fun _ hk => hk.2) (.bool ((rd_T24 l0 x28_2).f3))) (fun _ hk => hk.2) (.int .i64 (wrap64 (a1 - ((rd_T24 l0 x28_2).f0))))) (fun _ hk => ⟨hk.1.1.1, ⟨hk.1.1.2, hk.1.2⟩⟩))); (case aS => exact (below_size (by repeat (first | (with_reducible first | exact HB.out | apply below_alloc | apply pw_below_drewN | apply below_drew1 | refine below_set ?_ GE101.out | refine below_set ?_ GE108.out | refine below_set ?_ GE114.out) | exact HB.out)))); (case aL => have := LMc44.out; omega); intro v116 w53 ho hb hg hat; rw [← Ny115.out] at ho; have n0_ := Aside0.mk (blk_grown (g := gb101) (o := .cells #[.int .i64 a1, .int .i64 a2, .bool false, .bool false] 24 (0, 0)) (by (with_reducible repeat (first | refine blk_drewN ?_ _ | refine blk_drew ?_ | refine blk_alloc ?_ _)); refine blk_far ?_ NB101_114.out _; (with_reducible repeat (first | refine blk_drewN ?_ _ | refine blk_drew ?_ | refine blk_alloc ?_ _)); refine blk_far ?_ NB101_114.out _; (with_reducible repeat (first | refine blk_drewN ?_ _ | refine blk_drew ?_ | refine blk_alloc ?_ _)); refine blk_far ?_ NB101_114.out _; (with_reducible repeat (first | refine blk_drewN ?_ _ | refine blk_drew ?_ | refine blk_alloc ?_ _)); refine blk_far ?_ NB101_114.out _; (with_reducible repeat (first | refine blk_drewN ?_ _ | refine blk_drew ?_ | refine blk_alloc ?_ _)); refine blk_far ?_ NB101_114.out _; (with_reducible repeat (first | refine blk_drewN ?_ _ | refine blk_drew ?_ | refine blk_alloc ?_ _)); exact BK101.out) hg (Kd.R_away HO_9.out (fun _ hk => hk.1.1))); have n1_ := Aside0.mk (blk_grown (g := gb108) (o := .cells #[.int .i64 ((rd_T24 l0 x28_2).f0), .int .i64 ((rd_T24 l0 x28_2).f1), .bool ((rd_T24 l0 x28_2).f2), .bool ((rd_T24 l0 x28_2).f3)] 24 (0, 0)) (by (with_reducible repeat (first | refine blk_drewN ?_ _ | refine blk_drew ?_ | refine blk_alloc ?_ _)); refine blk_far ?_ NB108_114.out _; (with_reducible repeat (first | refine blk_drewN ?_ _ | refine blk_drew ?_ | refine blk_alloc ?_ _)); refine blk_far ?_ NB108_114.out _; (with_reducible repeat (first | refine blk_drewN ?_ _ | refine blk_drew ?_ | refine blk_alloc ?_ _)); refine blk_far ?_ NB108_114.out _; (with_reducible repeat (first | refine blk_drewN ?_ _ | refine blk_drew ?_ | refine blk_alloc ?_ _)); refine blk_far ?_ NB108_114.out _; (with_reducible repeat (first | refine blk_drewN ?_ _ | refine blk_drew ?_ | refine blk_alloc ?_ _)); refine blk_far ?_ NB108_114.out _; (with_reducible repeat (first | refine blk_drewN ?_ _ | refine blk_drew ?_ | refine blk_alloc ?_ _)); exact BK108.out) hg (Kd.R_away HO_9.out (fun _ hk => hk.1.2))); have n2_ := Aside0.mk (blk_grown (g := gb114) (o := .cells #[.int .i64 ((rd_T24 l0 x28_2).f0), .int .i64 (wrap64 (a1 - ((rd_T24 l0 x28_2).f0))), .bool ((rd_T24 l0 x28_2).f2), .bool ((rd_T24 l0 x28_2).f3)] 24 (0, 0)) (by (with_reducible repeat (first | refine blk_drewN ?_ _ | refine blk_drew ?_ | refine blk_alloc ?_ _)); refine blk_put (cs := #[.int .i64 ((rd_T24 l0 x28_2).f0), .int .i64 ((rd_T24 l0 x28_2).f1), .bool ((rd_T24 l0 x28_2).f2), .bool ((rd_T24 l0 x28_2).f3)]) ?_ 1 _ rfl; (with_reducible repeat (first | refine blk_drewN ?_ _ | refine blk_drew ?_ | refine blk_alloc ?_ _)); refine blk_put (cs := #[.int .i64 ((rd_T24 l0 x28_2).f0), .int .i64 ((rd_T24 l0 x28_2).f1), .bool ((rd_T24 l0 x28_2).f2), .bool false]) ?_ 3 _ rfl; (with_reducible repeat (first | refine blk_drewN ?_ _ | refine blk_drew ?_ | refine blk_alloc ?_ _)); refine blk_put (cs := #[.int .i64 ((rd_T24 l0 x28_2).f0), .int .i64 ((rd_T24 l0 x28_2).f1), .bool false, .bool false]) ?_ 2 _ rfl; (with_reducible repeat (first | refine blk_drewN ?_ _ | refine blk_drew ?_ | refine blk_alloc ?_ _)); refine blk_put (cs := #[.int .i64 ((rd_T24 l0 x28_2).f0), .int .i64 0, .bool false, .bool false]) ?_ 1 _ rfl; (with_reducible repeat (first | refine blk_drewN ?_ _ | refine blk_drew ?_ | refine blk_alloc ?_ _)); refine blk_put (cs := #[.int .i64 0, .int .i64 0, .bool false, .bool false]) ?_ 0 _ rfl; (with_reducible repeat (first | refine blk_drewN ?_ _ | refine blk_drew ?_ | refine blk_alloc ?_ _)); exact BK114.out) hg (Kd.R_away HO_9.out (fun _ hk => hk.2))); have n3_ := Aside0.mk (hb); have n4_ := Aside0.mk (ho); clear BK101; clear BK108; clear BK114; clear HB; clear HO_9; have BK101 := n0_; have BK108 := n1_; have BK114 := n2_; have HB := n3_; have HO117 := n4_; clear n0_ n1_ n2_ n3_ n4_; clear ho hb hg hat))
               go_meet
               case rel => exact ⟨_, (y115), H', ⟨by have := HJ3.out; have := HK2.out; have := HJ19.out; first | omega | exact Nat.le_refl _⟩, ⟨by (with_reducible repeat (first | apply Kd.R_alloc | apply Kd.R_drewN | apply Kd.R_drew)); exact Kd.R_mono HO117.out (fun _ hk => ⟨hk.1, hk.2.1⟩)⟩, ⟨by (with_reducible repeat (first | refine blk_drewN ?_ _ | refine blk_drew ?_ | refine blk_alloc ?_ _)); exact BK101.out⟩, ⟨by (with_reducible repeat (first | refine blk_drewN ?_ _ | refine blk_drew ?_ | refine blk_alloc ?_ _)); exact BK108.out⟩, ⟨by repeat (first | (with_reducible first | exact HB.out | apply below_alloc | apply pw_below_drewN | apply below_drew1 | refine below_set ?_ GE101.out | refine below_set ?_ GE108.out | refine below_set ?_ GE114.out) | exact HB.out)⟩⟩
              ·
               rw [if_neg c44] at H
               exact absurd H (by simp)
             ·
              rw [if_neg c43] at H
              have c43b0 : decide (((rd_T24 l0 x28_2).f0) < a1) = false := decide_eq_false c43
              clear c43
              (first | rw [c43b0] | (simp only [i64_w, i32_w]; rw [c43b0]) | skip)
              have H' := Aside0.mk H
              clear H
              go_wp2
              go_meet
              case rel => exact ⟨_, (x9_2), H', ⟨by have := HJ3.out; have := HK2.out; have := HJ19.out; first | omega | exact Nat.le_refl _⟩, ⟨by (with_reducible repeat (first | apply Kd.R_alloc | apply Kd.R_drewN | apply Kd.R_drew)); exact HO_9.out⟩, ⟨by (with_reducible repeat (first | refine blk_drewN ?_ _ | refine blk_drew ?_ | refine blk_alloc ?_ _)); exact BK101.out⟩, ⟨by (with_reducible repeat (first | refine blk_drewN ?_ _ | refine blk_drew ?_ | refine blk_alloc ?_ _)); exact BK108.out⟩, ⟨bs2 HB.out GE101.out GE108.out⟩⟩
            case rest =>
             clear HC39
             try clear c1
             try clear p1
             try clear q1
             try clear hx1
             try clear c2
             try clear p2
             try clear c3
             try clear c4
             try clear c5
             try clear p6
             try clear c8
             try clear p10
             try clear q10
             try clear hx10
             try clear c14
             try clear c17
             try clear c17b0
             try clear c18
             try clear c18b0
             try clear c19
             try clear c19b0
             try clear c21
             try clear c22
             try clear c25
             try clear c25b0
             try clear c34
             try clear c35
             try clear c36
             try clear c40
             try clear c43
             try clear c43b0
             try clear c44
             try clear c45
             try clear c48
             try clear c49
             try clear c50
             try clear hcz11_0
             try clear hcz11_1
             try clear hcz11_2
             try clear hcz11_3
             try clear hcz23_0
             try clear hcz23_1
             try clear hcz23_2
             try clear hcz23_3
             try clear hcz37_0
             try clear hcz37_1
             try clear hcz37_2
             try clear hcz37_3
             try clear hcz41_0
             try clear hcz41_1
             try clear hcz41_2
             try clear hcz41_3
             try clear hcz42_0
             try clear hcz42_1
             try clear hcz42_2
             try clear hcz42_3
             try clear hcz46_0
             try clear hcz46_1
             try clear hcz46_2
             try clear hcz46_3
             try clear hcz50_0
             try clear hcz50_1
             try clear hcz50_2
             try clear hcz50_3
             try clear hcz51_0
             try clear hcz51_1
             try clear hcz51_2
             try clear hcz51_3
             try clear hcz52_0
             try clear hcz52_1
             try clear hcz52_2
             try clear hcz52_3
             try clear hcz6_0
             try clear hcz6_1
             try clear hcz6_2
             try clear hcz6_3
             try clear hfz11_0
             try clear hfz11_1
             try clear hfz11_2
             try clear hfz11_3
             try clear hfz23_0
             try clear hfz23_1
             try clear hfz23_2
             try clear hfz23_3
             try clear hfz37_0
             try clear hfz37_1
             try clear hfz37_2
             try clear hfz37_3
             try clear hfz41_0
             try clear hfz41_1
             try clear hfz41_2
             try clear hfz41_3
             try clear hfz42_0
             try clear hfz42_1
             try clear hfz42_2
             try clear hfz42_3
             try clear hfz46_0
             try clear hfz46_1
             try clear hfz46_2
             try clear hfz46_3
             try clear hfz50_0
             try clear hfz50_1
             try clear hfz50_2
             try clear hfz50_3
             try clear hfz51_0
             try clear hfz51_1
             try clear hfz51_2
             try clear hfz51_3
             try clear hfz52_0
             try clear hfz52_1
             try clear hfz52_2
             try clear hfz52_3
             try clear hfz6_0
             try clear hfz6_1
             try clear hfz6_2
             try clear hfz6_3
             try clear hx107_0
             try clear hx107_1
             try clear hx107_2
             try clear hx107_3
             try clear p1
             try clear p10
             try clear p107
             try clear p2
             try clear q1
             try clear q10
             try clear q107
             obtain ⟨kq, x9_38, HA, HJ38, HO_9, BK101, BK108, HB⟩ := hcut
             cases kq with
             | zero => exact absurd HA.out (by simp [impl_AreasCut.j3])
             | succ kj38 =>
              have H := HA.out
              clear HA
              simp only [impl_AreasCut.j3] at H
              replace H := Option.bind_eq_some_iff.mp H
              obtain ⟨t118, A540, H⟩ := H
              have A54 := Aside0.mk A540
              clear A540
              replace H := Option.bind_eq_some_iff.mp H
              obtain ⟨t119, A550, H⟩ := H
              have A55 := Aside0.mk A550
              clear A550
              by_cases c56 : t118 < t119
              ·
               rw [if_pos c56] at H
               have c56b0 : decide (t118 < t119) = true := decide_eq_true c56
               clear c56
               replace H := Option.bind_eq_some_iff.mp H
               obtain ⟨t121, A570, H⟩ := H
               have A57 := Aside0.mk A570
               clear A570
               replace H := Option.bind_eq_some_iff.mp H
               obtain ⟨t122, A580, H⟩ := H
               have A58 := Aside0.mk A580
               clear A580
               replace H := Option.bind_eq_some_iff.mp H
               obtain ⟨t123, A590, H⟩ := H
               have A59 := Aside0.mk A590
               clear A590
               by_cases c60 : x9_38.length < 5864062014805
               ·
                rw [if_pos c60] at H
                have LMc60 := Aside0.mk c60
                clear c60
                obtain ⟨y124, hy124⟩ : ∃ y_ : List (S24), y_ = (x9_38 ++ [(⟨t121, wrap64 (t122 - t123), ((rd_T24 l0 x28_2).f2), ((rd_T24 l0 x28_2).f3)⟩ : S24)]) := ⟨_, rfl⟩
                replace H : (impl_AreasCut.l0 kj38 y124 l0 (l0.length : Int) (wrap64 (x28_2 + 1)) a1 a2 false false) = some (r1, r2) := by first | (rw [hy124]; with_reducible exact H) | (have H2_ := (Option.bind_some _ _).symm.trans H; rw [hy124]; with_reducible exact H2_) | (have H2_ := (Option.bind_some _ _).symm.trans H; with_reducible exact H2_) | with_reducible exact H | (rw [hy124]; exact H) | exact H
                have Ny124 := Aside0.mk hy124
                clear hy124
                have H' := Aside0.mk H
                clear H
                try go_wp2
                replace HO_9 := Aside0.mk (Kd.R_drew HO_9.out)
                replace BK101 := Aside0.mk (blk_drew BK101.out)
                replace BK108 := Aside0.mk (blk_drew BK108.out)
                replace HB := Aside0.mk (below_drew1 HB.out)
                refine start_ (n := 5) (S := fun w' => w'.cell? ⟨gb101, 0, none⟩ = some (.int .i64 a1) ∧ w'.cell? ⟨gb101, 1, none⟩ = some (.int .i64 a2) ∧ w'.cell? ⟨gb101, 2, none⟩ = some (.bool false) ∧ w'.cell? ⟨gb101, 3, none⟩ = some (.bool false) ∧ w'.cell? ⟨gb108, 0, none⟩ = some (.int .i64 ((rd_T24 l0 x28_2).f0)) ∧ w'.cell? ⟨gb108, 1, none⟩ = some (.int .i64 ((rd_T24 l0 x28_2).f1)) ∧ w'.cell? ⟨gb108, 2, none⟩ = some (.bool ((rd_T24 l0 x28_2).f2)) ∧ w'.cell? ⟨gb108, 3, none⟩ = some (.bool ((rd_T24 l0 x28_2).f3))) (ds := []) (lb 5 0) zk rfl rfl ⟨(blk_cell BK101.out 0).trans rfl, (blk_cell BK101.out 1).trans rfl, (blk_cell BK101.out 2).trans rfl, (blk_cell BK101.out 3).trans rfl, (blk_cell BK108.out 0).trans rfl, (blk_cell BK108.out 1).trans rfl, (blk_cell BK108.out 2).trans rfl, (blk_cell BK108.out 3).trans rfl⟩ (fun hHeld => ?_)
                generalize wc.drew = w61 at HO_9 BK101 BK108 HB hHeld ⊢
                refine take_ (i := 0) (N := some 64) (v := ?_) (a' := ?_) (lb 5 1) rfl rfl zk (fun _ _ _ h => h) (Or.inl ⟨by rfl, ?_⟩) hHeld ?_ ?_; rotate_left; (rintro w' ⟨s0, s1, s2, s3, s4, s5, s6, s7⟩; go_simp; with_reducible rfl); rotate_left; (simp only [Act.put, List.setIfInBounds_toArray, List.set_cons_zero, List.set_cons_succ, i64_w, i32_w]; rfl)
                refine take_ (i := 2) (N := some 66) (v := ?_) (a' := ?_) (lb 5 5) rfl rfl zk (fun _ _ _ h => h) (Or.inl ⟨by rfl, ?_⟩) hHeld ?_ ?_; rotate_left; (rintro w' ⟨s0, s1, s2, s3, s4, s5, s6, s7⟩; go_simp; with_reducible rfl); rotate_left; (simp only [Act.put, List.setIfInBounds_toArray, List.set_cons_zero, List.set_cons_succ, i64_w, i32_w]; rfl)
                refine one_ (i := 1) (N := some 65) (lb 5 7) rfl rfl zk (by decide) (fun K hK => ?_)
                refine goes_ Try.func50 zk rfl #[.agg #[.int .i64 a1, .int .i64 a2, .bool false, .bool false]] (by rfl) rfl rfl zm ?_
                with_reducible refine (impl_Area_end.calls a1 a2 false false t118 _ A54.out).mono ?_
                rintro e w62 ⟨rfl, hb⟩
                refine ⟨_, rfl, ?_⟩
                replace HO_9 := Aside0.mk (Kd.R_below (rz HO_9.out) hb)
                replace BK101 := Aside0.mk (blk_below (g := gb101) (o := .cells #[.int .i64 a1, .int .i64 a2, .bool false, .bool false] 24 (0, 0)) (kz BK101.out) hb)
                replace BK108 := Aside0.mk (blk_below (g := gb108) (o := .cells #[.int .i64 ((rd_T24 l0 x28_2).f0), .int .i64 ((rd_T24 l0 x28_2).f1), .bool ((rd_T24 l0 x28_2).f2), .bool ((rd_T24 l0 x28_2).f3)] 24 (0, 0)) (kz BK108.out) hb)
                replace HB := Aside0.mk (below_step (bs2 HB.out GE101.out GE108.out) hb)
                (try clear hb)
                refine hK.out _ _ ⟨(blk_cell BK101.out 0).trans rfl, (blk_cell BK101.out 1).trans rfl, (blk_cell BK101.out 2).trans rfl, (blk_cell BK101.out 3).trans rfl, (blk_cell BK108.out 0).trans rfl, (blk_cell BK108.out 1).trans rfl, (blk_cell BK108.out 2).trans rfl, (blk_cell BK108.out 3).trans rfl⟩ (fun hHeld => ?_)
                clear hK K
                refine norm_ (a' := ?_) ?_ ?_
                rotate_left
                ·
                 show Act.put _ (some 65) _ = _
                 simp only [Act.put, List.setIfInBounds_toArray, List.set_cons_zero, List.set_cons_succ, i64_w, i32_w]
                 rfl
                refine one_ (i := 3) (N := some 67) (lb 5 15) rfl rfl zk (by decide) (fun K hK => ?_)
                refine goes_ Try.func50 zk rfl #[.agg #[.int .i64 ((rd_T24 l0 x28_2).f0), .int .i64 ((rd_T24 l0 x28_2).f1), .bool ((rd_T24 l0 x28_2).f2), .bool ((rd_T24 l0 x28_2).f3)]] (by rfl) rfl rfl zm ?_
                with_reducible refine (impl_Area_end.calls ((rd_T24 l0 x28_2).f0) ((rd_T24 l0 x28_2).f1) ((rd_T24 l0 x28_2).f2) ((rd_T24 l0 x28_2).f3) t119 _ A55.out).mono ?_
                rintro e w63 ⟨rfl, hb⟩
                refine ⟨_, rfl, ?_⟩
                replace HO_9 := Aside0.mk (Kd.R_below (rz HO_9.out) hb)
                replace BK101 := Aside0.mk (blk_below (g := gb101) (o := .cells #[.int .i64 a1, .int .i64 a2, .bool false, .bool false] 24 (0, 0)) (kz BK101.out) hb)
                replace BK108 := Aside0.mk (blk_below (g := gb108) (o := .cells #[.int .i64 ((rd_T24 l0 x28_2).f0), .int .i64 ((rd_T24 l0 x28_2).f1), .bool ((rd_T24 l0 x28_2).f2), .bool ((rd_T24 l0 x28_2).f3)] 24 (0, 0)) (kz BK108.out) hb)
                replace HB := Aside0.mk (below_step (bs2 HB.out GE101.out GE108.out) hb)
                (try clear hb)
                refine hK.out _ _ ⟨(blk_cell BK101.out 0).trans rfl, (blk_cell BK101.out 1).trans rfl, (blk_cell BK101.out 2).trans rfl, (blk_cell BK101.out 3).trans rfl, (blk_cell BK108.out 0).trans rfl, (blk_cell BK108.out 1).trans rfl, (blk_cell BK108.out 2).trans rfl, (blk_cell BK108.out 3).trans rfl⟩ (fun hHeld => ?_)
                clear hK K
                refine norm_ (a' := ?_) ?_ ?_
                rotate_left
                ·
                 show Act.put _ (some 67) _ = _
                 simp only [Act.put, List.setIfInBounds_toArray, List.set_cons_zero, List.set_cons_succ, i64_w, i32_w]
                 rfl
                refine pure_ (i := 4) (N := some 68) (v := ?_) (a' := ?_) (lb 5 31) rfl rfl zk (fun _ _ _ h => h) (Or.inl ⟨by rfl, ?_⟩) ?_ ?_; rotate_left; (intro w'; go_simp; with_reducible rfl); rotate_left; (simp only [Act.put, List.setIfInBounds_toArray, List.set_cons_zero, List.set_cons_succ, i64_w, i32_w]; rfl)
                refine done_ zk ?_
                have hnb64 := NB108_101.out
                have hnc64 := NB101_108.out
                have hcz65_0 : w63.cell? ⟨gb108, 0, none⟩ = some (.int .i64 ((rd_T24 l0 x28_2).f0)) := (blk_cell BK108.out 0).trans rfl
                have hcz65_1 : w63.cell? ⟨gb108, 1, none⟩ = some (.int .i64 ((rd_T24 l0 x28_2).f1)) := (blk_cell BK108.out 1).trans rfl
                have hcz65_2 : w63.cell? ⟨gb108, 2, none⟩ = some (.bool ((rd_T24 l0 x28_2).f2)) := (blk_cell BK108.out 2).trans rfl
                have hcz65_3 : w63.cell? ⟨gb108, 3, none⟩ = some (.bool ((rd_T24 l0 x28_2).f3)) := (blk_cell BK108.out 3).trans rfl
                have hfz65_0 := blk_frozen BK108.out 0
                have hfz65_1 := blk_frozen BK108.out 1
                have hfz65_2 := blk_frozen BK108.out 2
                have hfz65_3 := blk_frozen BK108.out 3
                try go_wp2_with (first | ((with_reducible refine gate_dst (N := 13) rfl ?_); refine box_event ?hg (N := 13) ?hd (cs := #[.int .i64 0, .int .i64 0, .bool false, .bool false]) (t := 24) ?hr ?_; (case hd => rfl); (case hg => rfl); (case hr => first | (go_simp; done) | (go_simp; rfl)); intro gb120 hg w66 hbox hb; replace HO_9 := Aside0.mk (Kd.R_below (Kd.R_elderB (rz HO_9.out) gb120 (Nat.le_of_eq hg.symm)) hb); have BK120 := Aside0.mk (hbox); have GW120 := Aside0.mk ((by rw [hg]; exact (below_size (bs2 HB.out GE101.out GE108.out)) : w.heap.size ≤ gb120)); have GE120 := Aside0.mk ((by rw [hg]; exact (below_size (bs2 HB.out GE101.out GE108.out)) : w.heap.size ≤ gb120)); replace HB := Aside0.mk (below_step (bs2 HB.out GE101.out GE108.out) hb); have NB101_120 := Aside0.mk ((by rw [hg]; exact Nat.ne_of_lt (blk_lt (g := gb101) (o := .cells #[.int .i64 a1, .int .i64 a2, .bool false, .bool false] 24 (0, 0)) (kz BK101.out)) : gb101 ≠ gb120)); have NB120_101 := Aside0.mk ((by rw [hg]; exact Nat.ne_of_gt (blk_lt (g := gb101) (o := .cells #[.int .i64 a1, .int .i64 a2, .bool false, .bool false] 24 (0, 0)) (kz BK101.out)) : gb120 ≠ gb101)); replace BK101 := Aside0.mk (blk_below (g := gb101) (o := .cells #[.int .i64 a1, .int .i64 a2, .bool false, .bool false] 24 (0, 0)) (kz BK101.out) hb); have NB108_120 := Aside0.mk ((by rw [hg]; exact Nat.ne_of_lt (blk_lt (g := gb108) (o := .cells #[.int .i64 ((rd_T24 l0 x28_2).f0), .int .i64 ((rd_T24 l0 x28_2).f1), .bool ((rd_T24 l0 x28_2).f2), .bool ((rd_T24 l0 x28_2).f3)] 24 (0, 0)) (kz BK108.out)) : gb108 ≠ gb120)); have NB120_108 := Aside0.mk ((by rw [hg]; exact Nat.ne_of_gt (blk_lt (g := gb108) (o := .cells #[.int .i64 ((rd_T24 l0 x28_2).f0), .int .i64 ((rd_T24 l0 x28_2).f1), .bool ((rd_T24 l0 x28_2).f2), .bool ((rd_T24 l0 x28_2).f3)] 24 (0, 0)) (kz BK108.out)) : gb120 ≠ gb108)); replace BK108 := Aside0.mk (blk_below (g := gb108) (o := .cells #[.int .i64 ((rd_T24 l0 x28_2).f0), .int .i64 ((rd_T24 l0 x28_2).f1), .bool ((rd_T24 l0 x28_2).f2), .bool ((rd_T24 l0 x28_2).f3)] 24 (0, 0)) (kz BK108.out) hb); clear hb hbox hg; have hnb67 := NB120_101.out; have hnc67 := NB101_120.out; have hnb68 := NB120_108.out; have hnc68 := NB108_120.out; have hcz69_0 : w66.cell? ⟨gb120, 0, none⟩ = some (.int .i64 0) := (blk_cell BK120.out 0).trans rfl; have hcz69_1 : w66.cell? ⟨gb120, 1, none⟩ = some (.int .i64 0) := (blk_cell BK120.out 1).trans rfl; have hcz69_2 : w66.cell? ⟨gb120, 2, none⟩ = some (.bool false) := (blk_cell BK120.out 2).trans rfl; have hcz69_3 : w66.cell? ⟨gb120, 3, none⟩ = some (.bool false) := (blk_cell BK120.out 3).trans rfl; have hfz69_0 := blk_frozen BK120.out 0; have hfz69_1 := blk_frozen BK120.out 1; have hfz69_2 := blk_frozen BK120.out 2; have hfz69_3 := blk_frozen BK120.out 3))
                have n0_ : Aside0 (Kd.R k24 24 ((((w66.setCell ⟨gb120, 0, none⟩ (.int .i64 ((rd_T24 l0 x28_2).f0))).setCell ⟨gb120, 1, none⟩ (.int .i64 ((rd_T24 l0 x28_2).f1))).setCell ⟨gb120, 2, none⟩ (.bool ((rd_T24 l0 x28_2).f2))).setCell ⟨gb120, 3, none⟩ (.bool ((rd_T24 l0 x28_2).f3))) w.heap.size (fun k_ => k_ ≠ gb101 ∧ k_ ≠ gb108 ∧ k_ ≠ gb120) u9 x9_38) := ⟨by (with_reducible repeat (first | apply Kd.R_alloc | apply Kd.R_drewN | apply Kd.R_drew)); exact Kd.R_mono (Kd.R_far (p := ⟨gb120, 3, none⟩) (Kd.R_far (p := ⟨gb120, 2, none⟩) (Kd.R_far (p := ⟨gb120, 1, none⟩) (Kd.R_far (p := ⟨gb120, 0, none⟩) (Kd.R_mono HO_9.out (fun k_ hk => (⟨hk, hk.2⟩ : _ ∧ k_ ≠ gb120))) (fun _ hk => hk.2) (.int .i64 ((rd_T24 l0 x28_2).f0))) (fun _ hk => hk.2) (.int .i64 ((rd_T24 l0 x28_2).f1))) (fun _ hk => hk.2) (.bool ((rd_T24 l0 x28_2).f2))) (fun _ hk => hk.2) (.bool ((rd_T24 l0 x28_2).f3))) (fun _ hk => ⟨hk.1.1.1, ⟨hk.1.1.2, hk.1.2⟩⟩)⟩
                have n1_ : Aside0 (((((w66.setCell ⟨gb120, 0, none⟩ (.int .i64 ((rd_T24 l0 x28_2).f0))).setCell ⟨gb120, 1, none⟩ (.int .i64 ((rd_T24 l0 x28_2).f1))).setCell ⟨gb120, 2, none⟩ (.bool ((rd_T24 l0 x28_2).f2))).setCell ⟨gb120, 3, none⟩ (.bool ((rd_T24 l0 x28_2).f3))).heap[gb101]? = some (.cells #[.int .i64 a1, .int .i64 a2, .bool false, .bool false] 24 (0, 0))) := ⟨by (with_reducible repeat (first | refine blk_drewN ?_ _ | refine blk_drew ?_ | refine blk_alloc ?_ _)); refine blk_far ?_ NB101_120.out _; (with_reducible repeat (first | refine blk_drewN ?_ _ | refine blk_drew ?_ | refine blk_alloc ?_ _)); refine blk_far ?_ NB101_120.out _; (with_reducible repeat (first | refine blk_drewN ?_ _ | refine blk_drew ?_ | refine blk_alloc ?_ _)); refine blk_far ?_ NB101_120.out _; (with_reducible repeat (first | refine blk_drewN ?_ _ | refine blk_drew ?_ | refine blk_alloc ?_ _)); refine blk_far ?_ NB101_120.out _; (with_reducible repeat (first | refine blk_drewN ?_ _ | refine blk_drew ?_ | refine blk_alloc ?_ _)); exact BK101.out⟩
                have n2_ : Aside0 (((((w66.setCell ⟨gb120, 0, none⟩ (.int .i64 ((rd_T24 l0 x28_2).f0))).setCell ⟨gb120, 1, none⟩ (.int .i64 ((rd_T24 l0 x28_2).f1))).setCell ⟨gb120, 2, none⟩ (.bool ((rd_T24 l0 x28_2).f2))).setCell ⟨gb120, 3, none⟩ (.bool ((rd_T24 l0 x28_2).f3))).heap[gb108]? = some (.cells #[.int .i64 ((rd_T24 l0 x28_2).f0), .int .i64 ((rd_T24 l0 x28_2).f1), .bool ((rd_T24 l0 x28_2).f2), .bool ((rd_T24 l0 x28_2).f3)] 24 (0, 0))) := ⟨by (with_reducible repeat (first | refine blk_drewN ?_ _ | refine blk_drew ?_ | refine blk_alloc ?_ _)); refine blk_far ?_ NB108_120.out _; (with_reducible repeat (first | refine blk_drewN ?_ _ | refine blk_drew ?_ | refine blk_alloc ?_ _)); refine blk_far ?_ NB108_120.out _; (with_reducible repeat (first | refine blk_drewN ?_ _ | refine blk_drew ?_ | refine blk_alloc ?_ _)); refine blk_far ?_ NB108_120.out _; (with_reducible repeat (first | refine blk_drewN ?_ _ | refine blk_drew ?_ | refine blk_alloc ?_ _)); refine blk_far ?_ NB108_120.out _; (with_reducible repeat (first | refine blk_drewN ?_ _ | refine blk_drew ?_ | refine blk_alloc ?_ _)); exact BK108.out⟩
                have n3_ : Aside0 (((((w66.setCell ⟨gb120, 0, none⟩ (.int .i64 ((rd_T24 l0 x28_2).f0))).setCell ⟨gb120, 1, none⟩ (.int .i64 ((rd_T24 l0 x28_2).f1))).setCell ⟨gb120, 2, none⟩ (.bool ((rd_T24 l0 x28_2).f2))).setCell ⟨gb120, 3, none⟩ (.bool ((rd_T24 l0 x28_2).f3))).heap[gb120]? = some (.cells #[.int .i64 ((rd_T24 l0 x28_2).f0), .int .i64 ((rd_T24 l0 x28_2).f1), .bool ((rd_T24 l0 x28_2).f2), .bool ((rd_T24 l0 x28_2).f3)] 24 (0, 0))) := ⟨by (with_reducible repeat (first | refine blk_drewN ?_ _ | refine blk_drew ?_ | refine blk_alloc ?_ _)); refine blk_put (cs := #[.int .i64 ((rd_T24 l0 x28_2).f0), .int .i64 ((rd_T24 l0 x28_2).f1), .bool ((rd_T24 l0 x28_2).f2), .bool false]) ?_ 3 _ rfl; (with_reducible repeat (first | refine blk_drewN ?_ _ | refine blk_drew ?_ | refine blk_alloc ?_ _)); refine blk_put (cs := #[.int .i64 ((rd_T24 l0 x28_2).f0), .int .i64 ((rd_T24 l0 x28_2).f1), .bool false, .bool false]) ?_ 2 _ rfl; (with_reducible repeat (first | refine blk_drewN ?_ _ | refine blk_drew ?_ | refine blk_alloc ?_ _)); refine blk_put (cs := #[.int .i64 ((rd_T24 l0 x28_2).f0), .int .i64 0, .bool false, .bool false]) ?_ 1 _ rfl; (with_reducible repeat (first | refine blk_drewN ?_ _ | refine blk_drew ?_ | refine blk_alloc ?_ _)); refine blk_put (cs := #[.int .i64 0, .int .i64 0, .bool false, .bool false]) ?_ 0 _ rfl; (with_reducible repeat (first | refine blk_drewN ?_ _ | refine blk_drew ?_ | refine blk_alloc ?_ _)); exact BK120.out⟩
                have n4_ : Aside0 (Below w.heap.size w ((((w66.setCell ⟨gb120, 0, none⟩ (.int .i64 ((rd_T24 l0 x28_2).f0))).setCell ⟨gb120, 1, none⟩ (.int .i64 ((rd_T24 l0 x28_2).f1))).setCell ⟨gb120, 2, none⟩ (.bool ((rd_T24 l0 x28_2).f2))).setCell ⟨gb120, 3, none⟩ (.bool ((rd_T24 l0 x28_2).f3)))) := ⟨by repeat (first | (with_reducible first | exact HB.out | apply below_alloc | apply pw_below_drewN | apply below_drew1 | refine below_set ?_ GE101.out | refine below_set ?_ GE108.out | refine below_set ?_ GE120.out) | exact HB.out)⟩
                (try clear HO_9)
                (try clear BK101)
                (try clear BK108)
                (try clear BK120)
                (try clear HB)
                generalize ((((w66.setCell ⟨gb120, 0, none⟩ (.int .i64 ((rd_T24 l0 x28_2).f0))).setCell ⟨gb120, 1, none⟩ (.int .i64 ((rd_T24 l0 x28_2).f1))).setCell ⟨gb120, 2, none⟩ (.bool ((rd_T24 l0 x28_2).f2))).setCell ⟨gb120, 3, none⟩ (.bool ((rd_T24 l0 x28_2).f3))) = w70 at n0_ n1_ n2_ n3_ n4_ ⊢
                have HO_9 := n0_
                have BK101 := n1_
                have BK108 := n2_
                have BK120 := n3_
                have HB := n4_
                clear n0_ n1_ n2_ n3_ n4_
                replace HO_9 := Aside0.mk (Kd.R_drew HO_9.out)
                replace BK101 := Aside0.mk (blk_drew BK101.out)
                replace BK108 := Aside0.mk (blk_drew BK108.out)
                replace BK120 := Aside0.mk (blk_drew BK120.out)
                replace HB := Aside0.mk (below_drew1 HB.out)
                refine start_ (n := 11) (S := fun w' => w'.cell? ⟨gb101, 0, none⟩ = some (.int .i64 a1) ∧ w'.cell? ⟨gb101, 1, none⟩ = some (.int .i64 a2) ∧ w'.cell? ⟨gb101, 2, none⟩ = some (.bool false) ∧ w'.cell? ⟨gb101, 3, none⟩ = some (.bool false) ∧ w'.cell? ⟨gb108, 0, none⟩ = some (.int .i64 ((rd_T24 l0 x28_2).f0)) ∧ w'.cell? ⟨gb108, 1, none⟩ = some (.int .i64 ((rd_T24 l0 x28_2).f1)) ∧ w'.cell? ⟨gb108, 2, none⟩ = some (.bool ((rd_T24 l0 x28_2).f2)) ∧ w'.cell? ⟨gb108, 3, none⟩ = some (.bool ((rd_T24 l0 x28_2).f3))) (ds := []) (lb 11 0) zk rfl rfl ⟨(blk_cell BK101.out 0).trans rfl, (blk_cell BK101.out 1).trans rfl, (blk_cell BK101.out 2).trans rfl, (blk_cell BK101.out 3).trans rfl, (blk_cell BK108.out 0).trans rfl, (blk_cell BK108.out 1).trans rfl, (blk_cell BK108.out 2).trans rfl, (blk_cell BK108.out 3).trans rfl⟩ (fun hHeld => ?_); refine with_tabW impl_AreasCut.tab16 impl_AreasCut.bits16 (fun HT_ HW_ => ?_)
                generalize w70.drew = w71 at HO_9 BK101 BK108 BK120 HB hHeld ⊢
                refine tz 0 (some 70) (lb 11 1) rfl rfl HT_.out HW_.out hHeld ?_
                refine tz 2 (some 72) (lb 11 5) rfl rfl HT_.out HW_.out hHeld ?_
                refine tz 4 (some 74) (lb 11 21) rfl rfl HT_.out HW_.out hHeld ?_
                refine one_ (i := 1) (N := some 71) (lb 11 23) rfl rfl (one_of HT_.out zk) (by decide) (fun K hK => ?_)
                refine goes_ Try.func50 zk rfl #[.agg #[.int .i64 a1, .int .i64 a2, .bool false, .bool false]] (by rfl) rfl rfl zm ?_
                with_reducible refine (impl_Area_end.calls a1 a2 false false t121 _ A57.out).mono ?_
                rintro e w72 ⟨rfl, hb⟩
                refine ⟨_, rfl, ?_⟩
                replace HO_9 := Aside0.mk (Kd.R_below (rz HO_9.out) hb)
                replace BK101 := Aside0.mk (blk_below (g := gb101) (o := .cells #[.int .i64 a1, .int .i64 a2, .bool false, .bool false] 24 (0, 0)) (kz BK101.out) hb)
                replace BK108 := Aside0.mk (blk_below (g := gb108) (o := .cells #[.int .i64 ((rd_T24 l0 x28_2).f0), .int .i64 ((rd_T24 l0 x28_2).f1), .bool ((rd_T24 l0 x28_2).f2), .bool ((rd_T24 l0 x28_2).f3)] 24 (0, 0)) (kz BK108.out) hb)
                replace BK120 := Aside0.mk (blk_below (g := gb120) (o := .cells #[.int .i64 ((rd_T24 l0 x28_2).f0), .int .i64 ((rd_T24 l0 x28_2).f1), .bool ((rd_T24 l0 x28_2).f2), .bool ((rd_T24 l0 x28_2).f3)] 24 (0, 0)) (kz BK120.out) hb)
                replace HB := Aside0.mk (below_step (by repeat (first | (with_reducible first | exact HB.out | apply below_alloc | apply pw_below_drewN | apply below_drew1 | refine below_set ?_ GE101.out | refine below_set ?_ GE108.out | refine below_set ?_ GE120.out) | exact HB.out)) hb)
                (try clear hb)
                refine hK.out _ _ ⟨(blk_cell BK101.out 0).trans rfl, (blk_cell BK101.out 1).trans rfl, (blk_cell BK101.out 2).trans rfl, (blk_cell BK101.out 3).trans rfl, (blk_cell BK108.out 0).trans rfl, (blk_cell BK108.out 1).trans rfl, (blk_cell BK108.out 2).trans rfl, (blk_cell BK108.out 3).trans rfl⟩ (fun hHeld => ?_)
                clear hK K
                refine norm_ (a' := ?_) ?_ ?_
                rotate_left
                ·
                 show Act.put _ (some 71) _ = _
                 simp only [Act.put, List.setIfInBounds_toArray, List.set_cons_zero, List.set_cons_succ, i64_w, i32_w]
                 rfl
                refine pz 7 (some 77) (lb 11 151) rfl rfl HT_.out ?_
                refine one_ (i := 3) (N := some 73) (lb 11 159) rfl rfl (one_of HT_.out zk) (by decide) (fun K hK => ?_)
                refine goes_ Try.func50 zk rfl #[.agg #[.int .i64 ((rd_T24 l0 x28_2).f0), .int .i64 ((rd_T24 l0 x28_2).f1), .bool ((rd_T24 l0 x28_2).f2), .bool ((rd_T24 l0 x28_2).f3)]] (by rfl) rfl rfl zm ?_
                with_reducible refine (impl_Area_end.calls ((rd_T24 l0 x28_2).f0) ((rd_T24 l0 x28_2).f1) ((rd_T24 l0 x28_2).f2) ((rd_T24 l0 x28_2).f3) t122 _ A58.out).mono ?_
                rintro e w73 ⟨rfl, hb⟩
                refine ⟨_, rfl, ?_⟩
                replace HO_9 := Aside0.mk (Kd.R_below (rz HO_9.out) hb)
                replace BK101 := Aside0.mk (blk_below (g := gb101) (o := .cells #[.int .i64 a1, .int .i64 a2, .bool false, .bool false] 24 (0, 0)) (kz BK101.out) hb)
                replace BK108 := Aside0.mk (blk_below (g := gb108) (o := .cells #[.int .i64 ((rd_T24 l0 x28_2).f0), .int .i64 ((rd_T24 l0 x28_2).f1), .bool ((rd_T24 l0 x28_2).f2), .bool ((rd_T24 l0 x28_2).f3)] 24 (0, 0)) (kz BK108.out) hb)
                replace BK120 := Aside0.mk (blk_below (g := gb120) (o := .cells #[.int .i64 ((rd_T24 l0 x28_2).f0), .int .i64 ((rd_T24 l0 x28_2).f1), .bool ((rd_T24 l0 x28_2).f2), .bool ((rd_T24 l0 x28_2).f3)] 24 (0, 0)) (kz BK120.out) hb)
                replace HB := Aside0.mk (below_step (by repeat (first | (with_reducible first | exact HB.out | apply below_alloc | apply pw_below_drewN | apply below_drew1 | refine below_set ?_ GE101.out | refine below_set ?_ GE108.out | refine below_set ?_ GE120.out) | exact HB.out)) hb)
                (try clear hb)
                refine hK.out _ _ ⟨(blk_cell BK101.out 0).trans rfl, (blk_cell BK101.out 1).trans rfl, (blk_cell BK101.out 2).trans rfl, (blk_cell BK101.out 3).trans rfl, (blk_cell BK108.out 0).trans rfl, (blk_cell BK108.out 1).trans rfl, (blk_cell BK108.out 2).trans rfl, (blk_cell BK108.out 3).trans rfl⟩ (fun hHeld => ?_)
                clear hK K
                refine norm_ (a' := ?_) ?_ ?_
                rotate_left
                ·
                 show Act.put _ (some 73) _ = _
                 simp only [Act.put, List.setIfInBounds_toArray, List.set_cons_zero, List.set_cons_succ, i64_w, i32_w]
                 rfl
                refine one_ (i := 5) (N := some 75) (lb 11 191) rfl rfl (one_of HT_.out zk) (by decide) (fun K hK => ?_)
                refine goes_ Try.func50 zk rfl #[.agg #[.int .i64 a1, .int .i64 a2, .bool false, .bool false]] (by rfl) rfl rfl zm ?_
                with_reducible refine (impl_Area_end.calls a1 a2 false false t123 _ A59.out).mono ?_
                rintro e w74 ⟨rfl, hb⟩
                refine ⟨_, rfl, ?_⟩
                replace HO_9 := Aside0.mk (Kd.R_below (rz HO_9.out) hb)
                replace BK101 := Aside0.mk (blk_below (g := gb101) (o := .cells #[.int .i64 a1, .int .i64 a2, .bool false, .bool false] 24 (0, 0)) (kz BK101.out) hb)
                replace BK108 := Aside0.mk (blk_below (g := gb108) (o := .cells #[.int .i64 ((rd_T24 l0 x28_2).f0), .int .i64 ((rd_T24 l0 x28_2).f1), .bool ((rd_T24 l0 x28_2).f2), .bool ((rd_T24 l0 x28_2).f3)] 24 (0, 0)) (kz BK108.out) hb)
                replace BK120 := Aside0.mk (blk_below (g := gb120) (o := .cells #[.int .i64 ((rd_T24 l0 x28_2).f0), .int .i64 ((rd_T24 l0 x28_2).f1), .bool ((rd_T24 l0 x28_2).f2), .bool ((rd_T24 l0 x28_2).f3)] 24 (0, 0)) (kz BK120.out) hb)
                replace HB := Aside0.mk (below_step (by repeat (first | (with_reducible first | exact HB.out | apply below_alloc | apply pw_below_drewN | apply below_drew1 | refine below_set ?_ GE101.out | refine below_set ?_ GE108.out | refine below_set ?_ GE120.out) | exact HB.out)) hb)
                (try clear hb)
                refine hK.out _ _ ⟨(blk_cell BK101.out 0).trans rfl, (blk_cell BK101.out 1).trans rfl, (blk_cell BK101.out 2).trans rfl, (blk_cell BK101.out 3).trans rfl, (blk_cell BK108.out 0).trans rfl, (blk_cell BK108.out 1).trans rfl, (blk_cell BK108.out 2).trans rfl, (blk_cell BK108.out 3).trans rfl⟩ (fun hHeld => ?_)
                clear hK K
                refine norm_ (a' := ?_) ?_ ?_
                rotate_left
                ·
                 show Act.put _ (some 75) _ = _
                 simp only [Act.put, List.setIfInBounds_toArray, List.set_cons_zero, List.set_cons_succ, i64_w, i32_w]
                 rfl
                refine pz 6 (some 76) (lb 11 255) rfl rfl HT_.out ?_
                refine one_ (i := 8) (N := none) (lb 11 511) rfl rfl (one_of HT_.out zk) (by decide) (fun K hK => ?_)
                have hs75 : w74.cell? ⟨gb120, 0, none⟩ = some (.int .i64 ((rd_T24 l0 x28_2).f0)) := (blk_cell BK120.out 0).trans rfl
                have hfs75 := blk_frozen BK120.out 0
                have hns75_0 := NB101_120.out
                have hns75_1 := NB108_120.out
                have hms75_0 := NB120_101.out
                have hms75_1 := NB120_108.out
                refine skip_ (w1 := ?_) (by rfl) rfl ?_ ?_
                rotate_left
                ·
                 go_simp
                 rfl
                refine hK.out _ _ ⟨((cell_far (p := ⟨gb120, _, none⟩) NB101_120.out _).trans (hHeld.1)), ((cell_far (p := ⟨gb120, _, none⟩) NB101_120.out _).trans (hHeld.2.1)), ((cell_far (p := ⟨gb120, _, none⟩) NB101_120.out _).trans (hHeld.2.2.1)), ((cell_far (p := ⟨gb120, _, none⟩) NB101_120.out _).trans (hHeld.2.2.2.1)), ((cell_far (p := ⟨gb120, _, none⟩) NB108_120.out _).trans (hHeld.2.2.2.2.1)), ((cell_far (p := ⟨gb120, _, none⟩) NB108_120.out _).trans (hHeld.2.2.2.2.2.1)), ((cell_far (p := ⟨gb120, _, none⟩) NB108_120.out _).trans (hHeld.2.2.2.2.2.2.1)), ((cell_far (p := ⟨gb120, _, none⟩) NB108_120.out _).trans (hHeld.2.2.2.2.2.2.2))⟩ (fun hHeld => ?_)
                clear hK K
                refine pz 9 (some 78) (lb 11 1023) rfl rfl HT_.out ?_
                refine one_ (i := 10) (N := none) (lb 11 2047) rfl rfl (one_of HT_.out zk) (by decide) (fun K hK => ?_)
                have hs76 : w74.cell? ⟨gb120, 1, none⟩ = some (.int .i64 ((rd_T24 l0 x28_2).f1)) := (blk_cell BK120.out 1).trans rfl
                have hfs76 := blk_frozen BK120.out 1
                have hns76_0 := NB101_120.out
                have hns76_1 := NB108_120.out
                have hms76_0 := NB120_101.out
                have hms76_1 := NB120_108.out
                refine skip_ (w1 := ?_) (by rfl) rfl ?_ ?_
                rotate_left
                ·
                 go_simp
                 rfl
                refine hK.out _ _ ⟨((cell_far (p := ⟨gb120, _, none⟩) NB101_120.out _).trans (hHeld.1)), ((cell_far (p := ⟨gb120, _, none⟩) NB101_120.out _).trans (hHeld.2.1)), ((cell_far (p := ⟨gb120, _, none⟩) NB101_120.out _).trans (hHeld.2.2.1)), ((cell_far (p := ⟨gb120, _, none⟩) NB101_120.out _).trans (hHeld.2.2.2.1)), ((cell_far (p := ⟨gb120, _, none⟩) NB108_120.out _).trans (hHeld.2.2.2.2.1)), ((cell_far (p := ⟨gb120, _, none⟩) NB108_120.out _).trans (hHeld.2.2.2.2.2.1)), ((cell_far (p := ⟨gb120, _, none⟩) NB108_120.out _).trans (hHeld.2.2.2.2.2.2.1)), ((cell_far (p := ⟨gb120, _, none⟩) NB108_120.out _).trans (hHeld.2.2.2.2.2.2.2))⟩ (fun hHeld => ?_)
                clear hK K
                refine done_ (done_of HT_.out zk) ?_
                have hcz77_0 : w74.cell? ⟨gb120, 0, none⟩ = some (.int .i64 ((rd_T24 l0 x28_2).f0)) := (blk_cell BK120.out 0).trans rfl
                have hcz77_1 : w74.cell? ⟨gb120, 1, none⟩ = some (.int .i64 ((rd_T24 l0 x28_2).f1)) := (blk_cell BK120.out 1).trans rfl
                have hcz77_2 : w74.cell? ⟨gb120, 2, none⟩ = some (.bool ((rd_T24 l0 x28_2).f2)) := (blk_cell BK120.out 2).trans rfl
                have hcz77_3 : w74.cell? ⟨gb120, 3, none⟩ = some (.bool ((rd_T24 l0 x28_2).f3)) := (blk_cell BK120.out 3).trans rfl
                have hfz77_0 := blk_frozen BK120.out 0
                have hfz77_1 := blk_frozen BK120.out 1
                have hfz77_2 := blk_frozen BK120.out 2
                have hfz77_3 := blk_frozen BK120.out 3
                try go_wp2_with (first | ((with_reducible refine gate_builtin (b := .append) (xs := #[.tmp 79, .tmp 81]) rfl ?_); at_builtin; refine Kd.R_append k24 (w0 := w) w.heap.size rfl (.tmp 79) (.tmp 81) 28 24 (.agg #[(.int .i64 0), (.int .i64 0), (.bool false), (.bool false)]) 24 rfl Try.underlying28 info24 rfl (by decide) (by omega) u9 x9_38 (⟨t121, wrap64 (t122 - t123), ((rd_T24 l0 x28_2).f2), ((rd_T24 l0 x28_2).f3)⟩ : S24) [.int .i64 t121, .int .i64 (wrap64 (t122 - t123)), .bool ((rd_T24 l0 x28_2).f2), .bool ((rd_T24 l0 x28_2).f3)] (fun k_ => k_ ≠ gb101 ∧ k_ ≠ gb108 ∧ k_ ≠ gb120) (fun _ => False) rfl (by first | (go_simp; done) | (go_simp; rfl)) ?aP (fun _ hk => hk.elim) ?aF ?aO ?aB ?aS ?aL ?_; (case aP => exact k24_mkM _ _ _ (⟨t121, wrap64 (t122 - t123), ((rd_T24 l0 x28_2).f2), ((rd_T24 l0 x28_2).f3)⟩ : S24)); (case aB => exact (by repeat (first | (with_reducible first | exact HB.out | apply below_alloc | apply pw_below_drewN | apply below_drew1 | refine below_set ?_ GE101.out | refine below_set ?_ GE108.out | refine below_set ?_ GE120.out) | exact HB.out))); (case aF => exact (fun k_ hk => ⟨Kd.freshB (g := gb101) (o := .cells #[.int .i64 a1, .int .i64 a2, .bool false, .bool false] 24 (0, 0)) (by (with_reducible repeat (first | refine blk_drewN ?_ _ | refine blk_drew ?_ | refine blk_alloc ?_ _)); refine blk_far ?_ NB101_120.out _; (with_reducible repeat (first | refine blk_drewN ?_ _ | refine blk_drew ?_ | refine blk_alloc ?_ _)); refine blk_far ?_ NB101_120.out _; (with_reducible repeat (first | refine blk_drewN ?_ _ | refine blk_drew ?_ | refine blk_alloc ?_ _)); exact BK101.out) k_ hk, Kd.freshB (g := gb108) (o := .cells #[.int .i64 ((rd_T24 l0 x28_2).f0), .int .i64 ((rd_T24 l0 x28_2).f1), .bool ((rd_T24 l0 x28_2).f2), .bool ((rd_T24 l0 x28_2).f3)] 24 (0, 0)) (by (with_reducible repeat (first | refine blk_drewN ?_ _ | refine blk_drew ?_ | refine blk_alloc ?_ _)); refine blk_far ?_ NB108_120.out _; (with_reducible repeat (first | refine blk_drewN ?_ _ | refine blk_drew ?_ | refine blk_alloc ?_ _)); refine blk_far ?_ NB108_120.out _; (with_reducible repeat (first | refine blk_drewN ?_ _ | refine blk_drew ?_ | refine blk_alloc ?_ _)); exact BK108.out) k_ hk, Kd.freshB (g := gb120) (o := .cells #[.int .i64 t121, .int .i64 (wrap64 (t122 - t123)), .bool ((rd_T24 l0 x28_2).f2), .bool ((rd_T24 l0 x28_2).f3)] 24 (0, 0)) (by (with_reducible repeat (first | refine blk_drewN ?_ _ | refine blk_drew ?_ | refine blk_alloc ?_ _)); refine blk_put (cs := #[.int .i64 t121, .int .i64 ((rd_T24 l0 x28_2).f1), .bool ((rd_T24 l0 x28_2).f2), .bool ((rd_T24 l0 x28_2).f3)]) ?_ 1 _ rfl; (with_reducible repeat (first | refine blk_drewN ?_ _ | refine blk_drew ?_ | refine blk_alloc ?_ _)); refine blk_put (cs := #[.int .i64 ((rd_T24 l0 x28_2).f0), .int .i64 ((rd_T24 l0 x28_2).f1), .bool ((rd_T24 l0 x28_2).f2), .bool ((rd_T24 l0 x28_2).f3)]) ?_ 0 _ rfl; (with_reducible repeat (first | refine blk_drewN ?_ _ | refine blk_drew ?_ | refine blk_alloc ?_ _)); exact BK120.out) k_ hk⟩)); (case aO => exact (by (with_reducible repeat (first | apply Kd.R_alloc | apply Kd.R_drewN | apply Kd.R_drew)); exact Kd.R_mono (Kd.R_far (p := ⟨gb120, 1, none⟩) (Kd.R_far (p := ⟨gb120, 0, none⟩) (Kd.R_mono HO_9.out (fun k_ hk => (⟨hk, hk.2.2⟩ : _ ∧ k_ ≠ gb120))) (fun _ hk => hk.2) (.int .i64 t121)) (fun _ hk => hk.2) (.int .i64 (wrap64 (t122 - t123)))) (fun _ hk => ⟨hk.1.1, ⟨hk.1.2.1, hk.1.2.2⟩⟩))); (case aS => exact (below_size (by repeat (first | (with_reducible first | exact HB.out | apply below_alloc | apply pw_below_drewN | apply below_drew1 | refine below_set ?_ GE101.out | refine below_set ?_ GE108.out | refine below_set ?_ GE120.out) | exact HB.out)))); (case aL => have := LMc60.out; omega); intro v125 w78 ho hb hg hat; rw [← Ny124.out] at ho; have n0_ := Aside0.mk (blk_grown (g := gb101) (o := .cells #[.int .i64 a1, .int .i64 a2, .bool false, .bool false] 24 (0, 0)) (by (with_reducible repeat (first | refine blk_drewN ?_ _ | refine blk_drew ?_ | refine blk_alloc ?_ _)); refine blk_far ?_ NB101_120.out _; (with_reducible repeat (first | refine blk_drewN ?_ _ | refine blk_drew ?_ | refine blk_alloc ?_ _)); refine blk_far ?_ NB101_120.out _; (with_reducible repeat (first | refine blk_drewN ?_ _ | refine blk_drew ?_ | refine blk_alloc ?_ _)); exact BK101.out) hg (Kd.R_away HO_9.out (fun _ hk => hk.1))); have n1_ := Aside0.mk (blk_grown (g := gb108) (o := .cells #[.int .i64 ((rd_T24 l0 x28_2).f0), .int .i64 ((rd_T24 l0 x28_2).f1), .bool ((rd_T24 l0 x28_2).f2), .bool ((rd_T24 l0 x28_2).f3)] 24 (0, 0)) (by (with_reducible repeat (first | refine blk_drewN ?_ _ | refine blk_drew ?_ | refine blk_alloc ?_ _)); refine blk_far ?_ NB108_120.out _; (with_reducible repeat (first | refine blk_drewN ?_ _ | refine blk_drew ?_ | refine blk_alloc ?_ _)); refine blk_far ?_ NB108_120.out _; (with_reducible repeat (first | refine blk_drewN ?_ _ | refine blk_drew ?_ | refine blk_alloc ?_ _)); exact BK108.out) hg (Kd.R_away HO_9.out (fun _ hk => hk.2.1))); have n2_ := Aside0.mk (blk_grown (g := gb120) (o := .cells #[.int .i64 t121, .int .i64 (wrap64 (t122 - t123)), .bool ((rd_T24 l0 x28_2).f2), .bool ((rd_T24 l0 x28_2).f3)] 24 (0, 0)) (by (with_reducible repeat (first | refine blk_drewN ?_ _ | refine blk_drew ?_ | refine blk_alloc ?_ _)); refine blk_put (cs := #[.int .i64 t121, .int .i64 ((rd_T24 l0 x28_2).f1), .bool ((rd_T24 l0 x28_2).f2), .bool ((rd_T24 l0 x28_2).f3)]) ?_ 1 _ rfl; (with_reducible repeat (first | refine blk_drewN ?_ _ | refine blk_drew ?_ | refine blk_alloc ?_ _)); refine blk_put (cs := #[.int .i64 ((rd_T24 l0 x28_2).f0), .int .i64 ((rd_T24 l0 x28_2).f1), .bool ((rd_T24 l0 x28_2).f2), .bool ((rd_T24 l0 x28_2).f3)]) ?_ 0 _ rfl; (with_reducible repeat (first | refine blk_drewN ?_ _ | refine blk_drew ?_ | refine blk_alloc ?_ _)); exact BK120.out) hg (Kd.R_away HO_9.out (fun _ hk => hk.2.2))); have n3_ := Aside0.mk (hb); have n4_ := Aside0.mk (ho); clear BK101; clear BK108; clear BK120; clear HB; clear HO_9; have BK101 := n0_; have BK108 := n1_; have BK120 := n2_; have HB := n3_; have HO126 := n4_; clear n0_ n1_ n2_ n3_ n4_; clear ho hb hg hat))
                go_roundg kj38
                case measure => have := HJ3.out; have := HK2.out; have := HJ19.out; have := HJ38.out; omega
                case rel => exact ⟨(y124), (wrap64 (x28_2 + 1)), zr, H', ⟨by have := HJ3.out; have := HK2.out; have := HJ19.out; have := HJ38.out; omega⟩, ⟨by (with_reducible repeat (first | apply Kd.R_alloc | apply Kd.R_drewN | apply Kd.R_drew)); exact Kd.R_mono HO126.out (fun _ hk => hk.1)⟩, ⟨by (with_reducible repeat (first | refine blk_drewN ?_ _ | refine blk_drew ?_ | refine blk_alloc ?_ _)); exact BK101.out⟩, ⟨by repeat (first | (with_reducible first | exact HB.out | apply below_alloc | apply pw_below_drewN | apply below_drew1 | refine below_set ?_ GE101.out | refine below_set ?_ GE108.out | refine below_set ?_ GE120.out) | exact HB.out)⟩⟩
               ·
                rw [if_neg c60] at H
                exact absurd H (by simp)
              ·
               rw [if_neg c56] at H
               have c56b0 : decide (t118 < t119) = false := decide_eq_false c56
               clear c56
               have H' := Aside0.mk H
               clear H
               try go_wp2
               replace HO_9 := Aside0.mk (Kd.R_drew HO_9.out)
               replace BK101 := Aside0.mk (blk_drew BK101.out)
               replace BK108 := Aside0.mk (blk_drew BK108.out)
               replace HB := Aside0.mk (below_drew1 HB.out)
               refine start_ (n := 5) (S := fun w' => w'.cell? ⟨gb101, 0, none⟩ = some (.int .i64 a1) ∧ w'.cell? ⟨gb101, 1, none⟩ = some (.int .i64 a2) ∧ w'.cell? ⟨gb101, 2, none⟩ = some (.bool false) ∧ w'.cell? ⟨gb101, 3, none⟩ = some (.bool false) ∧ w'.cell? ⟨gb108, 0, none⟩ = some (.int .i64 ((rd_T24 l0 x28_2).f0)) ∧ w'.cell? ⟨gb108, 1, none⟩ = some (.int .i64 ((rd_T24 l0 x28_2).f1)) ∧ w'.cell? ⟨gb108, 2, none⟩ = some (.bool ((rd_T24 l0 x28_2).f2)) ∧ w'.cell? ⟨gb108, 3, none⟩ = some (.bool ((rd_T24 l0 x28_2).f3))) (ds := []) (lb 5 0) zk rfl rfl ⟨(blk_cell BK101.out 0).trans rfl, (blk_cell BK101.out 1).trans rfl, (blk_cell BK101.out 2).trans rfl, (blk_cell BK101.out 3).trans rfl, (blk_cell BK108.out 0).trans rfl, (blk_cell BK108.out 1).trans rfl, (blk_cell BK108.out 2).trans rfl, (blk_cell BK108.out 3).trans rfl⟩ (fun hHeld => ?_)
               generalize wc.drew = w79 at HO_9 BK101 BK108 HB hHeld ⊢
               refine take_ (i := 0) (N := some 64) (v := ?_) (a' := ?_) (lb 5 1) rfl rfl zk (fun _ _ _ h => h) (Or.inl ⟨by rfl, ?_⟩) hHeld ?_ ?_; rotate_left; (rintro w' ⟨s0, s1, s2, s3, s4, s5, s6, s7⟩; go_simp; with_reducible rfl); rotate_left; (simp only [Act.put, List.setIfInBounds_toArray, List.set_cons_zero, List.set_cons_succ, i64_w, i32_w]; rfl)
               refine take_ (i := 2) (N := some 66) (v := ?_) (a' := ?_) (lb 5 5) rfl rfl zk (fun _ _ _ h => h) (Or.inl ⟨by rfl, ?_⟩) hHeld ?_ ?_; rotate_left; (rintro w' ⟨s0, s1, s2, s3, s4, s5, s6, s7⟩; go_simp; with_reducible rfl); rotate_left; (simp only [Act.put, List.setIfInBounds_toArray, List.set_cons_zero, List.set_cons_succ, i64_w, i32_w]; rfl)
               refine one_ (i := 1) (N := some 65) (lb 5 7) rfl rfl zk (by decide) (fun K hK => ?_)
               refine goes_ Try.func50 zk rfl #[.agg #[.int .i64 a1, .int .i64 a2, .bool false, .bool false]] (by rfl) rfl rfl zm ?_
               with_reducible refine (impl_Area_end.calls a1 a2 false false t118 _ A54.out).mono ?_
               rintro e w80 ⟨rfl, hb⟩
               refine ⟨_, rfl, ?_⟩
               replace HO_9 := Aside0.mk (Kd.R_below (rz HO_9.out) hb)
               replace BK101 := Aside0.mk (blk_below (g := gb101) (o := .cells #[.int .i64 a1, .int .i64 a2, .bool false, .bool false] 24 (0, 0)) (kz BK101.out) hb)
               replace BK108 := Aside0.mk (blk_below (g := gb108) (o := .cells #[.int .i64 ((rd_T24 l0 x28_2).f0), .int .i64 ((rd_T24 l0 x28_2).f1), .bool ((rd_T24 l0 x28_2).f2), .bool ((rd_T24 l0 x28_2).f3)] 24 (0, 0)) (kz BK108.out) hb)
               replace HB := Aside0.mk (below_step (bs2 HB.out GE101.out GE108.out) hb)
               (try clear hb)
               refine hK.out _ _ ⟨(blk_cell BK101.out 0).trans rfl, (blk_cell BK101.out 1).trans rfl, (blk_cell BK101.out 2).trans rfl, (blk_cell BK101.out 3).trans rfl, (blk_cell BK108.out 0).trans rfl, (blk_cell BK108.out 1).trans rfl, (blk_cell BK108.out 2).trans rfl, (blk_cell BK108.out 3).trans rfl⟩ (fun hHeld => ?_)
               clear hK K
               refine norm_ (a' := ?_) ?_ ?_
               rotate_left
               ·
                show Act.put _ (some 65) _ = _
                simp only [Act.put, List.setIfInBounds_toArray, List.set_cons_zero, List.set_cons_succ, i64_w, i32_w]
                rfl
               refine one_ (i := 3) (N := some 67) (lb 5 15) rfl rfl zk (by decide) (fun K hK => ?_)
               refine goes_ Try.func50 zk rfl #[.agg #[.int .i64 ((rd_T24 l0 x28_2).f0), .int .i64 ((rd_T24 l0 x28_2).f1), .bool ((rd_T24 l0 x28_2).f2), .bool ((rd_T24 l0 x28_2).f3)]] (by rfl) rfl rfl zm ?_
               with_reducible refine (impl_Area_end.calls ((rd_T24 l0 x28_2).f0) ((rd_T24 l0 x28_2).f1) ((rd_T24 l0 x28_2).f2) ((rd_T24 l0 x28_2).f3) t119 _ A55.out).mono ?_
               rintro e w81 ⟨rfl, hb⟩
               refine ⟨_, rfl, ?_⟩
               replace HO_9 := Aside0.mk (Kd.R_below (rz HO_9.out) hb)
               replace BK101 := Aside0.mk (blk_below (g := gb101) (o := .cells #[.int .i64 a1, .int .i64 a2, .bool false, .bool false] 24 (0, 0)) (kz BK101.out) hb)
               replace BK108 := Aside0.mk (blk_below (g := gb108) (o := .cells #[.int .i64 ((rd_T24 l0 x28_2).f0), .int .i64 ((rd_T24 l0 x28_2).f1), .bool ((rd_T24 l0 x28_2).f2), .bool ((rd_T24 l0 x28_2).f3)] 24 (0, 0)) (kz BK108.out) hb)
               replace HB := Aside0.mk (below_step (bs2 HB.out GE101.out GE108.out) hb)
               (try clear hb)
               refine hK.out _ _ ⟨(blk_cell BK101.out 0).trans rfl, (blk_cell BK101.out 1).trans rfl, (blk_cell BK101.out 2).trans rfl, (blk_cell BK101.out 3).trans rfl, (blk_cell BK108.out 0).trans rfl, (blk_cell BK108.out 1).trans rfl, (blk_cell BK108.out 2).trans rfl, (blk_cell BK108.out 3).trans rfl⟩ (fun hHeld => ?_)
               clear hK K
               refine norm_ (a' := ?_) ?_ ?_
               rotate_left
               ·
                show Act.put _ (some 67) _ = _
                simp only [Act.put, List.setIfInBounds_toArray, List.set_cons_zero, List.set_cons_succ, i64_w, i32_w]
                rfl
               refine pure_ (i := 4) (N := some 68) (v := ?_) (a' := ?_) (lb 5 31) rfl rfl zk (fun _ _ _ h => h) (Or.inl ⟨by rfl, ?_⟩) ?_ ?_; rotate_left; (intro w'; go_simp; with_reducible rfl); rotate_left; (simp only [Act.put, List.setIfInBounds_toArray, List.set_cons_zero, List.set_cons_succ, i64_w, i32_w]; rfl)
               refine done_ zk ?_
               try go_wp2
               go_roundg kj38
               case measure => have := HJ3.out; have := HK2.out; have := HJ19.out; have := HJ38.out; omega
               case rel => exact ⟨(x9_38), (wrap64 (x28_2 + 1)), zr, H', ⟨by have := HJ3.out; have := HK2.out; have := HJ19.out; have := HJ38.out; omega⟩, ⟨by (with_reducible repeat (first | apply Kd.R_alloc | apply Kd.R_drewN | apply Kd.R_drew)); exact Kd.R_mono HO_9.out (fun _ hk => hk.1)⟩, ⟨by (with_reducible repeat (first | refine blk_drewN ?_ _ | refine blk_drew ?_ | refine blk_alloc ?_ _)); exact BK101.out⟩, ⟨bs2 HB.out GE101.out GE108.out⟩⟩
        ·
         rw [if_neg c19] at H
         exact absurd H (by simp)
       ·
        rw [if_neg c18] at H
        exact absurd H (by simp)
      ·
       rw [if_neg c17] at H
       have c17b0 : decide (x28_2 < (l0.length : Int)) = false := decide_eq_false c17
       clear c17
       by_cases c82 : (x9_2.length : Int) > 6
       ·
        rw [if_pos c82] at H
        have c82b0 : decide (6 < (x9_2.length : Int)) = true := decide_eq_true c82
        have c82b1 : decide (6 < x9_2.length) = true := decide_eq_true (by omega)
        clear c82
        simp only [Option.some.injEq, Prod.mk.injEq] at H
        obtain ⟨rfl, rfl⟩ := H
        obtain ⟨Ao83, co83, eo83⟩ := Kd.R_slice HO_9.out
        subst eo83
        go_wp2
        go_ret2
        exact ⟨_, ze, by first | exact Kd.R_nil _ _ _ _ _ | exact Kd.N_nil _ _ _ _ _ | exact Kd.V_nil _ _ _ _ _ | exact Kd.Q_nil _ _ _ _ _ | exact Kd.S_nil _ _ _ _ _, bs HB.out GE101.out⟩
       ·
        rw [if_neg c82] at H
        have c82b0 : decide (6 < (x9_2.length : Int)) = false := decide_eq_false c82
        have c82b1 : decide (6 < x9_2.length) = false := decide_eq_false (by omega)
        clear c82
        simp only [Option.some.injEq, Prod.mk.injEq] at H
        obtain ⟨rfl, rfl⟩ := H
        obtain ⟨Ao84, co84, eo84⟩ := Kd.R_slice HO_9.out
        subst eo84
        go_wp2
        go_ret2
        exact ⟨_, ze, by (with_reducible repeat (first | apply Kd.R_alloc | apply Kd.R_drewN | apply Kd.R_drew)); exact Kd.R_mono HO_9.out (fun _ hk => trivial), bs HB.out GE101.out⟩

end Go.Proofs.Ytlahnekinlkfmaa.P
