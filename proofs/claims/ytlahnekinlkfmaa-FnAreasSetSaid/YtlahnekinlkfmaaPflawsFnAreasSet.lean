-- printed by this session's own driver (wip/qd.py) out of the translation; Lean checks it
import Derived.Test.YtlahnekinlkfmaaPf0
import Derived.Test.YtlahnekinlkfmaaPfimplAreasOk
import Derived.Test.YtlahnekinlkfmaaPfimplAreasPages
import Derived.Test.YtlahnekinlkfmaaPfimplAreasAt
import Derived.Test.YtlahnekinlkfmaaPflawsqdAreas
import Derived.Test.YtlahnekinlkfmaaPfspecDrawAreasSet
import Derived.Test.YtlahnekinlkfmaaPfimplAreasSet
import Derived.Test.YtlahnekinlkfmaaPfspecAreasSet
namespace Go.Proofs.Ytlahnekinlkfmaa.P
open Go.RowKit Go.Proofs.YtlahnekinlkfmaaW.PrintWords Go.Proofs.YtlahnekinlkfmaaW.PrintLast Go.Proofs.YtlahnekinlkfmaaW.PrintMore
attribute [local go_sem] max2_int min2_int max_two min_two max_three min_three max_four min_four Q.cell_set_map   -- for this text's walks alone
set_option linter.unusedVariables false
set_option linter.unusedSimpArgs false

/-! ### laws_FnAreasSet: function 16 -/
mutual
def laws_FnAreasSet.j0 : Nat → List (S24) → Int → Int → Bool → List (S24) → Bool → Bool → Option (Bool)
 | 0, _, _, _, _, _, _, _ => none
 | k + 1, x3, x4, x5, x6, x7, x8, x11 => if x11 = true then (laws_FnAreasSet.j1 k x3 x4 x5 x6 x7 true (!x8)) else (laws_FnAreasSet.j1 k x3 x4 x5 x6 x7 false true)
def laws_FnAreasSet.j1 : Nat → List (S24) → Int → Int → Bool → List (S24) → Bool → Bool → Option (Bool)
 | 0, _, _, _, _, _, _, _ => none
 | k + 1, x3, x4, x5, x6, x7, x11, x55 => if x55 = true then (some x11) else (laws_FnAreasSet.l0 k x3 x4 x5 x6 x7 0)
def laws_FnAreasSet.l0 : Nat → List (S24) → Int → Int → Bool → List (S24) → Int → Option (Bool)
 | 0, _, _, _, _, _, _ => none
 | k + 1, x3, x4, x5, x6, x7, x12 => if x12 < 16 then ((impl_AreasAt.f k x7 x12).bind fun t119 => ((impl_AreasAt.f k x3 x12).bind fun t120 => (if x12 ≥ x4 then (if ((decide (t119 ≥ 0)) != (decide (t120 ≥ 0))) = true then (some false) else (if x12 < (wrap64 (x4 + x5)) then (if t119 < 0 then (some false) else (if t119 ≥ 0 then (if 0 ≤ t119 then (if t119 < (x7.length : Int) then (if 0 ≤ t120 then (if t120 < (x3.length : Int) then (if (((rd_T24 x7 t119).f3) != ((rd_T24 x3 t120).f3)) = true then (some false) else (if (((rd_T24 x7 t119).f2) != x6) = true then (some false) else (laws_FnAreasSet.l0 k x3 x4 x5 x6 x7 (wrap64 (x12 + 1))))) else (none)) else (none)) else (none)) else (none)) else (laws_FnAreasSet.l0 k x3 x4 x5 x6 x7 (wrap64 (x12 + 1))))) else (if t119 ≥ 0 then (if 0 ≤ t119 then (if t119 < (x7.length : Int) then (if 0 ≤ t120 then (if t120 < (x3.length : Int) then (if (((rd_T24 x7 t119).f3) != ((rd_T24 x3 t120).f3)) = true then (some false) else (if (((rd_T24 x7 t119).f2) != ((rd_T24 x3 t120).f2)) = true then (some false) else (laws_FnAreasSet.l0 k x3 x4 x5 x6 x7 (wrap64 (x12 + 1))))) else (none)) else (none)) else (none)) else (none)) else (laws_FnAreasSet.l0 k x3 x4 x5 x6 x7 (wrap64 (x12 + 1)))))) else (if ((decide (t119 ≥ 0)) != (decide (t120 ≥ 0))) = true then (some false) else (if t119 ≥ 0 then (if 0 ≤ t119 then (if t119 < (x7.length : Int) then (if 0 ≤ t120 then (if t120 < (x3.length : Int) then (if (((rd_T24 x7 t119).f3) != ((rd_T24 x3 t120).f3)) = true then (some false) else (if (((rd_T24 x7 t119).f2) != ((rd_T24 x3 t120).f2)) = true then (some false) else (laws_FnAreasSet.l0 k x3 x4 x5 x6 x7 (wrap64 (x12 + 1))))) else (none)) else (none)) else (none)) else (none)) else (laws_FnAreasSet.l0 k x3 x4 x5 x6 x7 (wrap64 (x12 + 1)))))))) else ((impl_AreasOk.f k x7).bind fun t116 => (if t116 = true then ((impl_AreasPages.f k x7).bind fun t117 => ((impl_AreasPages.f k x3).bind fun t118 => (some (t117 == t118)))) else (some false)))
end
def laws_FnAreasSet.f (k : Nat) (l0 : List Int) : Option (Bool) := if (l0.length : Int) > 1048576 then (some true) else ((spec_DrawAreasSet.f k l0).bind fun bt101 => ((impl_AreasSet.f k bt101.1 bt101.2.1 bt101.2.2.1 bt101.2.2.2).bind fun bt107 => ((spec_AreasSet.f k bt101.1 bt101.2.1 bt101.2.2.1 bt101.2.2.2).bind fun bt111 => ((laws_qdAreas.f k bt107.1 bt111.1).bind fun t115 => (if t115 = true then (laws_FnAreasSet.j0 k bt101.1 bt101.2.1 bt101.2.2.1 bt101.2.2.2 bt107.1 bt107.2 (bt107.2 == bt111.2)) else (laws_FnAreasSet.j0 k bt101.1 bt101.2.1 bt101.2.2.1 bt101.2.2.2 bt107.1 bt107.2 false))))))
theorem laws_FnAreasSet.mono_l : ∀ k, (∀ y0 y1 y2 y3 y4 y5 y6, LeO (laws_FnAreasSet.j0 k y0 y1 y2 y3 y4 y5 y6) (laws_FnAreasSet.j0 (k + 1) y0 y1 y2 y3 y4 y5 y6)) ∧ (∀ y0 y1 y2 y3 y4 y5 y6, LeO (laws_FnAreasSet.j1 k y0 y1 y2 y3 y4 y5 y6) (laws_FnAreasSet.j1 (k + 1) y0 y1 y2 y3 y4 y5 y6)) ∧ (∀ y0 y1 y2 y3 y4 y5, LeO (laws_FnAreasSet.l0 k y0 y1 y2 y3 y4 y5) (laws_FnAreasSet.l0 (k + 1) y0 y1 y2 y3 y4 y5))
 | 0 => ⟨fun _ _ _ _ _ _ _ r h => by simp [laws_FnAreasSet.j0] at h, fun _ _ _ _ _ _ _ r h => by simp [laws_FnAreasSet.j1] at h, fun _ _ _ _ _ _ r h => by simp [laws_FnAreasSet.l0] at h⟩
 | k + 1 => by
  obtain ⟨ih0, ih1, ih2⟩ := laws_FnAreasSet.mono_l k
  refine ⟨?_, ?_, ?_⟩
  ·
   intro y0 y1 y2 y3 y4 y5 y6
   unfold laws_FnAreasSet.j0
   repeat' first
   | (with_reducible exact ih0 _ _ _ _ _ _ _)
   | (with_reducible exact ih1 _ _ _ _ _ _ _)
   | (with_reducible exact ih2 _ _ _ _ _ _)
   | (with_reducible exact impl_AreasAt.mono _ _ _)
   | (with_reducible exact impl_AreasOk.mono _ _)
   | (with_reducible exact impl_AreasPages.mono _ _)
   | (with_reducible exact impl_AreasSet.mono _ _ _ _ _)
   | (with_reducible exact laws_qdAreas.mono _ _ _)
   | (with_reducible exact spec_AreasSet.mono _ _ _ _ _)
   | (with_reducible exact spec_DrawAreasSet.mono _ _)
   | (with_reducible exact LeO.refl _)
   | (with_reducible exact LeO.none _)
   | (with_reducible refine LeO.ite ?_ ?_)
   | (with_reducible refine LeO.bind ?_ (fun _ => ?_))
   | exact ih0 _ _ _ _ _ _ _
   | exact ih1 _ _ _ _ _ _ _
   | exact ih2 _ _ _ _ _ _
   | exact impl_AreasAt.mono _ _ _
   | exact impl_AreasOk.mono _ _
   | exact impl_AreasPages.mono _ _
   | exact impl_AreasSet.mono _ _ _ _ _
   | exact laws_qdAreas.mono _ _ _
   | exact spec_AreasSet.mono _ _ _ _ _
   | exact spec_DrawAreasSet.mono _ _
   | exact LeO.none _
   | refine LeO.ite ?_ ?_
   | refine LeO.bind ?_ (fun _ => ?_)
  ·
   intro y0 y1 y2 y3 y4 y5 y6
   unfold laws_FnAreasSet.j1
   repeat' first
   | (with_reducible exact ih0 _ _ _ _ _ _ _)
   | (with_reducible exact ih1 _ _ _ _ _ _ _)
   | (with_reducible exact ih2 _ _ _ _ _ _)
   | (with_reducible exact impl_AreasAt.mono _ _ _)
   | (with_reducible exact impl_AreasOk.mono _ _)
   | (with_reducible exact impl_AreasPages.mono _ _)
   | (with_reducible exact impl_AreasSet.mono _ _ _ _ _)
   | (with_reducible exact laws_qdAreas.mono _ _ _)
   | (with_reducible exact spec_AreasSet.mono _ _ _ _ _)
   | (with_reducible exact spec_DrawAreasSet.mono _ _)
   | (with_reducible exact LeO.refl _)
   | (with_reducible exact LeO.none _)
   | (with_reducible refine LeO.ite ?_ ?_)
   | (with_reducible refine LeO.bind ?_ (fun _ => ?_))
   | exact ih0 _ _ _ _ _ _ _
   | exact ih1 _ _ _ _ _ _ _
   | exact ih2 _ _ _ _ _ _
   | exact impl_AreasAt.mono _ _ _
   | exact impl_AreasOk.mono _ _
   | exact impl_AreasPages.mono _ _
   | exact impl_AreasSet.mono _ _ _ _ _
   | exact laws_qdAreas.mono _ _ _
   | exact spec_AreasSet.mono _ _ _ _ _
   | exact spec_DrawAreasSet.mono _ _
   | exact LeO.none _
   | refine LeO.ite ?_ ?_
   | refine LeO.bind ?_ (fun _ => ?_)
  ·
   intro y0 y1 y2 y3 y4 y5
   unfold laws_FnAreasSet.l0
   repeat' first
   | (with_reducible exact ih0 _ _ _ _ _ _ _)
   | (with_reducible exact ih1 _ _ _ _ _ _ _)
   | (with_reducible exact ih2 _ _ _ _ _ _)
   | (with_reducible exact impl_AreasAt.mono _ _ _)
   | (with_reducible exact impl_AreasOk.mono _ _)
   | (with_reducible exact impl_AreasPages.mono _ _)
   | (with_reducible exact impl_AreasSet.mono _ _ _ _ _)
   | (with_reducible exact laws_qdAreas.mono _ _ _)
   | (with_reducible exact spec_AreasSet.mono _ _ _ _ _)
   | (with_reducible exact spec_DrawAreasSet.mono _ _)
   | (with_reducible exact LeO.refl _)
   | (with_reducible exact LeO.none _)
   | (with_reducible refine LeO.ite ?_ ?_)
   | (with_reducible refine LeO.bind ?_ (fun _ => ?_))
   | exact ih0 _ _ _ _ _ _ _
   | exact ih1 _ _ _ _ _ _ _
   | exact ih2 _ _ _ _ _ _
   | exact impl_AreasAt.mono _ _ _
   | exact impl_AreasOk.mono _ _
   | exact impl_AreasPages.mono _ _
   | exact impl_AreasSet.mono _ _ _ _ _
   | exact laws_qdAreas.mono _ _ _
   | exact spec_AreasSet.mono _ _ _ _ _
   | exact spec_DrawAreasSet.mono _ _
   | exact LeO.none _
   | refine LeO.ite ?_ ?_
   | refine LeO.bind ?_ (fun _ => ?_)
theorem laws_FnAreasSet.mono : ∀ a0 k, LeO (laws_FnAreasSet.f k a0) (laws_FnAreasSet.f (k + 1) a0) := by
 intro a0 k
 obtain ⟨ih0, ih1, ih2⟩ := laws_FnAreasSet.mono_l k
 unfold laws_FnAreasSet.f
 repeat' first
   | (with_reducible exact ih0 _ _ _ _ _ _ _)
   | (with_reducible exact ih1 _ _ _ _ _ _ _)
   | (with_reducible exact ih2 _ _ _ _ _ _)
   | (with_reducible exact impl_AreasAt.mono _ _ _)
   | (with_reducible exact impl_AreasOk.mono _ _)
   | (with_reducible exact impl_AreasPages.mono _ _)
   | (with_reducible exact impl_AreasSet.mono _ _ _ _ _)
   | (with_reducible exact laws_qdAreas.mono _ _ _)
   | (with_reducible exact spec_AreasSet.mono _ _ _ _ _)
   | (with_reducible exact spec_DrawAreasSet.mono _ _)
   | (with_reducible exact LeO.refl _)
   | (with_reducible exact LeO.none _)
   | (with_reducible refine LeO.ite ?_ ?_)
   | (with_reducible refine LeO.bind ?_ (fun _ => ?_))
   | exact ih0 _ _ _ _ _ _ _
   | exact ih1 _ _ _ _ _ _ _
   | exact ih2 _ _ _ _ _ _
   | exact impl_AreasAt.mono _ _ _
   | exact impl_AreasOk.mono _ _
   | exact impl_AreasPages.mono _ _
   | exact impl_AreasSet.mono _ _ _ _ _
   | exact laws_qdAreas.mono _ _ _
   | exact spec_AreasSet.mono _ _ _ _ _
   | exact spec_DrawAreasSet.mono _ _
   | exact LeO.none _
   | refine LeO.ite ?_ ?_
   | refine LeO.bind ?_ (fun _ => ?_)
set_option maxHeartbeats 8000000 in
set_option maxRecDepth 100000 in
theorem laws_FnAreasSet.calls (k : Nat) (A0 : Option Addr) (c0 : Nat) (l0 : List Int) (r : Bool) (w : World) (hr0 : Kd.C (Kd.int .u8) w A0 l0.length l0) (hc0 : l0.length ≤ c0) (h : laws_FnAreasSet.f k l0 = some r) :
  Calls Try.prog 16 #[.slice A0 l0.length c0] w fun e w' => e = .returned (.bool r) ∧ Below w.heap.size w w' := by
 have HR0 := Aside0.mk hr0
 have HC0 := Aside0.mk hc0
 clear hr0 hc0
 have HB := Aside0.mk (Below.refl w.heap.size w)
 have H : (if (l0.length : Int) > 1048576 then (some true) else ((spec_DrawAreasSet.f k l0).bind fun bt101 => ((impl_AreasSet.f k bt101.1 bt101.2.1 bt101.2.2.1 bt101.2.2.2).bind fun bt107 => ((spec_AreasSet.f k bt101.1 bt101.2.1 bt101.2.2.1 bt101.2.2.2).bind fun bt111 => ((laws_qdAreas.f k bt107.1 bt111.1).bind fun t115 => (if t115 = true then (laws_FnAreasSet.j0 k bt101.1 bt101.2.1 bt101.2.2.1 bt101.2.2.2 bt107.1 bt107.2 (bt107.2 == bt111.2)) else (laws_FnAreasSet.j0 k bt101.1 bt101.2.1 bt101.2.2.1 bt101.2.2.2 bt107.1 bt107.2 false))))))) = some r := h
 clear h
 by_cases c2 : (l0.length : Int) > 1048576
 ·
  rw [if_pos c2] at H
  have c2b0 : decide (1048576 < (l0.length : Int)) = true := decide_eq_true c2
  have c2b1 : decide (1048576 < l0.length) = true := decide_eq_true (by omega)
  clear c2
  obtain rfl := Option.some.inj H
  go_enter Try.func16, Try.ntmps16
  go_wp2
  repeat (go_quiet (fail); try go_wp2)
  go_ret
  exact ⟨ze, bz HB.out⟩
 ·
  rw [if_neg c2] at H
  have c2b0 : decide (1048576 < (l0.length : Int)) = false := decide_eq_false c2
  have c2b1 : decide (1048576 < l0.length) = false := decide_eq_false (by omega)
  clear c2
  replace H := Option.bind_eq_some_iff.mp H
  obtain ⟨⟨t101, t102, t103, t104⟩, A30, H⟩ := H
  replace H : ((impl_AreasSet.f k t101 t102 t103 t104).bind fun bt107 => ((spec_AreasSet.f k t101 t102 t103 t104).bind fun bt111 => ((laws_qdAreas.f k bt107.1 bt111.1).bind fun t115 => (if t115 = true then (laws_FnAreasSet.j0 k t101 t102 t103 t104 bt107.1 bt107.2 (bt107.2 == bt111.2)) else (laws_FnAreasSet.j0 k t101 t102 t103 t104 bt107.1 bt107.2 false))))) = some r := H
  have A3 := Aside0.mk A30
  clear A30
  replace H := Option.bind_eq_some_iff.mp H
  obtain ⟨⟨t107, t108⟩, A40, H⟩ := H
  replace H : ((spec_AreasSet.f k t101 t102 t103 t104).bind fun bt111 => ((laws_qdAreas.f k t107 bt111.1).bind fun t115 => (if t115 = true then (laws_FnAreasSet.j0 k t101 t102 t103 t104 t107 t108 (t108 == bt111.2)) else (laws_FnAreasSet.j0 k t101 t102 t103 t104 t107 t108 false)))) = some r := H
  have A4 := Aside0.mk A40
  clear A40
  replace H := Option.bind_eq_some_iff.mp H
  obtain ⟨⟨t111, t112⟩, A50, H⟩ := H
  replace H : ((laws_qdAreas.f k t107 t111).bind fun t115 => (if t115 = true then (laws_FnAreasSet.j0 k t101 t102 t103 t104 t107 t108 (t108 == t112)) else (laws_FnAreasSet.j0 k t101 t102 t103 t104 t107 t108 false))) = some r := H
  have A5 := Aside0.mk A50
  clear A50
  have HC6 := Aside0.mk H
  clear H
  go_enter Try.func16, Try.ntmps16
  go_upto_region 6 with (first | (go_at_call 43; (with_reducible refine (spec_DrawAreasSet.calls k _ _ l0 t101 t102 t103 t104 _ ?side1 ?side2 A3.out).mono ?_); (case side1 => exact cz HR0.out); (case side2 => exact HC0.out); rintro e w7 ⟨v105, rfl, ho0, hb⟩; have HO106 := Aside0.mk (Kd.R_lower ho0 (below_size (bz HB.out))); replace HB := Aside0.mk (below_step (bz HB.out) hb); (try clear hb); (try clear ho0); obtain ⟨Ao8, co8, eo8⟩ := Kd.R_slice HO106.out; subst eo8) | (go_at_call 44; (with_reducible refine (impl_AreasSet.calls k _ _ t101 t102 t103 t104 t107 t108 _ ?side1 ?side2 A4.out).mono ?_); (case side1 => exact cz ((Kd.R_reads' HO106.out).2.2)); (case side2 => exact (Kd.R_reads' HO106.out).2.1); rintro e w9 ⟨v109, rfl, ho0, hb⟩; have HO110 := Aside0.mk (Kd.R_lower (Kd.R_new' ho0 (Kd.R_lt (rz HO106.out))) (below_size (bz HB.out))); replace HO106 := Aside0.mk (Kd.R_elder' (rz HO106.out) (Kd.R_base ho0) hb); replace HB := Aside0.mk (below_step (bz HB.out) hb); (try clear hb); (try clear ho0)) | (go_at_call 45; (with_reducible refine (spec_AreasSet.calls k _ _ t101 t102 t103 t104 t111 t112 _ ?side1 ?side2 A5.out).mono ?_); (case side1 => exact cz ((Kd.R_reads' HO106.out).2.2)); (case side2 => exact (Kd.R_reads' HO106.out).2.1); rintro e w10 ⟨v113, rfl, ho0, hb⟩; have HO114 := Aside0.mk (Kd.R_lower (Kd.R_new' (Kd.R_new' ho0 (Kd.R_lt (rz HO106.out))) (Kd.R_lt (rz HO110.out))) (below_size (bz HB.out))); replace HO106 := Aside0.mk (Kd.R_elder' (rz HO106.out) (Kd.R_base ho0) hb); replace HO110 := Aside0.mk (Kd.R_elder' (rz HO110.out) (Kd.R_base ho0) hb); replace HB := Aside0.mk (below_step (bz HB.out) hb); (try clear hb); (try clear ho0)))
  repeat (go_quiet (fail); go_upto_region 6 with (first | (go_at_call 43; (with_reducible refine (spec_DrawAreasSet.calls k _ _ l0 t101 t102 t103 t104 _ ?side1 ?side2 A3.out).mono ?_); (case side1 => exact cz HR0.out); (case side2 => exact HC0.out); rintro e w7 ⟨v105, rfl, ho0, hb⟩; have HO106 := Aside0.mk (Kd.R_lower ho0 (below_size (bz HB.out))); replace HB := Aside0.mk (below_step (bz HB.out) hb); (try clear hb); (try clear ho0); obtain ⟨Ao8, co8, eo8⟩ := Kd.R_slice HO106.out; subst eo8) | (go_at_call 44; (with_reducible refine (impl_AreasSet.calls k _ _ t101 t102 t103 t104 t107 t108 _ ?side1 ?side2 A4.out).mono ?_); (case side1 => exact cz ((Kd.R_reads' HO106.out).2.2)); (case side2 => exact (Kd.R_reads' HO106.out).2.1); rintro e w9 ⟨v109, rfl, ho0, hb⟩; have HO110 := Aside0.mk (Kd.R_lower (Kd.R_new' ho0 (Kd.R_lt (rz HO106.out))) (below_size (bz HB.out))); replace HO106 := Aside0.mk (Kd.R_elder' (rz HO106.out) (Kd.R_base ho0) hb); replace HB := Aside0.mk (below_step (bz HB.out) hb); (try clear hb); (try clear ho0)) | (go_at_call 45; (with_reducible refine (spec_AreasSet.calls k _ _ t101 t102 t103 t104 t111 t112 _ ?side1 ?side2 A5.out).mono ?_); (case side1 => exact cz ((Kd.R_reads' HO106.out).2.2)); (case side2 => exact (Kd.R_reads' HO106.out).2.1); rintro e w10 ⟨v113, rfl, ho0, hb⟩; have HO114 := Aside0.mk (Kd.R_lower (Kd.R_new' (Kd.R_new' ho0 (Kd.R_lt (rz HO106.out))) (Kd.R_lt (rz HO110.out))) (below_size (bz HB.out))); replace HO106 := Aside0.mk (Kd.R_elder' (rz HO106.out) (Kd.R_base ho0) hb); replace HO110 := Aside0.mk (Kd.R_elder' (rz HO110.out) (Kd.R_base ho0) hb); replace HB := Aside0.mk (below_step (bz HB.out) hb); (try clear hb); (try clear ho0))))
  (try simp only [Act.put, List.setIfInBounds_toArray, List.set_cons_zero, List.set_cons_succ])
  go_cut [11] (fun v11 wc => ∃ (kq : Nat) (x11_5 : Bool), v11 = .bool x11_5 ∧ Aside0 (laws_FnAreasSet.j0 kq t101 t102 t103 t104 t107 t108 x11_5 = some r) ∧ Aside0 (kq ≤ k) ∧ Aside0 (Kd.R k24 24 wc w.heap.size (fun k_ => some k_ ≠ (v109 : Value).ownBlock) (.slice Ao8 t101.length co8) t101) ∧ Aside0 (Kd.R k24 24 wc w.heap.size (fun k_ => some k_ ≠ ((.slice Ao8 t101.length co8) : Value).ownBlock) v109 t107) ∧ Aside0 (Below w.heap.size w wc))
  case first =>
   have H := HC6.out
   clear HC6
   replace H := Option.bind_eq_some_iff.mp H
   obtain ⟨t115, A110, H⟩ := H
   have A11 := Aside0.mk A110
   clear A110
   by_cases c12 : t115 = true
   ·
    subst c12
    rw [if_pos rfl] at H
    have H' := Aside0.mk H
    clear H
    obtain ⟨Ao13, co13, eo13⟩ := Kd.R_slice HO110.out
    subst eo13
    obtain ⟨Ao14, co14, eo14⟩ := Kd.R_slice HO114.out
    subst eo14
    go_wp2_with (first | (go_at_call 36; (with_reducible refine (laws_qdAreas.calls k _ _ t107 _ _ t111 true _ ?side1 ?side2 ?side3 ?side4 A11.out).mono ?_); (case side1 => exact cz ((Kd.R_reads' HO110.out).2.2)); (case side2 => exact (Kd.R_reads' HO110.out).2.1); (case side3 => exact cz ((Kd.R_reads' HO114.out).2.2)); (case side4 => exact (Kd.R_reads' HO114.out).2.1); rintro e w' ⟨rfl, ⟨nd, rfl⟩⟩; (try first | exact ⟨rfl, _, World.drewN_drewN _ _ _⟩ | exact ⟨rfl, _, Eq.trans (World.drewN_drewN _ _ _) (congrArg (World.drewN _) (Nat.add_assoc _ _ _))⟩)))
    repeat (go_quiet (first | (go_at_call 36; (with_reducible refine (laws_qdAreas.calls k _ _ t107 _ _ t111 true _ ?side1 ?side2 ?side3 ?side4 A11.out).mono ?_); (case side1 => exact cz ((Kd.R_reads' HO110.out).2.2)); (case side2 => exact (Kd.R_reads' HO110.out).2.1); (case side3 => exact cz ((Kd.R_reads' HO114.out).2.2)); (case side4 => exact (Kd.R_reads' HO114.out).2.1); rintro e w' ⟨rfl, ⟨nd, rfl⟩⟩; (try first | exact ⟨rfl, _, World.drewN_drewN _ _ _⟩ | exact ⟨rfl, _, Eq.trans (World.drewN_drewN _ _ _) (congrArg (World.drewN _) (Nat.add_assoc _ _ _))⟩))); try go_wp2_with (first | (go_at_call 36; (with_reducible refine (laws_qdAreas.calls k _ _ t107 _ _ t111 true _ ?side1 ?side2 ?side3 ?side4 A11.out).mono ?_); (case side1 => exact cz ((Kd.R_reads' HO110.out).2.2)); (case side2 => exact (Kd.R_reads' HO110.out).2.1); (case side3 => exact cz ((Kd.R_reads' HO114.out).2.2)); (case side4 => exact (Kd.R_reads' HO114.out).2.1); rintro e w' ⟨rfl, ⟨nd, rfl⟩⟩; (try first | exact ⟨rfl, _, World.drewN_drewN _ _ _⟩ | exact ⟨rfl, _, Eq.trans (World.drewN_drewN _ _ _) (congrArg (World.drewN _) (Nat.add_assoc _ _ _))⟩))))
    go_meet
    case rel => exact ⟨_, ((t108 == t112)), zr, H', ⟨by first | omega | exact Nat.le_refl _⟩, ⟨by (with_reducible repeat (first | apply Kd.R_alloc | apply Kd.R_drewN | apply Kd.R_drew)); exact Kd.R_mono HO106.out (fun _ hk => hk.1.2)⟩, ⟨by (with_reducible repeat (first | apply Kd.R_alloc | apply Kd.R_drewN | apply Kd.R_drew)); exact Kd.R_mono HO110.out (fun _ hk => hk.1.2)⟩, ⟨bz HB.out⟩⟩
   ·
    replace c12 := Bool.eq_false_iff.mpr c12
    subst c12
    rw [if_neg nf_] at H
    have H' := Aside0.mk H
    clear H
    obtain ⟨Ao15, co15, eo15⟩ := Kd.R_slice HO110.out
    subst eo15
    obtain ⟨Ao16, co16, eo16⟩ := Kd.R_slice HO114.out
    subst eo16
    go_wp2_with (first | (go_at_call 36; (with_reducible refine (laws_qdAreas.calls k _ _ t107 _ _ t111 false _ ?side1 ?side2 ?side3 ?side4 A11.out).mono ?_); (case side1 => exact cz ((Kd.R_reads' HO110.out).2.2)); (case side2 => exact (Kd.R_reads' HO110.out).2.1); (case side3 => exact cz ((Kd.R_reads' HO114.out).2.2)); (case side4 => exact (Kd.R_reads' HO114.out).2.1); rintro e w' ⟨rfl, ⟨nd, rfl⟩⟩; (try first | exact ⟨rfl, _, World.drewN_drewN _ _ _⟩ | exact ⟨rfl, _, Eq.trans (World.drewN_drewN _ _ _) (congrArg (World.drewN _) (Nat.add_assoc _ _ _))⟩)))
    repeat (go_quiet (first | (go_at_call 36; (with_reducible refine (laws_qdAreas.calls k _ _ t107 _ _ t111 false _ ?side1 ?side2 ?side3 ?side4 A11.out).mono ?_); (case side1 => exact cz ((Kd.R_reads' HO110.out).2.2)); (case side2 => exact (Kd.R_reads' HO110.out).2.1); (case side3 => exact cz ((Kd.R_reads' HO114.out).2.2)); (case side4 => exact (Kd.R_reads' HO114.out).2.1); rintro e w' ⟨rfl, ⟨nd, rfl⟩⟩; (try first | exact ⟨rfl, _, World.drewN_drewN _ _ _⟩ | exact ⟨rfl, _, Eq.trans (World.drewN_drewN _ _ _) (congrArg (World.drewN _) (Nat.add_assoc _ _ _))⟩))); try go_wp2_with (first | (go_at_call 36; (with_reducible refine (laws_qdAreas.calls k _ _ t107 _ _ t111 false _ ?side1 ?side2 ?side3 ?side4 A11.out).mono ?_); (case side1 => exact cz ((Kd.R_reads' HO110.out).2.2)); (case side2 => exact (Kd.R_reads' HO110.out).2.1); (case side3 => exact cz ((Kd.R_reads' HO114.out).2.2)); (case side4 => exact (Kd.R_reads' HO114.out).2.1); rintro e w' ⟨rfl, ⟨nd, rfl⟩⟩; (try first | exact ⟨rfl, _, World.drewN_drewN _ _ _⟩ | exact ⟨rfl, _, Eq.trans (World.drewN_drewN _ _ _) (congrArg (World.drewN _) (Nat.add_assoc _ _ _))⟩))))
    go_meet
    case rel => exact ⟨_, (false), zr, H', ⟨by first | omega | exact Nat.le_refl _⟩, ⟨by (with_reducible repeat (first | apply Kd.R_alloc | apply Kd.R_drewN | apply Kd.R_drew)); exact Kd.R_mono HO106.out (fun _ hk => hk.1.2)⟩, ⟨by (with_reducible repeat (first | apply Kd.R_alloc | apply Kd.R_drewN | apply Kd.R_drew)); exact Kd.R_mono HO110.out (fun _ hk => hk.1.2)⟩, ⟨bz HB.out⟩⟩
  case rest =>
   clear HC6
   try clear c1
   try clear c2
   try clear c2b0
   try clear c2b1
   try clear p2
   try clear c12
   try clear c16
   obtain ⟨kq, x11_5, rfl, HA, HJ5, HO_3, HO_7, HB⟩ := hcut
   cases kq with
   | zero => exact absurd HA.out (by simp [laws_FnAreasSet.j0])
   | succ kj5 =>
    have H := HA.out
    clear HA
    simp only [laws_FnAreasSet.j0] at H
    have HC17 := Aside0.mk H
    clear H
    go_upto_region 7 with (fail)
    repeat (go_quiet (fail); go_upto_region 7 with (fail))
    go_cut [55] (fun v55 wc => ∃ (kq : Nat) (x55_16 : Bool), v55 = .bool x55_16 ∧ Aside0 (laws_FnAreasSet.j1 kq t101 t102 t103 t104 t107 x11_5 x55_16 = some r) ∧ Aside0 (kq ≤ kj5) ∧ Aside0 (Kd.R k24 24 wc w.heap.size (fun k_ => some k_ ≠ (v109 : Value).ownBlock) (.slice Ao8 t101.length co8) t101) ∧ Aside0 (Kd.R k24 24 wc w.heap.size (fun k_ => some k_ ≠ ((.slice Ao8 t101.length co8) : Value).ownBlock) v109 t107) ∧ Aside0 (Below w.heap.size w wc))
    case first =>
     have H := HC17.out
     clear HC17
     by_cases c18 : x11_5 = true
     ·
      subst c18
      rw [if_pos rfl] at H
      have H' := Aside0.mk H
      clear H
      go_wp2
      repeat (go_quiet (fail); try go_wp2)
      go_meet
      case rel => exact ⟨_, (!t108), zr, H', ⟨by have := HJ5.out; first | omega | exact Nat.le_refl _⟩, ⟨by (with_reducible repeat (first | apply Kd.R_alloc | apply Kd.R_drewN | apply Kd.R_drew)); exact HO_3.out⟩, ⟨by (with_reducible repeat (first | apply Kd.R_alloc | apply Kd.R_drewN | apply Kd.R_drew)); exact HO_7.out⟩, ⟨bz HB.out⟩⟩
     ·
      replace c18 := Bool.eq_false_iff.mpr c18
      subst c18
      rw [if_neg nf_] at H
      have H' := Aside0.mk H
      clear H
      go_wp2
      repeat (go_quiet (fail); try go_wp2)
      go_meet
      case rel => exact ⟨_, (true), zr, H', ⟨by have := HJ5.out; first | omega | exact Nat.le_refl _⟩, ⟨by (with_reducible repeat (first | apply Kd.R_alloc | apply Kd.R_drewN | apply Kd.R_drew)); exact HO_3.out⟩, ⟨by (with_reducible repeat (first | apply Kd.R_alloc | apply Kd.R_drewN | apply Kd.R_drew)); exact HO_7.out⟩, ⟨bz HB.out⟩⟩
    case rest =>
     clear HC17
     try clear c1
     try clear c2
     try clear c2b0
     try clear c2b1
     try clear p2
     try clear c12
     try clear c16
     try clear c18
     try clear p2
     obtain ⟨kq, x55_16, rfl, HA, HJ16, HO_3, HO_7, HB⟩ := hcut
     cases kq with
     | zero => exact absurd HA.out (by simp [laws_FnAreasSet.j1])
     | succ kj16 =>
      have H := HA.out
      clear HA
      simp only [laws_FnAreasSet.j1] at H
      by_cases c19 : x55_16 = true
      ·
       subst c19
       rw [if_pos rfl] at H
       obtain rfl := Option.some.inj H
       go_wp2
       repeat (go_quiet (fail); try go_wp2)
       go_ret
       exact ⟨ze, bz HB.out⟩
      ·
       replace c19 := Bool.eq_false_iff.mpr c19
       subst c19
       rw [if_neg nf_] at H
       have H' := Aside0.mk H
       clear H
       go_wp2
       repeat (go_quiet (fail); try go_wp2)
       go_loopg [12] kj16 (fun kq v12 w' => ∃ (x12_3 : Int), v12 = .int .i64 x12_3 ∧ Aside0 (laws_FnAreasSet.l0 kq t101 t102 t103 t104 t107 x12_3 = some r) ∧ Aside0 (kq ≤ kj16) ∧ Aside0 (Kd.R k24 24 w' w.heap.size (fun k_ => some k_ ≠ (v109 : Value).ownBlock) (.slice Ao8 t101.length co8) t101) ∧ Aside0 (Kd.R k24 24 w' w.heap.size (fun k_ => some k_ ≠ ((.slice Ao8 t101.length co8) : Value).ownBlock) v109 t107) ∧ Aside0 (Below w.heap.size w w'))
       case atStart => exact ⟨(0), zr, H', ⟨Nat.le_refl _⟩, ⟨by (with_reducible repeat (first | apply Kd.R_alloc | apply Kd.R_drewN | apply Kd.R_drew)); exact HO_3.out⟩, ⟨by (with_reducible repeat (first | apply Kd.R_alloc | apply Kd.R_drewN | apply Kd.R_drew)); exact HO_7.out⟩, ⟨bz HB.out⟩⟩
       case round =>
        clear H'
        try clear c1
        try clear c2
        try clear c2b0
        try clear c2b1
        try clear p2
        try clear c12
        try clear c16
        try clear c18
        try clear c19
        try clear p2
        obtain ⟨x12_3, rfl, HA, HK3, HO_3, HO_7, HB⟩ := hrel
        cases gk with
        | zero => exact absurd HA.out (by simp [laws_FnAreasSet.l0])
        | succ k3 =>
         have H := HA.out
         clear HA
         simp only [laws_FnAreasSet.l0] at H
         by_cases c20 : x12_3 < 16
         ·
          rw [if_pos c20] at H
          have c20b0 : decide (x12_3 < 16) = true := decide_eq_true c20
          clear c20
          replace H := Option.bind_eq_some_iff.mp H
          obtain ⟨t119, A210, H⟩ := H
          have A21 := Aside0.mk A210
          clear A210
          replace H := Option.bind_eq_some_iff.mp H
          obtain ⟨t120, A220, H⟩ := H
          have A22 := Aside0.mk A220
          clear A220
          by_cases c23 : x12_3 ≥ t102
          ·
           rw [if_pos c23] at H
           have c23b0 : decide (t102 ≤ x12_3) = true := decide_eq_true c23
           clear c23
           by_cases c24 : ((decide (t119 ≥ 0)) != (decide (t120 ≥ 0))) = true
           ·
            rw [if_pos c24] at H
            have c24b0 : ((decide (t119 ≥ 0)) != (decide (t120 ≥ 0))) = true := c24
            (try (have c24b1 : decide ((decide (t119 ≥ 0)) = (decide (t120 ≥ 0))) = false := by simpa using c24))
            (try (have c24b2 : ((decide (t119 ≥ 0)) == (decide (t120 ≥ 0))) = false := by simpa using c24))
            (try (have c24b3 : ¬ ((decide (t119 ≥ 0)) = (decide (t120 ≥ 0))) := by simpa using c24))
            clear c24
            obtain rfl := Option.some.inj H
            obtain ⟨Ao25, co25, eo25⟩ := Kd.R_slice HO_7.out
            subst eo25
            go_wp2_with (first | (go_at_call 29; (with_reducible refine (impl_AreasAt.calls k3 _ _ t107 x12_3 t119 _ ?side1 ?side2 A21.out).mono ?_); (case side1 => exact cz ((Kd.R_reads' HO_7.out).2.2)); (case side2 => exact (Kd.R_reads' HO_7.out).2.1); rintro e w26 ⟨rfl, hb⟩; replace HO_3 := Aside0.mk (Kd.R_below (rz HO_3.out) hb); replace HO_7 := Aside0.mk (Kd.R_below (rz HO_7.out) hb); replace HB := Aside0.mk (below_step (bz HB.out) hb); (try clear hb)) | (go_at_call 29; (with_reducible refine (impl_AreasAt.calls k3 _ _ t101 x12_3 t120 _ ?side1 ?side2 A22.out).mono ?_); (case side1 => exact cz ((Kd.R_reads' HO_3.out).2.2)); (case side2 => exact (Kd.R_reads' HO_3.out).2.1); rintro e w27 ⟨rfl, hb⟩; replace HO_3 := Aside0.mk (Kd.R_below (rz HO_3.out) hb); replace HO_7 := Aside0.mk (Kd.R_below (rz HO_7.out) hb); replace HB := Aside0.mk (below_step (bz HB.out) hb); (try clear hb)))
            repeat (go_quiet (fail); try go_wp2_with (first | (go_at_call 29; (with_reducible refine (impl_AreasAt.calls k3 _ _ t107 x12_3 t119 _ ?side1 ?side2 A21.out).mono ?_); (case side1 => exact cz ((Kd.R_reads' HO_7.out).2.2)); (case side2 => exact (Kd.R_reads' HO_7.out).2.1); rintro e w26 ⟨rfl, hb⟩; replace HO_3 := Aside0.mk (Kd.R_below (rz HO_3.out) hb); replace HO_7 := Aside0.mk (Kd.R_below (rz HO_7.out) hb); replace HB := Aside0.mk (below_step (bz HB.out) hb); (try clear hb)) | (go_at_call 29; (with_reducible refine (impl_AreasAt.calls k3 _ _ t101 x12_3 t120 _ ?side1 ?side2 A22.out).mono ?_); (case side1 => exact cz ((Kd.R_reads' HO_3.out).2.2)); (case side2 => exact (Kd.R_reads' HO_3.out).2.1); rintro e w27 ⟨rfl, hb⟩; replace HO_3 := Aside0.mk (Kd.R_below (rz HO_3.out) hb); replace HO_7 := Aside0.mk (Kd.R_below (rz HO_7.out) hb); replace HB := Aside0.mk (below_step (bz HB.out) hb); (try clear hb))))
            go_ret
            exact ⟨ze, bz HB.out⟩
           ·
            rw [if_neg c24] at H
            have c24b0 : ((decide (t119 ≥ 0)) != (decide (t120 ≥ 0))) = false := by simpa using c24
            (try (have c24b1 : decide ((decide (t119 ≥ 0)) = (decide (t120 ≥ 0))) = true := by simpa using c24))
            (try (have c24b2 : ((decide (t119 ≥ 0)) == (decide (t120 ≥ 0))) = true := by simpa using c24))
            clear c24
            by_cases c28 : x12_3 < (wrap64 (t102 + t103))
            ·
             rw [if_pos c28] at H
             have c28b0 : decide (x12_3 < (wrap64 (t102 + t103))) = true := decide_eq_true c28
             clear c28
             by_cases c29 : t119 < 0
             ·
              rw [if_pos c29] at H
              have c29b0 : decide (t119 < 0) = true := decide_eq_true c29
              clear c29
              obtain rfl := Option.some.inj H
              obtain ⟨Ao30, co30, eo30⟩ := Kd.R_slice HO_7.out
              subst eo30
              go_wp2_with (first | (go_at_call 29; (with_reducible refine (impl_AreasAt.calls k3 _ _ t107 x12_3 t119 _ ?side1 ?side2 A21.out).mono ?_); (case side1 => exact cz ((Kd.R_reads' HO_7.out).2.2)); (case side2 => exact (Kd.R_reads' HO_7.out).2.1); rintro e w31 ⟨rfl, hb⟩; replace HO_3 := Aside0.mk (Kd.R_below (rz HO_3.out) hb); replace HO_7 := Aside0.mk (Kd.R_below (rz HO_7.out) hb); replace HB := Aside0.mk (below_step (bz HB.out) hb); (try clear hb)) | (go_at_call 29; (with_reducible refine (impl_AreasAt.calls k3 _ _ t101 x12_3 t120 _ ?side1 ?side2 A22.out).mono ?_); (case side1 => exact cz ((Kd.R_reads' HO_3.out).2.2)); (case side2 => exact (Kd.R_reads' HO_3.out).2.1); rintro e w32 ⟨rfl, hb⟩; replace HO_3 := Aside0.mk (Kd.R_below (rz HO_3.out) hb); replace HO_7 := Aside0.mk (Kd.R_below (rz HO_7.out) hb); replace HB := Aside0.mk (below_step (bz HB.out) hb); (try clear hb)))
              repeat (go_quiet (fail); try go_wp2_with (first | (go_at_call 29; (with_reducible refine (impl_AreasAt.calls k3 _ _ t107 x12_3 t119 _ ?side1 ?side2 A21.out).mono ?_); (case side1 => exact cz ((Kd.R_reads' HO_7.out).2.2)); (case side2 => exact (Kd.R_reads' HO_7.out).2.1); rintro e w31 ⟨rfl, hb⟩; replace HO_3 := Aside0.mk (Kd.R_below (rz HO_3.out) hb); replace HO_7 := Aside0.mk (Kd.R_below (rz HO_7.out) hb); replace HB := Aside0.mk (below_step (bz HB.out) hb); (try clear hb)) | (go_at_call 29; (with_reducible refine (impl_AreasAt.calls k3 _ _ t101 x12_3 t120 _ ?side1 ?side2 A22.out).mono ?_); (case side1 => exact cz ((Kd.R_reads' HO_3.out).2.2)); (case side2 => exact (Kd.R_reads' HO_3.out).2.1); rintro e w32 ⟨rfl, hb⟩; replace HO_3 := Aside0.mk (Kd.R_below (rz HO_3.out) hb); replace HO_7 := Aside0.mk (Kd.R_below (rz HO_7.out) hb); replace HB := Aside0.mk (below_step (bz HB.out) hb); (try clear hb))))
              go_ret
              exact ⟨ze, bz HB.out⟩
             ·
              rw [if_neg c29] at H
              have c29b0 : decide (t119 < 0) = false := decide_eq_false c29
              clear c29
              by_cases c33 : t119 ≥ 0
              ·
               rw [if_pos c33] at H
               have c33b0 : decide (0 ≤ t119) = true := decide_eq_true c33
               have c33d4 : decide (0 ≤ t120) = true := by have h_ : ((decide (0 ≤ t119)) != (decide (0 ≤ t120))) = false := c24b0; rw [c33b0] at h_; revert h_; cases decide (0 ≤ t120) <;> simp
               clear c33
               by_cases c34 : 0 ≤ t119
               ·
                rw [if_pos c34] at H
                have c34b0 : decide (0 ≤ t119) = true := decide_eq_true c34
                have c34d4 : decide (0 ≤ t120) = true := by have h_ : ((decide (0 ≤ t119)) != (decide (0 ≤ t120))) = false := c24b0; rw [c34b0] at h_; revert h_; cases decide (0 ≤ t120) <;> simp
                clear c34
                by_cases c35 : t119 < (t107.length : Int)
                ·
                 rw [if_pos c35] at H
                 have c35b0 : decide (t119 < (t107.length : Int)) = true := decide_eq_true c35
                 clear c35
                 by_cases c36 : 0 ≤ t120
                 ·
                  rw [if_pos c36] at H
                  have c36b0 : decide (0 ≤ t120) = true := decide_eq_true c36
                  have c36d4 : decide (0 ≤ t119) = true := by have h_ : ((decide (0 ≤ t119)) != (decide (0 ≤ t120))) = false := c24b0; rw [c36b0] at h_; revert h_; cases decide (0 ≤ t119) <;> simp
                  clear c36
                  by_cases c37 : t120 < (t101.length : Int)
                  ·
                   rw [if_pos c37] at H
                   have c37b0 : decide (t120 < (t101.length : Int)) = true := decide_eq_true c37
                   clear c37
                   by_cases c38 : (((rd_T24 t107 t119).f3) != ((rd_T24 t101 t120).f3)) = true
                   ·
                    rw [if_pos c38] at H
                    have c38b0 : (((rd_T24 t107 t119).f3) != ((rd_T24 t101 t120).f3)) = true := c38
                    (try (have c38b1 : decide (((rd_T24 t107 t119).f3) = ((rd_T24 t101 t120).f3)) = false := by simpa using c38))
                    (try (have c38b2 : (((rd_T24 t107 t119).f3) == ((rd_T24 t101 t120).f3)) = false := by simpa using c38))
                    (try (have c38b3 : ¬ (((rd_T24 t107 t119).f3) = ((rd_T24 t101 t120).f3)) := by simpa using c38))
                    clear c38
                    obtain rfl := Option.some.inj H
                    obtain ⟨Ao39, co39, eo39⟩ := Kd.R_slice HO_7.out
                    subst eo39
                    go_wp2_with (first | (go_at_call 29; (with_reducible refine (impl_AreasAt.calls k3 _ _ t107 x12_3 t119 _ ?side1 ?side2 A21.out).mono ?_); (case side1 => exact cz ((Kd.R_reads' HO_7.out).2.2)); (case side2 => exact (Kd.R_reads' HO_7.out).2.1); rintro e w40 ⟨rfl, hb⟩; replace HO_3 := Aside0.mk (Kd.R_below (rz HO_3.out) hb); replace HO_7 := Aside0.mk (Kd.R_below (rz HO_7.out) hb); replace HB := Aside0.mk (below_step (bz HB.out) hb); (try clear hb)) | (go_at_call 29; (with_reducible refine (impl_AreasAt.calls k3 _ _ t101 x12_3 t120 _ ?side1 ?side2 A22.out).mono ?_); (case side1 => exact cz ((Kd.R_reads' HO_3.out).2.2)); (case side2 => exact (Kd.R_reads' HO_3.out).2.1); rintro e w41 ⟨rfl, hb⟩; replace HO_3 := Aside0.mk (Kd.R_below (rz HO_3.out) hb); replace HO_7 := Aside0.mk (Kd.R_below (rz HO_7.out) hb); replace HB := Aside0.mk (below_step (bz HB.out) hb); (try clear hb); have p121 : 0 ≤ (t119 : Int) := of_decide_eq_true zs; have q121 : t119 < (t107.length : Int) := of_decide_eq_true zs; obtain ⟨ad121, e121, hx121_0, hx121_1, hx121_2, hx121_3⟩ := at_T24 (Kd.R_reads' HO_7.out).2.2 t119 p121 q121; cases e121; replace p121 := eq_true p121; replace q121 := eq_true q121; have p122 : 0 ≤ (t120 : Int) := of_decide_eq_true zs; have q122 : t120 < (t101.length : Int) := of_decide_eq_true zs; obtain ⟨ad122, e122, hx122_0, hx122_1, hx122_2, hx122_3⟩ := at_T24 (Kd.R_reads' HO_3.out).2.2 t120 p122 q122; cases e122; replace p122 := eq_true p122; replace q122 := eq_true q122))
                    repeat (go_quiet (fail); try go_wp2_with (first | (go_at_call 29; (with_reducible refine (impl_AreasAt.calls k3 _ _ t107 x12_3 t119 _ ?side1 ?side2 A21.out).mono ?_); (case side1 => exact cz ((Kd.R_reads' HO_7.out).2.2)); (case side2 => exact (Kd.R_reads' HO_7.out).2.1); rintro e w40 ⟨rfl, hb⟩; replace HO_3 := Aside0.mk (Kd.R_below (rz HO_3.out) hb); replace HO_7 := Aside0.mk (Kd.R_below (rz HO_7.out) hb); replace HB := Aside0.mk (below_step (bz HB.out) hb); (try clear hb)) | (go_at_call 29; (with_reducible refine (impl_AreasAt.calls k3 _ _ t101 x12_3 t120 _ ?side1 ?side2 A22.out).mono ?_); (case side1 => exact cz ((Kd.R_reads' HO_3.out).2.2)); (case side2 => exact (Kd.R_reads' HO_3.out).2.1); rintro e w41 ⟨rfl, hb⟩; replace HO_3 := Aside0.mk (Kd.R_below (rz HO_3.out) hb); replace HO_7 := Aside0.mk (Kd.R_below (rz HO_7.out) hb); replace HB := Aside0.mk (below_step (bz HB.out) hb); (try clear hb); have p121 : 0 ≤ (t119 : Int) := of_decide_eq_true zs; have q121 : t119 < (t107.length : Int) := of_decide_eq_true zs; obtain ⟨ad121, e121, hx121_0, hx121_1, hx121_2, hx121_3⟩ := at_T24 (Kd.R_reads' HO_7.out).2.2 t119 p121 q121; cases e121; replace p121 := eq_true p121; replace q121 := eq_true q121; have p122 : 0 ≤ (t120 : Int) := of_decide_eq_true zs; have q122 : t120 < (t101.length : Int) := of_decide_eq_true zs; obtain ⟨ad122, e122, hx122_0, hx122_1, hx122_2, hx122_3⟩ := at_T24 (Kd.R_reads' HO_3.out).2.2 t120 p122 q122; cases e122; replace p122 := eq_true p122; replace q122 := eq_true q122)))
                    go_ret
                    exact ⟨ze, bz HB.out⟩
                   ·
                    rw [if_neg c38] at H
                    have c38b0 : (((rd_T24 t107 t119).f3) != ((rd_T24 t101 t120).f3)) = false := by simpa using c38
                    (try (have c38b1 : decide (((rd_T24 t107 t119).f3) = ((rd_T24 t101 t120).f3)) = true := by simpa using c38))
                    (try (have c38b2 : (((rd_T24 t107 t119).f3) == ((rd_T24 t101 t120).f3)) = true := by simpa using c38))
                    clear c38
                    by_cases c42 : (((rd_T24 t107 t119).f2) != t104) = true
                    ·
                     rw [if_pos c42] at H
                     have c42b0 : (((rd_T24 t107 t119).f2) != t104) = true := c42
                     (try (have c42b1 : decide (((rd_T24 t107 t119).f2) = t104) = false := by simpa using c42))
                     (try (have c42b2 : (((rd_T24 t107 t119).f2) == t104) = false := by simpa using c42))
                     (try (have c42b3 : ¬ (((rd_T24 t107 t119).f2) = t104) := by simpa using c42))
                     clear c42
                     obtain rfl := Option.some.inj H
                     obtain ⟨Ao43, co43, eo43⟩ := Kd.R_slice HO_7.out
                     subst eo43
                     go_wp2_with (first | (go_at_call 29; (with_reducible refine (impl_AreasAt.calls k3 _ _ t107 x12_3 t119 _ ?side1 ?side2 A21.out).mono ?_); (case side1 => exact cz ((Kd.R_reads' HO_7.out).2.2)); (case side2 => exact (Kd.R_reads' HO_7.out).2.1); rintro e w44 ⟨rfl, hb⟩; replace HO_3 := Aside0.mk (Kd.R_below (rz HO_3.out) hb); replace HO_7 := Aside0.mk (Kd.R_below (rz HO_7.out) hb); replace HB := Aside0.mk (below_step (bz HB.out) hb); (try clear hb)) | (go_at_call 29; (with_reducible refine (impl_AreasAt.calls k3 _ _ t101 x12_3 t120 _ ?side1 ?side2 A22.out).mono ?_); (case side1 => exact cz ((Kd.R_reads' HO_3.out).2.2)); (case side2 => exact (Kd.R_reads' HO_3.out).2.1); rintro e w45 ⟨rfl, hb⟩; replace HO_3 := Aside0.mk (Kd.R_below (rz HO_3.out) hb); replace HO_7 := Aside0.mk (Kd.R_below (rz HO_7.out) hb); replace HB := Aside0.mk (below_step (bz HB.out) hb); (try clear hb); have p121 : 0 ≤ (t119 : Int) := of_decide_eq_true zs; have q121 : t119 < (t107.length : Int) := of_decide_eq_true zs; obtain ⟨ad121, e121, hx121_0, hx121_1, hx121_2, hx121_3⟩ := at_T24 (Kd.R_reads' HO_7.out).2.2 t119 p121 q121; cases e121; replace p121 := eq_true p121; replace q121 := eq_true q121; have p122 : 0 ≤ (t120 : Int) := of_decide_eq_true zs; have q122 : t120 < (t101.length : Int) := of_decide_eq_true zs; obtain ⟨ad122, e122, hx122_0, hx122_1, hx122_2, hx122_3⟩ := at_T24 (Kd.R_reads' HO_3.out).2.2 t120 p122 q122; cases e122; replace p122 := eq_true p122; replace q122 := eq_true q122; have p123 : 0 ≤ (t119 : Int) := of_decide_eq_true zs; have q123 : t119 < (t107.length : Int) := of_decide_eq_true zs; obtain ⟨ad123, e123, hx123_0, hx123_1, hx123_2, hx123_3⟩ := at_T24 (Kd.R_reads' HO_7.out).2.2 t119 p123 q123; obtain rfl : ad121 = ad123 := (by injection e123); replace p123 := eq_true p123; replace q123 := eq_true q123))
                     repeat (go_quiet (fail); try go_wp2_with (first | (go_at_call 29; (with_reducible refine (impl_AreasAt.calls k3 _ _ t107 x12_3 t119 _ ?side1 ?side2 A21.out).mono ?_); (case side1 => exact cz ((Kd.R_reads' HO_7.out).2.2)); (case side2 => exact (Kd.R_reads' HO_7.out).2.1); rintro e w44 ⟨rfl, hb⟩; replace HO_3 := Aside0.mk (Kd.R_below (rz HO_3.out) hb); replace HO_7 := Aside0.mk (Kd.R_below (rz HO_7.out) hb); replace HB := Aside0.mk (below_step (bz HB.out) hb); (try clear hb)) | (go_at_call 29; (with_reducible refine (impl_AreasAt.calls k3 _ _ t101 x12_3 t120 _ ?side1 ?side2 A22.out).mono ?_); (case side1 => exact cz ((Kd.R_reads' HO_3.out).2.2)); (case side2 => exact (Kd.R_reads' HO_3.out).2.1); rintro e w45 ⟨rfl, hb⟩; replace HO_3 := Aside0.mk (Kd.R_below (rz HO_3.out) hb); replace HO_7 := Aside0.mk (Kd.R_below (rz HO_7.out) hb); replace HB := Aside0.mk (below_step (bz HB.out) hb); (try clear hb); have p121 : 0 ≤ (t119 : Int) := of_decide_eq_true zs; have q121 : t119 < (t107.length : Int) := of_decide_eq_true zs; obtain ⟨ad121, e121, hx121_0, hx121_1, hx121_2, hx121_3⟩ := at_T24 (Kd.R_reads' HO_7.out).2.2 t119 p121 q121; cases e121; replace p121 := eq_true p121; replace q121 := eq_true q121; have p122 : 0 ≤ (t120 : Int) := of_decide_eq_true zs; have q122 : t120 < (t101.length : Int) := of_decide_eq_true zs; obtain ⟨ad122, e122, hx122_0, hx122_1, hx122_2, hx122_3⟩ := at_T24 (Kd.R_reads' HO_3.out).2.2 t120 p122 q122; cases e122; replace p122 := eq_true p122; replace q122 := eq_true q122; have p123 : 0 ≤ (t119 : Int) := of_decide_eq_true zs; have q123 : t119 < (t107.length : Int) := of_decide_eq_true zs; obtain ⟨ad123, e123, hx123_0, hx123_1, hx123_2, hx123_3⟩ := at_T24 (Kd.R_reads' HO_7.out).2.2 t119 p123 q123; obtain rfl : ad121 = ad123 := (by injection e123); replace p123 := eq_true p123; replace q123 := eq_true q123)))
                     go_ret
                     exact ⟨ze, bz HB.out⟩
                    ·
                     rw [if_neg c42] at H
                     have c42b0 : (((rd_T24 t107 t119).f2) != t104) = false := by simpa using c42
                     (try (have c42b1 : decide (((rd_T24 t107 t119).f2) = t104) = true := by simpa using c42))
                     (try (have c42b2 : (((rd_T24 t107 t119).f2) == t104) = true := by simpa using c42))
                     clear c42
                     have H' := Aside0.mk H
                     clear H
                     obtain ⟨Ao46, co46, eo46⟩ := Kd.R_slice HO_7.out
                     subst eo46
                     go_wp2_with (first | (go_at_call 29; (with_reducible refine (impl_AreasAt.calls k3 _ _ t107 x12_3 t119 _ ?side1 ?side2 A21.out).mono ?_); (case side1 => exact cz ((Kd.R_reads' HO_7.out).2.2)); (case side2 => exact (Kd.R_reads' HO_7.out).2.1); rintro e w47 ⟨rfl, hb⟩; replace HO_3 := Aside0.mk (Kd.R_below (rz HO_3.out) hb); replace HO_7 := Aside0.mk (Kd.R_below (rz HO_7.out) hb); replace HB := Aside0.mk (below_step (bz HB.out) hb); (try clear hb)) | (go_at_call 29; (with_reducible refine (impl_AreasAt.calls k3 _ _ t101 x12_3 t120 _ ?side1 ?side2 A22.out).mono ?_); (case side1 => exact cz ((Kd.R_reads' HO_3.out).2.2)); (case side2 => exact (Kd.R_reads' HO_3.out).2.1); rintro e w48 ⟨rfl, hb⟩; replace HO_3 := Aside0.mk (Kd.R_below (rz HO_3.out) hb); replace HO_7 := Aside0.mk (Kd.R_below (rz HO_7.out) hb); replace HB := Aside0.mk (below_step (bz HB.out) hb); (try clear hb); have p121 : 0 ≤ (t119 : Int) := of_decide_eq_true zs; have q121 : t119 < (t107.length : Int) := of_decide_eq_true zs; obtain ⟨ad121, e121, hx121_0, hx121_1, hx121_2, hx121_3⟩ := at_T24 (Kd.R_reads' HO_7.out).2.2 t119 p121 q121; cases e121; replace p121 := eq_true p121; replace q121 := eq_true q121; have p122 : 0 ≤ (t120 : Int) := of_decide_eq_true zs; have q122 : t120 < (t101.length : Int) := of_decide_eq_true zs; obtain ⟨ad122, e122, hx122_0, hx122_1, hx122_2, hx122_3⟩ := at_T24 (Kd.R_reads' HO_3.out).2.2 t120 p122 q122; cases e122; replace p122 := eq_true p122; replace q122 := eq_true q122; have p123 : 0 ≤ (t119 : Int) := of_decide_eq_true zs; have q123 : t119 < (t107.length : Int) := of_decide_eq_true zs; obtain ⟨ad123, e123, hx123_0, hx123_1, hx123_2, hx123_3⟩ := at_T24 (Kd.R_reads' HO_7.out).2.2 t119 p123 q123; obtain rfl : ad121 = ad123 := (by injection e123); replace p123 := eq_true p123; replace q123 := eq_true q123))
                     repeat (go_quiet (fail); try go_wp2_with (first | (go_at_call 29; (with_reducible refine (impl_AreasAt.calls k3 _ _ t107 x12_3 t119 _ ?side1 ?side2 A21.out).mono ?_); (case side1 => exact cz ((Kd.R_reads' HO_7.out).2.2)); (case side2 => exact (Kd.R_reads' HO_7.out).2.1); rintro e w47 ⟨rfl, hb⟩; replace HO_3 := Aside0.mk (Kd.R_below (rz HO_3.out) hb); replace HO_7 := Aside0.mk (Kd.R_below (rz HO_7.out) hb); replace HB := Aside0.mk (below_step (bz HB.out) hb); (try clear hb)) | (go_at_call 29; (with_reducible refine (impl_AreasAt.calls k3 _ _ t101 x12_3 t120 _ ?side1 ?side2 A22.out).mono ?_); (case side1 => exact cz ((Kd.R_reads' HO_3.out).2.2)); (case side2 => exact (Kd.R_reads' HO_3.out).2.1); rintro e w48 ⟨rfl, hb⟩; replace HO_3 := Aside0.mk (Kd.R_below (rz HO_3.out) hb); replace HO_7 := Aside0.mk (Kd.R_below (rz HO_7.out) hb); replace HB := Aside0.mk (below_step (bz HB.out) hb); (try clear hb); have p121 : 0 ≤ (t119 : Int) := of_decide_eq_true zs; have q121 : t119 < (t107.length : Int) := of_decide_eq_true zs; obtain ⟨ad121, e121, hx121_0, hx121_1, hx121_2, hx121_3⟩ := at_T24 (Kd.R_reads' HO_7.out).2.2 t119 p121 q121; cases e121; replace p121 := eq_true p121; replace q121 := eq_true q121; have p122 : 0 ≤ (t120 : Int) := of_decide_eq_true zs; have q122 : t120 < (t101.length : Int) := of_decide_eq_true zs; obtain ⟨ad122, e122, hx122_0, hx122_1, hx122_2, hx122_3⟩ := at_T24 (Kd.R_reads' HO_3.out).2.2 t120 p122 q122; cases e122; replace p122 := eq_true p122; replace q122 := eq_true q122; have p123 : 0 ≤ (t119 : Int) := of_decide_eq_true zs; have q123 : t119 < (t107.length : Int) := of_decide_eq_true zs; obtain ⟨ad123, e123, hx123_0, hx123_1, hx123_2, hx123_3⟩ := at_T24 (Kd.R_reads' HO_7.out).2.2 t119 p123 q123; obtain rfl : ad121 = ad123 := (by injection e123); replace p123 := eq_true p123; replace q123 := eq_true q123)))
                     go_roundg k3
                     case measure => have := HJ5.out; have := HJ16.out; have := HK3.out; omega
                     case rel => exact ⟨(wrap64 (x12_3 + 1)), zr, H', ⟨by have := HJ5.out; have := HJ16.out; have := HK3.out; omega⟩, ⟨by (with_reducible repeat (first | apply Kd.R_alloc | apply Kd.R_drewN | apply Kd.R_drew)); exact HO_3.out⟩, ⟨by (with_reducible repeat (first | apply Kd.R_alloc | apply Kd.R_drewN | apply Kd.R_drew)); exact HO_7.out⟩, ⟨bz HB.out⟩⟩
                  ·
                   rw [if_neg c37] at H
                   exact absurd H (by simp)
                 ·
                  rw [if_neg c36] at H
                  exact absurd H (by simp)
                ·
                 rw [if_neg c35] at H
                 exact absurd H (by simp)
               ·
                rw [if_neg c34] at H
                exact absurd H (by simp)
              ·
               rw [if_neg c33] at H
               have c33b0 : decide (0 ≤ t119) = false := decide_eq_false c33
               have c33d4 : decide (0 ≤ t120) = false := by have h_ : ((decide (0 ≤ t119)) != (decide (0 ≤ t120))) = false := c24b0; rw [c33b0] at h_; revert h_; cases decide (0 ≤ t120) <;> simp
               clear c33
               have H' := Aside0.mk H
               clear H
               obtain ⟨Ao49, co49, eo49⟩ := Kd.R_slice HO_7.out
               subst eo49
               go_wp2_with (first | (go_at_call 29; (with_reducible refine (impl_AreasAt.calls k3 _ _ t107 x12_3 t119 _ ?side1 ?side2 A21.out).mono ?_); (case side1 => exact cz ((Kd.R_reads' HO_7.out).2.2)); (case side2 => exact (Kd.R_reads' HO_7.out).2.1); rintro e w50 ⟨rfl, hb⟩; replace HO_3 := Aside0.mk (Kd.R_below (rz HO_3.out) hb); replace HO_7 := Aside0.mk (Kd.R_below (rz HO_7.out) hb); replace HB := Aside0.mk (below_step (bz HB.out) hb); (try clear hb)) | (go_at_call 29; (with_reducible refine (impl_AreasAt.calls k3 _ _ t101 x12_3 t120 _ ?side1 ?side2 A22.out).mono ?_); (case side1 => exact cz ((Kd.R_reads' HO_3.out).2.2)); (case side2 => exact (Kd.R_reads' HO_3.out).2.1); rintro e w51 ⟨rfl, hb⟩; replace HO_3 := Aside0.mk (Kd.R_below (rz HO_3.out) hb); replace HO_7 := Aside0.mk (Kd.R_below (rz HO_7.out) hb); replace HB := Aside0.mk (below_step (bz HB.out) hb); (try clear hb)))
               repeat (go_quiet (fail); try go_wp2_with (first | (go_at_call 29; (with_reducible refine (impl_AreasAt.calls k3 _ _ t107 x12_3 t119 _ ?side1 ?side2 A21.out).mono ?_); (case side1 => exact cz ((Kd.R_reads' HO_7.out).2.2)); (case side2 => exact (Kd.R_reads' HO_7.out).2.1); rintro e w50 ⟨rfl, hb⟩; replace HO_3 := Aside0.mk (Kd.R_below (rz HO_3.out) hb); replace HO_7 := Aside0.mk (Kd.R_below (rz HO_7.out) hb); replace HB := Aside0.mk (below_step (bz HB.out) hb); (try clear hb)) | (go_at_call 29; (with_reducible refine (impl_AreasAt.calls k3 _ _ t101 x12_3 t120 _ ?side1 ?side2 A22.out).mono ?_); (case side1 => exact cz ((Kd.R_reads' HO_3.out).2.2)); (case side2 => exact (Kd.R_reads' HO_3.out).2.1); rintro e w51 ⟨rfl, hb⟩; replace HO_3 := Aside0.mk (Kd.R_below (rz HO_3.out) hb); replace HO_7 := Aside0.mk (Kd.R_below (rz HO_7.out) hb); replace HB := Aside0.mk (below_step (bz HB.out) hb); (try clear hb))))
               go_roundg k3
               case measure => have := HJ5.out; have := HJ16.out; have := HK3.out; omega
               case rel => exact ⟨(wrap64 (x12_3 + 1)), zr, H', ⟨by have := HJ5.out; have := HJ16.out; have := HK3.out; omega⟩, ⟨by (with_reducible repeat (first | apply Kd.R_alloc | apply Kd.R_drewN | apply Kd.R_drew)); exact HO_3.out⟩, ⟨by (with_reducible repeat (first | apply Kd.R_alloc | apply Kd.R_drewN | apply Kd.R_drew)); exact HO_7.out⟩, ⟨bz HB.out⟩⟩
            ·
             rw [if_neg c28] at H
             have c28b0 : decide (x12_3 < (wrap64 (t102 + t103))) = false := decide_eq_false c28
             clear c28
             by_cases c52 : t119 ≥ 0
             ·
              rw [if_pos c52] at H
              have c52b0 : decide (0 ≤ t119) = true := decide_eq_true c52
              have c52d4 : decide (0 ≤ t120) = true := by have h_ : ((decide (0 ≤ t119)) != (decide (0 ≤ t120))) = false := c24b0; rw [c52b0] at h_; revert h_; cases decide (0 ≤ t120) <;> simp
              clear c52
              by_cases c53 : 0 ≤ t119
              ·
               rw [if_pos c53] at H
               have c53b0 : decide (0 ≤ t119) = true := decide_eq_true c53
               have c53d4 : decide (0 ≤ t120) = true := by have h_ : ((decide (0 ≤ t119)) != (decide (0 ≤ t120))) = false := c24b0; rw [c53b0] at h_; revert h_; cases decide (0 ≤ t120) <;> simp
               clear c53
               by_cases c54 : t119 < (t107.length : Int)
               ·
                rw [if_pos c54] at H
                have c54b0 : decide (t119 < (t107.length : Int)) = true := decide_eq_true c54
                clear c54
                by_cases c55 : 0 ≤ t120
                ·
                 rw [if_pos c55] at H
                 have c55b0 : decide (0 ≤ t120) = true := decide_eq_true c55
                 have c55d4 : decide (0 ≤ t119) = true := by have h_ : ((decide (0 ≤ t119)) != (decide (0 ≤ t120))) = false := c24b0; rw [c55b0] at h_; revert h_; cases decide (0 ≤ t119) <;> simp
                 clear c55
                 by_cases c56 : t120 < (t101.length : Int)
                 ·
                  rw [if_pos c56] at H
                  have c56b0 : decide (t120 < (t101.length : Int)) = true := decide_eq_true c56
                  clear c56
                  by_cases c57 : (((rd_T24 t107 t119).f3) != ((rd_T24 t101 t120).f3)) = true
                  ·
                   rw [if_pos c57] at H
                   have c57b0 : (((rd_T24 t107 t119).f3) != ((rd_T24 t101 t120).f3)) = true := c57
                   (try (have c57b1 : decide (((rd_T24 t107 t119).f3) = ((rd_T24 t101 t120).f3)) = false := by simpa using c57))
                   (try (have c57b2 : (((rd_T24 t107 t119).f3) == ((rd_T24 t101 t120).f3)) = false := by simpa using c57))
                   (try (have c57b3 : ¬ (((rd_T24 t107 t119).f3) = ((rd_T24 t101 t120).f3)) := by simpa using c57))
                   clear c57
                   obtain rfl := Option.some.inj H
                   obtain ⟨Ao58, co58, eo58⟩ := Kd.R_slice HO_7.out
                   subst eo58
                   go_wp2_with (first | (go_at_call 29; (with_reducible refine (impl_AreasAt.calls k3 _ _ t107 x12_3 t119 _ ?side1 ?side2 A21.out).mono ?_); (case side1 => exact cz ((Kd.R_reads' HO_7.out).2.2)); (case side2 => exact (Kd.R_reads' HO_7.out).2.1); rintro e w59 ⟨rfl, hb⟩; replace HO_3 := Aside0.mk (Kd.R_below (rz HO_3.out) hb); replace HO_7 := Aside0.mk (Kd.R_below (rz HO_7.out) hb); replace HB := Aside0.mk (below_step (bz HB.out) hb); (try clear hb)) | (go_at_call 29; (with_reducible refine (impl_AreasAt.calls k3 _ _ t101 x12_3 t120 _ ?side1 ?side2 A22.out).mono ?_); (case side1 => exact cz ((Kd.R_reads' HO_3.out).2.2)); (case side2 => exact (Kd.R_reads' HO_3.out).2.1); rintro e w60 ⟨rfl, hb⟩; replace HO_3 := Aside0.mk (Kd.R_below (rz HO_3.out) hb); replace HO_7 := Aside0.mk (Kd.R_below (rz HO_7.out) hb); replace HB := Aside0.mk (below_step (bz HB.out) hb); (try clear hb); have p124 : 0 ≤ (t119 : Int) := of_decide_eq_true zs; have q124 : t119 < (t107.length : Int) := of_decide_eq_true zs; obtain ⟨ad124, e124, hx124_0, hx124_1, hx124_2, hx124_3⟩ := at_T24 (Kd.R_reads' HO_7.out).2.2 t119 p124 q124; cases e124; replace p124 := eq_true p124; replace q124 := eq_true q124; have p125 : 0 ≤ (t120 : Int) := of_decide_eq_true zs; have q125 : t120 < (t101.length : Int) := of_decide_eq_true zs; obtain ⟨ad125, e125, hx125_0, hx125_1, hx125_2, hx125_3⟩ := at_T24 (Kd.R_reads' HO_3.out).2.2 t120 p125 q125; cases e125; replace p125 := eq_true p125; replace q125 := eq_true q125))
                   repeat (go_quiet (fail); try go_wp2_with (first | (go_at_call 29; (with_reducible refine (impl_AreasAt.calls k3 _ _ t107 x12_3 t119 _ ?side1 ?side2 A21.out).mono ?_); (case side1 => exact cz ((Kd.R_reads' HO_7.out).2.2)); (case side2 => exact (Kd.R_reads' HO_7.out).2.1); rintro e w59 ⟨rfl, hb⟩; replace HO_3 := Aside0.mk (Kd.R_below (rz HO_3.out) hb); replace HO_7 := Aside0.mk (Kd.R_below (rz HO_7.out) hb); replace HB := Aside0.mk (below_step (bz HB.out) hb); (try clear hb)) | (go_at_call 29; (with_reducible refine (impl_AreasAt.calls k3 _ _ t101 x12_3 t120 _ ?side1 ?side2 A22.out).mono ?_); (case side1 => exact cz ((Kd.R_reads' HO_3.out).2.2)); (case side2 => exact (Kd.R_reads' HO_3.out).2.1); rintro e w60 ⟨rfl, hb⟩; replace HO_3 := Aside0.mk (Kd.R_below (rz HO_3.out) hb); replace HO_7 := Aside0.mk (Kd.R_below (rz HO_7.out) hb); replace HB := Aside0.mk (below_step (bz HB.out) hb); (try clear hb); have p124 : 0 ≤ (t119 : Int) := of_decide_eq_true zs; have q124 : t119 < (t107.length : Int) := of_decide_eq_true zs; obtain ⟨ad124, e124, hx124_0, hx124_1, hx124_2, hx124_3⟩ := at_T24 (Kd.R_reads' HO_7.out).2.2 t119 p124 q124; cases e124; replace p124 := eq_true p124; replace q124 := eq_true q124; have p125 : 0 ≤ (t120 : Int) := of_decide_eq_true zs; have q125 : t120 < (t101.length : Int) := of_decide_eq_true zs; obtain ⟨ad125, e125, hx125_0, hx125_1, hx125_2, hx125_3⟩ := at_T24 (Kd.R_reads' HO_3.out).2.2 t120 p125 q125; cases e125; replace p125 := eq_true p125; replace q125 := eq_true q125)))
                   go_ret
                   exact ⟨ze, bz HB.out⟩
                  ·
                   rw [if_neg c57] at H
                   have c57b0 : (((rd_T24 t107 t119).f3) != ((rd_T24 t101 t120).f3)) = false := by simpa using c57
                   (try (have c57b1 : decide (((rd_T24 t107 t119).f3) = ((rd_T24 t101 t120).f3)) = true := by simpa using c57))
                   (try (have c57b2 : (((rd_T24 t107 t119).f3) == ((rd_T24 t101 t120).f3)) = true := by simpa using c57))
                   clear c57
                   by_cases c61 : (((rd_T24 t107 t119).f2) != ((rd_T24 t101 t120).f2)) = true
                   ·
                    rw [if_pos c61] at H
                    have c61b0 : (((rd_T24 t107 t119).f2) != ((rd_T24 t101 t120).f2)) = true := c61
                    (try (have c61b1 : decide (((rd_T24 t107 t119).f2) = ((rd_T24 t101 t120).f2)) = false := by simpa using c61))
                    (try (have c61b2 : (((rd_T24 t107 t119).f2) == ((rd_T24 t101 t120).f2)) = false := by simpa using c61))
                    (try (have c61b3 : ¬ (((rd_T24 t107 t119).f2) = ((rd_T24 t101 t120).f2)) := by simpa using c61))
                    clear c61
                    obtain rfl := Option.some.inj H
                    obtain ⟨Ao62, co62, eo62⟩ := Kd.R_slice HO_7.out
                    subst eo62
                    go_wp2_with (first | (go_at_call 29; (with_reducible refine (impl_AreasAt.calls k3 _ _ t107 x12_3 t119 _ ?side1 ?side2 A21.out).mono ?_); (case side1 => exact cz ((Kd.R_reads' HO_7.out).2.2)); (case side2 => exact (Kd.R_reads' HO_7.out).2.1); rintro e w63 ⟨rfl, hb⟩; replace HO_3 := Aside0.mk (Kd.R_below (rz HO_3.out) hb); replace HO_7 := Aside0.mk (Kd.R_below (rz HO_7.out) hb); replace HB := Aside0.mk (below_step (bz HB.out) hb); (try clear hb)) | (go_at_call 29; (with_reducible refine (impl_AreasAt.calls k3 _ _ t101 x12_3 t120 _ ?side1 ?side2 A22.out).mono ?_); (case side1 => exact cz ((Kd.R_reads' HO_3.out).2.2)); (case side2 => exact (Kd.R_reads' HO_3.out).2.1); rintro e w64 ⟨rfl, hb⟩; replace HO_3 := Aside0.mk (Kd.R_below (rz HO_3.out) hb); replace HO_7 := Aside0.mk (Kd.R_below (rz HO_7.out) hb); replace HB := Aside0.mk (below_step (bz HB.out) hb); (try clear hb); have p124 : 0 ≤ (t119 : Int) := of_decide_eq_true zs; have q124 : t119 < (t107.length : Int) := of_decide_eq_true zs; obtain ⟨ad124, e124, hx124_0, hx124_1, hx124_2, hx124_3⟩ := at_T24 (Kd.R_reads' HO_7.out).2.2 t119 p124 q124; cases e124; replace p124 := eq_true p124; replace q124 := eq_true q124; have p125 : 0 ≤ (t120 : Int) := of_decide_eq_true zs; have q125 : t120 < (t101.length : Int) := of_decide_eq_true zs; obtain ⟨ad125, e125, hx125_0, hx125_1, hx125_2, hx125_3⟩ := at_T24 (Kd.R_reads' HO_3.out).2.2 t120 p125 q125; cases e125; replace p125 := eq_true p125; replace q125 := eq_true q125; have p126 : 0 ≤ (t119 : Int) := of_decide_eq_true zs; have q126 : t119 < (t107.length : Int) := of_decide_eq_true zs; obtain ⟨ad126, e126, hx126_0, hx126_1, hx126_2, hx126_3⟩ := at_T24 (Kd.R_reads' HO_7.out).2.2 t119 p126 q126; obtain rfl : ad124 = ad126 := (by injection e126); replace p126 := eq_true p126; replace q126 := eq_true q126; have p127 : 0 ≤ (t120 : Int) := of_decide_eq_true zs; have q127 : t120 < (t101.length : Int) := of_decide_eq_true zs; obtain ⟨ad127, e127, hx127_0, hx127_1, hx127_2, hx127_3⟩ := at_T24 (Kd.R_reads' HO_3.out).2.2 t120 p127 q127; obtain rfl : ad125 = ad127 := (by injection e127); replace p127 := eq_true p127; replace q127 := eq_true q127))
                    repeat (go_quiet (fail); try go_wp2_with (first | (go_at_call 29; (with_reducible refine (impl_AreasAt.calls k3 _ _ t107 x12_3 t119 _ ?side1 ?side2 A21.out).mono ?_); (case side1 => exact cz ((Kd.R_reads' HO_7.out).2.2)); (case side2 => exact (Kd.R_reads' HO_7.out).2.1); rintro e w63 ⟨rfl, hb⟩; replace HO_3 := Aside0.mk (Kd.R_below (rz HO_3.out) hb); replace HO_7 := Aside0.mk (Kd.R_below (rz HO_7.out) hb); replace HB := Aside0.mk (below_step (bz HB.out) hb); (try clear hb)) | (go_at_call 29; (with_reducible refine (impl_AreasAt.calls k3 _ _ t101 x12_3 t120 _ ?side1 ?side2 A22.out).mono ?_); (case side1 => exact cz ((Kd.R_reads' HO_3.out).2.2)); (case side2 => exact (Kd.R_reads' HO_3.out).2.1); rintro e w64 ⟨rfl, hb⟩; replace HO_3 := Aside0.mk (Kd.R_below (rz HO_3.out) hb); replace HO_7 := Aside0.mk (Kd.R_below (rz HO_7.out) hb); replace HB := Aside0.mk (below_step (bz HB.out) hb); (try clear hb); have p124 : 0 ≤ (t119 : Int) := of_decide_eq_true zs; have q124 : t119 < (t107.length : Int) := of_decide_eq_true zs; obtain ⟨ad124, e124, hx124_0, hx124_1, hx124_2, hx124_3⟩ := at_T24 (Kd.R_reads' HO_7.out).2.2 t119 p124 q124; cases e124; replace p124 := eq_true p124; replace q124 := eq_true q124; have p125 : 0 ≤ (t120 : Int) := of_decide_eq_true zs; have q125 : t120 < (t101.length : Int) := of_decide_eq_true zs; obtain ⟨ad125, e125, hx125_0, hx125_1, hx125_2, hx125_3⟩ := at_T24 (Kd.R_reads' HO_3.out).2.2 t120 p125 q125; cases e125; replace p125 := eq_true p125; replace q125 := eq_true q125; have p126 : 0 ≤ (t119 : Int) := of_decide_eq_true zs; have q126 : t119 < (t107.length : Int) := of_decide_eq_true zs; obtain ⟨ad126, e126, hx126_0, hx126_1, hx126_2, hx126_3⟩ := at_T24 (Kd.R_reads' HO_7.out).2.2 t119 p126 q126; obtain rfl : ad124 = ad126 := (by injection e126); replace p126 := eq_true p126; replace q126 := eq_true q126; have p127 : 0 ≤ (t120 : Int) := of_decide_eq_true zs; have q127 : t120 < (t101.length : Int) := of_decide_eq_true zs; obtain ⟨ad127, e127, hx127_0, hx127_1, hx127_2, hx127_3⟩ := at_T24 (Kd.R_reads' HO_3.out).2.2 t120 p127 q127; obtain rfl : ad125 = ad127 := (by injection e127); replace p127 := eq_true p127; replace q127 := eq_true q127)))
                    go_ret
                    exact ⟨ze, bz HB.out⟩
                   ·
                    rw [if_neg c61] at H
                    have c61b0 : (((rd_T24 t107 t119).f2) != ((rd_T24 t101 t120).f2)) = false := by simpa using c61
                    (try (have c61b1 : decide (((rd_T24 t107 t119).f2) = ((rd_T24 t101 t120).f2)) = true := by simpa using c61))
                    (try (have c61b2 : (((rd_T24 t107 t119).f2) == ((rd_T24 t101 t120).f2)) = true := by simpa using c61))
                    clear c61
                    have H' := Aside0.mk H
                    clear H
                    obtain ⟨Ao65, co65, eo65⟩ := Kd.R_slice HO_7.out
                    subst eo65
                    go_wp2_with (first | (go_at_call 29; (with_reducible refine (impl_AreasAt.calls k3 _ _ t107 x12_3 t119 _ ?side1 ?side2 A21.out).mono ?_); (case side1 => exact cz ((Kd.R_reads' HO_7.out).2.2)); (case side2 => exact (Kd.R_reads' HO_7.out).2.1); rintro e w66 ⟨rfl, hb⟩; replace HO_3 := Aside0.mk (Kd.R_below (rz HO_3.out) hb); replace HO_7 := Aside0.mk (Kd.R_below (rz HO_7.out) hb); replace HB := Aside0.mk (below_step (bz HB.out) hb); (try clear hb)) | (go_at_call 29; (with_reducible refine (impl_AreasAt.calls k3 _ _ t101 x12_3 t120 _ ?side1 ?side2 A22.out).mono ?_); (case side1 => exact cz ((Kd.R_reads' HO_3.out).2.2)); (case side2 => exact (Kd.R_reads' HO_3.out).2.1); rintro e w67 ⟨rfl, hb⟩; replace HO_3 := Aside0.mk (Kd.R_below (rz HO_3.out) hb); replace HO_7 := Aside0.mk (Kd.R_below (rz HO_7.out) hb); replace HB := Aside0.mk (below_step (bz HB.out) hb); (try clear hb); have p124 : 0 ≤ (t119 : Int) := of_decide_eq_true zs; have q124 : t119 < (t107.length : Int) := of_decide_eq_true zs; obtain ⟨ad124, e124, hx124_0, hx124_1, hx124_2, hx124_3⟩ := at_T24 (Kd.R_reads' HO_7.out).2.2 t119 p124 q124; cases e124; replace p124 := eq_true p124; replace q124 := eq_true q124; have p125 : 0 ≤ (t120 : Int) := of_decide_eq_true zs; have q125 : t120 < (t101.length : Int) := of_decide_eq_true zs; obtain ⟨ad125, e125, hx125_0, hx125_1, hx125_2, hx125_3⟩ := at_T24 (Kd.R_reads' HO_3.out).2.2 t120 p125 q125; cases e125; replace p125 := eq_true p125; replace q125 := eq_true q125; have p126 : 0 ≤ (t119 : Int) := of_decide_eq_true zs; have q126 : t119 < (t107.length : Int) := of_decide_eq_true zs; obtain ⟨ad126, e126, hx126_0, hx126_1, hx126_2, hx126_3⟩ := at_T24 (Kd.R_reads' HO_7.out).2.2 t119 p126 q126; obtain rfl : ad124 = ad126 := (by injection e126); replace p126 := eq_true p126; replace q126 := eq_true q126; have p127 : 0 ≤ (t120 : Int) := of_decide_eq_true zs; have q127 : t120 < (t101.length : Int) := of_decide_eq_true zs; obtain ⟨ad127, e127, hx127_0, hx127_1, hx127_2, hx127_3⟩ := at_T24 (Kd.R_reads' HO_3.out).2.2 t120 p127 q127; obtain rfl : ad125 = ad127 := (by injection e127); replace p127 := eq_true p127; replace q127 := eq_true q127))
                    repeat (go_quiet (fail); try go_wp2_with (first | (go_at_call 29; (with_reducible refine (impl_AreasAt.calls k3 _ _ t107 x12_3 t119 _ ?side1 ?side2 A21.out).mono ?_); (case side1 => exact cz ((Kd.R_reads' HO_7.out).2.2)); (case side2 => exact (Kd.R_reads' HO_7.out).2.1); rintro e w66 ⟨rfl, hb⟩; replace HO_3 := Aside0.mk (Kd.R_below (rz HO_3.out) hb); replace HO_7 := Aside0.mk (Kd.R_below (rz HO_7.out) hb); replace HB := Aside0.mk (below_step (bz HB.out) hb); (try clear hb)) | (go_at_call 29; (with_reducible refine (impl_AreasAt.calls k3 _ _ t101 x12_3 t120 _ ?side1 ?side2 A22.out).mono ?_); (case side1 => exact cz ((Kd.R_reads' HO_3.out).2.2)); (case side2 => exact (Kd.R_reads' HO_3.out).2.1); rintro e w67 ⟨rfl, hb⟩; replace HO_3 := Aside0.mk (Kd.R_below (rz HO_3.out) hb); replace HO_7 := Aside0.mk (Kd.R_below (rz HO_7.out) hb); replace HB := Aside0.mk (below_step (bz HB.out) hb); (try clear hb); have p124 : 0 ≤ (t119 : Int) := of_decide_eq_true zs; have q124 : t119 < (t107.length : Int) := of_decide_eq_true zs; obtain ⟨ad124, e124, hx124_0, hx124_1, hx124_2, hx124_3⟩ := at_T24 (Kd.R_reads' HO_7.out).2.2 t119 p124 q124; cases e124; replace p124 := eq_true p124; replace q124 := eq_true q124; have p125 : 0 ≤ (t120 : Int) := of_decide_eq_true zs; have q125 : t120 < (t101.length : Int) := of_decide_eq_true zs; obtain ⟨ad125, e125, hx125_0, hx125_1, hx125_2, hx125_3⟩ := at_T24 (Kd.R_reads' HO_3.out).2.2 t120 p125 q125; cases e125; replace p125 := eq_true p125; replace q125 := eq_true q125; have p126 : 0 ≤ (t119 : Int) := of_decide_eq_true zs; have q126 : t119 < (t107.length : Int) := of_decide_eq_true zs; obtain ⟨ad126, e126, hx126_0, hx126_1, hx126_2, hx126_3⟩ := at_T24 (Kd.R_reads' HO_7.out).2.2 t119 p126 q126; obtain rfl : ad124 = ad126 := (by injection e126); replace p126 := eq_true p126; replace q126 := eq_true q126; have p127 : 0 ≤ (t120 : Int) := of_decide_eq_true zs; have q127 : t120 < (t101.length : Int) := of_decide_eq_true zs; obtain ⟨ad127, e127, hx127_0, hx127_1, hx127_2, hx127_3⟩ := at_T24 (Kd.R_reads' HO_3.out).2.2 t120 p127 q127; obtain rfl : ad125 = ad127 := (by injection e127); replace p127 := eq_true p127; replace q127 := eq_true q127)))
                    go_roundg k3
                    case measure => have := HJ5.out; have := HJ16.out; have := HK3.out; omega
                    case rel => exact ⟨(wrap64 (x12_3 + 1)), zr, H', ⟨by have := HJ5.out; have := HJ16.out; have := HK3.out; omega⟩, ⟨by (with_reducible repeat (first | apply Kd.R_alloc | apply Kd.R_drewN | apply Kd.R_drew)); exact HO_3.out⟩, ⟨by (with_reducible repeat (first | apply Kd.R_alloc | apply Kd.R_drewN | apply Kd.R_drew)); exact HO_7.out⟩, ⟨bz HB.out⟩⟩
                 ·
                  rw [if_neg c56] at H
                  exact absurd H (by simp)
                ·
                 rw [if_neg c55] at H
                 exact absurd H (by simp)
               ·
                rw [if_neg c54] at H
                exact absurd H (by simp)
              ·
               rw [if_neg c53] at H
               exact absurd H (by simp)
             ·
              rw [if_neg c52] at H
              have c52b0 : decide (0 ≤ t119) = false := decide_eq_false c52
              have c52d4 : decide (0 ≤ t120) = false := by have h_ : ((decide (0 ≤ t119)) != (decide (0 ≤ t120))) = false := c24b0; rw [c52b0] at h_; revert h_; cases decide (0 ≤ t120) <;> simp
              clear c52
              have H' := Aside0.mk H
              clear H
              obtain ⟨Ao68, co68, eo68⟩ := Kd.R_slice HO_7.out
              subst eo68
              go_wp2_with (first | (go_at_call 29; (with_reducible refine (impl_AreasAt.calls k3 _ _ t107 x12_3 t119 _ ?side1 ?side2 A21.out).mono ?_); (case side1 => exact cz ((Kd.R_reads' HO_7.out).2.2)); (case side2 => exact (Kd.R_reads' HO_7.out).2.1); rintro e w69 ⟨rfl, hb⟩; replace HO_3 := Aside0.mk (Kd.R_below (rz HO_3.out) hb); replace HO_7 := Aside0.mk (Kd.R_below (rz HO_7.out) hb); replace HB := Aside0.mk (below_step (bz HB.out) hb); (try clear hb)) | (go_at_call 29; (with_reducible refine (impl_AreasAt.calls k3 _ _ t101 x12_3 t120 _ ?side1 ?side2 A22.out).mono ?_); (case side1 => exact cz ((Kd.R_reads' HO_3.out).2.2)); (case side2 => exact (Kd.R_reads' HO_3.out).2.1); rintro e w70 ⟨rfl, hb⟩; replace HO_3 := Aside0.mk (Kd.R_below (rz HO_3.out) hb); replace HO_7 := Aside0.mk (Kd.R_below (rz HO_7.out) hb); replace HB := Aside0.mk (below_step (bz HB.out) hb); (try clear hb)))
              repeat (go_quiet (fail); try go_wp2_with (first | (go_at_call 29; (with_reducible refine (impl_AreasAt.calls k3 _ _ t107 x12_3 t119 _ ?side1 ?side2 A21.out).mono ?_); (case side1 => exact cz ((Kd.R_reads' HO_7.out).2.2)); (case side2 => exact (Kd.R_reads' HO_7.out).2.1); rintro e w69 ⟨rfl, hb⟩; replace HO_3 := Aside0.mk (Kd.R_below (rz HO_3.out) hb); replace HO_7 := Aside0.mk (Kd.R_below (rz HO_7.out) hb); replace HB := Aside0.mk (below_step (bz HB.out) hb); (try clear hb)) | (go_at_call 29; (with_reducible refine (impl_AreasAt.calls k3 _ _ t101 x12_3 t120 _ ?side1 ?side2 A22.out).mono ?_); (case side1 => exact cz ((Kd.R_reads' HO_3.out).2.2)); (case side2 => exact (Kd.R_reads' HO_3.out).2.1); rintro e w70 ⟨rfl, hb⟩; replace HO_3 := Aside0.mk (Kd.R_below (rz HO_3.out) hb); replace HO_7 := Aside0.mk (Kd.R_below (rz HO_7.out) hb); replace HB := Aside0.mk (below_step (bz HB.out) hb); (try clear hb))))
              go_roundg k3
              case measure => have := HJ5.out; have := HJ16.out; have := HK3.out; omega
              case rel => exact ⟨(wrap64 (x12_3 + 1)), zr, H', ⟨by have := HJ5.out; have := HJ16.out; have := HK3.out; omega⟩, ⟨by (with_reducible repeat (first | apply Kd.R_alloc | apply Kd.R_drewN | apply Kd.R_drew)); exact HO_3.out⟩, ⟨by (with_reducible repeat (first | apply Kd.R_alloc | apply Kd.R_drewN | apply Kd.R_drew)); exact HO_7.out⟩, ⟨bz HB.out⟩⟩
          ·
           rw [if_neg c23] at H
           have c23b0 : decide (t102 ≤ x12_3) = false := decide_eq_false c23
           clear c23
           by_cases c71 : ((decide (t119 ≥ 0)) != (decide (t120 ≥ 0))) = true
           ·
            rw [if_pos c71] at H
            have c71b0 : ((decide (t119 ≥ 0)) != (decide (t120 ≥ 0))) = true := c71
            (try (have c71b1 : decide ((decide (t119 ≥ 0)) = (decide (t120 ≥ 0))) = false := by simpa using c71))
            (try (have c71b2 : ((decide (t119 ≥ 0)) == (decide (t120 ≥ 0))) = false := by simpa using c71))
            (try (have c71b3 : ¬ ((decide (t119 ≥ 0)) = (decide (t120 ≥ 0))) := by simpa using c71))
            clear c71
            obtain rfl := Option.some.inj H
            obtain ⟨Ao72, co72, eo72⟩ := Kd.R_slice HO_7.out
            subst eo72
            go_wp2_with (first | (go_at_call 29; (with_reducible refine (impl_AreasAt.calls k3 _ _ t107 x12_3 t119 _ ?side1 ?side2 A21.out).mono ?_); (case side1 => exact cz ((Kd.R_reads' HO_7.out).2.2)); (case side2 => exact (Kd.R_reads' HO_7.out).2.1); rintro e w73 ⟨rfl, hb⟩; replace HO_3 := Aside0.mk (Kd.R_below (rz HO_3.out) hb); replace HO_7 := Aside0.mk (Kd.R_below (rz HO_7.out) hb); replace HB := Aside0.mk (below_step (bz HB.out) hb); (try clear hb)) | (go_at_call 29; (with_reducible refine (impl_AreasAt.calls k3 _ _ t101 x12_3 t120 _ ?side1 ?side2 A22.out).mono ?_); (case side1 => exact cz ((Kd.R_reads' HO_3.out).2.2)); (case side2 => exact (Kd.R_reads' HO_3.out).2.1); rintro e w74 ⟨rfl, hb⟩; replace HO_3 := Aside0.mk (Kd.R_below (rz HO_3.out) hb); replace HO_7 := Aside0.mk (Kd.R_below (rz HO_7.out) hb); replace HB := Aside0.mk (below_step (bz HB.out) hb); (try clear hb)))
            repeat (go_quiet (fail); try go_wp2_with (first | (go_at_call 29; (with_reducible refine (impl_AreasAt.calls k3 _ _ t107 x12_3 t119 _ ?side1 ?side2 A21.out).mono ?_); (case side1 => exact cz ((Kd.R_reads' HO_7.out).2.2)); (case side2 => exact (Kd.R_reads' HO_7.out).2.1); rintro e w73 ⟨rfl, hb⟩; replace HO_3 := Aside0.mk (Kd.R_below (rz HO_3.out) hb); replace HO_7 := Aside0.mk (Kd.R_below (rz HO_7.out) hb); replace HB := Aside0.mk (below_step (bz HB.out) hb); (try clear hb)) | (go_at_call 29; (with_reducible refine (impl_AreasAt.calls k3 _ _ t101 x12_3 t120 _ ?side1 ?side2 A22.out).mono ?_); (case side1 => exact cz ((Kd.R_reads' HO_3.out).2.2)); (case side2 => exact (Kd.R_reads' HO_3.out).2.1); rintro e w74 ⟨rfl, hb⟩; replace HO_3 := Aside0.mk (Kd.R_below (rz HO_3.out) hb); replace HO_7 := Aside0.mk (Kd.R_below (rz HO_7.out) hb); replace HB := Aside0.mk (below_step (bz HB.out) hb); (try clear hb))))
            go_ret
            exact ⟨ze, bz HB.out⟩
           ·
            rw [if_neg c71] at H
            have c71b0 : ((decide (t119 ≥ 0)) != (decide (t120 ≥ 0))) = false := by simpa using c71
            (try (have c71b1 : decide ((decide (t119 ≥ 0)) = (decide (t120 ≥ 0))) = true := by simpa using c71))
            (try (have c71b2 : ((decide (t119 ≥ 0)) == (decide (t120 ≥ 0))) = true := by simpa using c71))
            clear c71
            by_cases c75 : t119 ≥ 0
            ·
             rw [if_pos c75] at H
             have c75b0 : decide (0 ≤ t119) = true := decide_eq_true c75
             have c75d4 : decide (0 ≤ t120) = true := by have h_ : ((decide (0 ≤ t119)) != (decide (0 ≤ t120))) = false := c71b0; rw [c75b0] at h_; revert h_; cases decide (0 ≤ t120) <;> simp
             clear c75
             by_cases c76 : 0 ≤ t119
             ·
              rw [if_pos c76] at H
              have c76b0 : decide (0 ≤ t119) = true := decide_eq_true c76
              have c76d4 : decide (0 ≤ t120) = true := by have h_ : ((decide (0 ≤ t119)) != (decide (0 ≤ t120))) = false := c71b0; rw [c76b0] at h_; revert h_; cases decide (0 ≤ t120) <;> simp
              clear c76
              by_cases c77 : t119 < (t107.length : Int)
              ·
               rw [if_pos c77] at H
               have c77b0 : decide (t119 < (t107.length : Int)) = true := decide_eq_true c77
               clear c77
               by_cases c78 : 0 ≤ t120
               ·
                rw [if_pos c78] at H
                have c78b0 : decide (0 ≤ t120) = true := decide_eq_true c78
                have c78d4 : decide (0 ≤ t119) = true := by have h_ : ((decide (0 ≤ t119)) != (decide (0 ≤ t120))) = false := c71b0; rw [c78b0] at h_; revert h_; cases decide (0 ≤ t119) <;> simp
                clear c78
                by_cases c79 : t120 < (t101.length : Int)
                ·
                 rw [if_pos c79] at H
                 have c79b0 : decide (t120 < (t101.length : Int)) = true := decide_eq_true c79
                 clear c79
                 by_cases c80 : (((rd_T24 t107 t119).f3) != ((rd_T24 t101 t120).f3)) = true
                 ·
                  rw [if_pos c80] at H
                  have c80b0 : (((rd_T24 t107 t119).f3) != ((rd_T24 t101 t120).f3)) = true := c80
                  (try (have c80b1 : decide (((rd_T24 t107 t119).f3) = ((rd_T24 t101 t120).f3)) = false := by simpa using c80))
                  (try (have c80b2 : (((rd_T24 t107 t119).f3) == ((rd_T24 t101 t120).f3)) = false := by simpa using c80))
                  (try (have c80b3 : ¬ (((rd_T24 t107 t119).f3) = ((rd_T24 t101 t120).f3)) := by simpa using c80))
                  clear c80
                  obtain rfl := Option.some.inj H
                  obtain ⟨Ao81, co81, eo81⟩ := Kd.R_slice HO_7.out
                  subst eo81
                  go_wp2_with (first | (go_at_call 29; (with_reducible refine (impl_AreasAt.calls k3 _ _ t107 x12_3 t119 _ ?side1 ?side2 A21.out).mono ?_); (case side1 => exact cz ((Kd.R_reads' HO_7.out).2.2)); (case side2 => exact (Kd.R_reads' HO_7.out).2.1); rintro e w82 ⟨rfl, hb⟩; replace HO_3 := Aside0.mk (Kd.R_below (rz HO_3.out) hb); replace HO_7 := Aside0.mk (Kd.R_below (rz HO_7.out) hb); replace HB := Aside0.mk (below_step (bz HB.out) hb); (try clear hb)) | (go_at_call 29; (with_reducible refine (impl_AreasAt.calls k3 _ _ t101 x12_3 t120 _ ?side1 ?side2 A22.out).mono ?_); (case side1 => exact cz ((Kd.R_reads' HO_3.out).2.2)); (case side2 => exact (Kd.R_reads' HO_3.out).2.1); rintro e w83 ⟨rfl, hb⟩; replace HO_3 := Aside0.mk (Kd.R_below (rz HO_3.out) hb); replace HO_7 := Aside0.mk (Kd.R_below (rz HO_7.out) hb); replace HB := Aside0.mk (below_step (bz HB.out) hb); (try clear hb); have p128 : 0 ≤ (t119 : Int) := of_decide_eq_true zs; have q128 : t119 < (t107.length : Int) := of_decide_eq_true zs; obtain ⟨ad128, e128, hx128_0, hx128_1, hx128_2, hx128_3⟩ := at_T24 (Kd.R_reads' HO_7.out).2.2 t119 p128 q128; cases e128; replace p128 := eq_true p128; replace q128 := eq_true q128; have p129 : 0 ≤ (t120 : Int) := of_decide_eq_true zs; have q129 : t120 < (t101.length : Int) := of_decide_eq_true zs; obtain ⟨ad129, e129, hx129_0, hx129_1, hx129_2, hx129_3⟩ := at_T24 (Kd.R_reads' HO_3.out).2.2 t120 p129 q129; cases e129; replace p129 := eq_true p129; replace q129 := eq_true q129))
                  repeat (go_quiet (fail); try go_wp2_with (first | (go_at_call 29; (with_reducible refine (impl_AreasAt.calls k3 _ _ t107 x12_3 t119 _ ?side1 ?side2 A21.out).mono ?_); (case side1 => exact cz ((Kd.R_reads' HO_7.out).2.2)); (case side2 => exact (Kd.R_reads' HO_7.out).2.1); rintro e w82 ⟨rfl, hb⟩; replace HO_3 := Aside0.mk (Kd.R_below (rz HO_3.out) hb); replace HO_7 := Aside0.mk (Kd.R_below (rz HO_7.out) hb); replace HB := Aside0.mk (below_step (bz HB.out) hb); (try clear hb)) | (go_at_call 29; (with_reducible refine (impl_AreasAt.calls k3 _ _ t101 x12_3 t120 _ ?side1 ?side2 A22.out).mono ?_); (case side1 => exact cz ((Kd.R_reads' HO_3.out).2.2)); (case side2 => exact (Kd.R_reads' HO_3.out).2.1); rintro e w83 ⟨rfl, hb⟩; replace HO_3 := Aside0.mk (Kd.R_below (rz HO_3.out) hb); replace HO_7 := Aside0.mk (Kd.R_below (rz HO_7.out) hb); replace HB := Aside0.mk (below_step (bz HB.out) hb); (try clear hb); have p128 : 0 ≤ (t119 : Int) := of_decide_eq_true zs; have q128 : t119 < (t107.length : Int) := of_decide_eq_true zs; obtain ⟨ad128, e128, hx128_0, hx128_1, hx128_2, hx128_3⟩ := at_T24 (Kd.R_reads' HO_7.out).2.2 t119 p128 q128; cases e128; replace p128 := eq_true p128; replace q128 := eq_true q128; have p129 : 0 ≤ (t120 : Int) := of_decide_eq_true zs; have q129 : t120 < (t101.length : Int) := of_decide_eq_true zs; obtain ⟨ad129, e129, hx129_0, hx129_1, hx129_2, hx129_3⟩ := at_T24 (Kd.R_reads' HO_3.out).2.2 t120 p129 q129; cases e129; replace p129 := eq_true p129; replace q129 := eq_true q129)))
                  go_ret
                  exact ⟨ze, bz HB.out⟩
                 ·
                  rw [if_neg c80] at H
                  have c80b0 : (((rd_T24 t107 t119).f3) != ((rd_T24 t101 t120).f3)) = false := by simpa using c80
                  (try (have c80b1 : decide (((rd_T24 t107 t119).f3) = ((rd_T24 t101 t120).f3)) = true := by simpa using c80))
                  (try (have c80b2 : (((rd_T24 t107 t119).f3) == ((rd_T24 t101 t120).f3)) = true := by simpa using c80))
                  clear c80
                  by_cases c84 : (((rd_T24 t107 t119).f2) != ((rd_T24 t101 t120).f2)) = true
                  ·
                   rw [if_pos c84] at H
                   have c84b0 : (((rd_T24 t107 t119).f2) != ((rd_T24 t101 t120).f2)) = true := c84
                   (try (have c84b1 : decide (((rd_T24 t107 t119).f2) = ((rd_T24 t101 t120).f2)) = false := by simpa using c84))
                   (try (have c84b2 : (((rd_T24 t107 t119).f2) == ((rd_T24 t101 t120).f2)) = false := by simpa using c84))
                   (try (have c84b3 : ¬ (((rd_T24 t107 t119).f2) = ((rd_T24 t101 t120).f2)) := by simpa using c84))
                   clear c84
                   obtain rfl := Option.some.inj H
                   obtain ⟨Ao85, co85, eo85⟩ := Kd.R_slice HO_7.out
                   subst eo85
                   go_wp2_with (first | (go_at_call 29; (with_reducible refine (impl_AreasAt.calls k3 _ _ t107 x12_3 t119 _ ?side1 ?side2 A21.out).mono ?_); (case side1 => exact cz ((Kd.R_reads' HO_7.out).2.2)); (case side2 => exact (Kd.R_reads' HO_7.out).2.1); rintro e w86 ⟨rfl, hb⟩; replace HO_3 := Aside0.mk (Kd.R_below (rz HO_3.out) hb); replace HO_7 := Aside0.mk (Kd.R_below (rz HO_7.out) hb); replace HB := Aside0.mk (below_step (bz HB.out) hb); (try clear hb)) | (go_at_call 29; (with_reducible refine (impl_AreasAt.calls k3 _ _ t101 x12_3 t120 _ ?side1 ?side2 A22.out).mono ?_); (case side1 => exact cz ((Kd.R_reads' HO_3.out).2.2)); (case side2 => exact (Kd.R_reads' HO_3.out).2.1); rintro e w87 ⟨rfl, hb⟩; replace HO_3 := Aside0.mk (Kd.R_below (rz HO_3.out) hb); replace HO_7 := Aside0.mk (Kd.R_below (rz HO_7.out) hb); replace HB := Aside0.mk (below_step (bz HB.out) hb); (try clear hb); have p128 : 0 ≤ (t119 : Int) := of_decide_eq_true zs; have q128 : t119 < (t107.length : Int) := of_decide_eq_true zs; obtain ⟨ad128, e128, hx128_0, hx128_1, hx128_2, hx128_3⟩ := at_T24 (Kd.R_reads' HO_7.out).2.2 t119 p128 q128; cases e128; replace p128 := eq_true p128; replace q128 := eq_true q128; have p129 : 0 ≤ (t120 : Int) := of_decide_eq_true zs; have q129 : t120 < (t101.length : Int) := of_decide_eq_true zs; obtain ⟨ad129, e129, hx129_0, hx129_1, hx129_2, hx129_3⟩ := at_T24 (Kd.R_reads' HO_3.out).2.2 t120 p129 q129; cases e129; replace p129 := eq_true p129; replace q129 := eq_true q129; have p130 : 0 ≤ (t119 : Int) := of_decide_eq_true zs; have q130 : t119 < (t107.length : Int) := of_decide_eq_true zs; obtain ⟨ad130, e130, hx130_0, hx130_1, hx130_2, hx130_3⟩ := at_T24 (Kd.R_reads' HO_7.out).2.2 t119 p130 q130; obtain rfl : ad128 = ad130 := (by injection e130); replace p130 := eq_true p130; replace q130 := eq_true q130; have p131 : 0 ≤ (t120 : Int) := of_decide_eq_true zs; have q131 : t120 < (t101.length : Int) := of_decide_eq_true zs; obtain ⟨ad131, e131, hx131_0, hx131_1, hx131_2, hx131_3⟩ := at_T24 (Kd.R_reads' HO_3.out).2.2 t120 p131 q131; obtain rfl : ad129 = ad131 := (by injection e131); replace p131 := eq_true p131; replace q131 := eq_true q131))
                   repeat (go_quiet (fail); try go_wp2_with (first | (go_at_call 29; (with_reducible refine (impl_AreasAt.calls k3 _ _ t107 x12_3 t119 _ ?side1 ?side2 A21.out).mono ?_); (case side1 => exact cz ((Kd.R_reads' HO_7.out).2.2)); (case side2 => exact (Kd.R_reads' HO_7.out).2.1); rintro e w86 ⟨rfl, hb⟩; replace HO_3 := Aside0.mk (Kd.R_below (rz HO_3.out) hb); replace HO_7 := Aside0.mk (Kd.R_below (rz HO_7.out) hb); replace HB := Aside0.mk (below_step (bz HB.out) hb); (try clear hb)) | (go_at_call 29; (with_reducible refine (impl_AreasAt.calls k3 _ _ t101 x12_3 t120 _ ?side1 ?side2 A22.out).mono ?_); (case side1 => exact cz ((Kd.R_reads' HO_3.out).2.2)); (case side2 => exact (Kd.R_reads' HO_3.out).2.1); rintro e w87 ⟨rfl, hb⟩; replace HO_3 := Aside0.mk (Kd.R_below (rz HO_3.out) hb); replace HO_7 := Aside0.mk (Kd.R_below (rz HO_7.out) hb); replace HB := Aside0.mk (below_step (bz HB.out) hb); (try clear hb); have p128 : 0 ≤ (t119 : Int) := of_decide_eq_true zs; have q128 : t119 < (t107.length : Int) := of_decide_eq_true zs; obtain ⟨ad128, e128, hx128_0, hx128_1, hx128_2, hx128_3⟩ := at_T24 (Kd.R_reads' HO_7.out).2.2 t119 p128 q128; cases e128; replace p128 := eq_true p128; replace q128 := eq_true q128; have p129 : 0 ≤ (t120 : Int) := of_decide_eq_true zs; have q129 : t120 < (t101.length : Int) := of_decide_eq_true zs; obtain ⟨ad129, e129, hx129_0, hx129_1, hx129_2, hx129_3⟩ := at_T24 (Kd.R_reads' HO_3.out).2.2 t120 p129 q129; cases e129; replace p129 := eq_true p129; replace q129 := eq_true q129; have p130 : 0 ≤ (t119 : Int) := of_decide_eq_true zs; have q130 : t119 < (t107.length : Int) := of_decide_eq_true zs; obtain ⟨ad130, e130, hx130_0, hx130_1, hx130_2, hx130_3⟩ := at_T24 (Kd.R_reads' HO_7.out).2.2 t119 p130 q130; obtain rfl : ad128 = ad130 := (by injection e130); replace p130 := eq_true p130; replace q130 := eq_true q130; have p131 : 0 ≤ (t120 : Int) := of_decide_eq_true zs; have q131 : t120 < (t101.length : Int) := of_decide_eq_true zs; obtain ⟨ad131, e131, hx131_0, hx131_1, hx131_2, hx131_3⟩ := at_T24 (Kd.R_reads' HO_3.out).2.2 t120 p131 q131; obtain rfl : ad129 = ad131 := (by injection e131); replace p131 := eq_true p131; replace q131 := eq_true q131)))
                   go_ret
                   exact ⟨ze, bz HB.out⟩
                  ·
                   rw [if_neg c84] at H
                   have c84b0 : (((rd_T24 t107 t119).f2) != ((rd_T24 t101 t120).f2)) = false := by simpa using c84
                   (try (have c84b1 : decide (((rd_T24 t107 t119).f2) = ((rd_T24 t101 t120).f2)) = true := by simpa using c84))
                   (try (have c84b2 : (((rd_T24 t107 t119).f2) == ((rd_T24 t101 t120).f2)) = true := by simpa using c84))
                   clear c84
                   have H' := Aside0.mk H
                   clear H
                   obtain ⟨Ao88, co88, eo88⟩ := Kd.R_slice HO_7.out
                   subst eo88
                   go_wp2_with (first | (go_at_call 29; (with_reducible refine (impl_AreasAt.calls k3 _ _ t107 x12_3 t119 _ ?side1 ?side2 A21.out).mono ?_); (case side1 => exact cz ((Kd.R_reads' HO_7.out).2.2)); (case side2 => exact (Kd.R_reads' HO_7.out).2.1); rintro e w89 ⟨rfl, hb⟩; replace HO_3 := Aside0.mk (Kd.R_below (rz HO_3.out) hb); replace HO_7 := Aside0.mk (Kd.R_below (rz HO_7.out) hb); replace HB := Aside0.mk (below_step (bz HB.out) hb); (try clear hb)) | (go_at_call 29; (with_reducible refine (impl_AreasAt.calls k3 _ _ t101 x12_3 t120 _ ?side1 ?side2 A22.out).mono ?_); (case side1 => exact cz ((Kd.R_reads' HO_3.out).2.2)); (case side2 => exact (Kd.R_reads' HO_3.out).2.1); rintro e w90 ⟨rfl, hb⟩; replace HO_3 := Aside0.mk (Kd.R_below (rz HO_3.out) hb); replace HO_7 := Aside0.mk (Kd.R_below (rz HO_7.out) hb); replace HB := Aside0.mk (below_step (bz HB.out) hb); (try clear hb); have p128 : 0 ≤ (t119 : Int) := of_decide_eq_true zs; have q128 : t119 < (t107.length : Int) := of_decide_eq_true zs; obtain ⟨ad128, e128, hx128_0, hx128_1, hx128_2, hx128_3⟩ := at_T24 (Kd.R_reads' HO_7.out).2.2 t119 p128 q128; cases e128; replace p128 := eq_true p128; replace q128 := eq_true q128; have p129 : 0 ≤ (t120 : Int) := of_decide_eq_true zs; have q129 : t120 < (t101.length : Int) := of_decide_eq_true zs; obtain ⟨ad129, e129, hx129_0, hx129_1, hx129_2, hx129_3⟩ := at_T24 (Kd.R_reads' HO_3.out).2.2 t120 p129 q129; cases e129; replace p129 := eq_true p129; replace q129 := eq_true q129; have p130 : 0 ≤ (t119 : Int) := of_decide_eq_true zs; have q130 : t119 < (t107.length : Int) := of_decide_eq_true zs; obtain ⟨ad130, e130, hx130_0, hx130_1, hx130_2, hx130_3⟩ := at_T24 (Kd.R_reads' HO_7.out).2.2 t119 p130 q130; obtain rfl : ad128 = ad130 := (by injection e130); replace p130 := eq_true p130; replace q130 := eq_true q130; have p131 : 0 ≤ (t120 : Int) := of_decide_eq_true zs; have q131 : t120 < (t101.length : Int) := of_decide_eq_true zs; obtain ⟨ad131, e131, hx131_0, hx131_1, hx131_2, hx131_3⟩ := at_T24 (Kd.R_reads' HO_3.out).2.2 t120 p131 q131; obtain rfl : ad129 = ad131 := (by injection e131); replace p131 := eq_true p131; replace q131 := eq_true q131))
                   repeat (go_quiet (fail); try go_wp2_with (first | (go_at_call 29; (with_reducible refine (impl_AreasAt.calls k3 _ _ t107 x12_3 t119 _ ?side1 ?side2 A21.out).mono ?_); (case side1 => exact cz ((Kd.R_reads' HO_7.out).2.2)); (case side2 => exact (Kd.R_reads' HO_7.out).2.1); rintro e w89 ⟨rfl, hb⟩; replace HO_3 := Aside0.mk (Kd.R_below (rz HO_3.out) hb); replace HO_7 := Aside0.mk (Kd.R_below (rz HO_7.out) hb); replace HB := Aside0.mk (below_step (bz HB.out) hb); (try clear hb)) | (go_at_call 29; (with_reducible refine (impl_AreasAt.calls k3 _ _ t101 x12_3 t120 _ ?side1 ?side2 A22.out).mono ?_); (case side1 => exact cz ((Kd.R_reads' HO_3.out).2.2)); (case side2 => exact (Kd.R_reads' HO_3.out).2.1); rintro e w90 ⟨rfl, hb⟩; replace HO_3 := Aside0.mk (Kd.R_below (rz HO_3.out) hb); replace HO_7 := Aside0.mk (Kd.R_below (rz HO_7.out) hb); replace HB := Aside0.mk (below_step (bz HB.out) hb); (try clear hb); have p128 : 0 ≤ (t119 : Int) := of_decide_eq_true zs; have q128 : t119 < (t107.length : Int) := of_decide_eq_true zs; obtain ⟨ad128, e128, hx128_0, hx128_1, hx128_2, hx128_3⟩ := at_T24 (Kd.R_reads' HO_7.out).2.2 t119 p128 q128; cases e128; replace p128 := eq_true p128; replace q128 := eq_true q128; have p129 : 0 ≤ (t120 : Int) := of_decide_eq_true zs; have q129 : t120 < (t101.length : Int) := of_decide_eq_true zs; obtain ⟨ad129, e129, hx129_0, hx129_1, hx129_2, hx129_3⟩ := at_T24 (Kd.R_reads' HO_3.out).2.2 t120 p129 q129; cases e129; replace p129 := eq_true p129; replace q129 := eq_true q129; have p130 : 0 ≤ (t119 : Int) := of_decide_eq_true zs; have q130 : t119 < (t107.length : Int) := of_decide_eq_true zs; obtain ⟨ad130, e130, hx130_0, hx130_1, hx130_2, hx130_3⟩ := at_T24 (Kd.R_reads' HO_7.out).2.2 t119 p130 q130; obtain rfl : ad128 = ad130 := (by injection e130); replace p130 := eq_true p130; replace q130 := eq_true q130; have p131 : 0 ≤ (t120 : Int) := of_decide_eq_true zs; have q131 : t120 < (t101.length : Int) := of_decide_eq_true zs; obtain ⟨ad131, e131, hx131_0, hx131_1, hx131_2, hx131_3⟩ := at_T24 (Kd.R_reads' HO_3.out).2.2 t120 p131 q131; obtain rfl : ad129 = ad131 := (by injection e131); replace p131 := eq_true p131; replace q131 := eq_true q131)))
                   go_roundg k3
                   case measure => have := HJ5.out; have := HJ16.out; have := HK3.out; omega
                   case rel => exact ⟨(wrap64 (x12_3 + 1)), zr, H', ⟨by have := HJ5.out; have := HJ16.out; have := HK3.out; omega⟩, ⟨by (with_reducible repeat (first | apply Kd.R_alloc | apply Kd.R_drewN | apply Kd.R_drew)); exact HO_3.out⟩, ⟨by (with_reducible repeat (first | apply Kd.R_alloc | apply Kd.R_drewN | apply Kd.R_drew)); exact HO_7.out⟩, ⟨bz HB.out⟩⟩
                ·
                 rw [if_neg c79] at H
                 exact absurd H (by simp)
               ·
                rw [if_neg c78] at H
                exact absurd H (by simp)
              ·
               rw [if_neg c77] at H
               exact absurd H (by simp)
             ·
              rw [if_neg c76] at H
              exact absurd H (by simp)
            ·
             rw [if_neg c75] at H
             have c75b0 : decide (0 ≤ t119) = false := decide_eq_false c75
             have c75d4 : decide (0 ≤ t120) = false := by have h_ : ((decide (0 ≤ t119)) != (decide (0 ≤ t120))) = false := c71b0; rw [c75b0] at h_; revert h_; cases decide (0 ≤ t120) <;> simp
             clear c75
             have H' := Aside0.mk H
             clear H
             obtain ⟨Ao91, co91, eo91⟩ := Kd.R_slice HO_7.out
             subst eo91
             go_wp2_with (first | (go_at_call 29; (with_reducible refine (impl_AreasAt.calls k3 _ _ t107 x12_3 t119 _ ?side1 ?side2 A21.out).mono ?_); (case side1 => exact cz ((Kd.R_reads' HO_7.out).2.2)); (case side2 => exact (Kd.R_reads' HO_7.out).2.1); rintro e w92 ⟨rfl, hb⟩; replace HO_3 := Aside0.mk (Kd.R_below (rz HO_3.out) hb); replace HO_7 := Aside0.mk (Kd.R_below (rz HO_7.out) hb); replace HB := Aside0.mk (below_step (bz HB.out) hb); (try clear hb)) | (go_at_call 29; (with_reducible refine (impl_AreasAt.calls k3 _ _ t101 x12_3 t120 _ ?side1 ?side2 A22.out).mono ?_); (case side1 => exact cz ((Kd.R_reads' HO_3.out).2.2)); (case side2 => exact (Kd.R_reads' HO_3.out).2.1); rintro e w93 ⟨rfl, hb⟩; replace HO_3 := Aside0.mk (Kd.R_below (rz HO_3.out) hb); replace HO_7 := Aside0.mk (Kd.R_below (rz HO_7.out) hb); replace HB := Aside0.mk (below_step (bz HB.out) hb); (try clear hb)))
             repeat (go_quiet (fail); try go_wp2_with (first | (go_at_call 29; (with_reducible refine (impl_AreasAt.calls k3 _ _ t107 x12_3 t119 _ ?side1 ?side2 A21.out).mono ?_); (case side1 => exact cz ((Kd.R_reads' HO_7.out).2.2)); (case side2 => exact (Kd.R_reads' HO_7.out).2.1); rintro e w92 ⟨rfl, hb⟩; replace HO_3 := Aside0.mk (Kd.R_below (rz HO_3.out) hb); replace HO_7 := Aside0.mk (Kd.R_below (rz HO_7.out) hb); replace HB := Aside0.mk (below_step (bz HB.out) hb); (try clear hb)) | (go_at_call 29; (with_reducible refine (impl_AreasAt.calls k3 _ _ t101 x12_3 t120 _ ?side1 ?side2 A22.out).mono ?_); (case side1 => exact cz ((Kd.R_reads' HO_3.out).2.2)); (case side2 => exact (Kd.R_reads' HO_3.out).2.1); rintro e w93 ⟨rfl, hb⟩; replace HO_3 := Aside0.mk (Kd.R_below (rz HO_3.out) hb); replace HO_7 := Aside0.mk (Kd.R_below (rz HO_7.out) hb); replace HB := Aside0.mk (below_step (bz HB.out) hb); (try clear hb))))
             go_roundg k3
             case measure => have := HJ5.out; have := HJ16.out; have := HK3.out; omega
             case rel => exact ⟨(wrap64 (x12_3 + 1)), zr, H', ⟨by have := HJ5.out; have := HJ16.out; have := HK3.out; omega⟩, ⟨by (with_reducible repeat (first | apply Kd.R_alloc | apply Kd.R_drewN | apply Kd.R_drew)); exact HO_3.out⟩, ⟨by (with_reducible repeat (first | apply Kd.R_alloc | apply Kd.R_drewN | apply Kd.R_drew)); exact HO_7.out⟩, ⟨bz HB.out⟩⟩
         ·
          rw [if_neg c20] at H
          have c20b0 : decide (x12_3 < 16) = false := decide_eq_false c20
          clear c20
          replace H := Option.bind_eq_some_iff.mp H
          obtain ⟨t116, A940, H⟩ := H
          have A94 := Aside0.mk A940
          clear A940
          by_cases c95 : t116 = true
          ·
           subst c95
           rw [if_pos rfl] at H
           replace H := Option.bind_eq_some_iff.mp H
           obtain ⟨t117, A960, H⟩ := H
           have A96 := Aside0.mk A960
           clear A960
           replace H := Option.bind_eq_some_iff.mp H
           obtain ⟨t118, A970, H⟩ := H
           have A97 := Aside0.mk A970
           clear A970
           obtain rfl := Option.some.inj H
           obtain ⟨Ao98, co98, eo98⟩ := Kd.R_slice HO_7.out
           subst eo98
           go_wp2_with (first | (go_at_call 21; (with_reducible refine (impl_AreasOk.calls k3 _ _ t107 true _ ?side1 ?side2 A94.out).mono ?_); (case side1 => exact cz ((Kd.R_reads' HO_7.out).2.2)); (case side2 => exact (Kd.R_reads' HO_7.out).2.1); rintro e w99 ⟨rfl, hb⟩; replace HO_3 := Aside0.mk (Kd.R_below (rz HO_3.out) hb); replace HO_7 := Aside0.mk (Kd.R_below (rz HO_7.out) hb); replace HB := Aside0.mk (below_step (bz HB.out) hb); (try clear hb)) | (go_at_call 27; (with_reducible refine (impl_AreasPages.calls k3 _ _ t107 t117 _ ?side1 ?side2 A96.out).mono ?_); (case side1 => exact cz ((Kd.R_reads' HO_7.out).2.2)); (case side2 => exact (Kd.R_reads' HO_7.out).2.1); rintro e w100 ⟨rfl, hb⟩; replace HO_3 := Aside0.mk (Kd.R_below (rz HO_3.out) hb); replace HO_7 := Aside0.mk (Kd.R_below (rz HO_7.out) hb); replace HB := Aside0.mk (below_step (bz HB.out) hb); (try clear hb)) | (go_at_call 27; (with_reducible refine (impl_AreasPages.calls k3 _ _ t101 t118 _ ?side1 ?side2 A97.out).mono ?_); (case side1 => exact cz ((Kd.R_reads' HO_3.out).2.2)); (case side2 => exact (Kd.R_reads' HO_3.out).2.1); rintro e w101 ⟨rfl, hb⟩; replace HO_3 := Aside0.mk (Kd.R_below (rz HO_3.out) hb); replace HO_7 := Aside0.mk (Kd.R_below (rz HO_7.out) hb); replace HB := Aside0.mk (below_step (bz HB.out) hb); (try clear hb)))
           repeat (go_quiet (fail); try go_wp2_with (first | (go_at_call 21; (with_reducible refine (impl_AreasOk.calls k3 _ _ t107 true _ ?side1 ?side2 A94.out).mono ?_); (case side1 => exact cz ((Kd.R_reads' HO_7.out).2.2)); (case side2 => exact (Kd.R_reads' HO_7.out).2.1); rintro e w99 ⟨rfl, hb⟩; replace HO_3 := Aside0.mk (Kd.R_below (rz HO_3.out) hb); replace HO_7 := Aside0.mk (Kd.R_below (rz HO_7.out) hb); replace HB := Aside0.mk (below_step (bz HB.out) hb); (try clear hb)) | (go_at_call 27; (with_reducible refine (impl_AreasPages.calls k3 _ _ t107 t117 _ ?side1 ?side2 A96.out).mono ?_); (case side1 => exact cz ((Kd.R_reads' HO_7.out).2.2)); (case side2 => exact (Kd.R_reads' HO_7.out).2.1); rintro e w100 ⟨rfl, hb⟩; replace HO_3 := Aside0.mk (Kd.R_below (rz HO_3.out) hb); replace HO_7 := Aside0.mk (Kd.R_below (rz HO_7.out) hb); replace HB := Aside0.mk (below_step (bz HB.out) hb); (try clear hb)) | (go_at_call 27; (with_reducible refine (impl_AreasPages.calls k3 _ _ t101 t118 _ ?side1 ?side2 A97.out).mono ?_); (case side1 => exact cz ((Kd.R_reads' HO_3.out).2.2)); (case side2 => exact (Kd.R_reads' HO_3.out).2.1); rintro e w101 ⟨rfl, hb⟩; replace HO_3 := Aside0.mk (Kd.R_below (rz HO_3.out) hb); replace HO_7 := Aside0.mk (Kd.R_below (rz HO_7.out) hb); replace HB := Aside0.mk (below_step (bz HB.out) hb); (try clear hb))))
           go_ret
           exact ⟨ze, bz HB.out⟩
          ·
           replace c95 := Bool.eq_false_iff.mpr c95
           subst c95
           rw [if_neg nf_] at H
           obtain rfl := Option.some.inj H
           obtain ⟨Ao102, co102, eo102⟩ := Kd.R_slice HO_7.out
           subst eo102
           go_wp2_with (first | (go_at_call 21; (with_reducible refine (impl_AreasOk.calls k3 _ _ t107 false _ ?side1 ?side2 A94.out).mono ?_); (case side1 => exact cz ((Kd.R_reads' HO_7.out).2.2)); (case side2 => exact (Kd.R_reads' HO_7.out).2.1); rintro e w103 ⟨rfl, hb⟩; replace HO_3 := Aside0.mk (Kd.R_below (rz HO_3.out) hb); replace HO_7 := Aside0.mk (Kd.R_below (rz HO_7.out) hb); replace HB := Aside0.mk (below_step (bz HB.out) hb); (try clear hb)))
           repeat (go_quiet (fail); try go_wp2_with (first | (go_at_call 21; (with_reducible refine (impl_AreasOk.calls k3 _ _ t107 false _ ?side1 ?side2 A94.out).mono ?_); (case side1 => exact cz ((Kd.R_reads' HO_7.out).2.2)); (case side2 => exact (Kd.R_reads' HO_7.out).2.1); rintro e w103 ⟨rfl, hb⟩; replace HO_3 := Aside0.mk (Kd.R_below (rz HO_3.out) hb); replace HO_7 := Aside0.mk (Kd.R_below (rz HO_7.out) hb); replace HB := Aside0.mk (below_step (bz HB.out) hb); (try clear hb))))
           go_ret
           exact ⟨ze, bz HB.out⟩

/-- THE ONE PURE STATEMENT of laws_FnAreasSet: yours. -/
def laws_FnAreasSet.Pure : Prop := ∀ (l0 : List Int), l0.length ≤ maxLen → l0.length * 1 ≤ 140737488351232 → (∀ x ∈ l0, (Lit.int .u8 x).wf = true) → ∃ k, laws_FnAreasSet.f k l0 = some true
theorem laws_FnAreasSet.walk (P : laws_FnAreasSet.Pure) (a0 : Option Addr) (len0 cap0 : Nat) (z0 : List Int) (w : World) (w0 : (a0 = none ∧ len0 = 0 ∧ cap0 = 0 ∧ z0 = []) ∨ ∃ x, a0 = some x ∧ len0 ≤ cap0 ∧ cap0 ≤ maxLen ∧ z0.length = cap0 ∧ (∀ i, i < z0.length → w.cell? (x.add i) = some (.int .u8 (z0.getD i 0))) ∧ ∀ n ∈ z0, (Lit.int .u8 n).wf = true) (y0 : len0 * 1 ≤ 140737488351232) :
  Calls Try.prog 16 #[.slice a0 len0 cap0] w fun e w' => e = .returned (.bool true) ∧ Below w.heap.size w w' := by
 obtain ⟨l0, rfl, hr0, hm0, hw0, hc0⟩ := ReadsInt.ofRowC w0
 obtain ⟨k, h⟩ := P l0 hm0 y0 hw0
 refine (laws_FnAreasSet.calls k _ _ l0 true w (Kd.C_of_reads (d := (0 : Int)) (h1 := fun _ => rfl) hr0) hc0 h).mono ?_
 rintro e w' ⟨rfl, hd⟩
 exact ⟨rfl, hd⟩

end Go.Proofs.Ytlahnekinlkfmaa.P
