-- printed by this session's own driver (wip/qd.py) out of the translation; Lean checks it
import Derived.Test.YtlahnekinlkfmaaPf0
import Derived.Test.YtlahnekinlkfmaaPfimplAreasAt
import Derived.Test.YtlahnekinlkfmaaPflawsqdAreas
import Derived.Test.YtlahnekinlkfmaaPfspecDrawAreasSet
import Derived.Test.YtlahnekinlkfmaaPfimplAreasSet
import Derived.Test.YtlahnekinlkfmaaPfspecAreasSet
namespace Go.Proofs.Ytlahnekinlkfmaa.P
open Go.RowKit Go.Proofs.YtlahnekinlkfmaaW.PrintWords Go.Proofs.YtlahnekinlkfmaaW.PrintLast Go.Proofs.YtlahnekinlkfmaaW.PrintMore
attribute [local go_sem] max2_int min2_int max_two min_two max_three min_three max_four min_four Q.cell_set_map   -- for this text's walks alone
set_option linter.unusedVariables false
set_option linter.unusedSimpArgs false

/-! ### laws_FnAreasLast: function 15 -/
mutual
def laws_FnAreasLast.j0 : Nat → List (S24) → Int → Int → Bool → List (S24) → Bool → List (S24) → Bool → Bool → Option (Bool)
 | 0, _, _, _, _, _, _, _, _, _ => none
 | k + 1, x3, x4, x5, x6, x7, x8, x9, x10, x56 => if x56 = true then (if (x8 == x10) = true then ((laws_qdAreas.f k x7 x9).bind fun t116 => (some t116)) else (some false)) else ((impl_AreasSet.f k x7 x4 x5 (!x6)).bind fun bt117 => ((impl_AreasSet.f k x3 x4 x5 (!x6)).bind fun bt121 => (laws_FnAreasLast.l0 k bt117.1 bt117.2 bt121.1 bt121.2 0)))
def laws_FnAreasLast.l0 : Nat → List (S24) → Bool → List (S24) → Bool → Int → Option (Bool)
 | 0, _, _, _, _, _ => none
 | k + 1, x11, x12, x13, x14, x15 => if x15 < 16 then (if x12 = true then (laws_FnAreasLast.j2 k x11 true x13 x14 x15 x14) else (laws_FnAreasLast.j2 k x11 false x13 x14 x15 false)) else (laws_FnAreasLast.j2 k x11 x12 x13 x14 x15 false)
def laws_FnAreasLast.j2 : Nat → List (S24) → Bool → List (S24) → Bool → Int → Bool → Option (Bool)
 | 0, _, _, _, _, _, _ => none
 | k + 1, x11, x12, x13, x14, x15, x90 => if x90 = true then ((impl_AreasAt.f k x11 x15).bind fun t125 => ((impl_AreasAt.f k x13 x15).bind fun t126 => (if ((decide (t125 ≥ 0)) != (decide (t126 ≥ 0))) = true then (some false) else (if t125 ≥ 0 then (if 0 ≤ t125 then (if t125 < (x11.length : Int) then (if 0 ≤ t126 then (if t126 < (x13.length : Int) then (if (((rd_T24 x11 t125).f2) != ((rd_T24 x13 t126).f2)) = true then (some false) else (if (((rd_T24 x11 t125).f3) != ((rd_T24 x13 t126).f3)) = true then (some false) else (laws_FnAreasLast.l0 k x11 x12 x13 x14 (wrap64 (x15 + 1))))) else (none)) else (none)) else (none)) else (none)) else (laws_FnAreasLast.l0 k x11 x12 x13 x14 (wrap64 (x15 + 1))))))) else (some true)
end
def laws_FnAreasLast.f (k : Nat) (l0 : List Int) : Option (Bool) := if (l0.length : Int) > 1048576 then (some true) else ((spec_DrawAreasSet.f k l0).bind fun bt101 => ((impl_AreasSet.f k bt101.1 bt101.2.1 bt101.2.2.1 bt101.2.2.2).bind fun bt107 => ((spec_AreasSet.f k bt101.1 bt101.2.1 bt101.2.2.1 bt101.2.2.2).bind fun bt111 => (if (bt107.2 != bt111.2) = true then (laws_FnAreasLast.j0 k bt101.1 bt101.2.1 bt101.2.2.1 bt101.2.2.2 bt107.1 bt107.2 bt111.1 bt111.2 true) else ((laws_qdAreas.f k bt107.1 bt111.1).bind fun t115 => (if t115 = true then (laws_FnAreasLast.j0 k bt101.1 bt101.2.1 bt101.2.2.1 bt101.2.2.2 bt107.1 bt107.2 bt111.1 bt111.2 (!bt107.2)) else (laws_FnAreasLast.j0 k bt101.1 bt101.2.1 bt101.2.2.1 bt101.2.2.2 bt107.1 bt107.2 bt111.1 bt111.2 true)))))))
theorem laws_FnAreasLast.mono_l : ∀ k, (∀ y0 y1 y2 y3 y4 y5 y6 y7 y8, LeO (laws_FnAreasLast.j0 k y0 y1 y2 y3 y4 y5 y6 y7 y8) (laws_FnAreasLast.j0 (k + 1) y0 y1 y2 y3 y4 y5 y6 y7 y8)) ∧ (∀ y0 y1 y2 y3 y4, LeO (laws_FnAreasLast.l0 k y0 y1 y2 y3 y4) (laws_FnAreasLast.l0 (k + 1) y0 y1 y2 y3 y4)) ∧ (∀ y0 y1 y2 y3 y4 y5, LeO (laws_FnAreasLast.j2 k y0 y1 y2 y3 y4 y5) (laws_FnAreasLast.j2 (k + 1) y0 y1 y2 y3 y4 y5))
 | 0 => ⟨fun _ _ _ _ _ _ _ _ _ r h => by simp [laws_FnAreasLast.j0] at h, fun _ _ _ _ _ r h => by simp [laws_FnAreasLast.l0] at h, fun _ _ _ _ _ _ r h => by simp [laws_FnAreasLast.j2] at h⟩
 | k + 1 => by
  obtain ⟨ih0, ih1, ih2⟩ := laws_FnAreasLast.mono_l k
  refine ⟨?_, ?_, ?_⟩
  ·
   intro y0 y1 y2 y3 y4 y5 y6 y7 y8
   unfold laws_FnAreasLast.j0
   repeat' first
   | (with_reducible exact ih0 _ _ _ _ _ _ _ _ _)
   | (with_reducible exact ih1 _ _ _ _ _)
   | (with_reducible exact ih2 _ _ _ _ _ _)
   | (with_reducible exact impl_AreasAt.mono _ _ _)
   | (with_reducible exact impl_AreasSet.mono _ _ _ _ _)
   | (with_reducible exact laws_qdAreas.mono _ _ _)
   | (with_reducible exact spec_AreasSet.mono _ _ _ _ _)
   | (with_reducible exact spec_DrawAreasSet.mono _ _)
   | (with_reducible exact LeO.refl _)
   | (with_reducible exact LeO.none _)
   | (with_reducible refine LeO.ite ?_ ?_)
   | (with_reducible refine LeO.bind ?_ (fun _ => ?_))
   | exact ih0 _ _ _ _ _ _ _ _ _
   | exact ih1 _ _ _ _ _
   | exact ih2 _ _ _ _ _ _
   | exact impl_AreasAt.mono _ _ _
   | exact impl_AreasSet.mono _ _ _ _ _
   | exact laws_qdAreas.mono _ _ _
   | exact spec_AreasSet.mono _ _ _ _ _
   | exact spec_DrawAreasSet.mono _ _
   | exact LeO.none _
   | refine LeO.ite ?_ ?_
   | refine LeO.bind ?_ (fun _ => ?_)
  ·
   intro y0 y1 y2 y3 y4
   unfold laws_FnAreasLast.l0
   repeat' first
   | (with_reducible exact ih0 _ _ _ _ _ _ _ _ _)
   | (with_reducible exact ih1 _ _ _ _ _)
   | (with_reducible exact ih2 _ _ _ _ _ _)
   | (with_reducible exact impl_AreasAt.mono _ _ _)
   | (with_reducible exact impl_AreasSet.mono _ _ _ _ _)
   | (with_reducible exact laws_qdAreas.mono _ _ _)
   | (with_reducible exact spec_AreasSet.mono _ _ _ _ _)
   | (with_reducible exact spec_DrawAreasSet.mono _ _)
   | (with_reducible exact LeO.refl _)
   | (with_reducible exact LeO.none _)
   | (with_reducible refine LeO.ite ?_ ?_)
   | (with_reducible refine LeO.bind ?_ (fun _ => ?_))
   | exact ih0 _ _ _ _ _ _ _ _ _
   | exact ih1 _ _ _ _ _
   | exact ih2 _ _ _ _ _ _
   | exact impl_AreasAt.mono _ _ _
   | exact impl_AreasSet.mono _ _ _ _ _
   | exact laws_qdAreas.mono _ _ _
   | exact spec_AreasSet.mono _ _ _ _ _
   | exact spec_DrawAreasSet.mono _ _
   | exact LeO.none _
   | refine LeO.ite ?_ ?_
   | refine LeO.bind ?_ (fun _ => ?_)
  ·
   intro y0 y1 y2 y3 y4 y5
   unfold laws_FnAreasLast.j2
   repeat' first
   | (with_reducible exact ih0 _ _ _ _ _ _ _ _ _)
   | (with_reducible exact ih1 _ _ _ _ _)
   | (with_reducible exact ih2 _ _ _ _ _ _)
   | (with_reducible exact impl_AreasAt.mono _ _ _)
   | (with_reducible exact impl_AreasSet.mono _ _ _ _ _)
   | (with_reducible exact laws_qdAreas.mono _ _ _)
   | (with_reducible exact spec_AreasSet.mono _ _ _ _ _)
   | (with_reducible exact spec_DrawAreasSet.mono _ _)
   | (with_reducible exact LeO.refl _)
   | (with_reducible exact LeO.none _)
   | (with_reducible refine LeO.ite ?_ ?_)
   | (with_reducible refine LeO.bind ?_ (fun _ => ?_))
   | exact ih0 _ _ _ _ _ _ _ _ _
   | exact ih1 _ _ _ _ _
   | exact ih2 _ _ _ _ _ _
   | exact impl_AreasAt.mono _ _ _
   | exact impl_AreasSet.mono _ _ _ _ _
   | exact laws_qdAreas.mono _ _ _
   | exact spec_AreasSet.mono _ _ _ _ _
   | exact spec_DrawAreasSet.mono _ _
   | exact LeO.none _
   | refine LeO.ite ?_ ?_
   | refine LeO.bind ?_ (fun _ => ?_)
theorem laws_FnAreasLast.mono : ∀ a0 k, LeO (laws_FnAreasLast.f k a0) (laws_FnAreasLast.f (k + 1) a0) := by
 intro a0 k
 obtain ⟨ih0, ih1, ih2⟩ := laws_FnAreasLast.mono_l k
 unfold laws_FnAreasLast.f
 repeat' first
   | (with_reducible exact ih0 _ _ _ _ _ _ _ _ _)
   | (with_reducible exact ih1 _ _ _ _ _)
   | (with_reducible exact ih2 _ _ _ _ _ _)
   | (with_reducible exact impl_AreasAt.mono _ _ _)
   | (with_reducible exact impl_AreasSet.mono _ _ _ _ _)
   | (with_reducible exact laws_qdAreas.mono _ _ _)
   | (with_reducible exact spec_AreasSet.mono _ _ _ _ _)
   | (with_reducible exact spec_DrawAreasSet.mono _ _)
   | (with_reducible exact LeO.refl _)
   | (with_reducible exact LeO.none _)
   | (with_reducible refine LeO.ite ?_ ?_)
   | (with_reducible refine LeO.bind ?_ (fun _ => ?_))
   | exact ih0 _ _ _ _ _ _ _ _ _
   | exact ih1 _ _ _ _ _
   | exact ih2 _ _ _ _ _ _
   | exact impl_AreasAt.mono _ _ _
   | exact impl_AreasSet.mono _ _ _ _ _
   | exact laws_qdAreas.mono _ _ _
   | exact spec_AreasSet.mono _ _ _ _ _
   | exact spec_DrawAreasSet.mono _ _
   | exact LeO.none _
   | refine LeO.ite ?_ ?_
   | refine LeO.bind ?_ (fun _ => ?_)
set_option maxHeartbeats 8000000 in
set_option maxRecDepth 100000 in
theorem laws_FnAreasLast.calls (k : Nat) (A0 : Option Addr) (c0 : Nat) (l0 : List Int) (r : Bool) (w : World) (hr0 : Kd.C (Kd.int .u8) w A0 l0.length l0) (hc0 : l0.length ≤ c0) (h : laws_FnAreasLast.f k l0 = some r) :
  Calls Try.prog 15 #[.slice A0 l0.length c0] w fun e w' => e = .returned (.bool r) ∧ Below w.heap.size w w' := by
 have HR0 := Aside0.mk hr0
 have HC0 := Aside0.mk hc0
 clear hr0 hc0
 have HB := Aside0.mk (Below.refl w.heap.size w)
 have H : (if (l0.length : Int) > 1048576 then (some true) else ((spec_DrawAreasSet.f k l0).bind fun bt101 => ((impl_AreasSet.f k bt101.1 bt101.2.1 bt101.2.2.1 bt101.2.2.2).bind fun bt107 => ((spec_AreasSet.f k bt101.1 bt101.2.1 bt101.2.2.1 bt101.2.2.2).bind fun bt111 => (if (bt107.2 != bt111.2) = true then (laws_FnAreasLast.j0 k bt101.1 bt101.2.1 bt101.2.2.1 bt101.2.2.2 bt107.1 bt107.2 bt111.1 bt111.2 true) else ((laws_qdAreas.f k bt107.1 bt111.1).bind fun t115 => (if t115 = true then (laws_FnAreasLast.j0 k bt101.1 bt101.2.1 bt101.2.2.1 bt101.2.2.2 bt107.1 bt107.2 bt111.1 bt111.2 (!bt107.2)) else (laws_FnAreasLast.j0 k bt101.1 bt101.2.1 bt101.2.2.1 bt101.2.2.2 bt107.1 bt107.2 bt111.1 bt111.2 true)))))))) = some r := h
 clear h
 by_cases c2 : (l0.length : Int) > 1048576
 ·
  rw [if_pos c2] at H
  have c2b0 : decide (1048576 < (l0.length : Int)) = true := decide_eq_true c2
  have c2b1 : decide (1048576 < l0.length) = true := decide_eq_true (by omega)
  clear c2
  obtain rfl := Option.some.inj H
  go_enter Try.func15, Try.ntmps15
  go_wp2
  repeat (go_quiet (fail); try go_wp2)
  go_ret
  exact ⟨ze, bz HB.out⟩
 ·
  rw [if_neg c2] at H
  have c2b0 : decide (1048576 < (l0.length : Int)) = false := decide_eq_false c2
  have c2b1 : decide (1048576 < l0.length) = false := decide_eq_false (by omega)
  clear c2
  replace H := Option.bind_eq_some_iff.mp H
  obtain ⟨⟨t101, t102, t103, t104⟩, A30, H⟩ := H
  replace H : ((impl_AreasSet.f k t101 t102 t103 t104).bind fun bt107 => ((spec_AreasSet.f k t101 t102 t103 t104).bind fun bt111 => (if (bt107.2 != bt111.2) = true then (laws_FnAreasLast.j0 k t101 t102 t103 t104 bt107.1 bt107.2 bt111.1 bt111.2 true) else ((laws_qdAreas.f k bt107.1 bt111.1).bind fun t115 => (if t115 = true then (laws_FnAreasLast.j0 k t101 t102 t103 t104 bt107.1 bt107.2 bt111.1 bt111.2 (!bt107.2)) else (laws_FnAreasLast.j0 k t101 t102 t103 t104 bt107.1 bt107.2 bt111.1 bt111.2 true)))))) = some r := H
  have A3 := Aside0.mk A30
  clear A30
  replace H := Option.bind_eq_some_iff.mp H
  obtain ⟨⟨t107, t108⟩, A40, H⟩ := H
  replace H : ((spec_AreasSet.f k t101 t102 t103 t104).bind fun bt111 => (if (t108 != bt111.2) = true then (laws_FnAreasLast.j0 k t101 t102 t103 t104 t107 t108 bt111.1 bt111.2 true) else ((laws_qdAreas.f k t107 bt111.1).bind fun t115 => (if t115 = true then (laws_FnAreasLast.j0 k t101 t102 t103 t104 t107 t108 bt111.1 bt111.2 (!t108)) else (laws_FnAreasLast.j0 k t101 t102 t103 t104 t107 t108 bt111.1 bt111.2 true))))) = some r := H
  have A4 := Aside0.mk A40
  clear A40
  replace H := Option.bind_eq_some_iff.mp H
  obtain ⟨⟨t111, t112⟩, A50, H⟩ := H
  replace H : (if (t108 != t112) = true then (laws_FnAreasLast.j0 k t101 t102 t103 t104 t107 t108 t111 t112 true) else ((laws_qdAreas.f k t107 t111).bind fun t115 => (if t115 = true then (laws_FnAreasLast.j0 k t101 t102 t103 t104 t107 t108 t111 t112 (!t108)) else (laws_FnAreasLast.j0 k t101 t102 t103 t104 t107 t108 t111 t112 true)))) = some r := H
  have A5 := Aside0.mk A50
  clear A50
  have HC6 := Aside0.mk H
  clear H
  go_enter Try.func15, Try.ntmps15
  go_upto_region 6 with (first | (go_at_call 43; (with_reducible refine (spec_DrawAreasSet.calls k _ _ l0 t101 t102 t103 t104 _ ?side1 ?side2 A3.out).mono ?_); (case side1 => exact cz HR0.out); (case side2 => exact HC0.out); rintro e w7 ⟨v105, rfl, ho0, hb⟩; have HO106 := Aside0.mk (Kd.R_lower ho0 (below_size (bz HB.out))); replace HB := Aside0.mk (below_step (bz HB.out) hb); (try clear hb); (try clear ho0); obtain ⟨Ao8, co8, eo8⟩ := Kd.R_slice HO106.out; subst eo8) | (go_at_call 44; (with_reducible refine (impl_AreasSet.calls k _ _ t101 t102 t103 t104 t107 t108 _ ?side1 ?side2 A4.out).mono ?_); (case side1 => exact cz ((Kd.R_reads' HO106.out).2.2)); (case side2 => exact (Kd.R_reads' HO106.out).2.1); rintro e w9 ⟨v109, rfl, ho0, hb⟩; have HO110 := Aside0.mk (Kd.R_lower (Kd.R_new' ho0 (Kd.R_lt (rz HO106.out))) (below_size (bz HB.out))); replace HO106 := Aside0.mk (Kd.R_elder' (rz HO106.out) (Kd.R_base ho0) hb); replace HB := Aside0.mk (below_step (bz HB.out) hb); (try clear hb); (try clear ho0)) | (go_at_call 45; (with_reducible refine (spec_AreasSet.calls k _ _ t101 t102 t103 t104 t111 t112 _ ?side1 ?side2 A5.out).mono ?_); (case side1 => exact cz ((Kd.R_reads' HO106.out).2.2)); (case side2 => exact (Kd.R_reads' HO106.out).2.1); rintro e w10 ⟨v113, rfl, ho0, hb⟩; have HO114 := Aside0.mk (Kd.R_lower (Kd.R_new' (Kd.R_new' ho0 (Kd.R_lt (rz HO106.out))) (Kd.R_lt (rz HO110.out))) (below_size (bz HB.out))); replace HO106 := Aside0.mk (Kd.R_elder' (rz HO106.out) (Kd.R_base ho0) hb); replace HO110 := Aside0.mk (Kd.R_elder' (rz HO110.out) (Kd.R_base ho0) hb); replace HB := Aside0.mk (below_step (bz HB.out) hb); (try clear hb); (try clear ho0)))
  repeat (go_quiet (fail); go_upto_region 6 with (first | (go_at_call 43; (with_reducible refine (spec_DrawAreasSet.calls k _ _ l0 t101 t102 t103 t104 _ ?side1 ?side2 A3.out).mono ?_); (case side1 => exact cz HR0.out); (case side2 => exact HC0.out); rintro e w7 ⟨v105, rfl, ho0, hb⟩; have HO106 := Aside0.mk (Kd.R_lower ho0 (below_size (bz HB.out))); replace HB := Aside0.mk (below_step (bz HB.out) hb); (try clear hb); (try clear ho0); obtain ⟨Ao8, co8, eo8⟩ := Kd.R_slice HO106.out; subst eo8) | (go_at_call 44; (with_reducible refine (impl_AreasSet.calls k _ _ t101 t102 t103 t104 t107 t108 _ ?side1 ?side2 A4.out).mono ?_); (case side1 => exact cz ((Kd.R_reads' HO106.out).2.2)); (case side2 => exact (Kd.R_reads' HO106.out).2.1); rintro e w9 ⟨v109, rfl, ho0, hb⟩; have HO110 := Aside0.mk (Kd.R_lower (Kd.R_new' ho0 (Kd.R_lt (rz HO106.out))) (below_size (bz HB.out))); replace HO106 := Aside0.mk (Kd.R_elder' (rz HO106.out) (Kd.R_base ho0) hb); replace HB := Aside0.mk (below_step (bz HB.out) hb); (try clear hb); (try clear ho0)) | (go_at_call 45; (with_reducible refine (spec_AreasSet.calls k _ _ t101 t102 t103 t104 t111 t112 _ ?side1 ?side2 A5.out).mono ?_); (case side1 => exact cz ((Kd.R_reads' HO106.out).2.2)); (case side2 => exact (Kd.R_reads' HO106.out).2.1); rintro e w10 ⟨v113, rfl, ho0, hb⟩; have HO114 := Aside0.mk (Kd.R_lower (Kd.R_new' (Kd.R_new' ho0 (Kd.R_lt (rz HO106.out))) (Kd.R_lt (rz HO110.out))) (below_size (bz HB.out))); replace HO106 := Aside0.mk (Kd.R_elder' (rz HO106.out) (Kd.R_base ho0) hb); replace HO110 := Aside0.mk (Kd.R_elder' (rz HO110.out) (Kd.R_base ho0) hb); replace HB := Aside0.mk (below_step (bz HB.out) hb); (try clear hb); (try clear ho0))))
  (try simp only [Act.put, List.setIfInBounds_toArray, List.set_cons_zero, List.set_cons_succ])
  go_cut [56] (fun v56 wc => ∃ (kq : Nat) (x56_5 : Bool), v56 = .bool x56_5 ∧ Aside0 (laws_FnAreasLast.j0 kq t101 t102 t103 t104 t107 t108 t111 t112 x56_5 = some r) ∧ Aside0 (kq ≤ k) ∧ Aside0 (Kd.R k24 24 wc w.heap.size (fun k_ => some k_ ≠ (v109 : Value).ownBlock ∧ some k_ ≠ (v113 : Value).ownBlock) (.slice Ao8 t101.length co8) t101) ∧ Aside0 (Kd.R k24 24 wc w.heap.size (fun k_ => some k_ ≠ ((.slice Ao8 t101.length co8) : Value).ownBlock ∧ some k_ ≠ (v113 : Value).ownBlock) v109 t107) ∧ Aside0 (Kd.R k24 24 wc w.heap.size (fun k_ => some k_ ≠ ((.slice Ao8 t101.length co8) : Value).ownBlock ∧ some k_ ≠ (v109 : Value).ownBlock) v113 t111) ∧ Aside0 (Below w.heap.size w wc))
  case first =>
   have H := HC6.out
   clear HC6
   by_cases c11 : (t108 != t112) = true
   ·
    rw [if_pos c11] at H
    have c11b0 : (t108 != t112) = true := c11
    (try (have c11b1 : decide (t108 = t112) = false := by simpa using c11))
    (try (have c11b2 : (t108 == t112) = false := by simpa using c11))
    (try (have c11b3 : ¬ (t108 = t112) := by simpa using c11))
    clear c11
    (first | rw [c11b0] | (simp only [i64_w, i32_w]; rw [c11b0]) | skip)
    have H' := Aside0.mk H
    clear H
    go_wp2
    repeat (go_quiet (fail); try go_wp2)
    go_meet
    case rel => exact ⟨_, (true), zr, H', ⟨by first | omega | exact Nat.le_refl _⟩, ⟨by (with_reducible repeat (first | apply Kd.R_alloc | apply Kd.R_drewN | apply Kd.R_drew)); exact Kd.R_mono HO106.out (fun _ hk => ⟨hk.1.2, hk.2⟩)⟩, ⟨by (with_reducible repeat (first | apply Kd.R_alloc | apply Kd.R_drewN | apply Kd.R_drew)); exact Kd.R_mono HO110.out (fun _ hk => ⟨hk.1.2, hk.2⟩)⟩, ⟨by (with_reducible repeat (first | apply Kd.R_alloc | apply Kd.R_drewN | apply Kd.R_drew)); exact Kd.R_mono HO114.out (fun _ hk => ⟨hk.1.2, hk.2⟩)⟩, ⟨bz HB.out⟩⟩
   ·
    rw [if_neg c11] at H
    have c11b0 : (t108 != t112) = false := by simpa using c11
    (try (have c11b1 : decide (t108 = t112) = true := by simpa using c11))
    (try (have c11b2 : (t108 == t112) = true := by simpa using c11))
    clear c11
    (first | rw [c11b0] | (simp only [i64_w, i32_w]; rw [c11b0]) | skip)
    replace H := Option.bind_eq_some_iff.mp H
    obtain ⟨t115, A120, H⟩ := H
    have A12 := Aside0.mk A120
    clear A120
    by_cases c13 : t115 = true
    ·
     subst c13
     rw [if_pos rfl] at H
     have H' := Aside0.mk H
     clear H
     obtain ⟨Ao14, co14, eo14⟩ := Kd.R_slice HO110.out
     subst eo14
     obtain ⟨Ao15, co15, eo15⟩ := Kd.R_slice HO114.out
     subst eo15
     go_wp2_with (first | (go_at_call 36; (with_reducible refine (laws_qdAreas.calls k _ _ t107 _ _ t111 true _ ?side1 ?side2 ?side3 ?side4 A12.out).mono ?_); (case side1 => exact cz ((Kd.R_reads' HO110.out).2.2)); (case side2 => exact (Kd.R_reads' HO110.out).2.1); (case side3 => exact cz ((Kd.R_reads' HO114.out).2.2)); (case side4 => exact (Kd.R_reads' HO114.out).2.1); rintro e w' ⟨rfl, ⟨nd, rfl⟩⟩; (try first | exact ⟨rfl, _, World.drewN_drewN _ _ _⟩ | exact ⟨rfl, _, Eq.trans (World.drewN_drewN _ _ _) (congrArg (World.drewN _) (Nat.add_assoc _ _ _))⟩)))
     repeat (go_quiet (first | (go_at_call 36; (with_reducible refine (laws_qdAreas.calls k _ _ t107 _ _ t111 true _ ?side1 ?side2 ?side3 ?side4 A12.out).mono ?_); (case side1 => exact cz ((Kd.R_reads' HO110.out).2.2)); (case side2 => exact (Kd.R_reads' HO110.out).2.1); (case side3 => exact cz ((Kd.R_reads' HO114.out).2.2)); (case side4 => exact (Kd.R_reads' HO114.out).2.1); rintro e w' ⟨rfl, ⟨nd, rfl⟩⟩; (try first | exact ⟨rfl, _, World.drewN_drewN _ _ _⟩ | exact ⟨rfl, _, Eq.trans (World.drewN_drewN _ _ _) (congrArg (World.drewN _) (Nat.add_assoc _ _ _))⟩))); try go_wp2_with (first | (go_at_call 36; (with_reducible refine (laws_qdAreas.calls k _ _ t107 _ _ t111 true _ ?side1 ?side2 ?side3 ?side4 A12.out).mono ?_); (case side1 => exact cz ((Kd.R_reads' HO110.out).2.2)); (case side2 => exact (Kd.R_reads' HO110.out).2.1); (case side3 => exact cz ((Kd.R_reads' HO114.out).2.2)); (case side4 => exact (Kd.R_reads' HO114.out).2.1); rintro e w' ⟨rfl, ⟨nd, rfl⟩⟩; (try first | exact ⟨rfl, _, World.drewN_drewN _ _ _⟩ | exact ⟨rfl, _, Eq.trans (World.drewN_drewN _ _ _) (congrArg (World.drewN _) (Nat.add_assoc _ _ _))⟩))))
     go_meet
     case rel => exact ⟨_, (!t108), zr, H', ⟨by first | omega | exact Nat.le_refl _⟩, ⟨by (with_reducible repeat (first | apply Kd.R_alloc | apply Kd.R_drewN | apply Kd.R_drew)); exact Kd.R_mono HO106.out (fun _ hk => ⟨hk.1.2, hk.2⟩)⟩, ⟨by (with_reducible repeat (first | apply Kd.R_alloc | apply Kd.R_drewN | apply Kd.R_drew)); exact Kd.R_mono HO110.out (fun _ hk => ⟨hk.1.2, hk.2⟩)⟩, ⟨by (with_reducible repeat (first | apply Kd.R_alloc | apply Kd.R_drewN | apply Kd.R_drew)); exact Kd.R_mono HO114.out (fun _ hk => ⟨hk.1.2, hk.2⟩)⟩, ⟨bz HB.out⟩⟩
    ·
     replace c13 := Bool.eq_false_iff.mpr c13
     subst c13
     rw [if_neg nf_] at H
     have H' := Aside0.mk H
     clear H
     obtain ⟨Ao16, co16, eo16⟩ := Kd.R_slice HO110.out
     subst eo16
     obtain ⟨Ao17, co17, eo17⟩ := Kd.R_slice HO114.out
     subst eo17
     go_wp2_with (first | (go_at_call 36; (with_reducible refine (laws_qdAreas.calls k _ _ t107 _ _ t111 false _ ?side1 ?side2 ?side3 ?side4 A12.out).mono ?_); (case side1 => exact cz ((Kd.R_reads' HO110.out).2.2)); (case side2 => exact (Kd.R_reads' HO110.out).2.1); (case side3 => exact cz ((Kd.R_reads' HO114.out).2.2)); (case side4 => exact (Kd.R_reads' HO114.out).2.1); rintro e w' ⟨rfl, ⟨nd, rfl⟩⟩; (try first | exact ⟨rfl, _, World.drewN_drewN _ _ _⟩ | exact ⟨rfl, _, Eq.trans (World.drewN_drewN _ _ _) (congrArg (World.drewN _) (Nat.add_assoc _ _ _))⟩)))
     repeat (go_quiet (first | (go_at_call 36; (with_reducible refine (laws_qdAreas.calls k _ _ t107 _ _ t111 false _ ?side1 ?side2 ?side3 ?side4 A12.out).mono ?_); (case side1 => exact cz ((Kd.R_reads' HO110.out).2.2)); (case side2 => exact (Kd.R_reads' HO110.out).2.1); (case side3 => exact cz ((Kd.R_reads' HO114.out).2.2)); (case side4 => exact (Kd.R_reads' HO114.out).2.1); rintro e w' ⟨rfl, ⟨nd, rfl⟩⟩; (try first | exact ⟨rfl, _, World.drewN_drewN _ _ _⟩ | exact ⟨rfl, _, Eq.trans (World.drewN_drewN _ _ _) (congrArg (World.drewN _) (Nat.add_assoc _ _ _))⟩))); try go_wp2_with (first | (go_at_call 36; (with_reducible refine (laws_qdAreas.calls k _ _ t107 _ _ t111 false _ ?side1 ?side2 ?side3 ?side4 A12.out).mono ?_); (case side1 => exact cz ((Kd.R_reads' HO110.out).2.2)); (case side2 => exact (Kd.R_reads' HO110.out).2.1); (case side3 => exact cz ((Kd.R_reads' HO114.out).2.2)); (case side4 => exact (Kd.R_reads' HO114.out).2.1); rintro e w' ⟨rfl, ⟨nd, rfl⟩⟩; (try first | exact ⟨rfl, _, World.drewN_drewN _ _ _⟩ | exact ⟨rfl, _, Eq.trans (World.drewN_drewN _ _ _) (congrArg (World.drewN _) (Nat.add_assoc _ _ _))⟩))))
     go_meet
     case rel => exact ⟨_, (true), zr, H', ⟨by first | omega | exact Nat.le_refl _⟩, ⟨by (with_reducible repeat (first | apply Kd.R_alloc | apply Kd.R_drewN | apply Kd.R_drew)); exact Kd.R_mono HO106.out (fun _ hk => ⟨hk.1.2, hk.2⟩)⟩, ⟨by (with_reducible repeat (first | apply Kd.R_alloc | apply Kd.R_drewN | apply Kd.R_drew)); exact Kd.R_mono HO110.out (fun _ hk => ⟨hk.1.2, hk.2⟩)⟩, ⟨by (with_reducible repeat (first | apply Kd.R_alloc | apply Kd.R_drewN | apply Kd.R_drew)); exact Kd.R_mono HO114.out (fun _ hk => ⟨hk.1.2, hk.2⟩)⟩, ⟨bz HB.out⟩⟩
  case rest =>
   clear HC6
   try clear c1
   try clear c2
   try clear c2b0
   try clear c2b1
   try clear p2
   try clear c11
   try clear c11b0
   try clear c11b1
   try clear c11b2
   try clear c13
   try clear c15
   obtain ⟨kq, x56_5, rfl, HA, HJ5, HO_3, HO_7, HO_9, HB⟩ := hcut
   cases kq with
   | zero => exact absurd HA.out (by simp [laws_FnAreasLast.j0])
   | succ kj5 =>
    have H := HA.out
    clear HA
    simp only [laws_FnAreasLast.j0] at H
    by_cases c18 : x56_5 = true
    ·
     subst c18
     rw [if_pos rfl] at H
     by_cases c19 : (t108 == t112) = true
     ·
      rw [if_pos c19] at H
      have c19b0 : (t108 == t112) = true := c19
      (try (have c19b1 : decide (t108 = t112) = true := by simpa using c19))
      (try (have c19b2 : (t108 == t112) = true := by simpa using c19))
      clear c19
      replace H := Option.bind_eq_some_iff.mp H
      obtain ⟨t116, A200, H⟩ := H
      have A20 := Aside0.mk A200
      clear A200
      obtain rfl := Option.some.inj H
      obtain ⟨Ao21, co21, eo21⟩ := Kd.R_slice HO_7.out
      subst eo21
      obtain ⟨Ao22, co22, eo22⟩ := Kd.R_slice HO_9.out
      subst eo22
      go_wp2_with (first | (go_at_call 36; (with_reducible refine (laws_qdAreas.calls kj5 _ _ t107 _ _ t111 t116 _ ?side1 ?side2 ?side3 ?side4 A20.out).mono ?_); (case side1 => exact cz ((Kd.R_reads' HO_7.out).2.2)); (case side2 => exact (Kd.R_reads' HO_7.out).2.1); (case side3 => exact cz ((Kd.R_reads' HO_9.out).2.2)); (case side4 => exact (Kd.R_reads' HO_9.out).2.1); rintro e w' ⟨rfl, ⟨nd, rfl⟩⟩; (try first | exact ⟨rfl, _, World.drewN_drewN _ _ _⟩ | exact ⟨rfl, _, Eq.trans (World.drewN_drewN _ _ _) (congrArg (World.drewN _) (Nat.add_assoc _ _ _))⟩)))
      repeat (go_quiet (first | (go_at_call 36; (with_reducible refine (laws_qdAreas.calls kj5 _ _ t107 _ _ t111 t116 _ ?side1 ?side2 ?side3 ?side4 A20.out).mono ?_); (case side1 => exact cz ((Kd.R_reads' HO_7.out).2.2)); (case side2 => exact (Kd.R_reads' HO_7.out).2.1); (case side3 => exact cz ((Kd.R_reads' HO_9.out).2.2)); (case side4 => exact (Kd.R_reads' HO_9.out).2.1); rintro e w' ⟨rfl, ⟨nd, rfl⟩⟩; (try first | exact ⟨rfl, _, World.drewN_drewN _ _ _⟩ | exact ⟨rfl, _, Eq.trans (World.drewN_drewN _ _ _) (congrArg (World.drewN _) (Nat.add_assoc _ _ _))⟩))); try go_wp2_with (first | (go_at_call 36; (with_reducible refine (laws_qdAreas.calls kj5 _ _ t107 _ _ t111 t116 _ ?side1 ?side2 ?side3 ?side4 A20.out).mono ?_); (case side1 => exact cz ((Kd.R_reads' HO_7.out).2.2)); (case side2 => exact (Kd.R_reads' HO_7.out).2.1); (case side3 => exact cz ((Kd.R_reads' HO_9.out).2.2)); (case side4 => exact (Kd.R_reads' HO_9.out).2.1); rintro e w' ⟨rfl, ⟨nd, rfl⟩⟩; (try first | exact ⟨rfl, _, World.drewN_drewN _ _ _⟩ | exact ⟨rfl, _, Eq.trans (World.drewN_drewN _ _ _) (congrArg (World.drewN _) (Nat.add_assoc _ _ _))⟩))))
      go_ret
      exact ⟨ze, bz HB.out⟩
     ·
      rw [if_neg c19] at H
      have c19b0 : (t108 == t112) = false := by simpa using c19
      (try (have c19b1 : decide (t108 = t112) = false := by simpa using c19))
      (try (have c19b2 : (t108 == t112) = false := by simpa using c19))
      (try (have c19b3 : ¬ (t108 = t112) := by simpa using c19))
      clear c19
      obtain rfl := Option.some.inj H
      go_wp2
      repeat (go_quiet (fail); try go_wp2)
      go_ret
      exact ⟨ze, bz HB.out⟩
    ·
     replace c18 := Bool.eq_false_iff.mpr c18
     subst c18
     rw [if_neg nf_] at H
     replace H := Option.bind_eq_some_iff.mp H
     obtain ⟨⟨t117, t118⟩, A230, H⟩ := H
     replace H : ((impl_AreasSet.f kj5 t101 t102 t103 (!t104)).bind fun bt121 => (laws_FnAreasLast.l0 kj5 t117 t118 bt121.1 bt121.2 0)) = some r := H
     have A23 := Aside0.mk A230
     clear A230
     replace H := Option.bind_eq_some_iff.mp H
     obtain ⟨⟨t121, t122⟩, A240, H⟩ := H
     replace H : (laws_FnAreasLast.l0 kj5 t117 t118 t121 t122 0) = some r := H
     have A24 := Aside0.mk A240
     clear A240
     have H' := Aside0.mk H
     clear H
     obtain ⟨Ao25, co25, eo25⟩ := Kd.R_slice HO_7.out
     subst eo25
     go_wp2_with (first | (go_at_call 44; (with_reducible refine (impl_AreasSet.calls kj5 _ _ t107 t102 t103 (!t104) t117 t118 _ ?side1 ?side2 A23.out).mono ?_); (case side1 => exact cz ((Kd.R_reads' HO_7.out).2.2)); (case side2 => exact (Kd.R_reads' HO_7.out).2.1); rintro e w26 ⟨v119, rfl, ho0, hb⟩; have HO120 := Aside0.mk (Kd.R_lower (Kd.R_new' (Kd.R_new' (Kd.R_new' ho0 (Kd.R_lt (rz HO_3.out))) (Kd.R_lt (rz HO_7.out))) (Kd.R_lt (rz HO_9.out))) (below_size (bz HB.out))); replace HO_3 := Aside0.mk (Kd.R_elder' (rz HO_3.out) (Kd.R_base ho0) hb); replace HO_7 := Aside0.mk (Kd.R_elder' (rz HO_7.out) (Kd.R_base ho0) hb); replace HO_9 := Aside0.mk (Kd.R_elder' (rz HO_9.out) (Kd.R_base ho0) hb); replace HB := Aside0.mk (below_step (bz HB.out) hb); (try clear hb); (try clear ho0)) | (go_at_call 44; (with_reducible refine (impl_AreasSet.calls kj5 _ _ t101 t102 t103 (!t104) t121 t122 _ ?side1 ?side2 A24.out).mono ?_); (case side1 => exact cz ((Kd.R_reads' HO_3.out).2.2)); (case side2 => exact (Kd.R_reads' HO_3.out).2.1); rintro e w27 ⟨v123, rfl, ho0, hb⟩; have HO124 := Aside0.mk (Kd.R_lower (Kd.R_new' (Kd.R_new' (Kd.R_new' (Kd.R_new' ho0 (Kd.R_lt (rz HO_3.out))) (Kd.R_lt (rz HO_7.out))) (Kd.R_lt (rz HO_9.out))) (Kd.R_lt (rz HO120.out))) (below_size (bz HB.out))); replace HO_3 := Aside0.mk (Kd.R_elder' (rz HO_3.out) (Kd.R_base ho0) hb); replace HO_7 := Aside0.mk (Kd.R_elder' (rz HO_7.out) (Kd.R_base ho0) hb); replace HO_9 := Aside0.mk (Kd.R_elder' (rz HO_9.out) (Kd.R_base ho0) hb); replace HO120 := Aside0.mk (Kd.R_elder' (rz HO120.out) (Kd.R_base ho0) hb); replace HB := Aside0.mk (below_step (bz HB.out) hb); (try clear hb); (try clear ho0)))
     repeat (go_quiet (fail); try go_wp2_with (first | (go_at_call 44; (with_reducible refine (impl_AreasSet.calls kj5 _ _ t107 t102 t103 (!t104) t117 t118 _ ?side1 ?side2 A23.out).mono ?_); (case side1 => exact cz ((Kd.R_reads' HO_7.out).2.2)); (case side2 => exact (Kd.R_reads' HO_7.out).2.1); rintro e w26 ⟨v119, rfl, ho0, hb⟩; have HO120 := Aside0.mk (Kd.R_lower (Kd.R_new' (Kd.R_new' (Kd.R_new' ho0 (Kd.R_lt (rz HO_3.out))) (Kd.R_lt (rz HO_7.out))) (Kd.R_lt (rz HO_9.out))) (below_size (bz HB.out))); replace HO_3 := Aside0.mk (Kd.R_elder' (rz HO_3.out) (Kd.R_base ho0) hb); replace HO_7 := Aside0.mk (Kd.R_elder' (rz HO_7.out) (Kd.R_base ho0) hb); replace HO_9 := Aside0.mk (Kd.R_elder' (rz HO_9.out) (Kd.R_base ho0) hb); replace HB := Aside0.mk (below_step (bz HB.out) hb); (try clear hb); (try clear ho0)) | (go_at_call 44; (with_reducible refine (impl_AreasSet.calls kj5 _ _ t101 t102 t103 (!t104) t121 t122 _ ?side1 ?side2 A24.out).mono ?_); (case side1 => exact cz ((Kd.R_reads' HO_3.out).2.2)); (case side2 => exact (Kd.R_reads' HO_3.out).2.1); rintro e w27 ⟨v123, rfl, ho0, hb⟩; have HO124 := Aside0.mk (Kd.R_lower (Kd.R_new' (Kd.R_new' (Kd.R_new' (Kd.R_new' ho0 (Kd.R_lt (rz HO_3.out))) (Kd.R_lt (rz HO_7.out))) (Kd.R_lt (rz HO_9.out))) (Kd.R_lt (rz HO120.out))) (below_size (bz HB.out))); replace HO_3 := Aside0.mk (Kd.R_elder' (rz HO_3.out) (Kd.R_base ho0) hb); replace HO_7 := Aside0.mk (Kd.R_elder' (rz HO_7.out) (Kd.R_base ho0) hb); replace HO_9 := Aside0.mk (Kd.R_elder' (rz HO_9.out) (Kd.R_base ho0) hb); replace HO120 := Aside0.mk (Kd.R_elder' (rz HO120.out) (Kd.R_base ho0) hb); replace HB := Aside0.mk (below_step (bz HB.out) hb); (try clear hb); (try clear ho0))))
     go_loopg [15] kj5 (fun kq v15 w' => ∃ (x15_2 : Int), v15 = .int .i64 x15_2 ∧ Aside0 (laws_FnAreasLast.l0 kq t117 t118 t121 t122 x15_2 = some r) ∧ Aside0 (kq ≤ kj5) ∧ Aside0 (Kd.R k24 24 w' w.heap.size (fun k_ => some k_ ≠ (v123 : Value).ownBlock) v119 t117) ∧ Aside0 (Kd.R k24 24 w' w.heap.size (fun k_ => some k_ ≠ (v119 : Value).ownBlock) v123 t121) ∧ Aside0 (Below w.heap.size w w'))
     case atStart => exact ⟨(0), zr, H', ⟨Nat.le_refl _⟩, ⟨by (with_reducible repeat (first | apply Kd.R_alloc | apply Kd.R_drewN | apply Kd.R_drew)); exact Kd.R_mono HO120.out (fun _ hk => hk.2)⟩, ⟨by (with_reducible repeat (first | apply Kd.R_alloc | apply Kd.R_drewN | apply Kd.R_drew)); exact Kd.R_mono HO124.out (fun _ hk => hk.2)⟩, ⟨bz HB.out⟩⟩
     case round =>
      clear H'
      try clear c1
      try clear c2
      try clear c2b0
      try clear c2b1
      try clear p2
      try clear c11
      try clear c11b0
      try clear c11b1
      try clear c11b2
      try clear c13
      try clear c15
      try clear c18
      try clear c19
      try clear c19b0
      try clear c19b1
      try clear c19b2
      try clear p2
      obtain ⟨x15_2, rfl, HA, HK2, HO_11, HO_13, HB⟩ := hrel
      cases gk with
      | zero => exact absurd HA.out (by simp [laws_FnAreasLast.l0])
      | succ k2 =>
       have H := HA.out
       clear HA
       simp only [laws_FnAreasLast.l0] at H
       have HC28 := Aside0.mk H
       clear H
       go_upto_region 11 with (fail)
       repeat (go_quiet (fail); go_upto_region 11 with (fail))
       go_cut [90] (fun v90 wc => ∃ (kq : Nat) (x90_27 : Bool), v90 = .bool x90_27 ∧ Aside0 (laws_FnAreasLast.j2 kq t117 t118 t121 t122 x15_2 x90_27 = some r) ∧ Aside0 (kq ≤ k2) ∧ Aside0 (Kd.R k24 24 wc w.heap.size (fun k_ => some k_ ≠ (v123 : Value).ownBlock) v119 t117) ∧ Aside0 (Kd.R k24 24 wc w.heap.size (fun k_ => some k_ ≠ (v119 : Value).ownBlock) v123 t121) ∧ Aside0 (Below w.heap.size w wc))
       case first =>
        have H := HC28.out
        clear HC28
        by_cases c29 : x15_2 < 16
        ·
         rw [if_pos c29] at H
         have c29b0 : decide (x15_2 < 16) = true := decide_eq_true c29
         clear c29
         (first | rw [c29b0] | (simp only [i64_w, i32_w]; rw [c29b0]) | skip)
         by_cases c30 : t118 = true
         ·
          subst c30
          rw [if_pos rfl] at H
          have H' := Aside0.mk H
          clear H
          go_wp2
          repeat (go_quiet (fail); try go_wp2)
          go_meet
          case rel => exact ⟨_, (t122), zr, H', ⟨by have := HJ5.out; have := HK2.out; first | omega | exact Nat.le_refl _⟩, ⟨by (with_reducible repeat (first | apply Kd.R_alloc | apply Kd.R_drewN | apply Kd.R_drew)); exact HO_11.out⟩, ⟨by (with_reducible repeat (first | apply Kd.R_alloc | apply Kd.R_drewN | apply Kd.R_drew)); exact HO_13.out⟩, ⟨bz HB.out⟩⟩
         ·
          replace c30 := Bool.eq_false_iff.mpr c30
          subst c30
          rw [if_neg nf_] at H
          have H' := Aside0.mk H
          clear H
          go_wp2
          repeat (go_quiet (fail); try go_wp2)
          go_meet
          case rel => exact ⟨_, (false), zr, H', ⟨by have := HJ5.out; have := HK2.out; first | omega | exact Nat.le_refl _⟩, ⟨by (with_reducible repeat (first | apply Kd.R_alloc | apply Kd.R_drewN | apply Kd.R_drew)); exact HO_11.out⟩, ⟨by (with_reducible repeat (first | apply Kd.R_alloc | apply Kd.R_drewN | apply Kd.R_drew)); exact HO_13.out⟩, ⟨bz HB.out⟩⟩
        ·
         rw [if_neg c29] at H
         have c29b0 : decide (x15_2 < 16) = false := decide_eq_false c29
         clear c29
         (first | rw [c29b0] | (simp only [i64_w, i32_w]; rw [c29b0]) | skip)
         have H' := Aside0.mk H
         clear H
         go_wp2
         repeat (go_quiet (fail); try go_wp2)
         go_meet
         case rel => exact ⟨_, (false), zr, H', ⟨by have := HJ5.out; have := HK2.out; first | omega | exact Nat.le_refl _⟩, ⟨by (with_reducible repeat (first | apply Kd.R_alloc | apply Kd.R_drewN | apply Kd.R_drew)); exact HO_11.out⟩, ⟨by (with_reducible repeat (first | apply Kd.R_alloc | apply Kd.R_drewN | apply Kd.R_drew)); exact HO_13.out⟩, ⟨bz HB.out⟩⟩
       case rest =>
        clear HC28
        try clear c1
        try clear c2
        try clear c2b0
        try clear c2b1
        try clear p2
        try clear c3
        try clear c11
        try clear c11b0
        try clear c11b1
        try clear c11b2
        try clear c13
        try clear c15
        try clear c18
        try clear c19
        try clear c19b0
        try clear c19b1
        try clear c19b2
        try clear c29
        try clear c29b0
        try clear c30
        try clear p2
        obtain ⟨kq, x90_27, rfl, HA, HJ27, HO_11, HO_13, HB⟩ := hcut
        cases kq with
        | zero => exact absurd HA.out (by simp [laws_FnAreasLast.j2])
        | succ kj27 =>
         have H := HA.out
         clear HA
         simp only [laws_FnAreasLast.j2] at H
         by_cases c31 : x90_27 = true
         ·
          subst c31
          rw [if_pos rfl] at H
          replace H := Option.bind_eq_some_iff.mp H
          obtain ⟨t125, A320, H⟩ := H
          have A32 := Aside0.mk A320
          clear A320
          replace H := Option.bind_eq_some_iff.mp H
          obtain ⟨t126, A330, H⟩ := H
          have A33 := Aside0.mk A330
          clear A330
          by_cases c34 : ((decide (t125 ≥ 0)) != (decide (t126 ≥ 0))) = true
          ·
           rw [if_pos c34] at H
           have c34b0 : ((decide (t125 ≥ 0)) != (decide (t126 ≥ 0))) = true := c34
           (try (have c34b1 : decide ((decide (t125 ≥ 0)) = (decide (t126 ≥ 0))) = false := by simpa using c34))
           (try (have c34b2 : ((decide (t125 ≥ 0)) == (decide (t126 ≥ 0))) = false := by simpa using c34))
           (try (have c34b3 : ¬ ((decide (t125 ≥ 0)) = (decide (t126 ≥ 0))) := by simpa using c34))
           clear c34
           obtain rfl := Option.some.inj H
           obtain ⟨Ao35, co35, eo35⟩ := Kd.R_slice HO_11.out
           subst eo35
           go_wp2_with (first | (go_at_call 29; (with_reducible refine (impl_AreasAt.calls kj27 _ _ t117 x15_2 t125 _ ?side1 ?side2 A32.out).mono ?_); (case side1 => exact cz ((Kd.R_reads' HO_11.out).2.2)); (case side2 => exact (Kd.R_reads' HO_11.out).2.1); rintro e w36 ⟨rfl, hb⟩; replace HO_11 := Aside0.mk (Kd.R_below (rz HO_11.out) hb); replace HO_13 := Aside0.mk (Kd.R_below (rz HO_13.out) hb); replace HB := Aside0.mk (below_step (bz HB.out) hb); (try clear hb); obtain ⟨Ao37, co37, eo37⟩ := Kd.R_slice HO_13.out; subst eo37) | (go_at_call 29; (with_reducible refine (impl_AreasAt.calls kj27 _ _ t121 x15_2 t126 _ ?side1 ?side2 A33.out).mono ?_); (case side1 => exact cz ((Kd.R_reads' HO_13.out).2.2)); (case side2 => exact (Kd.R_reads' HO_13.out).2.1); rintro e w38 ⟨rfl, hb⟩; replace HO_11 := Aside0.mk (Kd.R_below (rz HO_11.out) hb); replace HO_13 := Aside0.mk (Kd.R_below (rz HO_13.out) hb); replace HB := Aside0.mk (below_step (bz HB.out) hb); (try clear hb)))
           repeat (go_quiet (fail); try go_wp2_with (first | (go_at_call 29; (with_reducible refine (impl_AreasAt.calls kj27 _ _ t117 x15_2 t125 _ ?side1 ?side2 A32.out).mono ?_); (case side1 => exact cz ((Kd.R_reads' HO_11.out).2.2)); (case side2 => exact (Kd.R_reads' HO_11.out).2.1); rintro e w36 ⟨rfl, hb⟩; replace HO_11 := Aside0.mk (Kd.R_below (rz HO_11.out) hb); replace HO_13 := Aside0.mk (Kd.R_below (rz HO_13.out) hb); replace HB := Aside0.mk (below_step (bz HB.out) hb); (try clear hb); obtain ⟨Ao37, co37, eo37⟩ := Kd.R_slice HO_13.out; subst eo37) | (go_at_call 29; (with_reducible refine (impl_AreasAt.calls kj27 _ _ t121 x15_2 t126 _ ?side1 ?side2 A33.out).mono ?_); (case side1 => exact cz ((Kd.R_reads' HO_13.out).2.2)); (case side2 => exact (Kd.R_reads' HO_13.out).2.1); rintro e w38 ⟨rfl, hb⟩; replace HO_11 := Aside0.mk (Kd.R_below (rz HO_11.out) hb); replace HO_13 := Aside0.mk (Kd.R_below (rz HO_13.out) hb); replace HB := Aside0.mk (below_step (bz HB.out) hb); (try clear hb))))
           go_ret
           exact ⟨ze, bz HB.out⟩
          ·
           rw [if_neg c34] at H
           have c34b0 : ((decide (t125 ≥ 0)) != (decide (t126 ≥ 0))) = false := by simpa using c34
           (try (have c34b1 : decide ((decide (t125 ≥ 0)) = (decide (t126 ≥ 0))) = true := by simpa using c34))
           (try (have c34b2 : ((decide (t125 ≥ 0)) == (decide (t126 ≥ 0))) = true := by simpa using c34))
           clear c34
           by_cases c39 : t125 ≥ 0
           ·
            rw [if_pos c39] at H
            have c39b0 : decide (0 ≤ t125) = true := decide_eq_true c39
            have c39d2 : decide (0 ≤ t126) = true := by have h_ : ((decide (0 ≤ t125)) != (decide (0 ≤ t126))) = false := c34b0; rw [c39b0] at h_; revert h_; cases decide (0 ≤ t126) <;> simp
            clear c39
            by_cases c40 : 0 ≤ t125
            ·
             rw [if_pos c40] at H
             have c40b0 : decide (0 ≤ t125) = true := decide_eq_true c40
             have c40d2 : decide (0 ≤ t126) = true := by have h_ : ((decide (0 ≤ t125)) != (decide (0 ≤ t126))) = false := c34b0; rw [c40b0] at h_; revert h_; cases decide (0 ≤ t126) <;> simp
             clear c40
             by_cases c41 : t125 < (t117.length : Int)
             ·
              rw [if_pos c41] at H
              have c41b0 : decide (t125 < (t117.length : Int)) = true := decide_eq_true c41
              clear c41
              by_cases c42 : 0 ≤ t126
              ·
               rw [if_pos c42] at H
               have c42b0 : decide (0 ≤ t126) = true := decide_eq_true c42
               have c42d2 : decide (0 ≤ t125) = true := by have h_ : ((decide (0 ≤ t125)) != (decide (0 ≤ t126))) = false := c34b0; rw [c42b0] at h_; revert h_; cases decide (0 ≤ t125) <;> simp
               clear c42
               by_cases c43 : t126 < (t121.length : Int)
               ·
                rw [if_pos c43] at H
                have c43b0 : decide (t126 < (t121.length : Int)) = true := decide_eq_true c43
                clear c43
                by_cases c44 : (((rd_T24 t117 t125).f2) != ((rd_T24 t121 t126).f2)) = true
                ·
                 rw [if_pos c44] at H
                 have c44b0 : (((rd_T24 t117 t125).f2) != ((rd_T24 t121 t126).f2)) = true := c44
                 (try (have c44b1 : decide (((rd_T24 t117 t125).f2) = ((rd_T24 t121 t126).f2)) = false := by simpa using c44))
                 (try (have c44b2 : (((rd_T24 t117 t125).f2) == ((rd_T24 t121 t126).f2)) = false := by simpa using c44))
                 (try (have c44b3 : ¬ (((rd_T24 t117 t125).f2) = ((rd_T24 t121 t126).f2)) := by simpa using c44))
                 clear c44
                 obtain rfl := Option.some.inj H
                 obtain ⟨Ao45, co45, eo45⟩ := Kd.R_slice HO_11.out
                 subst eo45
                 go_wp2_with (first | (go_at_call 29; (with_reducible refine (impl_AreasAt.calls kj27 _ _ t117 x15_2 t125 _ ?side1 ?side2 A32.out).mono ?_); (case side1 => exact cz ((Kd.R_reads' HO_11.out).2.2)); (case side2 => exact (Kd.R_reads' HO_11.out).2.1); rintro e w46 ⟨rfl, hb⟩; replace HO_11 := Aside0.mk (Kd.R_below (rz HO_11.out) hb); replace HO_13 := Aside0.mk (Kd.R_below (rz HO_13.out) hb); replace HB := Aside0.mk (below_step (bz HB.out) hb); (try clear hb); obtain ⟨Ao47, co47, eo47⟩ := Kd.R_slice HO_13.out; subst eo47) | (go_at_call 29; (with_reducible refine (impl_AreasAt.calls kj27 _ _ t121 x15_2 t126 _ ?side1 ?side2 A33.out).mono ?_); (case side1 => exact cz ((Kd.R_reads' HO_13.out).2.2)); (case side2 => exact (Kd.R_reads' HO_13.out).2.1); rintro e w48 ⟨rfl, hb⟩; replace HO_11 := Aside0.mk (Kd.R_below (rz HO_11.out) hb); replace HO_13 := Aside0.mk (Kd.R_below (rz HO_13.out) hb); replace HB := Aside0.mk (below_step (bz HB.out) hb); (try clear hb); have p127 : 0 ≤ (t125 : Int) := of_decide_eq_true zs; have q127 : t125 < (t117.length : Int) := of_decide_eq_true zs; obtain ⟨ad127, e127, hx127_0, hx127_1, hx127_2, hx127_3⟩ := at_T24 (Kd.R_reads' HO_11.out).2.2 t125 p127 q127; cases e127; replace p127 := eq_true p127; replace q127 := eq_true q127; have p128 : 0 ≤ (t126 : Int) := of_decide_eq_true zs; have q128 : t126 < (t121.length : Int) := of_decide_eq_true zs; obtain ⟨ad128, e128, hx128_0, hx128_1, hx128_2, hx128_3⟩ := at_T24 (Kd.R_reads' HO_13.out).2.2 t126 p128 q128; cases e128; replace p128 := eq_true p128; replace q128 := eq_true q128))
                 repeat (go_quiet (fail); try go_wp2_with (first | (go_at_call 29; (with_reducible refine (impl_AreasAt.calls kj27 _ _ t117 x15_2 t125 _ ?side1 ?side2 A32.out).mono ?_); (case side1 => exact cz ((Kd.R_reads' HO_11.out).2.2)); (case side2 => exact (Kd.R_reads' HO_11.out).2.1); rintro e w46 ⟨rfl, hb⟩; replace HO_11 := Aside0.mk (Kd.R_below (rz HO_11.out) hb); replace HO_13 := Aside0.mk (Kd.R_below (rz HO_13.out) hb); replace HB := Aside0.mk (below_step (bz HB.out) hb); (try clear hb); obtain ⟨Ao47, co47, eo47⟩ := Kd.R_slice HO_13.out; subst eo47) | (go_at_call 29; (with_reducible refine (impl_AreasAt.calls kj27 _ _ t121 x15_2 t126 _ ?side1 ?side2 A33.out).mono ?_); (case side1 => exact cz ((Kd.R_reads' HO_13.out).2.2)); (case side2 => exact (Kd.R_reads' HO_13.out).2.1); rintro e w48 ⟨rfl, hb⟩; replace HO_11 := Aside0.mk (Kd.R_below (rz HO_11.out) hb); replace HO_13 := Aside0.mk (Kd.R_below (rz HO_13.out) hb); replace HB := Aside0.mk (below_step (bz HB.out) hb); (try clear hb); have p127 : 0 ≤ (t125 : Int) := of_decide_eq_true zs; have q127 : t125 < (t117.length : Int) := of_decide_eq_true zs; obtain ⟨ad127, e127, hx127_0, hx127_1, hx127_2, hx127_3⟩ := at_T24 (Kd.R_reads' HO_11.out).2.2 t125 p127 q127; cases e127; replace p127 := eq_true p127; replace q127 := eq_true q127; have p128 : 0 ≤ (t126 : Int) := of_decide_eq_true zs; have q128 : t126 < (t121.length : Int) := of_decide_eq_true zs; obtain ⟨ad128, e128, hx128_0, hx128_1, hx128_2, hx128_3⟩ := at_T24 (Kd.R_reads' HO_13.out).2.2 t126 p128 q128; cases e128; replace p128 := eq_true p128; replace q128 := eq_true q128)))
                 go_ret
                 exact ⟨ze, bz HB.out⟩
                ·
                 rw [if_neg c44] at H
                 have c44b0 : (((rd_T24 t117 t125).f2) != ((rd_T24 t121 t126).f2)) = false := by simpa using c44
                 (try (have c44b1 : decide (((rd_T24 t117 t125).f2) = ((rd_T24 t121 t126).f2)) = true := by simpa using c44))
                 (try (have c44b2 : (((rd_T24 t117 t125).f2) == ((rd_T24 t121 t126).f2)) = true := by simpa using c44))
                 clear c44
                 by_cases c49 : (((rd_T24 t117 t125).f3) != ((rd_T24 t121 t126).f3)) = true
                 ·
                  rw [if_pos c49] at H
                  have c49b0 : (((rd_T24 t117 t125).f3) != ((rd_T24 t121 t126).f3)) = true := c49
                  (try (have c49b1 : decide (((rd_T24 t117 t125).f3) = ((rd_T24 t121 t126).f3)) = false := by simpa using c49))
                  (try (have c49b2 : (((rd_T24 t117 t125).f3) == ((rd_T24 t121 t126).f3)) = false := by simpa using c49))
                  (try (have c49b3 : ¬ (((rd_T24 t117 t125).f3) = ((rd_T24 t121 t126).f3)) := by simpa using c49))
                  clear c49
                  obtain rfl := Option.some.inj H
                  obtain ⟨Ao50, co50, eo50⟩ := Kd.R_slice HO_11.out
                  subst eo50
                  go_wp2_with (first | (go_at_call 29; (with_reducible refine (impl_AreasAt.calls kj27 _ _ t117 x15_2 t125 _ ?side1 ?side2 A32.out).mono ?_); (case side1 => exact cz ((Kd.R_reads' HO_11.out).2.2)); (case side2 => exact (Kd.R_reads' HO_11.out).2.1); rintro e w51 ⟨rfl, hb⟩; replace HO_11 := Aside0.mk (Kd.R_below (rz HO_11.out) hb); replace HO_13 := Aside0.mk (Kd.R_below (rz HO_13.out) hb); replace HB := Aside0.mk (below_step (bz HB.out) hb); (try clear hb); obtain ⟨Ao52, co52, eo52⟩ := Kd.R_slice HO_13.out; subst eo52) | (go_at_call 29; (with_reducible refine (impl_AreasAt.calls kj27 _ _ t121 x15_2 t126 _ ?side1 ?side2 A33.out).mono ?_); (case side1 => exact cz ((Kd.R_reads' HO_13.out).2.2)); (case side2 => exact (Kd.R_reads' HO_13.out).2.1); rintro e w53 ⟨rfl, hb⟩; replace HO_11 := Aside0.mk (Kd.R_below (rz HO_11.out) hb); replace HO_13 := Aside0.mk (Kd.R_below (rz HO_13.out) hb); replace HB := Aside0.mk (below_step (bz HB.out) hb); (try clear hb); have p127 : 0 ≤ (t125 : Int) := of_decide_eq_true zs; have q127 : t125 < (t117.length : Int) := of_decide_eq_true zs; obtain ⟨ad127, e127, hx127_0, hx127_1, hx127_2, hx127_3⟩ := at_T24 (Kd.R_reads' HO_11.out).2.2 t125 p127 q127; cases e127; replace p127 := eq_true p127; replace q127 := eq_true q127; have p128 : 0 ≤ (t126 : Int) := of_decide_eq_true zs; have q128 : t126 < (t121.length : Int) := of_decide_eq_true zs; obtain ⟨ad128, e128, hx128_0, hx128_1, hx128_2, hx128_3⟩ := at_T24 (Kd.R_reads' HO_13.out).2.2 t126 p128 q128; cases e128; replace p128 := eq_true p128; replace q128 := eq_true q128; have p129 : 0 ≤ (t125 : Int) := of_decide_eq_true zs; have q129 : t125 < (t117.length : Int) := of_decide_eq_true zs; obtain ⟨ad129, e129, hx129_0, hx129_1, hx129_2, hx129_3⟩ := at_T24 (Kd.R_reads' HO_11.out).2.2 t125 p129 q129; obtain rfl : ad127 = ad129 := (by injection e129); replace p129 := eq_true p129; replace q129 := eq_true q129; have p130 : 0 ≤ (t126 : Int) := of_decide_eq_true zs; have q130 : t126 < (t121.length : Int) := of_decide_eq_true zs; obtain ⟨ad130, e130, hx130_0, hx130_1, hx130_2, hx130_3⟩ := at_T24 (Kd.R_reads' HO_13.out).2.2 t126 p130 q130; obtain rfl : ad128 = ad130 := (by injection e130); replace p130 := eq_true p130; replace q130 := eq_true q130))
                  repeat (go_quiet (fail); try go_wp2_with (first | (go_at_call 29; (with_reducible refine (impl_AreasAt.calls kj27 _ _ t117 x15_2 t125 _ ?side1 ?side2 A32.out).mono ?_); (case side1 => exact cz ((Kd.R_reads' HO_11.out).2.2)); (case side2 => exact (Kd.R_reads' HO_11.out).2.1); rintro e w51 ⟨rfl, hb⟩; replace HO_11 := Aside0.mk (Kd.R_below (rz HO_11.out) hb); replace HO_13 := Aside0.mk (Kd.R_below (rz HO_13.out) hb); replace HB := Aside0.mk (below_step (bz HB.out) hb); (try clear hb); obtain ⟨Ao52, co52, eo52⟩ := Kd.R_slice HO_13.out; subst eo52) | (go_at_call 29; (with_reducible refine (impl_AreasAt.calls kj27 _ _ t121 x15_2 t126 _ ?side1 ?side2 A33.out).mono ?_); (case side1 => exact cz ((Kd.R_reads' HO_13.out).2.2)); (case side2 => exact (Kd.R_reads' HO_13.out).2.1); rintro e w53 ⟨rfl, hb⟩; replace HO_11 := Aside0.mk (Kd.R_below (rz HO_11.out) hb); replace HO_13 := Aside0.mk (Kd.R_below (rz HO_13.out) hb); replace HB := Aside0.mk (below_step (bz HB.out) hb); (try clear hb); have p127 : 0 ≤ (t125 : Int) := of_decide_eq_true zs; have q127 : t125 < (t117.length : Int) := of_decide_eq_true zs; obtain ⟨ad127, e127, hx127_0, hx127_1, hx127_2, hx127_3⟩ := at_T24 (Kd.R_reads' HO_11.out).2.2 t125 p127 q127; cases e127; replace p127 := eq_true p127; replace q127 := eq_true q127; have p128 : 0 ≤ (t126 : Int) := of_decide_eq_true zs; have q128 : t126 < (t121.length : Int) := of_decide_eq_true zs; obtain ⟨ad128, e128, hx128_0, hx128_1, hx128_2, hx128_3⟩ := at_T24 (Kd.R_reads' HO_13.out).2.2 t126 p128 q128; cases e128; replace p128 := eq_true p128; replace q128 := eq_true q128; have p129 : 0 ≤ (t125 : Int) := of_decide_eq_true zs; have q129 : t125 < (t117.length : Int) := of_decide_eq_true zs; obtain ⟨ad129, e129, hx129_0, hx129_1, hx129_2, hx129_3⟩ := at_T24 (Kd.R_reads' HO_11.out).2.2 t125 p129 q129; obtain rfl : ad127 = ad129 := (by injection e129); replace p129 := eq_true p129; replace q129 := eq_true q129; have p130 : 0 ≤ (t126 : Int) := of_decide_eq_true zs; have q130 : t126 < (t121.length : Int) := of_decide_eq_true zs; obtain ⟨ad130, e130, hx130_0, hx130_1, hx130_2, hx130_3⟩ := at_T24 (Kd.R_reads' HO_13.out).2.2 t126 p130 q130; obtain rfl : ad128 = ad130 := (by injection e130); replace p130 := eq_true p130; replace q130 := eq_true q130)))
                  go_ret
                  exact ⟨ze, bz HB.out⟩
                 ·
                  rw [if_neg c49] at H
                  have c49b0 : (((rd_T24 t117 t125).f3) != ((rd_T24 t121 t126).f3)) = false := by simpa using c49
                  (try (have c49b1 : decide (((rd_T24 t117 t125).f3) = ((rd_T24 t121 t126).f3)) = true := by simpa using c49))
                  (try (have c49b2 : (((rd_T24 t117 t125).f3) == ((rd_T24 t121 t126).f3)) = true := by simpa using c49))
                  clear c49
                  have H' := Aside0.mk H
                  clear H
                  obtain ⟨Ao54, co54, eo54⟩ := Kd.R_slice HO_11.out
                  subst eo54
                  go_wp2_with (first | (go_at_call 29; (with_reducible refine (impl_AreasAt.calls kj27 _ _ t117 x15_2 t125 _ ?side1 ?side2 A32.out).mono ?_); (case side1 => exact cz ((Kd.R_reads' HO_11.out).2.2)); (case side2 => exact (Kd.R_reads' HO_11.out).2.1); rintro e w55 ⟨rfl, hb⟩; replace HO_11 := Aside0.mk (Kd.R_below (rz HO_11.out) hb); replace HO_13 := Aside0.mk (Kd.R_below (rz HO_13.out) hb); replace HB := Aside0.mk (below_step (bz HB.out) hb); (try clear hb); obtain ⟨Ao56, co56, eo56⟩ := Kd.R_slice HO_13.out; subst eo56) | (go_at_call 29; (with_reducible refine (impl_AreasAt.calls kj27 _ _ t121 x15_2 t126 _ ?side1 ?side2 A33.out).mono ?_); (case side1 => exact cz ((Kd.R_reads' HO_13.out).2.2)); (case side2 => exact (Kd.R_reads' HO_13.out).2.1); rintro e w57 ⟨rfl, hb⟩; replace HO_11 := Aside0.mk (Kd.R_below (rz HO_11.out) hb); replace HO_13 := Aside0.mk (Kd.R_below (rz HO_13.out) hb); replace HB := Aside0.mk (below_step (bz HB.out) hb); (try clear hb); have p127 : 0 ≤ (t125 : Int) := of_decide_eq_true zs; have q127 : t125 < (t117.length : Int) := of_decide_eq_true zs; obtain ⟨ad127, e127, hx127_0, hx127_1, hx127_2, hx127_3⟩ := at_T24 (Kd.R_reads' HO_11.out).2.2 t125 p127 q127; cases e127; replace p127 := eq_true p127; replace q127 := eq_true q127; have p128 : 0 ≤ (t126 : Int) := of_decide_eq_true zs; have q128 : t126 < (t121.length : Int) := of_decide_eq_true zs; obtain ⟨ad128, e128, hx128_0, hx128_1, hx128_2, hx128_3⟩ := at_T24 (Kd.R_reads' HO_13.out).2.2 t126 p128 q128; cases e128; replace p128 := eq_true p128; replace q128 := eq_true q128; have p129 : 0 ≤ (t125 : Int) := of_decide_eq_true zs; have q129 : t125 < (t117.length : Int) := of_decide_eq_true zs; obtain ⟨ad129, e129, hx129_0, hx129_1, hx129_2, hx129_3⟩ := at_T24 (Kd.R_reads' HO_11.out).2.2 t125 p129 q129; obtain rfl : ad127 = ad129 := (by injection e129); replace p129 := eq_true p129; replace q129 := eq_true q129; have p130 : 0 ≤ (t126 : Int) := of_decide_eq_true zs; have q130 : t126 < (t121.length : Int) := of_decide_eq_true zs; obtain ⟨ad130, e130, hx130_0, hx130_1, hx130_2, hx130_3⟩ := at_T24 (Kd.R_reads' HO_13.out).2.2 t126 p130 q130; obtain rfl : ad128 = ad130 := (by injection e130); replace p130 := eq_true p130; replace q130 := eq_true q130))
                  repeat (go_quiet (fail); try go_wp2_with (first | (go_at_call 29; (with_reducible refine (impl_AreasAt.calls kj27 _ _ t117 x15_2 t125 _ ?side1 ?side2 A32.out).mono ?_); (case side1 => exact cz ((Kd.R_reads' HO_11.out).2.2)); (case side2 => exact (Kd.R_reads' HO_11.out).2.1); rintro e w55 ⟨rfl, hb⟩; replace HO_11 := Aside0.mk (Kd.R_below (rz HO_11.out) hb); replace HO_13 := Aside0.mk (Kd.R_below (rz HO_13.out) hb); replace HB := Aside0.mk (below_step (bz HB.out) hb); (try clear hb); obtain ⟨Ao56, co56, eo56⟩ := Kd.R_slice HO_13.out; subst eo56) | (go_at_call 29; (with_reducible refine (impl_AreasAt.calls kj27 _ _ t121 x15_2 t126 _ ?side1 ?side2 A33.out).mono ?_); (case side1 => exact cz ((Kd.R_reads' HO_13.out).2.2)); (case side2 => exact (Kd.R_reads' HO_13.out).2.1); rintro e w57 ⟨rfl, hb⟩; replace HO_11 := Aside0.mk (Kd.R_below (rz HO_11.out) hb); replace HO_13 := Aside0.mk (Kd.R_below (rz HO_13.out) hb); replace HB := Aside0.mk (below_step (bz HB.out) hb); (try clear hb); have p127 : 0 ≤ (t125 : Int) := of_decide_eq_true zs; have q127 : t125 < (t117.length : Int) := of_decide_eq_true zs; obtain ⟨ad127, e127, hx127_0, hx127_1, hx127_2, hx127_3⟩ := at_T24 (Kd.R_reads' HO_11.out).2.2 t125 p127 q127; cases e127; replace p127 := eq_true p127; replace q127 := eq_true q127; have p128 : 0 ≤ (t126 : Int) := of_decide_eq_true zs; have q128 : t126 < (t121.length : Int) := of_decide_eq_true zs; obtain ⟨ad128, e128, hx128_0, hx128_1, hx128_2, hx128_3⟩ := at_T24 (Kd.R_reads' HO_13.out).2.2 t126 p128 q128; cases e128; replace p128 := eq_true p128; replace q128 := eq_true q128; have p129 : 0 ≤ (t125 : Int) := of_decide_eq_true zs; have q129 : t125 < (t117.length : Int) := of_decide_eq_true zs; obtain ⟨ad129, e129, hx129_0, hx129_1, hx129_2, hx129_3⟩ := at_T24 (Kd.R_reads' HO_11.out).2.2 t125 p129 q129; obtain rfl : ad127 = ad129 := (by injection e129); replace p129 := eq_true p129; replace q129 := eq_true q129; have p130 : 0 ≤ (t126 : Int) := of_decide_eq_true zs; have q130 : t126 < (t121.length : Int) := of_decide_eq_true zs; obtain ⟨ad130, e130, hx130_0, hx130_1, hx130_2, hx130_3⟩ := at_T24 (Kd.R_reads' HO_13.out).2.2 t126 p130 q130; obtain rfl : ad128 = ad130 := (by injection e130); replace p130 := eq_true p130; replace q130 := eq_true q130)))
                  go_roundg kj27
                  case measure => have := HJ5.out; have := HK2.out; have := HJ27.out; omega
                  case rel => exact ⟨(wrap64 (x15_2 + 1)), zr, H', ⟨by have := HJ5.out; have := HK2.out; have := HJ27.out; omega⟩, ⟨by (with_reducible repeat (first | apply Kd.R_alloc | apply Kd.R_drewN | apply Kd.R_drew)); exact HO_11.out⟩, ⟨by (with_reducible repeat (first | apply Kd.R_alloc | apply Kd.R_drewN | apply Kd.R_drew)); exact HO_13.out⟩, ⟨bz HB.out⟩⟩
               ·
                rw [if_neg c43] at H
                exact absurd H (by simp)
              ·
               rw [if_neg c42] at H
               exact absurd H (by simp)
             ·
              rw [if_neg c41] at H
              exact absurd H (by simp)
            ·
             rw [if_neg c40] at H
             exact absurd H (by simp)
           ·
            rw [if_neg c39] at H
            have c39b0 : decide (0 ≤ t125) = false := decide_eq_false c39
            have c39d2 : decide (0 ≤ t126) = false := by have h_ : ((decide (0 ≤ t125)) != (decide (0 ≤ t126))) = false := c34b0; rw [c39b0] at h_; revert h_; cases decide (0 ≤ t126) <;> simp
            clear c39
            have H' := Aside0.mk H
            clear H
            obtain ⟨Ao58, co58, eo58⟩ := Kd.R_slice HO_11.out
            subst eo58
            go_wp2_with (first | (go_at_call 29; (with_reducible refine (impl_AreasAt.calls kj27 _ _ t117 x15_2 t125 _ ?side1 ?side2 A32.out).mono ?_); (case side1 => exact cz ((Kd.R_reads' HO_11.out).2.2)); (case side2 => exact (Kd.R_reads' HO_11.out).2.1); rintro e w59 ⟨rfl, hb⟩; replace HO_11 := Aside0.mk (Kd.R_below (rz HO_11.out) hb); replace HO_13 := Aside0.mk (Kd.R_below (rz HO_13.out) hb); replace HB := Aside0.mk (below_step (bz HB.out) hb); (try clear hb); obtain ⟨Ao60, co60, eo60⟩ := Kd.R_slice HO_13.out; subst eo60) | (go_at_call 29; (with_reducible refine (impl_AreasAt.calls kj27 _ _ t121 x15_2 t126 _ ?side1 ?side2 A33.out).mono ?_); (case side1 => exact cz ((Kd.R_reads' HO_13.out).2.2)); (case side2 => exact (Kd.R_reads' HO_13.out).2.1); rintro e w61 ⟨rfl, hb⟩; replace HO_11 := Aside0.mk (Kd.R_below (rz HO_11.out) hb); replace HO_13 := Aside0.mk (Kd.R_below (rz HO_13.out) hb); replace HB := Aside0.mk (below_step (bz HB.out) hb); (try clear hb)))
            repeat (go_quiet (fail); try go_wp2_with (first | (go_at_call 29; (with_reducible refine (impl_AreasAt.calls kj27 _ _ t117 x15_2 t125 _ ?side1 ?side2 A32.out).mono ?_); (case side1 => exact cz ((Kd.R_reads' HO_11.out).2.2)); (case side2 => exact (Kd.R_reads' HO_11.out).2.1); rintro e w59 ⟨rfl, hb⟩; replace HO_11 := Aside0.mk (Kd.R_below (rz HO_11.out) hb); replace HO_13 := Aside0.mk (Kd.R_below (rz HO_13.out) hb); replace HB := Aside0.mk (below_step (bz HB.out) hb); (try clear hb); obtain ⟨Ao60, co60, eo60⟩ := Kd.R_slice HO_13.out; subst eo60) | (go_at_call 29; (with_reducible refine (impl_AreasAt.calls kj27 _ _ t121 x15_2 t126 _ ?side1 ?side2 A33.out).mono ?_); (case side1 => exact cz ((Kd.R_reads' HO_13.out).2.2)); (case side2 => exact (Kd.R_reads' HO_13.out).2.1); rintro e w61 ⟨rfl, hb⟩; replace HO_11 := Aside0.mk (Kd.R_below (rz HO_11.out) hb); replace HO_13 := Aside0.mk (Kd.R_below (rz HO_13.out) hb); replace HB := Aside0.mk (below_step (bz HB.out) hb); (try clear hb))))
            go_roundg kj27
            case measure => have := HJ5.out; have := HK2.out; have := HJ27.out; omega
            case rel => exact ⟨(wrap64 (x15_2 + 1)), zr, H', ⟨by have := HJ5.out; have := HK2.out; have := HJ27.out; omega⟩, ⟨by (with_reducible repeat (first | apply Kd.R_alloc | apply Kd.R_drewN | apply Kd.R_drew)); exact HO_11.out⟩, ⟨by (with_reducible repeat (first | apply Kd.R_alloc | apply Kd.R_drewN | apply Kd.R_drew)); exact HO_13.out⟩, ⟨bz HB.out⟩⟩
         ·
          replace c31 := Bool.eq_false_iff.mpr c31
          subst c31
          rw [if_neg nf_] at H
          obtain rfl := Option.some.inj H
          go_wp2
          repeat (go_quiet (fail); try go_wp2)
          go_ret
          exact ⟨ze, bz HB.out⟩

/-- THE ONE PURE STATEMENT of laws_FnAreasLast: yours. -/
def laws_FnAreasLast.Pure : Prop := ∀ (l0 : List Int), l0.length ≤ maxLen → l0.length * 1 ≤ 140737488351232 → (∀ x ∈ l0, (Lit.int .u8 x).wf = true) → ∃ k, laws_FnAreasLast.f k l0 = some true
theorem laws_FnAreasLast.walk (P : laws_FnAreasLast.Pure) (a0 : Option Addr) (len0 cap0 : Nat) (z0 : List Int) (w : World) (w0 : (a0 = none ∧ len0 = 0 ∧ cap0 = 0 ∧ z0 = []) ∨ ∃ x, a0 = some x ∧ len0 ≤ cap0 ∧ cap0 ≤ maxLen ∧ z0.length = cap0 ∧ (∀ i, i < z0.length → w.cell? (x.add i) = some (.int .u8 (z0.getD i 0))) ∧ ∀ n ∈ z0, (Lit.int .u8 n).wf = true) (y0 : len0 * 1 ≤ 140737488351232) :
  Calls Try.prog 15 #[.slice a0 len0 cap0] w fun e w' => e = .returned (.bool true) ∧ Below w.heap.size w w' := by
 obtain ⟨l0, rfl, hr0, hm0, hw0, hc0⟩ := ReadsInt.ofRowC w0
 obtain ⟨k, h⟩ := P l0 hm0 y0 hw0
 refine (laws_FnAreasLast.calls k _ _ l0 true w (Kd.C_of_reads (d := (0 : Int)) (h1 := fun _ => rfl) hr0) hc0 h).mono ?_
 rintro e w' ⟨rfl, hd⟩
 exact ⟨rfl, hd⟩

end Go.Proofs.Ytlahnekinlkfmaa.P
