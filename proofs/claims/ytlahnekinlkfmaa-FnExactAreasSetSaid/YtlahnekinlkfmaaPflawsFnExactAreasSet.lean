-- printed by this session's own driver (wip/qd.py) out of the translation; Lean checks it
import Derived.Test.YtlahnekinlkfmaaPf0
import Derived.Test.YtlahnekinlkfmaaPflawsszAreaS
import Derived.Test.YtlahnekinlkfmaaPflawstoAreaS
import Derived.Test.YtlahnekinlkfmaaPflawseqAreaS
import Derived.Test.YtlahnekinlkfmaaPflawsmarkAreaS
import Derived.Test.YtlahnekinlkfmaaPflawsheldAreaS
import Derived.Test.YtlahnekinlkfmaaPfimplAreasSet
import Derived.Test.YtlahnekinlkfmaaPfspecAreasSet
namespace Go.Proofs.Ytlahnekinlkfmaa.P
open Go.RowKit Go.Proofs.YtlahnekinlkfmaaW.PrintWords Go.Proofs.YtlahnekinlkfmaaW.PrintLast Go.Proofs.YtlahnekinlkfmaaW.PrintMore
attribute [local go_sem] max2_int min2_int max_two min_two max_three min_three max_four min_four Q.cell_set_map   -- for this text's walks alone
set_option linter.unusedVariables false
set_option linter.unusedSimpArgs false

/-! ### laws_FnExactAreasSet: function 17 -/
mutual
def laws_FnExactAreasSet.j0 : Nat → List (S47) → Int → Int → Bool → List (S24) → Bool → List (S24) → List (S24) → Bool → Bool → Option (Bool)
 | 0, _, _, _, _, _, _, _, _, _, _ => none
 | k + 1, x0, x1, x2, x3, x10, x11, x12, x13, x14, x52 => if x52 = true then (some false) else ((laws_toAreaS.f k x0).bind fun t117 => ((laws_eqAreaS.f k x12 t117).bind fun t120 => (if t120 = true then ((laws_markAreaS.f k x12 1).bind fun bt121 => (if bt121.1 < 0 then (laws_FnExactAreasSet.j1 k x0 x1 x2 x3 x10 x11 x13 true) else ((laws_eqAreaS.f k x13 x10).bind fun t123 => (if t123 = true then (laws_FnExactAreasSet.j1 k x0 x1 x2 x3 x10 x11 x13 (x14 != x11)) else (laws_FnExactAreasSet.j1 k x0 x1 x2 x3 x10 x11 x13 true))))) else (some false))))
def laws_FnExactAreasSet.j1 : Nat → List (S47) → Int → Int → Bool → List (S24) → Bool → List (S24) → Bool → Option (Bool)
 | 0, _, _, _, _, _, _, _, _ => none
 | k + 1, x0, x1, x2, x3, x10, x11, x13, x73 => if x73 = true then (some false) else ((laws_markAreaS.f k x13 1).bind fun bt124 => ((laws_heldAreaS.f k bt124.2 1).bind fun t126 => (if t126 < 0 then (some false) else (if t126 = bt124.1 then ((laws_toAreaS.f k x0).bind fun t127 => ((impl_AreasSet.f k t127 x1 x2 x3).bind fun bt130 => ((laws_eqAreaS.f k bt130.1 x10).bind fun t134 => (if t134 = true then (laws_FnExactAreasSet.j2 k bt124.2 bt124.1 (bt130.2 != x11)) else (laws_FnExactAreasSet.j2 k bt124.2 bt124.1 true))))) else (some false)))))
def laws_FnExactAreasSet.j2 : Nat → List (S24) → Int → Bool → Option (Bool)
 | 0, _, _, _ => none
 | k + 1, x13, x16, x102 => if x102 = true then (some false) else ((laws_heldAreaS.f k x13 1).bind fun t135 => (if t135 < 0 then (some false) else (if t135 = x16 then (some true) else (some false))))
end
def laws_FnExactAreasSet.f (k : Nat) (l0 : List (S47)) (a1 : Int) (a2 : Int) (a3 : Bool) : Option (Bool) := (laws_szAreaS.f l0 1048576).bind fun t101 => (if t101 < 0 then (some true) else ((laws_toAreaS.f k l0).bind fun t102 => ((spec_AreasSet.f k t102 a1 a2 a3).bind fun bt105 => ((laws_toAreaS.f k l0).bind fun t109 => ((impl_AreasSet.f k t109 a1 a2 a3).bind fun bt112 => ((laws_eqAreaS.f k bt112.1 bt105.1).bind fun t116 => (if t116 = true then (laws_FnExactAreasSet.j0 k l0 a1 a2 a3 bt105.1 bt105.2 t109 bt112.1 bt112.2 (bt112.2 != bt105.2)) else (laws_FnExactAreasSet.j0 k l0 a1 a2 a3 bt105.1 bt105.2 t109 bt112.1 bt112.2 true))))))))
theorem laws_FnExactAreasSet.mono_l : ∀ k, (∀ y0 y1 y2 y3 y4 y5 y6 y7 y8 y9, LeO (laws_FnExactAreasSet.j0 k y0 y1 y2 y3 y4 y5 y6 y7 y8 y9) (laws_FnExactAreasSet.j0 (k + 1) y0 y1 y2 y3 y4 y5 y6 y7 y8 y9)) ∧ (∀ y0 y1 y2 y3 y4 y5 y6 y7, LeO (laws_FnExactAreasSet.j1 k y0 y1 y2 y3 y4 y5 y6 y7) (laws_FnExactAreasSet.j1 (k + 1) y0 y1 y2 y3 y4 y5 y6 y7)) ∧ (∀ y0 y1 y2, LeO (laws_FnExactAreasSet.j2 k y0 y1 y2) (laws_FnExactAreasSet.j2 (k + 1) y0 y1 y2))
 | 0 => ⟨fun _ _ _ _ _ _ _ _ _ _ r h => by simp [laws_FnExactAreasSet.j0] at h, fun _ _ _ _ _ _ _ _ r h => by simp [laws_FnExactAreasSet.j1] at h, fun _ _ _ r h => by simp [laws_FnExactAreasSet.j2] at h⟩
 | k + 1 => by
  obtain ⟨ih0, ih1, ih2⟩ := laws_FnExactAreasSet.mono_l k
  refine ⟨?_, ?_, ?_⟩
  ·
   intro y0 y1 y2 y3 y4 y5 y6 y7 y8 y9
   unfold laws_FnExactAreasSet.j0
   repeat' first
   | (with_reducible exact ih0 _ _ _ _ _ _ _ _ _ _)
   | (with_reducible exact ih1 _ _ _ _ _ _ _ _)
   | (with_reducible exact ih2 _ _ _)
   | (with_reducible exact impl_AreasSet.mono _ _ _ _ _)
   | (with_reducible exact laws_eqAreaS.mono _ _ _)
   | (with_reducible exact laws_heldAreaS.mono _ _ _)
   | (with_reducible exact laws_markAreaS.mono _ _ _)
   | (with_reducible exact laws_toAreaS.mono _ _)
   | (with_reducible exact spec_AreasSet.mono _ _ _ _ _)
   | (with_reducible exact LeO.refl _)
   | (with_reducible exact LeO.none _)
   | (with_reducible refine LeO.ite ?_ ?_)
   | (with_reducible refine LeO.bind ?_ (fun _ => ?_))
   | exact ih0 _ _ _ _ _ _ _ _ _ _
   | exact ih1 _ _ _ _ _ _ _ _
   | exact ih2 _ _ _
   | exact impl_AreasSet.mono _ _ _ _ _
   | exact laws_eqAreaS.mono _ _ _
   | exact laws_heldAreaS.mono _ _ _
   | exact laws_markAreaS.mono _ _ _
   | exact laws_toAreaS.mono _ _
   | exact spec_AreasSet.mono _ _ _ _ _
   | exact LeO.none _
   | refine LeO.ite ?_ ?_
   | refine LeO.bind ?_ (fun _ => ?_)
  ·
   intro y0 y1 y2 y3 y4 y5 y6 y7
   unfold laws_FnExactAreasSet.j1
   repeat' first
   | (with_reducible exact ih0 _ _ _ _ _ _ _ _ _ _)
   | (with_reducible exact ih1 _ _ _ _ _ _ _ _)
   | (with_reducible exact ih2 _ _ _)
   | (with_reducible exact impl_AreasSet.mono _ _ _ _ _)
   | (with_reducible exact laws_eqAreaS.mono _ _ _)
   | (with_reducible exact laws_heldAreaS.mono _ _ _)
   | (with_reducible exact laws_markAreaS.mono _ _ _)
   | (with_reducible exact laws_toAreaS.mono _ _)
   | (with_reducible exact spec_AreasSet.mono _ _ _ _ _)
   | (with_reducible exact LeO.refl _)
   | (with_reducible exact LeO.none _)
   | (with_reducible refine LeO.ite ?_ ?_)
   | (with_reducible refine LeO.bind ?_ (fun _ => ?_))
   | exact ih0 _ _ _ _ _ _ _ _ _ _
   | exact ih1 _ _ _ _ _ _ _ _
   | exact ih2 _ _ _
   | exact impl_AreasSet.mono _ _ _ _ _
   | exact laws_eqAreaS.mono _ _ _
   | exact laws_heldAreaS.mono _ _ _
   | exact laws_markAreaS.mono _ _ _
   | exact laws_toAreaS.mono _ _
   | exact spec_AreasSet.mono _ _ _ _ _
   | exact LeO.none _
   | refine LeO.ite ?_ ?_
   | refine LeO.bind ?_ (fun _ => ?_)
  ·
   intro y0 y1 y2
   unfold laws_FnExactAreasSet.j2
   repeat' first
   | (with_reducible exact ih0 _ _ _ _ _ _ _ _ _ _)
   | (with_reducible exact ih1 _ _ _ _ _ _ _ _)
   | (with_reducible exact ih2 _ _ _)
   | (with_reducible exact impl_AreasSet.mono _ _ _ _ _)
   | (with_reducible exact laws_eqAreaS.mono _ _ _)
   | (with_reducible exact laws_heldAreaS.mono _ _ _)
   | (with_reducible exact laws_markAreaS.mono _ _ _)
   | (with_reducible exact laws_toAreaS.mono _ _)
   | (with_reducible exact spec_AreasSet.mono _ _ _ _ _)
   | (with_reducible exact LeO.refl _)
   | (with_reducible exact LeO.none _)
   | (with_reducible refine LeO.ite ?_ ?_)
   | (with_reducible refine LeO.bind ?_ (fun _ => ?_))
   | exact ih0 _ _ _ _ _ _ _ _ _ _
   | exact ih1 _ _ _ _ _ _ _ _
   | exact ih2 _ _ _
   | exact impl_AreasSet.mono _ _ _ _ _
   | exact laws_eqAreaS.mono _ _ _
   | exact laws_heldAreaS.mono _ _ _
   | exact laws_markAreaS.mono _ _ _
   | exact laws_toAreaS.mono _ _
   | exact spec_AreasSet.mono _ _ _ _ _
   | exact LeO.none _
   | refine LeO.ite ?_ ?_
   | refine LeO.bind ?_ (fun _ => ?_)
theorem laws_FnExactAreasSet.mono : ∀ a0 a1 a2 a3 k, LeO (laws_FnExactAreasSet.f k a0 a1 a2 a3) (laws_FnExactAreasSet.f (k + 1) a0 a1 a2 a3) := by
 intro a0 a1 a2 a3 k
 obtain ⟨ih0, ih1, ih2⟩ := laws_FnExactAreasSet.mono_l k
 unfold laws_FnExactAreasSet.f
 repeat' first
   | (with_reducible exact ih0 _ _ _ _ _ _ _ _ _ _)
   | (with_reducible exact ih1 _ _ _ _ _ _ _ _)
   | (with_reducible exact ih2 _ _ _)
   | (with_reducible exact impl_AreasSet.mono _ _ _ _ _)
   | (with_reducible exact laws_eqAreaS.mono _ _ _)
   | (with_reducible exact laws_heldAreaS.mono _ _ _)
   | (with_reducible exact laws_markAreaS.mono _ _ _)
   | (with_reducible exact laws_toAreaS.mono _ _)
   | (with_reducible exact spec_AreasSet.mono _ _ _ _ _)
   | (with_reducible exact LeO.refl _)
   | (with_reducible exact LeO.none _)
   | (with_reducible refine LeO.ite ?_ ?_)
   | (with_reducible refine LeO.bind ?_ (fun _ => ?_))
   | exact ih0 _ _ _ _ _ _ _ _ _ _
   | exact ih1 _ _ _ _ _ _ _ _
   | exact ih2 _ _ _
   | exact impl_AreasSet.mono _ _ _ _ _
   | exact laws_eqAreaS.mono _ _ _
   | exact laws_heldAreaS.mono _ _ _
   | exact laws_markAreaS.mono _ _ _
   | exact laws_toAreaS.mono _ _
   | exact spec_AreasSet.mono _ _ _ _ _
   | exact LeO.none _
   | refine LeO.ite ?_ ?_
   | refine LeO.bind ?_ (fun _ => ?_)
set_option maxHeartbeats 8000000 in
set_option maxRecDepth 100000 in
theorem laws_FnExactAreasSet.calls (k : Nat) (A0 : Option Addr) (c0 : Nat) (l0 : List (S47)) (a1 : Int) (a2 : Int) (a3 : Bool) (r : Bool) (w : World) (hr0 : Kd.C k47 w A0 l0.length l0) (hc0 : l0.length ≤ c0) (h : laws_FnExactAreasSet.f k l0 a1 a2 a3 = some r) :
  Calls Try.prog 17 #[.slice A0 l0.length c0, .int .i64 a1, .int .i64 a2, .bool a3] w fun e w' => e = .returned (.bool r) ∧ Below w.heap.size w w' := by
 have HR0 := Aside0.mk hr0
 have HC0 := Aside0.mk hc0
 clear hr0 hc0
 have HB := Aside0.mk (Below.refl w.heap.size w)
 have H : ((laws_szAreaS.f l0 1048576).bind fun t101 => (if t101 < 0 then (some true) else ((laws_toAreaS.f k l0).bind fun t102 => ((spec_AreasSet.f k t102 a1 a2 a3).bind fun bt105 => ((laws_toAreaS.f k l0).bind fun t109 => ((impl_AreasSet.f k t109 a1 a2 a3).bind fun bt112 => ((laws_eqAreaS.f k bt112.1 bt105.1).bind fun t116 => (if t116 = true then (laws_FnExactAreasSet.j0 k l0 a1 a2 a3 bt105.1 bt105.2 t109 bt112.1 bt112.2 (bt112.2 != bt105.2)) else (laws_FnExactAreasSet.j0 k l0 a1 a2 a3 bt105.1 bt105.2 t109 bt112.1 bt112.2 true))))))))) = some r := h
 clear h
 replace H := Option.bind_eq_some_iff.mp H
 obtain ⟨t101, A50, H⟩ := H
 have A5 := Aside0.mk A50
 clear A50
 by_cases c6 : t101 < 0
 ·
  rw [if_pos c6] at H
  have c6b0 : decide (t101 < 0) = true := decide_eq_true c6
  clear c6
  obtain rfl := Option.some.inj H
  go_enter Try.func17, Try.ntmps17
  go_wp2_with (first | ((with_reducible refine gate_callee (f := 22) rfl ?_); refine goesL_ (some 22) rfl rfl Try.func22 zk rfl #[.slice A0 l0.length c0, .int .i64 1048576] rfl zm ?_; (with_reducible refine (laws_szAreaS.calls _ _ l0 1048576 t101 _ ?side1 ?side2 A5.out).mono ?_); (case side1 => exact cz HR0.out); (case side2 => exact HC0.out); rintro e w' ⟨rfl, ⟨nd, rfl⟩⟩; refine ⟨_, rfl, ?_⟩))
  go_ret
  exact ⟨ze, bz HB.out⟩
 ·
  rw [if_neg c6] at H
  have c6b0 : decide (t101 < 0) = false := decide_eq_false c6
  clear c6
  replace H := Option.bind_eq_some_iff.mp H
  obtain ⟨t102, A70, H⟩ := H
  have A7 := Aside0.mk A70
  clear A70
  replace H := Option.bind_eq_some_iff.mp H
  obtain ⟨⟨t105, t106⟩, A80, H⟩ := H
  replace H : ((laws_toAreaS.f k l0).bind fun t109 => ((impl_AreasSet.f k t109 a1 a2 a3).bind fun bt112 => ((laws_eqAreaS.f k bt112.1 t105).bind fun t116 => (if t116 = true then (laws_FnExactAreasSet.j0 k l0 a1 a2 a3 t105 t106 t109 bt112.1 bt112.2 (bt112.2 != t106)) else (laws_FnExactAreasSet.j0 k l0 a1 a2 a3 t105 t106 t109 bt112.1 bt112.2 true))))) = some r := H
  have A8 := Aside0.mk A80
  clear A80
  replace H := Option.bind_eq_some_iff.mp H
  obtain ⟨t109, A90, H⟩ := H
  have A9 := Aside0.mk A90
  clear A90
  replace H := Option.bind_eq_some_iff.mp H
  obtain ⟨⟨t112, t113⟩, A100, H⟩ := H
  replace H : ((laws_eqAreaS.f k t112 t105).bind fun t116 => (if t116 = true then (laws_FnExactAreasSet.j0 k l0 a1 a2 a3 t105 t106 t109 t112 t113 (t113 != t106)) else (laws_FnExactAreasSet.j0 k l0 a1 a2 a3 t105 t106 t109 t112 t113 true))) = some r := H
  have A10 := Aside0.mk A100
  clear A100
  have HC11 := Aside0.mk H
  clear H
  go_enter Try.func17, Try.ntmps17
  go_upto_region 8 with (first | ((with_reducible refine gate_callee (f := 22) rfl ?_); refine goesL_ (some 22) rfl rfl Try.func22 zk rfl #[.slice A0 l0.length c0, .int .i64 1048576] rfl zm ?_; (with_reducible refine (laws_szAreaS.calls _ _ l0 1048576 t101 _ ?side1 ?side2 A5.out).mono ?_); (case side1 => exact cz HR0.out); (case side2 => exact HC0.out); rintro e w' ⟨rfl, ⟨nd, rfl⟩⟩; refine ⟨_, rfl, ?_⟩) | ((with_reducible refine gate_callee (f := 24) rfl ?_); refine goesL_ (some 27) rfl rfl Try.func24 zk rfl #[.slice A0 l0.length c0] rfl zm ?_; (with_reducible refine (laws_toAreaS.calls k _ _ l0 t102 _ ?side1 ?side2 A7.out).mono ?_); (case side1 => exact cz HR0.out); (case side2 => exact HC0.out); rintro e w12 ⟨v103, rfl, ho0, hb⟩; refine ⟨_, rfl, ?_⟩; have HO104 := Aside0.mk (Kd.R_lower ho0 (below_size (bz HB.out))); replace HB := Aside0.mk (below_step (bz HB.out) hb); (try clear hb); (try clear ho0); obtain ⟨Ao13, co13, eo13⟩ := Kd.R_slice HO104.out; subst eo13) | ((with_reducible refine gate_callee (f := 45) rfl ?_); refine goesL_ (some 31) rfl rfl Try.func45 zk rfl #[.slice Ao13 t102.length co13, .int .i64 a1, .int .i64 a2, .bool a3] rfl zm ?_; (with_reducible refine (spec_AreasSet.calls k _ _ t102 a1 a2 a3 t105 t106 _ ?side1 ?side2 A8.out).mono ?_); (case side1 => exact cz ((Kd.R_reads' HO104.out).2.2)); (case side2 => exact (Kd.R_reads' HO104.out).2.1); rintro e w14 ⟨v107, rfl, ho0, hb⟩; refine ⟨_, rfl, ?_⟩; have HO108 := Aside0.mk (Kd.R_lower (Kd.R_new' ho0 (Kd.R_lt (rz HO104.out))) (below_size (bz HB.out))); replace HO104 := Aside0.mk (Kd.R_elder' (rz HO104.out) (Kd.R_base ho0) hb); replace HB := Aside0.mk (below_step (bz HB.out) hb); (try clear hb); (try clear ho0)) | ((with_reducible refine gate_callee (f := 24) rfl ?_); refine goesL_ (some 35) rfl rfl Try.func24 zk rfl #[.slice A0 l0.length c0] rfl zm ?_; (with_reducible refine (laws_toAreaS.calls k _ _ l0 t109 _ ?side1 ?side2 A9.out).mono ?_); (case side1 => exact cz (Kd.C_below HR0.out HB.out)); (case side2 => exact HC0.out); rintro e w15 ⟨v110, rfl, ho0, hb⟩; refine ⟨_, rfl, ?_⟩; have HO111 := Aside0.mk (Kd.R_lower (Kd.R_new' (Kd.R_new' ho0 (Kd.R_lt (rz HO104.out))) (Kd.R_lt (rz HO108.out))) (below_size (bz HB.out))); replace HO104 := Aside0.mk (Kd.R_elder' (rz HO104.out) (Kd.R_base ho0) hb); replace HO108 := Aside0.mk (Kd.R_elder' (rz HO108.out) (Kd.R_base ho0) hb); replace HB := Aside0.mk (below_step (bz HB.out) hb); (try clear hb); (try clear ho0); obtain ⟨Ao16, co16, eo16⟩ := Kd.R_slice HO111.out; subst eo16) | ((with_reducible refine gate_callee (f := 44) rfl ?_); refine goesL_ (some 41) rfl rfl Try.func44 zk rfl #[.slice Ao16 t109.length co16, .int .i64 a1, .int .i64 a2, .bool a3] rfl zm ?_; (with_reducible refine (impl_AreasSet.calls k _ _ t109 a1 a2 a3 t112 t113 _ ?side1 ?side2 A10.out).mono ?_); (case side1 => exact cz ((Kd.R_reads' HO111.out).2.2)); (case side2 => exact (Kd.R_reads' HO111.out).2.1); rintro e w17 ⟨v114, rfl, ho0, hb⟩; refine ⟨_, rfl, ?_⟩; have HO115 := Aside0.mk (Kd.R_lower (Kd.R_new' (Kd.R_new' (Kd.R_new' ho0 (Kd.R_lt (rz HO104.out))) (Kd.R_lt (rz HO108.out))) (Kd.R_lt (rz HO111.out))) (below_size (bz HB.out))); replace HO104 := Aside0.mk (Kd.R_elder' (rz HO104.out) (Kd.R_base ho0) hb); replace HO108 := Aside0.mk (Kd.R_elder' (rz HO108.out) (Kd.R_base ho0) hb); replace HO111 := Aside0.mk (Kd.R_elder' (rz HO111.out) (Kd.R_base ho0) hb); replace HB := Aside0.mk (below_step (bz HB.out) hb); (try clear hb); (try clear ho0)))
  (try simp only [Act.put, List.setIfInBounds_toArray, List.set_cons_zero, List.set_cons_succ])
  go_cut [52] (fun v52 wc => ∃ (kq : Nat) (x52_10 : Bool), v52 = .bool x52_10 ∧ Aside0 (laws_FnExactAreasSet.j0 kq l0 a1 a2 a3 t105 t106 t109 t112 t113 x52_10 = some r) ∧ Aside0 (kq ≤ k) ∧ Aside0 (Kd.R k24 24 wc w.heap.size (fun k_ => some k_ ≠ ((.slice Ao16 t109.length co16) : Value).ownBlock ∧ some k_ ≠ (v114 : Value).ownBlock) v107 t105) ∧ Aside0 (Kd.R k24 24 wc w.heap.size (fun k_ => some k_ ≠ (v107 : Value).ownBlock ∧ some k_ ≠ (v114 : Value).ownBlock) (.slice Ao16 t109.length co16) t109) ∧ Aside0 (Kd.R k24 24 wc w.heap.size (fun k_ => some k_ ≠ (v107 : Value).ownBlock ∧ some k_ ≠ ((.slice Ao16 t109.length co16) : Value).ownBlock) v114 t112) ∧ Aside0 (Below w.heap.size w wc))
  case first =>
   have H := HC11.out
   clear HC11
   replace H := Option.bind_eq_some_iff.mp H
   obtain ⟨t116, A180, H⟩ := H
   have A18 := Aside0.mk A180
   clear A180
   by_cases c19 : t116 = true
   ·
    subst c19
    rw [if_pos rfl] at H
    have H' := Aside0.mk H
    clear H
    obtain ⟨Ao20, co20, eo20⟩ := Kd.R_slice HO115.out
    subst eo20
    obtain ⟨Ao21, co21, eo21⟩ := Kd.R_slice HO108.out
    subst eo21
    go_wp2_with (first | ((with_reducible refine gate_callee (f := 25) rfl ?_); refine goesL_ (some 46) rfl rfl Try.func25 zk rfl #[.slice Ao20 t112.length co20, .slice Ao21 t105.length co21] rfl zm ?_; (with_reducible refine (laws_eqAreaS.calls k _ _ t112 _ _ t105 true _ ?side1 ?side2 ?side3 ?side4 A18.out).mono ?_); (case side1 => exact cz ((Kd.R_reads' HO115.out).2.2)); (case side2 => exact (Kd.R_reads' HO115.out).2.1); (case side3 => exact cz ((Kd.R_reads' HO108.out).2.2)); (case side4 => exact (Kd.R_reads' HO108.out).2.1); rintro e w22 ⟨rfl, hb⟩; refine ⟨_, rfl, ?_⟩; replace HO104 := Aside0.mk (Kd.R_below (rz HO104.out) hb); replace HO108 := Aside0.mk (Kd.R_below (rz HO108.out) hb); replace HO111 := Aside0.mk (Kd.R_below (rz HO111.out) hb); replace HO115 := Aside0.mk (Kd.R_below (rz HO115.out) hb); replace HB := Aside0.mk (below_step (bz HB.out) hb); (try clear hb)))
    go_meet
    case rel => exact ⟨_, ((t113 != t106)), zr, H', ⟨by first | omega | exact Nat.le_refl _⟩, ⟨by (with_reducible repeat (first | apply Kd.R_alloc | apply Kd.R_drewN | apply Kd.R_drew)); exact Kd.R_mono HO108.out (fun _ hk => ⟨hk.1.2, hk.2⟩)⟩, ⟨by (with_reducible repeat (first | apply Kd.R_alloc | apply Kd.R_drewN | apply Kd.R_drew)); exact Kd.R_mono HO111.out (fun _ hk => ⟨hk.1.2, hk.2⟩)⟩, ⟨by (with_reducible repeat (first | apply Kd.R_alloc | apply Kd.R_drewN | apply Kd.R_drew)); exact Kd.R_mono HO115.out (fun _ hk => ⟨hk.1.2, hk.2⟩)⟩, ⟨bz HB.out⟩⟩
   ·
    replace c19 := Bool.eq_false_iff.mpr c19
    subst c19
    rw [if_neg nf_] at H
    have H' := Aside0.mk H
    clear H
    obtain ⟨Ao23, co23, eo23⟩ := Kd.R_slice HO115.out
    subst eo23
    obtain ⟨Ao24, co24, eo24⟩ := Kd.R_slice HO108.out
    subst eo24
    go_wp2_with (first | ((with_reducible refine gate_callee (f := 25) rfl ?_); refine goesL_ (some 46) rfl rfl Try.func25 zk rfl #[.slice Ao23 t112.length co23, .slice Ao24 t105.length co24] rfl zm ?_; (with_reducible refine (laws_eqAreaS.calls k _ _ t112 _ _ t105 false _ ?side1 ?side2 ?side3 ?side4 A18.out).mono ?_); (case side1 => exact cz ((Kd.R_reads' HO115.out).2.2)); (case side2 => exact (Kd.R_reads' HO115.out).2.1); (case side3 => exact cz ((Kd.R_reads' HO108.out).2.2)); (case side4 => exact (Kd.R_reads' HO108.out).2.1); rintro e w25 ⟨rfl, hb⟩; refine ⟨_, rfl, ?_⟩; replace HO104 := Aside0.mk (Kd.R_below (rz HO104.out) hb); replace HO108 := Aside0.mk (Kd.R_below (rz HO108.out) hb); replace HO111 := Aside0.mk (Kd.R_below (rz HO111.out) hb); replace HO115 := Aside0.mk (Kd.R_below (rz HO115.out) hb); replace HB := Aside0.mk (below_step (bz HB.out) hb); (try clear hb)))
    go_meet
    case rel => exact ⟨_, (true), zr, H', ⟨by first | omega | exact Nat.le_refl _⟩, ⟨by (with_reducible repeat (first | apply Kd.R_alloc | apply Kd.R_drewN | apply Kd.R_drew)); exact Kd.R_mono HO108.out (fun _ hk => ⟨hk.1.2, hk.2⟩)⟩, ⟨by (with_reducible repeat (first | apply Kd.R_alloc | apply Kd.R_drewN | apply Kd.R_drew)); exact Kd.R_mono HO111.out (fun _ hk => ⟨hk.1.2, hk.2⟩)⟩, ⟨by (with_reducible repeat (first | apply Kd.R_alloc | apply Kd.R_drewN | apply Kd.R_drew)); exact Kd.R_mono HO115.out (fun _ hk => ⟨hk.1.2, hk.2⟩)⟩, ⟨bz HB.out⟩⟩
  case rest =>
   clear HC11
   try clear c1
   try clear c2
   try clear p2
   try clear c4
   try clear c6
   try clear c6b0
   try clear c17
   try clear c19
   try clear c22
   try clear c24
   try clear c25
   obtain ⟨kq, x52_10, rfl, HA, HJ10, HO_10, HO_12, HO_13, HB⟩ := hcut
   cases kq with
   | zero => exact absurd HA.out (by simp [laws_FnExactAreasSet.j0])
   | succ kj10 =>
    have H := HA.out
    clear HA
    simp only [laws_FnExactAreasSet.j0] at H
    by_cases c26 : x52_10 = true
    ·
     subst c26
     rw [if_pos rfl] at H
     obtain rfl := Option.some.inj H
     go_wp2
     go_ret
     exact ⟨ze, bz HB.out⟩
    ·
     replace c26 := Bool.eq_false_iff.mpr c26
     subst c26
     rw [if_neg nf_] at H
     replace H := Option.bind_eq_some_iff.mp H
     obtain ⟨t117, A270, H⟩ := H
     have A27 := Aside0.mk A270
     clear A270
     replace H := Option.bind_eq_some_iff.mp H
     obtain ⟨t120, A280, H⟩ := H
     have A28 := Aside0.mk A280
     clear A280
     by_cases c29 : t120 = true
     ·
      subst c29
      rw [if_pos rfl] at H
      replace H := Option.bind_eq_some_iff.mp H
      obtain ⟨⟨t121, t122⟩, A300, H⟩ := H
      replace H : (if t121 < 0 then (laws_FnExactAreasSet.j1 kj10 l0 a1 a2 a3 t105 t106 t112 true) else ((laws_eqAreaS.f kj10 t112 t105).bind fun t123 => (if t123 = true then (laws_FnExactAreasSet.j1 kj10 l0 a1 a2 a3 t105 t106 t112 (t113 != t106)) else (laws_FnExactAreasSet.j1 kj10 l0 a1 a2 a3 t105 t106 t112 true)))) = some r := H
      have A30 := Aside0.mk A300
      clear A300
      have HC31 := Aside0.mk H
      clear H
      go_upto_region 14 with (first | ((with_reducible refine gate_callee (f := 24) rfl ?_); refine goesL_ (some 55) rfl rfl Try.func24 zk rfl #[.slice A0 l0.length c0] rfl zm ?_; (with_reducible refine (laws_toAreaS.calls kj10 _ _ l0 t117 _ ?side1 ?side2 A27.out).mono ?_); (case side1 => exact cz (Kd.C_below HR0.out HB.out)); (case side2 => exact HC0.out); rintro e w32 ⟨v118, rfl, ho0, hb⟩; refine ⟨_, rfl, ?_⟩; have HO119 := Aside0.mk (Kd.R_lower (Kd.R_new' (Kd.R_new' (Kd.R_new' ho0 (Kd.R_lt (rz HO_10.out))) (Kd.R_lt (rz HO_12.out))) (Kd.R_lt (rz HO_13.out))) (below_size (bz HB.out))); replace HO_10 := Aside0.mk (Kd.R_elder' (rz HO_10.out) (Kd.R_base ho0) hb); replace HO_12 := Aside0.mk (Kd.R_elder' (rz HO_12.out) (Kd.R_base ho0) hb); replace HO_13 := Aside0.mk (Kd.R_elder' (rz HO_13.out) (Kd.R_base ho0) hb); replace HB := Aside0.mk (below_step (bz HB.out) hb); (try clear hb); (try clear ho0); obtain ⟨Ao33, co33, eo33⟩ := Kd.R_slice HO119.out; subst eo33) | ((with_reducible refine gate_callee (f := 25) rfl ?_); refine goesL_ (some 56) rfl rfl Try.func25 zk rfl #[.slice Ao16 t109.length co16, .slice Ao33 t117.length co33] rfl zm ?_; (with_reducible refine (laws_eqAreaS.calls kj10 _ _ t109 _ _ t117 true _ ?side1 ?side2 ?side3 ?side4 A28.out).mono ?_); (case side1 => exact cz ((Kd.R_reads' HO_12.out).2.2)); (case side2 => exact (Kd.R_reads' HO_12.out).2.1); (case side3 => exact cz ((Kd.R_reads' HO119.out).2.2)); (case side4 => exact (Kd.R_reads' HO119.out).2.1); rintro e w34 ⟨rfl, hb⟩; refine ⟨_, rfl, ?_⟩; replace HO_10 := Aside0.mk (Kd.R_below (rz HO_10.out) hb); replace HO_12 := Aside0.mk (Kd.R_below (rz HO_12.out) hb); replace HO_13 := Aside0.mk (Kd.R_below (rz HO_13.out) hb); replace HO119 := Aside0.mk (Kd.R_below (rz HO119.out) hb); replace HB := Aside0.mk (below_step (bz HB.out) hb); (try clear hb)) | ((with_reducible refine gate_callee (f := 37) rfl ?_); refine goesL_ (some 60) rfl rfl Try.func37 zk rfl #[.slice Ao16 t109.length co16, .int .i64 1] rfl zm ?_; (with_reducible refine (laws_markAreaS.calls kj10 (fun k_ => some k_ = (.slice Ao16 t109.length co16 : Value).ownBlock) (.slice Ao16 t109.length co16) t109 1 t121 t122 w _ ?side1 ?side2 A30.out).mono ?_); (case side1 => repeat (first | (with_reducible first | exact HB.out | apply below_alloc | apply pw_below_drewN | apply below_drew1) | exact HB.out)); (case side2 => exact Kd.R_tight rfl HO_12.out); rintro e w35 ⟨rfl, hy0, hb, hkp⟩; refine ⟨_, rfl, ?_⟩; replace HO_10 := Aside0.mk (Kd.R_mono (ok' := fun k_ => some k_ ≠ (.slice Ao16 t109.length co16 : Value).ownBlock ∧ some k_ ≠ (v114 : Value).ownBlock ∧ some k_ ≠ (.slice Ao33 t117.length co33 : Value).ownBlock) (Kd.R_keptB (HO_10.out) hkp (fun k_ hk_ hs_ => (hk_.1.1) hs_)) (fun k_ hk_ => ⟨hk_.1.1.1, hk_.1.1.2, hk_.1.2⟩)); replace HO_12 := Aside0.mk (Kd.R_reok rfl hy0 (fun k_ e_ => HO_12.out.1 k_ e_)); replace HO_13 := Aside0.mk (Kd.R_mono (ok' := fun k_ => some k_ ≠ (v107 : Value).ownBlock ∧ some k_ ≠ (.slice Ao16 t109.length co16 : Value).ownBlock ∧ some k_ ≠ (.slice Ao33 t117.length co33 : Value).ownBlock) (Kd.R_keptB (HO_13.out) hkp (fun k_ hk_ hs_ => (hk_.1.2) hs_)) (fun k_ hk_ => ⟨hk_.1.1.1, hk_.1.1.2, hk_.1.2⟩)); replace HO119 := Aside0.mk (Kd.R_mono (ok' := fun k_ => some k_ ≠ (v107 : Value).ownBlock ∧ some k_ ≠ (.slice Ao16 t109.length co16 : Value).ownBlock ∧ some k_ ≠ (v114 : Value).ownBlock) (Kd.R_keptB (HO119.out) hkp (fun k_ hk_ hs_ => (hk_.1.2) hs_)) (fun k_ hk_ => ⟨hk_.1.1.1.2, hk_.1.1.2, hk_.1.2⟩)); replace HB := Aside0.mk (hb); (try clear hb); (try clear hkp); (try clear hy0)))
      (try simp only [Act.put, List.setIfInBounds_toArray, List.set_cons_zero, List.set_cons_succ])
      go_cut [73] (fun v73 wc => ∃ (kq : Nat) (x73_30 : Bool), v73 = .bool x73_30 ∧ Aside0 (laws_FnExactAreasSet.j1 kq l0 a1 a2 a3 t105 t106 t112 x73_30 = some r) ∧ Aside0 (kq ≤ kj10) ∧ Aside0 (Kd.R k24 24 wc w.heap.size (fun k_ => some k_ ≠ (v114 : Value).ownBlock) v107 t105) ∧ Aside0 (Kd.R k24 24 wc w.heap.size (fun k_ => some k_ ≠ (v107 : Value).ownBlock) v114 t112) ∧ Aside0 (Below w.heap.size w wc))
      case first =>
       have H := HC31.out
       clear HC31
       by_cases c36 : t121 < 0
       ·
        rw [if_pos c36] at H
        have c36b0 : decide (t121 < 0) = true := decide_eq_true c36
        clear c36
        (first | rw [c36b0] | (simp only [i64_w, i32_w]; rw [c36b0]) | skip)
        have H' := Aside0.mk H
        clear H
        go_wp2
        go_meet
        case rel => exact ⟨_, (true), zr, H', ⟨by have := HJ10.out; first | omega | exact Nat.le_refl _⟩, ⟨by (with_reducible repeat (first | apply Kd.R_alloc | apply Kd.R_drewN | apply Kd.R_drew)); exact Kd.R_mono HO_10.out (fun _ hk => hk.2.1)⟩, ⟨by (with_reducible repeat (first | apply Kd.R_alloc | apply Kd.R_drewN | apply Kd.R_drew)); exact Kd.R_mono HO_13.out (fun _ hk => hk.1)⟩, ⟨bz HB.out⟩⟩
       ·
        rw [if_neg c36] at H
        have c36b0 : decide (t121 < 0) = false := decide_eq_false c36
        clear c36
        (first | rw [c36b0] | (simp only [i64_w, i32_w]; rw [c36b0]) | skip)
        replace H := Option.bind_eq_some_iff.mp H
        obtain ⟨t123, A370, H⟩ := H
        have A37 := Aside0.mk A370
        clear A370
        by_cases c38 : t123 = true
        ·
         subst c38
         rw [if_pos rfl] at H
         have H' := Aside0.mk H
         clear H
         obtain ⟨Ao39, co39, eo39⟩ := Kd.R_slice HO_13.out
         subst eo39
         obtain ⟨Ao40, co40, eo40⟩ := Kd.R_slice HO_10.out
         subst eo40
         go_wp2_with (first | (go_at_call 25; (with_reducible refine (laws_eqAreaS.calls kj10 _ _ t112 _ _ t105 true _ ?side1 ?side2 ?side3 ?side4 A37.out).mono ?_); (case side1 => exact cz ((Kd.R_reads' HO_13.out).2.2)); (case side2 => exact (Kd.R_reads' HO_13.out).2.1); (case side3 => exact cz ((Kd.R_reads' HO_10.out).2.2)); (case side4 => exact (Kd.R_reads' HO_10.out).2.1); rintro e w41 ⟨rfl, hb⟩; replace HO_10 := Aside0.mk (Kd.R_below (rz HO_10.out) hb); replace HO_12 := Aside0.mk (Kd.R_below (rz HO_12.out) hb); replace HO_13 := Aside0.mk (Kd.R_below (rz HO_13.out) hb); replace HO119 := Aside0.mk (Kd.R_below (rz HO119.out) hb); replace HB := Aside0.mk (below_step (bz HB.out) hb); (try clear hb)))
         go_meet
         case rel => exact ⟨_, ((t113 != t106)), zr, H', ⟨by have := HJ10.out; first | omega | exact Nat.le_refl _⟩, ⟨by (with_reducible repeat (first | apply Kd.R_alloc | apply Kd.R_drewN | apply Kd.R_drew)); exact Kd.R_mono HO_10.out (fun _ hk => hk.2.1)⟩, ⟨by (with_reducible repeat (first | apply Kd.R_alloc | apply Kd.R_drewN | apply Kd.R_drew)); exact Kd.R_mono HO_13.out (fun _ hk => hk.1)⟩, ⟨bz HB.out⟩⟩
        ·
         replace c38 := Bool.eq_false_iff.mpr c38
         subst c38
         rw [if_neg nf_] at H
         have H' := Aside0.mk H
         clear H
         obtain ⟨Ao42, co42, eo42⟩ := Kd.R_slice HO_13.out
         subst eo42
         obtain ⟨Ao43, co43, eo43⟩ := Kd.R_slice HO_10.out
         subst eo43
         go_wp2_with (first | (go_at_call 25; (with_reducible refine (laws_eqAreaS.calls kj10 _ _ t112 _ _ t105 false _ ?side1 ?side2 ?side3 ?side4 A37.out).mono ?_); (case side1 => exact cz ((Kd.R_reads' HO_13.out).2.2)); (case side2 => exact (Kd.R_reads' HO_13.out).2.1); (case side3 => exact cz ((Kd.R_reads' HO_10.out).2.2)); (case side4 => exact (Kd.R_reads' HO_10.out).2.1); rintro e w44 ⟨rfl, hb⟩; replace HO_10 := Aside0.mk (Kd.R_below (rz HO_10.out) hb); replace HO_12 := Aside0.mk (Kd.R_below (rz HO_12.out) hb); replace HO_13 := Aside0.mk (Kd.R_below (rz HO_13.out) hb); replace HO119 := Aside0.mk (Kd.R_below (rz HO119.out) hb); replace HB := Aside0.mk (below_step (bz HB.out) hb); (try clear hb)))
         go_meet
         case rel => exact ⟨_, (true), zr, H', ⟨by have := HJ10.out; first | omega | exact Nat.le_refl _⟩, ⟨by (with_reducible repeat (first | apply Kd.R_alloc | apply Kd.R_drewN | apply Kd.R_drew)); exact Kd.R_mono HO_10.out (fun _ hk => hk.2.1)⟩, ⟨by (with_reducible repeat (first | apply Kd.R_alloc | apply Kd.R_drewN | apply Kd.R_drew)); exact Kd.R_mono HO_13.out (fun _ hk => hk.1)⟩, ⟨bz HB.out⟩⟩
      case rest =>
       clear HC31
       try clear c1
       try clear c2
       try clear p2
       try clear c3
       try clear c4
       try clear c6
       try clear c6b0
       try clear c17
       try clear c19
       try clear c22
       try clear c24
       try clear c25
       try clear c26
       try clear c29
       try clear c36
       try clear c36b0
       try clear c37
       try clear c38
       try clear c44
       try clear p2
       obtain ⟨kq, x73_30, rfl, HA, HJ30, HO_10, HO_13, HB⟩ := hcut
       cases kq with
       | zero => exact absurd HA.out (by simp [laws_FnExactAreasSet.j1])
       | succ kj30 =>
        have H := HA.out
        clear HA
        simp only [laws_FnExactAreasSet.j1] at H
        by_cases c45 : x73_30 = true
        ·
         subst c45
         rw [if_pos rfl] at H
         obtain rfl := Option.some.inj H
         go_wp2
         go_ret
         exact ⟨ze, bz HB.out⟩
        ·
         replace c45 := Bool.eq_false_iff.mpr c45
         subst c45
         rw [if_neg nf_] at H
         replace H := Option.bind_eq_some_iff.mp H
         obtain ⟨⟨t124, t125⟩, A460, H⟩ := H
         replace H : ((laws_heldAreaS.f kj30 t125 1).bind fun t126 => (if t126 < 0 then (some false) else (if t126 = t124 then ((laws_toAreaS.f kj30 l0).bind fun t127 => ((impl_AreasSet.f kj30 t127 a1 a2 a3).bind fun bt130 => ((laws_eqAreaS.f kj30 bt130.1 t105).bind fun t134 => (if t134 = true then (laws_FnExactAreasSet.j2 kj30 t125 t124 (bt130.2 != t106)) else (laws_FnExactAreasSet.j2 kj30 t125 t124 true))))) else (some false)))) = some r := H
         have A46 := Aside0.mk A460
         clear A460
         replace H := Option.bind_eq_some_iff.mp H
         obtain ⟨t126, A470, H⟩ := H
         have A47 := Aside0.mk A470
         clear A470
         by_cases c48 : t126 < 0
         ·
          rw [if_pos c48] at H
          have c48b0 : decide (t126 < 0) = true := decide_eq_true c48
          clear c48
          obtain rfl := Option.some.inj H
          obtain ⟨Ao49, co49, eo49⟩ := Kd.R_slice HO_13.out
          subst eo49
          go_wp2_with (first | ((with_reducible refine gate_callee (f := 37) rfl ?_); refine goesL_ (some 76) rfl rfl Try.func37 zk rfl #[.slice Ao49 t112.length co49, .int .i64 1] rfl zm ?_; (with_reducible refine (laws_markAreaS.calls kj30 (fun k_ => some k_ = (.slice Ao49 t112.length co49 : Value).ownBlock) (.slice Ao49 t112.length co49) t112 1 t124 t125 w _ ?side1 ?side2 A46.out).mono ?_); (case side1 => repeat (first | (with_reducible first | exact HB.out | apply below_alloc | apply pw_below_drewN | apply below_drew1) | exact HB.out)); (case side2 => exact Kd.R_tight rfl HO_13.out); rintro e w50 ⟨rfl, hy0, hb, hkp⟩; refine ⟨_, rfl, ?_⟩; replace HO_10 := Aside0.mk (Kd.R_mono (ok' := fun k_ => some k_ ≠ (.slice Ao49 t112.length co49 : Value).ownBlock) (Kd.R_keptB (HO_10.out) hkp (fun k_ hk_ hs_ => (hk_) hs_)) (fun k_ hk_ => hk_.1)); replace HO_13 := Aside0.mk (Kd.R_reok rfl hy0 (fun k_ e_ => HO_13.out.1 k_ e_)); replace HB := Aside0.mk (hb); (try clear hb); (try clear hkp); (try clear hy0)) | ((with_reducible refine gate_callee (f := 38) rfl ?_); refine goesL_ (some 79) rfl rfl Try.func38 zk rfl #[.slice Ao49 t125.length co49, .int .i64 1] rfl (by (try simp only [List.map_toArray, List.map_cons, List.map_nil]); first | done | (rw [show t125.length = t112.length from (Kd.R_reads' HO_13.out).1.symm] <;> rfl) | rfl | (simp only [List.length_drop, List.length_take]; rfl)) ?_; (with_reducible refine (laws_heldAreaS.calls kj30 _ _ t125 1 t126 _ ?side1 ?side2 A47.out).mono ?_); (case side1 => exact cz ((Kd.R_reads' HO_13.out).2.2)); (case side2 => rw [show t125.length = t112.length from (Kd.R_reads' HO_13.out).1.symm]; exact (Kd.R_reads' HO_13.out).2.1); rintro e w' ⟨rfl, ⟨nd, rfl⟩⟩; refine ⟨_, rfl, ?_⟩))
          go_ret
          exact ⟨ze, bz HB.out⟩
         ·
          rw [if_neg c48] at H
          have c48b0 : decide (t126 < 0) = false := decide_eq_false c48
          clear c48
          by_cases c51 : t126 = t124
          ·
           rw [if_pos c51] at H
           have c51b0 : (t126 == t124) = true := beq_iff_eq.mpr c51
           have c51b1 : (t126 != t124) = false := bne_eq_false_iff_eq.mpr c51
           clear c51
           replace H := Option.bind_eq_some_iff.mp H
           obtain ⟨t127, A520, H⟩ := H
           have A52 := Aside0.mk A520
           clear A520
           replace H := Option.bind_eq_some_iff.mp H
           obtain ⟨⟨t130, t131⟩, A530, H⟩ := H
           replace H : ((laws_eqAreaS.f kj30 t130 t105).bind fun t134 => (if t134 = true then (laws_FnExactAreasSet.j2 kj30 t125 t124 (t131 != t106)) else (laws_FnExactAreasSet.j2 kj30 t125 t124 true))) = some r := H
           have A53 := Aside0.mk A530
           clear A530
           have HC54 := Aside0.mk H
           clear H
           obtain ⟨Ao55, co55, eo55⟩ := Kd.R_slice HO_13.out
           subst eo55
           go_upto_region 25 with (first | ((with_reducible refine gate_callee (f := 37) rfl ?_); refine goesL_ (some 76) rfl rfl Try.func37 zk rfl #[.slice Ao55 t112.length co55, .int .i64 1] rfl zm ?_; (with_reducible refine (laws_markAreaS.calls kj30 (fun k_ => some k_ = (.slice Ao55 t112.length co55 : Value).ownBlock) (.slice Ao55 t112.length co55) t112 1 t124 t125 w _ ?side1 ?side2 A46.out).mono ?_); (case side1 => repeat (first | (with_reducible first | exact HB.out | apply below_alloc | apply pw_below_drewN | apply below_drew1) | exact HB.out)); (case side2 => exact Kd.R_tight rfl HO_13.out); rintro e w56 ⟨rfl, hy0, hb, hkp⟩; refine ⟨_, rfl, ?_⟩; replace HO_10 := Aside0.mk (Kd.R_mono (ok' := fun k_ => some k_ ≠ (.slice Ao55 t112.length co55 : Value).ownBlock) (Kd.R_keptB (HO_10.out) hkp (fun k_ hk_ hs_ => (hk_) hs_)) (fun k_ hk_ => hk_.1)); replace HO_13 := Aside0.mk (Kd.R_reok rfl hy0 (fun k_ e_ => HO_13.out.1 k_ e_)); replace HB := Aside0.mk (hb); (try clear hb); (try clear hkp); (try clear hy0)) | ((with_reducible refine gate_callee (f := 38) rfl ?_); refine goesL_ (some 79) rfl rfl Try.func38 zk rfl #[.slice Ao55 t125.length co55, .int .i64 1] rfl (by (try simp only [List.map_toArray, List.map_cons, List.map_nil]); first | done | (rw [show t125.length = t112.length from (Kd.R_reads' HO_13.out).1.symm] <;> rfl) | rfl | (simp only [List.length_drop, List.length_take]; rfl)) ?_; (with_reducible refine (laws_heldAreaS.calls kj30 _ _ t125 1 t126 _ ?side1 ?side2 A47.out).mono ?_); (case side1 => exact cz ((Kd.R_reads' HO_13.out).2.2)); (case side2 => rw [show t125.length = t112.length from (Kd.R_reads' HO_13.out).1.symm]; exact (Kd.R_reads' HO_13.out).2.1); rintro e w' ⟨rfl, ⟨nd, rfl⟩⟩; refine ⟨_, rfl, ?_⟩) | ((with_reducible refine gate_callee (f := 24) rfl ?_); refine goesL_ (some 87) rfl rfl Try.func24 zk rfl #[.slice A0 l0.length c0] rfl zm ?_; (with_reducible refine (laws_toAreaS.calls kj30 _ _ l0 t127 _ ?side1 ?side2 A52.out).mono ?_); (case side1 => exact cz (Kd.C_below HR0.out (bz HB.out))); (case side2 => exact HC0.out); rintro e w57 ⟨v128, rfl, ho0, hb⟩; refine ⟨_, rfl, ?_⟩; have HO129 := Aside0.mk (Kd.R_lower (Kd.R_new' (Kd.R_new' ho0 (Kd.R_lt (rz HO_10.out))) (Kd.R_lt (rz HO_13.out))) (below_size (bz HB.out))); replace HO_10 := Aside0.mk (Kd.R_elder' (rz HO_10.out) (Kd.R_base ho0) hb); replace HO_13 := Aside0.mk (Kd.R_elder' (rz HO_13.out) (Kd.R_base ho0) hb); replace HB := Aside0.mk (below_step (bz HB.out) hb); (try clear hb); (try clear ho0); obtain ⟨Ao58, co58, eo58⟩ := Kd.R_slice HO129.out; subst eo58) | ((with_reducible refine gate_callee (f := 44) rfl ?_); refine goesL_ (some 91) rfl rfl Try.func44 zk rfl #[.slice Ao58 t127.length co58, .int .i64 a1, .int .i64 a2, .bool a3] rfl zm ?_; (with_reducible refine (impl_AreasSet.calls kj30 _ _ t127 a1 a2 a3 t130 t131 _ ?side1 ?side2 A53.out).mono ?_); (case side1 => exact cz ((Kd.R_reads' HO129.out).2.2)); (case side2 => exact (Kd.R_reads' HO129.out).2.1); rintro e w59 ⟨v132, rfl, ho0, hb⟩; refine ⟨_, rfl, ?_⟩; have HO133 := Aside0.mk (Kd.R_lower (Kd.R_new' (Kd.R_new' (Kd.R_new' ho0 (Kd.R_lt (rz HO_10.out))) (Kd.R_lt (rz HO_13.out))) (Kd.R_lt (rz HO129.out))) (below_size (bz HB.out))); replace HO_10 := Aside0.mk (Kd.R_elder' (rz HO_10.out) (Kd.R_base ho0) hb); replace HO_13 := Aside0.mk (Kd.R_elder' (rz HO_13.out) (Kd.R_base ho0) hb); replace HO129 := Aside0.mk (Kd.R_elder' (rz HO129.out) (Kd.R_base ho0) hb); replace HB := Aside0.mk (below_step (bz HB.out) hb); (try clear hb); (try clear ho0)))
           (try simp only [Act.put, List.setIfInBounds_toArray, List.set_cons_zero, List.set_cons_succ])
           go_cut [102] (fun v102 wc => ∃ (kq : Nat) (x102_53 : Bool), v102 = .bool x102_53 ∧ Aside0 (laws_FnExactAreasSet.j2 kq t125 t124 x102_53 = some r) ∧ Aside0 (kq ≤ kj30) ∧ Aside0 (Kd.R k24 24 wc w.heap.size (fun _ => True) (.slice Ao55 t112.length co55) t125) ∧ Aside0 (Below w.heap.size w wc))
           case first =>
            have H := HC54.out
            clear HC54
            replace H := Option.bind_eq_some_iff.mp H
            obtain ⟨t134, A600, H⟩ := H
            have A60 := Aside0.mk A600
            clear A600
            by_cases c61 : t134 = true
            ·
             subst c61
             rw [if_pos rfl] at H
             have H' := Aside0.mk H
             clear H
             obtain ⟨Ao62, co62, eo62⟩ := Kd.R_slice HO133.out
             subst eo62
             obtain ⟨Ao63, co63, eo63⟩ := Kd.R_slice HO_10.out
             subst eo63
             go_wp2_with (first | ((with_reducible refine gate_callee (f := 25) rfl ?_); refine goesL_ (some 96) rfl rfl Try.func25 zk rfl #[.slice Ao62 t130.length co62, .slice Ao63 t105.length co63] rfl zm ?_; (with_reducible refine (laws_eqAreaS.calls kj30 _ _ t130 _ _ t105 true _ ?side1 ?side2 ?side3 ?side4 A60.out).mono ?_); (case side1 => exact cz ((Kd.R_reads' HO133.out).2.2)); (case side2 => exact (Kd.R_reads' HO133.out).2.1); (case side3 => exact cz ((Kd.R_reads' HO_10.out).2.2)); (case side4 => exact (Kd.R_reads' HO_10.out).2.1); rintro e w64 ⟨rfl, hb⟩; refine ⟨_, rfl, ?_⟩; replace HO_10 := Aside0.mk (Kd.R_below (rz HO_10.out) hb); replace HO_13 := Aside0.mk (Kd.R_below (rz HO_13.out) hb); replace HO129 := Aside0.mk (Kd.R_below (rz HO129.out) hb); replace HO133 := Aside0.mk (Kd.R_below (rz HO133.out) hb); replace HB := Aside0.mk (below_step (bz HB.out) hb); (try clear hb)))
             go_meet
             case rel => exact ⟨_, ((t131 != t106)), zr, H', ⟨by have := HJ10.out; have := HJ30.out; first | omega | exact Nat.le_refl _⟩, ⟨by (with_reducible repeat (first | apply Kd.R_alloc | apply Kd.R_drewN | apply Kd.R_drew)); exact Kd.R_mono HO_13.out (fun _ hk => trivial)⟩, ⟨bz HB.out⟩⟩
            ·
             replace c61 := Bool.eq_false_iff.mpr c61
             subst c61
             rw [if_neg nf_] at H
             have H' := Aside0.mk H
             clear H
             obtain ⟨Ao65, co65, eo65⟩ := Kd.R_slice HO133.out
             subst eo65
             obtain ⟨Ao66, co66, eo66⟩ := Kd.R_slice HO_10.out
             subst eo66
             go_wp2_with (first | ((with_reducible refine gate_callee (f := 25) rfl ?_); refine goesL_ (some 96) rfl rfl Try.func25 zk rfl #[.slice Ao65 t130.length co65, .slice Ao66 t105.length co66] rfl zm ?_; (with_reducible refine (laws_eqAreaS.calls kj30 _ _ t130 _ _ t105 false _ ?side1 ?side2 ?side3 ?side4 A60.out).mono ?_); (case side1 => exact cz ((Kd.R_reads' HO133.out).2.2)); (case side2 => exact (Kd.R_reads' HO133.out).2.1); (case side3 => exact cz ((Kd.R_reads' HO_10.out).2.2)); (case side4 => exact (Kd.R_reads' HO_10.out).2.1); rintro e w67 ⟨rfl, hb⟩; refine ⟨_, rfl, ?_⟩; replace HO_10 := Aside0.mk (Kd.R_below (rz HO_10.out) hb); replace HO_13 := Aside0.mk (Kd.R_below (rz HO_13.out) hb); replace HO129 := Aside0.mk (Kd.R_below (rz HO129.out) hb); replace HO133 := Aside0.mk (Kd.R_below (rz HO133.out) hb); replace HB := Aside0.mk (below_step (bz HB.out) hb); (try clear hb)))
             go_meet
             case rel => exact ⟨_, (true), zr, H', ⟨by have := HJ10.out; have := HJ30.out; first | omega | exact Nat.le_refl _⟩, ⟨by (with_reducible repeat (first | apply Kd.R_alloc | apply Kd.R_drewN | apply Kd.R_drew)); exact Kd.R_mono HO_13.out (fun _ hk => trivial)⟩, ⟨bz HB.out⟩⟩
           case rest =>
            clear HC54
            try clear c1
            try clear c2
            try clear p2
            try clear c3
            try clear c4
            try clear c5
            try clear c6
            try clear c6b0
            try clear c17
            try clear c19
            try clear c22
            try clear c24
            try clear c25
            try clear c26
            try clear c29
            try clear c36
            try clear c36b0
            try clear c37
            try clear c38
            try clear c44
            try clear c45
            try clear c48
            try clear c48b0
            try clear c51
            try clear c51b0
            try clear c51b1
            try clear c61
            try clear p2
            obtain ⟨kq, x102_53, rfl, HA, HJ53, HO_13, HB⟩ := hcut
            have hl13_53 := (Kd.R_reads' HO_13.out).1
            rw [hl13_53] at HO_13
            (try simp only [hl13_53])
            cases kq with
            | zero => exact absurd HA.out (by simp [laws_FnExactAreasSet.j2])
            | succ kj53 =>
             have H := HA.out
             clear HA
             simp only [laws_FnExactAreasSet.j2] at H
             by_cases c68 : x102_53 = true
             ·
              subst c68
              rw [if_pos rfl] at H
              obtain rfl := Option.some.inj H
              go_wp2
              go_ret
              exact ⟨ze, bz HB.out⟩
             ·
              replace c68 := Bool.eq_false_iff.mpr c68
              subst c68
              rw [if_neg nf_] at H
              replace H := Option.bind_eq_some_iff.mp H
              obtain ⟨t135, A690, H⟩ := H
              have A69 := Aside0.mk A690
              clear A690
              by_cases c70 : t135 < 0
              ·
               rw [if_pos c70] at H
               have c70b0 : decide (t135 < 0) = true := decide_eq_true c70
               clear c70
               obtain rfl := Option.some.inj H
               go_wp2_with (first | ((with_reducible refine gate_callee (f := 38) rfl ?_); refine goesL_ (some 105) rfl rfl Try.func38 zk rfl #[.slice Ao55 t125.length co55, .int .i64 1] rfl zm ?_; (with_reducible refine (laws_heldAreaS.calls kj53 _ _ t125 1 t135 _ ?side1 ?side2 A69.out).mono ?_); (case side1 => exact cz ((Kd.R_reads' HO_13.out).2.2)); (case side2 => exact (Kd.R_reads' HO_13.out).2.1); rintro e w' ⟨rfl, ⟨nd, rfl⟩⟩; refine ⟨_, rfl, ?_⟩))
               go_ret
               exact ⟨ze, bz HB.out⟩
              ·
               rw [if_neg c70] at H
               have c70b0 : decide (t135 < 0) = false := decide_eq_false c70
               clear c70
               by_cases c71 : t135 = t124
               ·
                rw [if_pos c71] at H
                have c71b0 : (t135 == t124) = true := beq_iff_eq.mpr c71
                have c71b1 : (t135 != t124) = false := bne_eq_false_iff_eq.mpr c71
                clear c71
                obtain rfl := Option.some.inj H
                go_wp2_with (first | ((with_reducible refine gate_callee (f := 38) rfl ?_); refine goesL_ (some 105) rfl rfl Try.func38 zk rfl #[.slice Ao55 t125.length co55, .int .i64 1] rfl zm ?_; (with_reducible refine (laws_heldAreaS.calls kj53 _ _ t125 1 t135 _ ?side1 ?side2 A69.out).mono ?_); (case side1 => exact cz ((Kd.R_reads' HO_13.out).2.2)); (case side2 => exact (Kd.R_reads' HO_13.out).2.1); rintro e w' ⟨rfl, ⟨nd, rfl⟩⟩; refine ⟨_, rfl, ?_⟩))
                go_ret
                exact ⟨ze, bz HB.out⟩
               ·
                rw [if_neg c71] at H
                have c71b0 : (t135 == t124) = false := beq_eq_false_iff_ne.mpr c71
                have c71b1 : (t135 != t124) = true := bne_iff_ne.mpr c71
                obtain rfl := Option.some.inj H
                go_wp2_with (first | ((with_reducible refine gate_callee (f := 38) rfl ?_); refine goesL_ (some 105) rfl rfl Try.func38 zk rfl #[.slice Ao55 t125.length co55, .int .i64 1] rfl zm ?_; (with_reducible refine (laws_heldAreaS.calls kj53 _ _ t125 1 t135 _ ?side1 ?side2 A69.out).mono ?_); (case side1 => exact cz ((Kd.R_reads' HO_13.out).2.2)); (case side2 => exact (Kd.R_reads' HO_13.out).2.1); rintro e w' ⟨rfl, ⟨nd, rfl⟩⟩; refine ⟨_, rfl, ?_⟩))
                go_ret
                exact ⟨ze, bz HB.out⟩
          ·
           rw [if_neg c51] at H
           have c51b0 : (t126 == t124) = false := beq_eq_false_iff_ne.mpr c51
           have c51b1 : (t126 != t124) = true := bne_iff_ne.mpr c51
           obtain rfl := Option.some.inj H
           obtain ⟨Ao72, co72, eo72⟩ := Kd.R_slice HO_13.out
           subst eo72
           go_wp2_with (first | ((with_reducible refine gate_callee (f := 37) rfl ?_); refine goesL_ (some 76) rfl rfl Try.func37 zk rfl #[.slice Ao72 t112.length co72, .int .i64 1] rfl zm ?_; (with_reducible refine (laws_markAreaS.calls kj30 (fun k_ => some k_ = (.slice Ao72 t112.length co72 : Value).ownBlock) (.slice Ao72 t112.length co72) t112 1 t124 t125 w _ ?side1 ?side2 A46.out).mono ?_); (case side1 => repeat (first | (with_reducible first | exact HB.out | apply below_alloc | apply pw_below_drewN | apply below_drew1) | exact HB.out)); (case side2 => exact Kd.R_tight rfl HO_13.out); rintro e w73 ⟨rfl, hy0, hb, hkp⟩; refine ⟨_, rfl, ?_⟩; replace HO_10 := Aside0.mk (Kd.R_mono (ok' := fun k_ => some k_ ≠ (.slice Ao72 t112.length co72 : Value).ownBlock) (Kd.R_keptB (HO_10.out) hkp (fun k_ hk_ hs_ => (hk_) hs_)) (fun k_ hk_ => hk_.1)); replace HO_13 := Aside0.mk (Kd.R_reok rfl hy0 (fun k_ e_ => HO_13.out.1 k_ e_)); replace HB := Aside0.mk (hb); (try clear hb); (try clear hkp); (try clear hy0)) | ((with_reducible refine gate_callee (f := 38) rfl ?_); refine goesL_ (some 79) rfl rfl Try.func38 zk rfl #[.slice Ao72 t125.length co72, .int .i64 1] rfl (by (try simp only [List.map_toArray, List.map_cons, List.map_nil]); first | done | (rw [show t125.length = t112.length from (Kd.R_reads' HO_13.out).1.symm] <;> rfl) | rfl | (simp only [List.length_drop, List.length_take]; rfl)) ?_; (with_reducible refine (laws_heldAreaS.calls kj30 _ _ t125 1 t126 _ ?side1 ?side2 A47.out).mono ?_); (case side1 => exact cz ((Kd.R_reads' HO_13.out).2.2)); (case side2 => rw [show t125.length = t112.length from (Kd.R_reads' HO_13.out).1.symm]; exact (Kd.R_reads' HO_13.out).2.1); rintro e w' ⟨rfl, ⟨nd, rfl⟩⟩; refine ⟨_, rfl, ?_⟩))
           go_ret
           exact ⟨ze, bz HB.out⟩
     ·
      replace c29 := Bool.eq_false_iff.mpr c29
      subst c29
      rw [if_neg nf_] at H
      obtain rfl := Option.some.inj H
      go_wp2_with (first | ((with_reducible refine gate_callee (f := 24) rfl ?_); refine goesL_ (some 55) rfl rfl Try.func24 zk rfl #[.slice A0 l0.length c0] rfl zm ?_; (with_reducible refine (laws_toAreaS.calls kj10 _ _ l0 t117 _ ?side1 ?side2 A27.out).mono ?_); (case side1 => exact cz (Kd.C_below HR0.out HB.out)); (case side2 => exact HC0.out); rintro e w74 ⟨v118, rfl, ho0, hb⟩; refine ⟨_, rfl, ?_⟩; have HO119 := Aside0.mk (Kd.R_lower (Kd.R_new' (Kd.R_new' (Kd.R_new' ho0 (Kd.R_lt (rz HO_10.out))) (Kd.R_lt (rz HO_12.out))) (Kd.R_lt (rz HO_13.out))) (below_size (bz HB.out))); replace HO_10 := Aside0.mk (Kd.R_elder' (rz HO_10.out) (Kd.R_base ho0) hb); replace HO_12 := Aside0.mk (Kd.R_elder' (rz HO_12.out) (Kd.R_base ho0) hb); replace HO_13 := Aside0.mk (Kd.R_elder' (rz HO_13.out) (Kd.R_base ho0) hb); replace HB := Aside0.mk (below_step (bz HB.out) hb); (try clear hb); (try clear ho0); obtain ⟨Ao75, co75, eo75⟩ := Kd.R_slice HO119.out; subst eo75) | ((with_reducible refine gate_callee (f := 25) rfl ?_); refine goesL_ (some 56) rfl rfl Try.func25 zk rfl #[.slice Ao16 t109.length co16, .slice Ao75 t117.length co75] rfl zm ?_; (with_reducible refine (laws_eqAreaS.calls kj10 _ _ t109 _ _ t117 false _ ?side1 ?side2 ?side3 ?side4 A28.out).mono ?_); (case side1 => exact cz ((Kd.R_reads' HO_12.out).2.2)); (case side2 => exact (Kd.R_reads' HO_12.out).2.1); (case side3 => exact cz ((Kd.R_reads' HO119.out).2.2)); (case side4 => exact (Kd.R_reads' HO119.out).2.1); rintro e w76 ⟨rfl, hb⟩; refine ⟨_, rfl, ?_⟩; replace HO_10 := Aside0.mk (Kd.R_below (rz HO_10.out) hb); replace HO_12 := Aside0.mk (Kd.R_below (rz HO_12.out) hb); replace HO_13 := Aside0.mk (Kd.R_below (rz HO_13.out) hb); replace HO119 := Aside0.mk (Kd.R_below (rz HO119.out) hb); replace HB := Aside0.mk (below_step (bz HB.out) hb); (try clear hb)))
      go_ret
      exact ⟨ze, bz HB.out⟩

end Go.Proofs.Ytlahnekinlkfmaa.P
