-- printed by this session's own driver (wip/qd.py) out of the translation; Lean checks it
import Derived.Test.YtgjlbghjjjlhmaaPf0
import Derived.Test.YtgjlbghjjjlhmaaPfspecHeldOk
import Derived.Test.YtgjlbghjjjlhmaaPfimplHeldOk
import Derived.Test.YtgjlbghjjjlhmaaPfimplHeldMay
import Derived.Test.YtgjlbghjjjlhmaaPfspecDrawHeldOk
namespace Go.Proofs.Ytgjlbghjjjlhmaa.P
open Go.RowKit Go.Proofs.YtgjlbghjjjlhmaaW.PrintWords Go.Proofs.YtgjlbghjjjlhmaaW.PrintLast Go.Proofs.YtgjlbghjjjlhmaaW.PrintMore
attribute [local go_sem] max2_int min2_int max_two min_two max_three min_three max_four min_four Q.cell_set_map   -- for this text's walks alone
set_option linter.unusedVariables false
set_option linter.unusedSimpArgs false

/-! ### laws_FnHeldOk: function 6 -/
mutual
def laws_FnHeldOk.j0 : Nat → Bool → Bool → List (S40) → List (S40) → Option (Bool)
 | 0, _, _, _, _ => none
 | k + 1, x6, x27, x108000, x108001 => if x27 = true then (some x6) else (laws_FnHeldOk.l0 k 0 x108000 x108001)
def laws_FnHeldOk.l0 : Nat → Int → List (S40) → List (S40) → Option (Bool)
 | 0, _, _, _ => none
 | k + 1, x7, x108000, x108001 => if x7 < 16 then (laws_FnHeldOk.l1 k x7 0 x108000 x108001) else (some true)
def laws_FnHeldOk.l1 : Nat → Int → Int → List (S40) → List (S40) → Option (Bool)
 | 0, _, _, _, _ => none
 | k + 1, x7, x8, x108000, x108001 => if x8 < 4 then (laws_FnHeldOk.l2 k x7 x8 0 x108000 x108001) else (laws_FnHeldOk.l0 k (wrap64 (x7 + 1)) x108000 x108001)
def laws_FnHeldOk.l2 : Nat → Int → Int → Int → List (S40) → List (S40) → Option (Bool)
 | 0, _, _, _, _, _ => none
 | k + 1, x7, x8, x9, x108000, x108001 => if x9 < 4 then (if x8 = x9 then (laws_FnHeldOk.l2 k x7 x8 (wrap64 (x9 + 1)) x108000 x108001) else ((impl_HeldMay.f k x108000 x108001 x8 x7 true).bind fun t110 => (if t110 = true then ((impl_HeldMay.f k x108000 x108001 x9 x7 false).bind fun t111 => (if t111 = true then (some false) else (laws_FnHeldOk.l2 k x7 x8 (wrap64 (x9 + 1)) x108000 x108001))) else (laws_FnHeldOk.l2 k x7 x8 (wrap64 (x9 + 1)) x108000 x108001)))) else (laws_FnHeldOk.l1 k x7 (wrap64 (x8 + 1)) x108000 x108001)
end
def laws_FnHeldOk.f (k : Nat) (l0 : List Int) : Option (Bool) := if (l0.length : Int) > 1048576 then (some true) else ((spec_DrawHeldOk.f k l0).bind fun bt101 => ((impl_HeldOk.f k bt101.1 bt101.2).bind fun t108 => ((spec_HeldOk.f k bt101.1 bt101.2).bind fun t109 => (if ((t108 == t109) = true) then (laws_FnHeldOk.j0 k true (!t108) bt101.1 bt101.2) else (laws_FnHeldOk.j0 k false true bt101.1 bt101.2)))))
theorem laws_FnHeldOk.mono_l : ∀ k, (∀ y0 y1 y2 y3, LeO (laws_FnHeldOk.j0 k y0 y1 y2 y3) (laws_FnHeldOk.j0 (k + 1) y0 y1 y2 y3)) ∧ (∀ y0 y1 y2, LeO (laws_FnHeldOk.l0 k y0 y1 y2) (laws_FnHeldOk.l0 (k + 1) y0 y1 y2)) ∧ (∀ y0 y1 y2 y3, LeO (laws_FnHeldOk.l1 k y0 y1 y2 y3) (laws_FnHeldOk.l1 (k + 1) y0 y1 y2 y3)) ∧ (∀ y0 y1 y2 y3 y4, LeO (laws_FnHeldOk.l2 k y0 y1 y2 y3 y4) (laws_FnHeldOk.l2 (k + 1) y0 y1 y2 y3 y4))
 | 0 => ⟨fun _ _ _ _ r h => by simp [laws_FnHeldOk.j0] at h, fun _ _ _ r h => by simp [laws_FnHeldOk.l0] at h, fun _ _ _ _ r h => by simp [laws_FnHeldOk.l1] at h, fun _ _ _ _ _ r h => by simp [laws_FnHeldOk.l2] at h⟩
 | k + 1 => by
  obtain ⟨ih0, ih1, ih2, ih3⟩ := laws_FnHeldOk.mono_l k
  refine ⟨?_, ?_, ?_, ?_⟩
  ·
   intro y0 y1 y2 y3
   unfold laws_FnHeldOk.j0
   repeat' first
   | (with_reducible exact ih0 _ _ _ _)
   | (with_reducible exact ih1 _ _ _)
   | (with_reducible exact ih2 _ _ _ _)
   | (with_reducible exact ih3 _ _ _ _ _)
   | (with_reducible exact impl_HeldMay.mono _ _ _ _ _ _)
   | (with_reducible exact impl_HeldOk.mono _ _ _)
   | (with_reducible exact spec_DrawHeldOk.mono _ _)
   | (with_reducible exact spec_HeldOk.mono _ _ _)
   | (with_reducible exact LeO.refl _)
   | (with_reducible exact LeO.none _)
   | (with_reducible refine LeO.ite ?_ ?_)
   | (with_reducible refine LeO.bind ?_ (fun _ => ?_))
   | exact ih0 _ _ _ _
   | exact ih1 _ _ _
   | exact ih2 _ _ _ _
   | exact ih3 _ _ _ _ _
   | exact impl_HeldMay.mono _ _ _ _ _ _
   | exact impl_HeldOk.mono _ _ _
   | exact spec_DrawHeldOk.mono _ _
   | exact spec_HeldOk.mono _ _ _
   | exact LeO.none _
   | refine LeO.ite ?_ ?_
   | refine LeO.bind ?_ (fun _ => ?_)
  ·
   intro y0 y1 y2
   unfold laws_FnHeldOk.l0
   repeat' first
   | (with_reducible exact ih0 _ _ _ _)
   | (with_reducible exact ih1 _ _ _)
   | (with_reducible exact ih2 _ _ _ _)
   | (with_reducible exact ih3 _ _ _ _ _)
   | (with_reducible exact impl_HeldMay.mono _ _ _ _ _ _)
   | (with_reducible exact impl_HeldOk.mono _ _ _)
   | (with_reducible exact spec_DrawHeldOk.mono _ _)
   | (with_reducible exact spec_HeldOk.mono _ _ _)
   | (with_reducible exact LeO.refl _)
   | (with_reducible exact LeO.none _)
   | (with_reducible refine LeO.ite ?_ ?_)
   | (with_reducible refine LeO.bind ?_ (fun _ => ?_))
   | exact ih0 _ _ _ _
   | exact ih1 _ _ _
   | exact ih2 _ _ _ _
   | exact ih3 _ _ _ _ _
   | exact impl_HeldMay.mono _ _ _ _ _ _
   | exact impl_HeldOk.mono _ _ _
   | exact spec_DrawHeldOk.mono _ _
   | exact spec_HeldOk.mono _ _ _
   | exact LeO.none _
   | refine LeO.ite ?_ ?_
   | refine LeO.bind ?_ (fun _ => ?_)
  ·
   intro y0 y1 y2 y3
   unfold laws_FnHeldOk.l1
   repeat' first
   | (with_reducible exact ih0 _ _ _ _)
   | (with_reducible exact ih1 _ _ _)
   | (with_reducible exact ih2 _ _ _ _)
   | (with_reducible exact ih3 _ _ _ _ _)
   | (with_reducible exact impl_HeldMay.mono _ _ _ _ _ _)
   | (with_reducible exact impl_HeldOk.mono _ _ _)
   | (with_reducible exact spec_DrawHeldOk.mono _ _)
   | (with_reducible exact spec_HeldOk.mono _ _ _)
   | (with_reducible exact LeO.refl _)
   | (with_reducible exact LeO.none _)
   | (with_reducible refine LeO.ite ?_ ?_)
   | (with_reducible refine LeO.bind ?_ (fun _ => ?_))
   | exact ih0 _ _ _ _
   | exact ih1 _ _ _
   | exact ih2 _ _ _ _
   | exact ih3 _ _ _ _ _
   | exact impl_HeldMay.mono _ _ _ _ _ _
   | exact impl_HeldOk.mono _ _ _
   | exact spec_DrawHeldOk.mono _ _
   | exact spec_HeldOk.mono _ _ _
   | exact LeO.none _
   | refine LeO.ite ?_ ?_
   | refine LeO.bind ?_ (fun _ => ?_)
  ·
   intro y0 y1 y2 y3 y4
   unfold laws_FnHeldOk.l2
   repeat' first
   | (with_reducible exact ih0 _ _ _ _)
   | (with_reducible exact ih1 _ _ _)
   | (with_reducible exact ih2 _ _ _ _)
   | (with_reducible exact ih3 _ _ _ _ _)
   | (with_reducible exact impl_HeldMay.mono _ _ _ _ _ _)
   | (with_reducible exact impl_HeldOk.mono _ _ _)
   | (with_reducible exact spec_DrawHeldOk.mono _ _)
   | (with_reducible exact spec_HeldOk.mono _ _ _)
   | (with_reducible exact LeO.refl _)
   | (with_reducible exact LeO.none _)
   | (with_reducible refine LeO.ite ?_ ?_)
   | (with_reducible refine LeO.bind ?_ (fun _ => ?_))
   | exact ih0 _ _ _ _
   | exact ih1 _ _ _
   | exact ih2 _ _ _ _
   | exact ih3 _ _ _ _ _
   | exact impl_HeldMay.mono _ _ _ _ _ _
   | exact impl_HeldOk.mono _ _ _
   | exact spec_DrawHeldOk.mono _ _
   | exact spec_HeldOk.mono _ _ _
   | exact LeO.none _
   | refine LeO.ite ?_ ?_
   | refine LeO.bind ?_ (fun _ => ?_)
theorem laws_FnHeldOk.mono : ∀ a0 k, LeO (laws_FnHeldOk.f k a0) (laws_FnHeldOk.f (k + 1) a0) := by
 intro a0 k
 obtain ⟨ih0, ih1, ih2, ih3⟩ := laws_FnHeldOk.mono_l k
 unfold laws_FnHeldOk.f
 repeat' first
   | (with_reducible exact ih0 _ _ _ _)
   | (with_reducible exact ih1 _ _ _)
   | (with_reducible exact ih2 _ _ _ _)
   | (with_reducible exact ih3 _ _ _ _ _)
   | (with_reducible exact impl_HeldMay.mono _ _ _ _ _ _)
   | (with_reducible exact impl_HeldOk.mono _ _ _)
   | (with_reducible exact spec_DrawHeldOk.mono _ _)
   | (with_reducible exact spec_HeldOk.mono _ _ _)
   | (with_reducible exact LeO.refl _)
   | (with_reducible exact LeO.none _)
   | (with_reducible refine LeO.ite ?_ ?_)
   | (with_reducible refine LeO.bind ?_ (fun _ => ?_))
   | exact ih0 _ _ _ _
   | exact ih1 _ _ _
   | exact ih2 _ _ _ _
   | exact ih3 _ _ _ _ _
   | exact impl_HeldMay.mono _ _ _ _ _ _
   | exact impl_HeldOk.mono _ _ _
   | exact spec_DrawHeldOk.mono _ _
   | exact spec_HeldOk.mono _ _ _
   | exact LeO.none _
   | refine LeO.ite ?_ ?_
   | refine LeO.bind ?_ (fun _ => ?_)
set_option maxHeartbeats 8000000 in
set_option maxRecDepth 100000 in
theorem laws_FnHeldOk.calls (k : Nat) (A0 : Option Addr) (c0 : Nat) (l0 : List Int) (r : Bool) (w : World) (hr0 : Kd.C (Kd.int .u8) w A0 l0.length l0) (hc0 : l0.length ≤ c0) (h : laws_FnHeldOk.f k l0 = some r) :
  Calls Try.prog 6 #[.slice A0 l0.length c0] w fun e w' => e = .returned (.bool r) ∧ Below w.heap.size w w' := by
 have hu29 := Try.underlying29; have HR0 := Aside0.mk hr0; have HC0 := Aside0.mk hc0; clear hr0 hc0; have HB := Aside0.mk (Below.refl w.heap.size w); have H : (if (l0.length : Int) > 1048576 then (some true) else ((spec_DrawHeldOk.f k l0).bind fun bt101 => ((impl_HeldOk.f k bt101.1 bt101.2).bind fun t108 => ((spec_HeldOk.f k bt101.1 bt101.2).bind fun t109 => (if ((t108 == t109) = true) then (laws_FnHeldOk.j0 k true (!t108) bt101.1 bt101.2) else (laws_FnHeldOk.j0 k false true bt101.1 bt101.2)))))) = some r := h; clear h
 by_cases c2 : (l0.length : Int) > 1048576
 ·
  rw [if_pos c2] at H; have c2b0 : decide (1048576 < (l0.length : Int)) = true := decide_eq_true c2; have c2b1 : decide (1048576 < l0.length) = true := decide_eq_true (by omega); clear c2; obtain rfl := Option.some.inj H
  go_enter Try.func6, Try.ntmps6
  go_wp2
  go_ret
  exact ⟨ze, bz HB.out⟩
 ·
  rw [if_neg c2] at H; have c2b0 : decide (1048576 < (l0.length : Int)) = false := decide_eq_false c2; have c2b1 : decide (1048576 < l0.length) = false := decide_eq_false (by omega); clear c2; replace H := Option.bind_eq_some_iff.mp H; obtain ⟨⟨t101, t104⟩, A30, H⟩ := H; replace H : ((impl_HeldOk.f k t101 t104).bind fun t108 => ((spec_HeldOk.f k t101 t104).bind fun t109 => (if ((t108 == t109) = true) then (laws_FnHeldOk.j0 k true (!t108) t101 t104) else (laws_FnHeldOk.j0 k false true t101 t104)))) = some r := H; have A3 := Aside0.mk A30; clear A30; replace H := Option.bind_eq_some_iff.mp H; obtain ⟨t108, A40, H⟩ := H; have A4 := Aside0.mk A40; clear A40; replace H := Option.bind_eq_some_iff.mp H; obtain ⟨t109, A50, H⟩ := H; have A5 := Aside0.mk A50; clear A50; have HC6 := Aside0.mk H; clear H
  go_enter Try.func6, Try.ntmps6
  go_upto_region 7 with (first | ((with_reducible refine gate_callee (f := 24) rfl ?_); refine goesL_ (some 14) rfl rfl Try.func24 zk rfl #[.slice A0 l0.length c0] rfl zm ?_; (with_reducible refine (spec_DrawHeldOk.calls k _ _ l0 t101 t104 _ ?side1 ?side2 A3.out).mono ?_); (case side1 => exact cz HR0.out); (case side2 => exact HC0.out); rintro e w7 ⟨v102, v105, rfl, ho0, ho1, hb⟩; refine ⟨_, rfl, ?_⟩; have HO103 := Aside0.mk (Kd.R_lower ho0 (below_size (bz HB.out))); have HO106 := Aside0.mk (Kd.R_lower ho1 (below_size (bz HB.out))); replace HB := Aside0.mk (below_step (bz HB.out) hb); (try clear hb); (try clear ho0); (try clear ho1)) | ((with_reducible refine gate_dst (N := 3) rfl ?_); refine box_event ?hg (N := 3) ?hd (cs := #[.slice none 0 0, .slice none 0 0]) (t := 29) ?hr ?_; (case hd => rfl); (case hg => rfl); (case hr => first | (go_simp; done) | (go_simp; rfl)); intro gb107 hg w8 hbox hb; replace HO103 := Aside0.mk (Kd.R_below (rz HO103.out) hb); replace HO106 := Aside0.mk (Kd.R_below (rz HO106.out) hb); have BK107 := Aside0.mk (hbox); have GW107 := Aside0.mk ((by rw [hg]; exact (below_size (bz HB.out)) : w.heap.size ≤ gb107)); have GE107 := GW107; replace HB := Aside0.mk (below_step (bz HB.out) hb); clear hb hbox hg; obtain ⟨Ao9, co9, eo9⟩ := Kd.R_slice HO103.out; subst eo9; have hcz10_0 : w8.cell? ⟨gb107, 0, none⟩ = some (.slice none 0 0) := (blk_cell BK107.out 0).trans rfl; have hcz10_1 : w8.cell? ⟨gb107, 1, none⟩ = some (.slice none 0 0) := (blk_cell BK107.out 1).trans rfl; have hfz10_0 := blk_frozen BK107.out 0; have hfz10_1 := blk_frozen BK107.out 1; obtain ⟨Ao11, co11, eo11⟩ := Kd.R_slice HO106.out; subst eo11) | ((with_reducible refine gate_callee (f := 13) rfl ?_); refine goesL_ (some 16) rfl rfl Try.func13 zk rfl #[.agg #[.slice Ao9 t101.length co9, .slice Ao11 t104.length co11]] rfl zm ?_; (with_reducible refine (impl_HeldOk.calls k _ _ t101 _ _ t104 t108 _ ?side1 ?side2 ?side3 ?side4 A4.out).mono ?_); (case side1 => refine (Kd.R_reads' (e := 40) (base := w.heap.size) (ok := fun k_ => some k_ ≠ (.slice Ao11 t104.length co11 : Value).ownBlock) (n := t101.length) (c := co9) ?_).2.2; exact (rz ((Kd.R_mono (Kd.R_far (p := ⟨gb107, 1, none⟩) (Kd.R_far (p := ⟨gb107, 0, none⟩) (Kd.R_types HO103.out BK107.out (by decide)) (fun _ hk => hk.2) (.slice Ao9 t101.length co9)) (fun _ hk => hk.2) (.slice Ao11 t104.length co11)) (fun _ h_ => h_.1))))); (case side2 => exact (Kd.R_reads' HO103.out).2.1); (case side3 => refine (Kd.R_reads' (e := 40) (base := w.heap.size) (ok := fun k_ => some k_ ≠ (.slice Ao9 t101.length co9 : Value).ownBlock) (n := t104.length) (c := co11) ?_).2.2; exact (rz ((Kd.R_mono (Kd.R_far (p := ⟨gb107, 1, none⟩) (Kd.R_far (p := ⟨gb107, 0, none⟩) (Kd.R_types HO106.out BK107.out (by decide)) (fun _ hk => hk.2) (.slice Ao9 t101.length co9)) (fun _ hk => hk.2) (.slice Ao11 t104.length co11)) (fun _ h_ => h_.1))))); (case side4 => exact (Kd.R_reads' HO106.out).2.1); rintro e w12 ⟨rfl, hb⟩; refine ⟨_, rfl, ?_⟩; replace HO103 := Aside0.mk (Kd.R_below (rz ((Kd.R_mono (Kd.R_far (p := ⟨gb107, 1, none⟩) (Kd.R_far (p := ⟨gb107, 0, none⟩) (Kd.R_types HO103.out BK107.out (by decide)) (fun _ hk => hk.2) (.slice Ao9 t101.length co9)) (fun _ hk => hk.2) (.slice Ao11 t104.length co11)) (fun _ h_ => h_.1)))) hb); replace HO106 := Aside0.mk (Kd.R_below (rz ((Kd.R_mono (Kd.R_far (p := ⟨gb107, 1, none⟩) (Kd.R_far (p := ⟨gb107, 0, none⟩) (Kd.R_types HO106.out BK107.out (by decide)) (fun _ hk => hk.2) (.slice Ao9 t101.length co9)) (fun _ hk => hk.2) (.slice Ao11 t104.length co11)) (fun _ h_ => h_.1)))) hb); replace BK107 := Aside0.mk (blk_below (g := gb107) (o := .cells #[.slice Ao9 t101.length co9, .slice Ao11 t104.length co11] 29 (0, 0)) (by (with_reducible repeat (first | refine blk_drewN ?_ _ | refine blk_drew ?_ | refine blk_alloc ?_ _)); refine blk_put (cs := #[.slice Ao9 t101.length co9, .slice none 0 0]) ?_ 1 _ rfl; (with_reducible repeat (first | refine blk_drewN ?_ _ | refine blk_drew ?_ | refine blk_alloc ?_ _)); refine blk_put (cs := #[.slice none 0 0, .slice none 0 0]) ?_ 0 _ rfl; (with_reducible repeat (first | refine blk_drewN ?_ _ | refine blk_drew ?_ | refine blk_alloc ?_ _)); exact BK107.out) hb); replace HB := Aside0.mk (below_step (bs HB.out GE107.out) hb); (try clear hb); have hcz13_0 : w12.cell? ⟨gb107, 0, none⟩ = some (.slice Ao9 t101.length co9) := (blk_cell BK107.out 0).trans rfl; have hcz13_1 : w12.cell? ⟨gb107, 1, none⟩ = some (.slice Ao11 t104.length co11) := (blk_cell BK107.out 1).trans rfl; have hfz13_0 := blk_frozen BK107.out 0; have hfz13_1 := blk_frozen BK107.out 1) | ((with_reducible refine gate_callee (f := 11) rfl ?_); refine goesL_ (some 18) rfl rfl Try.func11 zk rfl #[.agg #[.slice Ao9 t101.length co9, .slice Ao11 t104.length co11]] rfl zm ?_; (with_reducible refine (spec_HeldOk.calls k _ _ t101 _ _ t104 t109 _ ?side1 ?side2 ?side3 ?side4 A5.out).mono ?_); (case side1 => exact cz ((Kd.R_reads' HO103.out).2.2)); (case side2 => exact (Kd.R_reads' HO103.out).2.1); (case side3 => exact cz ((Kd.R_reads' HO106.out).2.2)); (case side4 => exact (Kd.R_reads' HO106.out).2.1); rintro e w14 ⟨rfl, hb⟩; refine ⟨_, rfl, ?_⟩; replace HO103 := Aside0.mk (Kd.R_below (rz HO103.out) hb); replace HO106 := Aside0.mk (Kd.R_below (rz HO106.out) hb); replace BK107 := Aside0.mk (blk_below (kz BK107.out) hb); replace HB := Aside0.mk (below_step (bs HB.out GE107.out) hb); (try clear hb)))
  (try simp only [Act.put, List.setIfInBounds_toArray, List.set_cons_zero, List.set_cons_succ])
  go_cut [6, 27] (fun v6 v27 wc => ∃ (kq : Nat) (x6_5 : Bool) (x27_5 : Bool), v6 = .bool x6_5 ∧ v27 = .bool x27_5 ∧ Aside0 (laws_FnHeldOk.j0 kq x6_5 x27_5 t101 t104 = some r) ∧ Aside0 (kq ≤ k) ∧ Aside0 (Kd.R k40 40 wc w.heap.size (fun k_ => some k_ ≠ ((.slice Ao11 t104.length co11) : Value).ownBlock) (.slice Ao9 t101.length co9) t101) ∧ Aside0 (Kd.R k40 40 wc w.heap.size (fun k_ => some k_ ≠ ((.slice Ao9 t101.length co9) : Value).ownBlock) (.slice Ao11 t104.length co11) t104) ∧ Aside0 (wc.heap[gb107]? = some (.cells #[(.slice Ao9 t101.length co9), (.slice Ao11 t104.length co11)] 29 (0, 0))) ∧ Aside0 (Below w.heap.size w wc))
  case first =>
   have H := HC6.out; clear HC6
   by_cases c15 : ((t108 == t109) = true)
   ·
    rw [if_pos c15] at H; have c15b0 : (t108 == t109) = true := c15; (try (have c15b1 : decide (t108 = t109) = true := by simpa using c15)); (try (have c15b2 : (t108 == t109) = true := by simpa using c15)); clear c15
    (first | rw [c15b0] | (simp only [i64_w, i32_w]; rw [c15b0]) | skip)
    have H' := Aside0.mk H; clear H
    go_wp2
    go_meet
    case rel => exact ⟨_, (true), (!t108), zr, zr, H', ⟨by first | omega | exact Nat.le_refl _⟩, ⟨rz (HO103.out)⟩, ⟨rz (HO106.out)⟩, ⟨kz (BK107.out)⟩, ⟨bs HB.out GE107.out⟩⟩
   ·
    rw [if_neg c15] at H
    have c15b0 : (t108 == t109) = false := by simpa using c15
    (try (have c15b1 : decide (t108 = t109) = false := by simpa using c15)); (try (have c15b2 : (t108 == t109) = false := by simpa using c15)); (try (have c15b3 : ¬ (t108 = t109) := by simpa using c15)); clear c15
    (first | rw [c15b0] | (simp only [i64_w, i32_w]; rw [c15b0]) | skip)
    have H' := Aside0.mk H; clear H
    go_wp2
    go_meet
    case rel => exact ⟨_, (false), (true), zr, zr, H', ⟨by first | omega | exact Nat.le_refl _⟩, ⟨rz (HO103.out)⟩, ⟨rz (HO106.out)⟩, ⟨kz (BK107.out)⟩, ⟨bs HB.out GE107.out⟩⟩
  case rest =>
   clear HC6
   try clear c1
   try clear c2
   try clear c2b0
   try clear c2b1
   try clear p2
   try clear c6
   try clear c11
   try clear c13
   try clear c15
   try clear c15b0
   try clear c15b1
   try clear c15b2
   try clear hcz10_0
   try clear hcz10_1
   try clear hcz13_0
   try clear hcz13_1
   try clear hfz10_0
   try clear hfz10_1
   try clear hfz13_0
   try clear hfz13_1
   obtain ⟨kq, x6_5, x27_5, rfl, rfl, HA, HJ5, HO_108000, HO_108001, BK107, HB⟩ := hcut
   cases kq with
   | zero => exact absurd HA.out (by simp [laws_FnHeldOk.j0])
   | succ kj5 =>
    have H := HA.out; clear HA; simp only [laws_FnHeldOk.j0] at H
    by_cases c16 : x27_5 = true
    ·
     subst c16; rw [if_pos rfl] at H; obtain rfl := Option.some.inj H
     go_wp2
     go_ret
     exact ⟨ze, bs HB.out GE107.out⟩
    ·
     replace c16 := Bool.eq_false_iff.mpr c16; subst c16; rw [if_neg nf_] at H; have H' := Aside0.mk H; clear H
     go_wp2
     go_loopg [7] kj5 (fun kq v7 w' => ∃ (x7_2 : Int), v7 = .int .i64 x7_2 ∧ Aside0 (laws_FnHeldOk.l0 kq x7_2 t101 t104 = some r) ∧ Aside0 (kq ≤ kj5) ∧ Aside0 (Kd.R k40 40 w' w.heap.size (fun k_ => some k_ ≠ ((.slice Ao11 t104.length co11) : Value).ownBlock) (.slice Ao9 t101.length co9) t101) ∧ Aside0 (Kd.R k40 40 w' w.heap.size (fun k_ => some k_ ≠ ((.slice Ao9 t101.length co9) : Value).ownBlock) (.slice Ao11 t104.length co11) t104) ∧ Aside0 (w'.heap[gb107]? = some (.cells #[(.slice Ao9 t101.length co9), (.slice Ao11 t104.length co11)] 29 (0, 0))) ∧ Aside0 (Below w.heap.size w w'))
     case atStart => exact ⟨(0), zr, H', ⟨Nat.le_refl _⟩, ⟨rz (HO_108000.out)⟩, ⟨rz (HO_108001.out)⟩, ⟨kz (BK107.out)⟩, ⟨bs HB.out GE107.out⟩⟩
     case round =>
      clear H'
      try clear c1
      try clear c2
      try clear c2b0
      try clear c2b1
      try clear p2
      try clear c6
      try clear c11
      try clear c13
      try clear c15
      try clear c15b0
      try clear c15b1
      try clear c15b2
      try clear c16
      try clear hcz10_0
      try clear hcz10_1
      try clear hcz13_0
      try clear hcz13_1
      try clear hfz10_0
      try clear hfz10_1
      try clear hfz13_0
      try clear hfz13_1
      try clear p2
      obtain ⟨x7_2, rfl, HA, HK2, HO_108000, HO_108001, BK107, HB⟩ := hrel
      cases gk with
      | zero => exact absurd HA.out (by simp [laws_FnHeldOk.l0])
      | succ k2 =>
       have H := HA.out; clear HA; simp only [laws_FnHeldOk.l0] at H
       by_cases c17 : x7_2 < 16
       ·
        rw [if_pos c17] at H; have c17b0 : decide (x7_2 < 16) = true := decide_eq_true c17; clear c17; have H' := Aside0.mk H; clear H
        go_wp2
        go_loopg [8] k2 (fun kq v8 w' => ∃ (x8_3 : Int), v8 = .int .i64 x8_3 ∧ Aside0 (laws_FnHeldOk.l1 kq x7_2 x8_3 t101 t104 = some r) ∧ Aside0 (kq ≤ k2) ∧ Aside0 (Kd.R k40 40 w' w.heap.size (fun k_ => some k_ ≠ ((.slice Ao11 t104.length co11) : Value).ownBlock) (.slice Ao9 t101.length co9) t101) ∧ Aside0 (Kd.R k40 40 w' w.heap.size (fun k_ => some k_ ≠ ((.slice Ao9 t101.length co9) : Value).ownBlock) (.slice Ao11 t104.length co11) t104) ∧ Aside0 (w'.heap[gb107]? = some (.cells #[(.slice Ao9 t101.length co9), (.slice Ao11 t104.length co11)] 29 (0, 0))) ∧ Aside0 (Below w.heap.size w w'))
        case atStart => exact ⟨(0), zr, H', ⟨Nat.le_refl _⟩, ⟨rz (HO_108000.out)⟩, ⟨rz (HO_108001.out)⟩, ⟨kz (BK107.out)⟩, ⟨bs HB.out GE107.out⟩⟩
        case round =>
         clear H'
         try clear c1
         try clear c2
         try clear c2b0
         try clear c2b1
         try clear p2
         try clear c6
         try clear c11
         try clear c13
         try clear c15
         try clear c15b0
         try clear c15b1
         try clear c15b2
         try clear c16
         try clear c17
         try clear c17b0
         try clear hcz10_0
         try clear hcz10_1
         try clear hcz13_0
         try clear hcz13_1
         try clear hfz10_0
         try clear hfz10_1
         try clear hfz13_0
         try clear hfz13_1
         try clear p2
         obtain ⟨x8_3, rfl, HA, HK3, HO_108000, HO_108001, BK107, HB⟩ := hrel
         cases gk with
         | zero => exact absurd HA.out (by simp [laws_FnHeldOk.l1])
         | succ k3 =>
          have H := HA.out; clear HA; simp only [laws_FnHeldOk.l1] at H
          by_cases c18 : x8_3 < 4
          ·
           rw [if_pos c18] at H; have c18b0 : decide (x8_3 < 4) = true := decide_eq_true c18; clear c18; have H' := Aside0.mk H; clear H
           go_wp2
           go_loopg [9] k3 (fun kq v9 w' => ∃ (x9_4 : Int), v9 = .int .i64 x9_4 ∧ Aside0 (laws_FnHeldOk.l2 kq x7_2 x8_3 x9_4 t101 t104 = some r) ∧ Aside0 (kq ≤ k3) ∧ Aside0 (Kd.R k40 40 w' w.heap.size (fun k_ => some k_ ≠ ((.slice Ao11 t104.length co11) : Value).ownBlock) (.slice Ao9 t101.length co9) t101) ∧ Aside0 (Kd.R k40 40 w' w.heap.size (fun k_ => some k_ ≠ ((.slice Ao9 t101.length co9) : Value).ownBlock) (.slice Ao11 t104.length co11) t104) ∧ Aside0 (w'.heap[gb107]? = some (.cells #[(.slice Ao9 t101.length co9), (.slice Ao11 t104.length co11)] 29 (0, 0))) ∧ Aside0 (Below w.heap.size w w'))
           case atStart => exact ⟨(0), zr, H', ⟨Nat.le_refl _⟩, ⟨rz (HO_108000.out)⟩, ⟨rz (HO_108001.out)⟩, ⟨kz (BK107.out)⟩, ⟨bs HB.out GE107.out⟩⟩
           case round =>
            clear H'
            try clear c1
            try clear c2
            try clear c2b0
            try clear c2b1
            try clear p2
            try clear c6
            try clear c11
            try clear c13
            try clear c15
            try clear c15b0
            try clear c15b1
            try clear c15b2
            try clear c16
            try clear c17
            try clear c17b0
            try clear c18
            try clear c18b0
            try clear hcz10_0
            try clear hcz10_1
            try clear hcz13_0
            try clear hcz13_1
            try clear hfz10_0
            try clear hfz10_1
            try clear hfz13_0
            try clear hfz13_1
            try clear p2
            obtain ⟨x9_4, rfl, HA, HK4, HO_108000, HO_108001, BK107, HB⟩ := hrel
            cases gk with
            | zero => exact absurd HA.out (by simp [laws_FnHeldOk.l2])
            | succ k4 =>
             have H := HA.out; clear HA; simp only [laws_FnHeldOk.l2] at H
             by_cases c19 : x9_4 < 4
             ·
              rw [if_pos c19] at H; have c19b0 : decide (x9_4 < 4) = true := decide_eq_true c19; clear c19
              by_cases c20 : x8_3 = x9_4
              ·
               rw [if_pos c20] at H; have c20b0 : (x8_3 == x9_4) = true := beq_iff_eq.mpr c20; have c20b1 : (x8_3 != x9_4) = false := bne_eq_false_iff_eq.mpr c20; clear c20; have H' := Aside0.mk H; clear H
               go_wp2
               go_roundg k4
               case measure => have := HJ5.out; have := HK2.out; have := HK3.out; have := HK4.out; omega
               case rel => exact ⟨(wrap64 (x9_4 + 1)), zr, H', ⟨by have := HJ5.out; have := HK2.out; have := HK3.out; have := HK4.out; omega⟩, ⟨rz (HO_108000.out)⟩, ⟨rz (HO_108001.out)⟩, ⟨kz (BK107.out)⟩, ⟨bs HB.out GE107.out⟩⟩
              ·
               rw [if_neg c20] at H; have c20b0 : (x8_3 == x9_4) = false := beq_eq_false_iff_ne.mpr c20; have c20b1 : (x8_3 != x9_4) = true := bne_iff_ne.mpr c20; replace H := Option.bind_eq_some_iff.mp H; obtain ⟨t110, A210, H⟩ := H; have A21 := Aside0.mk A210; clear A210
               by_cases c22 : t110 = true
               ·
                subst c22; rw [if_pos rfl] at H; replace H := Option.bind_eq_some_iff.mp H; obtain ⟨t111, A230, H⟩ := H; have A23 := Aside0.mk A230; clear A230
                by_cases c24 : t111 = true
                ·
                 subst c24; rw [if_pos rfl] at H; obtain rfl := Option.some.inj H; have hcz25_0 : wr.cell? ⟨gb107, 0, none⟩ = some (.slice Ao9 t101.length co9) := (blk_cell BK107.out 0).trans rfl; have hcz25_1 : wr.cell? ⟨gb107, 1, none⟩ = some (.slice Ao11 t104.length co11) := (blk_cell BK107.out 1).trans rfl; have hfz25_0 := blk_frozen BK107.out 0; have hfz25_1 := blk_frozen BK107.out 1
                 go_wp2_with (first | (go_at_call 16; (with_reducible refine (impl_HeldMay.calls k4 _ _ t101 _ _ t104 x8_3 x7_2 true true _ ?side1 ?side2 ?side3 ?side4 A21.out).mono ?_); (case side1 => exact cz ((Kd.R_reads' HO_108000.out).2.2)); (case side2 => exact (Kd.R_reads' HO_108000.out).2.1); (case side3 => exact cz ((Kd.R_reads' HO_108001.out).2.2)); (case side4 => exact (Kd.R_reads' HO_108001.out).2.1); rintro e w26 ⟨rfl, hb⟩; replace HO_108000 := Aside0.mk (Kd.R_below (rz HO_108000.out) hb); replace HO_108001 := Aside0.mk (Kd.R_below (rz HO_108001.out) hb); replace BK107 := Aside0.mk (blk_below (kz BK107.out) hb); replace HB := Aside0.mk (below_step (bs HB.out GE107.out) hb); (try clear hb); have hcz27_0 : w26.cell? ⟨gb107, 0, none⟩ = some (.slice Ao9 t101.length co9) := (blk_cell BK107.out 0).trans rfl; have hcz27_1 : w26.cell? ⟨gb107, 1, none⟩ = some (.slice Ao11 t104.length co11) := (blk_cell BK107.out 1).trans rfl; have hfz27_0 := blk_frozen BK107.out 0; have hfz27_1 := blk_frozen BK107.out 1) | (go_at_call 16; (with_reducible refine (impl_HeldMay.calls k4 _ _ t101 _ _ t104 x9_4 x7_2 false true _ ?side1 ?side2 ?side3 ?side4 A23.out).mono ?_); (case side1 => exact cz ((Kd.R_reads' HO_108000.out).2.2)); (case side2 => exact (Kd.R_reads' HO_108000.out).2.1); (case side3 => exact cz ((Kd.R_reads' HO_108001.out).2.2)); (case side4 => exact (Kd.R_reads' HO_108001.out).2.1); rintro e w28 ⟨rfl, hb⟩; replace HO_108000 := Aside0.mk (Kd.R_below (rz HO_108000.out) hb); replace HO_108001 := Aside0.mk (Kd.R_below (rz HO_108001.out) hb); replace BK107 := Aside0.mk (blk_below (kz BK107.out) hb); replace HB := Aside0.mk (below_step (bs HB.out GE107.out) hb); (try clear hb)))
                 go_ret
                 exact ⟨ze, bs HB.out GE107.out⟩
                ·
                 replace c24 := Bool.eq_false_iff.mpr c24; subst c24; rw [if_neg nf_] at H; have H' := Aside0.mk H; clear H; have hcz29_0 : wr.cell? ⟨gb107, 0, none⟩ = some (.slice Ao9 t101.length co9) := (blk_cell BK107.out 0).trans rfl; have hcz29_1 : wr.cell? ⟨gb107, 1, none⟩ = some (.slice Ao11 t104.length co11) := (blk_cell BK107.out 1).trans rfl; have hfz29_0 := blk_frozen BK107.out 0; have hfz29_1 := blk_frozen BK107.out 1
                 go_wp2_with (first | (go_at_call 16; (with_reducible refine (impl_HeldMay.calls k4 _ _ t101 _ _ t104 x8_3 x7_2 true true _ ?side1 ?side2 ?side3 ?side4 A21.out).mono ?_); (case side1 => exact cz ((Kd.R_reads' HO_108000.out).2.2)); (case side2 => exact (Kd.R_reads' HO_108000.out).2.1); (case side3 => exact cz ((Kd.R_reads' HO_108001.out).2.2)); (case side4 => exact (Kd.R_reads' HO_108001.out).2.1); rintro e w30 ⟨rfl, hb⟩; replace HO_108000 := Aside0.mk (Kd.R_below (rz HO_108000.out) hb); replace HO_108001 := Aside0.mk (Kd.R_below (rz HO_108001.out) hb); replace BK107 := Aside0.mk (blk_below (kz BK107.out) hb); replace HB := Aside0.mk (below_step (bs HB.out GE107.out) hb); (try clear hb); have hcz31_0 : w30.cell? ⟨gb107, 0, none⟩ = some (.slice Ao9 t101.length co9) := (blk_cell BK107.out 0).trans rfl; have hcz31_1 : w30.cell? ⟨gb107, 1, none⟩ = some (.slice Ao11 t104.length co11) := (blk_cell BK107.out 1).trans rfl; have hfz31_0 := blk_frozen BK107.out 0; have hfz31_1 := blk_frozen BK107.out 1) | (go_at_call 16; (with_reducible refine (impl_HeldMay.calls k4 _ _ t101 _ _ t104 x9_4 x7_2 false false _ ?side1 ?side2 ?side3 ?side4 A23.out).mono ?_); (case side1 => exact cz ((Kd.R_reads' HO_108000.out).2.2)); (case side2 => exact (Kd.R_reads' HO_108000.out).2.1); (case side3 => exact cz ((Kd.R_reads' HO_108001.out).2.2)); (case side4 => exact (Kd.R_reads' HO_108001.out).2.1); rintro e w32 ⟨rfl, hb⟩; replace HO_108000 := Aside0.mk (Kd.R_below (rz HO_108000.out) hb); replace HO_108001 := Aside0.mk (Kd.R_below (rz HO_108001.out) hb); replace BK107 := Aside0.mk (blk_below (kz BK107.out) hb); replace HB := Aside0.mk (below_step (bs HB.out GE107.out) hb); (try clear hb)))
                 go_roundg k4
                 case measure => have := HJ5.out; have := HK2.out; have := HK3.out; have := HK4.out; omega
                 case rel => exact ⟨(wrap64 (x9_4 + 1)), zr, H', ⟨by have := HJ5.out; have := HK2.out; have := HK3.out; have := HK4.out; omega⟩, ⟨rz (HO_108000.out)⟩, ⟨rz (HO_108001.out)⟩, ⟨kz (BK107.out)⟩, ⟨bs HB.out GE107.out⟩⟩
               ·
                replace c22 := Bool.eq_false_iff.mpr c22; subst c22; rw [if_neg nf_] at H; have H' := Aside0.mk H; clear H; have hcz33_0 : wr.cell? ⟨gb107, 0, none⟩ = some (.slice Ao9 t101.length co9) := (blk_cell BK107.out 0).trans rfl; have hcz33_1 : wr.cell? ⟨gb107, 1, none⟩ = some (.slice Ao11 t104.length co11) := (blk_cell BK107.out 1).trans rfl; have hfz33_0 := blk_frozen BK107.out 0; have hfz33_1 := blk_frozen BK107.out 1
                go_wp2_with (first | (go_at_call 16; (with_reducible refine (impl_HeldMay.calls k4 _ _ t101 _ _ t104 x8_3 x7_2 true false _ ?side1 ?side2 ?side3 ?side4 A21.out).mono ?_); (case side1 => exact cz ((Kd.R_reads' HO_108000.out).2.2)); (case side2 => exact (Kd.R_reads' HO_108000.out).2.1); (case side3 => exact cz ((Kd.R_reads' HO_108001.out).2.2)); (case side4 => exact (Kd.R_reads' HO_108001.out).2.1); rintro e w34 ⟨rfl, hb⟩; replace HO_108000 := Aside0.mk (Kd.R_below (rz HO_108000.out) hb); replace HO_108001 := Aside0.mk (Kd.R_below (rz HO_108001.out) hb); replace BK107 := Aside0.mk (blk_below (kz BK107.out) hb); replace HB := Aside0.mk (below_step (bs HB.out GE107.out) hb); (try clear hb)))
                go_roundg k4
                case measure => have := HJ5.out; have := HK2.out; have := HK3.out; have := HK4.out; omega
                case rel => exact ⟨(wrap64 (x9_4 + 1)), zr, H', ⟨by have := HJ5.out; have := HK2.out; have := HK3.out; have := HK4.out; omega⟩, ⟨rz (HO_108000.out)⟩, ⟨rz (HO_108001.out)⟩, ⟨kz (BK107.out)⟩, ⟨bs HB.out GE107.out⟩⟩
             ·
              rw [if_neg c19] at H; have c19b0 : decide (x9_4 < 4) = false := decide_eq_false c19; clear c19; have H' := Aside0.mk H; clear H
              go_wp2
              go_roundg k4
              case measure => have := HJ5.out; have := HK2.out; have := HK3.out; have := HK4.out; omega
              case rel => exact ⟨(wrap64 (x8_3 + 1)), zr, H', ⟨by have := HJ5.out; have := HK2.out; have := HK3.out; have := HK4.out; omega⟩, ⟨rz (HO_108000.out)⟩, ⟨rz (HO_108001.out)⟩, ⟨kz (BK107.out)⟩, ⟨bs HB.out GE107.out⟩⟩
          ·
           rw [if_neg c18] at H; have c18b0 : decide (x8_3 < 4) = false := decide_eq_false c18; clear c18; have H' := Aside0.mk H; clear H
           go_wp2
           go_roundg k3
           case measure => have := HJ5.out; have := HK2.out; have := HK3.out; omega
           case rel => exact ⟨(wrap64 (x7_2 + 1)), zr, H', ⟨by have := HJ5.out; have := HK2.out; have := HK3.out; omega⟩, ⟨rz (HO_108000.out)⟩, ⟨rz (HO_108001.out)⟩, ⟨kz (BK107.out)⟩, ⟨bs HB.out GE107.out⟩⟩
       ·
        rw [if_neg c17] at H; have c17b0 : decide (x7_2 < 16) = false := decide_eq_false c17; clear c17; obtain rfl := Option.some.inj H
        go_wp2
        go_ret
        exact ⟨ze, bs HB.out GE107.out⟩

/-- THE ONE PURE STATEMENT of laws_FnHeldOk: yours. -/
def laws_FnHeldOk.Pure : Prop := ∀ (l0 : List Int), l0.length ≤ maxLen → l0.length * 1 ≤ 140737488351232 → (∀ x ∈ l0, (Lit.int .u8 x).wf = true) → ∃ k, laws_FnHeldOk.f k l0 = some true
theorem laws_FnHeldOk.walk (P : laws_FnHeldOk.Pure) (a0 : Option Addr) (len0 cap0 : Nat) (z0 : List Int) (w : World) (w0 : (a0 = none ∧ len0 = 0 ∧ cap0 = 0 ∧ z0 = []) ∨ ∃ x, a0 = some x ∧ len0 ≤ cap0 ∧ cap0 ≤ maxLen ∧ z0.length = cap0 ∧ (∀ i, i < z0.length → w.cell? (x.add i) = some (.int .u8 (z0.getD i 0))) ∧ ∀ n ∈ z0, (Lit.int .u8 n).wf = true) (y0 : len0 * 1 ≤ 140737488351232) :
  Calls Try.prog 6 #[.slice a0 len0 cap0] w fun e w' => e = .returned (.bool true) ∧ Below w.heap.size w w' := by
 obtain ⟨l0, rfl, hr0, hm0, hw0, hc0⟩ := ReadsInt.ofRowC w0
 obtain ⟨k, h⟩ := P l0 hm0 y0 hw0
 refine (laws_FnHeldOk.calls k _ _ l0 true w (Kd.C_of_reads (d := (0 : Int)) (h1 := fun _ => rfl) hr0) hc0 h).mono ?_
 rintro e w' ⟨rfl, hd⟩
 exact ⟨rfl, hd⟩

end Go.Proofs.Ytgjlbghjjjlhmaa.P
