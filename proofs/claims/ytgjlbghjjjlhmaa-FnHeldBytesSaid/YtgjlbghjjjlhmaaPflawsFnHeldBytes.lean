-- printed by wip/qd.py
import Derived.Test.YtgjlbghjjjlhmaaPf0
import Derived.Test.YtgjlbghjjjlhmaaPfimplHeldMay
import Derived.Test.YtgjlbghjjjlhmaaPfspecHeldBytes
import Derived.Test.YtgjlbghjjjlhmaaPfimplHeldBytes
import Derived.Test.YtgjlbghjjjlhmaaPfspecDrawHeldBytes
import Derived.Test.YtgjlbghjjjlhmaaPflawsqdLists
namespace Go.Proofs.Ytgjlbghjjjlhmaa.P
open Go.RowKit Go.Proofs.YtgjlbghjjjlhmaaW.PrintWords Go.Proofs.YtgjlbghjjjlhmaaW.PrintLast Go.Proofs.YtgjlbghjjjlhmaaW.PrintMore
attribute [local go_sem] max2_int min2_int max_two min_two max_three min_three max_four min_four Q.cell_set_map
set_option linter.unusedVariables false
set_option linter.unusedSimpArgs false

/-! ### laws_FnHeldBytes: function 9 -/
mutual
def laws_FnHeldBytes.j0 : Nat → List (List Int) → Bool → Bool → List (S40) → List (S40) → Option (Bool)
 | 0, _, _, _, _, _ => none
 | k + 1, x4, x5, x8, x108000, x108001 => if x8 = true then (laws_FnHeldBytes.j1 k x4 true (!x5) x108000 x108001) else (laws_FnHeldBytes.j1 k x4 false true x108000 x108001)
def laws_FnHeldBytes.j1 : Nat → List (List Int) → Bool → Bool → List (S40) → List (S40) → Option (Bool)
 | 0, _, _, _, _, _ => none
 | k + 1, x4, x8, x40, x108000, x108001 => if x40 = true then (some x8) else (laws_FnHeldBytes.l0 k x4 0 x108000 x108001)
def laws_FnHeldBytes.l0 : Nat → List (List Int) → Int → List (S40) → List (S40) → Option (Bool)
 | 0, _, _, _, _ => none
 | k + 1, x4, x9, x108000, x108001 => if x9 < 16 then (laws_FnHeldBytes.l1 k x4 x9 0 0 x108000 x108001) else (some ((x4.length : Int) == 16))
def laws_FnHeldBytes.l1 : Nat → List (List Int) → Int → Int → Int → List (S40) → List (S40) → Option (Bool)
 | 0, _, _, _, _, _, _ => none
 | k + 1, x4, x9, x10, x11, x108000, x108001 => if x11 < 4 then ((impl_HeldMay.f k x108000 x108001 x11 x9 false).bind fun t118 => (if t118 = true then (if 0 ≤ x9 then (if x9 < (x4.length : Int) then (if x10 ≥ ((rd_L11 x4 x9).length : Int) then (some false) else (if 0 ≤ x10 then (if x10 < ((rd_L11 x4 x9).length : Int) then (if (rd (rd_L11 x4 x9) x10) = x11 then (laws_FnHeldBytes.l1 k x4 x9 (wrap64 (x10 + 1)) (wrap64 (x11 + 1)) x108000 x108001) else (some false)) else (none)) else (none))) else (none)) else (none)) else (laws_FnHeldBytes.l1 k x4 x9 x10 (wrap64 (x11 + 1)) x108000 x108001))) else (if 0 ≤ x9 then (if x9 < (x4.length : Int) then (if x10 = ((rd_L11 x4 x9).length : Int) then (laws_FnHeldBytes.l0 k x4 (wrap64 (x9 + 1)) x108000 x108001) else (some false)) else (none)) else (none))
end
def laws_FnHeldBytes.f (k : Nat) (l0 : List Int) : Option (Bool) := if (l0.length : Int) > 1048576 then (some true) else ((spec_DrawHeldBytes.f k l0).bind fun bt101 => ((impl_HeldBytes.f k bt101.1 bt101.2).bind fun bt108 => ((spec_HeldBytes.f k bt101.1 bt101.2).bind fun bt112 => ((laws_qdLists.f k bt108.1 bt112.1).bind fun t116 => (if t116 = true then (laws_FnHeldBytes.j0 k bt108.1 bt108.2 (bt108.2 == bt112.2) bt101.1 bt101.2) else (laws_FnHeldBytes.j0 k bt108.1 bt108.2 false bt101.1 bt101.2))))))
theorem laws_FnHeldBytes.mono_l : ∀ k, (∀ y0 y1 y2 y3 y4, LeO (laws_FnHeldBytes.j0 k y0 y1 y2 y3 y4) (laws_FnHeldBytes.j0 (k + 1) y0 y1 y2 y3 y4)) ∧ (∀ y0 y1 y2 y3 y4, LeO (laws_FnHeldBytes.j1 k y0 y1 y2 y3 y4) (laws_FnHeldBytes.j1 (k + 1) y0 y1 y2 y3 y4)) ∧ (∀ y0 y1 y2 y3, LeO (laws_FnHeldBytes.l0 k y0 y1 y2 y3) (laws_FnHeldBytes.l0 (k + 1) y0 y1 y2 y3)) ∧ (∀ y0 y1 y2 y3 y4 y5, LeO (laws_FnHeldBytes.l1 k y0 y1 y2 y3 y4 y5) (laws_FnHeldBytes.l1 (k + 1) y0 y1 y2 y3 y4 y5))
 | 0 => ⟨fun _ _ _ _ _ r h => by simp [laws_FnHeldBytes.j0] at h, fun _ _ _ _ _ r h => by simp [laws_FnHeldBytes.j1] at h, fun _ _ _ _ r h => by simp [laws_FnHeldBytes.l0] at h, fun _ _ _ _ _ _ r h => by simp [laws_FnHeldBytes.l1] at h⟩
 | k + 1 => by
  obtain ⟨ih0, ih1, ih2, ih3⟩ := laws_FnHeldBytes.mono_l k
  refine ⟨?_, ?_, ?_, ?_⟩
  ·
   intro y0 y1 y2 y3 y4
   unfold laws_FnHeldBytes.j0
   repeat' first
   | (with_reducible exact ih0 _ _ _ _ _)
   | (with_reducible exact ih1 _ _ _ _ _)
   | (with_reducible exact ih2 _ _ _ _)
   | (with_reducible exact ih3 _ _ _ _ _ _)
   | (with_reducible exact impl_HeldBytes.mono _ _ _)
   | (with_reducible exact impl_HeldMay.mono _ _ _ _ _ _)
   | (with_reducible exact laws_qdLists.mono _ _ _)
   | (with_reducible exact spec_DrawHeldBytes.mono _ _)
   | (with_reducible exact spec_HeldBytes.mono _ _ _)
   | (with_reducible exact LeO.refl _)
   | (with_reducible exact LeO.none _)
   | (with_reducible refine LeO.ite ?_ ?_)
   | (with_reducible refine LeO.bind ?_ (fun _ => ?_))
   | exact ih0 _ _ _ _ _
   | exact ih1 _ _ _ _ _
   | exact ih2 _ _ _ _
   | exact ih3 _ _ _ _ _ _
   | exact impl_HeldBytes.mono _ _ _
   | exact impl_HeldMay.mono _ _ _ _ _ _
   | exact laws_qdLists.mono _ _ _
   | exact spec_DrawHeldBytes.mono _ _
   | exact spec_HeldBytes.mono _ _ _
   | exact LeO.none _
   | refine LeO.ite ?_ ?_
   | refine LeO.bind ?_ (fun _ => ?_)
  ·
   intro y0 y1 y2 y3 y4
   unfold laws_FnHeldBytes.j1
   repeat' first
   | (with_reducible exact ih0 _ _ _ _ _)
   | (with_reducible exact ih1 _ _ _ _ _)
   | (with_reducible exact ih2 _ _ _ _)
   | (with_reducible exact ih3 _ _ _ _ _ _)
   | (with_reducible exact impl_HeldBytes.mono _ _ _)
   | (with_reducible exact impl_HeldMay.mono _ _ _ _ _ _)
   | (with_reducible exact laws_qdLists.mono _ _ _)
   | (with_reducible exact spec_DrawHeldBytes.mono _ _)
   | (with_reducible exact spec_HeldBytes.mono _ _ _)
   | (with_reducible exact LeO.refl _)
   | (with_reducible exact LeO.none _)
   | (with_reducible refine LeO.ite ?_ ?_)
   | (with_reducible refine LeO.bind ?_ (fun _ => ?_))
   | exact ih0 _ _ _ _ _
   | exact ih1 _ _ _ _ _
   | exact ih2 _ _ _ _
   | exact ih3 _ _ _ _ _ _
   | exact impl_HeldBytes.mono _ _ _
   | exact impl_HeldMay.mono _ _ _ _ _ _
   | exact laws_qdLists.mono _ _ _
   | exact spec_DrawHeldBytes.mono _ _
   | exact spec_HeldBytes.mono _ _ _
   | exact LeO.none _
   | refine LeO.ite ?_ ?_
   | refine LeO.bind ?_ (fun _ => ?_)
  ·
   intro y0 y1 y2 y3
   unfold laws_FnHeldBytes.l0
   repeat' first
   | (with_reducible exact ih0 _ _ _ _ _)
   | (with_reducible exact ih1 _ _ _ _ _)
   | (with_reducible exact ih2 _ _ _ _)
   | (with_reducible exact ih3 _ _ _ _ _ _)
   | (with_reducible exact impl_HeldBytes.mono _ _ _)
   | (with_reducible exact impl_HeldMay.mono _ _ _ _ _ _)
   | (with_reducible exact laws_qdLists.mono _ _ _)
   | (with_reducible exact spec_DrawHeldBytes.mono _ _)
   | (with_reducible exact spec_HeldBytes.mono _ _ _)
   | (with_reducible exact LeO.refl _)
   | (with_reducible exact LeO.none _)
   | (with_reducible refine LeO.ite ?_ ?_)
   | (with_reducible refine LeO.bind ?_ (fun _ => ?_))
   | exact ih0 _ _ _ _ _
   | exact ih1 _ _ _ _ _
   | exact ih2 _ _ _ _
   | exact ih3 _ _ _ _ _ _
   | exact impl_HeldBytes.mono _ _ _
   | exact impl_HeldMay.mono _ _ _ _ _ _
   | exact laws_qdLists.mono _ _ _
   | exact spec_DrawHeldBytes.mono _ _
   | exact spec_HeldBytes.mono _ _ _
   | exact LeO.none _
   | refine LeO.ite ?_ ?_
   | refine LeO.bind ?_ (fun _ => ?_)
  ·
   intro y0 y1 y2 y3 y4 y5
   unfold laws_FnHeldBytes.l1
   repeat' first
   | (with_reducible exact ih0 _ _ _ _ _)
   | (with_reducible exact ih1 _ _ _ _ _)
   | (with_reducible exact ih2 _ _ _ _)
   | (with_reducible exact ih3 _ _ _ _ _ _)
   | (with_reducible exact impl_HeldBytes.mono _ _ _)
   | (with_reducible exact impl_HeldMay.mono _ _ _ _ _ _)
   | (with_reducible exact laws_qdLists.mono _ _ _)
   | (with_reducible exact spec_DrawHeldBytes.mono _ _)
   | (with_reducible exact spec_HeldBytes.mono _ _ _)
   | (with_reducible exact LeO.refl _)
   | (with_reducible exact LeO.none _)
   | (with_reducible refine LeO.ite ?_ ?_)
   | (with_reducible refine LeO.bind ?_ (fun _ => ?_))
   | exact ih0 _ _ _ _ _
   | exact ih1 _ _ _ _ _
   | exact ih2 _ _ _ _
   | exact ih3 _ _ _ _ _ _
   | exact impl_HeldBytes.mono _ _ _
   | exact impl_HeldMay.mono _ _ _ _ _ _
   | exact laws_qdLists.mono _ _ _
   | exact spec_DrawHeldBytes.mono _ _
   | exact spec_HeldBytes.mono _ _ _
   | exact LeO.none _
   | refine LeO.ite ?_ ?_
   | refine LeO.bind ?_ (fun _ => ?_)
theorem laws_FnHeldBytes.mono : ∀ a0 k, LeO (laws_FnHeldBytes.f k a0) (laws_FnHeldBytes.f (k + 1) a0) := by
 intro a0 k
 obtain ⟨ih0, ih1, ih2, ih3⟩ := laws_FnHeldBytes.mono_l k
 unfold laws_FnHeldBytes.f
 repeat' first
   | (with_reducible exact ih0 _ _ _ _ _)
   | (with_reducible exact ih1 _ _ _ _ _)
   | (with_reducible exact ih2 _ _ _ _)
   | (with_reducible exact ih3 _ _ _ _ _ _)
   | (with_reducible exact impl_HeldBytes.mono _ _ _)
   | (with_reducible exact impl_HeldMay.mono _ _ _ _ _ _)
   | (with_reducible exact laws_qdLists.mono _ _ _)
   | (with_reducible exact spec_DrawHeldBytes.mono _ _)
   | (with_reducible exact spec_HeldBytes.mono _ _ _)
   | (with_reducible exact LeO.refl _)
   | (with_reducible exact LeO.none _)
   | (with_reducible refine LeO.ite ?_ ?_)
   | (with_reducible refine LeO.bind ?_ (fun _ => ?_))
   | exact ih0 _ _ _ _ _
   | exact ih1 _ _ _ _ _
   | exact ih2 _ _ _ _
   | exact ih3 _ _ _ _ _ _
   | exact impl_HeldBytes.mono _ _ _
   | exact impl_HeldMay.mono _ _ _ _ _ _
   | exact laws_qdLists.mono _ _ _
   | exact spec_DrawHeldBytes.mono _ _
   | exact spec_HeldBytes.mono _ _ _
   | exact LeO.none _
   | refine LeO.ite ?_ ?_
   | refine LeO.bind ?_ (fun _ => ?_)
set_option maxHeartbeats 8000000 in
set_option maxRecDepth 100000 in
theorem laws_FnHeldBytes.calls (k : Nat) (A0 : Option Addr) (c0 : Nat) (l0 : List Int) (r : Bool) (w : World) (hr0 : Kd.C (Kd.int .u8) w A0 l0.length l0) (hc0 : l0.length ≤ c0) (h : laws_FnHeldBytes.f k l0 = some r) :
  Calls Try.prog 9 #[.slice A0 l0.length c0] w fun e w' => e = .returned (.bool r) ∧ Below w.heap.size w w' := by
 have hu29 := Try.underlying29; have HR0 := Aside0.mk hr0; have HC0 := Aside0.mk hc0; clear hr0 hc0; have HB := Aside0.mk (Below.refl w.heap.size w); have H : (if (l0.length : Int) > 1048576 then (some true) else ((spec_DrawHeldBytes.f k l0).bind fun bt101 => ((impl_HeldBytes.f k bt101.1 bt101.2).bind fun bt108 => ((spec_HeldBytes.f k bt101.1 bt101.2).bind fun bt112 => ((laws_qdLists.f k bt108.1 bt112.1).bind fun t116 => (if t116 = true then (laws_FnHeldBytes.j0 k bt108.1 bt108.2 (bt108.2 == bt112.2) bt101.1 bt101.2) else (laws_FnHeldBytes.j0 k bt108.1 bt108.2 false bt101.1 bt101.2))))))) = some r := h; clear h
 by_cases c2 : (l0.length : Int) > 1048576
 ·
  rw [if_pos c2] at H; have c2b0 : decide (1048576 < (l0.length : Int)) = true := decide_eq_true c2; have c2b1 : decide (1048576 < l0.length) = true := decide_eq_true (by omega); clear c2; obtain rfl := Option.some.inj H
  go_enter Try.func9, Try.ntmps9
  go_wp2
  go_ret
  exact ⟨ze, bz HB.out⟩
 ·
  rw [if_neg c2] at H; have c2b0 : decide (1048576 < (l0.length : Int)) = false := decide_eq_false c2; have c2b1 : decide (1048576 < l0.length) = false := decide_eq_false (by omega); clear c2; replace H := Option.bind_eq_some_iff.mp H; obtain ⟨⟨t101, t104⟩, A30, H⟩ := H; replace H : ((impl_HeldBytes.f k t101 t104).bind fun bt108 => ((spec_HeldBytes.f k t101 t104).bind fun bt112 => ((laws_qdLists.f k bt108.1 bt112.1).bind fun t116 => (if t116 = true then (laws_FnHeldBytes.j0 k bt108.1 bt108.2 (bt108.2 == bt112.2) t101 t104) else (laws_FnHeldBytes.j0 k bt108.1 bt108.2 false t101 t104))))) = some r := H; have A3 := Aside0.mk A30; clear A30; replace H := Option.bind_eq_some_iff.mp H; obtain ⟨⟨t108, t111⟩, A40, H⟩ := H; replace H : ((spec_HeldBytes.f k t101 t104).bind fun bt112 => ((laws_qdLists.f k t108 bt112.1).bind fun t116 => (if t116 = true then (laws_FnHeldBytes.j0 k t108 t111 (t111 == bt112.2) t101 t104) else (laws_FnHeldBytes.j0 k t108 t111 false t101 t104)))) = some r := H; have A4 := Aside0.mk A40; clear A40; replace H := Option.bind_eq_some_iff.mp H; obtain ⟨⟨t112, t115⟩, A50, H⟩ := H; replace H : ((laws_qdLists.f k t108 t112).bind fun t116 => (if t116 = true then (laws_FnHeldBytes.j0 k t108 t111 (t111 == t115) t101 t104) else (laws_FnHeldBytes.j0 k t108 t111 false t101 t104))) = some r := H; have A5 := Aside0.mk A50; clear A50; have HC6 := Aside0.mk H; clear H
  go_enter Try.func9, Try.ntmps9
  go_upto_region 6 with (first | ((with_reducible refine gate_callee (f := 31) rfl ?_); refine goesL_ (some 16) rfl rfl Try.func31 zk rfl #[.slice A0 l0.length c0] rfl zm ?_; (with_reducible refine (spec_DrawHeldBytes.calls k _ _ l0 t101 t104 _ ?side1 ?side2 A3.out).mono ?_); (case side1 => exact cz HR0.out); (case side2 => exact HC0.out); rintro e w7 ⟨v102, v105, rfl, ho0, ho1, hb⟩; refine ⟨_, rfl, ?_⟩; have HO103 := Aside0.mk (Kd.R_lower ho0 (below_size (bz HB.out))); have HO106 := Aside0.mk (Kd.R_lower ho1 (below_size (bz HB.out))); replace HB := Aside0.mk (below_step (bz HB.out) hb); (try clear hb); (try clear ho0); (try clear ho1)) | ((with_reducible refine gate_dst (N := 3) rfl ?_); refine box_event ?hg (N := 3) ?hd (cs := #[.slice none 0 0, .slice none 0 0]) (t := 29) ?hr ?_; (case hd => rfl); (case hg => rfl); (case hr => first | (go_simp; done) | (go_simp; rfl)); intro gb107 hg w8 hbox hb; replace HO103 := Aside0.mk (Kd.R_below (rz HO103.out) hb); replace HO106 := Aside0.mk (Kd.R_below (rz HO106.out) hb); have BK107 := Aside0.mk (hbox); have GW107 := Aside0.mk ((by rw [hg]; exact (below_size (bz HB.out)) : w.heap.size ≤ gb107)); have GE107 := GW107; replace HB := Aside0.mk (below_step (bz HB.out) hb); clear hb hbox hg; obtain ⟨Ao9, co9, eo9⟩ := Kd.R_slice HO103.out; subst eo9; obtain ⟨hcz10_0, hcz10_1⟩ := cz2 BK107.out; obtain ⟨hfz10_0, hfz10_1⟩ := fz2 BK107.out; obtain ⟨Ao11, co11, eo11⟩ := Kd.R_slice HO106.out; subst eo11) | ((with_reducible refine gate_callee (f := 27) rfl ?_); refine goesL_ (some 19) rfl rfl Try.func27 zk rfl #[.agg #[.slice Ao9 t101.length co9, .slice Ao11 t104.length co11]] rfl zm ?_; (with_reducible refine (impl_HeldBytes.calls k _ _ t101 _ _ t104 t108 t111 _ ?side1 ?side2 ?side3 ?side4 A4.out).mono ?_); (case side1 => refine (Kd.R_reads' (e := 40) (base := w.heap.size) (ok := fun k_ => some k_ ≠ (.slice Ao11 t104.length co11 : Value).ownBlock) (n := t101.length) (c := co9) ?_).2.2; exact (rz ((Kd.R_mono (Kd.R_far (p := ⟨gb107, 1, none⟩) (Kd.R_far (p := ⟨gb107, 0, none⟩) (Kd.R_types HO103.out BK107.out (by decide)) (fun _ hk => hk.2) (.slice Ao9 t101.length co9)) (fun _ hk => hk.2) (.slice Ao11 t104.length co11)) (fun _ h_ => h_.1))))); (case side2 => exact (Kd.R_reads' HO103.out).2.1); (case side3 => refine (Kd.R_reads' (e := 40) (base := w.heap.size) (ok := fun k_ => some k_ ≠ (.slice Ao9 t101.length co9 : Value).ownBlock) (n := t104.length) (c := co11) ?_).2.2; exact (rz ((Kd.R_mono (Kd.R_far (p := ⟨gb107, 1, none⟩) (Kd.R_far (p := ⟨gb107, 0, none⟩) (Kd.R_types HO106.out BK107.out (by decide)) (fun _ hk => hk.2) (.slice Ao9 t101.length co9)) (fun _ hk => hk.2) (.slice Ao11 t104.length co11)) (fun _ h_ => h_.1))))); (case side4 => exact (Kd.R_reads' HO106.out).2.1); rintro e w12 ⟨v109, rfl, ho0, hb⟩; refine ⟨_, rfl, ?_⟩; replace HO103 := Aside0.mk (Kd.R_below (rz ((Kd.R_mono (Kd.R_far (p := ⟨gb107, 1, none⟩) (Kd.R_far (p := ⟨gb107, 0, none⟩) (Kd.R_types HO103.out BK107.out (by decide)) (fun _ hk => hk.2) (.slice Ao9 t101.length co9)) (fun _ hk => hk.2) (.slice Ao11 t104.length co11)) (fun _ h_ => h_.1)))) hb); replace HO106 := Aside0.mk (Kd.R_below (rz ((Kd.R_mono (Kd.R_far (p := ⟨gb107, 1, none⟩) (Kd.R_far (p := ⟨gb107, 0, none⟩) (Kd.R_types HO106.out BK107.out (by decide)) (fun _ hk => hk.2) (.slice Ao9 t101.length co9)) (fun _ hk => hk.2) (.slice Ao11 t104.length co11)) (fun _ h_ => h_.1)))) hb); have HO110 := Aside0.mk (Kd.S_lower ho0 (below_size (bs HB.out GE107.out))); replace BK107 := Aside0.mk (blk_below (g := gb107) (o := .cells #[.slice Ao9 t101.length co9, .slice Ao11 t104.length co11] 29 (0, 0)) (by (with_reducible repeat (first | refine blk_drewN ?_ _ | refine blk_drew ?_ | refine blk_alloc ?_ _)); refine blk_put (cs := #[.slice Ao9 t101.length co9, .slice none 0 0]) ?_ 1 _ rfl; (with_reducible repeat (first | refine blk_drewN ?_ _ | refine blk_drew ?_ | refine blk_alloc ?_ _)); refine blk_put (cs := #[.slice none 0 0, .slice none 0 0]) ?_ 0 _ rfl; (with_reducible repeat (first | refine blk_drewN ?_ _ | refine blk_drew ?_ | refine blk_alloc ?_ _)); exact BK107.out) hb); replace HB := Aside0.mk (below_step (bs HB.out GE107.out) hb); (try clear hb); (try clear ho0); obtain ⟨hcz13_0, hcz13_1⟩ := cz2 BK107.out; obtain ⟨hfz13_0, hfz13_1⟩ := fz2 BK107.out) | ((with_reducible refine gate_callee (f := 26) rfl ?_); refine goesL_ (some 24) rfl rfl Try.func26 zk rfl #[.agg #[.slice Ao9 t101.length co9, .slice Ao11 t104.length co11]] rfl zm ?_; (with_reducible refine (spec_HeldBytes.calls k _ _ t101 _ _ t104 t112 t115 _ ?side1 ?side2 ?side3 ?side4 A5.out).mono ?_); (case side1 => exact cz ((Kd.R_reads' HO103.out).2.2)); (case side2 => exact (Kd.R_reads' HO103.out).2.1); (case side3 => exact cz ((Kd.R_reads' HO106.out).2.2)); (case side4 => exact (Kd.R_reads' HO106.out).2.1); rintro e w14 ⟨v113, rfl, ho0, hb⟩; refine ⟨_, rfl, ?_⟩; replace HO103 := Aside0.mk (Kd.R_below (rz HO103.out) hb); replace HO106 := Aside0.mk (Kd.R_below (rz HO106.out) hb); have HO114 := Aside0.mk (Kd.S_lower (Kd.S_new' ho0 (Kd.S_lt (by (with_reducible repeat (first | apply Kd.S_alloc | apply Kd.S_drewN | apply Kd.S_drew)); exact HO110.out))) (below_size (bs HB.out GE107.out))); replace HO110 := Aside0.mk (Kd.S_elder' (by (with_reducible repeat (first | apply Kd.S_alloc | apply Kd.S_drewN | apply Kd.S_drew)); exact HO110.out) (Kd.S_base ho0) hb); replace BK107 := Aside0.mk (blk_below (kz BK107.out) hb); replace HB := Aside0.mk (below_step (bs HB.out GE107.out) hb); (try clear hb); (try clear ho0)))
  (try simp only [Act.put, List.setIfInBounds_toArray, List.set_cons_zero, List.set_cons_succ])
  go_cut [8] (fun v8 wc => ∃ (kq : Nat) (x8_5 : Bool), v8 = .bool x8_5 ∧ Aside0 (laws_FnHeldBytes.j0 kq t108 t111 x8_5 t101 t104 = some r) ∧ Aside0 (kq ≤ k) ∧ Aside0 (Kd.S (Kd.slice 3 (Kd.int .i64)) 37 wc w.heap.size (fun _ => True) v109 t108) ∧ Aside0 (Kd.R k40 40 wc w.heap.size (fun k_ => some k_ ≠ ((.slice Ao11 t104.length co11) : Value).ownBlock) (.slice Ao9 t101.length co9) t101) ∧ Aside0 (Kd.R k40 40 wc w.heap.size (fun k_ => some k_ ≠ ((.slice Ao9 t101.length co9) : Value).ownBlock) (.slice Ao11 t104.length co11) t104) ∧ Aside0 (wc.heap[gb107]? = some (.cells #[(.slice Ao9 t101.length co9), (.slice Ao11 t104.length co11)] 29 (0, 0))) ∧ Aside0 (Below w.heap.size w wc))
  case first =>
   have H := HC6.out; clear HC6; replace H := Option.bind_eq_some_iff.mp H; obtain ⟨t116, A150, H⟩ := H; have A15 := Aside0.mk A150; clear A150
   by_cases c16 : t116 = true
   ·
    subst c16; rw [if_pos rfl] at H; have H' := Aside0.mk H; clear H; obtain ⟨Ao17, co17, eo17⟩ := Kd.S_slice HO110.out; subst eo17; obtain ⟨Ao18, co18, eo18⟩ := Kd.S_slice HO114.out; subst eo18
    go_wp2_with (first | ((with_reducible refine gate_callee (f := 32) rfl ?_); refine goesL_ (some 29) rfl rfl Try.func32 zk rfl #[.slice Ao17 t108.length co17, .slice Ao18 t112.length co18] rfl zm ?_; (with_reducible refine (laws_qdLists.calls k _ _ t108 _ _ t112 true _ ?side1 ?side2 ?side3 ?side4 A15.out).mono ?_); (case side1 => exact cz ((Kd.S_reads' HO110.out).2.2)); (case side2 => exact (Kd.S_reads' HO110.out).2.1); (case side3 => exact cz ((Kd.S_reads' HO114.out).2.2)); (case side4 => exact (Kd.S_reads' HO114.out).2.1); rintro e w' ⟨rfl, ⟨nd, rfl⟩⟩; refine ⟨_, rfl, ?_⟩))
    go_meet
    case rel => exact ⟨_, ((t111 == t115)), zr, H', ⟨by first | omega | exact Nat.le_refl _⟩, ⟨by (with_reducible repeat (first | apply Kd.S_alloc | apply Kd.S_drewN | apply Kd.S_drew)); exact Kd.S_mono HO110.out (fun _ hk => trivial)⟩, ⟨rz (HO103.out)⟩, ⟨rz (HO106.out)⟩, ⟨kz (BK107.out)⟩, ⟨bs HB.out GE107.out⟩⟩
   ·
    replace c16 := Bool.eq_false_iff.mpr c16; subst c16; rw [if_neg nf_] at H; have H' := Aside0.mk H; clear H; obtain ⟨Ao19, co19, eo19⟩ := Kd.S_slice HO110.out; subst eo19; obtain ⟨Ao20, co20, eo20⟩ := Kd.S_slice HO114.out; subst eo20
    go_wp2_with (first | ((with_reducible refine gate_callee (f := 32) rfl ?_); refine goesL_ (some 29) rfl rfl Try.func32 zk rfl #[.slice Ao19 t108.length co19, .slice Ao20 t112.length co20] rfl zm ?_; (with_reducible refine (laws_qdLists.calls k _ _ t108 _ _ t112 false _ ?side1 ?side2 ?side3 ?side4 A15.out).mono ?_); (case side1 => exact cz ((Kd.S_reads' HO110.out).2.2)); (case side2 => exact (Kd.S_reads' HO110.out).2.1); (case side3 => exact cz ((Kd.S_reads' HO114.out).2.2)); (case side4 => exact (Kd.S_reads' HO114.out).2.1); rintro e w' ⟨rfl, ⟨nd, rfl⟩⟩; refine ⟨_, rfl, ?_⟩))
    go_meet
    case rel => exact ⟨_, (false), zr, H', ⟨by first | omega | exact Nat.le_refl _⟩, ⟨by (with_reducible repeat (first | apply Kd.S_alloc | apply Kd.S_drewN | apply Kd.S_drew)); exact Kd.S_mono HO110.out (fun _ hk => trivial)⟩, ⟨rz (HO103.out)⟩, ⟨rz (HO106.out)⟩, ⟨kz (BK107.out)⟩, ⟨bs HB.out GE107.out⟩⟩
  case rest =>
   clear HC6
   try clear c1
   try clear c2
   try clear c2b0
   try clear c2b1
   try clear p2
   try clear c3
   try clear c9
   try clear c16
   try clear hcz10_0
   try clear hcz10_1
   try clear hcz13_0
   try clear hcz13_1
   try clear hfz10_0
   try clear hfz10_1
   try clear hfz13_0
   try clear hfz13_1
   obtain ⟨kq, x8_5, rfl, HA, HJ5, HO_4, HO_108000, HO_108001, BK107, HB⟩ := hcut
   cases kq with
   | zero => exact absurd HA.out (by simp [laws_FnHeldBytes.j0])
   | succ kj5 =>
    have H := HA.out; clear HA; simp only [laws_FnHeldBytes.j0] at H; have HC21 := Aside0.mk H; clear H
    go_upto_region 7 with (fail)
    go_cut [40] (fun v40 wc => ∃ (kq : Nat) (x40_20 : Bool), v40 = .bool x40_20 ∧ Aside0 (laws_FnHeldBytes.j1 kq t108 x8_5 x40_20 t101 t104 = some r) ∧ Aside0 (kq ≤ kj5) ∧ Aside0 (Kd.S (Kd.slice 3 (Kd.int .i64)) 37 wc w.heap.size (fun _ => True) v109 t108) ∧ Aside0 (Kd.R k40 40 wc w.heap.size (fun k_ => some k_ ≠ ((.slice Ao11 t104.length co11) : Value).ownBlock) (.slice Ao9 t101.length co9) t101) ∧ Aside0 (Kd.R k40 40 wc w.heap.size (fun k_ => some k_ ≠ ((.slice Ao9 t101.length co9) : Value).ownBlock) (.slice Ao11 t104.length co11) t104) ∧ Aside0 (wc.heap[gb107]? = some (.cells #[(.slice Ao9 t101.length co9), (.slice Ao11 t104.length co11)] 29 (0, 0))) ∧ Aside0 (Below w.heap.size w wc))
    case first =>
     have H := HC21.out; clear HC21
     by_cases c22 : x8_5 = true
     ·
      subst c22; rw [if_pos rfl] at H; have H' := Aside0.mk H; clear H
      go_wp2
      go_meet
      case rel => exact ⟨_, (!t111), zr, H', ⟨by have := HJ5.out; first | omega | exact Nat.le_refl _⟩, ⟨by (with_reducible repeat (first | apply Kd.S_alloc | apply Kd.S_drewN | apply Kd.S_drew)); exact HO_4.out⟩, ⟨rz (HO_108000.out)⟩, ⟨rz (HO_108001.out)⟩, ⟨kz (BK107.out)⟩, ⟨bs HB.out GE107.out⟩⟩
     ·
      replace c22 := Bool.eq_false_iff.mpr c22; subst c22; rw [if_neg nf_] at H; have H' := Aside0.mk H; clear H
      go_wp2
      go_meet
      case rel => exact ⟨_, (true), zr, H', ⟨by have := HJ5.out; first | omega | exact Nat.le_refl _⟩, ⟨by (with_reducible repeat (first | apply Kd.S_alloc | apply Kd.S_drewN | apply Kd.S_drew)); exact HO_4.out⟩, ⟨rz (HO_108000.out)⟩, ⟨rz (HO_108001.out)⟩, ⟨kz (BK107.out)⟩, ⟨bs HB.out GE107.out⟩⟩
    case rest =>
     clear HC21
     try clear c1
     try clear c2
     try clear c2b0
     try clear c2b1
     try clear p2
     try clear c3
     try clear c9
     try clear c16
     try clear c22
     try clear hcz10_0
     try clear hcz10_1
     try clear hcz13_0
     try clear hcz13_1
     try clear hfz10_0
     try clear hfz10_1
     try clear hfz13_0
     try clear hfz13_1
     try clear p2
     obtain ⟨kq, x40_20, rfl, HA, HJ20, HO_4, HO_108000, HO_108001, BK107, HB⟩ := hcut
     cases kq with
     | zero => exact absurd HA.out (by simp [laws_FnHeldBytes.j1])
     | succ kj20 =>
      have H := HA.out; clear HA; simp only [laws_FnHeldBytes.j1] at H
      by_cases c23 : x40_20 = true
      ·
       subst c23; rw [if_pos rfl] at H; obtain rfl := Option.some.inj H
       go_wp2
       go_ret
       exact ⟨ze, bs HB.out GE107.out⟩
      ·
       replace c23 := Bool.eq_false_iff.mpr c23; subst c23; rw [if_neg nf_] at H; have H' := Aside0.mk H; clear H
       go_wp2
       go_loopg [9] kj20 (fun kq v9 w' => ∃ (x9_3 : Int), v9 = .int .i64 x9_3 ∧ Aside0 (laws_FnHeldBytes.l0 kq t108 x9_3 t101 t104 = some r) ∧ Aside0 (kq ≤ kj20) ∧ Aside0 (Kd.S (Kd.slice 3 (Kd.int .i64)) 37 w' w.heap.size (fun _ => True) v109 t108) ∧ Aside0 (Kd.R k40 40 w' w.heap.size (fun k_ => some k_ ≠ ((.slice Ao11 t104.length co11) : Value).ownBlock) (.slice Ao9 t101.length co9) t101) ∧ Aside0 (Kd.R k40 40 w' w.heap.size (fun k_ => some k_ ≠ ((.slice Ao9 t101.length co9) : Value).ownBlock) (.slice Ao11 t104.length co11) t104) ∧ Aside0 (w'.heap[gb107]? = some (.cells #[(.slice Ao9 t101.length co9), (.slice Ao11 t104.length co11)] 29 (0, 0))) ∧ Aside0 (Below w.heap.size w w'))
       case atStart => exact ⟨(0), zr, H', ⟨Nat.le_refl _⟩, ⟨by (with_reducible repeat (first | apply Kd.S_alloc | apply Kd.S_drewN | apply Kd.S_drew)); exact HO_4.out⟩, ⟨rz (HO_108000.out)⟩, ⟨rz (HO_108001.out)⟩, ⟨kz (BK107.out)⟩, ⟨bs HB.out GE107.out⟩⟩
       case round =>
        clear H'
        try clear c1
        try clear c2
        try clear c2b0
        try clear c2b1
        try clear p2
        try clear c3
        try clear c9
        try clear c16
        try clear c22
        try clear c23
        try clear hcz10_0
        try clear hcz10_1
        try clear hcz13_0
        try clear hcz13_1
        try clear hfz10_0
        try clear hfz10_1
        try clear hfz13_0
        try clear hfz13_1
        try clear p2
        obtain ⟨x9_3, rfl, HA, HK3, HO_4, HO_108000, HO_108001, BK107, HB⟩ := hrel
        cases gk with
        | zero => exact absurd HA.out (by simp [laws_FnHeldBytes.l0])
        | succ k3 =>
         have H := HA.out; clear HA; simp only [laws_FnHeldBytes.l0] at H
         by_cases c24 : x9_3 < 16
         ·
          rw [if_pos c24] at H; have c24b0 : decide (x9_3 < 16) = true := decide_eq_true c24; clear c24; have H' := Aside0.mk H; clear H
          go_wp2
          go_loopg [10, 11] k3 (fun kq v10 v11 w' => ∃ (x10_4 : Int) (x11_4 : Int), v10 = .int .i64 x10_4 ∧ v11 = .int .i64 x11_4 ∧ Aside0 (laws_FnHeldBytes.l1 kq t108 x9_3 x10_4 x11_4 t101 t104 = some r) ∧ Aside0 (kq ≤ k3) ∧ Aside0 (Kd.S (Kd.slice 3 (Kd.int .i64)) 37 w' w.heap.size (fun _ => True) v109 t108) ∧ Aside0 (Kd.R k40 40 w' w.heap.size (fun k_ => some k_ ≠ ((.slice Ao11 t104.length co11) : Value).ownBlock) (.slice Ao9 t101.length co9) t101) ∧ Aside0 (Kd.R k40 40 w' w.heap.size (fun k_ => some k_ ≠ ((.slice Ao9 t101.length co9) : Value).ownBlock) (.slice Ao11 t104.length co11) t104) ∧ Aside0 (w'.heap[gb107]? = some (.cells #[(.slice Ao9 t101.length co9), (.slice Ao11 t104.length co11)] 29 (0, 0))) ∧ Aside0 (Below w.heap.size w w'))
          case atStart => exact ⟨(0), (0), zr, zr, H', ⟨Nat.le_refl _⟩, ⟨by (with_reducible repeat (first | apply Kd.S_alloc | apply Kd.S_drewN | apply Kd.S_drew)); exact HO_4.out⟩, ⟨rz (HO_108000.out)⟩, ⟨rz (HO_108001.out)⟩, ⟨kz (BK107.out)⟩, ⟨bs HB.out GE107.out⟩⟩
          case round =>
           clear H'
           try clear c1
           try clear c2
           try clear c2b0
           try clear c2b1
           try clear p2
           try clear c3
           try clear c9
           try clear c16
           try clear c22
           try clear c23
           try clear c24
           try clear c24b0
           try clear hcz10_0
           try clear hcz10_1
           try clear hcz13_0
           try clear hcz13_1
           try clear hfz10_0
           try clear hfz10_1
           try clear hfz13_0
           try clear hfz13_1
           try clear p2
           obtain ⟨x10_4, x11_4, rfl, rfl, HA, HK4, HO_4, HO_108000, HO_108001, BK107, HB⟩ := hrel
           cases gk with
           | zero => exact absurd HA.out (by simp [laws_FnHeldBytes.l1])
           | succ k4 =>
            have H := HA.out; clear HA; simp only [laws_FnHeldBytes.l1] at H
            by_cases c25 : x11_4 < 4
            ·
             rw [if_pos c25] at H; have c25b0 : decide (x11_4 < 4) = true := decide_eq_true c25; clear c25; replace H := Option.bind_eq_some_iff.mp H; obtain ⟨t118, A260, H⟩ := H; have A26 := Aside0.mk A260; clear A260
             by_cases c27 : t118 = true
             ·
              subst c27; rw [if_pos rfl] at H
              by_cases c28 : 0 ≤ x9_3
              ·
               rw [if_pos c28] at H; have c28b0 : decide (0 ≤ x9_3) = true := decide_eq_true c28; clear c28
               by_cases c29 : x9_3 < (t108.length : Int)
               ·
                rw [if_pos c29] at H; have c29b0 : decide (x9_3 < (t108.length : Int)) = true := decide_eq_true c29; clear c29
                by_cases c30 : x10_4 ≥ ((rd_L11 t108 x9_3).length : Int)
                ·
                 rw [if_pos c30] at H; have c30b0 : decide (((rd_L11 t108 x9_3).length : Int) ≤ x10_4) = true := decide_eq_true c30; clear c30; obtain rfl := Option.some.inj H; obtain ⟨hcz31_0, hcz31_1⟩ := cz2 BK107.out; obtain ⟨hfz31_0, hfz31_1⟩ := fz2 BK107.out
                 go_wp2_with (first | ((with_reducible refine gate_callee (f := 16) rfl ?_); refine goesL_ (some 53) rfl rfl Try.func16 zk rfl #[.agg #[.slice Ao9 t101.length co9, .slice Ao11 t104.length co11], .int .i64 x11_4, .int .i64 x9_3, .bool false] rfl zm ?_; (with_reducible refine (impl_HeldMay.calls k4 _ _ t101 _ _ t104 x11_4 x9_3 false true _ ?side1 ?side2 ?side3 ?side4 A26.out).mono ?_); (case side1 => exact cz ((Kd.R_reads' HO_108000.out).2.2)); (case side2 => exact (Kd.R_reads' HO_108000.out).2.1); (case side3 => exact cz ((Kd.R_reads' HO_108001.out).2.2)); (case side4 => exact (Kd.R_reads' HO_108001.out).2.1); rintro e w32 ⟨rfl, hb⟩; refine ⟨_, rfl, ?_⟩; replace HO_4 := Aside0.mk (Kd.S_below (by (with_reducible repeat (first | apply Kd.S_alloc | apply Kd.S_drewN | apply Kd.S_drew)); exact HO_4.out) hb); replace HO_108000 := Aside0.mk (Kd.R_below (rz HO_108000.out) hb); replace HO_108001 := Aside0.mk (Kd.R_below (rz HO_108001.out) hb); replace BK107 := Aside0.mk (blk_below (kz BK107.out) hb); replace HB := Aside0.mk (below_step (bs HB.out GE107.out) hb); (try clear hb); obtain ⟨Ao33, co33, eo33⟩ := Kd.S_slice HO_4.out; subst eo33; have p119 : 0 ≤ (x9_3 : Int) := of_decide_eq_true zs; have q119 : x9_3 < (t108.length : Int) := of_decide_eq_true zs; obtain ⟨ad119, A119_0, c119_0, e119, hx119_0, hl119_0, hi119_0⟩ := at_L11 (Kd.S_reads' HO_4.out).2.2 x9_3 p119 q119; cases e119; obtain ⟨ce119, hce119, hMe119, hcc119⟩ := Kd.S_get HO_4.out [] x9_3 p119 (by first | exact q119 | exact of_decide_eq_true zs | (have e_ := (Kd.S_reads' HO_4.out).1; omega)); obtain ⟨ve119_0, rfl, ge119_0⟩ := hMe119; have hv119_0 := hcc119 0 _ rfl; rw [Nat.add_zero, show ((Kd.slice 3 (Kd.int .i64))).sz = 1 from rfl, Nat.mul_one] at hv119_0; replace hv119_0 := Option.some.inj (hv119_0.symm.trans hx119_0); rw [hv119_0] at ge119_0; have HL119_0 := Aside0.mk (show Kd.R (Kd.int .i64) 3 _ _ _ _ (rd_L11 t108 x9_3) from ge119_0); clear hv119_0 ge119_0; clear hcc119 hce119; have HR119_0 := Aside0.mk hi119_0; have HC119_0 := Aside0.mk hl119_0; clear hi119_0 hl119_0; replace p119 := eq_true p119; replace q119 := eq_true q119))
                 go_ret
                 exact ⟨ze, bs HB.out GE107.out⟩
                ·
                 rw [if_neg c30] at H; have c30b0 : decide (((rd_L11 t108 x9_3).length : Int) ≤ x10_4) = false := decide_eq_false c30; clear c30
                 by_cases c34 : 0 ≤ x10_4
                 ·
                  rw [if_pos c34] at H; have c34b0 : decide (0 ≤ x10_4) = true := decide_eq_true c34; clear c34
                  by_cases c35 : x10_4 < ((rd_L11 t108 x9_3).length : Int)
                  ·
                   rw [if_pos c35] at H; have c35b0 : decide (x10_4 < ((rd_L11 t108 x9_3).length : Int)) = true := decide_eq_true c35; clear c35
                   by_cases c36 : (rd (rd_L11 t108 x9_3) x10_4) = x11_4
                   ·
                    rw [if_pos c36] at H; have c36b0 : ((rd (rd_L11 t108 x9_3) x10_4) == x11_4) = true := beq_iff_eq.mpr c36; have c36b1 : ((rd (rd_L11 t108 x9_3) x10_4) != x11_4) = false := bne_eq_false_iff_eq.mpr c36; clear c36; have H' := Aside0.mk H; clear H; obtain ⟨hcz37_0, hcz37_1⟩ := cz2 BK107.out; obtain ⟨hfz37_0, hfz37_1⟩ := fz2 BK107.out
                    go_wp2_with (first | ((with_reducible refine gate_callee (f := 16) rfl ?_); refine goesL_ (some 53) rfl rfl Try.func16 zk rfl #[.agg #[.slice Ao9 t101.length co9, .slice Ao11 t104.length co11], .int .i64 x11_4, .int .i64 x9_3, .bool false] rfl zm ?_; (with_reducible refine (impl_HeldMay.calls k4 _ _ t101 _ _ t104 x11_4 x9_3 false true _ ?side1 ?side2 ?side3 ?side4 A26.out).mono ?_); (case side1 => exact cz ((Kd.R_reads' HO_108000.out).2.2)); (case side2 => exact (Kd.R_reads' HO_108000.out).2.1); (case side3 => exact cz ((Kd.R_reads' HO_108001.out).2.2)); (case side4 => exact (Kd.R_reads' HO_108001.out).2.1); rintro e w38 ⟨rfl, hb⟩; refine ⟨_, rfl, ?_⟩; replace HO_4 := Aside0.mk (Kd.S_below (by (with_reducible repeat (first | apply Kd.S_alloc | apply Kd.S_drewN | apply Kd.S_drew)); exact HO_4.out) hb); replace HO_108000 := Aside0.mk (Kd.R_below (rz HO_108000.out) hb); replace HO_108001 := Aside0.mk (Kd.R_below (rz HO_108001.out) hb); replace BK107 := Aside0.mk (blk_below (kz BK107.out) hb); replace HB := Aside0.mk (below_step (bs HB.out GE107.out) hb); (try clear hb); obtain ⟨Ao39, co39, eo39⟩ := Kd.S_slice HO_4.out; subst eo39; have p119 : 0 ≤ (x9_3 : Int) := of_decide_eq_true zs; have q119 : x9_3 < (t108.length : Int) := of_decide_eq_true zs; obtain ⟨ad119, A119_0, c119_0, e119, hx119_0, hl119_0, hi119_0⟩ := at_L11 (Kd.S_reads' HO_4.out).2.2 x9_3 p119 q119; cases e119; obtain ⟨ce119, hce119, hMe119, hcc119⟩ := Kd.S_get HO_4.out [] x9_3 p119 (by first | exact q119 | exact of_decide_eq_true zs | (have e_ := (Kd.S_reads' HO_4.out).1; omega)); obtain ⟨ve119_0, rfl, ge119_0⟩ := hMe119; have hv119_0 := hcc119 0 _ rfl; rw [Nat.add_zero, show ((Kd.slice 3 (Kd.int .i64))).sz = 1 from rfl, Nat.mul_one] at hv119_0; replace hv119_0 := Option.some.inj (hv119_0.symm.trans hx119_0); rw [hv119_0] at ge119_0; have HL119_0 := Aside0.mk (show Kd.R (Kd.int .i64) 3 _ _ _ _ (rd_L11 t108 x9_3) from ge119_0); clear hv119_0 ge119_0; clear hcc119 hce119; have HR119_0 := Aside0.mk hi119_0; have HC119_0 := Aside0.mk hl119_0; clear hi119_0 hl119_0; replace p119 := eq_true p119; replace q119 := eq_true q119; have p120 : 0 ≤ (x9_3 : Int) := of_decide_eq_true zs; have q120 : x9_3 < (t108.length : Int) := of_decide_eq_true zs; obtain ⟨ad120, A120_0, c120_0, e120, hx120_0, hl120_0, hi120_0⟩ := at_L11 (Kd.S_reads' HO_4.out).2.2 x9_3 p120 q120; obtain rfl : ad119 = ad120 := (by injection e120); obtain ⟨ce120, hce120, hMe120, hcc120⟩ := Kd.S_get HO_4.out [] x9_3 p120 (by first | exact q120 | exact of_decide_eq_true zs | (have e_ := (Kd.S_reads' HO_4.out).1; omega)); obtain ⟨ve120_0, rfl, ge120_0⟩ := hMe120; have hv120_0 := hcc120 0 _ rfl; rw [Nat.add_zero, show ((Kd.slice 3 (Kd.int .i64))).sz = 1 from rfl, Nat.mul_one] at hv120_0; replace hv120_0 := Option.some.inj (hv120_0.symm.trans hx120_0); rw [hv120_0] at ge120_0; have HL120_0 := Aside0.mk (show Kd.R (Kd.int .i64) 3 _ _ _ _ (rd_L11 t108 x9_3) from ge120_0); clear hv120_0 ge120_0; clear hcc120 hce120; have HR120_0 := Aside0.mk hi120_0; have HC120_0 := Aside0.mk hl120_0; clear hi120_0 hl120_0; replace p120 := eq_true p120; replace q120 := eq_true q120; have ea_ := Option.some.inj (hx119_0.symm.trans hx120_0); injection ea_ with ea_ en_ ec_; subst ea_; subst ec_; clear en_; have p121 : 0 ≤ (x10_4 : Int) := of_decide_eq_true zs; have q121 : x10_4 < ((rd_L11 t108 x9_3).length : Int) := of_decide_eq_true zs; obtain ⟨ad121, e121, hx121_0⟩ := Kd.at_int (by repeat (first | (with_reducible exact HR120_0.out) | (with_reducible refine Kd.C_alloc ?_ _) | (with_reducible refine Kd.C_drewN ?_ _) | (with_reducible refine Kd.C_drew ?_) | exact HR120_0.out)) x10_4 p121 q121; cases e121; replace p121 := eq_true p121; replace q121 := eq_true q121))
                    go_roundg k4
                    case measure => have := HJ5.out; have := HJ20.out; have := HK3.out; have := HK4.out; omega
                    case rel => exact ⟨(wrap64 (x10_4 + 1)), (wrap64 (x11_4 + 1)), zr, zr, H', ⟨by have := HJ5.out; have := HJ20.out; have := HK3.out; have := HK4.out; omega⟩, ⟨by (with_reducible repeat (first | apply Kd.S_alloc | apply Kd.S_drewN | apply Kd.S_drew)); exact HO_4.out⟩, ⟨rz (HO_108000.out)⟩, ⟨rz (HO_108001.out)⟩, ⟨kz (BK107.out)⟩, ⟨bs HB.out GE107.out⟩⟩
                   ·
                    rw [if_neg c36] at H; have c36b0 : ((rd (rd_L11 t108 x9_3) x10_4) == x11_4) = false := beq_eq_false_iff_ne.mpr c36; have c36b1 : ((rd (rd_L11 t108 x9_3) x10_4) != x11_4) = true := bne_iff_ne.mpr c36; obtain rfl := Option.some.inj H; obtain ⟨hcz40_0, hcz40_1⟩ := cz2 BK107.out; obtain ⟨hfz40_0, hfz40_1⟩ := fz2 BK107.out
                    go_wp2_with (first | ((with_reducible refine gate_callee (f := 16) rfl ?_); refine goesL_ (some 53) rfl rfl Try.func16 zk rfl #[.agg #[.slice Ao9 t101.length co9, .slice Ao11 t104.length co11], .int .i64 x11_4, .int .i64 x9_3, .bool false] rfl zm ?_; (with_reducible refine (impl_HeldMay.calls k4 _ _ t101 _ _ t104 x11_4 x9_3 false true _ ?side1 ?side2 ?side3 ?side4 A26.out).mono ?_); (case side1 => exact cz ((Kd.R_reads' HO_108000.out).2.2)); (case side2 => exact (Kd.R_reads' HO_108000.out).2.1); (case side3 => exact cz ((Kd.R_reads' HO_108001.out).2.2)); (case side4 => exact (Kd.R_reads' HO_108001.out).2.1); rintro e w41 ⟨rfl, hb⟩; refine ⟨_, rfl, ?_⟩; replace HO_4 := Aside0.mk (Kd.S_below (by (with_reducible repeat (first | apply Kd.S_alloc | apply Kd.S_drewN | apply Kd.S_drew)); exact HO_4.out) hb); replace HO_108000 := Aside0.mk (Kd.R_below (rz HO_108000.out) hb); replace HO_108001 := Aside0.mk (Kd.R_below (rz HO_108001.out) hb); replace BK107 := Aside0.mk (blk_below (kz BK107.out) hb); replace HB := Aside0.mk (below_step (bs HB.out GE107.out) hb); (try clear hb); obtain ⟨Ao42, co42, eo42⟩ := Kd.S_slice HO_4.out; subst eo42; have p119 : 0 ≤ (x9_3 : Int) := of_decide_eq_true zs; have q119 : x9_3 < (t108.length : Int) := of_decide_eq_true zs; obtain ⟨ad119, A119_0, c119_0, e119, hx119_0, hl119_0, hi119_0⟩ := at_L11 (Kd.S_reads' HO_4.out).2.2 x9_3 p119 q119; cases e119; obtain ⟨ce119, hce119, hMe119, hcc119⟩ := Kd.S_get HO_4.out [] x9_3 p119 (by first | exact q119 | exact of_decide_eq_true zs | (have e_ := (Kd.S_reads' HO_4.out).1; omega)); obtain ⟨ve119_0, rfl, ge119_0⟩ := hMe119; have hv119_0 := hcc119 0 _ rfl; rw [Nat.add_zero, show ((Kd.slice 3 (Kd.int .i64))).sz = 1 from rfl, Nat.mul_one] at hv119_0; replace hv119_0 := Option.some.inj (hv119_0.symm.trans hx119_0); rw [hv119_0] at ge119_0; have HL119_0 := Aside0.mk (show Kd.R (Kd.int .i64) 3 _ _ _ _ (rd_L11 t108 x9_3) from ge119_0); clear hv119_0 ge119_0; clear hcc119 hce119; have HR119_0 := Aside0.mk hi119_0; have HC119_0 := Aside0.mk hl119_0; clear hi119_0 hl119_0; replace p119 := eq_true p119; replace q119 := eq_true q119; have p120 : 0 ≤ (x9_3 : Int) := of_decide_eq_true zs; have q120 : x9_3 < (t108.length : Int) := of_decide_eq_true zs; obtain ⟨ad120, A120_0, c120_0, e120, hx120_0, hl120_0, hi120_0⟩ := at_L11 (Kd.S_reads' HO_4.out).2.2 x9_3 p120 q120; obtain rfl : ad119 = ad120 := (by injection e120); obtain ⟨ce120, hce120, hMe120, hcc120⟩ := Kd.S_get HO_4.out [] x9_3 p120 (by first | exact q120 | exact of_decide_eq_true zs | (have e_ := (Kd.S_reads' HO_4.out).1; omega)); obtain ⟨ve120_0, rfl, ge120_0⟩ := hMe120; have hv120_0 := hcc120 0 _ rfl; rw [Nat.add_zero, show ((Kd.slice 3 (Kd.int .i64))).sz = 1 from rfl, Nat.mul_one] at hv120_0; replace hv120_0 := Option.some.inj (hv120_0.symm.trans hx120_0); rw [hv120_0] at ge120_0; have HL120_0 := Aside0.mk (show Kd.R (Kd.int .i64) 3 _ _ _ _ (rd_L11 t108 x9_3) from ge120_0); clear hv120_0 ge120_0; clear hcc120 hce120; have HR120_0 := Aside0.mk hi120_0; have HC120_0 := Aside0.mk hl120_0; clear hi120_0 hl120_0; replace p120 := eq_true p120; replace q120 := eq_true q120; have ea_ := Option.some.inj (hx119_0.symm.trans hx120_0); injection ea_ with ea_ en_ ec_; subst ea_; subst ec_; clear en_; have p121 : 0 ≤ (x10_4 : Int) := of_decide_eq_true zs; have q121 : x10_4 < ((rd_L11 t108 x9_3).length : Int) := of_decide_eq_true zs; obtain ⟨ad121, e121, hx121_0⟩ := Kd.at_int (by repeat (first | (with_reducible exact HR120_0.out) | (with_reducible refine Kd.C_alloc ?_ _) | (with_reducible refine Kd.C_drewN ?_ _) | (with_reducible refine Kd.C_drew ?_) | exact HR120_0.out)) x10_4 p121 q121; cases e121; replace p121 := eq_true p121; replace q121 := eq_true q121))
                    go_ret
                    exact ⟨ze, bs HB.out GE107.out⟩
                  ·
                   rw [if_neg c35] at H
                   exact absurd H (by simp)
                 ·
                  rw [if_neg c34] at H
                  exact absurd H (by simp)
               ·
                rw [if_neg c29] at H
                exact absurd H (by simp)
              ·
               rw [if_neg c28] at H
               exact absurd H (by simp)
             ·
              replace c27 := Bool.eq_false_iff.mpr c27; subst c27; rw [if_neg nf_] at H; have H' := Aside0.mk H; clear H; obtain ⟨hcz43_0, hcz43_1⟩ := cz2 BK107.out; obtain ⟨hfz43_0, hfz43_1⟩ := fz2 BK107.out
              go_wp2_with (first | ((with_reducible refine gate_callee (f := 16) rfl ?_); refine goesL_ (some 53) rfl rfl Try.func16 zk rfl #[.agg #[.slice Ao9 t101.length co9, .slice Ao11 t104.length co11], .int .i64 x11_4, .int .i64 x9_3, .bool false] rfl zm ?_; (with_reducible refine (impl_HeldMay.calls k4 _ _ t101 _ _ t104 x11_4 x9_3 false false _ ?side1 ?side2 ?side3 ?side4 A26.out).mono ?_); (case side1 => exact cz ((Kd.R_reads' HO_108000.out).2.2)); (case side2 => exact (Kd.R_reads' HO_108000.out).2.1); (case side3 => exact cz ((Kd.R_reads' HO_108001.out).2.2)); (case side4 => exact (Kd.R_reads' HO_108001.out).2.1); rintro e w44 ⟨rfl, hb⟩; refine ⟨_, rfl, ?_⟩; replace HO_4 := Aside0.mk (Kd.S_below (by (with_reducible repeat (first | apply Kd.S_alloc | apply Kd.S_drewN | apply Kd.S_drew)); exact HO_4.out) hb); replace HO_108000 := Aside0.mk (Kd.R_below (rz HO_108000.out) hb); replace HO_108001 := Aside0.mk (Kd.R_below (rz HO_108001.out) hb); replace BK107 := Aside0.mk (blk_below (kz BK107.out) hb); replace HB := Aside0.mk (below_step (bs HB.out GE107.out) hb); (try clear hb)))
              go_roundg k4
              case measure => have := HJ5.out; have := HJ20.out; have := HK3.out; have := HK4.out; omega
              case rel => exact ⟨(x10_4), (wrap64 (x11_4 + 1)), zr, zr, H', ⟨by have := HJ5.out; have := HJ20.out; have := HK3.out; have := HK4.out; omega⟩, ⟨by (with_reducible repeat (first | apply Kd.S_alloc | apply Kd.S_drewN | apply Kd.S_drew)); exact HO_4.out⟩, ⟨rz (HO_108000.out)⟩, ⟨rz (HO_108001.out)⟩, ⟨kz (BK107.out)⟩, ⟨bs HB.out GE107.out⟩⟩
            ·
             rw [if_neg c25] at H; have c25b0 : decide (x11_4 < 4) = false := decide_eq_false c25; clear c25
             by_cases c45 : 0 ≤ x9_3
             ·
              rw [if_pos c45] at H; have c45b0 : decide (0 ≤ x9_3) = true := decide_eq_true c45; clear c45
              by_cases c46 : x9_3 < (t108.length : Int)
              ·
               rw [if_pos c46] at H; have c46b0 : decide (x9_3 < (t108.length : Int)) = true := decide_eq_true c46; clear c46
               by_cases c47 : x10_4 = ((rd_L11 t108 x9_3).length : Int)
               ·
                rw [if_pos c47] at H; have c47b0 : (x10_4 == ((rd_L11 t108 x9_3).length : Int)) = true := beq_iff_eq.mpr c47; have c47b1 : (x10_4 != ((rd_L11 t108 x9_3).length : Int)) = false := bne_eq_false_iff_eq.mpr c47; clear c47; have H' := Aside0.mk H; clear H; obtain ⟨Ao48, co48, eo48⟩ := Kd.S_slice HO_4.out; subst eo48; have p117 : 0 ≤ (x9_3 : Int) := of_decide_eq_true zs; have q117 : x9_3 < (t108.length : Int) := of_decide_eq_true zs; obtain ⟨ad117, A117_0, c117_0, e117, hx117_0, hl117_0, hi117_0⟩ := at_L11 (Kd.S_reads' HO_4.out).2.2 x9_3 p117 q117; cases e117; obtain ⟨ce117, hce117, hMe117, hcc117⟩ := Kd.S_get HO_4.out [] x9_3 p117 (by first | exact q117 | exact of_decide_eq_true zs | (have e_ := (Kd.S_reads' HO_4.out).1; omega)); obtain ⟨ve117_0, rfl, ge117_0⟩ := hMe117; have hv117_0 := hcc117 0 _ rfl; rw [Nat.add_zero, show ((Kd.slice 3 (Kd.int .i64))).sz = 1 from rfl, Nat.mul_one] at hv117_0; replace hv117_0 := Option.some.inj (hv117_0.symm.trans hx117_0); rw [hv117_0] at ge117_0; have HL117_0 := Aside0.mk (show Kd.R (Kd.int .i64) 3 _ _ _ _ (rd_L11 t108 x9_3) from ge117_0); clear hv117_0 ge117_0; clear hcc117 hce117; have HR117_0 := Aside0.mk hi117_0; have HC117_0 := Aside0.mk hl117_0; clear hi117_0 hl117_0; replace p117 := eq_true p117; replace q117 := eq_true q117
                go_wp2
                go_roundg k4
                case measure => have := HJ5.out; have := HJ20.out; have := HK3.out; have := HK4.out; omega
                case rel => exact ⟨(wrap64 (x9_3 + 1)), zr, H', ⟨by have := HJ5.out; have := HJ20.out; have := HK3.out; have := HK4.out; omega⟩, ⟨by (with_reducible repeat (first | apply Kd.S_alloc | apply Kd.S_drewN | apply Kd.S_drew)); exact HO_4.out⟩, ⟨rz (HO_108000.out)⟩, ⟨rz (HO_108001.out)⟩, ⟨kz (BK107.out)⟩, ⟨bs HB.out GE107.out⟩⟩
               ·
                rw [if_neg c47] at H; have c47b0 : (x10_4 == ((rd_L11 t108 x9_3).length : Int)) = false := beq_eq_false_iff_ne.mpr c47; have c47b1 : (x10_4 != ((rd_L11 t108 x9_3).length : Int)) = true := bne_iff_ne.mpr c47; obtain rfl := Option.some.inj H; obtain ⟨Ao49, co49, eo49⟩ := Kd.S_slice HO_4.out; subst eo49; have p117 : 0 ≤ (x9_3 : Int) := of_decide_eq_true zs; have q117 : x9_3 < (t108.length : Int) := of_decide_eq_true zs; obtain ⟨ad117, A117_0, c117_0, e117, hx117_0, hl117_0, hi117_0⟩ := at_L11 (Kd.S_reads' HO_4.out).2.2 x9_3 p117 q117; cases e117; obtain ⟨ce117, hce117, hMe117, hcc117⟩ := Kd.S_get HO_4.out [] x9_3 p117 (by first | exact q117 | exact of_decide_eq_true zs | (have e_ := (Kd.S_reads' HO_4.out).1; omega)); obtain ⟨ve117_0, rfl, ge117_0⟩ := hMe117; have hv117_0 := hcc117 0 _ rfl; rw [Nat.add_zero, show ((Kd.slice 3 (Kd.int .i64))).sz = 1 from rfl, Nat.mul_one] at hv117_0; replace hv117_0 := Option.some.inj (hv117_0.symm.trans hx117_0); rw [hv117_0] at ge117_0; have HL117_0 := Aside0.mk (show Kd.R (Kd.int .i64) 3 _ _ _ _ (rd_L11 t108 x9_3) from ge117_0); clear hv117_0 ge117_0; clear hcc117 hce117; have HR117_0 := Aside0.mk hi117_0; have HC117_0 := Aside0.mk hl117_0; clear hi117_0 hl117_0; replace p117 := eq_true p117; replace q117 := eq_true q117
                go_wp2
                go_ret
                exact ⟨ze, bs HB.out GE107.out⟩
              ·
               rw [if_neg c46] at H
               exact absurd H (by simp)
             ·
              rw [if_neg c45] at H
              exact absurd H (by simp)
         ·
          rw [if_neg c24] at H; have c24b0 : decide (x9_3 < 16) = false := decide_eq_false c24; clear c24; obtain rfl := Option.some.inj H; obtain ⟨Ao50, co50, eo50⟩ := Kd.S_slice HO_4.out; subst eo50
          go_wp2
          go_ret
          exact ⟨ze, bs HB.out GE107.out⟩

/-- THE ONE PURE STATEMENT of laws_FnHeldBytes: yours. -/
def laws_FnHeldBytes.Pure : Prop := ∀ (l0 : List Int), l0.length ≤ maxLen → l0.length * 1 ≤ 140737488351232 → (∀ x ∈ l0, (Lit.int .u8 x).wf = true) → ∃ k, laws_FnHeldBytes.f k l0 = some true
theorem laws_FnHeldBytes.walk (P : laws_FnHeldBytes.Pure) (a0 : Option Addr) (len0 cap0 : Nat) (z0 : List Int) (w : World) (w0 : (a0 = none ∧ len0 = 0 ∧ cap0 = 0 ∧ z0 = []) ∨ ∃ x, a0 = some x ∧ len0 ≤ cap0 ∧ cap0 ≤ maxLen ∧ z0.length = cap0 ∧ (∀ i, i < z0.length → w.cell? (x.add i) = some (.int .u8 (z0.getD i 0))) ∧ ∀ n ∈ z0, (Lit.int .u8 n).wf = true) (y0 : len0 * 1 ≤ 140737488351232) :
  Calls Try.prog 9 #[.slice a0 len0 cap0] w fun e w' => e = .returned (.bool true) ∧ Below w.heap.size w w' := by
 obtain ⟨l0, rfl, hr0, hm0, hw0, hc0⟩ := ReadsInt.ofRowC w0
 obtain ⟨k, h⟩ := P l0 hm0 y0 hw0
 refine (laws_FnHeldBytes.calls k _ _ l0 true w (Kd.C_of_reads (d := (0 : Int)) (h1 := fun _ => rfl) hr0) hc0 h).mono ?_
 rintro e w' ⟨rfl, hd⟩
 exact ⟨rfl, hd⟩

end Go.Proofs.Ytgjlbghjjjlhmaa.P
