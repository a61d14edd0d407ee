-- printed by this session's own driver (wip/qd.py) out of the translation; Lean checks it
import Derived.Test.YthoapmfpokohnaaPf0
import Derived.Test.YthoapmfpokohnaaPflawsszViews
import Derived.Test.YthoapmfpokohnaaPfspecBytesGet
import Derived.Test.YthoapmfpokohnaaPflawstoViews
import Derived.Test.YthoapmfpokohnaaPfimplBytesGet
import Derived.Test.YthoapmfpokohnaaPflawseqViews
namespace Go.Proofs.Ythoapmfpokohnaa.P
open Go.RowKit Go.Proofs.YthoapmfpokohnaaW.PrintWords Go.Proofs.YthoapmfpokohnaaW.PrintLast Go.Proofs.YthoapmfpokohnaaW.PrintMore
attribute [local go_sem] max2_int min2_int max_two min_two max_three min_three max_four min_four Q.cell_set_map   -- for this text's walks alone
set_option linter.unusedVariables false
set_option linter.unusedSimpArgs false

/-! ### laws_FnExactBytesGet: function 3 -/
def laws_FnExactBytesGet.j0 : Nat → Bool → List (S126) → List (S75) → Option (Bool)
 | 0, _, _, _ => none
 | k + 1, x42, x102000, x112000 => if x42 = true then (some false) else ((laws_toViews.f k x102000).bind fun t114 => ((laws_eqViews.f k x112000 t114).bind fun t117 => (if t117 = true then (some true) else (some false))))
def laws_FnExactBytesGet.f (k : Nat) (l0_0 : List (S126)) (a1 : Int) (a2 : Int) : Option (Bool) := (laws_szViews.f k l0_0 1048576).bind fun t102 => (if t102 < 0 then (some true) else ((laws_toViews.f k l0_0).bind fun t103 => ((spec_BytesGet.f k t103 a1 a2).bind fun bt106 => ((laws_toViews.f k l0_0).bind fun t108 => ((impl_BytesGet.f k t108 a1 a2).bind fun bt112 => (if bt112.1 = bt106.1 then (laws_FnExactBytesGet.j0 k (bt112.2 != bt106.2) l0_0 t108) else (laws_FnExactBytesGet.j0 k true l0_0 t108)))))))
theorem laws_FnExactBytesGet.mono_l : ∀ k, (∀ y0 y1 y2, LeO (laws_FnExactBytesGet.j0 k y0 y1 y2) (laws_FnExactBytesGet.j0 (k + 1) y0 y1 y2))
 | 0 => fun _ _ _ r h => by simp [laws_FnExactBytesGet.j0] at h
 | k + 1 => by
  have ih0 := laws_FnExactBytesGet.mono_l k
  ·
   intro y0 y1 y2
   unfold laws_FnExactBytesGet.j0
   repeat' first
   | (with_reducible exact ih0 _ _ _)
   | (with_reducible exact impl_BytesGet.mono _ _ _ _)
   | (with_reducible exact laws_eqViews.mono _ _ _)
   | (with_reducible exact laws_szViews.mono _ _ _)
   | (with_reducible exact laws_toViews.mono _ _)
   | (with_reducible exact spec_BytesGet.mono _ _ _ _)
   | (with_reducible exact LeO.refl _)
   | (with_reducible exact LeO.none _)
   | (with_reducible refine LeO.ite ?_ ?_)
   | (with_reducible refine LeO.bind ?_ (fun _ => ?_))
   | exact ih0 _ _ _
   | exact impl_BytesGet.mono _ _ _ _
   | exact laws_eqViews.mono _ _ _
   | exact laws_szViews.mono _ _ _
   | exact laws_toViews.mono _ _
   | exact spec_BytesGet.mono _ _ _ _
   | exact LeO.none _
   | refine LeO.ite ?_ ?_
   | refine LeO.bind ?_ (fun _ => ?_)
theorem laws_FnExactBytesGet.mono : ∀ a0 a1 a2 k, LeO (laws_FnExactBytesGet.f k a0 a1 a2) (laws_FnExactBytesGet.f (k + 1) a0 a1 a2) := by
 intro a0 a1 a2 k
 have ih0 := laws_FnExactBytesGet.mono_l k
 unfold laws_FnExactBytesGet.f
 repeat' first
   | (with_reducible exact ih0 _ _ _)
   | (with_reducible exact impl_BytesGet.mono _ _ _ _)
   | (with_reducible exact laws_eqViews.mono _ _ _)
   | (with_reducible exact laws_szViews.mono _ _ _)
   | (with_reducible exact laws_toViews.mono _ _)
   | (with_reducible exact spec_BytesGet.mono _ _ _ _)
   | (with_reducible exact LeO.refl _)
   | (with_reducible exact LeO.none _)
   | (with_reducible refine LeO.ite ?_ ?_)
   | (with_reducible refine LeO.bind ?_ (fun _ => ?_))
   | exact ih0 _ _ _
   | exact impl_BytesGet.mono _ _ _ _
   | exact laws_eqViews.mono _ _ _
   | exact laws_szViews.mono _ _ _
   | exact laws_toViews.mono _ _
   | exact spec_BytesGet.mono _ _ _ _
   | exact LeO.none _
   | refine LeO.ite ?_ ?_
   | refine LeO.bind ?_ (fun _ => ?_)
set_option maxHeartbeats 8000000 in
set_option maxRecDepth 100000 in
theorem laws_FnExactBytesGet.calls (k : Nat) (A0_0 : Option Addr) (c0_0 : Nat) (l0_0 : List (S126)) (a1 : Int) (a2 : Int) (r : Bool) (w : World) (hr0_0 : Kd.C k126 w A0_0 l0_0.length l0_0) (hc0_0 : l0_0.length ≤ c0_0) (h : laws_FnExactBytesGet.f k l0_0 a1 a2 = some r) :
  Calls Try.prog 3 #[.agg #[.slice A0_0 l0_0.length c0_0], .int .i64 a1, .int .i64 a2] w fun e w' => e = .returned (.bool r) ∧ Below w.heap.size w w' := by
 have hu24 := Try.underlying24; have hu30 := Try.underlying30; have HR0_0 := Aside0.mk hr0_0; have HC0_0 := Aside0.mk hc0_0; clear hr0_0 hc0_0; have HB := Aside0.mk (Below.refl w.heap.size w); have H : ((laws_szViews.f k l0_0 1048576).bind fun t102 => (if t102 < 0 then (some true) else ((laws_toViews.f k l0_0).bind fun t103 => ((spec_BytesGet.f k t103 a1 a2).bind fun bt106 => ((laws_toViews.f k l0_0).bind fun t108 => ((impl_BytesGet.f k t108 a1 a2).bind fun bt112 => (if bt112.1 = bt106.1 then (laws_FnExactBytesGet.j0 k (bt112.2 != bt106.2) l0_0 t108) else (laws_FnExactBytesGet.j0 k true l0_0 t108)))))))) = some r := h; clear h; replace H := Option.bind_eq_some_iff.mp H; obtain ⟨t102, A40, H⟩ := H; have A4 := Aside0.mk A40; clear A40
 by_cases c5 : t102 < 0
 ·
  rw [if_pos c5] at H; have c5b0 : decide (t102 < 0) = true := decide_eq_true c5; clear c5; obtain rfl := Option.some.inj H
  go_enter Try.func3, Try.ntmps3
  go_wp2_with (first | ((with_reducible refine gate_dst (N := 3) rfl ?_); refine box_event ?hg (N := 3) ?hd (cs := #[.slice A0_0 l0_0.length c0_0]) (t := 24) ?hr ?_; (case hd => rfl); (case hg => rfl); (case hr => first | (go_simp; done) | (go_simp; rfl)); intro gb101 hg w6 hbox hb; have BK101 := Aside0.mk (hbox); have GW101 := Aside0.mk ((by rw [hg]; exact (below_size (bz HB.out)) : w.heap.size ≤ gb101)); have GE101 := Aside0.mk ((by rw [hg]; exact (below_size (bz HB.out)) : w.heap.size ≤ gb101)); replace HB := Aside0.mk (below_step (bz HB.out) hb); clear hb hbox hg; have hcz7_0 : w6.cell? ⟨gb101, 0, none⟩ = some (.slice A0_0 l0_0.length c0_0) := (blk_cell BK101.out 0).trans rfl; have hfz7_0 := blk_frozen BK101.out 0) | ((with_reducible refine gate_callee (f := 11) rfl ?_); refine goesL_ (some 15) rfl rfl Try.func11 zk rfl #[.agg #[.slice A0_0 l0_0.length c0_0], .int .i64 1048576] rfl zm ?_; (with_reducible refine (laws_szViews.calls k _ _ l0_0 1048576 t102 _ ?side1 ?side2 A4.out).mono ?_); (case side1 => exact cz (Kd.C_below HR0_0.out HB.out)); (case side2 => exact HC0_0.out); rintro e w8 ⟨rfl, hb⟩; refine ⟨_, rfl, ?_⟩; replace BK101 := Aside0.mk (blk_below (kz BK101.out) hb); replace HB := Aside0.mk (below_step (bs HB.out GE101.out) hb); (try clear hb)))
  go_ret
  exact ⟨ze, bs HB.out GE101.out⟩
 ·
  rw [if_neg c5] at H; have c5b0 : decide (t102 < 0) = false := decide_eq_false c5; clear c5; replace H := Option.bind_eq_some_iff.mp H; obtain ⟨t103, A90, H⟩ := H; have A9 := Aside0.mk A90; clear A90; replace H := Option.bind_eq_some_iff.mp H; obtain ⟨⟨t106, t107⟩, A100, H⟩ := H; replace H : ((laws_toViews.f k l0_0).bind fun t108 => ((impl_BytesGet.f k t108 a1 a2).bind fun bt112 => (if bt112.1 = t106 then (laws_FnExactBytesGet.j0 k (bt112.2 != t107) l0_0 t108) else (laws_FnExactBytesGet.j0 k true l0_0 t108)))) = some r := H; have A10 := Aside0.mk A100; clear A100; replace H := Option.bind_eq_some_iff.mp H; obtain ⟨t108, A110, H⟩ := H; have A11 := Aside0.mk A110; clear A110; replace H := Option.bind_eq_some_iff.mp H; obtain ⟨⟨t112, t113⟩, A120, H⟩ := H; replace H : (if t112 = t106 then (laws_FnExactBytesGet.j0 k (t113 != t107) l0_0 t108) else (laws_FnExactBytesGet.j0 k true l0_0 t108)) = some r := H; have A12 := Aside0.mk A120; clear A120; have HC13 := Aside0.mk H; clear H
  go_enter Try.func3, Try.ntmps3
  go_upto_region 8 with (first | ((with_reducible refine gate_dst (N := 3) rfl ?_); refine box_event ?hg (N := 3) ?hd (cs := #[.slice A0_0 l0_0.length c0_0]) (t := 24) ?hr ?_; (case hd => rfl); (case hg => rfl); (case hr => first | (go_simp; done) | (go_simp; rfl)); intro gb101 hg w14 hbox hb; have BK101 := Aside0.mk (hbox); have GW101 := Aside0.mk ((by rw [hg]; exact (below_size (bz HB.out)) : w.heap.size ≤ gb101)); have GE101 := Aside0.mk ((by rw [hg]; exact (below_size (bz HB.out)) : w.heap.size ≤ gb101)); replace HB := Aside0.mk (below_step (bz HB.out) hb); clear hb hbox hg; have hcz15_0 : w14.cell? ⟨gb101, 0, none⟩ = some (.slice A0_0 l0_0.length c0_0) := (blk_cell BK101.out 0).trans rfl; have hfz15_0 := blk_frozen BK101.out 0) | ((with_reducible refine gate_callee (f := 11) rfl ?_); refine goesL_ (some 15) rfl rfl Try.func11 zk rfl #[.agg #[.slice A0_0 l0_0.length c0_0], .int .i64 1048576] rfl zm ?_; (with_reducible refine (laws_szViews.calls k _ _ l0_0 1048576 t102 _ ?side1 ?side2 A4.out).mono ?_); (case side1 => exact cz (Kd.C_below HR0_0.out HB.out)); (case side2 => exact HC0_0.out); rintro e w16 ⟨rfl, hb⟩; refine ⟨_, rfl, ?_⟩; replace BK101 := Aside0.mk (blk_below (kz BK101.out) hb); replace HB := Aside0.mk (below_step (bs HB.out GE101.out) hb); (try clear hb); have hcz17_0 : w16.cell? ⟨gb101, 0, none⟩ = some (.slice A0_0 l0_0.length c0_0) := (blk_cell BK101.out 0).trans rfl; have hfz17_0 := blk_frozen BK101.out 0) | ((with_reducible refine gate_callee (f := 13) rfl ?_); refine goesL_ (some 20) rfl rfl Try.func13 zk rfl #[.agg #[.slice A0_0 l0_0.length c0_0]] rfl zm ?_; (with_reducible refine (laws_toViews.calls k _ _ l0_0 t103 _ ?side1 ?side2 A9.out).mono ?_); (case side1 => exact cz (Kd.C_below HR0_0.out HB.out)); (case side2 => exact HC0_0.out); rintro e w18 ⟨v104, rfl, ho0, hb⟩; refine ⟨_, rfl, ?_⟩; have HO105 := Aside0.mk (Kd.S_lower ho0 (below_size (bs HB.out GE101.out))); replace BK101 := Aside0.mk (blk_below (kz BK101.out) hb); replace HB := Aside0.mk (below_step (bs HB.out GE101.out) hb); (try clear hb); (try clear ho0); obtain ⟨Ao19, co19, eo19⟩ := Kd.S_slice HO105.out; subst eo19) | ((with_reducible refine gate_callee (f := 12) rfl ?_); refine goesL_ (some 23) rfl rfl Try.func12 zk rfl #[.agg #[.slice Ao19 t103.length co19], .int .i64 a1, .int .i64 a2] rfl zm ?_; (with_reducible refine (spec_BytesGet.calls k _ _ t103 a1 a2 t106 t107 _ ?side1 ?side2 A10.out).mono ?_); (case side1 => exact cz ((Kd.S_reads' HO105.out).2.2)); (case side2 => exact (Kd.S_reads' HO105.out).2.1); rintro e w20 ⟨rfl, hb⟩; refine ⟨_, rfl, ?_⟩; replace HO105 := Aside0.mk (Kd.S_below (by (with_reducible repeat (first | apply Kd.S_alloc | apply Kd.S_drewN | apply Kd.S_drew)); exact HO105.out) hb); replace BK101 := Aside0.mk (blk_below (kz BK101.out) hb); replace HB := Aside0.mk (below_step (bs HB.out GE101.out) hb); (try clear hb); have hcz21_0 : w20.cell? ⟨gb101, 0, none⟩ = some (.slice A0_0 l0_0.length c0_0) := (blk_cell BK101.out 0).trans rfl; have hfz21_0 := blk_frozen BK101.out 0) | ((with_reducible refine gate_callee (f := 13) rfl ?_); refine goesL_ (some 27) rfl rfl Try.func13 zk rfl #[.agg #[.slice A0_0 l0_0.length c0_0]] rfl zm ?_; (with_reducible refine (laws_toViews.calls k _ _ l0_0 t108 _ ?side1 ?side2 A11.out).mono ?_); (case side1 => exact cz (Kd.C_below HR0_0.out HB.out)); (case side2 => exact HC0_0.out); rintro e w22 ⟨v109, rfl, ho0, hb⟩; refine ⟨_, rfl, ?_⟩; have HO110 := Aside0.mk (Kd.S_lower (Kd.S_new' ho0 (Kd.S_lt (by (with_reducible repeat (first | apply Kd.S_alloc | apply Kd.S_drewN | apply Kd.S_drew)); exact HO105.out))) (below_size (bs HB.out GE101.out))); replace HO105 := Aside0.mk (Kd.S_elder' (by (with_reducible repeat (first | apply Kd.S_alloc | apply Kd.S_drewN | apply Kd.S_drew)); exact HO105.out) (Kd.S_base ho0) hb); replace BK101 := Aside0.mk (blk_below (kz BK101.out) hb); replace HB := Aside0.mk (below_step (bs HB.out GE101.out) hb); (try clear hb); (try clear ho0)) | ((with_reducible refine gate_dst (N := 10) rfl ?_); refine box_event ?hg (N := 10) ?hd (cs := #[.slice none 0 0]) (t := 30) ?hr ?_; (case hd => rfl); (case hg => rfl); (case hr => first | (go_simp; done) | (go_simp; rfl)); intro gb111 hg w23 hbox hb; replace HO105 := Aside0.mk (Kd.S_below (by (with_reducible repeat (first | apply Kd.S_alloc | apply Kd.S_drewN | apply Kd.S_drew)); exact HO105.out) hb); replace HO110 := Aside0.mk (Kd.S_below (by (with_reducible repeat (first | apply Kd.S_alloc | apply Kd.S_drewN | apply Kd.S_drew)); exact HO110.out) hb); have BK111 := Aside0.mk (hbox); have GW111 := Aside0.mk ((by rw [hg]; exact (below_size (bs HB.out GE101.out)) : w.heap.size ≤ gb111)); have GE111 := Aside0.mk ((by rw [hg]; exact (below_size (bs HB.out GE101.out)) : w.heap.size ≤ gb111)); replace HB := Aside0.mk (below_step (bs HB.out GE101.out) hb); have NB101_111 := Aside0.mk ((by rw [hg]; exact Nat.ne_of_lt (blk_lt (kz BK101.out)) : gb101 ≠ gb111)); have NB111_101 := Aside0.mk ((by rw [hg]; exact Nat.ne_of_gt (blk_lt (kz BK101.out)) : gb111 ≠ gb101)); replace BK101 := Aside0.mk (blk_below (kz BK101.out) hb); clear hb hbox hg; obtain ⟨Ao24, co24, eo24⟩ := Kd.S_slice HO110.out; subst eo24; have hnb25 := NB111_101.out; have hnc25 := NB101_111.out; have hcz26_0 : w23.cell? ⟨gb111, 0, none⟩ = some (.slice none 0 0) := (blk_cell BK111.out 0).trans rfl; have hfz26_0 := blk_frozen BK111.out 0) | ((with_reducible refine gate_callee (f := 14) rfl ?_); refine goesL_ (some 32) rfl rfl Try.func14 zk rfl #[.agg #[.slice Ao24 t108.length co24], .int .i64 a1, .int .i64 a2] rfl zm ?_; (with_reducible refine (impl_BytesGet.calls k _ _ t108 a1 a2 t112 t113 _ ?side1 ?side2 A12.out).mono ?_); (case side1 => refine (Kd.S_reads' (e := 75) (base := w.heap.size) (ok := fun k_ => (True ∧ some k_ ≠ (.slice Ao19 t103.length co19 : Value).ownBlock)) (n := t108.length) (c := co24) ?_).2.2; exact (by (with_reducible repeat (first | apply Kd.S_alloc | apply Kd.S_drewN | apply Kd.S_drew)); exact (Kd.S_mono (Kd.S_far (p := ⟨gb111, 0, none⟩) (Kd.S_types HO110.out BK111.out (by decide)) (fun _ hk => hk.2) (.slice Ao24 t108.length co24)) (fun _ h_ => h_.1)))); (case side2 => exact (Kd.S_reads' HO110.out).2.1); rintro e w27 ⟨rfl, hb⟩; refine ⟨_, rfl, ?_⟩; replace HO105 := Aside0.mk (Kd.S_below (by (with_reducible repeat (first | apply Kd.S_alloc | apply Kd.S_drewN | apply Kd.S_drew)); exact (Kd.S_mono (Kd.S_far (p := ⟨gb111, 0, none⟩) (Kd.S_types HO105.out BK111.out (by decide)) (fun _ hk => hk.2) (.slice Ao24 t108.length co24)) (fun _ h_ => h_.1))) hb); replace HO110 := Aside0.mk (Kd.S_below (by (with_reducible repeat (first | apply Kd.S_alloc | apply Kd.S_drewN | apply Kd.S_drew)); exact (Kd.S_mono (Kd.S_far (p := ⟨gb111, 0, none⟩) (Kd.S_types HO110.out BK111.out (by decide)) (fun _ hk => hk.2) (.slice Ao24 t108.length co24)) (fun _ h_ => h_.1))) hb); replace BK101 := Aside0.mk (blk_below (g := gb101) (o := .cells #[.slice A0_0 l0_0.length c0_0] 24 (0, 0)) (by (with_reducible repeat (first | refine blk_drewN ?_ _ | refine blk_drew ?_ | refine blk_alloc ?_ _)); refine blk_far ?_ NB101_111.out _; (with_reducible repeat (first | refine blk_drewN ?_ _ | refine blk_drew ?_ | refine blk_alloc ?_ _)); exact BK101.out) hb); replace BK111 := Aside0.mk (blk_below (g := gb111) (o := .cells #[.slice Ao24 t108.length co24] 30 (0, 0)) (by (with_reducible repeat (first | refine blk_drewN ?_ _ | refine blk_drew ?_ | refine blk_alloc ?_ _)); refine blk_put (cs := #[.slice none 0 0]) ?_ 0 _ rfl; (with_reducible repeat (first | refine blk_drewN ?_ _ | refine blk_drew ?_ | refine blk_alloc ?_ _)); exact BK111.out) hb); replace HB := Aside0.mk (below_step (bs2 HB.out GE101.out GE111.out) hb); (try clear hb)))
  (try simp only [Act.put, List.setIfInBounds_toArray, List.set_cons_zero, List.set_cons_succ])
  go_cut [42] (fun v42 wc => ∃ (kq : Nat) (x42_12 : Bool), v42 = .bool x42_12 ∧ Aside0 (laws_FnExactBytesGet.j0 kq x42_12 l0_0 t108 = some r) ∧ Aside0 (kq ≤ k) ∧ Aside0 (Kd.S k75 75 wc w.heap.size (fun _ => True) (.slice Ao24 t108.length co24) t108) ∧ Aside0 (wc.heap[gb101]? = some (.cells #[(.slice A0_0 l0_0.length c0_0)] 24 (0, 0))) ∧ Aside0 (wc.heap[gb111]? = some (.cells #[(.slice Ao24 t108.length co24)] 30 (0, 0))) ∧ Aside0 (Below w.heap.size w wc))
  case first =>
   have H := HC13.out; clear HC13
   by_cases c28 : t112 = t106
   ·
    rw [if_pos c28] at H; have c28b0 : (t112 == t106) = true := beq_iff_eq.mpr c28; have c28b1 : (t112 != t106) = false := bne_eq_false_iff_eq.mpr c28; clear c28
    (first | rw [c28b0] | (simp only [i64_w, i32_w]; rw [c28b0]) | skip)
    have H' := Aside0.mk H; clear H
    go_wp2
    go_meet
    case rel => exact ⟨_, ((t113 != t107)), zr, H', ⟨by first | omega | exact Nat.le_refl _⟩, ⟨by (with_reducible repeat (first | apply Kd.S_alloc | apply Kd.S_drewN | apply Kd.S_drew)); exact Kd.S_mono HO110.out (fun _ hk => trivial)⟩, ⟨kz (BK101.out)⟩, ⟨kz (BK111.out)⟩, ⟨bs2 HB.out GE101.out GE111.out⟩⟩
   ·
    rw [if_neg c28] at H; have c28b0 : (t112 == t106) = false := beq_eq_false_iff_ne.mpr c28; have c28b1 : (t112 != t106) = true := bne_iff_ne.mpr c28
    (first | rw [c28b0] | (simp only [i64_w, i32_w]; rw [c28b0]) | skip)
    have H' := Aside0.mk H; clear H
    go_wp2
    go_meet
    case rel => exact ⟨_, (true), zr, H', ⟨by first | omega | exact Nat.le_refl _⟩, ⟨by (with_reducible repeat (first | apply Kd.S_alloc | apply Kd.S_drewN | apply Kd.S_drew)); exact Kd.S_mono HO110.out (fun _ hk => trivial)⟩, ⟨kz (BK101.out)⟩, ⟨kz (BK111.out)⟩, ⟨bs2 HB.out GE101.out GE111.out⟩⟩
  case rest =>
   clear HC13
   try clear c1
   try clear c2
   try clear p2
   try clear c3
   try clear c5
   try clear c5b0
   try clear c11
   try clear c12
   try clear c13
   try clear c14
   try clear c25
   try clear c28
   try clear c28b0
   try clear c28b1
   try clear hcz15_0
   try clear hcz17_0
   try clear hcz21_0
   try clear hcz26_0
   try clear hcz7_0
   try clear hfz15_0
   try clear hfz17_0
   try clear hfz21_0
   try clear hfz26_0
   try clear hfz7_0
   obtain ⟨kq, x42_12, rfl, HA, HJ12, HO_112000, BK101, BK111, HB⟩ := hcut
   cases kq with
   | zero => exact absurd HA.out (by simp [laws_FnExactBytesGet.j0])
   | succ kj12 =>
    have H := HA.out; clear HA; simp only [laws_FnExactBytesGet.j0] at H
    by_cases c29 : x42_12 = true
    ·
     subst c29; rw [if_pos rfl] at H; obtain rfl := Option.some.inj H
     go_wp2
     go_ret
     exact ⟨ze, bs2 HB.out GE101.out GE111.out⟩
    ·
     replace c29 := Bool.eq_false_iff.mpr c29; subst c29; rw [if_neg nf_] at H; replace H := Option.bind_eq_some_iff.mp H; obtain ⟨t114, A300, H⟩ := H; have A30 := Aside0.mk A300; clear A300; replace H := Option.bind_eq_some_iff.mp H; obtain ⟨t117, A310, H⟩ := H; have A31 := Aside0.mk A310; clear A310
     by_cases c32 : t117 = true
     ·
      subst c32; rw [if_pos rfl] at H; obtain rfl := Option.some.inj H
      try go_wp2
      replace HO_112000 := Aside0.mk (Kd.S_drew HO_112000.out); replace BK101 := Aside0.mk (blk_drew BK101.out); replace BK111 := Aside0.mk (blk_drew BK111.out); replace HB := Aside0.mk (below_drew1 HB.out); refine start_ (n := 5) (S := fun w' => w'.cell? ⟨gb111, 0, none⟩ = some (.slice Ao24 t108.length co24) ∧ w'.cell? ⟨gb101, 0, none⟩ = some (.slice A0_0 l0_0.length c0_0)) (ds := []) (lb 5 0) zk rfl rfl ⟨(blk_cell BK111.out 0).trans rfl, (blk_cell BK101.out 0).trans rfl⟩ (fun hHeld => ?_)
      generalize wc.drew = w33 at HO_112000 BK101 BK111 HB hHeld ⊢
      refine take_ (i := 0) (N := some 43) (v := ?_) (a' := ?_) (lb 5 1) rfl rfl zk (fun _ _ _ h => h) (Or.inl ⟨by rfl, ?_⟩) hHeld ?_ ?_; rotate_left; (rintro w' ⟨s0, s1⟩; go_simp; with_reducible rfl); rotate_left; (simp only [Act.put, List.setIfInBounds_toArray, List.set_cons_zero, List.set_cons_succ, i64_w, i32_w]; rfl); refine take_ (i := 1) (N := some 44) (v := ?_) (a' := ?_) (lb 5 3) rfl rfl zk (fun _ _ _ h => h) (Or.inl ⟨by rfl, ?_⟩) hHeld ?_ ?_; rotate_left; (rintro w' ⟨s0, s1⟩; go_simp; with_reducible rfl); rotate_left; (simp only [Act.put, List.setIfInBounds_toArray, List.set_cons_zero, List.set_cons_succ, i64_w, i32_w]; rfl); refine one_ (i := 2) (N := some 45) (lb 5 7) rfl rfl zk (by decide) (fun K hK => ?_); refine goes_ Try.func13 zk rfl #[.agg #[.slice A0_0 l0_0.length c0_0]] (by rfl) rfl rfl zm ?_; (with_reducible refine (laws_toViews.calls kj12 _ _ l0_0 t114 _ ?side1 ?side2 A30.out).mono ?_); (case side1 => exact cz (Kd.C_below HR0_0.out HB.out)); (case side2 => exact HC0_0.out); rintro e w34 ⟨v115, rfl, ho0, hb⟩; refine ⟨_, rfl, ?_⟩; have HO116 := Aside0.mk (Kd.S_lower (Kd.S_new' ho0 (Kd.S_lt (by (with_reducible repeat (first | apply Kd.S_alloc | apply Kd.S_drewN | apply Kd.S_drew)); exact HO_112000.out))) (below_size (bs2 HB.out GE101.out GE111.out))); replace HO_112000 := Aside0.mk (Kd.S_elder' (by (with_reducible repeat (first | apply Kd.S_alloc | apply Kd.S_drewN | apply Kd.S_drew)); exact HO_112000.out) (Kd.S_base ho0) hb); replace BK101 := Aside0.mk (blk_below (kz BK101.out) hb); replace BK111 := Aside0.mk (blk_below (kz BK111.out) hb); replace HB := Aside0.mk (below_step (bs2 HB.out GE101.out GE111.out) hb); (try clear hb); (try clear ho0); obtain ⟨Ao35, co35, eo35⟩ := Kd.S_slice HO116.out
      (first | subst eo35 | (injection eo35 with f1_ f2_ f3_; have f4_ := f1_.symm; have f5_ := f3_.symm; clear f1_ f2_ f3_; subst f4_; subst f5_))
      refine hK.out _ _ ⟨(blk_cell BK111.out 0).trans rfl, (blk_cell BK101.out 0).trans rfl⟩ (fun hHeld => ?_); clear hK K; refine norm_ (a' := ?_) ?_ ?_; rotate_left
      ·
       show Act.put _ (some 45) _ = _
       simp only [Act.put, List.setIfInBounds_toArray, List.set_cons_zero, List.set_cons_succ, i64_w, i32_w]
       rfl
      refine one_ (i := 3) (N := some 46) (lb 5 15) rfl rfl zk (by decide) (fun K hK => ?_); refine goes_ Try.func15 zk rfl #[.agg #[.slice Ao24 t108.length co24], .agg #[.slice Ao35 t114.length co35]] (by rfl) rfl rfl zm ?_; (with_reducible refine (laws_eqViews.calls kj12 _ _ t108 _ _ t114 true _ ?side1 ?side2 ?side3 ?side4 A31.out).mono ?_); (case side1 => exact cz ((Kd.S_reads' HO_112000.out).2.2)); (case side2 => exact (Kd.S_reads' HO_112000.out).2.1); (case side3 => exact cz ((Kd.S_reads' HO116.out).2.2)); (case side4 => exact (Kd.S_reads' HO116.out).2.1); rintro e w36 ⟨rfl, hb⟩; refine ⟨_, rfl, ?_⟩; replace HO_112000 := Aside0.mk (Kd.S_below (by (with_reducible repeat (first | apply Kd.S_alloc | apply Kd.S_drewN | apply Kd.S_drew)); exact HO_112000.out) hb); replace HO116 := Aside0.mk (Kd.S_below (by (with_reducible repeat (first | apply Kd.S_alloc | apply Kd.S_drewN | apply Kd.S_drew)); exact HO116.out) hb); replace BK101 := Aside0.mk (blk_below (kz BK101.out) hb); replace BK111 := Aside0.mk (blk_below (kz BK111.out) hb); replace HB := Aside0.mk (below_step (bs2 HB.out GE101.out GE111.out) hb); (try clear hb); refine hK.out _ _ ⟨(blk_cell BK111.out 0).trans rfl, (blk_cell BK101.out 0).trans rfl⟩ (fun hHeld => ?_); clear hK K; refine norm_ (a' := ?_) ?_ ?_; rotate_left
      ·
       show Act.put _ (some 46) _ = _
       simp only [Act.put, List.setIfInBounds_toArray, List.set_cons_zero, List.set_cons_succ, i64_w, i32_w]
       rfl
      refine pure_ (i := 4) (N := some 47) (v := ?_) (a' := ?_) (lb 5 31) rfl rfl zk (fun _ _ _ h => h) (Or.inl ⟨by rfl, ?_⟩) ?_ ?_; rotate_left; (intro w'; go_simp; with_reducible rfl); rotate_left; (simp only [Act.put, List.setIfInBounds_toArray, List.set_cons_zero, List.set_cons_succ, i64_w, i32_w]; rfl); refine done_ zk ?_
      try go_wp2
      go_ret
      exact ⟨ze, bs2 HB.out GE101.out GE111.out⟩
     ·
      replace c32 := Bool.eq_false_iff.mpr c32; subst c32; rw [if_neg nf_] at H; obtain rfl := Option.some.inj H
      try go_wp2
      replace HO_112000 := Aside0.mk (Kd.S_drew HO_112000.out); replace BK101 := Aside0.mk (blk_drew BK101.out); replace BK111 := Aside0.mk (blk_drew BK111.out); replace HB := Aside0.mk (below_drew1 HB.out); refine start_ (n := 5) (S := fun w' => w'.cell? ⟨gb111, 0, none⟩ = some (.slice Ao24 t108.length co24) ∧ w'.cell? ⟨gb101, 0, none⟩ = some (.slice A0_0 l0_0.length c0_0)) (ds := []) (lb 5 0) zk rfl rfl ⟨(blk_cell BK111.out 0).trans rfl, (blk_cell BK101.out 0).trans rfl⟩ (fun hHeld => ?_)
      generalize wc.drew = w37 at HO_112000 BK101 BK111 HB hHeld ⊢
      refine take_ (i := 0) (N := some 43) (v := ?_) (a' := ?_) (lb 5 1) rfl rfl zk (fun _ _ _ h => h) (Or.inl ⟨by rfl, ?_⟩) hHeld ?_ ?_; rotate_left; (rintro w' ⟨s0, s1⟩; go_simp; with_reducible rfl); rotate_left; (simp only [Act.put, List.setIfInBounds_toArray, List.set_cons_zero, List.set_cons_succ, i64_w, i32_w]; rfl); refine take_ (i := 1) (N := some 44) (v := ?_) (a' := ?_) (lb 5 3) rfl rfl zk (fun _ _ _ h => h) (Or.inl ⟨by rfl, ?_⟩) hHeld ?_ ?_; rotate_left; (rintro w' ⟨s0, s1⟩; go_simp; with_reducible rfl); rotate_left; (simp only [Act.put, List.setIfInBounds_toArray, List.set_cons_zero, List.set_cons_succ, i64_w, i32_w]; rfl); refine one_ (i := 2) (N := some 45) (lb 5 7) rfl rfl zk (by decide) (fun K hK => ?_); refine goes_ Try.func13 zk rfl #[.agg #[.slice A0_0 l0_0.length c0_0]] (by rfl) rfl rfl zm ?_; (with_reducible refine (laws_toViews.calls kj12 _ _ l0_0 t114 _ ?side1 ?side2 A30.out).mono ?_); (case side1 => exact cz (Kd.C_below HR0_0.out HB.out)); (case side2 => exact HC0_0.out); rintro e w38 ⟨v115, rfl, ho0, hb⟩; refine ⟨_, rfl, ?_⟩; have HO116 := Aside0.mk (Kd.S_lower (Kd.S_new' ho0 (Kd.S_lt (by (with_reducible repeat (first | apply Kd.S_alloc | apply Kd.S_drewN | apply Kd.S_drew)); exact HO_112000.out))) (below_size (bs2 HB.out GE101.out GE111.out))); replace HO_112000 := Aside0.mk (Kd.S_elder' (by (with_reducible repeat (first | apply Kd.S_alloc | apply Kd.S_drewN | apply Kd.S_drew)); exact HO_112000.out) (Kd.S_base ho0) hb); replace BK101 := Aside0.mk (blk_below (kz BK101.out) hb); replace BK111 := Aside0.mk (blk_below (kz BK111.out) hb); replace HB := Aside0.mk (below_step (bs2 HB.out GE101.out GE111.out) hb); (try clear hb); (try clear ho0); obtain ⟨Ao39, co39, eo39⟩ := Kd.S_slice HO116.out
      (first | subst eo39 | (injection eo39 with f1_ f2_ f3_; have f4_ := f1_.symm; have f5_ := f3_.symm; clear f1_ f2_ f3_; subst f4_; subst f5_))
      refine hK.out _ _ ⟨(blk_cell BK111.out 0).trans rfl, (blk_cell BK101.out 0).trans rfl⟩ (fun hHeld => ?_); clear hK K; refine norm_ (a' := ?_) ?_ ?_; rotate_left
      ·
       show Act.put _ (some 45) _ = _
       simp only [Act.put, List.setIfInBounds_toArray, List.set_cons_zero, List.set_cons_succ, i64_w, i32_w]
       rfl
      refine one_ (i := 3) (N := some 46) (lb 5 15) rfl rfl zk (by decide) (fun K hK => ?_); refine goes_ Try.func15 zk rfl #[.agg #[.slice Ao24 t108.length co24], .agg #[.slice Ao39 t114.length co39]] (by rfl) rfl rfl zm ?_; (with_reducible refine (laws_eqViews.calls kj12 _ _ t108 _ _ t114 false _ ?side1 ?side2 ?side3 ?side4 A31.out).mono ?_); (case side1 => exact cz ((Kd.S_reads' HO_112000.out).2.2)); (case side2 => exact (Kd.S_reads' HO_112000.out).2.1); (case side3 => exact cz ((Kd.S_reads' HO116.out).2.2)); (case side4 => exact (Kd.S_reads' HO116.out).2.1); rintro e w40 ⟨rfl, hb⟩; refine ⟨_, rfl, ?_⟩; replace HO_112000 := Aside0.mk (Kd.S_below (by (with_reducible repeat (first | apply Kd.S_alloc | apply Kd.S_drewN | apply Kd.S_drew)); exact HO_112000.out) hb); replace HO116 := Aside0.mk (Kd.S_below (by (with_reducible repeat (first | apply Kd.S_alloc | apply Kd.S_drewN | apply Kd.S_drew)); exact HO116.out) hb); replace BK101 := Aside0.mk (blk_below (kz BK101.out) hb); replace BK111 := Aside0.mk (blk_below (kz BK111.out) hb); replace HB := Aside0.mk (below_step (bs2 HB.out GE101.out GE111.out) hb); (try clear hb); refine hK.out _ _ ⟨(blk_cell BK111.out 0).trans rfl, (blk_cell BK101.out 0).trans rfl⟩ (fun hHeld => ?_); clear hK K; refine norm_ (a' := ?_) ?_ ?_; rotate_left
      ·
       show Act.put _ (some 46) _ = _
       simp only [Act.put, List.setIfInBounds_toArray, List.set_cons_zero, List.set_cons_succ, i64_w, i32_w]
       rfl
      refine pure_ (i := 4) (N := some 47) (v := ?_) (a' := ?_) (lb 5 31) rfl rfl zk (fun _ _ _ h => h) (Or.inl ⟨by rfl, ?_⟩) ?_ ?_; rotate_left; (intro w'; go_simp; with_reducible rfl); rotate_left; (simp only [Act.put, List.setIfInBounds_toArray, List.set_cons_zero, List.set_cons_succ, i64_w, i32_w]; rfl); refine done_ zk ?_
      try go_wp2
      go_ret
      exact ⟨ze, bs2 HB.out GE101.out GE111.out⟩

end Go.Proofs.Ythoapmfpokohnaa.P
