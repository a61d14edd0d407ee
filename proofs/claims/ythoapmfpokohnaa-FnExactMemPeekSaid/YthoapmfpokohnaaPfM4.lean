-- printed by wip/qd.py, laid together by wip/mergepf.py
import Derived.Test.YthoapmfpokohnaaPf0
import Derived.Test.YthoapmfpokohnaaPfE1
import Derived.Test.YthoapmfpokohnaaPfM3
import Derived.Test.YthoapmfpokohnaaQSem9
namespace Go.Proofs.Ythoapmfpokohnaa.P
open Go.RowKit Go.Proofs.YthoapmfpokohnaaW.PrintWords Go.Proofs.YthoapmfpokohnaaW.PrintLast Go.Proofs.YthoapmfpokohnaaW.PrintMore
attribute [local go_sem] max2_int min2_int max_two min_two max_three min_three max_four min_four Q.cell_set_map Q.str_gtr Q.str_geq Q.str_leq
set_option linter.unusedVariables false
set_option linter.unusedSimpArgs false

attribute [local go_sem high] eqA65
/-! ### spec_l3Space: function 48 -/
mutual
def spec_l3Space.j0 : Nat → Bool → Bool → List (S108) → List (S65) → Option (Bool)
 | 0, _, _, _, _ => none
 | k + 1, x28, x102000, x102001, x102002 => if x28 = true then (some false) else (spec_l3Space.l0 k 0 x102000 x102001 x102002)
def spec_l3Space.l0 : Nat → Int → Bool → List (S108) → List (S65) → Option (Bool)
 | 0, _, _, _, _ => none
 | k + 1, x3, x102000, x102001, x102002 => if x3 < 16 then (if 0 ≤ x3 then (if x3 < (x102002.length : Int) then ((spec_l2At.f k x102001 x3).bind fun t105 => (if ((rd_T65 x102002 x3).f0) = 0 then (if (!(((rd_T65 x102002 x3).f0) == 0) || (!(((rd_T65 x102002 x3).f1) == 0) || (((rd_T65 x102002 x3).f2) || (((rd_T65 x102002 x3).f3))))) = true then (some false) else (spec_l3Space.l0 k (wrap64 (x3 + 1)) x102000 x102001 x102002)) else (if t105 < 0 then (spec_l3Space.j2 k x3 t105 true x102000 x102001 x102002 ((rd_T65 x102002 x3).f0) ((rd_T65 x102002 x3).f1) ((rd_T65 x102002 x3).f2) ((rd_T65 x102002 x3).f3)) else ((spec_l6In.f ((rd_T65 x102002 x3).f0) 1 2).bind fun t106 => (spec_l3Space.j2 k x3 t105 (!t106) x102000 x102001 x102002 ((rd_T65 x102002 x3).f0) ((rd_T65 x102002 x3).f1) ((rd_T65 x102002 x3).f2) ((rd_T65 x102002 x3).f3)))))) else (none)) else (none)) else (some true)
def spec_l3Space.j2 : Nat → Int → Int → Bool → Bool → List (S108) → List (S65) → Int → Int → Bool → Bool → Option (Bool)
 | 0, _, _, _, _, _, _, _, _, _, _ => none
 | k + 1, x3, x5, x49, x102000, x102001, x102002, x105000, x105001, x105002, x105003 => if x49 = true then (some false) else (if 0 ≤ x5 then (if x5 < (x102001.length : Int) then (if (rd_T108 x102001 x5).f3 = true then (if x105002 = true then (spec_l3Space.l0 k (wrap64 (x3 + 1)) x102000 x102001 x102002) else (some false)) else (spec_l3Space.l0 k (wrap64 (x3 + 1)) x102000 x102001 x102002)) else (none)) else (none))
end
def spec_l3Space.f (k : Nat) (a0_0 : Bool) (l0_1 : List (S108)) (l0_2 : List (S65)) : Option (Bool) := if a0_0 = true then ((spec_AreasOk.f k l0_1).bind fun t102 => (if t102 = true then (spec_l3Space.j0 k ((l0_2.length : Int) != 16) true l0_1 l0_2) else (spec_l3Space.j0 k true true l0_1 l0_2))) else (if (l0_1.length : Int) = 0 then (some ((l0_2.length : Int) == 0)) else (some false))
theorem spec_l3Space.mono_l : ∀ k, (∀ y0 y1 y2 y3, LeO (spec_l3Space.j0 k y0 y1 y2 y3) (spec_l3Space.j0 (k + 1) y0 y1 y2 y3)) ∧ (∀ y0 y1 y2 y3, LeO (spec_l3Space.l0 k y0 y1 y2 y3) (spec_l3Space.l0 (k + 1) y0 y1 y2 y3)) ∧ (∀ y0 y1 y2 y3 y4 y5 y6 y7 y8 y9, LeO (spec_l3Space.j2 k y0 y1 y2 y3 y4 y5 y6 y7 y8 y9) (spec_l3Space.j2 (k + 1) y0 y1 y2 y3 y4 y5 y6 y7 y8 y9))
 | 0 => ⟨fun _ _ _ _ r h => by simp [spec_l3Space.j0] at h, fun _ _ _ _ r h => by simp [spec_l3Space.l0] at h, fun _ _ _ _ _ _ _ _ _ _ r h => by simp [spec_l3Space.j2] at h⟩
 | k + 1 => by
  obtain ⟨ih0, ih1, ih2⟩ := spec_l3Space.mono_l k
  refine ⟨?_, ?_, ?_⟩
  ·
   intro y0 y1 y2 y3
   unfold spec_l3Space.j0
   repeat' first
   | (with_reducible exact ih0 _ _ _ _)
   | (with_reducible exact ih1 _ _ _ _)
   | (with_reducible exact ih2 _ _ _ _ _ _ _ _ _ _)
   | (with_reducible exact spec_AreasOk.mono _ _)
   | (with_reducible exact spec_l2At.mono _ _ _)
   | (with_reducible exact LeO.refl _)
   | (with_reducible exact LeO.none _)
   | (with_reducible refine LeO.ite ?_ ?_)
   | (with_reducible refine LeO.bind ?_ (fun _ => ?_))
   | exact ih0 _ _ _ _
   | exact ih1 _ _ _ _
   | exact ih2 _ _ _ _ _ _ _ _ _ _
   | exact spec_AreasOk.mono _ _
   | exact spec_l2At.mono _ _ _
   | exact LeO.none _
   | refine LeO.ite ?_ ?_
   | refine LeO.bind ?_ (fun _ => ?_)
  ·
   intro y0 y1 y2 y3
   unfold spec_l3Space.l0
   repeat' first
   | (with_reducible exact ih0 _ _ _ _)
   | (with_reducible exact ih1 _ _ _ _)
   | (with_reducible exact ih2 _ _ _ _ _ _ _ _ _ _)
   | (with_reducible exact spec_AreasOk.mono _ _)
   | (with_reducible exact spec_l2At.mono _ _ _)
   | (with_reducible exact LeO.refl _)
   | (with_reducible exact LeO.none _)
   | (with_reducible refine LeO.ite ?_ ?_)
   | (with_reducible refine LeO.bind ?_ (fun _ => ?_))
   | exact ih0 _ _ _ _
   | exact ih1 _ _ _ _
   | exact ih2 _ _ _ _ _ _ _ _ _ _
   | exact spec_AreasOk.mono _ _
   | exact spec_l2At.mono _ _ _
   | exact LeO.none _
   | refine LeO.ite ?_ ?_
   | refine LeO.bind ?_ (fun _ => ?_)
  ·
   intro y0 y1 y2 y3 y4 y5 y6 y7 y8 y9
   unfold spec_l3Space.j2
   repeat' first
   | (with_reducible exact ih0 _ _ _ _)
   | (with_reducible exact ih1 _ _ _ _)
   | (with_reducible exact ih2 _ _ _ _ _ _ _ _ _ _)
   | (with_reducible exact spec_AreasOk.mono _ _)
   | (with_reducible exact spec_l2At.mono _ _ _)
   | (with_reducible exact LeO.refl _)
   | (with_reducible exact LeO.none _)
   | (with_reducible refine LeO.ite ?_ ?_)
   | (with_reducible refine LeO.bind ?_ (fun _ => ?_))
   | exact ih0 _ _ _ _
   | exact ih1 _ _ _ _
   | exact ih2 _ _ _ _ _ _ _ _ _ _
   | exact spec_AreasOk.mono _ _
   | exact spec_l2At.mono _ _ _
   | exact LeO.none _
   | refine LeO.ite ?_ ?_
   | refine LeO.bind ?_ (fun _ => ?_)
theorem spec_l3Space.mono : ∀ a0 a1 a2 k, LeO (spec_l3Space.f k a0 a1 a2) (spec_l3Space.f (k + 1) a0 a1 a2) := by
 intro a0 a1 a2 k
 obtain ⟨ih0, ih1, ih2⟩ := spec_l3Space.mono_l k
 unfold spec_l3Space.f
 repeat' first
   | (with_reducible exact ih0 _ _ _ _)
   | (with_reducible exact ih1 _ _ _ _)
   | (with_reducible exact ih2 _ _ _ _ _ _ _ _ _ _)
   | (with_reducible exact spec_AreasOk.mono _ _)
   | (with_reducible exact spec_l2At.mono _ _ _)
   | (with_reducible exact LeO.refl _)
   | (with_reducible exact LeO.none _)
   | (with_reducible refine LeO.ite ?_ ?_)
   | (with_reducible refine LeO.bind ?_ (fun _ => ?_))
   | exact ih0 _ _ _ _
   | exact ih1 _ _ _ _
   | exact ih2 _ _ _ _ _ _ _ _ _ _
   | exact spec_AreasOk.mono _ _
   | exact spec_l2At.mono _ _ _
   | exact LeO.none _
   | refine LeO.ite ?_ ?_
   | refine LeO.bind ?_ (fun _ => ?_)
set_option maxHeartbeats 8000000 in
set_option maxRecDepth 100000 in
theorem spec_l3Space.calls (k : Nat) (a0_0 : Bool) (A0_1 : Option Addr) (c0_1 : Nat) (l0_1 : List (S108)) (A0_2 : Option Addr) (c0_2 : Nat) (l0_2 : List (S65)) (r : Bool) (w : World) (hr0_1 : Kd.C k108 w A0_1 l0_1.length l0_1) (hc0_1 : l0_1.length ≤ c0_1) (hr0_2 : Kd.C k65 w A0_2 l0_2.length l0_2) (hc0_2 : l0_2.length ≤ c0_2) (h : spec_l3Space.f k a0_0 l0_1 l0_2 = some r) :
  Calls Try.prog 48 #[.agg #[.bool a0_0, .slice A0_1 l0_1.length c0_1, .slice A0_2 l0_2.length c0_2]] w fun e w' => e = .returned (.bool r) ∧ Below w.heap.size w w' := by
 have hu63 := Try.underlying63; have hu65 := Try.underlying65; have HR0_1 := Aside0.mk hr0_1; have HC0_1 := Aside0.mk hc0_1; clear hr0_1 hc0_1; have HR0_2 := Aside0.mk hr0_2; have HC0_2 := Aside0.mk hc0_2; clear hr0_2 hc0_2; have HB := Aside0.mk (Below.refl w.heap.size w); have H : (if a0_0 = true then ((spec_AreasOk.f k l0_1).bind fun t102 => (if t102 = true then (spec_l3Space.j0 k ((l0_2.length : Int) != 16) true l0_1 l0_2) else (spec_l3Space.j0 k true true l0_1 l0_2))) else (if (l0_1.length : Int) = 0 then (some ((l0_2.length : Int) == 0)) else (some false))) = some r := h; clear h
 by_cases c2 : a0_0 = true
 rotate_left
 ·
  replace c2 := Bool.eq_false_iff.mpr c2; subst c2; rw [if_neg nf_] at H
  by_cases c54 : (l0_1.length : Int) = 0
  ·
   rw [if_pos c54] at H; have c54b0 : ((l0_1.length : Int) == 0) = true := beq_iff_eq.mpr c54; have c54b1 : ((l0_1.length : Int) != 0) = false := bne_eq_false_iff_eq.mpr c54; clear c54; obtain rfl := Option.some.inj H
   go_enter Try.func48, Try.ntmps48
   go_wp2_with (first | ((with_reducible refine gate_dst (N := 1) rfl ?_); (try (refine gate_guard (by rfl) ?_; dsimp only)); refine box_event ?hg (N := 1) ?hd (cs := #[.bool false, .slice A0_1 l0_1.length c0_1, .slice A0_2 l0_2.length c0_2]) (t := 63) ?hr ?_; (case hd => rfl); (case hg => rfl); (case hr => first | (go_simp; done) | (go_simp; rfl)); intro gb101 hg w55 hbox hb; have BK101 := Aside0.mk (hbox); have GW101 := Aside0.mk ((by rw [hg]; exact (below_size (bz HB.out)) : w.heap.size ≤ gb101)); have GE101 := GW101; replace HB := Aside0.mk (below_step (bz HB.out) hb); clear hb hbox hg; obtain ⟨hcz56_0, hcz56_1, hcz56_2⟩ := cz3 BK101.out; obtain ⟨hfz56_0, hfz56_1, hfz56_2⟩ := fz3 BK101.out))
   go_ret
   exact ⟨ze, bs HB.out GE101.out⟩
  rw [if_neg c54] at H; have c54b0 : ((l0_1.length : Int) == 0) = false := beq_eq_false_iff_ne.mpr c54; have c54b1 : ((l0_1.length : Int) != 0) = true := bne_iff_ne.mpr c54
  have c54b2 : ¬ (l0_1 = []) := fun h_ => c54 (by rw [h_]; rfl)
  obtain rfl := Option.some.inj H
  go_enter Try.func48, Try.ntmps48
  go_wp2_with (first | ((with_reducible refine gate_dst (N := 1) rfl ?_); (try (refine gate_guard (by rfl) ?_; dsimp only)); refine box_event ?hg (N := 1) ?hd (cs := #[.bool false, .slice A0_1 l0_1.length c0_1, .slice A0_2 l0_2.length c0_2]) (t := 63) ?hr ?_; (case hd => rfl); (case hg => rfl); (case hr => first | (go_simp; done) | (go_simp; rfl)); intro gb101 hg w57 hbox hb; have BK101 := Aside0.mk (hbox); have GW101 := Aside0.mk ((by rw [hg]; exact (below_size (bz HB.out)) : w.heap.size ≤ gb101)); have GE101 := GW101; replace HB := Aside0.mk (below_step (bz HB.out) hb); clear hb hbox hg; obtain ⟨hcz58_0, hcz58_1, hcz58_2⟩ := cz3 BK101.out; obtain ⟨hfz58_0, hfz58_1, hfz58_2⟩ := fz3 BK101.out))
  go_ret
  exact ⟨ze, bs HB.out GE101.out⟩
 subst c2; rw [if_pos rfl] at H; have HC3 := Aside0.mk H; clear H
 go_enter Try.func48, Try.ntmps48
 go_upto_region 3 with (first | ((with_reducible refine gate_dst (N := 1) rfl ?_); (try (refine gate_guard (by rfl) ?_; dsimp only)); refine box_event ?hg (N := 1) ?hd (cs := #[.bool true, .slice A0_1 l0_1.length c0_1, .slice A0_2 l0_2.length c0_2]) (t := 63) ?hr ?_; (case hd => rfl); (case hg => rfl); (case hr => first | (go_simp; done) | (go_simp; rfl)); intro gb101 hg w4 hbox hb; have BK101 := Aside0.mk (hbox); have GW101 := Aside0.mk ((by rw [hg]; exact (below_size (bz HB.out)) : w.heap.size ≤ gb101)); have GE101 := GW101; replace HB := Aside0.mk (below_step (bz HB.out) hb); clear hb hbox hg; obtain ⟨hcz5_0, hcz5_1, hcz5_2⟩ := cz3 BK101.out; obtain ⟨hfz5_0, hfz5_1, hfz5_2⟩ := fz3 BK101.out))
 (try simp only [Act.put, List.setIfInBounds_toArray, List.set_cons_zero, List.set_cons_succ])
 go_cut [28] (fun v28 wc => ∃ (kq : Nat) (x28_2 : Bool), v28 = .bool x28_2 ∧ Aside0 (spec_l3Space.j0 kq x28_2 true l0_1 l0_2 = some r) ∧ Aside0 (kq ≤ k) ∧ Aside0 (wc.heap[gb101]? = some (.cells #[.bool true, (.slice A0_1 l0_1.length c0_1), (.slice A0_2 l0_2.length c0_2)] 63 (0, 0))) ∧ Aside0 (Below w.heap.size w wc))
 case first =>
  have H := HC3.out; clear HC3; replace H := Option.bind_eq_some_iff.mp H; obtain ⟨t102, A60, H⟩ := H; have A6 := Aside0.mk A60; clear A60
  by_cases c7 : t102 = true
  rotate_left
  ·
   replace c7 := Bool.eq_false_iff.mpr c7; subst c7; rw [if_neg nf_] at H; have H' := Aside0.mk H; clear H; obtain ⟨hcz11_0, hcz11_1, hcz11_2⟩ := cz3 BK101.out; obtain ⟨hfz11_0, hfz11_1, hfz11_2⟩ := fz3 BK101.out
   go_wp2_with (first | ((with_reducible refine gate_callee (f := 85) rfl ?_); refine goesL_ (some 21) rfl rfl Try.func85 zk rfl #[.slice A0_1 l0_1.length c0_1] rfl zm ?_; (with_reducible refine (spec_AreasOk.calls k _ _ l0_1 false _ ?side1 ?side2 A6.out).mono ?_); (case side1 => exact cz (Kd.C_below HR0_1.out HB.out)); (case side2 => exact HC0_1.out); rintro e w12 ⟨rfl, hb⟩; refine ⟨_, rfl, ?_⟩; replace BK101 := Aside0.mk (blk_below (kz BK101.out) hb); replace HB := Aside0.mk (below_step (bs HB.out GE101.out) hb); (try clear hb)))
   go_meet
   case rel => exact ⟨_, (true), zr, H', ⟨by first | omega | exact Nat.le_refl _⟩, ⟨kz (BK101.out)⟩, ⟨bs HB.out GE101.out⟩⟩
  subst c7; rw [if_pos rfl] at H; have H' := Aside0.mk H; clear H; obtain ⟨hcz8_0, hcz8_1, hcz8_2⟩ := cz3 BK101.out; obtain ⟨hfz8_0, hfz8_1, hfz8_2⟩ := fz3 BK101.out
  go_wp2_with (first | ((with_reducible refine gate_callee (f := 85) rfl ?_); refine goesL_ (some 21) rfl rfl Try.func85 zk rfl #[.slice A0_1 l0_1.length c0_1] rfl zm ?_; (with_reducible refine (spec_AreasOk.calls k _ _ l0_1 true _ ?side1 ?side2 A6.out).mono ?_); (case side1 => exact cz (Kd.C_below HR0_1.out HB.out)); (case side2 => exact HC0_1.out); rintro e w9 ⟨rfl, hb⟩; refine ⟨_, rfl, ?_⟩; replace BK101 := Aside0.mk (blk_below (kz BK101.out) hb); replace HB := Aside0.mk (below_step (bs HB.out GE101.out) hb); (try clear hb); obtain ⟨hcz10_0, hcz10_1, hcz10_2⟩ := cz3 BK101.out; obtain ⟨hfz10_0, hfz10_1, hfz10_2⟩ := fz3 BK101.out))
  go_meet
  case rel => exact ⟨_, (((l0_2.length : Int) != 16)), zr, H', ⟨by first | omega | exact Nat.le_refl _⟩, ⟨kz (BK101.out)⟩, ⟨bs HB.out GE101.out⟩⟩
 case rest =>
  clear HC3
  (try clear c2); (try clear hcz5_0); (try clear hcz5_1); (try clear hcz5_2); (try clear hfz5_0); (try clear hfz5_1); (try clear hfz5_2)
  obtain ⟨kq, x28_2, rfl, HA, HJ2, BK101, HB⟩ := hcut
  cases kq with
  | zero => exact absurd HA.out (by simp [spec_l3Space.j0])
  | succ kj2 =>
   have H := HA.out; clear HA; simp only [spec_l3Space.j0] at H
   by_cases c13 : x28_2 = true
   ·
    subst c13; rw [if_pos rfl] at H; obtain rfl := Option.some.inj H
    go_wp2
    go_ret
    exact ⟨ze, bs HB.out GE101.out⟩
   replace c13 := Bool.eq_false_iff.mpr c13; subst c13; rw [if_neg nf_] at H; have H' := Aside0.mk H; clear H
   go_wp2
   go_loopg [3] kj2 (fun kq v3 w' => ∃ (x3_2 : Int), v3 = .int .i64 x3_2 ∧ Aside0 (spec_l3Space.l0 kq x3_2 true l0_1 l0_2 = some r) ∧ Aside0 (kq ≤ kj2) ∧ Aside0 (w'.heap[gb101]? = some (.cells #[.bool true, (.slice A0_1 l0_1.length c0_1), (.slice A0_2 l0_2.length c0_2)] 63 (0, 0))) ∧ Aside0 (Below w.heap.size w w'))
   case atStart => exact ⟨(0), zr, H', ⟨Nat.le_refl _⟩, ⟨kz (BK101.out)⟩, ⟨bs HB.out GE101.out⟩⟩
   case round =>
    clear H'
    (try clear c2); (try clear c13); (try clear hcz5_0); (try clear hcz5_1); (try clear hcz5_2); (try clear hfz5_0); (try clear hfz5_1); (try clear hfz5_2)
    obtain ⟨x3_2, rfl, HA, HK2, BK101, HB⟩ := hrel
    cases gk with
    | zero => exact absurd HA.out (by simp [spec_l3Space.l0])
    | succ k2 =>
     have H := HA.out; clear HA; simp only [spec_l3Space.l0] at H
     by_cases c14 : x3_2 < 16
     rotate_left
     ·
      rw [if_neg c14] at H; have c14b0 : decide (x3_2 < 16) = false := decide_eq_false c14; clear c14; obtain rfl := Option.some.inj H
      go_wp2
      go_ret
      exact ⟨ze, bs HB.out GE101.out⟩
     rw [if_pos c14] at H; have c14b0 : decide (x3_2 < 16) = true := decide_eq_true c14; clear c14
     by_cases c15 : 0 ≤ x3_2
     rotate_left
     ·
      rw [if_neg c15] at H
      exact absurd H (by simp)
     rw [if_pos c15] at H; have c15b0 : decide (0 ≤ x3_2) = true := decide_eq_true c15; clear c15
     by_cases c16 : x3_2 < (l0_2.length : Int)
     rotate_left
     ·
      rw [if_neg c16] at H
      exact absurd H (by simp)
     rw [if_pos c16] at H; have c16b0 : decide (x3_2 < (l0_2.length : Int)) = true := decide_eq_true c16; clear c16; replace H := Option.bind_eq_some_iff.mp H; obtain ⟨t105, A170, H⟩ := H; have A17 := Aside0.mk A170; clear A170
     by_cases c18 : ((rd_T65 l0_2 x3_2).f0) = 0
     ·
      rw [if_pos c18] at H; have c18b0 : (((rd_T65 l0_2 x3_2).f0) == 0) = true := beq_iff_eq.mpr c18; have c18b1 : (((rd_T65 l0_2 x3_2).f0) != 0) = false := bne_eq_false_iff_eq.mpr c18; clear c18
      by_cases c19 : (!(((rd_T65 l0_2 x3_2).f0) == 0) || (!(((rd_T65 l0_2 x3_2).f1) == 0) || (((rd_T65 l0_2 x3_2).f2) || (((rd_T65 l0_2 x3_2).f3))))) = true
      ·
       rw [if_pos c19] at H; have c19b0 : (!(((rd_T65 l0_2 x3_2).f0) == 0) || (!(((rd_T65 l0_2 x3_2).f1) == 0) || (((rd_T65 l0_2 x3_2).f2) || (((rd_T65 l0_2 x3_2).f3))))) = true := c19; have c19z := c19b0; simp only [c18b0, Bool.not_true, Bool.false_or] at c19z; clear c19; obtain rfl := Option.some.inj H; obtain ⟨hcz20_0, hcz20_1, hcz20_2⟩ := cz3 BK101.out; obtain ⟨hfz20_0, hfz20_1, hfz20_2⟩ := fz3 BK101.out; have p103 : 0 ≤ (x3_2 : Int) := of_decide_eq_true zs; have q103 : x3_2 < (l0_2.length : Int) := of_decide_eq_true zs; obtain ⟨ad103, e103, hx103_0, hx103_1, hx103_2, hx103_3⟩ := at_T65 HR0_2.out x3_2 p103 q103; cases e103; replace hx103_0 := pw_cell_below HB.out hx103_0; replace hx103_1 := pw_cell_below HB.out hx103_1; replace hx103_2 := pw_cell_below HB.out hx103_2; replace hx103_3 := pw_cell_below HB.out hx103_3; replace p103 := eq_true p103; replace q103 := eq_true q103
       go_wp2_with (first | ((with_reducible refine gate_dst (N := 4) rfl ?_); (try (refine gate_guard (by rfl) ?_; dsimp only)); refine box_event ?hg (N := 4) ?hd (cs := #[.int .i64 0, .int .i64 0, .bool false, .bool false]) (t := 65) ?hr ?_; (case hd => rfl); (case hg => rfl); (case hr => first | (go_simp; done) | (go_simp; rfl)); intro gb104 hg w21 hbox hb; have BK104 := Aside0.mk (hbox); have GW104 := Aside0.mk ((by rw [hg]; exact (below_size (bs HB.out GE101.out)) : w.heap.size ≤ gb104)); have GE104 := GW104; replace HB := Aside0.mk (below_step (bs HB.out GE101.out) hb); have NB101_104 := Aside0.mk ((by rw [hg]; exact Nat.ne_of_lt (blk_lt (kz BK101.out)) : gb101 ≠ gb104)); have NB104_101 := Aside0.mk NB101_104.out.symm; replace BK101 := Aside0.mk (blk_below (kz BK101.out) hb); clear hb hbox hg; have hnb22 := NB104_101.out; have hnc22 := NB101_104.out; obtain ⟨hcz23_0, hcz23_1, hcz23_2, hcz23_3⟩ := cz4 BK104.out; obtain ⟨hfz23_0, hfz23_1, hfz23_2, hfz23_3⟩ := fz4 BK104.out; obtain ⟨hcz24_0, hcz24_1, hcz24_2⟩ := cz3 BK101.out; obtain ⟨hfz24_0, hfz24_1, hfz24_2⟩ := fz3 BK101.out) | ((with_reducible refine gate_callee (f := 38) rfl ?_); refine goesL_ (some 41) rfl rfl Try.func38 zk rfl #[.slice A0_1 l0_1.length c0_1, .int .i64 x3_2] rfl zm ?_; (with_reducible refine (spec_l2At.calls k2 _ _ l0_1 x3_2 t105 _ ?side1 ?side2 A17.out).mono ?_); (case side1 => exact Kd.C_below HR0_1.out (bs2 HB.out GE101.out GE104.out)); (case side2 => exact HC0_1.out); rintro e w' ⟨rfl, ⟨nd, rfl⟩⟩; refine ⟨_, rfl, ?_⟩))
       go_ret
       exact ⟨ze, bs2 HB.out GE101.out GE104.out⟩
      rw [if_neg c19] at H
      have c19b0 : (!(((rd_T65 l0_2 x3_2).f0) == 0) || (!(((rd_T65 l0_2 x3_2).f1) == 0) || (((rd_T65 l0_2 x3_2).f2) || (((rd_T65 l0_2 x3_2).f3))))) = false := by simpa using c19
      have c19z := c19b0; simp only [c18b0, Bool.not_true, Bool.false_or] at c19z
      clear c19; have H' := Aside0.mk H; clear H; obtain ⟨hcz25_0, hcz25_1, hcz25_2⟩ := cz3 BK101.out; obtain ⟨hfz25_0, hfz25_1, hfz25_2⟩ := fz3 BK101.out; have p103 : 0 ≤ (x3_2 : Int) := of_decide_eq_true zs; have q103 : x3_2 < (l0_2.length : Int) := of_decide_eq_true zs; obtain ⟨ad103, e103, hx103_0, hx103_1, hx103_2, hx103_3⟩ := at_T65 HR0_2.out x3_2 p103 q103; cases e103; replace hx103_0 := pw_cell_below HB.out hx103_0; replace hx103_1 := pw_cell_below HB.out hx103_1; replace hx103_2 := pw_cell_below HB.out hx103_2; replace hx103_3 := pw_cell_below HB.out hx103_3; replace p103 := eq_true p103; replace q103 := eq_true q103
      go_wp2_with (first | ((with_reducible refine gate_dst (N := 4) rfl ?_); (try (refine gate_guard (by rfl) ?_; dsimp only)); refine box_event ?hg (N := 4) ?hd (cs := #[.int .i64 0, .int .i64 0, .bool false, .bool false]) (t := 65) ?hr ?_; (case hd => rfl); (case hg => rfl); (case hr => first | (go_simp; done) | (go_simp; rfl)); intro gb104 hg w26 hbox hb; have BK104 := Aside0.mk (hbox); have GW104 := Aside0.mk ((by rw [hg]; exact (below_size (bs HB.out GE101.out)) : w.heap.size ≤ gb104)); have GE104 := GW104; replace HB := Aside0.mk (below_step (bs HB.out GE101.out) hb); have NB101_104 := Aside0.mk ((by rw [hg]; exact Nat.ne_of_lt (blk_lt (kz BK101.out)) : gb101 ≠ gb104)); have NB104_101 := Aside0.mk NB101_104.out.symm; replace BK101 := Aside0.mk (blk_below (kz BK101.out) hb); clear hb hbox hg; have hnb27 := NB104_101.out; have hnc27 := NB101_104.out; obtain ⟨hcz28_0, hcz28_1, hcz28_2, hcz28_3⟩ := cz4 BK104.out; obtain ⟨hfz28_0, hfz28_1, hfz28_2, hfz28_3⟩ := fz4 BK104.out; obtain ⟨hcz29_0, hcz29_1, hcz29_2⟩ := cz3 BK101.out; obtain ⟨hfz29_0, hfz29_1, hfz29_2⟩ := fz3 BK101.out) | ((with_reducible refine gate_callee (f := 38) rfl ?_); refine goesL_ (some 41) rfl rfl Try.func38 zk rfl #[.slice A0_1 l0_1.length c0_1, .int .i64 x3_2] rfl zm ?_; (with_reducible refine (spec_l2At.calls k2 _ _ l0_1 x3_2 t105 _ ?side1 ?side2 A17.out).mono ?_); (case side1 => exact Kd.C_below HR0_1.out (bs2 HB.out GE101.out GE104.out)); (case side2 => exact HC0_1.out); rintro e w' ⟨rfl, ⟨nd, rfl⟩⟩; refine ⟨_, rfl, ?_⟩))
      go_roundg k2
      case measure => have := HJ2.out; have := HK2.out; omega
      case rel => exact ⟨(wrap64 (x3_2 + 1)), zr, H', ⟨by have := HJ2.out; have := HK2.out; omega⟩, ⟨by (with_reducible repeat (first | refine blk_drewN ?_ _ | refine blk_drew ?_ | refine blk_alloc ?_ _ | refine blk_far ?_ NB101_104.out _)); exact BK101.out⟩, ⟨bs2 HB.out GE101.out GE104.out⟩⟩
     rw [if_neg c18] at H; have c18b0 : (((rd_T65 l0_2 x3_2).f0) == 0) = false := beq_eq_false_iff_ne.mpr c18; have c18b1 : (((rd_T65 l0_2 x3_2).f0) != 0) = true := bne_iff_ne.mpr c18; have HC30 := Aside0.mk H; clear H; obtain ⟨hcz31_0, hcz31_1, hcz31_2⟩ := cz3 BK101.out; obtain ⟨hfz31_0, hfz31_1, hfz31_2⟩ := fz3 BK101.out; have p103 : 0 ≤ (x3_2 : Int) := of_decide_eq_true zs; have q103 : x3_2 < (l0_2.length : Int) := of_decide_eq_true zs; obtain ⟨ad103, e103, hx103_0, hx103_1, hx103_2, hx103_3⟩ := at_T65 HR0_2.out x3_2 p103 q103; cases e103; replace hx103_0 := pw_cell_below HB.out hx103_0; replace hx103_1 := pw_cell_below HB.out hx103_1; replace hx103_2 := pw_cell_below HB.out hx103_2; replace hx103_3 := pw_cell_below HB.out hx103_3; replace p103 := eq_true p103; replace q103 := eq_true q103
     go_upto_region 13 with (first | ((with_reducible refine gate_dst (N := 4) rfl ?_); (try (refine gate_guard (by rfl) ?_; dsimp only)); refine box_event ?hg (N := 4) ?hd (cs := #[.int .i64 0, .int .i64 0, .bool false, .bool false]) (t := 65) ?hr ?_; (case hd => rfl); (case hg => rfl); (case hr => first | (go_simp; done) | (go_simp; rfl)); intro gb104 hg w32 hbox hb; have BK104 := Aside0.mk (hbox); have GW104 := Aside0.mk ((by rw [hg]; exact (below_size (bs HB.out GE101.out)) : w.heap.size ≤ gb104)); have GE104 := GW104; replace HB := Aside0.mk (below_step (bs HB.out GE101.out) hb); have NB101_104 := Aside0.mk ((by rw [hg]; exact Nat.ne_of_lt (blk_lt (kz BK101.out)) : gb101 ≠ gb104)); have NB104_101 := Aside0.mk NB101_104.out.symm; replace BK101 := Aside0.mk (blk_below (kz BK101.out) hb); clear hb hbox hg; have hnb33 := NB104_101.out; have hnc33 := NB101_104.out; obtain ⟨hcz34_0, hcz34_1, hcz34_2, hcz34_3⟩ := cz4 BK104.out; obtain ⟨hfz34_0, hfz34_1, hfz34_2, hfz34_3⟩ := fz4 BK104.out; obtain ⟨hcz35_0, hcz35_1, hcz35_2⟩ := cz3 BK101.out; obtain ⟨hfz35_0, hfz35_1, hfz35_2⟩ := fz3 BK101.out) | ((with_reducible refine gate_callee (f := 38) rfl ?_); refine goesL_ (some 41) rfl rfl Try.func38 zk rfl #[.slice A0_1 l0_1.length c0_1, .int .i64 x3_2] rfl zm ?_; (with_reducible refine (spec_l2At.calls k2 _ _ l0_1 x3_2 t105 _ ?side1 ?side2 A17.out).mono ?_); (case side1 => exact Kd.C_below HR0_1.out (bs2 HB.out GE101.out GE104.out)); (case side2 => exact HC0_1.out); rintro e w' ⟨rfl, ⟨nd, rfl⟩⟩; refine ⟨_, rfl, ?_⟩))
     (try simp only [Act.put, List.setIfInBounds_toArray, List.set_cons_zero, List.set_cons_succ])
     go_cut [49] (fun v49 wc => ∃ (kq : Nat) (x49_29 : Bool), v49 = .bool x49_29 ∧ Aside0 (spec_l3Space.j2 kq x3_2 t105 x49_29 true l0_1 l0_2 ((rd_T65 l0_2 x3_2).f0) ((rd_T65 l0_2 x3_2).f1) ((rd_T65 l0_2 x3_2).f2) ((rd_T65 l0_2 x3_2).f3) = some r) ∧ Aside0 (kq ≤ k2) ∧ Aside0 (wc.heap[gb101]? = some (.cells #[.bool true, (.slice A0_1 l0_1.length c0_1), (.slice (some ad103) l0_2.length c0_2)] 63 (0, 0))) ∧ Aside0 (wc.heap[gb104]? = some (.cells #[.int .i64 ((rd_T65 l0_2 x3_2).f0), .int .i64 ((rd_T65 l0_2 x3_2).f1), .bool ((rd_T65 l0_2 x3_2).f2), .bool ((rd_T65 l0_2 x3_2).f3)] 65 (0, 0))) ∧ Aside0 (Below w.heap.size w wc))
     case first =>
      have H := HC30.out; clear HC30
      by_cases c36 : t105 < 0
      ·
       rw [if_pos c36] at H; have c36b0 : decide (t105 < 0) = true := decide_eq_true c36; clear c36
       (first | rw [c36b0] | (simp only [i64_w, i32_w]; rw [c36b0]) | skip)
       have H' := Aside0.mk H; clear H
       go_wp2
       go_meet
       case rel => exact ⟨_, (true), zr, H', ⟨by have := HJ2.out; have := HK2.out; first | omega | exact Nat.le_refl _⟩, ⟨by (with_reducible repeat (first | refine blk_drewN ?_ _ | refine blk_drew ?_ | refine blk_alloc ?_ _ | refine blk_far ?_ NB101_104.out _)); exact BK101.out⟩, ⟨by (with_reducible repeat (first | refine blk_drewN ?_ _ | refine blk_drew ?_ | refine blk_alloc ?_ _)); refine blk_put (cs := #[.int .i64 ((rd_T65 l0_2 x3_2).f0), .int .i64 ((rd_T65 l0_2 x3_2).f1), .bool ((rd_T65 l0_2 x3_2).f2), .bool false]) ?_ 3 _ rfl; (with_reducible repeat (first | refine blk_drewN ?_ _ | refine blk_drew ?_ | refine blk_alloc ?_ _)); refine blk_put (cs := #[.int .i64 ((rd_T65 l0_2 x3_2).f0), .int .i64 ((rd_T65 l0_2 x3_2).f1), .bool false, .bool false]) ?_ 2 _ rfl; (with_reducible repeat (first | refine blk_drewN ?_ _ | refine blk_drew ?_ | refine blk_alloc ?_ _)); refine blk_put (cs := #[.int .i64 ((rd_T65 l0_2 x3_2).f0), .int .i64 0, .bool false, .bool false]) ?_ 1 _ rfl; (with_reducible repeat (first | refine blk_drewN ?_ _ | refine blk_drew ?_ | refine blk_alloc ?_ _)); refine blk_put (cs := #[.int .i64 0, .int .i64 0, .bool false, .bool false]) ?_ 0 _ rfl; (with_reducible repeat (first | refine blk_drewN ?_ _ | refine blk_drew ?_ | refine blk_alloc ?_ _)); exact BK104.out⟩, ⟨bs2 HB.out GE101.out GE104.out⟩⟩
      rw [if_neg c36] at H; have c36b0 : decide (t105 < 0) = false := decide_eq_false c36; clear c36
      (first | rw [c36b0] | (simp only [i64_w, i32_w]; rw [c36b0]) | skip)
      replace H := Option.bind_eq_some_iff.mp H; obtain ⟨t106, A370, H⟩ := H; have A37 := Aside0.mk A370; clear A370; have H' := Aside0.mk H; clear H; have hnb38 := NB104_101.out; have hnc38 := NB101_104.out; obtain ⟨hcz39_0, hcz39_1, hcz39_2, hcz39_3⟩ := cz4 BK104.out; obtain ⟨hfz39_0, hfz39_1, hfz39_2, hfz39_3⟩ := fz4 BK104.out
      go_wp2_with (first | (go_at_call 47; (with_reducible refine (spec_l6In.calls ((rd_T65 l0_2 x3_2).f0) 1 2 t106 _ A37.out).mono ?_); rintro e w' ⟨rfl, ⟨nd, rfl⟩⟩))
      go_meet
      case rel => exact ⟨_, (!t106), zr, H', ⟨by have := HJ2.out; have := HK2.out; first | omega | exact Nat.le_refl _⟩, ⟨by (with_reducible repeat (first | refine blk_drewN ?_ _ | refine blk_drew ?_ | refine blk_alloc ?_ _ | refine blk_far ?_ NB101_104.out _)); exact BK101.out⟩, ⟨by (with_reducible repeat (first | refine blk_drewN ?_ _ | refine blk_drew ?_ | refine blk_alloc ?_ _)); refine blk_put (cs := #[.int .i64 ((rd_T65 l0_2 x3_2).f0), .int .i64 ((rd_T65 l0_2 x3_2).f1), .bool ((rd_T65 l0_2 x3_2).f2), .bool false]) ?_ 3 _ rfl; (with_reducible repeat (first | refine blk_drewN ?_ _ | refine blk_drew ?_ | refine blk_alloc ?_ _)); refine blk_put (cs := #[.int .i64 ((rd_T65 l0_2 x3_2).f0), .int .i64 ((rd_T65 l0_2 x3_2).f1), .bool false, .bool false]) ?_ 2 _ rfl; (with_reducible repeat (first | refine blk_drewN ?_ _ | refine blk_drew ?_ | refine blk_alloc ?_ _)); refine blk_put (cs := #[.int .i64 ((rd_T65 l0_2 x3_2).f0), .int .i64 0, .bool false, .bool false]) ?_ 1 _ rfl; (with_reducible repeat (first | refine blk_drewN ?_ _ | refine blk_drew ?_ | refine blk_alloc ?_ _)); refine blk_put (cs := #[.int .i64 0, .int .i64 0, .bool false, .bool false]) ?_ 0 _ rfl; (with_reducible repeat (first | refine blk_drewN ?_ _ | refine blk_drew ?_ | refine blk_alloc ?_ _)); exact BK104.out⟩, ⟨bs2 HB.out GE101.out GE104.out⟩⟩
     case rest =>
      clear HC30
      (try clear c2); (try clear c13); (try clear c14); (try clear c14b0); (try clear c15); (try clear c15b0); (try clear c16); (try clear c16b0); (try clear c18); (try clear c18b0); (try clear c18b1); (try clear hcz31_0)
      (try clear hcz31_1); (try clear hcz31_2); (try clear hcz34_0); (try clear hcz34_1); (try clear hcz34_2); (try clear hcz34_3); (try clear hcz35_0); (try clear hcz35_1); (try clear hcz35_2); (try clear hcz5_0); (try clear hcz5_1); (try clear hcz5_2)
      (try clear hfz31_0); (try clear hfz31_1); (try clear hfz31_2); (try clear hfz34_0); (try clear hfz34_1); (try clear hfz34_2); (try clear hfz34_3); (try clear hfz35_0); (try clear hfz35_1); (try clear hfz35_2); (try clear hfz5_0); (try clear hfz5_1)
      (try clear hfz5_2); (try clear hx103_0); (try clear hx103_1); (try clear hx103_2); (try clear hx103_3); (try clear p103); (try clear q103)
      obtain ⟨kq, x49_29, rfl, HA, HJ29, BK101, BK104, HB⟩ := hcut
      cases kq with
      | zero => exact absurd HA.out (by simp [spec_l3Space.j2])
      | succ kj29 =>
       have H := HA.out; clear HA; simp only [spec_l3Space.j2] at H
       by_cases c40 : x49_29 = true
       ·
        subst c40; rw [if_pos rfl] at H; obtain rfl := Option.some.inj H
        go_wp2
        go_ret
        exact ⟨ze, bs2 HB.out GE101.out GE104.out⟩
       replace c40 := Bool.eq_false_iff.mpr c40; subst c40; rw [if_neg nf_] at H
       by_cases c41 : 0 ≤ t105
       rotate_left
       ·
        rw [if_neg c41] at H
        exact absurd H (by simp)
       rw [if_pos c41] at H; have c41b0 : decide (0 ≤ t105) = true := decide_eq_true c41; clear c41
       by_cases c42 : t105 < (l0_1.length : Int)
       rotate_left
       ·
        rw [if_neg c42] at H
        exact absurd H (by simp)
       rw [if_pos c42] at H; have c42b0 : decide (t105 < (l0_1.length : Int)) = true := decide_eq_true c42; clear c42; obtain ⟨bq43, hbq43⟩ : ∃ b_ : Bool, b_ = ((rd_T108 l0_1 t105).f3) := ⟨_, rfl⟩
       replace H : (if bq43 = true then (if ((rd_T65 l0_2 x3_2).f2) = true then (spec_l3Space.l0 kj29 (wrap64 (x3_2 + 1)) true l0_1 l0_2) else (some false)) else (spec_l3Space.l0 kj29 (wrap64 (x3_2 + 1)) true l0_1 l0_2)) = some r := by rw [← hbq43] at H; exact H
       have Nbq43 := Aside0.mk hbq43; clear hbq43
       by_cases c44 : bq43 = true
       rotate_left
       ·
        replace c44 := Bool.eq_false_iff.mpr c44; subst c44; rw [if_neg nf_] at H; have H' := Aside0.mk H; clear H; have hnb52 := NB101_104.out; have hnc52 := NB104_101.out; obtain ⟨hcz53_0, hcz53_1, hcz53_2⟩ := cz3 BK101.out; obtain ⟨hfz53_0, hfz53_1, hfz53_2⟩ := fz3 BK101.out; have p107 : 0 ≤ (t105 : Int) := of_decide_eq_true zs; have q107 : t105 < (l0_1.length : Int) := of_decide_eq_true zs; obtain ⟨ad107, e107, hx107_0, hx107_1, hx107_2, hx107_3⟩ := at_T108 HR0_1.out t105 p107 q107; (try rw [← Nbq43.out] at hx107_2); (try rw [← Nbq43.out] at hx107_3); cases e107; replace hx107_0 := pw_cell_below HB.out hx107_0; replace hx107_1 := pw_cell_below HB.out hx107_1; replace hx107_2 := pw_cell_below HB.out hx107_2; replace hx107_3 := pw_cell_below HB.out hx107_3; replace p107 := eq_true p107; replace q107 := eq_true q107
        go_wp2
        go_roundg kj29
        case measure => have := HJ2.out; have := HK2.out; have := HJ29.out; omega
        case rel => exact ⟨(wrap64 (x3_2 + 1)), zr, H', ⟨by have := HJ2.out; have := HK2.out; have := HJ29.out; omega⟩, ⟨kz (BK101.out)⟩, ⟨bs2 HB.out GE101.out GE104.out⟩⟩
       subst c44; rw [if_pos rfl] at H
       by_cases c45 : ((rd_T65 l0_2 x3_2).f2) = true
       rotate_left
       ·
        rw [if_neg c45] at H
        have c45b0 : ((rd_T65 l0_2 x3_2).f2) = false := by simpa using c45
        clear c45; obtain rfl := Option.some.inj H; have hnb49 := NB101_104.out; have hnc49 := NB104_101.out; obtain ⟨hcz50_0, hcz50_1, hcz50_2⟩ := cz3 BK101.out; obtain ⟨hfz50_0, hfz50_1, hfz50_2⟩ := fz3 BK101.out; have p107 : 0 ≤ (t105 : Int) := of_decide_eq_true zs; have q107 : t105 < (l0_1.length : Int) := of_decide_eq_true zs; obtain ⟨ad107, e107, hx107_0, hx107_1, hx107_2, hx107_3⟩ := at_T108 HR0_1.out t105 p107 q107; (try rw [← Nbq43.out] at hx107_2); (try rw [← Nbq43.out] at hx107_3); cases e107; replace hx107_0 := pw_cell_below HB.out hx107_0; replace hx107_1 := pw_cell_below HB.out hx107_1; replace hx107_2 := pw_cell_below HB.out hx107_2; replace hx107_3 := pw_cell_below HB.out hx107_3; replace p107 := eq_true p107; replace q107 := eq_true q107; obtain ⟨hcz51_0, hcz51_1, hcz51_2, hcz51_3⟩ := cz4 BK104.out; obtain ⟨hfz51_0, hfz51_1, hfz51_2, hfz51_3⟩ := fz4 BK104.out
        go_wp2
        go_ret
        exact ⟨ze, bs2 HB.out GE101.out GE104.out⟩
       rw [if_pos c45] at H; have c45b0 : ((rd_T65 l0_2 x3_2).f2) = true := c45; clear c45; have H' := Aside0.mk H; clear H; have hnb46 := NB101_104.out; have hnc46 := NB104_101.out; obtain ⟨hcz47_0, hcz47_1, hcz47_2⟩ := cz3 BK101.out; obtain ⟨hfz47_0, hfz47_1, hfz47_2⟩ := fz3 BK101.out; have p107 : 0 ≤ (t105 : Int) := of_decide_eq_true zs; have q107 : t105 < (l0_1.length : Int) := of_decide_eq_true zs; obtain ⟨ad107, e107, hx107_0, hx107_1, hx107_2, hx107_3⟩ := at_T108 HR0_1.out t105 p107 q107; (try rw [← Nbq43.out] at hx107_2); (try rw [← Nbq43.out] at hx107_3); cases e107; replace hx107_0 := pw_cell_below HB.out hx107_0; replace hx107_1 := pw_cell_below HB.out hx107_1; replace hx107_2 := pw_cell_below HB.out hx107_2; replace hx107_3 := pw_cell_below HB.out hx107_3; replace p107 := eq_true p107; replace q107 := eq_true q107; obtain ⟨hcz48_0, hcz48_1, hcz48_2, hcz48_3⟩ := cz4 BK104.out; obtain ⟨hfz48_0, hfz48_1, hfz48_2, hfz48_3⟩ := fz4 BK104.out
       go_wp2
       go_roundg kj29
       case measure => have := HJ2.out; have := HK2.out; have := HJ29.out; omega
       case rel => exact ⟨(wrap64 (x3_2 + 1)), zr, H', ⟨by have := HJ2.out; have := HK2.out; have := HJ29.out; omega⟩, ⟨kz (BK101.out)⟩, ⟨bs2 HB.out GE101.out GE104.out⟩⟩

end Go.Proofs.Ythoapmfpokohnaa.P

namespace Go.Proofs.Ythoapmfpokohnaa.P
open Go.RowKit Go.Proofs.YthoapmfpokohnaaW.PrintWords Go.Proofs.YthoapmfpokohnaaW.PrintLast Go.Proofs.YthoapmfpokohnaaW.PrintMore
attribute [local go_sem] max2_int min2_int max_two min_two max_three min_three max_four min_four Q.cell_set_map Q.str_gtr Q.str_geq Q.str_leq
set_option linter.unusedVariables false
set_option linter.unusedSimpArgs false

/-! ### spec_l3Told: function 49 -/
-- IMPORT Derived.Test.YthoapmfpokohnaaQSem9
mutual
def spec_l3Told.l0 : Nat → Int → Int → Int → Int → List ByteArray → List Int → List ByteArray → List Int → List (S63) → Int → Option (Int)
 | 0, _, _, _, _, _, _, _, _, _, _ => none
 | k + 1, x1, x2, x7, x8, x102000, x102001, x102002, x102003, x102004, x102005 => if x8 < (x102004.length : Int) then (spec_l3Told.l1 k x1 x2 x7 x8 0 x102000 x102001 x102002 x102003 x102004 x102005) else (some x7)
def spec_l3Told.l1 : Nat → Int → Int → Int → Int → Int → List ByteArray → List Int → List ByteArray → List Int → List (S63) → Int → Option (Int)
 | 0, _, _, _, _, _, _, _, _, _, _, _ => none
 | k + 1, x1, x2, x7, x8, x9, x102000, x102001, x102002, x102003, x102004, x102005 => if 0 ≤ x8 then (if x8 < (x102004.length : Int) then (if x9 < (((rd_T63 x102004 x8).f2).length : Int) then (if 0 ≤ x9 then (if ((rd_T65 ((rd_T63 x102004 x8).f2) x9).f0) = x1 then (if ((rd_T65 ((rd_T63 x102004 x8).f2) x9).f1) = x2 then (spec_l3Told.l1 k x1 x2 (wrap64 (x7 + 1)) x8 (wrap64 (x9 + 1)) x102000 x102001 x102002 x102003 x102004 x102005) else (spec_l3Told.l1 k x1 x2 x7 x8 (wrap64 (x9 + 1)) x102000 x102001 x102002 x102003 x102004 x102005)) else (spec_l3Told.l1 k x1 x2 x7 x8 (wrap64 (x9 + 1)) x102000 x102001 x102002 x102003 x102004 x102005)) else (none)) else (spec_l3Told.l0 k x1 x2 x7 (wrap64 (x8 + 1)) x102000 x102001 x102002 x102003 x102004 x102005)) else (none)) else (none)
end
def spec_l3Told.f (k : Nat) (l0_0 : List ByteArray) (l0_1 : List Int) (l0_2 : List ByteArray) (l0_3 : List Int) (l0_4 : List (S63)) (a0_5 : Int) (a1 : Int) (a2 : Int) : Option (Int) := spec_l3Told.l0 k a1 a2 0 0 l0_0 l0_1 l0_2 l0_3 l0_4 a0_5
theorem spec_l3Told.mono_l : ∀ k, (∀ y0 y1 y2 y3 y4 y5 y6 y7 y8 y9, LeO (spec_l3Told.l0 k y0 y1 y2 y3 y4 y5 y6 y7 y8 y9) (spec_l3Told.l0 (k + 1) y0 y1 y2 y3 y4 y5 y6 y7 y8 y9)) ∧ (∀ y0 y1 y2 y3 y4 y5 y6 y7 y8 y9 y10, LeO (spec_l3Told.l1 k y0 y1 y2 y3 y4 y5 y6 y7 y8 y9 y10) (spec_l3Told.l1 (k + 1) y0 y1 y2 y3 y4 y5 y6 y7 y8 y9 y10))
 | 0 => ⟨fun _ _ _ _ _ _ _ _ _ _ r h => by simp [spec_l3Told.l0] at h, fun _ _ _ _ _ _ _ _ _ _ _ r h => by simp [spec_l3Told.l1] at h⟩
 | k + 1 => by
  obtain ⟨ih0, ih1⟩ := spec_l3Told.mono_l k
  refine ⟨?_, ?_⟩
  ·
   intro y0 y1 y2 y3 y4 y5 y6 y7 y8 y9
   unfold spec_l3Told.l0
   repeat' first
   | (with_reducible exact ih0 _ _ _ _ _ _ _ _ _ _)
   | (with_reducible exact ih1 _ _ _ _ _ _ _ _ _ _ _)
   | (with_reducible exact LeO.refl _)
   | (with_reducible exact LeO.none _)
   | (with_reducible refine LeO.ite ?_ ?_)
   | (with_reducible refine LeO.bind ?_ (fun _ => ?_))
   | exact ih0 _ _ _ _ _ _ _ _ _ _
   | exact ih1 _ _ _ _ _ _ _ _ _ _ _
   | exact LeO.none _
   | refine LeO.ite ?_ ?_
   | refine LeO.bind ?_ (fun _ => ?_)
  ·
   intro y0 y1 y2 y3 y4 y5 y6 y7 y8 y9 y10
   unfold spec_l3Told.l1
   repeat' first
   | (with_reducible exact ih0 _ _ _ _ _ _ _ _ _ _)
   | (with_reducible exact ih1 _ _ _ _ _ _ _ _ _ _ _)
   | (with_reducible exact LeO.refl _)
   | (with_reducible exact LeO.none _)
   | (with_reducible refine LeO.ite ?_ ?_)
   | (with_reducible refine LeO.bind ?_ (fun _ => ?_))
   | exact ih0 _ _ _ _ _ _ _ _ _ _
   | exact ih1 _ _ _ _ _ _ _ _ _ _ _
   | exact LeO.none _
   | refine LeO.ite ?_ ?_
   | refine LeO.bind ?_ (fun _ => ?_)
theorem spec_l3Told.mono : ∀ a0 a1 a2 a3 a4 a5 a6 a7 k, LeO (spec_l3Told.f k a0 a1 a2 a3 a4 a5 a6 a7) (spec_l3Told.f (k + 1) a0 a1 a2 a3 a4 a5 a6 a7) := by
 intro a0 a1 a2 a3 a4 a5 a6 a7 k
 obtain ⟨ih0, ih1⟩ := spec_l3Told.mono_l k
 unfold spec_l3Told.f
 repeat' first
   | (with_reducible exact ih0 _ _ _ _ _ _ _ _ _ _)
   | (with_reducible exact ih1 _ _ _ _ _ _ _ _ _ _ _)
   | (with_reducible exact LeO.refl _)
   | (with_reducible exact LeO.none _)
   | (with_reducible refine LeO.ite ?_ ?_)
   | (with_reducible refine LeO.bind ?_ (fun _ => ?_))
   | exact ih0 _ _ _ _ _ _ _ _ _ _
   | exact ih1 _ _ _ _ _ _ _ _ _ _ _
   | exact LeO.none _
   | refine LeO.ite ?_ ?_
   | refine LeO.bind ?_ (fun _ => ?_)
set_option maxHeartbeats 8000000 in
set_option maxRecDepth 100000 in
theorem spec_l3Told.calls (k : Nat) (A0_0 : Option Addr) (c0_0 : Nat) (l0_0 : List ByteArray) (A0_1 : Option Addr) (c0_1 : Nat) (l0_1 : List Int) (A0_2 : Option Addr) (c0_2 : Nat) (l0_2 : List ByteArray) (A0_3 : Option Addr) (c0_3 : Nat) (l0_3 : List Int) (A0_4 : Option Addr) (c0_4 : Nat) (l0_4 : List (S63)) (a0_5 : Int) (a1 : Int) (a2 : Int) (r : Int) (w : World) (hr0_0 : Kd.C Kd.string w A0_0 l0_0.length l0_0) (hc0_0 : l0_0.length ≤ c0_0) (hr0_1 : Kd.C (Kd.int .i64) w A0_1 l0_1.length l0_1) (hc0_1 : l0_1.length ≤ c0_1) (hr0_2 : Kd.C Kd.string w A0_2 l0_2.length l0_2) (hc0_2 : l0_2.length ≤ c0_2) (hr0_3 : Kd.C (Kd.int .i64) w A0_3 l0_3.length l0_3) (hc0_3 : l0_3.length ≤ c0_3) (hr0_4 : Kd.C k63 w A0_4 l0_4.length l0_4) (hc0_4 : l0_4.length ≤ c0_4) (h : spec_l3Told.f k l0_0 l0_1 l0_2 l0_3 l0_4 a0_5 a1 a2 = some r) :
  Calls Try.prog 49 #[.agg #[.slice A0_0 l0_0.length c0_0, .slice A0_1 l0_1.length c0_1, .slice A0_2 l0_2.length c0_2, .slice A0_3 l0_3.length c0_3, .slice A0_4 l0_4.length c0_4, .int .i64 a0_5], .int .i64 a1, .int .i64 a2] w fun e w' => e = .returned (.int .i64 r) ∧ Below w.heap.size w w' := by
 have hu46 := Try.underlying46; have hu65 := Try.underlying65; have HR0_0 := Aside0.mk hr0_0; have HC0_0 := Aside0.mk hc0_0; clear hr0_0 hc0_0; have HR0_1 := Aside0.mk hr0_1; have HC0_1 := Aside0.mk hc0_1; clear hr0_1 hc0_1; have HR0_2 := Aside0.mk hr0_2; have HC0_2 := Aside0.mk hc0_2; clear hr0_2 hc0_2; have HR0_3 := Aside0.mk hr0_3; have HC0_3 := Aside0.mk hc0_3; clear hr0_3 hc0_3; have HR0_4 := Aside0.mk hr0_4; have HC0_4 := Aside0.mk hc0_4; clear hr0_4 hc0_4; have HB := Aside0.mk (Below.refl w.heap.size w); have H : (spec_l3Told.l0 k a1 a2 0 0 l0_0 l0_1 l0_2 l0_3 l0_4 a0_5) = some r := h; clear h; have H' := Aside0.mk H; clear H
 go_enter Try.func49, Try.ntmps49
 go_wp2_with (first | ((with_reducible refine gate_dst (N := 3) rfl ?_); refine box_event ?hg (N := 3) ?hd (cs := #[.slice A0_0 l0_0.length c0_0, .slice A0_1 l0_1.length c0_1, .slice A0_2 l0_2.length c0_2, .slice A0_3 l0_3.length c0_3, .slice A0_4 l0_4.length c0_4, .int .i64 a0_5]) (t := 46) ?hr ?_; (case hd => rfl); (case hg => rfl); (case hr => first | (go_simp; done) | (go_simp; rfl)); intro gb101 hg w4 hbox hb; have BK101 := Aside0.mk (hbox); have GW101 := Aside0.mk ((by rw [hg]; exact (below_size (bz HB.out)) : w.heap.size ≤ gb101)); have GE101 := GW101; replace HB := Aside0.mk (below_step (bz HB.out) hb); clear hb hbox hg))
 go_loopg [7, 8] k (fun kq v7 v8 w' => ∃ (x7_1 : Int) (x8_1 : Int), v7 = .int .i64 x7_1 ∧ v8 = .int .i64 x8_1 ∧ Aside0 (spec_l3Told.l0 kq a1 a2 x7_1 x8_1 l0_0 l0_1 l0_2 l0_3 l0_4 a0_5 = some r) ∧ Aside0 (kq ≤ k) ∧ Aside0 (w'.heap[gb101]? = some (.cells #[(.slice A0_0 l0_0.length c0_0), (.slice A0_1 l0_1.length c0_1), (.slice A0_2 l0_2.length c0_2), (.slice A0_3 l0_3.length c0_3), (.slice A0_4 l0_4.length c0_4), .int .i64 a0_5] 46 (0, 0))) ∧ Aside0 (Below w.heap.size w w'))
 case atStart => exact ⟨(0), (0), zr, zr, H', ⟨Nat.le_refl _⟩, ⟨kz (BK101.out)⟩, ⟨bs HB.out GE101.out⟩⟩
 case round =>
  clear H'
  obtain ⟨x7_1, x8_1, rfl, rfl, HA, HK1, BK101, HB⟩ := hrel
  cases gk with
  | zero => exact absurd HA.out (by simp [spec_l3Told.l0])
  | succ k1 =>
   have H := HA.out; clear HA; simp only [spec_l3Told.l0] at H
   by_cases c5 : x8_1 < (l0_4.length : Int)
   rotate_left
   ·
    rw [if_neg c5] at H; have c5b0 : decide (x8_1 < (l0_4.length : Int)) = false := decide_eq_false c5; clear c5; obtain rfl := Option.some.inj H; obtain ⟨hcz26_0, hcz26_1, hcz26_2, hcz26_3, hcz26_4, hcz26_5⟩ := cz6 BK101.out; obtain ⟨hfz26_0, hfz26_1, hfz26_2, hfz26_3, hfz26_4, hfz26_5⟩ := fz6 BK101.out
    go_wp2
    go_ret
    exact ⟨ze, bs HB.out GE101.out⟩
   rw [if_pos c5] at H; have c5b0 : decide (x8_1 < (l0_4.length : Int)) = true := decide_eq_true c5; clear c5; have H' := Aside0.mk H; clear H; obtain ⟨hcz6_0, hcz6_1, hcz6_2, hcz6_3, hcz6_4, hcz6_5⟩ := cz6 BK101.out; obtain ⟨hfz6_0, hfz6_1, hfz6_2, hfz6_3, hfz6_4, hfz6_5⟩ := fz6 BK101.out
   go_wp2
   go_loopg [7, 9] k1 (fun kq v7 v9 w' => ∃ (x7_2 : Int) (x9_2 : Int), v7 = .int .i64 x7_2 ∧ v9 = .int .i64 x9_2 ∧ Aside0 (spec_l3Told.l1 kq a1 a2 x7_2 x8_1 x9_2 l0_0 l0_1 l0_2 l0_3 l0_4 a0_5 = some r) ∧ Aside0 (kq ≤ k1) ∧ Aside0 (w'.heap[gb101]? = some (.cells #[(.slice A0_0 l0_0.length c0_0), (.slice A0_1 l0_1.length c0_1), (.slice A0_2 l0_2.length c0_2), (.slice A0_3 l0_3.length c0_3), (.slice A0_4 l0_4.length c0_4), .int .i64 a0_5] 46 (0, 0))) ∧ Aside0 (Below w.heap.size w w'))
   case atStart => exact ⟨(x7_1), (0), zr, zr, H', ⟨Nat.le_refl _⟩, ⟨kz (BK101.out)⟩, ⟨bs HB.out GE101.out⟩⟩
   case round =>
    clear H'
    (try clear c5); (try clear c5b0); (try clear hcz6_0); (try clear hcz6_1); (try clear hcz6_2); (try clear hcz6_3); (try clear hcz6_4); (try clear hcz6_5); (try clear hfz6_0); (try clear hfz6_1); (try clear hfz6_2); (try clear hfz6_3)
    (try clear hfz6_4); (try clear hfz6_5)
    obtain ⟨x7_2, x9_2, rfl, rfl, HA, HK2, BK101, HB⟩ := hrel
    cases gk with
    | zero => exact absurd HA.out (by simp [spec_l3Told.l1])
    | succ k2 =>
     have H := HA.out; clear HA; simp only [spec_l3Told.l1] at H
     by_cases c7 : 0 ≤ x8_1
     rotate_left
     ·
      rw [if_neg c7] at H
      exact absurd H (by simp)
     rw [if_pos c7] at H; have c7b0 : decide (0 ≤ x8_1) = true := decide_eq_true c7; clear c7
     by_cases c8 : x8_1 < (l0_4.length : Int)
     rotate_left
     ·
      rw [if_neg c8] at H
      exact absurd H (by simp)
     rw [if_pos c8] at H; have c8b0 : decide (x8_1 < (l0_4.length : Int)) = true := decide_eq_true c8; clear c8
     by_cases c9 : x9_2 < (((rd_T63 l0_4 x8_1).f2).length : Int)
     rotate_left
     ·
      rw [if_neg c9] at H; have c9b0 : decide (x9_2 < (((rd_T63 l0_4 x8_1).f2).length : Int)) = false := decide_eq_false c9; clear c9; have H' := Aside0.mk H; clear H; obtain ⟨hcz25_0, hcz25_1, hcz25_2, hcz25_3, hcz25_4, hcz25_5⟩ := cz6 BK101.out; obtain ⟨hfz25_0, hfz25_1, hfz25_2, hfz25_3, hfz25_4, hfz25_5⟩ := fz6 BK101.out; have p102 : 0 ≤ (x8_1 : Int) := of_decide_eq_true zs; have q102 : x8_1 < (l0_4.length : Int) := of_decide_eq_true zs; obtain ⟨ad102, A102_1, c102_1, A102_2, c102_2, e102, hx102_0, hx102_1, hx102_2, hl102_1, hi102_1, hl102_2, hi102_2⟩ := at_T63 HR0_4.out x8_1 p102 q102; cases e102; replace hx102_0 := pw_cell_below HB.out hx102_0; replace hx102_1 := pw_cell_below HB.out hx102_1; replace hx102_2 := pw_cell_below HB.out hx102_2; have HR102_1 := Aside0.mk hi102_1; have HC102_1 := Aside0.mk hl102_1; clear hi102_1 hl102_1; have HR102_2 := Aside0.mk hi102_2; have HC102_2 := Aside0.mk hl102_2; clear hi102_2 hl102_2; replace p102 := eq_true p102; replace q102 := eq_true q102
      go_wp2
      go_roundg k2
      case measure => have := HK1.out; have := HK2.out; omega
      case rel => exact ⟨(x7_2), (wrap64 (x8_1 + 1)), zr, zr, H', ⟨by have := HK1.out; have := HK2.out; omega⟩, ⟨kz (BK101.out)⟩, ⟨bs HB.out GE101.out⟩⟩
     rw [if_pos c9] at H; have c9b0 : decide (x9_2 < (((rd_T63 l0_4 x8_1).f2).length : Int)) = true := decide_eq_true c9; clear c9
     by_cases c10 : 0 ≤ x9_2
     rotate_left
     ·
      rw [if_neg c10] at H
      exact absurd H (by simp)
     rw [if_pos c10] at H; have c10b0 : decide (0 ≤ x9_2) = true := decide_eq_true c10; clear c10
     by_cases c11 : ((rd_T65 ((rd_T63 l0_4 x8_1).f2) x9_2).f0) = a1
     rotate_left
     ·
      rw [if_neg c11] at H; have c11b0 : (((rd_T65 ((rd_T63 l0_4 x8_1).f2) x9_2).f0) == a1) = false := beq_eq_false_iff_ne.mpr c11; have c11b1 : (((rd_T65 ((rd_T63 l0_4 x8_1).f2) x9_2).f0) != a1) = true := bne_iff_ne.mpr c11; have H' := Aside0.mk H; clear H; obtain ⟨hcz21_0, hcz21_1, hcz21_2, hcz21_3, hcz21_4, hcz21_5⟩ := cz6 BK101.out; obtain ⟨hfz21_0, hfz21_1, hfz21_2, hfz21_3, hfz21_4, hfz21_5⟩ := fz6 BK101.out; have p102 : 0 ≤ (x8_1 : Int) := of_decide_eq_true zs; have q102 : x8_1 < (l0_4.length : Int) := of_decide_eq_true zs; obtain ⟨ad102, A102_1, c102_1, A102_2, c102_2, e102, hx102_0, hx102_1, hx102_2, hl102_1, hi102_1, hl102_2, hi102_2⟩ := at_T63 HR0_4.out x8_1 p102 q102; cases e102; replace hx102_0 := pw_cell_below HB.out hx102_0; replace hx102_1 := pw_cell_below HB.out hx102_1; replace hx102_2 := pw_cell_below HB.out hx102_2; have HR102_1 := Aside0.mk hi102_1; have HC102_1 := Aside0.mk hl102_1; clear hi102_1 hl102_1; have HR102_2 := Aside0.mk hi102_2; have HC102_2 := Aside0.mk hl102_2; clear hi102_2 hl102_2; replace p102 := eq_true p102; replace q102 := eq_true q102; have p103 : 0 ≤ (x8_1 : Int) := of_decide_eq_true zs; have q103 : x8_1 < (l0_4.length : Int) := of_decide_eq_true zs; obtain ⟨ad103, A103_1, c103_1, A103_2, c103_2, e103, hx103_0, hx103_1, hx103_2, hl103_1, hi103_1, hl103_2, hi103_2⟩ := at_T63 HR0_4.out x8_1 p103 q103; obtain rfl : ad102 = ad103 := (by injection e103); replace hx103_0 := pw_cell_below HB.out hx103_0; replace hx103_1 := pw_cell_below HB.out hx103_1; replace hx103_2 := pw_cell_below HB.out hx103_2; have HR103_1 := Aside0.mk hi103_1; have HC103_1 := Aside0.mk hl103_1; clear hi103_1 hl103_1; have HR103_2 := Aside0.mk hi103_2; have HC103_2 := Aside0.mk hl103_2; clear hi103_2 hl103_2; replace p103 := eq_true p103; replace q103 := eq_true q103; have ea_ := Option.some.inj (hx102_1.symm.trans hx103_1)
      injection ea_ with ea_ en_ ec_
      subst ea_; subst ec_; clear en_; have ea_ := Option.some.inj (hx102_2.symm.trans hx103_2)
      injection ea_ with ea_ en_ ec_
      subst ea_; subst ec_; clear en_; have p104 : 0 ≤ (x9_2 : Int) := of_decide_eq_true zs; have q104 : x9_2 < (((rd_T63 l0_4 x8_1).f2).length : Int) := of_decide_eq_true zs; obtain ⟨ad104, e104, hx104_0, hx104_1, hx104_2, hx104_3⟩ := at_T65 HR103_2.out x9_2 p104 q104; cases e104; replace hx104_0 := pw_cell_below HB.out hx104_0; replace hx104_1 := pw_cell_below HB.out hx104_1; replace hx104_2 := pw_cell_below HB.out hx104_2; replace hx104_3 := pw_cell_below HB.out hx104_3; replace p104 := eq_true p104; replace q104 := eq_true q104
      go_wp2_with (first | ((with_reducible refine gate_dst (N := 10) rfl ?_); refine box_event ?hg (N := 10) ?hd (cs := #[.int .i64 0, .int .i64 0, .bool false, .bool false]) (t := 65) ?hr ?_; (case hd => rfl); (case hg => rfl); (case hr => first | (go_simp; done) | (go_simp; rfl)); intro gb105 hg w22 hbox hb; have BK105 := Aside0.mk (hbox); have GW105 := Aside0.mk ((by rw [hg]; exact (below_size (bs HB.out GE101.out)) : w.heap.size ≤ gb105)); have GE105 := GW105; replace HB := Aside0.mk (below_step (bs HB.out GE101.out) hb); have NB101_105 := Aside0.mk ((by rw [hg]; exact Nat.ne_of_lt (blk_lt (kz BK101.out)) : gb101 ≠ gb105)); have NB105_101 := Aside0.mk NB101_105.out.symm; replace BK101 := Aside0.mk (blk_below (kz BK101.out) hb); clear hb hbox hg; have hnb23 := NB105_101.out; have hnc23 := NB101_105.out; obtain ⟨hcz24_0, hcz24_1, hcz24_2, hcz24_3⟩ := cz4 BK105.out; obtain ⟨hfz24_0, hfz24_1, hfz24_2, hfz24_3⟩ := fz4 BK105.out))
      go_roundg k2
      case measure => have := HK1.out; have := HK2.out; omega
      case rel => exact ⟨(x7_2), (wrap64 (x9_2 + 1)), zr, zr, H', ⟨by have := HK1.out; have := HK2.out; omega⟩, ⟨by (with_reducible repeat (first | refine blk_drewN ?_ _ | refine blk_drew ?_ | refine blk_alloc ?_ _ | refine blk_far ?_ NB101_105.out _)); exact BK101.out⟩, ⟨bs2 HB.out GE101.out GE105.out⟩⟩
     rw [if_pos c11] at H; have c11b0 : (((rd_T65 ((rd_T63 l0_4 x8_1).f2) x9_2).f0) == a1) = true := beq_iff_eq.mpr c11; have c11b1 : (((rd_T65 ((rd_T63 l0_4 x8_1).f2) x9_2).f0) != a1) = false := bne_eq_false_iff_eq.mpr c11; clear c11
     by_cases c12 : ((rd_T65 ((rd_T63 l0_4 x8_1).f2) x9_2).f1) = a2
     rotate_left
     ·
      rw [if_neg c12] at H; have c12b0 : (((rd_T65 ((rd_T63 l0_4 x8_1).f2) x9_2).f1) == a2) = false := beq_eq_false_iff_ne.mpr c12; have c12b1 : (((rd_T65 ((rd_T63 l0_4 x8_1).f2) x9_2).f1) != a2) = true := bne_iff_ne.mpr c12; have H' := Aside0.mk H; clear H; obtain ⟨hcz17_0, hcz17_1, hcz17_2, hcz17_3, hcz17_4, hcz17_5⟩ := cz6 BK101.out; obtain ⟨hfz17_0, hfz17_1, hfz17_2, hfz17_3, hfz17_4, hfz17_5⟩ := fz6 BK101.out; have p102 : 0 ≤ (x8_1 : Int) := of_decide_eq_true zs; have q102 : x8_1 < (l0_4.length : Int) := of_decide_eq_true zs; obtain ⟨ad102, A102_1, c102_1, A102_2, c102_2, e102, hx102_0, hx102_1, hx102_2, hl102_1, hi102_1, hl102_2, hi102_2⟩ := at_T63 HR0_4.out x8_1 p102 q102; cases e102; replace hx102_0 := pw_cell_below HB.out hx102_0; replace hx102_1 := pw_cell_below HB.out hx102_1; replace hx102_2 := pw_cell_below HB.out hx102_2; have HR102_1 := Aside0.mk hi102_1; have HC102_1 := Aside0.mk hl102_1; clear hi102_1 hl102_1; have HR102_2 := Aside0.mk hi102_2; have HC102_2 := Aside0.mk hl102_2; clear hi102_2 hl102_2; replace p102 := eq_true p102; replace q102 := eq_true q102; have p103 : 0 ≤ (x8_1 : Int) := of_decide_eq_true zs; have q103 : x8_1 < (l0_4.length : Int) := of_decide_eq_true zs; obtain ⟨ad103, A103_1, c103_1, A103_2, c103_2, e103, hx103_0, hx103_1, hx103_2, hl103_1, hi103_1, hl103_2, hi103_2⟩ := at_T63 HR0_4.out x8_1 p103 q103; obtain rfl : ad102 = ad103 := (by injection e103); replace hx103_0 := pw_cell_below HB.out hx103_0; replace hx103_1 := pw_cell_below HB.out hx103_1; replace hx103_2 := pw_cell_below HB.out hx103_2; have HR103_1 := Aside0.mk hi103_1; have HC103_1 := Aside0.mk hl103_1; clear hi103_1 hl103_1; have HR103_2 := Aside0.mk hi103_2; have HC103_2 := Aside0.mk hl103_2; clear hi103_2 hl103_2; replace p103 := eq_true p103; replace q103 := eq_true q103; have ea_ := Option.some.inj (hx102_1.symm.trans hx103_1)
      injection ea_ with ea_ en_ ec_
      subst ea_; subst ec_; clear en_; have ea_ := Option.some.inj (hx102_2.symm.trans hx103_2)
      injection ea_ with ea_ en_ ec_
      subst ea_; subst ec_; clear en_; have p104 : 0 ≤ (x9_2 : Int) := of_decide_eq_true zs; have q104 : x9_2 < (((rd_T63 l0_4 x8_1).f2).length : Int) := of_decide_eq_true zs; obtain ⟨ad104, e104, hx104_0, hx104_1, hx104_2, hx104_3⟩ := at_T65 HR103_2.out x9_2 p104 q104; cases e104; replace hx104_0 := pw_cell_below HB.out hx104_0; replace hx104_1 := pw_cell_below HB.out hx104_1; replace hx104_2 := pw_cell_below HB.out hx104_2; replace hx104_3 := pw_cell_below HB.out hx104_3; replace p104 := eq_true p104; replace q104 := eq_true q104
      go_wp2_with (first | ((with_reducible refine gate_dst (N := 10) rfl ?_); refine box_event ?hg (N := 10) ?hd (cs := #[.int .i64 0, .int .i64 0, .bool false, .bool false]) (t := 65) ?hr ?_; (case hd => rfl); (case hg => rfl); (case hr => first | (go_simp; done) | (go_simp; rfl)); intro gb105 hg w18 hbox hb; have BK105 := Aside0.mk (hbox); have GW105 := Aside0.mk ((by rw [hg]; exact (below_size (bs HB.out GE101.out)) : w.heap.size ≤ gb105)); have GE105 := GW105; replace HB := Aside0.mk (below_step (bs HB.out GE101.out) hb); have NB101_105 := Aside0.mk ((by rw [hg]; exact Nat.ne_of_lt (blk_lt (kz BK101.out)) : gb101 ≠ gb105)); have NB105_101 := Aside0.mk NB101_105.out.symm; replace BK101 := Aside0.mk (blk_below (kz BK101.out) hb); clear hb hbox hg; have hnb19 := NB105_101.out; have hnc19 := NB101_105.out; obtain ⟨hcz20_0, hcz20_1, hcz20_2, hcz20_3⟩ := cz4 BK105.out; obtain ⟨hfz20_0, hfz20_1, hfz20_2, hfz20_3⟩ := fz4 BK105.out))
      go_roundg k2
      case measure => have := HK1.out; have := HK2.out; omega
      case rel => exact ⟨(x7_2), (wrap64 (x9_2 + 1)), zr, zr, H', ⟨by have := HK1.out; have := HK2.out; omega⟩, ⟨by (with_reducible repeat (first | refine blk_drewN ?_ _ | refine blk_drew ?_ | refine blk_alloc ?_ _ | refine blk_far ?_ NB101_105.out _)); exact BK101.out⟩, ⟨bs2 HB.out GE101.out GE105.out⟩⟩
     rw [if_pos c12] at H; have c12b0 : (((rd_T65 ((rd_T63 l0_4 x8_1).f2) x9_2).f1) == a2) = true := beq_iff_eq.mpr c12; have c12b1 : (((rd_T65 ((rd_T63 l0_4 x8_1).f2) x9_2).f1) != a2) = false := bne_eq_false_iff_eq.mpr c12; clear c12; have H' := Aside0.mk H; clear H; obtain ⟨hcz13_0, hcz13_1, hcz13_2, hcz13_3, hcz13_4, hcz13_5⟩ := cz6 BK101.out; obtain ⟨hfz13_0, hfz13_1, hfz13_2, hfz13_3, hfz13_4, hfz13_5⟩ := fz6 BK101.out; have p102 : 0 ≤ (x8_1 : Int) := of_decide_eq_true zs; have q102 : x8_1 < (l0_4.length : Int) := of_decide_eq_true zs; obtain ⟨ad102, A102_1, c102_1, A102_2, c102_2, e102, hx102_0, hx102_1, hx102_2, hl102_1, hi102_1, hl102_2, hi102_2⟩ := at_T63 HR0_4.out x8_1 p102 q102; cases e102; replace hx102_0 := pw_cell_below HB.out hx102_0; replace hx102_1 := pw_cell_below HB.out hx102_1; replace hx102_2 := pw_cell_below HB.out hx102_2; have HR102_1 := Aside0.mk hi102_1; have HC102_1 := Aside0.mk hl102_1; clear hi102_1 hl102_1; have HR102_2 := Aside0.mk hi102_2; have HC102_2 := Aside0.mk hl102_2; clear hi102_2 hl102_2; replace p102 := eq_true p102; replace q102 := eq_true q102; have p103 : 0 ≤ (x8_1 : Int) := of_decide_eq_true zs; have q103 : x8_1 < (l0_4.length : Int) := of_decide_eq_true zs; obtain ⟨ad103, A103_1, c103_1, A103_2, c103_2, e103, hx103_0, hx103_1, hx103_2, hl103_1, hi103_1, hl103_2, hi103_2⟩ := at_T63 HR0_4.out x8_1 p103 q103; obtain rfl : ad102 = ad103 := (by injection e103); replace hx103_0 := pw_cell_below HB.out hx103_0; replace hx103_1 := pw_cell_below HB.out hx103_1; replace hx103_2 := pw_cell_below HB.out hx103_2; have HR103_1 := Aside0.mk hi103_1; have HC103_1 := Aside0.mk hl103_1; clear hi103_1 hl103_1; have HR103_2 := Aside0.mk hi103_2; have HC103_2 := Aside0.mk hl103_2; clear hi103_2 hl103_2; replace p103 := eq_true p103; replace q103 := eq_true q103; have ea_ := Option.some.inj (hx102_1.symm.trans hx103_1)
     injection ea_ with ea_ en_ ec_
     subst ea_; subst ec_; clear en_; have ea_ := Option.some.inj (hx102_2.symm.trans hx103_2)
     injection ea_ with ea_ en_ ec_
     subst ea_; subst ec_; clear en_; have p104 : 0 ≤ (x9_2 : Int) := of_decide_eq_true zs; have q104 : x9_2 < (((rd_T63 l0_4 x8_1).f2).length : Int) := of_decide_eq_true zs; obtain ⟨ad104, e104, hx104_0, hx104_1, hx104_2, hx104_3⟩ := at_T65 HR103_2.out x9_2 p104 q104; cases e104; replace hx104_0 := pw_cell_below HB.out hx104_0; replace hx104_1 := pw_cell_below HB.out hx104_1; replace hx104_2 := pw_cell_below HB.out hx104_2; replace hx104_3 := pw_cell_below HB.out hx104_3; replace p104 := eq_true p104; replace q104 := eq_true q104
     go_wp2_with (first | ((with_reducible refine gate_dst (N := 10) rfl ?_); refine box_event ?hg (N := 10) ?hd (cs := #[.int .i64 0, .int .i64 0, .bool false, .bool false]) (t := 65) ?hr ?_; (case hd => rfl); (case hg => rfl); (case hr => first | (go_simp; done) | (go_simp; rfl)); intro gb105 hg w14 hbox hb; have BK105 := Aside0.mk (hbox); have GW105 := Aside0.mk ((by rw [hg]; exact (below_size (bs HB.out GE101.out)) : w.heap.size ≤ gb105)); have GE105 := GW105; replace HB := Aside0.mk (below_step (bs HB.out GE101.out) hb); have NB101_105 := Aside0.mk ((by rw [hg]; exact Nat.ne_of_lt (blk_lt (kz BK101.out)) : gb101 ≠ gb105)); have NB105_101 := Aside0.mk NB101_105.out.symm; replace BK101 := Aside0.mk (blk_below (kz BK101.out) hb); clear hb hbox hg; have hnb15 := NB105_101.out; have hnc15 := NB101_105.out; obtain ⟨hcz16_0, hcz16_1, hcz16_2, hcz16_3⟩ := cz4 BK105.out; obtain ⟨hfz16_0, hfz16_1, hfz16_2, hfz16_3⟩ := fz4 BK105.out))
     go_roundg k2
     case measure => have := HK1.out; have := HK2.out; omega
     case rel => exact ⟨(wrap64 (x7_2 + 1)), (wrap64 (x9_2 + 1)), zr, zr, H', ⟨by have := HK1.out; have := HK2.out; omega⟩, ⟨by (with_reducible repeat (first | refine blk_drewN ?_ _ | refine blk_drew ?_ | refine blk_alloc ?_ _ | refine blk_far ?_ NB101_105.out _)); exact BK101.out⟩, ⟨bs2 HB.out GE101.out GE105.out⟩⟩

end Go.Proofs.Ythoapmfpokohnaa.P

namespace Go.Proofs.Ythoapmfpokohnaa.P
open Go.RowKit Go.Proofs.YthoapmfpokohnaaW.PrintWords Go.Proofs.YthoapmfpokohnaaW.PrintLast Go.Proofs.YthoapmfpokohnaaW.PrintMore
attribute [local go_sem] max2_int min2_int max_two min_two max_three min_three max_four min_four Q.cell_set_map Q.str_gtr Q.str_geq Q.str_leq
set_option linter.unusedVariables false
set_option linter.unusedSimpArgs false

/-! ### spec_l3Shared: function 92 -/
def spec_l3Shared.f (k : Nat) (a0_0 : Bool) (l0_1 : List (S108)) (l0_2 : List (S65)) (a1 : Int) : Option (Bool) := (spec_l2At.f k l0_1 a1).bind fun t102 => (if t102 ≥ 0 then (if 0 ≤ t102 then (if t102 < (l0_1.length : Int) then (some ((rd_T108 l0_1 t102).f3)) else (none)) else (none)) else (some false))
theorem spec_l3Shared.mono : ∀ a0 a1 a2 a3 k, LeO (spec_l3Shared.f k a0 a1 a2 a3) (spec_l3Shared.f (k + 1) a0 a1 a2 a3) := by
 intro a0 a1 a2 a3 k
 unfold spec_l3Shared.f
 repeat' first
   | (with_reducible exact spec_l2At.mono _ _ _)
   | (with_reducible exact LeO.refl _)
   | (with_reducible exact LeO.none _)
   | (with_reducible refine LeO.ite ?_ ?_)
   | (with_reducible refine LeO.bind ?_ (fun _ => ?_))
   | exact spec_l2At.mono _ _ _
   | exact LeO.none _
   | refine LeO.ite ?_ ?_
   | refine LeO.bind ?_ (fun _ => ?_)
set_option maxHeartbeats 8000000 in
set_option maxRecDepth 100000 in
theorem spec_l3Shared.calls (k : Nat) (a0_0 : Bool) (A0_1 : Option Addr) (c0_1 : Nat) (l0_1 : List (S108)) (A0_2 : Option Addr) (c0_2 : Nat) (l0_2 : List (S65)) (a1 : Int) (r : Bool) (w : World) (hr0_1 : Kd.C k108 w A0_1 l0_1.length l0_1) (hc0_1 : l0_1.length ≤ c0_1) (hr0_2 : Kd.C k65 w A0_2 l0_2.length l0_2) (hc0_2 : l0_2.length ≤ c0_2) (h : spec_l3Shared.f k a0_0 l0_1 l0_2 a1 = some r) :
  Calls Try.prog 92 #[.agg #[.bool a0_0, .slice A0_1 l0_1.length c0_1, .slice A0_2 l0_2.length c0_2], .int .i64 a1] w fun e w' => e = .returned (.bool r) ∧ Below w.heap.size w w' := by
 have hu63 := Try.underlying63
 have HR0_1 := Aside0.mk hr0_1
 have HC0_1 := Aside0.mk hc0_1
 clear hr0_1 hc0_1
 have HR0_2 := Aside0.mk hr0_2
 have HC0_2 := Aside0.mk hc0_2
 clear hr0_2 hc0_2
 have HB := Aside0.mk (Below.refl w.heap.size w)
 have H : ((spec_l2At.f k l0_1 a1).bind fun t102 => (if t102 ≥ 0 then (if 0 ≤ t102 then (if t102 < (l0_1.length : Int) then (some ((rd_T108 l0_1 t102).f3)) else (none)) else (none)) else (some false))) = some r := h
 clear h
 replace H := Option.bind_eq_some_iff.mp H
 obtain ⟨t102, A30, H⟩ := H
 have A3 := Aside0.mk A30
 clear A30
 by_cases c4 : t102 ≥ 0
 ·
  rw [if_pos c4] at H
  have c4b0 : decide (0 ≤ t102) = true := decide_eq_true c4
  clear c4
  by_cases c5 : 0 ≤ t102
  ·
   rw [if_pos c5] at H
   have c5b0 : decide (0 ≤ t102) = true := decide_eq_true c5
   clear c5
   by_cases c6 : t102 < (l0_1.length : Int)
   ·
    rw [if_pos c6] at H
    have c6b0 : decide (t102 < (l0_1.length : Int)) = true := decide_eq_true c6
    clear c6
    obtain rfl := Option.some.inj H
    go_enter Try.func92, Try.ntmps92
    go_wp2_with (first | ((with_reducible refine gate_dst (N := 2) rfl ?_); refine box_event ?hg (N := 2) ?hd (cs := #[.bool a0_0, .slice A0_1 l0_1.length c0_1, .slice A0_2 l0_2.length c0_2]) (t := 63) ?hr ?_; (case hd => rfl); (case hg => rfl); (case hr => first | (go_simp; done) | (go_simp; rfl)); intro gb101 hg w7 hbox hb; have BK101 := Aside0.mk (hbox); have GW101 := Aside0.mk ((by rw [hg]; exact (below_size (bz HB.out)) : w.heap.size ≤ gb101)); have GE101 := Aside0.mk ((by rw [hg]; exact (below_size (bz HB.out)) : w.heap.size ≤ gb101)); replace HB := Aside0.mk (below_step (bz HB.out) hb); clear hb hbox hg; obtain ⟨hcz8_0, hcz8_1, hcz8_2⟩ := cz3 BK101.out; obtain ⟨hfz8_0, hfz8_1, hfz8_2⟩ := fz3 BK101.out) | ((with_reducible refine gate_callee (f := 38) rfl ?_); refine goesL_ (some 9) rfl rfl Try.func38 zk rfl #[.slice A0_1 l0_1.length c0_1, .int .i64 a1] rfl zm ?_; (with_reducible refine (spec_l2At.calls k _ _ l0_1 a1 t102 _ ?side1 ?side2 A3.out).mono ?_); (case side1 => exact cz (Kd.C_below HR0_1.out HB.out)); (case side2 => exact HC0_1.out); rintro e w' ⟨rfl, ⟨nd, rfl⟩⟩; refine ⟨_, rfl, ?_⟩; have p103 : 0 ≤ (t102 : Int) := of_decide_eq_true zs; have q103 : t102 < (l0_1.length : Int) := of_decide_eq_true zs; obtain ⟨ad103, e103, hx103_0, hx103_1, hx103_2, hx103_3⟩ := at_T108 HR0_1.out t102 p103 q103; cases e103; replace hx103_0 := pw_cell_below HB.out hx103_0; replace hx103_1 := pw_cell_below HB.out hx103_1; replace hx103_2 := pw_cell_below HB.out hx103_2; replace hx103_3 := pw_cell_below HB.out hx103_3; replace p103 := eq_true p103; replace q103 := eq_true q103))
    go_ret
    exact ⟨ze, bs HB.out GE101.out⟩
   ·
    rw [if_neg c6] at H
    exact absurd H (by simp)
  ·
   rw [if_neg c5] at H
   exact absurd H (by simp)
 ·
  rw [if_neg c4] at H
  have c4b0 : decide (0 ≤ t102) = false := decide_eq_false c4
  clear c4
  obtain rfl := Option.some.inj H
  go_enter Try.func92, Try.ntmps92
  go_wp2_with (first | ((with_reducible refine gate_dst (N := 2) rfl ?_); refine box_event ?hg (N := 2) ?hd (cs := #[.bool a0_0, .slice A0_1 l0_1.length c0_1, .slice A0_2 l0_2.length c0_2]) (t := 63) ?hr ?_; (case hd => rfl); (case hg => rfl); (case hr => first | (go_simp; done) | (go_simp; rfl)); intro gb101 hg w9 hbox hb; have BK101 := Aside0.mk (hbox); have GW101 := Aside0.mk ((by rw [hg]; exact (below_size (bz HB.out)) : w.heap.size ≤ gb101)); have GE101 := Aside0.mk ((by rw [hg]; exact (below_size (bz HB.out)) : w.heap.size ≤ gb101)); replace HB := Aside0.mk (below_step (bz HB.out) hb); clear hb hbox hg; obtain ⟨hcz10_0, hcz10_1, hcz10_2⟩ := cz3 BK101.out; obtain ⟨hfz10_0, hfz10_1, hfz10_2⟩ := fz3 BK101.out) | ((with_reducible refine gate_callee (f := 38) rfl ?_); refine goesL_ (some 9) rfl rfl Try.func38 zk rfl #[.slice A0_1 l0_1.length c0_1, .int .i64 a1] rfl zm ?_; (with_reducible refine (spec_l2At.calls k _ _ l0_1 a1 t102 _ ?side1 ?side2 A3.out).mono ?_); (case side1 => exact cz (Kd.C_below HR0_1.out HB.out)); (case side2 => exact HC0_1.out); rintro e w' ⟨rfl, ⟨nd, rfl⟩⟩; refine ⟨_, rfl, ?_⟩))
  go_ret
  exact ⟨ze, bs HB.out GE101.out⟩

end Go.Proofs.Ythoapmfpokohnaa.P
