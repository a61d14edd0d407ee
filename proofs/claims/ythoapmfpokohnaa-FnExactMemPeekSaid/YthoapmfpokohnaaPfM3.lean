-- printed by wip/qd.py, laid together by wip/mergepf.py
import Derived.Test.YthoapmfpokohnaaPf0
import Derived.Test.YthoapmfpokohnaaPfM1
import Derived.Test.YthoapmfpokohnaaPfM2
import Derived.Test.YthoapmfpokohnaaQSem9
namespace Go.Proofs.Ythoapmfpokohnaa.P
open Go.RowKit Go.Proofs.YthoapmfpokohnaaW.PrintWords Go.Proofs.YthoapmfpokohnaaW.PrintLast Go.Proofs.YthoapmfpokohnaaW.PrintMore
attribute [local go_sem] max2_int min2_int max_two min_two max_three min_three max_four min_four Q.cell_set_map Q.str_gtr Q.str_geq Q.str_leq
set_option linter.unusedVariables false
set_option linter.unusedSimpArgs false

/-! ### laws_eqMem: function 20 -/
-- IMPORT Derived.Test.YthoapmfpokohnaaQSem9
def laws_eqMem.f (k : Nat) (l0_0 : List ByteArray) (l0_1 : List Int) (l0_2 : List ByteArray) (l0_3 : List Int) (l0_4 : List (S63)) (a0_5 : Int) (l1_0 : List ByteArray) (l1_1 : List Int) (l1_2 : List ByteArray) (l1_3 : List Int) (l1_4 : List (S63)) (a1_5 : Int) : Option (Bool) := (laws_eqPages.f k l0_0 l0_1 l1_0 l1_1).bind fun t103 => (if t103 = true then ((laws_eqPages.f k l0_2 l0_3 l1_2 l1_3).bind fun t104 => (if t104 = true then ((laws_eqSpaceS.f k l0_4 l1_4).bind fun t105 => (if t105 = true then (if a0_5 = a1_5 then (some true) else (some false)) else (some false))) else (some false))) else (some false))
theorem laws_eqMem.mono : ∀ a0 a1 a2 a3 a4 a5 a6 a7 a8 a9 a10 a11 k, LeO (laws_eqMem.f k a0 a1 a2 a3 a4 a5 a6 a7 a8 a9 a10 a11) (laws_eqMem.f (k + 1) a0 a1 a2 a3 a4 a5 a6 a7 a8 a9 a10 a11) := by
 intro a0 a1 a2 a3 a4 a5 a6 a7 a8 a9 a10 a11 k
 unfold laws_eqMem.f
 repeat' first
   | (with_reducible exact laws_eqPages.mono _ _ _ _ _)
   | (with_reducible exact laws_eqSpaceS.mono _ _ _)
   | (with_reducible exact LeO.refl _)
   | (with_reducible exact LeO.none _)
   | (with_reducible refine LeO.ite ?_ ?_)
   | (with_reducible refine LeO.bind ?_ (fun _ => ?_))
   | exact laws_eqPages.mono _ _ _ _ _
   | exact laws_eqSpaceS.mono _ _ _
   | exact LeO.none _
   | refine LeO.ite ?_ ?_
   | refine LeO.bind ?_ (fun _ => ?_)
set_option maxHeartbeats 8000000 in
set_option maxRecDepth 100000 in
theorem laws_eqMem.calls (k : Nat) (A0_0 : Option Addr) (c0_0 : Nat) (l0_0 : List ByteArray) (A0_1 : Option Addr) (c0_1 : Nat) (l0_1 : List Int) (A0_2 : Option Addr) (c0_2 : Nat) (l0_2 : List ByteArray) (A0_3 : Option Addr) (c0_3 : Nat) (l0_3 : List Int) (A0_4 : Option Addr) (c0_4 : Nat) (l0_4 : List (S63)) (a0_5 : Int) (A1_0 : Option Addr) (c1_0 : Nat) (l1_0 : List ByteArray) (A1_1 : Option Addr) (c1_1 : Nat) (l1_1 : List Int) (A1_2 : Option Addr) (c1_2 : Nat) (l1_2 : List ByteArray) (A1_3 : Option Addr) (c1_3 : Nat) (l1_3 : List Int) (A1_4 : Option Addr) (c1_4 : Nat) (l1_4 : List (S63)) (a1_5 : Int) (r : Bool) (w : World) (hr0_0 : Kd.C Kd.string w A0_0 l0_0.length l0_0) (hc0_0 : l0_0.length ≤ c0_0) (hr0_1 : Kd.C (Kd.int .i64) w A0_1 l0_1.length l0_1) (hc0_1 : l0_1.length ≤ c0_1) (hr0_2 : Kd.C Kd.string w A0_2 l0_2.length l0_2) (hc0_2 : l0_2.length ≤ c0_2) (hr0_3 : Kd.C (Kd.int .i64) w A0_3 l0_3.length l0_3) (hc0_3 : l0_3.length ≤ c0_3) (hr0_4 : Kd.C k63 w A0_4 l0_4.length l0_4) (hc0_4 : l0_4.length ≤ c0_4) (hr1_0 : Kd.C Kd.string w A1_0 l1_0.length l1_0) (hc1_0 : l1_0.length ≤ c1_0) (hr1_1 : Kd.C (Kd.int .i64) w A1_1 l1_1.length l1_1) (hc1_1 : l1_1.length ≤ c1_1) (hr1_2 : Kd.C Kd.string w A1_2 l1_2.length l1_2) (hc1_2 : l1_2.length ≤ c1_2) (hr1_3 : Kd.C (Kd.int .i64) w A1_3 l1_3.length l1_3) (hc1_3 : l1_3.length ≤ c1_3) (hr1_4 : Kd.C k63 w A1_4 l1_4.length l1_4) (hc1_4 : l1_4.length ≤ c1_4) (h : laws_eqMem.f k l0_0 l0_1 l0_2 l0_3 l0_4 a0_5 l1_0 l1_1 l1_2 l1_3 l1_4 a1_5 = some r) :
  Calls Try.prog 20 #[.agg #[.slice A0_0 l0_0.length c0_0, .slice A0_1 l0_1.length c0_1, .slice A0_2 l0_2.length c0_2, .slice A0_3 l0_3.length c0_3, .slice A0_4 l0_4.length c0_4, .int .i64 a0_5], .agg #[.slice A1_0 l1_0.length c1_0, .slice A1_1 l1_1.length c1_1, .slice A1_2 l1_2.length c1_2, .slice A1_3 l1_3.length c1_3, .slice A1_4 l1_4.length c1_4, .int .i64 a1_5]] w fun e w' => e = .returned (.bool r) ∧ Below w.heap.size w w' := by
 have hu46 := Try.underlying46; have hu43 := Try.underlying43; have HR0_0 := Aside0.mk hr0_0; have HC0_0 := Aside0.mk hc0_0; clear hr0_0 hc0_0; have HR0_1 := Aside0.mk hr0_1; have HC0_1 := Aside0.mk hc0_1; clear hr0_1 hc0_1; have HR0_2 := Aside0.mk hr0_2; have HC0_2 := Aside0.mk hc0_2; clear hr0_2 hc0_2; have HR0_3 := Aside0.mk hr0_3; have HC0_3 := Aside0.mk hc0_3; clear hr0_3 hc0_3; have HR0_4 := Aside0.mk hr0_4; have HC0_4 := Aside0.mk hc0_4; clear hr0_4 hc0_4; have HR1_0 := Aside0.mk hr1_0; have HC1_0 := Aside0.mk hc1_0; clear hr1_0 hc1_0; have HR1_1 := Aside0.mk hr1_1; have HC1_1 := Aside0.mk hc1_1; clear hr1_1 hc1_1; have HR1_2 := Aside0.mk hr1_2; have HC1_2 := Aside0.mk hc1_2; clear hr1_2 hc1_2; have HR1_3 := Aside0.mk hr1_3; have HC1_3 := Aside0.mk hc1_3; clear hr1_3 hc1_3; have HR1_4 := Aside0.mk hr1_4; have HC1_4 := Aside0.mk hc1_4; clear hr1_4 hc1_4; have HB := Aside0.mk (Below.refl w.heap.size w); have H : ((laws_eqPages.f k l0_0 l0_1 l1_0 l1_1).bind fun t103 => (if t103 = true then ((laws_eqPages.f k l0_2 l0_3 l1_2 l1_3).bind fun t104 => (if t104 = true then ((laws_eqSpaceS.f k l0_4 l1_4).bind fun t105 => (if t105 = true then (if a0_5 = a1_5 then (some true) else (some false)) else (some false))) else (some false))) else (some false))) = some r := h; clear h; replace H := Option.bind_eq_some_iff.mp H; obtain ⟨t103, A30, H⟩ := H; have A3 := Aside0.mk A30; clear A30
 by_cases c4 : t103 = true
 rotate_left
 ·
  replace c4 := Bool.eq_false_iff.mpr c4; subst c4; rw [if_neg nf_] at H; obtain rfl := Option.some.inj H
  go_enter Try.func20, Try.ntmps20
  go_wp2_with (first | ((with_reducible refine gate_dst (N := 2) rfl ?_); refine box_event ?hg (N := 2) ?hd (cs := #[.slice A0_0 l0_0.length c0_0, .slice A0_1 l0_1.length c0_1, .slice A0_2 l0_2.length c0_2, .slice A0_3 l0_3.length c0_3, .slice A0_4 l0_4.length c0_4, .int .i64 a0_5]) (t := 46) ?hr ?_; (case hd => rfl); (case hg => rfl); (case hr => first | (go_simp; done) | (go_simp; rfl)); intro gb101 hg w59 hbox hb; have BK101 := Aside0.mk (hbox); have GW101 := Aside0.mk ((by rw [hg]; exact (below_size (bz HB.out)) : w.heap.size ≤ gb101)); have GE101 := GW101; replace HB := Aside0.mk (below_step (bz HB.out) hb); clear hb hbox hg) | ((with_reducible refine gate_dst (N := 3) rfl ?_); refine box_event ?hg (N := 3) ?hd (cs := #[.slice A1_0 l1_0.length c1_0, .slice A1_1 l1_1.length c1_1, .slice A1_2 l1_2.length c1_2, .slice A1_3 l1_3.length c1_3, .slice A1_4 l1_4.length c1_4, .int .i64 a1_5]) (t := 46) ?hr ?_; (case hd => rfl); (case hg => rfl); (case hr => first | (go_simp; done) | (go_simp; rfl)); intro gb102 hg w60 hbox hb; have BK102 := Aside0.mk (hbox); have GW102 := Aside0.mk ((by rw [hg]; exact (below_size (bs HB.out GE101.out)) : w.heap.size ≤ gb102)); have GE102 := GW102; replace HB := Aside0.mk (below_step (bs HB.out GE101.out) hb); have NB101_102 := Aside0.mk ((by rw [hg]; exact Nat.ne_of_lt (blk_lt (kz BK101.out)) : gb101 ≠ gb102)); have NB102_101 := Aside0.mk NB101_102.out.symm; replace BK101 := Aside0.mk (blk_below (kz BK101.out) hb); clear hb hbox hg; have hnb61 := NB101_102.out; have hnc61 := NB102_101.out; obtain ⟨hcz62_0, hcz62_1, hcz62_2, hcz62_3, hcz62_4, hcz62_5⟩ := cz6 BK101.out; obtain ⟨hfz62_0, hfz62_1, hfz62_2, hfz62_3, hfz62_4, hfz62_5⟩ := fz6 BK101.out; obtain ⟨hcz63_0, hcz63_1, hcz63_2, hcz63_3, hcz63_4, hcz63_5⟩ := cz6 BK102.out; obtain ⟨hfz63_0, hfz63_1, hfz63_2, hfz63_3, hfz63_4, hfz63_5⟩ := fz6 BK102.out) | ((with_reducible refine gate_callee (f := 58) rfl ?_); refine goesL_ (some 9) rfl rfl Try.func58 zk rfl #[.agg #[.slice A0_0 l0_0.length c0_0, .slice A0_1 l0_1.length c0_1], .agg #[.slice A1_0 l1_0.length c1_0, .slice A1_1 l1_1.length c1_1]] rfl zm ?_; (with_reducible refine (laws_eqPages.calls k _ _ l0_0 _ _ l0_1 _ _ l1_0 _ _ l1_1 false _ ?side1 ?side2 ?side3 ?side4 ?side5 ?side6 ?side7 ?side8 A3.out).mono ?_); (case side1 => exact cz (Kd.C_below HR0_0.out HB.out)); (case side2 => exact HC0_0.out); (case side3 => exact cz (Kd.C_below HR0_1.out HB.out)); (case side4 => exact HC0_1.out); (case side5 => exact cz (Kd.C_below HR1_0.out HB.out)); (case side6 => exact HC1_0.out); (case side7 => exact cz (Kd.C_below HR1_1.out HB.out)); (case side8 => exact HC1_1.out); rintro e w64 ⟨rfl, hb⟩; refine ⟨_, rfl, ?_⟩; replace BK101 := Aside0.mk (blk_below (kz BK101.out) hb); replace BK102 := Aside0.mk (blk_below (kz BK102.out) hb); replace HB := Aside0.mk (below_step (bs2 HB.out GE101.out GE102.out) hb); (try clear hb)))
  go_ret
  exact ⟨ze, bs2 HB.out GE101.out GE102.out⟩
 subst c4; rw [if_pos rfl] at H; replace H := Option.bind_eq_some_iff.mp H; obtain ⟨t104, A50, H⟩ := H; have A5 := Aside0.mk A50; clear A50
 by_cases c6 : t104 = true
 rotate_left
 ·
  replace c6 := Bool.eq_false_iff.mpr c6; subst c6; rw [if_neg nf_] at H; obtain rfl := Option.some.inj H
  go_enter Try.func20, Try.ntmps20
  go_wp2_with (first | ((with_reducible refine gate_dst (N := 2) rfl ?_); refine box_event ?hg (N := 2) ?hd (cs := #[.slice A0_0 l0_0.length c0_0, .slice A0_1 l0_1.length c0_1, .slice A0_2 l0_2.length c0_2, .slice A0_3 l0_3.length c0_3, .slice A0_4 l0_4.length c0_4, .int .i64 a0_5]) (t := 46) ?hr ?_; (case hd => rfl); (case hg => rfl); (case hr => first | (go_simp; done) | (go_simp; rfl)); intro gb101 hg w50 hbox hb; have BK101 := Aside0.mk (hbox); have GW101 := Aside0.mk ((by rw [hg]; exact (below_size (bz HB.out)) : w.heap.size ≤ gb101)); have GE101 := GW101; replace HB := Aside0.mk (below_step (bz HB.out) hb); clear hb hbox hg) | ((with_reducible refine gate_dst (N := 3) rfl ?_); refine box_event ?hg (N := 3) ?hd (cs := #[.slice A1_0 l1_0.length c1_0, .slice A1_1 l1_1.length c1_1, .slice A1_2 l1_2.length c1_2, .slice A1_3 l1_3.length c1_3, .slice A1_4 l1_4.length c1_4, .int .i64 a1_5]) (t := 46) ?hr ?_; (case hd => rfl); (case hg => rfl); (case hr => first | (go_simp; done) | (go_simp; rfl)); intro gb102 hg w51 hbox hb; have BK102 := Aside0.mk (hbox); have GW102 := Aside0.mk ((by rw [hg]; exact (below_size (bs HB.out GE101.out)) : w.heap.size ≤ gb102)); have GE102 := GW102; replace HB := Aside0.mk (below_step (bs HB.out GE101.out) hb); have NB101_102 := Aside0.mk ((by rw [hg]; exact Nat.ne_of_lt (blk_lt (kz BK101.out)) : gb101 ≠ gb102)); have NB102_101 := Aside0.mk NB101_102.out.symm; replace BK101 := Aside0.mk (blk_below (kz BK101.out) hb); clear hb hbox hg; have hnb52 := NB101_102.out; have hnc52 := NB102_101.out; obtain ⟨hcz53_0, hcz53_1, hcz53_2, hcz53_3, hcz53_4, hcz53_5⟩ := cz6 BK101.out; obtain ⟨hfz53_0, hfz53_1, hfz53_2, hfz53_3, hfz53_4, hfz53_5⟩ := fz6 BK101.out; obtain ⟨hcz54_0, hcz54_1, hcz54_2, hcz54_3, hcz54_4, hcz54_5⟩ := cz6 BK102.out; obtain ⟨hfz54_0, hfz54_1, hfz54_2, hfz54_3, hfz54_4, hfz54_5⟩ := fz6 BK102.out) | ((with_reducible refine gate_callee (f := 58) rfl ?_); refine goesL_ (some 9) rfl rfl Try.func58 zk rfl #[.agg #[.slice A0_0 l0_0.length c0_0, .slice A0_1 l0_1.length c0_1], .agg #[.slice A1_0 l1_0.length c1_0, .slice A1_1 l1_1.length c1_1]] rfl zm ?_; (with_reducible refine (laws_eqPages.calls k _ _ l0_0 _ _ l0_1 _ _ l1_0 _ _ l1_1 true _ ?side1 ?side2 ?side3 ?side4 ?side5 ?side6 ?side7 ?side8 A3.out).mono ?_); (case side1 => exact cz (Kd.C_below HR0_0.out HB.out)); (case side2 => exact HC0_0.out); (case side3 => exact cz (Kd.C_below HR0_1.out HB.out)); (case side4 => exact HC0_1.out); (case side5 => exact cz (Kd.C_below HR1_0.out HB.out)); (case side6 => exact HC1_0.out); (case side7 => exact cz (Kd.C_below HR1_1.out HB.out)); (case side8 => exact HC1_1.out); rintro e w55 ⟨rfl, hb⟩; refine ⟨_, rfl, ?_⟩; replace BK101 := Aside0.mk (blk_below (kz BK101.out) hb); replace BK102 := Aside0.mk (blk_below (kz BK102.out) hb); replace HB := Aside0.mk (below_step (bs2 HB.out GE101.out GE102.out) hb); (try clear hb); obtain ⟨hcz56_0, hcz56_1, hcz56_2, hcz56_3, hcz56_4, hcz56_5⟩ := cz6 BK101.out; obtain ⟨hfz56_0, hfz56_1, hfz56_2, hfz56_3, hfz56_4, hfz56_5⟩ := fz6 BK101.out; obtain ⟨hcz57_0, hcz57_1, hcz57_2, hcz57_3, hcz57_4, hcz57_5⟩ := cz6 BK102.out; obtain ⟨hfz57_0, hfz57_1, hfz57_2, hfz57_3, hfz57_4, hfz57_5⟩ := fz6 BK102.out) | ((with_reducible refine gate_callee (f := 58) rfl ?_); refine goesL_ (some 15) rfl rfl Try.func58 zk rfl #[.agg #[.slice A0_2 l0_2.length c0_2, .slice A0_3 l0_3.length c0_3], .agg #[.slice A1_2 l1_2.length c1_2, .slice A1_3 l1_3.length c1_3]] rfl zm ?_; (with_reducible refine (laws_eqPages.calls k _ _ l0_2 _ _ l0_3 _ _ l1_2 _ _ l1_3 false _ ?side1 ?side2 ?side3 ?side4 ?side5 ?side6 ?side7 ?side8 A5.out).mono ?_); (case side1 => exact cz (Kd.C_below HR0_2.out HB.out)); (case side2 => exact HC0_2.out); (case side3 => exact cz (Kd.C_below HR0_3.out HB.out)); (case side4 => exact HC0_3.out); (case side5 => exact cz (Kd.C_below HR1_2.out HB.out)); (case side6 => exact HC1_2.out); (case side7 => exact cz (Kd.C_below HR1_3.out HB.out)); (case side8 => exact HC1_3.out); rintro e w58 ⟨rfl, hb⟩; refine ⟨_, rfl, ?_⟩; replace BK101 := Aside0.mk (blk_below (kz BK101.out) hb); replace BK102 := Aside0.mk (blk_below (kz BK102.out) hb); replace HB := Aside0.mk (below_step (bs2 HB.out GE101.out GE102.out) hb); (try clear hb)))
  go_ret
  exact ⟨ze, bs2 HB.out GE101.out GE102.out⟩
 subst c6; rw [if_pos rfl] at H; replace H := Option.bind_eq_some_iff.mp H; obtain ⟨t105, A70, H⟩ := H; have A7 := Aside0.mk A70; clear A70
 by_cases c8 : t105 = true
 rotate_left
 ·
  replace c8 := Bool.eq_false_iff.mpr c8; subst c8; rw [if_neg nf_] at H; obtain rfl := Option.some.inj H
  go_enter Try.func20, Try.ntmps20
  go_wp2_with (first | ((with_reducible refine gate_dst (N := 2) rfl ?_); refine box_event ?hg (N := 2) ?hd (cs := #[.slice A0_0 l0_0.length c0_0, .slice A0_1 l0_1.length c0_1, .slice A0_2 l0_2.length c0_2, .slice A0_3 l0_3.length c0_3, .slice A0_4 l0_4.length c0_4, .int .i64 a0_5]) (t := 46) ?hr ?_; (case hd => rfl); (case hg => rfl); (case hr => first | (go_simp; done) | (go_simp; rfl)); intro gb101 hg w38 hbox hb; have BK101 := Aside0.mk (hbox); have GW101 := Aside0.mk ((by rw [hg]; exact (below_size (bz HB.out)) : w.heap.size ≤ gb101)); have GE101 := GW101; replace HB := Aside0.mk (below_step (bz HB.out) hb); clear hb hbox hg) | ((with_reducible refine gate_dst (N := 3) rfl ?_); refine box_event ?hg (N := 3) ?hd (cs := #[.slice A1_0 l1_0.length c1_0, .slice A1_1 l1_1.length c1_1, .slice A1_2 l1_2.length c1_2, .slice A1_3 l1_3.length c1_3, .slice A1_4 l1_4.length c1_4, .int .i64 a1_5]) (t := 46) ?hr ?_; (case hd => rfl); (case hg => rfl); (case hr => first | (go_simp; done) | (go_simp; rfl)); intro gb102 hg w39 hbox hb; have BK102 := Aside0.mk (hbox); have GW102 := Aside0.mk ((by rw [hg]; exact (below_size (bs HB.out GE101.out)) : w.heap.size ≤ gb102)); have GE102 := GW102; replace HB := Aside0.mk (below_step (bs HB.out GE101.out) hb); have NB101_102 := Aside0.mk ((by rw [hg]; exact Nat.ne_of_lt (blk_lt (kz BK101.out)) : gb101 ≠ gb102)); have NB102_101 := Aside0.mk NB101_102.out.symm; replace BK101 := Aside0.mk (blk_below (kz BK101.out) hb); clear hb hbox hg; have hnb40 := NB101_102.out; have hnc40 := NB102_101.out; obtain ⟨hcz41_0, hcz41_1, hcz41_2, hcz41_3, hcz41_4, hcz41_5⟩ := cz6 BK101.out; obtain ⟨hfz41_0, hfz41_1, hfz41_2, hfz41_3, hfz41_4, hfz41_5⟩ := fz6 BK101.out; obtain ⟨hcz42_0, hcz42_1, hcz42_2, hcz42_3, hcz42_4, hcz42_5⟩ := cz6 BK102.out; obtain ⟨hfz42_0, hfz42_1, hfz42_2, hfz42_3, hfz42_4, hfz42_5⟩ := fz6 BK102.out) | ((with_reducible refine gate_callee (f := 58) rfl ?_); refine goesL_ (some 9) rfl rfl Try.func58 zk rfl #[.agg #[.slice A0_0 l0_0.length c0_0, .slice A0_1 l0_1.length c0_1], .agg #[.slice A1_0 l1_0.length c1_0, .slice A1_1 l1_1.length c1_1]] rfl zm ?_; (with_reducible refine (laws_eqPages.calls k _ _ l0_0 _ _ l0_1 _ _ l1_0 _ _ l1_1 true _ ?side1 ?side2 ?side3 ?side4 ?side5 ?side6 ?side7 ?side8 A3.out).mono ?_); (case side1 => exact cz (Kd.C_below HR0_0.out HB.out)); (case side2 => exact HC0_0.out); (case side3 => exact cz (Kd.C_below HR0_1.out HB.out)); (case side4 => exact HC0_1.out); (case side5 => exact cz (Kd.C_below HR1_0.out HB.out)); (case side6 => exact HC1_0.out); (case side7 => exact cz (Kd.C_below HR1_1.out HB.out)); (case side8 => exact HC1_1.out); rintro e w43 ⟨rfl, hb⟩; refine ⟨_, rfl, ?_⟩; replace BK101 := Aside0.mk (blk_below (kz BK101.out) hb); replace BK102 := Aside0.mk (blk_below (kz BK102.out) hb); replace HB := Aside0.mk (below_step (bs2 HB.out GE101.out GE102.out) hb); (try clear hb); obtain ⟨hcz44_0, hcz44_1, hcz44_2, hcz44_3, hcz44_4, hcz44_5⟩ := cz6 BK101.out; obtain ⟨hfz44_0, hfz44_1, hfz44_2, hfz44_3, hfz44_4, hfz44_5⟩ := fz6 BK101.out; obtain ⟨hcz45_0, hcz45_1, hcz45_2, hcz45_3, hcz45_4, hcz45_5⟩ := cz6 BK102.out; obtain ⟨hfz45_0, hfz45_1, hfz45_2, hfz45_3, hfz45_4, hfz45_5⟩ := fz6 BK102.out) | ((with_reducible refine gate_callee (f := 58) rfl ?_); refine goesL_ (some 15) rfl rfl Try.func58 zk rfl #[.agg #[.slice A0_2 l0_2.length c0_2, .slice A0_3 l0_3.length c0_3], .agg #[.slice A1_2 l1_2.length c1_2, .slice A1_3 l1_3.length c1_3]] rfl zm ?_; (with_reducible refine (laws_eqPages.calls k _ _ l0_2 _ _ l0_3 _ _ l1_2 _ _ l1_3 true _ ?side1 ?side2 ?side3 ?side4 ?side5 ?side6 ?side7 ?side8 A5.out).mono ?_); (case side1 => exact cz (Kd.C_below HR0_2.out HB.out)); (case side2 => exact HC0_2.out); (case side3 => exact cz (Kd.C_below HR0_3.out HB.out)); (case side4 => exact HC0_3.out); (case side5 => exact cz (Kd.C_below HR1_2.out HB.out)); (case side6 => exact HC1_2.out); (case side7 => exact cz (Kd.C_below HR1_3.out HB.out)); (case side8 => exact HC1_3.out); rintro e w46 ⟨rfl, hb⟩; refine ⟨_, rfl, ?_⟩; replace BK101 := Aside0.mk (blk_below (kz BK101.out) hb); replace BK102 := Aside0.mk (blk_below (kz BK102.out) hb); replace HB := Aside0.mk (below_step (bs2 HB.out GE101.out GE102.out) hb); (try clear hb); obtain ⟨hcz47_0, hcz47_1, hcz47_2, hcz47_3, hcz47_4, hcz47_5⟩ := cz6 BK101.out; obtain ⟨hfz47_0, hfz47_1, hfz47_2, hfz47_3, hfz47_4, hfz47_5⟩ := fz6 BK101.out; obtain ⟨hcz48_0, hcz48_1, hcz48_2, hcz48_3, hcz48_4, hcz48_5⟩ := cz6 BK102.out; obtain ⟨hfz48_0, hfz48_1, hfz48_2, hfz48_3, hfz48_4, hfz48_5⟩ := fz6 BK102.out) | ((with_reducible refine gate_callee (f := 59) rfl ?_); refine goesL_ (some 21) rfl rfl Try.func59 zk rfl #[.slice A0_4 l0_4.length c0_4, .slice A1_4 l1_4.length c1_4] rfl zm ?_; (with_reducible refine (laws_eqSpaceS.calls k _ _ l0_4 _ _ l1_4 false _ ?side1 ?side2 ?side3 ?side4 A7.out).mono ?_); (case side1 => exact cz (Kd.C_below HR0_4.out HB.out)); (case side2 => exact HC0_4.out); (case side3 => exact cz (Kd.C_below HR1_4.out HB.out)); (case side4 => exact HC1_4.out); rintro e w49 ⟨rfl, hb⟩; refine ⟨_, rfl, ?_⟩; replace BK101 := Aside0.mk (blk_below (kz BK101.out) hb); replace BK102 := Aside0.mk (blk_below (kz BK102.out) hb); replace HB := Aside0.mk (below_step (bs2 HB.out GE101.out GE102.out) hb); (try clear hb)))
  go_ret
  exact ⟨ze, bs2 HB.out GE101.out GE102.out⟩
 subst c8; rw [if_pos rfl] at H
 by_cases c9 : a0_5 = a1_5
 rotate_left
 ·
  rw [if_neg c9] at H; have c9b0 : (a0_5 == a1_5) = false := beq_eq_false_iff_ne.mpr c9; have c9b1 : (a0_5 != a1_5) = true := bne_iff_ne.mpr c9; obtain rfl := Option.some.inj H
  go_enter Try.func20, Try.ntmps20
  go_wp2_with (first | ((with_reducible refine gate_dst (N := 2) rfl ?_); refine box_event ?hg (N := 2) ?hd (cs := #[.slice A0_0 l0_0.length c0_0, .slice A0_1 l0_1.length c0_1, .slice A0_2 l0_2.length c0_2, .slice A0_3 l0_3.length c0_3, .slice A0_4 l0_4.length c0_4, .int .i64 a0_5]) (t := 46) ?hr ?_; (case hd => rfl); (case hg => rfl); (case hr => first | (go_simp; done) | (go_simp; rfl)); intro gb101 hg w24 hbox hb; have BK101 := Aside0.mk (hbox); have GW101 := Aside0.mk ((by rw [hg]; exact (below_size (bz HB.out)) : w.heap.size ≤ gb101)); have GE101 := GW101; replace HB := Aside0.mk (below_step (bz HB.out) hb); clear hb hbox hg) | ((with_reducible refine gate_dst (N := 3) rfl ?_); refine box_event ?hg (N := 3) ?hd (cs := #[.slice A1_0 l1_0.length c1_0, .slice A1_1 l1_1.length c1_1, .slice A1_2 l1_2.length c1_2, .slice A1_3 l1_3.length c1_3, .slice A1_4 l1_4.length c1_4, .int .i64 a1_5]) (t := 46) ?hr ?_; (case hd => rfl); (case hg => rfl); (case hr => first | (go_simp; done) | (go_simp; rfl)); intro gb102 hg w25 hbox hb; have BK102 := Aside0.mk (hbox); have GW102 := Aside0.mk ((by rw [hg]; exact (below_size (bs HB.out GE101.out)) : w.heap.size ≤ gb102)); have GE102 := GW102; replace HB := Aside0.mk (below_step (bs HB.out GE101.out) hb); have NB101_102 := Aside0.mk ((by rw [hg]; exact Nat.ne_of_lt (blk_lt (kz BK101.out)) : gb101 ≠ gb102)); have NB102_101 := Aside0.mk NB101_102.out.symm; replace BK101 := Aside0.mk (blk_below (kz BK101.out) hb); clear hb hbox hg; have hnb26 := NB101_102.out; have hnc26 := NB102_101.out; obtain ⟨hcz27_0, hcz27_1, hcz27_2, hcz27_3, hcz27_4, hcz27_5⟩ := cz6 BK101.out; obtain ⟨hfz27_0, hfz27_1, hfz27_2, hfz27_3, hfz27_4, hfz27_5⟩ := fz6 BK101.out; obtain ⟨hcz28_0, hcz28_1, hcz28_2, hcz28_3, hcz28_4, hcz28_5⟩ := cz6 BK102.out; obtain ⟨hfz28_0, hfz28_1, hfz28_2, hfz28_3, hfz28_4, hfz28_5⟩ := fz6 BK102.out) | ((with_reducible refine gate_callee (f := 58) rfl ?_); refine goesL_ (some 9) rfl rfl Try.func58 zk rfl #[.agg #[.slice A0_0 l0_0.length c0_0, .slice A0_1 l0_1.length c0_1], .agg #[.slice A1_0 l1_0.length c1_0, .slice A1_1 l1_1.length c1_1]] rfl zm ?_; (with_reducible refine (laws_eqPages.calls k _ _ l0_0 _ _ l0_1 _ _ l1_0 _ _ l1_1 true _ ?side1 ?side2 ?side3 ?side4 ?side5 ?side6 ?side7 ?side8 A3.out).mono ?_); (case side1 => exact cz (Kd.C_below HR0_0.out HB.out)); (case side2 => exact HC0_0.out); (case side3 => exact cz (Kd.C_below HR0_1.out HB.out)); (case side4 => exact HC0_1.out); (case side5 => exact cz (Kd.C_below HR1_0.out HB.out)); (case side6 => exact HC1_0.out); (case side7 => exact cz (Kd.C_below HR1_1.out HB.out)); (case side8 => exact HC1_1.out); rintro e w29 ⟨rfl, hb⟩; refine ⟨_, rfl, ?_⟩; replace BK101 := Aside0.mk (blk_below (kz BK101.out) hb); replace BK102 := Aside0.mk (blk_below (kz BK102.out) hb); replace HB := Aside0.mk (below_step (bs2 HB.out GE101.out GE102.out) hb); (try clear hb); obtain ⟨hcz30_0, hcz30_1, hcz30_2, hcz30_3, hcz30_4, hcz30_5⟩ := cz6 BK101.out; obtain ⟨hfz30_0, hfz30_1, hfz30_2, hfz30_3, hfz30_4, hfz30_5⟩ := fz6 BK101.out; obtain ⟨hcz31_0, hcz31_1, hcz31_2, hcz31_3, hcz31_4, hcz31_5⟩ := cz6 BK102.out; obtain ⟨hfz31_0, hfz31_1, hfz31_2, hfz31_3, hfz31_4, hfz31_5⟩ := fz6 BK102.out) | ((with_reducible refine gate_callee (f := 58) rfl ?_); refine goesL_ (some 15) rfl rfl Try.func58 zk rfl #[.agg #[.slice A0_2 l0_2.length c0_2, .slice A0_3 l0_3.length c0_3], .agg #[.slice A1_2 l1_2.length c1_2, .slice A1_3 l1_3.length c1_3]] rfl zm ?_; (with_reducible refine (laws_eqPages.calls k _ _ l0_2 _ _ l0_3 _ _ l1_2 _ _ l1_3 true _ ?side1 ?side2 ?side3 ?side4 ?side5 ?side6 ?side7 ?side8 A5.out).mono ?_); (case side1 => exact cz (Kd.C_below HR0_2.out HB.out)); (case side2 => exact HC0_2.out); (case side3 => exact cz (Kd.C_below HR0_3.out HB.out)); (case side4 => exact HC0_3.out); (case side5 => exact cz (Kd.C_below HR1_2.out HB.out)); (case side6 => exact HC1_2.out); (case side7 => exact cz (Kd.C_below HR1_3.out HB.out)); (case side8 => exact HC1_3.out); rintro e w32 ⟨rfl, hb⟩; refine ⟨_, rfl, ?_⟩; replace BK101 := Aside0.mk (blk_below (kz BK101.out) hb); replace BK102 := Aside0.mk (blk_below (kz BK102.out) hb); replace HB := Aside0.mk (below_step (bs2 HB.out GE101.out GE102.out) hb); (try clear hb); obtain ⟨hcz33_0, hcz33_1, hcz33_2, hcz33_3, hcz33_4, hcz33_5⟩ := cz6 BK101.out; obtain ⟨hfz33_0, hfz33_1, hfz33_2, hfz33_3, hfz33_4, hfz33_5⟩ := fz6 BK101.out; obtain ⟨hcz34_0, hcz34_1, hcz34_2, hcz34_3, hcz34_4, hcz34_5⟩ := cz6 BK102.out; obtain ⟨hfz34_0, hfz34_1, hfz34_2, hfz34_3, hfz34_4, hfz34_5⟩ := fz6 BK102.out) | ((with_reducible refine gate_callee (f := 59) rfl ?_); refine goesL_ (some 21) rfl rfl Try.func59 zk rfl #[.slice A0_4 l0_4.length c0_4, .slice A1_4 l1_4.length c1_4] rfl zm ?_; (with_reducible refine (laws_eqSpaceS.calls k _ _ l0_4 _ _ l1_4 true _ ?side1 ?side2 ?side3 ?side4 A7.out).mono ?_); (case side1 => exact cz (Kd.C_below HR0_4.out HB.out)); (case side2 => exact HC0_4.out); (case side3 => exact cz (Kd.C_below HR1_4.out HB.out)); (case side4 => exact HC1_4.out); rintro e w35 ⟨rfl, hb⟩; refine ⟨_, rfl, ?_⟩; replace BK101 := Aside0.mk (blk_below (kz BK101.out) hb); replace BK102 := Aside0.mk (blk_below (kz BK102.out) hb); replace HB := Aside0.mk (below_step (bs2 HB.out GE101.out GE102.out) hb); (try clear hb); obtain ⟨hcz36_0, hcz36_1, hcz36_2, hcz36_3, hcz36_4, hcz36_5⟩ := cz6 BK101.out; obtain ⟨hfz36_0, hfz36_1, hfz36_2, hfz36_3, hfz36_4, hfz36_5⟩ := fz6 BK101.out; obtain ⟨hcz37_0, hcz37_1, hcz37_2, hcz37_3, hcz37_4, hcz37_5⟩ := cz6 BK102.out; obtain ⟨hfz37_0, hfz37_1, hfz37_2, hfz37_3, hfz37_4, hfz37_5⟩ := fz6 BK102.out))
  go_ret
  exact ⟨ze, bs2 HB.out GE101.out GE102.out⟩
 rw [if_pos c9] at H; have c9b0 : (a0_5 == a1_5) = true := beq_iff_eq.mpr c9; have c9b1 : (a0_5 != a1_5) = false := bne_eq_false_iff_eq.mpr c9; clear c9; obtain rfl := Option.some.inj H
 go_enter Try.func20, Try.ntmps20
 go_wp2_with (first | ((with_reducible refine gate_dst (N := 2) rfl ?_); refine box_event ?hg (N := 2) ?hd (cs := #[.slice A0_0 l0_0.length c0_0, .slice A0_1 l0_1.length c0_1, .slice A0_2 l0_2.length c0_2, .slice A0_3 l0_3.length c0_3, .slice A0_4 l0_4.length c0_4, .int .i64 a0_5]) (t := 46) ?hr ?_; (case hd => rfl); (case hg => rfl); (case hr => first | (go_simp; done) | (go_simp; rfl)); intro gb101 hg w10 hbox hb; have BK101 := Aside0.mk (hbox); have GW101 := Aside0.mk ((by rw [hg]; exact (below_size (bz HB.out)) : w.heap.size ≤ gb101)); have GE101 := GW101; replace HB := Aside0.mk (below_step (bz HB.out) hb); clear hb hbox hg) | ((with_reducible refine gate_dst (N := 3) rfl ?_); refine box_event ?hg (N := 3) ?hd (cs := #[.slice A1_0 l1_0.length c1_0, .slice A1_1 l1_1.length c1_1, .slice A1_2 l1_2.length c1_2, .slice A1_3 l1_3.length c1_3, .slice A1_4 l1_4.length c1_4, .int .i64 a1_5]) (t := 46) ?hr ?_; (case hd => rfl); (case hg => rfl); (case hr => first | (go_simp; done) | (go_simp; rfl)); intro gb102 hg w11 hbox hb; have BK102 := Aside0.mk (hbox); have GW102 := Aside0.mk ((by rw [hg]; exact (below_size (bs HB.out GE101.out)) : w.heap.size ≤ gb102)); have GE102 := GW102; replace HB := Aside0.mk (below_step (bs HB.out GE101.out) hb); have NB101_102 := Aside0.mk ((by rw [hg]; exact Nat.ne_of_lt (blk_lt (kz BK101.out)) : gb101 ≠ gb102)); have NB102_101 := Aside0.mk NB101_102.out.symm; replace BK101 := Aside0.mk (blk_below (kz BK101.out) hb); clear hb hbox hg; have hnb12 := NB101_102.out; have hnc12 := NB102_101.out; obtain ⟨hcz13_0, hcz13_1, hcz13_2, hcz13_3, hcz13_4, hcz13_5⟩ := cz6 BK101.out; obtain ⟨hfz13_0, hfz13_1, hfz13_2, hfz13_3, hfz13_4, hfz13_5⟩ := fz6 BK101.out; obtain ⟨hcz14_0, hcz14_1, hcz14_2, hcz14_3, hcz14_4, hcz14_5⟩ := cz6 BK102.out; obtain ⟨hfz14_0, hfz14_1, hfz14_2, hfz14_3, hfz14_4, hfz14_5⟩ := fz6 BK102.out) | ((with_reducible refine gate_callee (f := 58) rfl ?_); refine goesL_ (some 9) rfl rfl Try.func58 zk rfl #[.agg #[.slice A0_0 l0_0.length c0_0, .slice A0_1 l0_1.length c0_1], .agg #[.slice A1_0 l1_0.length c1_0, .slice A1_1 l1_1.length c1_1]] rfl zm ?_; (with_reducible refine (laws_eqPages.calls k _ _ l0_0 _ _ l0_1 _ _ l1_0 _ _ l1_1 true _ ?side1 ?side2 ?side3 ?side4 ?side5 ?side6 ?side7 ?side8 A3.out).mono ?_); (case side1 => exact cz (Kd.C_below HR0_0.out HB.out)); (case side2 => exact HC0_0.out); (case side3 => exact cz (Kd.C_below HR0_1.out HB.out)); (case side4 => exact HC0_1.out); (case side5 => exact cz (Kd.C_below HR1_0.out HB.out)); (case side6 => exact HC1_0.out); (case side7 => exact cz (Kd.C_below HR1_1.out HB.out)); (case side8 => exact HC1_1.out); rintro e w15 ⟨rfl, hb⟩; refine ⟨_, rfl, ?_⟩; replace BK101 := Aside0.mk (blk_below (kz BK101.out) hb); replace BK102 := Aside0.mk (blk_below (kz BK102.out) hb); replace HB := Aside0.mk (below_step (bs2 HB.out GE101.out GE102.out) hb); (try clear hb); obtain ⟨hcz16_0, hcz16_1, hcz16_2, hcz16_3, hcz16_4, hcz16_5⟩ := cz6 BK101.out; obtain ⟨hfz16_0, hfz16_1, hfz16_2, hfz16_3, hfz16_4, hfz16_5⟩ := fz6 BK101.out; obtain ⟨hcz17_0, hcz17_1, hcz17_2, hcz17_3, hcz17_4, hcz17_5⟩ := cz6 BK102.out; obtain ⟨hfz17_0, hfz17_1, hfz17_2, hfz17_3, hfz17_4, hfz17_5⟩ := fz6 BK102.out) | ((with_reducible refine gate_callee (f := 58) rfl ?_); refine goesL_ (some 15) rfl rfl Try.func58 zk rfl #[.agg #[.slice A0_2 l0_2.length c0_2, .slice A0_3 l0_3.length c0_3], .agg #[.slice A1_2 l1_2.length c1_2, .slice A1_3 l1_3.length c1_3]] rfl zm ?_; (with_reducible refine (laws_eqPages.calls k _ _ l0_2 _ _ l0_3 _ _ l1_2 _ _ l1_3 true _ ?side1 ?side2 ?side3 ?side4 ?side5 ?side6 ?side7 ?side8 A5.out).mono ?_); (case side1 => exact cz (Kd.C_below HR0_2.out HB.out)); (case side2 => exact HC0_2.out); (case side3 => exact cz (Kd.C_below HR0_3.out HB.out)); (case side4 => exact HC0_3.out); (case side5 => exact cz (Kd.C_below HR1_2.out HB.out)); (case side6 => exact HC1_2.out); (case side7 => exact cz (Kd.C_below HR1_3.out HB.out)); (case side8 => exact HC1_3.out); rintro e w18 ⟨rfl, hb⟩; refine ⟨_, rfl, ?_⟩; replace BK101 := Aside0.mk (blk_below (kz BK101.out) hb); replace BK102 := Aside0.mk (blk_below (kz BK102.out) hb); replace HB := Aside0.mk (below_step (bs2 HB.out GE101.out GE102.out) hb); (try clear hb); obtain ⟨hcz19_0, hcz19_1, hcz19_2, hcz19_3, hcz19_4, hcz19_5⟩ := cz6 BK101.out; obtain ⟨hfz19_0, hfz19_1, hfz19_2, hfz19_3, hfz19_4, hfz19_5⟩ := fz6 BK101.out; obtain ⟨hcz20_0, hcz20_1, hcz20_2, hcz20_3, hcz20_4, hcz20_5⟩ := cz6 BK102.out; obtain ⟨hfz20_0, hfz20_1, hfz20_2, hfz20_3, hfz20_4, hfz20_5⟩ := fz6 BK102.out) | ((with_reducible refine gate_callee (f := 59) rfl ?_); refine goesL_ (some 21) rfl rfl Try.func59 zk rfl #[.slice A0_4 l0_4.length c0_4, .slice A1_4 l1_4.length c1_4] rfl zm ?_; (with_reducible refine (laws_eqSpaceS.calls k _ _ l0_4 _ _ l1_4 true _ ?side1 ?side2 ?side3 ?side4 A7.out).mono ?_); (case side1 => exact cz (Kd.C_below HR0_4.out HB.out)); (case side2 => exact HC0_4.out); (case side3 => exact cz (Kd.C_below HR1_4.out HB.out)); (case side4 => exact HC1_4.out); rintro e w21 ⟨rfl, hb⟩; refine ⟨_, rfl, ?_⟩; replace BK101 := Aside0.mk (blk_below (kz BK101.out) hb); replace BK102 := Aside0.mk (blk_below (kz BK102.out) hb); replace HB := Aside0.mk (below_step (bs2 HB.out GE101.out GE102.out) hb); (try clear hb); obtain ⟨hcz22_0, hcz22_1, hcz22_2, hcz22_3, hcz22_4, hcz22_5⟩ := cz6 BK101.out; obtain ⟨hfz22_0, hfz22_1, hfz22_2, hfz22_3, hfz22_4, hfz22_5⟩ := fz6 BK101.out; obtain ⟨hcz23_0, hcz23_1, hcz23_2, hcz23_3, hcz23_4, hcz23_5⟩ := cz6 BK102.out; obtain ⟨hfz23_0, hfz23_1, hfz23_2, hfz23_3, hfz23_4, hfz23_5⟩ := fz6 BK102.out))
 go_ret
 exact ⟨ze, bs2 HB.out GE101.out GE102.out⟩

end Go.Proofs.Ythoapmfpokohnaa.P

namespace Go.Proofs.Ythoapmfpokohnaa.P
open Go.RowKit Go.Proofs.YthoapmfpokohnaaW.PrintWords Go.Proofs.YthoapmfpokohnaaW.PrintLast Go.Proofs.YthoapmfpokohnaaW.PrintMore
attribute [local go_sem] max2_int min2_int max_two min_two max_three min_three max_four min_four Q.cell_set_map Q.str_gtr Q.str_geq Q.str_leq
set_option linter.unusedVariables false
set_option linter.unusedSimpArgs false

/-! ### spec_l6In: function 47 -/
def spec_l6In.f (a0 : Int) (a1 : Int) (a2 : Int) : Option (Bool) := if a0 ≥ a1 then (some (decide (a0 ≤ a2))) else (some false)
set_option maxHeartbeats 8000000 in
set_option maxRecDepth 100000 in
theorem spec_l6In.calls (a0 : Int) (a1 : Int) (a2 : Int) (r : Bool) (w : World) (h : spec_l6In.f a0 a1 a2 = some r) :
  Calls Try.prog 47 #[.int .i64 a0, .int .i64 a1, .int .i64 a2] w fun e w' => e = .returned (.bool r) ∧ Drawn0 w w' := by
 have H : (if a0 ≥ a1 then (some (decide (a0 ≤ a2))) else (some false)) = some r := h
 clear h
 by_cases c4 : a0 ≥ a1
 ·
  rw [if_pos c4] at H
  have c4b0 : decide (a1 ≤ a0) = true := decide_eq_true c4
  clear c4
  obtain rfl := Option.some.inj H
  go_enter Try.func47, Try.ntmps47
  go_wp2
  go_ret
  exact ⟨by first | rfl | (simp; done) | (simp [*]; done), by repeat (first | exact Drawn0.refl _ | apply Drawn0.step)⟩
 ·
  rw [if_neg c4] at H
  have c4b0 : decide (a1 ≤ a0) = false := decide_eq_false c4
  clear c4
  obtain rfl := Option.some.inj H
  go_enter Try.func47, Try.ntmps47
  go_wp2
  go_ret
  exact ⟨by first | rfl | (simp; done) | (simp [*]; done), by repeat (first | exact Drawn0.refl _ | apply Drawn0.step)⟩

end Go.Proofs.Ythoapmfpokohnaa.P

namespace Go.Proofs.Ythoapmfpokohnaa.P
open Go.RowKit Go.Proofs.YthoapmfpokohnaaW.PrintWords Go.Proofs.YthoapmfpokohnaaW.PrintLast Go.Proofs.YthoapmfpokohnaaW.PrintMore
attribute [local go_sem] max2_int min2_int max_two min_two max_three min_three max_four min_four Q.cell_set_map Q.str_gtr Q.str_geq Q.str_leq
set_option linter.unusedVariables false
set_option linter.unusedSimpArgs false

/-! ### spec_l3Addr: function 37 -/
def spec_l3Addr.f (a0 : Int) : Option (Bool) := (spec_l6In.f a0 0 63).bind fun t101 => (some t101)
set_option maxHeartbeats 8000000 in
set_option maxRecDepth 100000 in
theorem spec_l3Addr.calls (a0 : Int) (r : Bool) (w : World) (h : spec_l3Addr.f a0 = some r) :
  Calls Try.prog 37 #[.int .i64 a0] w fun e w' => e = .returned (.bool r) ∧ Drawn0 w w' := by
 have H : ((spec_l6In.f a0 0 63).bind fun t101 => (some t101)) = some r := h
 clear h
 replace H := Option.bind_eq_some_iff.mp H
 obtain ⟨t101, A20, H⟩ := H
 have A2 := Aside0.mk A20
 clear A20
 obtain rfl := Option.some.inj H
 go_enter Try.func37, Try.ntmps37
 go_wp2_with (first | ((with_reducible refine gate_callee (f := 47) rfl ?_); refine goesL_ (some 4) rfl rfl Try.func47 zk rfl #[.int .i64 a0, .int .i64 0, .int .i64 63] rfl zm ?_; (with_reducible refine (spec_l6In.calls a0 0 63 t101 _ A2.out).mono ?_); rintro e w' ⟨rfl, ⟨nd, rfl⟩⟩; refine ⟨_, rfl, ?_⟩))
 go_ret
 exact ⟨by first | rfl | (simp; done) | (simp [*]; done), by repeat (first | exact Drawn0.refl _ | apply Drawn0.step)⟩

end Go.Proofs.Ythoapmfpokohnaa.P

namespace Go.Proofs.Ythoapmfpokohnaa.P
open Go.RowKit Go.Proofs.YthoapmfpokohnaaW.PrintWords Go.Proofs.YthoapmfpokohnaaW.PrintLast Go.Proofs.YthoapmfpokohnaaW.PrintMore
attribute [local go_sem] max2_int min2_int max_two min_two max_three min_three max_four min_four Q.cell_set_map Q.str_gtr Q.str_geq Q.str_leq
set_option linter.unusedVariables false
set_option linter.unusedSimpArgs false

/-! ### spec_l2At: function 38 -/
def spec_l2At.l0 : Nat → List (S108) → Int → Int → Option (Int)
 | 0, _, _, _ => none
 | k + 1, x0, x1, x5 => if x5 < (x0.length : Int) then (if 0 ≤ x5 then ((spec_l6In.f x1 ((rd_T108 x0 x5).f0) (wrap64 ((wrap64 (((rd_T108 x0 x5).f0) + ((rd_T108 x0 x5).f1))) - 1))).bind fun t104 => (if t104 = true then (some x5) else (spec_l2At.l0 k x0 x1 (wrap64 (x5 + 1))))) else (none)) else (some (-1))
def spec_l2At.f (k : Nat) (l0 : List (S108)) (a1 : Int) : Option (Int) := spec_l2At.l0 k l0 a1 0
theorem spec_l2At.mono_l : ∀ k, (∀ y0 y1 y2, LeO (spec_l2At.l0 k y0 y1 y2) (spec_l2At.l0 (k + 1) y0 y1 y2))
 | 0 => fun _ _ _ r h => by simp [spec_l2At.l0] at h
 | k + 1 => by
  have ih0 := spec_l2At.mono_l k
  ·
   intro y0 y1 y2
   unfold spec_l2At.l0
   repeat' first
   | (with_reducible exact ih0 _ _ _)
   | (with_reducible exact LeO.refl _)
   | (with_reducible exact LeO.none _)
   | (with_reducible refine LeO.ite ?_ ?_)
   | (with_reducible refine LeO.bind ?_ (fun _ => ?_))
   | exact ih0 _ _ _
   | exact LeO.none _
   | refine LeO.ite ?_ ?_
   | refine LeO.bind ?_ (fun _ => ?_)
theorem spec_l2At.mono : ∀ a0 a1 k, LeO (spec_l2At.f k a0 a1) (spec_l2At.f (k + 1) a0 a1) := by
 intro a0 a1 k
 have ih0 := spec_l2At.mono_l k
 unfold spec_l2At.f
 repeat' first
   | (with_reducible exact ih0 _ _ _)
   | (with_reducible exact LeO.refl _)
   | (with_reducible exact LeO.none _)
   | (with_reducible refine LeO.ite ?_ ?_)
   | (with_reducible refine LeO.bind ?_ (fun _ => ?_))
   | exact ih0 _ _ _
   | exact LeO.none _
   | refine LeO.ite ?_ ?_
   | refine LeO.bind ?_ (fun _ => ?_)
set_option maxHeartbeats 8000000 in
set_option maxRecDepth 100000 in
theorem spec_l2At.calls (k : Nat) (A0 : Option Addr) (c0 : Nat) (l0 : List (S108)) (a1 : Int) (r : Int) (w : World) (hr0 : Kd.C k108 w A0 l0.length l0) (hc0 : l0.length ≤ c0) (h : spec_l2At.f k l0 a1 = some r) :
  Calls Try.prog 38 #[.slice A0 l0.length c0, .int .i64 a1] w fun e w' => e = .returned (.int .i64 r) ∧ Drawn0 w w' := by
 have HR0 := Aside0.mk hr0
 have HC0 := Aside0.mk hc0
 clear hr0 hc0
 have H : (spec_l2At.l0 k l0 a1 0) = some r := h
 clear h
 have H' := Aside0.mk H
 clear H
 go_enter Try.func38, Try.ntmps38
 go_wp2
 repeat (go_quiet (fail); try go_wp2)
 go_loopg [5] k (fun kq v5 w' => ∃ (x5_1 : Int), v5 = .int .i64 x5_1 ∧ Aside0 (spec_l2At.l0 kq l0 a1 x5_1 = some r) ∧ Aside0 (kq ≤ k) ∧ Drawn0 w w')
 case atStart => exact ⟨(0), zr, H', ⟨Nat.le_refl _⟩, by repeat (first | exact Drawn0.refl _ | apply Drawn0.step)⟩
 case round =>
  clear H'
  try clear p2
  obtain ⟨x5_1, rfl, HA, HK1, ⟨m1, rfl⟩⟩ := hrel
  cases gk with
  | zero => exact absurd HA.out (by simp [spec_l2At.l0])
  | succ k1 =>
   have H := HA.out
   clear HA
   simp only [spec_l2At.l0] at H
   by_cases c3 : x5_1 < (l0.length : Int)
   ·
    rw [if_pos c3] at H
    have c3b0 : decide (x5_1 < (l0.length : Int)) = true := decide_eq_true c3
    clear c3
    by_cases c4 : 0 ≤ x5_1
    ·
     rw [if_pos c4] at H
     have c4b0 : decide (0 ≤ x5_1) = true := decide_eq_true c4
     clear c4
     replace H := Option.bind_eq_some_iff.mp H
     obtain ⟨t104, A50, H⟩ := H
     have A5 := Aside0.mk A50
     clear A50
     by_cases c6 : t104 = true
     ·
      subst c6
      rw [if_pos rfl] at H
      obtain rfl := Option.some.inj H
      have p101 : 0 ≤ (x5_1 : Int) := of_decide_eq_true zs
      have q101 : x5_1 < (l0.length : Int) := of_decide_eq_true zs
      obtain ⟨ad101, e101, hx101_0, hx101_1, hx101_2, hx101_3⟩ := at_T108 HR0.out x5_1 p101 q101
      cases e101
      replace p101 := eq_true p101
      replace q101 := eq_true q101
      have p102 : 0 ≤ (x5_1 : Int) := of_decide_eq_true zs
      have q102 : x5_1 < (l0.length : Int) := of_decide_eq_true zs
      obtain ⟨ad102, e102, hx102_0, hx102_1, hx102_2, hx102_3⟩ := at_T108 HR0.out x5_1 p102 q102
      obtain rfl : ad101 = ad102 := (by injection e102)
      replace p102 := eq_true p102
      replace q102 := eq_true q102
      have p103 : 0 ≤ (x5_1 : Int) := of_decide_eq_true zs
      have q103 : x5_1 < (l0.length : Int) := of_decide_eq_true zs
      obtain ⟨ad103, e103, hx103_0, hx103_1, hx103_2, hx103_3⟩ := at_T108 HR0.out x5_1 p103 q103
      obtain rfl : ad101 = ad103 := (by injection e103)
      replace p103 := eq_true p103
      replace q103 := eq_true q103
      go_wp2_with (first | (go_at_call 47; (with_reducible refine (spec_l6In.calls a1 ((rd_T108 l0 x5_1).f0) (wrap64 ((wrap64 (((rd_T108 l0 x5_1).f0) + ((rd_T108 l0 x5_1).f1))) - 1)) true _ A5.out).mono ?_); rintro e w' ⟨rfl, ⟨nd, rfl⟩⟩; (try first | exact ⟨rfl, _, World.drewN_drewN _ _ _⟩ | exact ⟨rfl, _, Eq.trans (World.drewN_drewN _ _ _) (congrArg (World.drewN _) (Nat.add_assoc _ _ _))⟩)))
      repeat (go_quiet (first | (go_at_call 47; (with_reducible refine (spec_l6In.calls a1 ((rd_T108 l0 x5_1).f0) (wrap64 ((wrap64 (((rd_T108 l0 x5_1).f0) + ((rd_T108 l0 x5_1).f1))) - 1)) true _ A5.out).mono ?_); rintro e w' ⟨rfl, ⟨nd, rfl⟩⟩; (try first | exact ⟨rfl, _, World.drewN_drewN _ _ _⟩ | exact ⟨rfl, _, Eq.trans (World.drewN_drewN _ _ _) (congrArg (World.drewN _) (Nat.add_assoc _ _ _))⟩))); try go_wp2_with (first | (go_at_call 47; (with_reducible refine (spec_l6In.calls a1 ((rd_T108 l0 x5_1).f0) (wrap64 ((wrap64 (((rd_T108 l0 x5_1).f0) + ((rd_T108 l0 x5_1).f1))) - 1)) true _ A5.out).mono ?_); rintro e w' ⟨rfl, ⟨nd, rfl⟩⟩; (try first | exact ⟨rfl, _, World.drewN_drewN _ _ _⟩ | exact ⟨rfl, _, Eq.trans (World.drewN_drewN _ _ _) (congrArg (World.drewN _) (Nat.add_assoc _ _ _))⟩))))
      go_ret
      exact ⟨by first | rfl | (simp; done) | (simp [*]; done), by repeat (first | exact Drawn0.refl _ | apply Drawn0.step)⟩
     ·
      replace c6 := Bool.eq_false_iff.mpr c6
      subst c6
      rw [if_neg nf_] at H
      have H' := Aside0.mk H
      clear H
      have p101 : 0 ≤ (x5_1 : Int) := of_decide_eq_true zs
      have q101 : x5_1 < (l0.length : Int) := of_decide_eq_true zs
      obtain ⟨ad101, e101, hx101_0, hx101_1, hx101_2, hx101_3⟩ := at_T108 HR0.out x5_1 p101 q101
      cases e101
      replace p101 := eq_true p101
      replace q101 := eq_true q101
      have p102 : 0 ≤ (x5_1 : Int) := of_decide_eq_true zs
      have q102 : x5_1 < (l0.length : Int) := of_decide_eq_true zs
      obtain ⟨ad102, e102, hx102_0, hx102_1, hx102_2, hx102_3⟩ := at_T108 HR0.out x5_1 p102 q102
      obtain rfl : ad101 = ad102 := (by injection e102)
      replace p102 := eq_true p102
      replace q102 := eq_true q102
      have p103 : 0 ≤ (x5_1 : Int) := of_decide_eq_true zs
      have q103 : x5_1 < (l0.length : Int) := of_decide_eq_true zs
      obtain ⟨ad103, e103, hx103_0, hx103_1, hx103_2, hx103_3⟩ := at_T108 HR0.out x5_1 p103 q103
      obtain rfl : ad101 = ad103 := (by injection e103)
      replace p103 := eq_true p103
      replace q103 := eq_true q103
      go_wp2_with (first | (go_at_call 47; (with_reducible refine (spec_l6In.calls a1 ((rd_T108 l0 x5_1).f0) (wrap64 ((wrap64 (((rd_T108 l0 x5_1).f0) + ((rd_T108 l0 x5_1).f1))) - 1)) false _ A5.out).mono ?_); rintro e w' ⟨rfl, ⟨nd, rfl⟩⟩; (try first | exact ⟨rfl, _, World.drewN_drewN _ _ _⟩ | exact ⟨rfl, _, Eq.trans (World.drewN_drewN _ _ _) (congrArg (World.drewN _) (Nat.add_assoc _ _ _))⟩)))
      repeat (go_quiet (first | (go_at_call 47; (with_reducible refine (spec_l6In.calls a1 ((rd_T108 l0 x5_1).f0) (wrap64 ((wrap64 (((rd_T108 l0 x5_1).f0) + ((rd_T108 l0 x5_1).f1))) - 1)) false _ A5.out).mono ?_); rintro e w' ⟨rfl, ⟨nd, rfl⟩⟩; (try first | exact ⟨rfl, _, World.drewN_drewN _ _ _⟩ | exact ⟨rfl, _, Eq.trans (World.drewN_drewN _ _ _) (congrArg (World.drewN _) (Nat.add_assoc _ _ _))⟩))); try go_wp2_with (first | (go_at_call 47; (with_reducible refine (spec_l6In.calls a1 ((rd_T108 l0 x5_1).f0) (wrap64 ((wrap64 (((rd_T108 l0 x5_1).f0) + ((rd_T108 l0 x5_1).f1))) - 1)) false _ A5.out).mono ?_); rintro e w' ⟨rfl, ⟨nd, rfl⟩⟩; (try first | exact ⟨rfl, _, World.drewN_drewN _ _ _⟩ | exact ⟨rfl, _, Eq.trans (World.drewN_drewN _ _ _) (congrArg (World.drewN _) (Nat.add_assoc _ _ _))⟩))))
      go_roundg k1
      case measure => have := HK1.out; omega
      case rel => exact ⟨(wrap64 (x5_1 + 1)), zr, H', ⟨by have := HK1.out; omega⟩, by repeat (first | exact Drawn0.refl _ | apply Drawn0.step)⟩
    ·
     rw [if_neg c4] at H
     exact absurd H (by simp)
   ·
    rw [if_neg c3] at H
    have c3b0 : decide (x5_1 < (l0.length : Int)) = false := decide_eq_false c3
    clear c3
    obtain rfl := Option.some.inj H
    go_wp2
    repeat (go_quiet (fail); try go_wp2)
    go_ret
    exact ⟨by first | rfl | (simp; done) | (simp [*]; done), by repeat (first | exact Drawn0.refl _ | apply Drawn0.step)⟩

end Go.Proofs.Ythoapmfpokohnaa.P

namespace Go.Proofs.Ythoapmfpokohnaa.P
open Go.RowKit Go.Proofs.YthoapmfpokohnaaW.PrintWords Go.Proofs.YthoapmfpokohnaaW.PrintLast Go.Proofs.YthoapmfpokohnaaW.PrintMore
attribute [local go_sem] max2_int min2_int max_two min_two max_three min_three max_four min_four Q.cell_set_map Q.str_gtr Q.str_geq Q.str_leq
set_option linter.unusedVariables false
set_option linter.unusedSimpArgs false

/-! ### spec_PagesOk: function 46 -/
mutual
def spec_PagesOk.j0 : Nat → Bool → List ByteArray → List Int → Option (Bool)
 | 0, _, _, _ => none
 | k + 1, x18, x102000, x102001 => if x18 = true then (some false) else (spec_PagesOk.l0 k 0 x102000 x102001)
def spec_PagesOk.l0 : Nat → Int → List ByteArray → List Int → Option (Bool)
 | 0, _, _, _ => none
 | k + 1, x3, x102000, x102001 => if x3 < (x102000.length : Int) then (if 0 ≤ x3 then (if x3 < (x102001.length : Int) then (if (rd x102001 x3) = 0 then ((spec_l6In.f (rd x102001 x3) 0 99).bind fun t105 => (if t105 = true then (if ((rdOf ByteArray.empty x102000 x3).size : Int) = 0 then (spec_PagesOk.l0 k (wrap64 (x3 + 1)) x102000 x102001) else (some false)) else (some false))) else ((spec_l6In.f (rd x102001 x3) 0 99).bind fun t108 => (if t108 = true then (if ((rdOf ByteArray.empty x102000 x3).size : Int) = 4 then (spec_PagesOk.l0 k (wrap64 (x3 + 1)) x102000 x102001) else (some false)) else (some false)))) else (none)) else (none)) else (some true)
end
def spec_PagesOk.f (k : Nat) (l0_0 : List ByteArray) (l0_1 : List Int) : Option (Bool) := if (l0_0.length : Int) = (l0_1.length : Int) then ((spec_l6In.f (l0_0.length : Int) 1 12).bind fun t102 => (spec_PagesOk.j0 k (!t102) l0_0 l0_1)) else (spec_PagesOk.j0 k true l0_0 l0_1)
theorem spec_PagesOk.mono_l : ∀ k, (∀ y0 y1 y2, LeO (spec_PagesOk.j0 k y0 y1 y2) (spec_PagesOk.j0 (k + 1) y0 y1 y2)) ∧ (∀ y0 y1 y2, LeO (spec_PagesOk.l0 k y0 y1 y2) (spec_PagesOk.l0 (k + 1) y0 y1 y2))
 | 0 => ⟨fun _ _ _ r h => by simp [spec_PagesOk.j0] at h, fun _ _ _ r h => by simp [spec_PagesOk.l0] at h⟩
 | k + 1 => by
  obtain ⟨ih0, ih1⟩ := spec_PagesOk.mono_l k
  refine ⟨?_, ?_⟩
  ·
   intro y0 y1 y2
   unfold spec_PagesOk.j0
   repeat' first
   | (with_reducible exact ih0 _ _ _)
   | (with_reducible exact ih1 _ _ _)
   | (with_reducible exact LeO.refl _)
   | (with_reducible exact LeO.none _)
   | (with_reducible refine LeO.ite ?_ ?_)
   | (with_reducible refine LeO.bind ?_ (fun _ => ?_))
   | exact ih0 _ _ _
   | exact ih1 _ _ _
   | exact LeO.none _
   | refine LeO.ite ?_ ?_
   | refine LeO.bind ?_ (fun _ => ?_)
  ·
   intro y0 y1 y2
   unfold spec_PagesOk.l0
   repeat' first
   | (with_reducible exact ih0 _ _ _)
   | (with_reducible exact ih1 _ _ _)
   | (with_reducible exact LeO.refl _)
   | (with_reducible exact LeO.none _)
   | (with_reducible refine LeO.ite ?_ ?_)
   | (with_reducible refine LeO.bind ?_ (fun _ => ?_))
   | exact ih0 _ _ _
   | exact ih1 _ _ _
   | exact LeO.none _
   | refine LeO.ite ?_ ?_
   | refine LeO.bind ?_ (fun _ => ?_)
theorem spec_PagesOk.mono : ∀ a0 a1 k, LeO (spec_PagesOk.f k a0 a1) (spec_PagesOk.f (k + 1) a0 a1) := by
 intro a0 a1 k
 obtain ⟨ih0, ih1⟩ := spec_PagesOk.mono_l k
 unfold spec_PagesOk.f
 repeat' first
   | (with_reducible exact ih0 _ _ _)
   | (with_reducible exact ih1 _ _ _)
   | (with_reducible exact LeO.refl _)
   | (with_reducible exact LeO.none _)
   | (with_reducible refine LeO.ite ?_ ?_)
   | (with_reducible refine LeO.bind ?_ (fun _ => ?_))
   | exact ih0 _ _ _
   | exact ih1 _ _ _
   | exact LeO.none _
   | refine LeO.ite ?_ ?_
   | refine LeO.bind ?_ (fun _ => ?_)
set_option maxHeartbeats 8000000 in
set_option maxRecDepth 100000 in
theorem spec_PagesOk.calls (k : Nat) (A0_0 : Option Addr) (c0_0 : Nat) (l0_0 : List ByteArray) (A0_1 : Option Addr) (c0_1 : Nat) (l0_1 : List Int) (r : Bool) (w : World) (hr0_0 : Kd.C Kd.string w A0_0 l0_0.length l0_0) (hc0_0 : l0_0.length ≤ c0_0) (hr0_1 : Kd.C (Kd.int .i64) w A0_1 l0_1.length l0_1) (hc0_1 : l0_1.length ≤ c0_1) (h : spec_PagesOk.f k l0_0 l0_1 = some r) :
  Calls Try.prog 46 #[.agg #[.slice A0_0 l0_0.length c0_0, .slice A0_1 l0_1.length c0_1]] w fun e w' => e = .returned (.bool r) ∧ Below w.heap.size w w' := by
 have hu43 := Try.underlying43; have HR0_0 := Aside0.mk hr0_0; have HC0_0 := Aside0.mk hc0_0; clear hr0_0 hc0_0; have HR0_1 := Aside0.mk hr0_1; have HC0_1 := Aside0.mk hc0_1; clear hr0_1 hc0_1; have HB := Aside0.mk (Below.refl w.heap.size w); have H : (if (l0_0.length : Int) = (l0_1.length : Int) then ((spec_l6In.f (l0_0.length : Int) 1 12).bind fun t102 => (spec_PagesOk.j0 k (!t102) l0_0 l0_1)) else (spec_PagesOk.j0 k true l0_0 l0_1)) = some r := h; clear h; have HC2 := Aside0.mk H; clear H
 go_enter Try.func46, Try.ntmps46
 go_upto_region 1 with (first | ((with_reducible refine gate_dst (N := 1) rfl ?_); (try (refine gate_guard (by rfl) ?_; dsimp only)); refine box_event ?hg (N := 1) ?hd (cs := #[.slice A0_0 l0_0.length c0_0, .slice A0_1 l0_1.length c0_1]) (t := 43) ?hr ?_; (case hd => rfl); (case hg => rfl); (case hr => first | (go_simp; done) | (go_simp; rfl)); intro gb101 hg w3 hbox hb; have BK101 := Aside0.mk (hbox); have GW101 := Aside0.mk ((by rw [hg]; exact (below_size (bz HB.out)) : w.heap.size ≤ gb101)); have GE101 := GW101; replace HB := Aside0.mk (below_step (bz HB.out) hb); clear hb hbox hg))
 (try simp only [Act.put, List.setIfInBounds_toArray, List.set_cons_zero, List.set_cons_succ])
 go_cut [18] (fun v18 wc => ∃ (kq : Nat) (x18_1 : Bool), v18 = .bool x18_1 ∧ Aside0 (spec_PagesOk.j0 kq x18_1 l0_0 l0_1 = some r) ∧ Aside0 (kq ≤ k) ∧ Aside0 (wc.heap[gb101]? = some (.cells #[(.slice A0_0 l0_0.length c0_0), (.slice A0_1 l0_1.length c0_1)] 43 (0, 0))) ∧ Aside0 (Below w.heap.size w wc))
 case first =>
  have H := HC2.out; clear HC2
  by_cases c4 : (l0_0.length : Int) = (l0_1.length : Int)
  rotate_left
  ·
   rw [if_neg c4] at H; have c4b0 : ((l0_0.length : Int) == (l0_1.length : Int)) = false := beq_eq_false_iff_ne.mpr c4; have c4b1 : ((l0_0.length : Int) != (l0_1.length : Int)) = true := bne_iff_ne.mpr c4
   have c4b2 : (l0_0.length == l0_1.length) = false := by first | simpa using c4 | (simp at c4 ⊢; omega)
   (first | rw [c4b0] | (simp only [i64_w, i32_w]; rw [c4b0]) | skip)
   have H' := Aside0.mk H; clear H; obtain ⟨hcz7_0, hcz7_1⟩ := cz2 BK101.out; obtain ⟨hfz7_0, hfz7_1⟩ := fz2 BK101.out
   go_wp2
   go_meet
   case rel => exact ⟨_, (true), zr, H', ⟨by first | omega | exact Nat.le_refl _⟩, ⟨kz (BK101.out)⟩, ⟨bs HB.out GE101.out⟩⟩
  rw [if_pos c4] at H; have c4b0 : ((l0_0.length : Int) == (l0_1.length : Int)) = true := beq_iff_eq.mpr c4; have c4b1 : ((l0_0.length : Int) != (l0_1.length : Int)) = false := bne_eq_false_iff_eq.mpr c4
  have c4b2 : (l0_0.length == l0_1.length) = true := by first | simpa using c4 | (simp at c4 ⊢; omega)
  clear c4
  (first | rw [c4b0] | (simp only [i64_w, i32_w]; rw [c4b0]) | skip)
  replace H := Option.bind_eq_some_iff.mp H; obtain ⟨t102, A50, H⟩ := H; have A5 := Aside0.mk A50; clear A50; have H' := Aside0.mk H; clear H; obtain ⟨hcz6_0, hcz6_1⟩ := cz2 BK101.out; obtain ⟨hfz6_0, hfz6_1⟩ := fz2 BK101.out
  go_wp2_with (first | (go_at_call 47; (with_reducible refine (spec_l6In.calls (l0_0.length : Int) 1 12 t102 _ A5.out).mono ?_); rintro e w' ⟨rfl, ⟨nd, rfl⟩⟩))
  go_meet
  case rel => exact ⟨_, (!t102), zr, H', ⟨by first | omega | exact Nat.le_refl _⟩, ⟨kz (BK101.out)⟩, ⟨bs HB.out GE101.out⟩⟩
 case rest =>
  clear HC2
  obtain ⟨kq, x18_1, rfl, HA, HJ1, BK101, HB⟩ := hcut
  cases kq with
  | zero => exact absurd HA.out (by simp [spec_PagesOk.j0])
  | succ kj1 =>
   have H := HA.out; clear HA; simp only [spec_PagesOk.j0] at H
   by_cases c8 : x18_1 = true
   ·
    subst c8; rw [if_pos rfl] at H; obtain rfl := Option.some.inj H
    go_wp2
    go_ret
    exact ⟨ze, bs HB.out GE101.out⟩
   replace c8 := Bool.eq_false_iff.mpr c8; subst c8; rw [if_neg nf_] at H; have H' := Aside0.mk H; clear H
   go_wp2
   go_loopg [3] kj1 (fun kq v3 w' => ∃ (x3_2 : Int), v3 = .int .i64 x3_2 ∧ Aside0 (spec_PagesOk.l0 kq x3_2 l0_0 l0_1 = some r) ∧ Aside0 (kq ≤ kj1) ∧ Aside0 (w'.heap[gb101]? = some (.cells #[(.slice A0_0 l0_0.length c0_0), (.slice A0_1 l0_1.length c0_1)] 43 (0, 0))) ∧ Aside0 (Below w.heap.size w w'))
   case atStart => exact ⟨(0), zr, H', ⟨Nat.le_refl _⟩, ⟨kz (BK101.out)⟩, ⟨bs HB.out GE101.out⟩⟩
   case round =>
    clear H'
    (try clear c8)
    obtain ⟨x3_2, rfl, HA, HK2, BK101, HB⟩ := hrel
    cases gk with
    | zero => exact absurd HA.out (by simp [spec_PagesOk.l0])
    | succ k2 =>
     have H := HA.out; clear HA; simp only [spec_PagesOk.l0] at H
     by_cases c9 : x3_2 < (l0_0.length : Int)
     rotate_left
     ·
      rw [if_neg c9] at H; have c9b0 : decide (x3_2 < (l0_0.length : Int)) = false := decide_eq_false c9; clear c9; obtain rfl := Option.some.inj H; obtain ⟨hcz25_0, hcz25_1⟩ := cz2 BK101.out; obtain ⟨hfz25_0, hfz25_1⟩ := fz2 BK101.out
      go_wp2
      go_ret
      exact ⟨ze, bs HB.out GE101.out⟩
     rw [if_pos c9] at H; have c9b0 : decide (x3_2 < (l0_0.length : Int)) = true := decide_eq_true c9; clear c9
     by_cases c10 : 0 ≤ x3_2
     rotate_left
     ·
      rw [if_neg c10] at H
      exact absurd H (by simp)
     rw [if_pos c10] at H; have c10b0 : decide (0 ≤ x3_2) = true := decide_eq_true c10; clear c10
     by_cases c11 : x3_2 < (l0_1.length : Int)
     rotate_left
     ·
      rw [if_neg c11] at H
      exact absurd H (by simp)
     rw [if_pos c11] at H; have c11b0 : decide (x3_2 < (l0_1.length : Int)) = true := decide_eq_true c11; clear c11
     by_cases c12 : (rd l0_1 x3_2) = 0
     rotate_left
     ·
      rw [if_neg c12] at H; have c12b0 : ((rd l0_1 x3_2) == 0) = false := beq_eq_false_iff_ne.mpr c12; have c12b1 : ((rd l0_1 x3_2) != 0) = true := bne_iff_ne.mpr c12; replace H := Option.bind_eq_some_iff.mp H; obtain ⟨t108, A190, H⟩ := H; have A19 := Aside0.mk A190; clear A190
      by_cases c20 : t108 = true
      rotate_left
      ·
       replace c20 := Bool.eq_false_iff.mpr c20; subst c20; rw [if_neg nf_] at H; obtain rfl := Option.some.inj H; obtain ⟨hcz24_0, hcz24_1⟩ := cz2 BK101.out; obtain ⟨hfz24_0, hfz24_1⟩ := fz2 BK101.out; have p103 : 0 ≤ (x3_2 : Int) := of_decide_eq_true zs; have q103 : x3_2 < (l0_1.length : Int) := of_decide_eq_true zs; obtain ⟨ad103, e103, hx103_0⟩ := Kd.at_int HR0_1.out x3_2 p103 q103; cases e103; replace hx103_0 := pw_cell_below HB.out hx103_0; replace p103 := eq_true p103; replace q103 := eq_true q103; have p107 : 0 ≤ (x3_2 : Int) := of_decide_eq_true zs; have q107 : x3_2 < (l0_1.length : Int) := of_decide_eq_true zs; obtain ⟨ad107, e107, hx107_0⟩ := Kd.at_int HR0_1.out x3_2 p107 q107; obtain rfl : ad103 = ad107 := (by injection e107); replace hx107_0 := pw_cell_below HB.out hx107_0; replace p107 := eq_true p107; replace q107 := eq_true q107
       go_wp2_with (first | ((with_reducible refine gate_callee (f := 47) rfl ?_); refine goesL_ (some 37) rfl rfl Try.func47 zk rfl #[.int .i64 (rd l0_1 x3_2), .int .i64 0, .int .i64 99] rfl zm ?_; (with_reducible refine (spec_l6In.calls (rd l0_1 x3_2) 0 99 false _ A19.out).mono ?_); rintro e w' ⟨rfl, ⟨nd, rfl⟩⟩; refine ⟨_, rfl, ?_⟩))
       go_ret
       exact ⟨ze, bs HB.out GE101.out⟩
      subst c20; rw [if_pos rfl] at H
      by_cases c21 : ((rdOf ByteArray.empty l0_0 x3_2).size : Int) = 4
      rotate_left
      ·
       rw [if_neg c21] at H; have c21b0 : (((rdOf ByteArray.empty l0_0 x3_2).size : Int) == 4) = false := beq_eq_false_iff_ne.mpr c21; have c21b1 : (((rdOf ByteArray.empty l0_0 x3_2).size : Int) != 4) = true := bne_iff_ne.mpr c21; obtain rfl := Option.some.inj H; obtain ⟨hcz23_0, hcz23_1⟩ := cz2 BK101.out; obtain ⟨hfz23_0, hfz23_1⟩ := fz2 BK101.out; have p103 : 0 ≤ (x3_2 : Int) := of_decide_eq_true zs; have q103 : x3_2 < (l0_1.length : Int) := of_decide_eq_true zs; obtain ⟨ad103, e103, hx103_0⟩ := Kd.at_int HR0_1.out x3_2 p103 q103; cases e103; replace hx103_0 := pw_cell_below HB.out hx103_0; replace p103 := eq_true p103; replace q103 := eq_true q103; have p107 : 0 ≤ (x3_2 : Int) := of_decide_eq_true zs; have q107 : x3_2 < (l0_1.length : Int) := of_decide_eq_true zs; obtain ⟨ad107, e107, hx107_0⟩ := Kd.at_int HR0_1.out x3_2 p107 q107; obtain rfl : ad103 = ad107 := (by injection e107); replace hx107_0 := pw_cell_below HB.out hx107_0; replace p107 := eq_true p107; replace q107 := eq_true q107
       go_wp2_with (first | ((with_reducible refine gate_callee (f := 47) rfl ?_); refine goesL_ (some 37) rfl rfl Try.func47 zk rfl #[.int .i64 (rd l0_1 x3_2), .int .i64 0, .int .i64 99] rfl zm ?_; (with_reducible refine (spec_l6In.calls (rd l0_1 x3_2) 0 99 true _ A19.out).mono ?_); rintro e w' ⟨rfl, ⟨nd, rfl⟩⟩; refine ⟨_, rfl, ?_⟩; have p109 : 0 ≤ (x3_2 : Int) := of_decide_eq_true zs; have q109 : x3_2 < (l0_0.length : Int) := of_decide_eq_true zs; obtain ⟨ad109, e109, hx109_0⟩ := Kd.at_string HR0_0.out x3_2 p109 q109; cases e109; replace hx109_0 := pw_cell_below HB.out hx109_0; replace p109 := eq_true p109; replace q109 := eq_true q109))
       go_ret
       exact ⟨ze, bs HB.out GE101.out⟩
      rw [if_pos c21] at H; have c21b0 : (((rdOf ByteArray.empty l0_0 x3_2).size : Int) == 4) = true := beq_iff_eq.mpr c21; have c21b1 : (((rdOf ByteArray.empty l0_0 x3_2).size : Int) != 4) = false := bne_eq_false_iff_eq.mpr c21; clear c21; have H' := Aside0.mk H; clear H; obtain ⟨hcz22_0, hcz22_1⟩ := cz2 BK101.out; obtain ⟨hfz22_0, hfz22_1⟩ := fz2 BK101.out; have p103 : 0 ≤ (x3_2 : Int) := of_decide_eq_true zs; have q103 : x3_2 < (l0_1.length : Int) := of_decide_eq_true zs; obtain ⟨ad103, e103, hx103_0⟩ := Kd.at_int HR0_1.out x3_2 p103 q103; cases e103; replace hx103_0 := pw_cell_below HB.out hx103_0; replace p103 := eq_true p103; replace q103 := eq_true q103; have p107 : 0 ≤ (x3_2 : Int) := of_decide_eq_true zs; have q107 : x3_2 < (l0_1.length : Int) := of_decide_eq_true zs; obtain ⟨ad107, e107, hx107_0⟩ := Kd.at_int HR0_1.out x3_2 p107 q107; obtain rfl : ad103 = ad107 := (by injection e107); replace hx107_0 := pw_cell_below HB.out hx107_0; replace p107 := eq_true p107; replace q107 := eq_true q107
      go_wp2_with (first | ((with_reducible refine gate_callee (f := 47) rfl ?_); refine goesL_ (some 37) rfl rfl Try.func47 zk rfl #[.int .i64 (rd l0_1 x3_2), .int .i64 0, .int .i64 99] rfl zm ?_; (with_reducible refine (spec_l6In.calls (rd l0_1 x3_2) 0 99 true _ A19.out).mono ?_); rintro e w' ⟨rfl, ⟨nd, rfl⟩⟩; refine ⟨_, rfl, ?_⟩; have p109 : 0 ≤ (x3_2 : Int) := of_decide_eq_true zs; have q109 : x3_2 < (l0_0.length : Int) := of_decide_eq_true zs; obtain ⟨ad109, e109, hx109_0⟩ := Kd.at_string HR0_0.out x3_2 p109 q109; cases e109; replace hx109_0 := pw_cell_below HB.out hx109_0; replace p109 := eq_true p109; replace q109 := eq_true q109))
      go_roundg k2
      case measure => have := HJ1.out; have := HK2.out; omega
      case rel => exact ⟨(wrap64 (x3_2 + 1)), zr, H', ⟨by have := HJ1.out; have := HK2.out; omega⟩, ⟨kz (BK101.out)⟩, ⟨bs HB.out GE101.out⟩⟩
     rw [if_pos c12] at H; have c12b0 : ((rd l0_1 x3_2) == 0) = true := beq_iff_eq.mpr c12; have c12b1 : ((rd l0_1 x3_2) != 0) = false := bne_eq_false_iff_eq.mpr c12; clear c12; replace H := Option.bind_eq_some_iff.mp H; obtain ⟨t105, A130, H⟩ := H; have A13 := Aside0.mk A130; clear A130
     by_cases c14 : t105 = true
     rotate_left
     ·
      replace c14 := Bool.eq_false_iff.mpr c14; subst c14; rw [if_neg nf_] at H; obtain rfl := Option.some.inj H; obtain ⟨hcz18_0, hcz18_1⟩ := cz2 BK101.out; obtain ⟨hfz18_0, hfz18_1⟩ := fz2 BK101.out; have p103 : 0 ≤ (x3_2 : Int) := of_decide_eq_true zs; have q103 : x3_2 < (l0_1.length : Int) := of_decide_eq_true zs; obtain ⟨ad103, e103, hx103_0⟩ := Kd.at_int HR0_1.out x3_2 p103 q103; cases e103; replace hx103_0 := pw_cell_below HB.out hx103_0; replace p103 := eq_true p103; replace q103 := eq_true q103; have p104 : 0 ≤ (x3_2 : Int) := of_decide_eq_true zs; have q104 : x3_2 < (l0_1.length : Int) := of_decide_eq_true zs; obtain ⟨ad104, e104, hx104_0⟩ := Kd.at_int HR0_1.out x3_2 p104 q104; obtain rfl : ad103 = ad104 := (by injection e104); replace hx104_0 := pw_cell_below HB.out hx104_0; replace p104 := eq_true p104; replace q104 := eq_true q104
      go_wp2_with (first | ((with_reducible refine gate_callee (f := 47) rfl ?_); refine goesL_ (some 37) rfl rfl Try.func47 zk rfl #[.int .i64 (rd l0_1 x3_2), .int .i64 0, .int .i64 99] rfl zm ?_; (with_reducible refine (spec_l6In.calls (rd l0_1 x3_2) 0 99 false _ A13.out).mono ?_); rintro e w' ⟨rfl, ⟨nd, rfl⟩⟩; refine ⟨_, rfl, ?_⟩))
      go_ret
      exact ⟨ze, bs HB.out GE101.out⟩
     subst c14; rw [if_pos rfl] at H
     by_cases c15 : ((rdOf ByteArray.empty l0_0 x3_2).size : Int) = 0
     rotate_left
     ·
      rw [if_neg c15] at H; have c15b0 : (((rdOf ByteArray.empty l0_0 x3_2).size : Int) == 0) = false := beq_eq_false_iff_ne.mpr c15; have c15b1 : (((rdOf ByteArray.empty l0_0 x3_2).size : Int) != 0) = true := bne_iff_ne.mpr c15; obtain rfl := Option.some.inj H; obtain ⟨hcz17_0, hcz17_1⟩ := cz2 BK101.out; obtain ⟨hfz17_0, hfz17_1⟩ := fz2 BK101.out; have p103 : 0 ≤ (x3_2 : Int) := of_decide_eq_true zs; have q103 : x3_2 < (l0_1.length : Int) := of_decide_eq_true zs; obtain ⟨ad103, e103, hx103_0⟩ := Kd.at_int HR0_1.out x3_2 p103 q103; cases e103; replace hx103_0 := pw_cell_below HB.out hx103_0; replace p103 := eq_true p103; replace q103 := eq_true q103; have p104 : 0 ≤ (x3_2 : Int) := of_decide_eq_true zs; have q104 : x3_2 < (l0_1.length : Int) := of_decide_eq_true zs; obtain ⟨ad104, e104, hx104_0⟩ := Kd.at_int HR0_1.out x3_2 p104 q104; obtain rfl : ad103 = ad104 := (by injection e104); replace hx104_0 := pw_cell_below HB.out hx104_0; replace p104 := eq_true p104; replace q104 := eq_true q104
      go_wp2_with (first | ((with_reducible refine gate_callee (f := 47) rfl ?_); refine goesL_ (some 37) rfl rfl Try.func47 zk rfl #[.int .i64 (rd l0_1 x3_2), .int .i64 0, .int .i64 99] rfl zm ?_; (with_reducible refine (spec_l6In.calls (rd l0_1 x3_2) 0 99 true _ A13.out).mono ?_); rintro e w' ⟨rfl, ⟨nd, rfl⟩⟩; refine ⟨_, rfl, ?_⟩; have p106 : 0 ≤ (x3_2 : Int) := of_decide_eq_true zs; have q106 : x3_2 < (l0_0.length : Int) := of_decide_eq_true zs; obtain ⟨ad106, e106, hx106_0⟩ := Kd.at_string HR0_0.out x3_2 p106 q106; cases e106; replace hx106_0 := pw_cell_below HB.out hx106_0; replace p106 := eq_true p106; replace q106 := eq_true q106))
      go_ret
      exact ⟨ze, bs HB.out GE101.out⟩
     rw [if_pos c15] at H; have c15b0 : (((rdOf ByteArray.empty l0_0 x3_2).size : Int) == 0) = true := beq_iff_eq.mpr c15; have c15b1 : (((rdOf ByteArray.empty l0_0 x3_2).size : Int) != 0) = false := bne_eq_false_iff_eq.mpr c15; clear c15; have H' := Aside0.mk H; clear H; obtain ⟨hcz16_0, hcz16_1⟩ := cz2 BK101.out; obtain ⟨hfz16_0, hfz16_1⟩ := fz2 BK101.out; have p103 : 0 ≤ (x3_2 : Int) := of_decide_eq_true zs; have q103 : x3_2 < (l0_1.length : Int) := of_decide_eq_true zs; obtain ⟨ad103, e103, hx103_0⟩ := Kd.at_int HR0_1.out x3_2 p103 q103; cases e103; replace hx103_0 := pw_cell_below HB.out hx103_0; replace p103 := eq_true p103; replace q103 := eq_true q103; have p104 : 0 ≤ (x3_2 : Int) := of_decide_eq_true zs; have q104 : x3_2 < (l0_1.length : Int) := of_decide_eq_true zs; obtain ⟨ad104, e104, hx104_0⟩ := Kd.at_int HR0_1.out x3_2 p104 q104; obtain rfl : ad103 = ad104 := (by injection e104); replace hx104_0 := pw_cell_below HB.out hx104_0; replace p104 := eq_true p104; replace q104 := eq_true q104
     go_wp2_with (first | ((with_reducible refine gate_callee (f := 47) rfl ?_); refine goesL_ (some 37) rfl rfl Try.func47 zk rfl #[.int .i64 (rd l0_1 x3_2), .int .i64 0, .int .i64 99] rfl zm ?_; (with_reducible refine (spec_l6In.calls (rd l0_1 x3_2) 0 99 true _ A13.out).mono ?_); rintro e w' ⟨rfl, ⟨nd, rfl⟩⟩; refine ⟨_, rfl, ?_⟩; have p106 : 0 ≤ (x3_2 : Int) := of_decide_eq_true zs; have q106 : x3_2 < (l0_0.length : Int) := of_decide_eq_true zs; obtain ⟨ad106, e106, hx106_0⟩ := Kd.at_string HR0_0.out x3_2 p106 q106; cases e106; replace hx106_0 := pw_cell_below HB.out hx106_0; replace p106 := eq_true p106; replace q106 := eq_true q106))
     go_roundg k2
     case measure => have := HJ1.out; have := HK2.out; omega
     case rel => exact ⟨(wrap64 (x3_2 + 1)), zr, H', ⟨by have := HJ1.out; have := HK2.out; omega⟩, ⟨kz (BK101.out)⟩, ⟨bs HB.out GE101.out⟩⟩

end Go.Proofs.Ythoapmfpokohnaa.P

namespace Go.Proofs.Ythoapmfpokohnaa.P
open Go.RowKit Go.Proofs.YthoapmfpokohnaaW.PrintWords Go.Proofs.YthoapmfpokohnaaW.PrintLast Go.Proofs.YthoapmfpokohnaaW.PrintMore
attribute [local go_sem] max2_int min2_int max_two min_two max_three min_three max_four min_four Q.cell_set_map Q.str_gtr Q.str_geq Q.str_leq
set_option linter.unusedVariables false
set_option linter.unusedSimpArgs false

/-! ### spec_AreaOk: function 118 -/
def spec_AreaOk.f (a0_0 : Int) (a0_1 : Int) (a0_2 : Bool) (a0_3 : Bool) : Option (Bool) := (spec_l6In.f a0_0 0 15).bind fun t102 => (if t102 = true then ((spec_l6In.f a0_1 1 (wrap64 (16 - a0_0))).bind fun t103 => (some t103)) else (some false))
set_option maxHeartbeats 8000000 in
set_option maxRecDepth 100000 in
theorem spec_AreaOk.calls (a0_0 : Int) (a0_1 : Int) (a0_2 : Bool) (a0_3 : Bool) (r : Bool) (w : World) (h : spec_AreaOk.f a0_0 a0_1 a0_2 a0_3 = some r) :
  Calls Try.prog 118 #[.agg #[.int .i64 a0_0, .int .i64 a0_1, .bool a0_2, .bool a0_3]] w fun e w' => e = .returned (.bool r) ∧ Below w.heap.size w w' := by
 have hu108 := Try.underlying108
 have HB := Aside0.mk (Below.refl w.heap.size w)
 have H : ((spec_l6In.f a0_0 0 15).bind fun t102 => (if t102 = true then ((spec_l6In.f a0_1 1 (wrap64 (16 - a0_0))).bind fun t103 => (some t103)) else (some false))) = some r := h
 clear h
 replace H := Option.bind_eq_some_iff.mp H
 obtain ⟨t102, A20, H⟩ := H
 have A2 := Aside0.mk A20
 clear A20
 by_cases c3 : t102 = true
 ·
  subst c3
  rw [if_pos rfl] at H
  replace H := Option.bind_eq_some_iff.mp H
  obtain ⟨t103, A40, H⟩ := H
  have A4 := Aside0.mk A40
  clear A40
  obtain rfl := Option.some.inj H
  go_enter Try.func118, Try.ntmps118
  go_wp2_with (first | ((with_reducible refine gate_dst (N := 1) rfl ?_); refine box_event ?hg (N := 1) ?hd (cs := #[.int .i64 a0_0, .int .i64 a0_1, .bool a0_2, .bool a0_3]) (t := 108) ?hr ?_; (case hd => rfl); (case hg => rfl); (case hr => first | (go_simp; done) | (go_simp; rfl)); intro gb101 hg w5 hbox hb; have BK101 := Aside0.mk (hbox); have GW101 := Aside0.mk ((by rw [hg]; exact (below_size (bz HB.out)) : w.heap.size ≤ gb101)); have GE101 := Aside0.mk ((by rw [hg]; exact (below_size (bz HB.out)) : w.heap.size ≤ gb101)); replace HB := Aside0.mk (below_step (bz HB.out) hb); clear hb hbox hg; obtain ⟨hcz6_0, hcz6_1, hcz6_2, hcz6_3⟩ := cz4 BK101.out; obtain ⟨hfz6_0, hfz6_1, hfz6_2, hfz6_3⟩ := fz4 BK101.out) | ((with_reducible refine gate_callee (f := 47) rfl ?_); refine goesL_ (some 5) rfl rfl Try.func47 zk rfl #[.int .i64 a0_0, .int .i64 0, .int .i64 15] rfl zm ?_; (with_reducible refine (spec_l6In.calls a0_0 0 15 true _ A2.out).mono ?_); rintro e w' ⟨rfl, ⟨nd, rfl⟩⟩; refine ⟨_, rfl, ?_⟩) | (go_at_call 47; (with_reducible refine (spec_l6In.calls a0_1 1 (wrap64 (16 - a0_0)) t103 _ A4.out).mono ?_); rintro e w' ⟨rfl, ⟨nd, rfl⟩⟩))
  go_ret
  exact ⟨ze, bs HB.out GE101.out⟩
 ·
  replace c3 := Bool.eq_false_iff.mpr c3
  subst c3
  rw [if_neg nf_] at H
  obtain rfl := Option.some.inj H
  go_enter Try.func118, Try.ntmps118
  go_wp2_with (first | ((with_reducible refine gate_dst (N := 1) rfl ?_); refine box_event ?hg (N := 1) ?hd (cs := #[.int .i64 a0_0, .int .i64 a0_1, .bool a0_2, .bool a0_3]) (t := 108) ?hr ?_; (case hd => rfl); (case hg => rfl); (case hr => first | (go_simp; done) | (go_simp; rfl)); intro gb101 hg w7 hbox hb; have BK101 := Aside0.mk (hbox); have GW101 := Aside0.mk ((by rw [hg]; exact (below_size (bz HB.out)) : w.heap.size ≤ gb101)); have GE101 := Aside0.mk ((by rw [hg]; exact (below_size (bz HB.out)) : w.heap.size ≤ gb101)); replace HB := Aside0.mk (below_step (bz HB.out) hb); clear hb hbox hg; obtain ⟨hcz8_0, hcz8_1, hcz8_2, hcz8_3⟩ := cz4 BK101.out; obtain ⟨hfz8_0, hfz8_1, hfz8_2, hfz8_3⟩ := fz4 BK101.out) | ((with_reducible refine gate_callee (f := 47) rfl ?_); refine goesL_ (some 5) rfl rfl Try.func47 zk rfl #[.int .i64 a0_0, .int .i64 0, .int .i64 15] rfl zm ?_; (with_reducible refine (spec_l6In.calls a0_0 0 15 false _ A2.out).mono ?_); rintro e w' ⟨rfl, ⟨nd, rfl⟩⟩; refine ⟨_, rfl, ?_⟩))
  go_ret
  exact ⟨ze, bs HB.out GE101.out⟩

end Go.Proofs.Ythoapmfpokohnaa.P

namespace Go.Proofs.Ythoapmfpokohnaa.P
open Go.RowKit Go.Proofs.YthoapmfpokohnaaW.PrintWords Go.Proofs.YthoapmfpokohnaaW.PrintLast Go.Proofs.YthoapmfpokohnaaW.PrintMore
attribute [local go_sem] max2_int min2_int max_two min_two max_three min_three max_four min_four Q.cell_set_map Q.str_gtr Q.str_geq Q.str_leq
set_option linter.unusedVariables false
set_option linter.unusedSimpArgs false

/-! ### spec_AreasOk: function 85 -/
def spec_AreasOk.l0 : Nat → List (S108) → Int → Option (Bool)
 | 0, _, _ => none
 | k + 1, x0, x3 => if x3 < (x0.length : Int) then (if 0 ≤ x3 then ((spec_AreaOk.f ((rd_T108 x0 x3).f0) ((rd_T108 x0 x3).f1) ((rd_T108 x0 x3).f2) ((rd_T108 x0 x3).f3)).bind fun t102 => (if t102 = true then (if x3 > 0 then (if 0 ≤ (wrap64 (x3 - 1)) then (if (wrap64 (x3 - 1)) < (x0.length : Int) then (if (wrap64 (((rd_T108 x0 (wrap64 (x3 - 1))).f0) + ((rd_T108 x0 (wrap64 (x3 - 1))).f1))) > ((rd_T108 x0 x3).f0) then (some false) else (spec_AreasOk.l0 k x0 (wrap64 (x3 + 1)))) else (none)) else (none)) else (spec_AreasOk.l0 k x0 (wrap64 (x3 + 1)))) else (some false))) else (none)) else (some (decide ((x0.length : Int) ≤ 6)))
def spec_AreasOk.f (k : Nat) (l0 : List (S108)) : Option (Bool) := spec_AreasOk.l0 k l0 0
theorem spec_AreasOk.mono_l : ∀ k, (∀ y0 y1, LeO (spec_AreasOk.l0 k y0 y1) (spec_AreasOk.l0 (k + 1) y0 y1))
 | 0 => fun _ _ r h => by simp [spec_AreasOk.l0] at h
 | k + 1 => by
  have ih0 := spec_AreasOk.mono_l k
  ·
   intro y0 y1
   unfold spec_AreasOk.l0
   repeat' first
   | (with_reducible exact ih0 _ _)
   | (with_reducible exact LeO.refl _)
   | (with_reducible exact LeO.none _)
   | (with_reducible refine LeO.ite ?_ ?_)
   | (with_reducible refine LeO.bind ?_ (fun _ => ?_))
   | exact ih0 _ _
   | exact LeO.none _
   | refine LeO.ite ?_ ?_
   | refine LeO.bind ?_ (fun _ => ?_)
theorem spec_AreasOk.mono : ∀ a0 k, LeO (spec_AreasOk.f k a0) (spec_AreasOk.f (k + 1) a0) := by
 intro a0 k
 have ih0 := spec_AreasOk.mono_l k
 unfold spec_AreasOk.f
 repeat' first
   | (with_reducible exact ih0 _ _)
   | (with_reducible exact LeO.refl _)
   | (with_reducible exact LeO.none _)
   | (with_reducible refine LeO.ite ?_ ?_)
   | (with_reducible refine LeO.bind ?_ (fun _ => ?_))
   | exact ih0 _ _
   | exact LeO.none _
   | refine LeO.ite ?_ ?_
   | refine LeO.bind ?_ (fun _ => ?_)
def spec_AreasOk.T4 : Bool × List (List Nat × List Nat) := (true, [([], []), ([], []), ([0, 1], [0, 1]), ([2], [2]), ([3], [3]), ([4], [4]), ([5, 4], [5]), ([6], [6]), ([7, 6], [6, 7]), ([8, 6, 6], [6, 8]), ([9], [9]), ([9], [9]), ([11, 9], [9, 11]), ([10, 12, 9], [9, 10, 12]), ([13, 9], [9, 13]), ([14, 9], [9, 14]), ([9], [9]), ([9], [9]), ([17, 9], [9, 17]), ([16, 18, 9], [9, 16, 18]), ([19, 9], [9, 19]), ([20, 9], [9, 20]), ([15, 21, 9], [9, 15, 21]), ([9], [9]), ([9], [9]), ([23, 24, 9], [9, 23, 24]), ([25, 9], [9, 25]), ([26, 9], [9, 26]), ([22, 27, 9], [9, 22, 27]), ([9, 28, 6], [6, 9, 28]), ([6, 29], [6, 29])])
def spec_AreasOk.B4 : List Nat := [0, 0, 3, 7, 15, 31, 63, 127, 255, 511, 1023, 1023, 3071, 8191, 16383, 32767, 1023, 1023, 132095, 459775, 984063, 2032639, 4194303, 1023, 1023, 25166847, 58721279, 125830143, 268435455, 536870911, 1073741823]
theorem spec_AreasOk.tab4 : rtab .any (opsOf Try.f85 4) = spec_AreasOk.T4 := by kernel_rfl
theorem spec_AreasOk.bits4 : waitsOk spec_AreasOk.T4.2 spec_AreasOk.B4 = true := by kernel_rfl
set_option maxHeartbeats 8000000 in
set_option maxRecDepth 100000 in
theorem spec_AreasOk.calls (k : Nat) (A0 : Option Addr) (c0 : Nat) (l0 : List (S108)) (r : Bool) (w : World) (hr0 : Kd.C k108 w A0 l0.length l0) (hc0 : l0.length ≤ c0) (h : spec_AreasOk.f k l0 = some r) :
  Calls Try.prog 85 #[.slice A0 l0.length c0] w fun e w' => e = .returned (.bool r) ∧ Below w.heap.size w w' := by
 have hu108 := Try.underlying108; have HR0 := Aside0.mk hr0; have HC0 := Aside0.mk hc0; clear hr0 hc0; have HB := Aside0.mk (Below.refl w.heap.size w); have H : (spec_AreasOk.l0 k l0 0) = some r := h; clear h; have H' := Aside0.mk H; clear H
 go_enter Try.func85, Try.ntmps85
 go_wp2
 go_loopg [3] k (fun kq v3 w' => ∃ (x3_1 : Int), v3 = .int .i64 x3_1 ∧ Aside0 (spec_AreasOk.l0 kq l0 x3_1 = some r) ∧ Aside0 (kq ≤ k) ∧ Aside0 (Below w.heap.size w w'))
 case atStart => exact ⟨(0), zr, H', ⟨Nat.le_refl _⟩, ⟨bz HB.out⟩⟩
 case round =>
  clear H'; obtain ⟨x3_1, rfl, HA, HK1, HB⟩ := hrel
  cases gk with
  | zero => exact absurd HA.out (by simp [spec_AreasOk.l0])
  | succ k1 =>
   have H := HA.out; clear HA; simp only [spec_AreasOk.l0] at H
   by_cases c2 : x3_1 < (l0.length : Int)
   rotate_left
   ·
    rw [if_neg c2] at H; have c2b0 : decide (x3_1 < (l0.length : Int)) = false := decide_eq_false c2; clear c2; obtain rfl := Option.some.inj H
    go_wp2
    go_ret
    exact ⟨ze, bz HB.out⟩
   rw [if_pos c2] at H; have c2b0 : decide (x3_1 < (l0.length : Int)) = true := decide_eq_true c2; clear c2
   by_cases c3 : 0 ≤ x3_1
   rotate_left
   ·
    rw [if_neg c3] at H
    exact absurd H (by simp)
   rw [if_pos c3] at H; have c3b0 : decide (0 ≤ x3_1) = true := decide_eq_true c3; clear c3; replace H := Option.bind_eq_some_iff.mp H; obtain ⟨t102, A40, H⟩ := H; have A4 := Aside0.mk A40; clear A40
   by_cases c5 : t102 = true
   rotate_left
   ·
    replace c5 := Bool.eq_false_iff.mpr c5; subst c5; rw [if_neg nf_] at H; obtain rfl := Option.some.inj H
    try go_wp2
    replace HB := Aside0.mk (below_drew1 HB.out); have p101 : 0 ≤ (x3_1 : Int) := of_decide_eq_true zs; have q101 : x3_1 < (l0.length : Int) := of_decide_eq_true zs; obtain ⟨ad101, e101, hx101_0, hx101_1, hx101_2, hx101_3⟩ := at_T108 HR0.out x3_1 p101 q101; have hw101_3 := hx101_3; have hw101_2 := hx101_2; have hw101_1 := hx101_1; have hw101_0 := hx101_0; cases e101; replace hx101_0 := pw_cell_below HB.out hx101_0; replace hx101_1 := pw_cell_below HB.out hx101_1; replace hx101_2 := pw_cell_below HB.out hx101_2; replace hx101_3 := pw_cell_below HB.out hx101_3; replace p101 := eq_true p101; replace q101 := eq_true q101; refine start_ (n := 31) (S := fun w' => w'.cell? (ad101.add ((x3_1).toNat * 4)) = some (.int .i64 ((rd_T108 l0 x3_1).f0)) ∧ w'.cell? ⟨(ad101.add ((x3_1).toNat * 4)).block, (ad101.add ((x3_1).toNat * 4)).off + 1, none⟩ = some (.int .i64 ((rd_T108 l0 x3_1).f1)) ∧ w'.cell? ⟨(ad101.add ((x3_1).toNat * 4)).block, (ad101.add ((x3_1).toNat * 4)).off + 2, none⟩ = some (.bool ((rd_T108 l0 x3_1).f2)) ∧ w'.cell? ⟨(ad101.add ((x3_1).toNat * 4)).block, (ad101.add ((x3_1).toNat * 4)).off + 3, none⟩ = some (.bool ((rd_T108 l0 x3_1).f3))) (ds := []) (lb 31 0) zk rfl rfl ⟨(pw_cell_below HB.out hw101_0), (pw_cell_below HB.out hw101_1), (pw_cell_below HB.out hw101_2), (pw_cell_below HB.out hw101_3)⟩ (fun hHeld => ?_); refine with_tabW spec_AreasOk.tab4 spec_AreasOk.bits4 (fun HT_ HW_ => ?_)
    generalize wr.drew = w17 at HB hx101_0 hx101_1 hx101_2 hx101_3 hHeld ⊢
    refine pz 0 (some 10) (lb 31 1) rfl rfl HT_.out ?_; refine pz 1 (some 11) (lb 31 3) rfl rfl HT_.out ?_; refine pz 2 (some 12) (lb 31 7) rfl rfl HT_.out ?_; refine tz 3 (some 13) (lb 31 15) rfl rfl HT_.out HW_.out hHeld ?_; refine one_ (i := 4) (N := some 14) (lb 31 31) rfl rfl (one_of HT_.out zk) (by decide) (fun K hK => ?_); refine goes_ Try.func118 zk rfl #[.agg #[.int .i64 ((rd_T108 l0 x3_1).f0), .int .i64 ((rd_T108 l0 x3_1).f1), .bool ((rd_T108 l0 x3_1).f2), .bool ((rd_T108 l0 x3_1).f3)]] (by rfl) rfl rfl zm ?_; (with_reducible refine (spec_AreaOk.calls ((rd_T108 l0 x3_1).f0) ((rd_T108 l0 x3_1).f1) ((rd_T108 l0 x3_1).f2) ((rd_T108 l0 x3_1).f3) false _ A4.out).mono ?_); rintro e w18 ⟨rfl, hb⟩; refine ⟨_, rfl, ?_⟩; replace HB := Aside0.mk (below_step (bz HB.out) hb); (try clear hb); refine hK.out _ _ ⟨(pw_cell_below HB.out hw101_0), (pw_cell_below HB.out hw101_1), (pw_cell_below HB.out hw101_2), (pw_cell_below HB.out hw101_3)⟩ (fun hHeld => ?_); clear hK K; refine nm_ ?_; refine pz 5 (some 15) (lb 31 63) rfl rfl HT_.out ?_; refine pz 6 (some 16) (lb 31 127) rfl rfl HT_.out ?_; refine nz 7 (some 17) (lb 31 255) rfl rfl HT_.out ?_; refine nz 8 (some 18) (lb 31 511) rfl rfl HT_.out ?_; refine nz 9 (some 19) (lb 31 1023) rfl rfl HT_.out ?_; refine nz 10 (some 20) (lb 31 2047) rfl rfl HT_.out ?_; refine nz 11 (some 21) (lb 31 4095) rfl rfl HT_.out ?_; refine nz 12 (some 22) (lb 31 8191) rfl rfl HT_.out ?_; refine nz 13 (some 23) (lb 31 16383) rfl rfl HT_.out ?_; refine nz 14 (some 24) (lb 31 32767) rfl rfl HT_.out ?_; refine nz 15 (some 25) (lb 31 65535) rfl rfl HT_.out ?_; refine nz 16 (some 26) (lb 31 131071) rfl rfl HT_.out ?_; refine nz 17 (some 27) (lb 31 262143) rfl rfl HT_.out ?_; refine nz 18 (some 28) (lb 31 524287) rfl rfl HT_.out ?_; refine nz 19 (some 29) (lb 31 1048575) rfl rfl HT_.out ?_; refine nz 20 (some 30) (lb 31 2097151) rfl rfl HT_.out ?_; refine nz 21 (some 31) (lb 31 4194303) rfl rfl HT_.out ?_; refine nz 22 (some 32) (lb 31 8388607) rfl rfl HT_.out ?_; refine nz 23 (some 33) (lb 31 16777215) rfl rfl HT_.out ?_; refine nz 24 (some 34) (lb 31 33554431) rfl rfl HT_.out ?_; refine nz 25 (some 35) (lb 31 67108863) rfl rfl HT_.out ?_; refine nz 26 (some 36) (lb 31 134217727) rfl rfl HT_.out ?_; refine nz 27 (some 37) (lb 31 268435455) rfl rfl HT_.out ?_; refine nz 28 (some 38) (lb 31 536870911) rfl rfl HT_.out ?_; refine nz 29 (some 39) (lb 31 1073741823) rfl rfl HT_.out ?_; refine pz 30 (some 40) (lb 31 2147483647) rfl rfl HT_.out ?_; refine done_ (done_of HT_.out zk) ?_
    try go_wp2
    go_ret
    exact ⟨ze, bz HB.out⟩
   subst c5; rw [if_pos rfl] at H
   by_cases c6 : x3_1 > 0
   rotate_left
   ·
    rw [if_neg c6] at H; have c6b0 : decide (0 < x3_1) = false := decide_eq_false c6; clear c6; have H' := Aside0.mk H; clear H
    try go_wp2
    replace HB := Aside0.mk (below_drew1 HB.out); have p101 : 0 ≤ (x3_1 : Int) := of_decide_eq_true zs; have q101 : x3_1 < (l0.length : Int) := of_decide_eq_true zs; obtain ⟨ad101, e101, hx101_0, hx101_1, hx101_2, hx101_3⟩ := at_T108 HR0.out x3_1 p101 q101; have hw101_3 := hx101_3; have hw101_2 := hx101_2; have hw101_1 := hx101_1; have hw101_0 := hx101_0; cases e101; replace hx101_0 := pw_cell_below HB.out hx101_0; replace hx101_1 := pw_cell_below HB.out hx101_1; replace hx101_2 := pw_cell_below HB.out hx101_2; replace hx101_3 := pw_cell_below HB.out hx101_3; replace p101 := eq_true p101; replace q101 := eq_true q101; refine start_ (n := 31) (S := fun w' => w'.cell? (ad101.add ((x3_1).toNat * 4)) = some (.int .i64 ((rd_T108 l0 x3_1).f0)) ∧ w'.cell? ⟨(ad101.add ((x3_1).toNat * 4)).block, (ad101.add ((x3_1).toNat * 4)).off + 1, none⟩ = some (.int .i64 ((rd_T108 l0 x3_1).f1)) ∧ w'.cell? ⟨(ad101.add ((x3_1).toNat * 4)).block, (ad101.add ((x3_1).toNat * 4)).off + 2, none⟩ = some (.bool ((rd_T108 l0 x3_1).f2)) ∧ w'.cell? ⟨(ad101.add ((x3_1).toNat * 4)).block, (ad101.add ((x3_1).toNat * 4)).off + 3, none⟩ = some (.bool ((rd_T108 l0 x3_1).f3))) (ds := []) (lb 31 0) zk rfl rfl ⟨(pw_cell_below HB.out hw101_0), (pw_cell_below HB.out hw101_1), (pw_cell_below HB.out hw101_2), (pw_cell_below HB.out hw101_3)⟩ (fun hHeld => ?_); refine with_tabW spec_AreasOk.tab4 spec_AreasOk.bits4 (fun HT_ HW_ => ?_)
    generalize wr.drew = w15 at HB hx101_0 hx101_1 hx101_2 hx101_3 hHeld ⊢
    refine pz 0 (some 10) (lb 31 1) rfl rfl HT_.out ?_; refine pz 1 (some 11) (lb 31 3) rfl rfl HT_.out ?_; refine pz 2 (some 12) (lb 31 7) rfl rfl HT_.out ?_; refine tz 3 (some 13) (lb 31 15) rfl rfl HT_.out HW_.out hHeld ?_; refine one_ (i := 4) (N := some 14) (lb 31 31) rfl rfl (one_of HT_.out zk) (by decide) (fun K hK => ?_); refine goes_ Try.func118 zk rfl #[.agg #[.int .i64 ((rd_T108 l0 x3_1).f0), .int .i64 ((rd_T108 l0 x3_1).f1), .bool ((rd_T108 l0 x3_1).f2), .bool ((rd_T108 l0 x3_1).f3)]] (by rfl) rfl rfl zm ?_; (with_reducible refine (spec_AreaOk.calls ((rd_T108 l0 x3_1).f0) ((rd_T108 l0 x3_1).f1) ((rd_T108 l0 x3_1).f2) ((rd_T108 l0 x3_1).f3) true _ A4.out).mono ?_); rintro e w16 ⟨rfl, hb⟩; refine ⟨_, rfl, ?_⟩; replace HB := Aside0.mk (below_step (bz HB.out) hb); (try clear hb); refine hK.out _ _ ⟨(pw_cell_below HB.out hw101_0), (pw_cell_below HB.out hw101_1), (pw_cell_below HB.out hw101_2), (pw_cell_below HB.out hw101_3)⟩ (fun hHeld => ?_); clear hK K; refine nm_ ?_; refine pz 5 (some 15) (lb 31 63) rfl rfl HT_.out ?_; refine pz 6 (some 16) (lb 31 127) rfl rfl HT_.out ?_; refine pz 7 (some 17) (lb 31 255) rfl rfl HT_.out ?_; refine pz 8 (some 18) (lb 31 511) rfl rfl HT_.out ?_; refine pz 9 (some 19) (lb 31 1023) rfl rfl HT_.out ?_; refine nz 10 (some 20) (lb 31 2047) rfl rfl HT_.out ?_; refine nz 11 (some 21) (lb 31 4095) rfl rfl HT_.out ?_; refine nz 12 (some 22) (lb 31 8191) rfl rfl HT_.out ?_; refine nz 13 (some 23) (lb 31 16383) rfl rfl HT_.out ?_; refine nz 14 (some 24) (lb 31 32767) rfl rfl HT_.out ?_; refine nz 15 (some 25) (lb 31 65535) rfl rfl HT_.out ?_; refine nz 16 (some 26) (lb 31 131071) rfl rfl HT_.out ?_; refine nz 17 (some 27) (lb 31 262143) rfl rfl HT_.out ?_; refine nz 18 (some 28) (lb 31 524287) rfl rfl HT_.out ?_; refine nz 19 (some 29) (lb 31 1048575) rfl rfl HT_.out ?_; refine nz 20 (some 30) (lb 31 2097151) rfl rfl HT_.out ?_; refine nz 21 (some 31) (lb 31 4194303) rfl rfl HT_.out ?_; refine nz 22 (some 32) (lb 31 8388607) rfl rfl HT_.out ?_; refine nz 23 (some 33) (lb 31 16777215) rfl rfl HT_.out ?_; refine nz 24 (some 34) (lb 31 33554431) rfl rfl HT_.out ?_; refine nz 25 (some 35) (lb 31 67108863) rfl rfl HT_.out ?_; refine nz 26 (some 36) (lb 31 134217727) rfl rfl HT_.out ?_; refine nz 27 (some 37) (lb 31 268435455) rfl rfl HT_.out ?_; refine nz 28 (some 38) (lb 31 536870911) rfl rfl HT_.out ?_; refine pz 29 (some 39) (lb 31 1073741823) rfl rfl HT_.out ?_; refine pz 30 (some 40) (lb 31 2147483647) rfl rfl HT_.out ?_; refine done_ (done_of HT_.out zk) ?_
    try go_wp2
    go_roundg k1
    case measure => have := HK1.out; omega
    case rel => exact ⟨(wrap64 (x3_1 + 1)), zr, H', ⟨by have := HK1.out; omega⟩, ⟨bz HB.out⟩⟩
   rw [if_pos c6] at H; have c6b0 : decide (0 < x3_1) = true := decide_eq_true c6; clear c6; obtain ⟨ji7, hji7⟩ : ∃ j_ : Int, (wrap64 (x3_1 - 1)) = j_ := ⟨_, rfl⟩
   replace H : (if 0 ≤ (ji7) then (if (ji7) < (l0.length : Int) then (if (wrap64 (((rd_T108 l0 (ji7)).f0) + ((rd_T108 l0 (ji7)).f1))) > ((rd_T108 l0 x3_1).f0) then (some false) else (spec_AreasOk.l0 k1 l0 (wrap64 (x3_1 + 1)))) else (none)) else (none)) = some r := by first | (rw [hji7] at H; exact H) | (simp only [hji7] at H ⊢; exact H)
   (try rw [hji7] at A4); have hji7w : (IntKind.i64.wrap (x3_1 - 1)) = ji7 := (i64_w _).trans hji7
   by_cases c8 : 0 ≤ (ji7)
   rotate_left
   ·
    rw [if_neg c8] at H
    exact absurd H (by simp)
   rw [if_pos c8] at H; have c8b0 : decide (0 ≤ (ji7)) = true := decide_eq_true c8; clear c8
   by_cases c9 : (ji7) < (l0.length : Int)
   rotate_left
   ·
    rw [if_neg c9] at H
    exact absurd H (by simp)
   rw [if_pos c9] at H; have c9b0 : decide ((ji7) < (l0.length : Int)) = true := decide_eq_true c9; clear c9
   by_cases c10 : (wrap64 (((rd_T108 l0 (ji7)).f0) + ((rd_T108 l0 (ji7)).f1))) > ((rd_T108 l0 x3_1).f0)
   rotate_left
   ·
    rw [if_neg c10] at H; have c10b0 : decide (((rd_T108 l0 x3_1).f0) < (wrap64 (((rd_T108 l0 (ji7)).f0) + ((rd_T108 l0 (ji7)).f1)))) = false := decide_eq_false c10; clear c10; have H' := Aside0.mk H; clear H
    try go_wp2
    replace HB := Aside0.mk (below_drew1 HB.out); have p101 : 0 ≤ (x3_1 : Int) := of_decide_eq_true zs; have q101 : x3_1 < (l0.length : Int) := of_decide_eq_true zs; obtain ⟨ad101, e101, hx101_0, hx101_1, hx101_2, hx101_3⟩ := at_T108 HR0.out x3_1 p101 q101; have hw101_3 := hx101_3; have hw101_2 := hx101_2; have hw101_1 := hx101_1; have hw101_0 := hx101_0; cases e101; replace hx101_0 := pw_cell_below HB.out hx101_0; replace hx101_1 := pw_cell_below HB.out hx101_1; replace hx101_2 := pw_cell_below HB.out hx101_2; replace hx101_3 := pw_cell_below HB.out hx101_3; replace p101 := eq_true p101; replace q101 := eq_true q101; have p103 : 0 ≤ ((ji7) : Int) := of_decide_eq_true zs; have q103 : (ji7) < (l0.length : Int) := of_decide_eq_true zs; obtain ⟨ad103, e103, hx103_0, hx103_1, hx103_2, hx103_3⟩ := at_T108 HR0.out (ji7) p103 q103; have hw103_3 := hx103_3; have hw103_2 := hx103_2; have hw103_1 := hx103_1; have hw103_0 := hx103_0; obtain rfl : ad101 = ad103 := (by injection e103); replace hx103_0 := pw_cell_below HB.out hx103_0; replace hx103_1 := pw_cell_below HB.out hx103_1; replace hx103_2 := pw_cell_below HB.out hx103_2; replace hx103_3 := pw_cell_below HB.out hx103_3; replace p103 := eq_true p103; replace q103 := eq_true q103; have p104 : 0 ≤ ((ji7) : Int) := of_decide_eq_true zs; have q104 : (ji7) < (l0.length : Int) := of_decide_eq_true zs; obtain ⟨ad104, e104, hx104_0, hx104_1, hx104_2, hx104_3⟩ := at_T108 HR0.out (ji7) p104 q104; have hw104_3 := hx104_3; have hw104_2 := hx104_2; have hw104_1 := hx104_1; have hw104_0 := hx104_0; obtain rfl : ad101 = ad104 := (by injection e104); replace hx104_0 := pw_cell_below HB.out hx104_0; replace hx104_1 := pw_cell_below HB.out hx104_1; replace hx104_2 := pw_cell_below HB.out hx104_2; replace hx104_3 := pw_cell_below HB.out hx104_3; replace p104 := eq_true p104; replace q104 := eq_true q104; have p105 : 0 ≤ (x3_1 : Int) := of_decide_eq_true zs; have q105 : x3_1 < (l0.length : Int) := of_decide_eq_true zs; obtain ⟨ad105, e105, hx105_0, hx105_1, hx105_2, hx105_3⟩ := at_T108 HR0.out x3_1 p105 q105; have hw105_3 := hx105_3; have hw105_2 := hx105_2; have hw105_1 := hx105_1; have hw105_0 := hx105_0; obtain rfl : ad101 = ad105 := (by injection e105); replace hx105_0 := pw_cell_below HB.out hx105_0; replace hx105_1 := pw_cell_below HB.out hx105_1; replace hx105_2 := pw_cell_below HB.out hx105_2; replace hx105_3 := pw_cell_below HB.out hx105_3; replace p105 := eq_true p105; replace q105 := eq_true q105; refine start_ (n := 31) (S := fun w' => w'.cell? (ad101.add ((x3_1).toNat * 4)) = some (.int .i64 ((rd_T108 l0 x3_1).f0)) ∧ w'.cell? ⟨(ad101.add ((x3_1).toNat * 4)).block, (ad101.add ((x3_1).toNat * 4)).off + 1, none⟩ = some (.int .i64 ((rd_T108 l0 x3_1).f1)) ∧ w'.cell? ⟨(ad101.add ((x3_1).toNat * 4)).block, (ad101.add ((x3_1).toNat * 4)).off + 2, none⟩ = some (.bool ((rd_T108 l0 x3_1).f2)) ∧ w'.cell? ⟨(ad101.add ((x3_1).toNat * 4)).block, (ad101.add ((x3_1).toNat * 4)).off + 3, none⟩ = some (.bool ((rd_T108 l0 x3_1).f3)) ∧ w'.cell? (ad101.add (((ji7)).toNat * 4)) = some (.int .i64 ((rd_T108 l0 (ji7)).f0)) ∧ w'.cell? ⟨(ad101.add (((ji7)).toNat * 4)).block, (ad101.add (((ji7)).toNat * 4)).off + 1, none⟩ = some (.int .i64 ((rd_T108 l0 (ji7)).f1)) ∧ w'.cell? ⟨(ad101.add (((ji7)).toNat * 4)).block, (ad101.add (((ji7)).toNat * 4)).off + 2, none⟩ = some (.bool ((rd_T108 l0 (ji7)).f2)) ∧ w'.cell? ⟨(ad101.add (((ji7)).toNat * 4)).block, (ad101.add (((ji7)).toNat * 4)).off + 3, none⟩ = some (.bool ((rd_T108 l0 (ji7)).f3)) ∧ w'.cell? (ad101.add (((ji7)).toNat * 4)) = some (.int .i64 ((rd_T108 l0 (ji7)).f0)) ∧ w'.cell? ⟨(ad101.add (((ji7)).toNat * 4)).block, (ad101.add (((ji7)).toNat * 4)).off + 1, none⟩ = some (.int .i64 ((rd_T108 l0 (ji7)).f1)) ∧ w'.cell? ⟨(ad101.add (((ji7)).toNat * 4)).block, (ad101.add (((ji7)).toNat * 4)).off + 2, none⟩ = some (.bool ((rd_T108 l0 (ji7)).f2)) ∧ w'.cell? ⟨(ad101.add (((ji7)).toNat * 4)).block, (ad101.add (((ji7)).toNat * 4)).off + 3, none⟩ = some (.bool ((rd_T108 l0 (ji7)).f3)) ∧ w'.cell? (ad101.add ((x3_1).toNat * 4)) = some (.int .i64 ((rd_T108 l0 x3_1).f0)) ∧ w'.cell? ⟨(ad101.add ((x3_1).toNat * 4)).block, (ad101.add ((x3_1).toNat * 4)).off + 1, none⟩ = some (.int .i64 ((rd_T108 l0 x3_1).f1)) ∧ w'.cell? ⟨(ad101.add ((x3_1).toNat * 4)).block, (ad101.add ((x3_1).toNat * 4)).off + 2, none⟩ = some (.bool ((rd_T108 l0 x3_1).f2)) ∧ w'.cell? ⟨(ad101.add ((x3_1).toNat * 4)).block, (ad101.add ((x3_1).toNat * 4)).off + 3, none⟩ = some (.bool ((rd_T108 l0 x3_1).f3))) (ds := []) (lb 31 0) zk rfl rfl ⟨(pw_cell_below HB.out hw101_0), (pw_cell_below HB.out hw101_1), (pw_cell_below HB.out hw101_2), (pw_cell_below HB.out hw101_3), (pw_cell_below HB.out hw103_0), (pw_cell_below HB.out hw103_1), (pw_cell_below HB.out hw103_2), (pw_cell_below HB.out hw103_3), (pw_cell_below HB.out hw104_0), (pw_cell_below HB.out hw104_1), (pw_cell_below HB.out hw104_2), (pw_cell_below HB.out hw104_3), (pw_cell_below HB.out hw105_0), (pw_cell_below HB.out hw105_1), (pw_cell_below HB.out hw105_2), (pw_cell_below HB.out hw105_3)⟩ (fun hHeld => ?_); refine with_tabW spec_AreasOk.tab4 spec_AreasOk.bits4 (fun HT_ HW_ => ?_)
    generalize wr.drew = w13 at HB hx101_0 hx101_1 hx101_2 hx101_3 hx103_0 hx103_1 hx103_2 hx103_3 hx104_0 hx104_1 hx104_2 hx104_3 hx105_0 hx105_1 hx105_2 hx105_3 hHeld ⊢
    refine pz 0 (some 10) (lb 31 1) rfl rfl HT_.out ?_; refine pz 1 (some 11) (lb 31 3) rfl rfl HT_.out ?_; refine pz 2 (some 12) (lb 31 7) rfl rfl HT_.out ?_; refine tz 3 (some 13) (lb 31 15) rfl rfl HT_.out HW_.out hHeld ?_; refine one_ (i := 4) (N := some 14) (lb 31 31) rfl rfl (one_of HT_.out zk) (by decide) (fun K hK => ?_); refine goes_ Try.func118 zk rfl #[.agg #[.int .i64 ((rd_T108 l0 x3_1).f0), .int .i64 ((rd_T108 l0 x3_1).f1), .bool ((rd_T108 l0 x3_1).f2), .bool ((rd_T108 l0 x3_1).f3)]] (by rfl) rfl rfl zm ?_; (with_reducible refine (spec_AreaOk.calls ((rd_T108 l0 x3_1).f0) ((rd_T108 l0 x3_1).f1) ((rd_T108 l0 x3_1).f2) ((rd_T108 l0 x3_1).f3) true _ A4.out).mono ?_); rintro e w14 ⟨rfl, hb⟩; refine ⟨_, rfl, ?_⟩; replace HB := Aside0.mk (below_step (bz HB.out) hb); (try clear hb); refine hK.out _ _ ⟨(pw_cell_below HB.out hw101_0), (pw_cell_below HB.out hw101_1), (pw_cell_below HB.out hw101_2), (pw_cell_below HB.out hw101_3), (pw_cell_below HB.out hw103_0), (pw_cell_below HB.out hw103_1), (pw_cell_below HB.out hw103_2), (pw_cell_below HB.out hw103_3), (pw_cell_below HB.out hw104_0), (pw_cell_below HB.out hw104_1), (pw_cell_below HB.out hw104_2), (pw_cell_below HB.out hw104_3), (pw_cell_below HB.out hw105_0), (pw_cell_below HB.out hw105_1), (pw_cell_below HB.out hw105_2), (pw_cell_below HB.out hw105_3)⟩ (fun hHeld => ?_); clear hK K; refine nm_ ?_; refine pz 5 (some 15) (lb 31 63) rfl rfl HT_.out ?_; refine pz 6 (some 16) (lb 31 127) rfl rfl HT_.out ?_; refine pz 7 (some 17) (lb 31 255) rfl rfl HT_.out ?_; refine pz 8 (some 18) (lb 31 511) rfl rfl HT_.out ?_; refine pz 9 (some 19) (lb 31 1023) rfl rfl HT_.out ?_; refine pz 10 (some 20) (lb 31 2047) rfl rfl HT_.out ?_; refine pz 11 (some 21) (lb 31 4095) rfl rfl HT_.out ?_; refine pz 12 (some 22) (lb 31 8191) rfl rfl HT_.out ?_; refine pz 13 (some 23) (lb 31 16383) rfl rfl HT_.out ?_; refine pz 14 (some 24) (lb 31 32767) rfl rfl HT_.out ?_; refine pz 16 (some 26) (lb 31 98303) rfl rfl HT_.out ?_; refine pz 17 (some 27) (lb 31 229375) rfl rfl HT_.out ?_; refine pz 18 (some 28) (lb 31 491519) rfl rfl HT_.out ?_; refine pz 19 (some 29) (lb 31 1015807) rfl rfl HT_.out ?_; refine pz 20 (some 30) (lb 31 2064383) rfl rfl HT_.out ?_; refine pz 23 (some 33) (lb 31 10452991) rfl rfl HT_.out ?_; refine pz 24 (some 34) (lb 31 27230207) rfl rfl HT_.out ?_; refine pz 25 (some 35) (lb 31 60784639) rfl rfl HT_.out ?_; refine pz 26 (some 36) (lb 31 127893503) rfl rfl HT_.out ?_; refine tz 15 (some 25) (lb 31 127926271) rfl rfl HT_.out HW_.out hHeld ?_; refine tz 21 (some 31) (lb 31 130023423) rfl rfl HT_.out HW_.out hHeld ?_; refine pz 22 (some 32) (lb 31 134217727) rfl rfl HT_.out ?_; refine tz 27 (some 37) (lb 31 268435455) rfl rfl HT_.out HW_.out hHeld ?_; refine pz 28 (some 38) (lb 31 536870911) rfl rfl HT_.out ?_; refine pz 29 (some 39) (lb 31 1073741823) rfl rfl HT_.out ?_; refine pz 30 (some 40) (lb 31 2147483647) rfl rfl HT_.out ?_; refine done_ (done_of HT_.out zk) ?_
    try go_wp2
    go_roundg k1
    case measure => have := HK1.out; omega
    case rel => exact ⟨(wrap64 (x3_1 + 1)), zr, H', ⟨by have := HK1.out; omega⟩, ⟨bz HB.out⟩⟩
   rw [if_pos c10] at H; have c10b0 : decide (((rd_T108 l0 x3_1).f0) < (wrap64 (((rd_T108 l0 (ji7)).f0) + ((rd_T108 l0 (ji7)).f1)))) = true := decide_eq_true c10; clear c10; obtain rfl := Option.some.inj H
   try go_wp2
   replace HB := Aside0.mk (below_drew1 HB.out); have p101 : 0 ≤ (x3_1 : Int) := of_decide_eq_true zs; have q101 : x3_1 < (l0.length : Int) := of_decide_eq_true zs; obtain ⟨ad101, e101, hx101_0, hx101_1, hx101_2, hx101_3⟩ := at_T108 HR0.out x3_1 p101 q101; have hw101_3 := hx101_3; have hw101_2 := hx101_2; have hw101_1 := hx101_1; have hw101_0 := hx101_0; cases e101; replace hx101_0 := pw_cell_below HB.out hx101_0; replace hx101_1 := pw_cell_below HB.out hx101_1; replace hx101_2 := pw_cell_below HB.out hx101_2; replace hx101_3 := pw_cell_below HB.out hx101_3; replace p101 := eq_true p101; replace q101 := eq_true q101; have p103 : 0 ≤ ((ji7) : Int) := of_decide_eq_true zs; have q103 : (ji7) < (l0.length : Int) := of_decide_eq_true zs; obtain ⟨ad103, e103, hx103_0, hx103_1, hx103_2, hx103_3⟩ := at_T108 HR0.out (ji7) p103 q103; have hw103_3 := hx103_3; have hw103_2 := hx103_2; have hw103_1 := hx103_1; have hw103_0 := hx103_0; obtain rfl : ad101 = ad103 := (by injection e103); replace hx103_0 := pw_cell_below HB.out hx103_0; replace hx103_1 := pw_cell_below HB.out hx103_1; replace hx103_2 := pw_cell_below HB.out hx103_2; replace hx103_3 := pw_cell_below HB.out hx103_3; replace p103 := eq_true p103; replace q103 := eq_true q103; have p104 : 0 ≤ ((ji7) : Int) := of_decide_eq_true zs; have q104 : (ji7) < (l0.length : Int) := of_decide_eq_true zs; obtain ⟨ad104, e104, hx104_0, hx104_1, hx104_2, hx104_3⟩ := at_T108 HR0.out (ji7) p104 q104; have hw104_3 := hx104_3; have hw104_2 := hx104_2; have hw104_1 := hx104_1; have hw104_0 := hx104_0; obtain rfl : ad101 = ad104 := (by injection e104); replace hx104_0 := pw_cell_below HB.out hx104_0; replace hx104_1 := pw_cell_below HB.out hx104_1; replace hx104_2 := pw_cell_below HB.out hx104_2; replace hx104_3 := pw_cell_below HB.out hx104_3; replace p104 := eq_true p104; replace q104 := eq_true q104; have p105 : 0 ≤ (x3_1 : Int) := of_decide_eq_true zs; have q105 : x3_1 < (l0.length : Int) := of_decide_eq_true zs; obtain ⟨ad105, e105, hx105_0, hx105_1, hx105_2, hx105_3⟩ := at_T108 HR0.out x3_1 p105 q105; have hw105_3 := hx105_3; have hw105_2 := hx105_2; have hw105_1 := hx105_1; have hw105_0 := hx105_0; obtain rfl : ad101 = ad105 := (by injection e105); replace hx105_0 := pw_cell_below HB.out hx105_0; replace hx105_1 := pw_cell_below HB.out hx105_1; replace hx105_2 := pw_cell_below HB.out hx105_2; replace hx105_3 := pw_cell_below HB.out hx105_3; replace p105 := eq_true p105; replace q105 := eq_true q105; refine start_ (n := 31) (S := fun w' => w'.cell? (ad101.add ((x3_1).toNat * 4)) = some (.int .i64 ((rd_T108 l0 x3_1).f0)) ∧ w'.cell? ⟨(ad101.add ((x3_1).toNat * 4)).block, (ad101.add ((x3_1).toNat * 4)).off + 1, none⟩ = some (.int .i64 ((rd_T108 l0 x3_1).f1)) ∧ w'.cell? ⟨(ad101.add ((x3_1).toNat * 4)).block, (ad101.add ((x3_1).toNat * 4)).off + 2, none⟩ = some (.bool ((rd_T108 l0 x3_1).f2)) ∧ w'.cell? ⟨(ad101.add ((x3_1).toNat * 4)).block, (ad101.add ((x3_1).toNat * 4)).off + 3, none⟩ = some (.bool ((rd_T108 l0 x3_1).f3)) ∧ w'.cell? (ad101.add (((ji7)).toNat * 4)) = some (.int .i64 ((rd_T108 l0 (ji7)).f0)) ∧ w'.cell? ⟨(ad101.add (((ji7)).toNat * 4)).block, (ad101.add (((ji7)).toNat * 4)).off + 1, none⟩ = some (.int .i64 ((rd_T108 l0 (ji7)).f1)) ∧ w'.cell? ⟨(ad101.add (((ji7)).toNat * 4)).block, (ad101.add (((ji7)).toNat * 4)).off + 2, none⟩ = some (.bool ((rd_T108 l0 (ji7)).f2)) ∧ w'.cell? ⟨(ad101.add (((ji7)).toNat * 4)).block, (ad101.add (((ji7)).toNat * 4)).off + 3, none⟩ = some (.bool ((rd_T108 l0 (ji7)).f3)) ∧ w'.cell? (ad101.add (((ji7)).toNat * 4)) = some (.int .i64 ((rd_T108 l0 (ji7)).f0)) ∧ w'.cell? ⟨(ad101.add (((ji7)).toNat * 4)).block, (ad101.add (((ji7)).toNat * 4)).off + 1, none⟩ = some (.int .i64 ((rd_T108 l0 (ji7)).f1)) ∧ w'.cell? ⟨(ad101.add (((ji7)).toNat * 4)).block, (ad101.add (((ji7)).toNat * 4)).off + 2, none⟩ = some (.bool ((rd_T108 l0 (ji7)).f2)) ∧ w'.cell? ⟨(ad101.add (((ji7)).toNat * 4)).block, (ad101.add (((ji7)).toNat * 4)).off + 3, none⟩ = some (.bool ((rd_T108 l0 (ji7)).f3)) ∧ w'.cell? (ad101.add ((x3_1).toNat * 4)) = some (.int .i64 ((rd_T108 l0 x3_1).f0)) ∧ w'.cell? ⟨(ad101.add ((x3_1).toNat * 4)).block, (ad101.add ((x3_1).toNat * 4)).off + 1, none⟩ = some (.int .i64 ((rd_T108 l0 x3_1).f1)) ∧ w'.cell? ⟨(ad101.add ((x3_1).toNat * 4)).block, (ad101.add ((x3_1).toNat * 4)).off + 2, none⟩ = some (.bool ((rd_T108 l0 x3_1).f2)) ∧ w'.cell? ⟨(ad101.add ((x3_1).toNat * 4)).block, (ad101.add ((x3_1).toNat * 4)).off + 3, none⟩ = some (.bool ((rd_T108 l0 x3_1).f3))) (ds := []) (lb 31 0) zk rfl rfl ⟨(pw_cell_below HB.out hw101_0), (pw_cell_below HB.out hw101_1), (pw_cell_below HB.out hw101_2), (pw_cell_below HB.out hw101_3), (pw_cell_below HB.out hw103_0), (pw_cell_below HB.out hw103_1), (pw_cell_below HB.out hw103_2), (pw_cell_below HB.out hw103_3), (pw_cell_below HB.out hw104_0), (pw_cell_below HB.out hw104_1), (pw_cell_below HB.out hw104_2), (pw_cell_below HB.out hw104_3), (pw_cell_below HB.out hw105_0), (pw_cell_below HB.out hw105_1), (pw_cell_below HB.out hw105_2), (pw_cell_below HB.out hw105_3)⟩ (fun hHeld => ?_); refine with_tabW spec_AreasOk.tab4 spec_AreasOk.bits4 (fun HT_ HW_ => ?_)
   generalize wr.drew = w11 at HB hx101_0 hx101_1 hx101_2 hx101_3 hx103_0 hx103_1 hx103_2 hx103_3 hx104_0 hx104_1 hx104_2 hx104_3 hx105_0 hx105_1 hx105_2 hx105_3 hHeld ⊢
   refine pz 0 (some 10) (lb 31 1) rfl rfl HT_.out ?_; refine pz 1 (some 11) (lb 31 3) rfl rfl HT_.out ?_; refine pz 2 (some 12) (lb 31 7) rfl rfl HT_.out ?_; refine tz 3 (some 13) (lb 31 15) rfl rfl HT_.out HW_.out hHeld ?_; refine one_ (i := 4) (N := some 14) (lb 31 31) rfl rfl (one_of HT_.out zk) (by decide) (fun K hK => ?_); refine goes_ Try.func118 zk rfl #[.agg #[.int .i64 ((rd_T108 l0 x3_1).f0), .int .i64 ((rd_T108 l0 x3_1).f1), .bool ((rd_T108 l0 x3_1).f2), .bool ((rd_T108 l0 x3_1).f3)]] (by rfl) rfl rfl zm ?_; (with_reducible refine (spec_AreaOk.calls ((rd_T108 l0 x3_1).f0) ((rd_T108 l0 x3_1).f1) ((rd_T108 l0 x3_1).f2) ((rd_T108 l0 x3_1).f3) true _ A4.out).mono ?_); rintro e w12 ⟨rfl, hb⟩; refine ⟨_, rfl, ?_⟩; replace HB := Aside0.mk (below_step (bz HB.out) hb); (try clear hb); refine hK.out _ _ ⟨(pw_cell_below HB.out hw101_0), (pw_cell_below HB.out hw101_1), (pw_cell_below HB.out hw101_2), (pw_cell_below HB.out hw101_3), (pw_cell_below HB.out hw103_0), (pw_cell_below HB.out hw103_1), (pw_cell_below HB.out hw103_2), (pw_cell_below HB.out hw103_3), (pw_cell_below HB.out hw104_0), (pw_cell_below HB.out hw104_1), (pw_cell_below HB.out hw104_2), (pw_cell_below HB.out hw104_3), (pw_cell_below HB.out hw105_0), (pw_cell_below HB.out hw105_1), (pw_cell_below HB.out hw105_2), (pw_cell_below HB.out hw105_3)⟩ (fun hHeld => ?_); clear hK K; refine nm_ ?_; refine pz 5 (some 15) (lb 31 63) rfl rfl HT_.out ?_; refine pz 6 (some 16) (lb 31 127) rfl rfl HT_.out ?_; refine pz 7 (some 17) (lb 31 255) rfl rfl HT_.out ?_; refine pz 8 (some 18) (lb 31 511) rfl rfl HT_.out ?_; refine pz 9 (some 19) (lb 31 1023) rfl rfl HT_.out ?_; refine pz 10 (some 20) (lb 31 2047) rfl rfl HT_.out ?_; refine pz 11 (some 21) (lb 31 4095) rfl rfl HT_.out ?_; refine pz 12 (some 22) (lb 31 8191) rfl rfl HT_.out ?_; refine pz 13 (some 23) (lb 31 16383) rfl rfl HT_.out ?_; refine pz 14 (some 24) (lb 31 32767) rfl rfl HT_.out ?_; refine pz 16 (some 26) (lb 31 98303) rfl rfl HT_.out ?_; refine pz 17 (some 27) (lb 31 229375) rfl rfl HT_.out ?_; refine pz 18 (some 28) (lb 31 491519) rfl rfl HT_.out ?_; refine pz 19 (some 29) (lb 31 1015807) rfl rfl HT_.out ?_; refine pz 20 (some 30) (lb 31 2064383) rfl rfl HT_.out ?_; refine pz 23 (some 33) (lb 31 10452991) rfl rfl HT_.out ?_; refine pz 24 (some 34) (lb 31 27230207) rfl rfl HT_.out ?_; refine pz 25 (some 35) (lb 31 60784639) rfl rfl HT_.out ?_; refine pz 26 (some 36) (lb 31 127893503) rfl rfl HT_.out ?_; refine tz 15 (some 25) (lb 31 127926271) rfl rfl HT_.out HW_.out hHeld ?_; refine tz 21 (some 31) (lb 31 130023423) rfl rfl HT_.out HW_.out hHeld ?_; refine pz 22 (some 32) (lb 31 134217727) rfl rfl HT_.out ?_; refine tz 27 (some 37) (lb 31 268435455) rfl rfl HT_.out HW_.out hHeld ?_; refine pz 28 (some 38) (lb 31 536870911) rfl rfl HT_.out ?_; refine pz 29 (some 39) (lb 31 1073741823) rfl rfl HT_.out ?_; refine pz 30 (some 40) (lb 31 2147483647) rfl rfl HT_.out ?_; refine done_ (done_of HT_.out zk) ?_
   try go_wp2
   go_ret
   exact ⟨by first | rfl | (simp [errW_none, errW_some] <;> rfl) | (simp only [← hji7]; first | rfl | (simp [errW_none, errW_some] <;> rfl)) | (simp [*, errW_none, errW_some] <;> rfl), bz HB.out⟩

end Go.Proofs.Ythoapmfpokohnaa.P
