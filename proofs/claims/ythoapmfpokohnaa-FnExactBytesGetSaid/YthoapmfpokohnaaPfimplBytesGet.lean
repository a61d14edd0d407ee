-- printed by this session's own driver (wip/qd.py) out of the translation; Lean checks it
import Derived.Test.YthoapmfpokohnaaPf0
import Derived.Test.YthoapmfpokohnaaPfimplin
import Derived.Test.YthoapmfpokohnaaPfimplViewslive
import Derived.Test.YthoapmfpokohnaaPfimplBytesOfarea
namespace Go.Proofs.Ythoapmfpokohnaa.P
open Go.RowKit Go.Proofs.YthoapmfpokohnaaW.PrintWords Go.Proofs.YthoapmfpokohnaaW.PrintLast Go.Proofs.YthoapmfpokohnaaW.PrintMore
attribute [local go_sem] max2_int min2_int max_two min_two max_three min_three max_four min_four Q.cell_set_map   -- for this text's walks alone
set_option linter.unusedVariables false
set_option linter.unusedSimpArgs false

/-! ### impl_BytesGet: function 14 -/
def impl_BytesGet.j0 : Nat → Int → Int → Bool → List (S75) → Option (Int × Int)
 | 0, _, _, _, _ => none
 | k + 1, x1, x2, x16, x102000 => if x16 = true then (some ((-1), 1)) else (if 0 ≤ x1 then (if x1 < (x102000.length : Int) then ((impl_BytesOf_area.f k ((rd_T75 x102000 x1).f0) ((rd_T75 x102000 x1).f1) ((rd_T75 x102000 x1).f2) ((rd_T75 x102000 x1).f3) (wrap64 (Int.tdiv x2 4))).bind fun t105 => (if t105 < 0 then (some ((-1), 2)) else (if 0 ≤ (wrap64 (Int.tdiv x2 4)) then (if (wrap64 (Int.tdiv x2 4)) < (((rd_T75 x102000 x1).f3).length : Int) then (if ((rdOf ByteArray.empty ((rd_T75 x102000 x1).f3) (wrap64 (Int.tdiv x2 4))).size : Int) = 4 then (if 0 ≤ (Int.tmod x2 4) then (if (Int.tmod x2 4) < ((rdOf ByteArray.empty ((rd_T75 x102000 x1).f3) (wrap64 (Int.tdiv x2 4))).size : Int) then (some (wrap64 (bt (rdOf ByteArray.empty ((rd_T75 x102000 x1).f3) (wrap64 (Int.tdiv x2 4))) (Int.tmod x2 4)), 0)) else (none)) else (none)) else (some ((-1), 2))) else (none)) else (none)))) else (none)) else (none))
def impl_BytesGet.f (k : Nat) (l0_0 : List (S75)) (a1 : Int) (a2 : Int) : Option (Int × Int) := (impl_Views_live.f k l0_0 a1).bind fun t102 => (if t102 = true then ((impl_in.f a2 0 63).bind fun t103 => (impl_BytesGet.j0 k a1 a2 (!t103) l0_0)) else (impl_BytesGet.j0 k a1 a2 true l0_0))
theorem impl_BytesGet.mono_l : ∀ k, (∀ y0 y1 y2 y3, LeO (impl_BytesGet.j0 k y0 y1 y2 y3) (impl_BytesGet.j0 (k + 1) y0 y1 y2 y3))
 | 0 => fun _ _ _ _ r h => by simp [impl_BytesGet.j0] at h
 | k + 1 => by
  have ih0 := impl_BytesGet.mono_l k
  ·
   intro y0 y1 y2 y3
   unfold impl_BytesGet.j0
   repeat' first
   | (with_reducible exact ih0 _ _ _ _)
   | (with_reducible exact impl_BytesOf_area.mono _ _ _ _ _ _)
   | (with_reducible exact impl_Views_live.mono _ _ _)
   | (with_reducible exact LeO.refl _)
   | (with_reducible exact LeO.none _)
   | (with_reducible refine LeO.ite ?_ ?_)
   | (with_reducible refine LeO.bind ?_ (fun _ => ?_))
   | exact ih0 _ _ _ _
   | exact impl_BytesOf_area.mono _ _ _ _ _ _
   | exact impl_Views_live.mono _ _ _
   | exact LeO.none _
   | refine LeO.ite ?_ ?_
   | refine LeO.bind ?_ (fun _ => ?_)
theorem impl_BytesGet.mono : ∀ a0 a1 a2 k, LeO (impl_BytesGet.f k a0 a1 a2) (impl_BytesGet.f (k + 1) a0 a1 a2) := by
 intro a0 a1 a2 k
 have ih0 := impl_BytesGet.mono_l k
 unfold impl_BytesGet.f
 repeat' first
   | (with_reducible exact ih0 _ _ _ _)
   | (with_reducible exact impl_BytesOf_area.mono _ _ _ _ _ _)
   | (with_reducible exact impl_Views_live.mono _ _ _)
   | (with_reducible exact LeO.refl _)
   | (with_reducible exact LeO.none _)
   | (with_reducible refine LeO.ite ?_ ?_)
   | (with_reducible refine LeO.bind ?_ (fun _ => ?_))
   | exact ih0 _ _ _ _
   | exact impl_BytesOf_area.mono _ _ _ _ _ _
   | exact impl_Views_live.mono _ _ _
   | exact LeO.none _
   | refine LeO.ite ?_ ?_
   | refine LeO.bind ?_ (fun _ => ?_)
set_option maxHeartbeats 8000000 in
set_option maxRecDepth 100000 in
theorem impl_BytesGet.calls (k : Nat) (A0_0 : Option Addr) (c0_0 : Nat) (l0_0 : List (S75)) (a1 : Int) (a2 : Int) (r1 : Int) (r2 : Int) (w : World) (hr0_0 : Kd.C k75 w A0_0 l0_0.length l0_0) (hc0_0 : l0_0.length ≤ c0_0) (h : impl_BytesGet.f k l0_0 a1 a2 = some (r1, r2)) :
  Calls Try.prog 14 #[.agg #[.slice A0_0 l0_0.length c0_0], .int .i64 a1, .int .i64 a2] w fun e w' => e = .returned (.tuple #[.int .i64 r1, .int .i64 r2]) ∧ Below w.heap.size w w' := by
 have hu30 := Try.underlying30; have hu75 := Try.underlying75; have HR0_0 := Aside0.mk hr0_0; have HC0_0 := Aside0.mk hc0_0; clear hr0_0 hc0_0; have HB := Aside0.mk (Below.refl w.heap.size w); have H : ((impl_Views_live.f k l0_0 a1).bind fun t102 => (if t102 = true then ((impl_in.f a2 0 63).bind fun t103 => (impl_BytesGet.j0 k a1 a2 (!t103) l0_0)) else (impl_BytesGet.j0 k a1 a2 true l0_0))) = some (r1, r2) := h; clear h; have HC4 := Aside0.mk H; clear H
 go_enter Try.func14, Try.ntmps14
 go_upto_region 1 with (first | ((with_reducible refine gate_dst (N := 3) rfl ?_); (try (refine gate_guard (by rfl) ?_; dsimp only)); refine box_event ?hg (N := 3) ?hd (cs := #[.slice A0_0 l0_0.length c0_0]) (t := 30) ?hr ?_; (case hd => rfl); (case hg => rfl); (case hr => first | (go_simp; done) | (go_simp; rfl)); intro gb101 hg w5 hbox hb; have BK101 := Aside0.mk (hbox); have GW101 := Aside0.mk ((by rw [hg]; exact (below_size (bz HB.out)) : w.heap.size ≤ gb101)); have GE101 := Aside0.mk ((by rw [hg]; exact (below_size (bz HB.out)) : w.heap.size ≤ gb101)); replace HB := Aside0.mk (below_step (bz HB.out) hb); clear hb hbox hg))
 (try simp only [Act.put, List.setIfInBounds_toArray, List.set_cons_zero, List.set_cons_succ])
 go_cut [16] (fun v16 wc => ∃ (kq : Nat) (x16_3 : Bool), v16 = .bool x16_3 ∧ Aside0 (impl_BytesGet.j0 kq a1 a2 x16_3 l0_0 = some (r1, r2)) ∧ Aside0 (kq ≤ k) ∧ Aside0 (wc.heap[gb101]? = some (.cells #[(.slice A0_0 l0_0.length c0_0)] 30 (0, 0))) ∧ Aside0 (Below w.heap.size w wc))
 case first =>
  have H := HC4.out; clear HC4; replace H := Option.bind_eq_some_iff.mp H; obtain ⟨t102, A60, H⟩ := H; have A6 := Aside0.mk A60; clear A60
  by_cases c7 : t102 = true
  ·
   subst c7; rw [if_pos rfl] at H; replace H := Option.bind_eq_some_iff.mp H; obtain ⟨t103, A80, H⟩ := H; have A8 := Aside0.mk A80; clear A80; have H' := Aside0.mk H; clear H; have hcz9_0 : w5.cell? ⟨gb101, 0, none⟩ = some (.slice A0_0 l0_0.length c0_0) := (blk_cell BK101.out 0).trans rfl; have hfz9_0 := blk_frozen BK101.out 0
   go_wp2_with (first | ((with_reducible refine gate_callee (f := 40) rfl ?_); refine goesL_ (some 10) rfl rfl Try.func40 zk rfl #[.agg #[.slice A0_0 l0_0.length c0_0], .int .i64 a1] rfl zm ?_; (with_reducible refine (impl_Views_live.calls k _ _ l0_0 a1 true _ ?side1 ?side2 A6.out).mono ?_); (case side1 => exact cz (Kd.C_below HR0_0.out HB.out)); (case side2 => exact HC0_0.out); rintro e w10 ⟨rfl, hb⟩; refine ⟨_, rfl, ?_⟩; replace BK101 := Aside0.mk (blk_below (kz BK101.out) hb); replace HB := Aside0.mk (below_step (bs HB.out GE101.out) hb); (try clear hb)) | (go_at_call 41; (with_reducible refine (impl_in.calls a2 0 63 t103 _ A8.out).mono ?_); rintro e w' ⟨rfl, ⟨nd, rfl⟩⟩))
   go_meet
   case rel => exact ⟨_, (!t103), zr, H', ⟨by first | omega | exact Nat.le_refl _⟩, ⟨kz (BK101.out)⟩, ⟨bs HB.out GE101.out⟩⟩
  ·
   replace c7 := Bool.eq_false_iff.mpr c7; subst c7; rw [if_neg nf_] at H; have H' := Aside0.mk H; clear H; have hcz11_0 : w5.cell? ⟨gb101, 0, none⟩ = some (.slice A0_0 l0_0.length c0_0) := (blk_cell BK101.out 0).trans rfl; have hfz11_0 := blk_frozen BK101.out 0
   go_wp2_with (first | ((with_reducible refine gate_callee (f := 40) rfl ?_); refine goesL_ (some 10) rfl rfl Try.func40 zk rfl #[.agg #[.slice A0_0 l0_0.length c0_0], .int .i64 a1] rfl zm ?_; (with_reducible refine (impl_Views_live.calls k _ _ l0_0 a1 false _ ?side1 ?side2 A6.out).mono ?_); (case side1 => exact cz (Kd.C_below HR0_0.out HB.out)); (case side2 => exact HC0_0.out); rintro e w12 ⟨rfl, hb⟩; refine ⟨_, rfl, ?_⟩; replace BK101 := Aside0.mk (blk_below (kz BK101.out) hb); replace HB := Aside0.mk (below_step (bs HB.out GE101.out) hb); (try clear hb)))
   go_meet
   case rel => exact ⟨_, (true), zr, H', ⟨by first | omega | exact Nat.le_refl _⟩, ⟨kz (BK101.out)⟩, ⟨bs HB.out GE101.out⟩⟩
 case rest =>
  clear HC4
  try clear c1
  try clear p2
  try clear c4
  try clear c7
  try clear hcz11_0
  try clear hcz9_0
  try clear hfz11_0
  try clear hfz9_0
  obtain ⟨kq, x16_3, rfl, HA, HJ3, BK101, HB⟩ := hcut
  cases kq with
  | zero => exact absurd HA.out (by simp [impl_BytesGet.j0])
  | succ kj3 =>
   have H := HA.out; clear HA; simp only [impl_BytesGet.j0] at H
   by_cases c13 : x16_3 = true
   ·
    subst c13; rw [if_pos rfl] at H; simp only [Option.some.injEq, Prod.mk.injEq] at H; obtain ⟨rfl, rfl⟩ := H
    go_wp2
    go_ret2
    exact ⟨ze, bs HB.out GE101.out⟩
   ·
    replace c13 := Bool.eq_false_iff.mpr c13; subst c13; rw [if_neg nf_] at H
    by_cases c14 : 0 ≤ a1
    ·
     rw [if_pos c14] at H; have c14b0 : decide (0 ≤ a1) = true := decide_eq_true c14; clear c14
     by_cases c15 : a1 < (l0_0.length : Int)
     ·
      rw [if_pos c15] at H; have c15b0 : decide (a1 < (l0_0.length : Int)) = true := decide_eq_true c15; clear c15; replace H := Option.bind_eq_some_iff.mp H; obtain ⟨t105, A160, H⟩ := H; have A16 := Aside0.mk A160; clear A160
      by_cases c17 : t105 < 0
      ·
       rw [if_pos c17] at H; have c17b0 : decide (t105 < 0) = true := decide_eq_true c17; clear c17; simp only [Option.some.injEq, Prod.mk.injEq] at H; obtain ⟨rfl, rfl⟩ := H; have hcz18_0 : wc.cell? ⟨gb101, 0, none⟩ = some (.slice A0_0 l0_0.length c0_0) := (blk_cell BK101.out 0).trans rfl; have hfz18_0 := blk_frozen BK101.out 0; have p104 : 0 ≤ (a1 : Int) := of_decide_eq_true zs; have q104 : a1 < (l0_0.length : Int) := of_decide_eq_true zs; obtain ⟨ad104, A104_1, c104_1, A104_2, c104_2, A104_3, c104_3, e104, hx104_0, hx104_1, hx104_2, hx104_3, hl104_1, hi104_1, hl104_2, hi104_2, hl104_3, hi104_3⟩ := at_T75 HR0_0.out a1 p104 q104; cases e104; replace hx104_0 := pw_cell_below HB.out hx104_0; replace hx104_1 := pw_cell_below HB.out hx104_1; replace hx104_2 := pw_cell_below HB.out hx104_2; replace hx104_3 := pw_cell_below HB.out hx104_3; have HR104_1 := Aside0.mk hi104_1; have HC104_1 := Aside0.mk hl104_1; clear hi104_1 hl104_1; have HR104_2 := Aside0.mk hi104_2; have HC104_2 := Aside0.mk hl104_2; clear hi104_2 hl104_2; have HR104_3 := Aside0.mk hi104_3; have HC104_3 := Aside0.mk hl104_3; clear hi104_3 hl104_3; replace p104 := eq_true p104; replace q104 := eq_true q104
       go_wp2_with (first | ((with_reducible refine gate_callee (f := 42) rfl ?_); refine goesL_ (some 24) rfl rfl Try.func42 zk rfl #[.agg #[.bool ((rd_T75 l0_0 a1).f0), .slice A104_1 ((rd_T75 l0_0 a1).f1).length c104_1, .slice A104_2 ((rd_T75 l0_0 a1).f2).length c104_2, .slice A104_3 ((rd_T75 l0_0 a1).f3).length c104_3], .int .i64 (wrap64 (Int.tdiv a2 4))] rfl zm ?_; (with_reducible refine (impl_BytesOf_area.calls kj3 ((rd_T75 l0_0 a1).f0) _ _ ((rd_T75 l0_0 a1).f1) _ _ ((rd_T75 l0_0 a1).f2) _ _ ((rd_T75 l0_0 a1).f3) (wrap64 (Int.tdiv a2 4)) t105 _ ?side1 ?side2 ?side3 ?side4 ?side5 ?side6 A16.out).mono ?_); (case side1 => exact cz (Kd.C_below HR104_1.out HB.out)); (case side2 => exact HC104_1.out); (case side3 => exact cz (Kd.C_below HR104_2.out HB.out)); (case side4 => exact HC104_2.out); (case side5 => exact cz (Kd.C_below HR104_3.out HB.out)); (case side6 => exact HC104_3.out); rintro e w19 ⟨rfl, hb⟩; refine ⟨_, rfl, ?_⟩; replace BK101 := Aside0.mk (blk_below (kz BK101.out) hb); replace HB := Aside0.mk (below_step (bs HB.out GE101.out) hb); (try clear hb)))
       go_ret2
       exact ⟨ze, bs HB.out GE101.out⟩
      ·
       rw [if_neg c17] at H; have c17b0 : decide (t105 < 0) = false := decide_eq_false c17; clear c17; obtain ⟨ji20, hji20⟩ : ∃ j_ : Int, (wrap64 (Int.tdiv a2 4)) = j_ := ⟨_, rfl⟩
       replace H : (if 0 ≤ (ji20) then (if (ji20) < (((rd_T75 l0_0 a1).f3).length : Int) then (if ((rdOf ByteArray.empty ((rd_T75 l0_0 a1).f3) (ji20)).size : Int) = 4 then (if 0 ≤ (Int.tmod a2 4) then (if (Int.tmod a2 4) < ((rdOf ByteArray.empty ((rd_T75 l0_0 a1).f3) (ji20)).size : Int) then (some (wrap64 (bt (rdOf ByteArray.empty ((rd_T75 l0_0 a1).f3) (ji20)) (Int.tmod a2 4)), 0)) else (none)) else (none)) else (some ((-1), 2))) else (none)) else (none)) = some (r1, r2) := by first | (rw [hji20] at H; exact H) | (simp only [hji20] at H ⊢; exact H)
       (try rw [hji20] at A16); have hji20w : (IntKind.i64.wrap (Int.tdiv a2 4)) = ji20 := (i64_w _).trans hji20
       by_cases c21 : 0 ≤ (ji20)
       ·
        rw [if_pos c21] at H; have c21b0 : decide (0 ≤ (ji20)) = true := decide_eq_true c21; clear c21
        by_cases c22 : (ji20) < (((rd_T75 l0_0 a1).f3).length : Int)
        ·
         rw [if_pos c22] at H; have c22b0 : decide ((ji20) < (((rd_T75 l0_0 a1).f3).length : Int)) = true := decide_eq_true c22; clear c22
         by_cases c23 : ((rdOf ByteArray.empty ((rd_T75 l0_0 a1).f3) (ji20)).size : Int) = 4
         ·
          rw [if_pos c23] at H; have c23b0 : (((rdOf ByteArray.empty ((rd_T75 l0_0 a1).f3) (ji20)).size : Int) == 4) = true := beq_iff_eq.mpr c23; have c23b1 : (((rdOf ByteArray.empty ((rd_T75 l0_0 a1).f3) (ji20)).size : Int) != 4) = false := bne_eq_false_iff_eq.mpr c23; clear c23; obtain ⟨ji24, hji24⟩ : ∃ j_ : Int, (Int.tmod a2 4) = j_ := ⟨_, rfl⟩
          replace H : (if 0 ≤ (ji24) then (if (ji24) < ((rdOf ByteArray.empty ((rd_T75 l0_0 a1).f3) (ji20)).size : Int) then (some (wrap64 (bt (rdOf ByteArray.empty ((rd_T75 l0_0 a1).f3) (ji20)) (ji24)), 0)) else (none)) else (none)) = some (r1, r2) := by first | (rw [hji24] at H; exact H) | (simp only [hji24] at H ⊢; exact H)
          (try rw [hji24] at A16)
          by_cases c25 : 0 ≤ (ji24)
          ·
           rw [if_pos c25] at H; have c25b0 : decide (0 ≤ (ji24)) = true := decide_eq_true c25; clear c25
           by_cases c26 : (ji24) < ((rdOf ByteArray.empty ((rd_T75 l0_0 a1).f3) (ji20)).size : Int)
           ·
            rw [if_pos c26] at H; have c26b0 : decide ((ji24) < ((rdOf ByteArray.empty ((rd_T75 l0_0 a1).f3) (ji20)).size : Int)) = true := decide_eq_true c26; clear c26; simp only [Option.some.injEq, Prod.mk.injEq] at H; obtain ⟨rfl, rfl⟩ := H; have hcz28_0 : wc.cell? ⟨gb101, 0, none⟩ = some (.slice A0_0 l0_0.length c0_0) := (blk_cell BK101.out 0).trans rfl; have hfz28_0 := blk_frozen BK101.out 0; have p104 : 0 ≤ (a1 : Int) := of_decide_eq_true zs; have q104 : a1 < (l0_0.length : Int) := of_decide_eq_true zs; obtain ⟨ad104, A104_1, c104_1, A104_2, c104_2, A104_3, c104_3, e104, hx104_0, hx104_1, hx104_2, hx104_3, hl104_1, hi104_1, hl104_2, hi104_2, hl104_3, hi104_3⟩ := at_T75 HR0_0.out a1 p104 q104; cases e104; replace hx104_0 := pw_cell_below HB.out hx104_0; replace hx104_1 := pw_cell_below HB.out hx104_1; replace hx104_2 := pw_cell_below HB.out hx104_2; replace hx104_3 := pw_cell_below HB.out hx104_3; have HR104_1 := Aside0.mk hi104_1; have HC104_1 := Aside0.mk hl104_1; clear hi104_1 hl104_1; have HR104_2 := Aside0.mk hi104_2; have HC104_2 := Aside0.mk hl104_2; clear hi104_2 hl104_2; have HR104_3 := Aside0.mk hi104_3; have HC104_3 := Aside0.mk hl104_3; clear hi104_3 hl104_3; replace p104 := eq_true p104; replace q104 := eq_true q104
            go_wp2_with (first | ((with_reducible refine gate_callee (f := 42) rfl ?_); refine goesL_ (some 24) rfl rfl Try.func42 zk rfl #[.agg #[.bool ((rd_T75 l0_0 a1).f0), .slice A104_1 ((rd_T75 l0_0 a1).f1).length c104_1, .slice A104_2 ((rd_T75 l0_0 a1).f2).length c104_2, .slice A104_3 ((rd_T75 l0_0 a1).f3).length c104_3], .int .i64 ji20] rfl (by (try simp only [List.map_toArray, List.map_cons, List.map_nil]); first | done | (simp only [hji20]; rfl) | rfl | (simp only [List.length_drop, List.length_take]; rfl)) ?_; (with_reducible refine (impl_BytesOf_area.calls kj3 ((rd_T75 l0_0 a1).f0) _ _ ((rd_T75 l0_0 a1).f1) _ _ ((rd_T75 l0_0 a1).f2) _ _ ((rd_T75 l0_0 a1).f3) ji20 t105 _ ?side1 ?side2 ?side3 ?side4 ?side5 ?side6 A16.out).mono ?_); (case side1 => exact cz (Kd.C_below HR104_1.out HB.out)); (case side2 => exact HC104_1.out); (case side3 => exact cz (Kd.C_below HR104_2.out HB.out)); (case side4 => exact HC104_2.out); (case side5 => exact cz (Kd.C_below HR104_3.out HB.out)); (case side6 => exact HC104_3.out); rintro e w29 ⟨rfl, hb⟩; refine ⟨_, rfl, ?_⟩; replace BK101 := Aside0.mk (blk_below (kz BK101.out) hb); replace HB := Aside0.mk (below_step (bs HB.out GE101.out) hb); (try clear hb); have hcz30_0 : w29.cell? ⟨gb101, 0, none⟩ = some (.slice (some ad104) l0_0.length c0_0) := (blk_cell BK101.out 0).trans rfl; have hfz30_0 := blk_frozen BK101.out 0; have p106 : 0 ≤ (a1 : Int) := of_decide_eq_true zs; have q106 : a1 < (l0_0.length : Int) := of_decide_eq_true zs; obtain ⟨ad106, A106_1, c106_1, A106_2, c106_2, A106_3, c106_3, e106, hx106_0, hx106_1, hx106_2, hx106_3, hl106_1, hi106_1, hl106_2, hi106_2, hl106_3, hi106_3⟩ := at_T75 HR0_0.out a1 p106 q106; obtain rfl : ad104 = ad106 := (by injection e106); replace hx106_0 := pw_cell_below HB.out hx106_0; replace hx106_1 := pw_cell_below HB.out hx106_1; replace hx106_2 := pw_cell_below HB.out hx106_2; replace hx106_3 := pw_cell_below HB.out hx106_3; have HR106_1 := Aside0.mk hi106_1; have HC106_1 := Aside0.mk hl106_1; clear hi106_1 hl106_1; have HR106_2 := Aside0.mk hi106_2; have HC106_2 := Aside0.mk hl106_2; clear hi106_2 hl106_2; have HR106_3 := Aside0.mk hi106_3; have HC106_3 := Aside0.mk hl106_3; clear hi106_3 hl106_3; replace p106 := eq_true p106; replace q106 := eq_true q106; have p107 : 0 ≤ ((ji20) : Int) := of_decide_eq_true zs; have q107 : (ji20) < (((rd_T75 l0_0 a1).f3).length : Int) := of_decide_eq_true zs; obtain ⟨ad107, e107, hx107_0⟩ := Kd.at_string HR106_3.out (ji20) p107 q107; cases e107; replace hx107_0 := pw_cell_below HB.out hx107_0; replace p107 := eq_true p107; replace q107 := eq_true q107; have p108 : 0 ≤ (a1 : Int) := of_decide_eq_true zs; have q108 : a1 < (l0_0.length : Int) := of_decide_eq_true zs; obtain ⟨ad108, A108_1, c108_1, A108_2, c108_2, A108_3, c108_3, e108, hx108_0, hx108_1, hx108_2, hx108_3, hl108_1, hi108_1, hl108_2, hi108_2, hl108_3, hi108_3⟩ := at_T75 HR0_0.out a1 p108 q108; obtain rfl : ad104 = ad108 := (by injection e108); replace hx108_0 := pw_cell_below HB.out hx108_0; replace hx108_1 := pw_cell_below HB.out hx108_1; replace hx108_2 := pw_cell_below HB.out hx108_2; replace hx108_3 := pw_cell_below HB.out hx108_3; have HR108_1 := Aside0.mk hi108_1; have HC108_1 := Aside0.mk hl108_1; clear hi108_1 hl108_1; have HR108_2 := Aside0.mk hi108_2; have HC108_2 := Aside0.mk hl108_2; clear hi108_2 hl108_2; have HR108_3 := Aside0.mk hi108_3; have HC108_3 := Aside0.mk hl108_3; clear hi108_3 hl108_3; replace p108 := eq_true p108; replace q108 := eq_true q108; have ea_ := Option.some.inj (hx106_1.symm.trans hx108_1); injection ea_ with ea_ en_ ec_; subst ea_; subst ec_; clear en_; have ea_ := Option.some.inj (hx106_2.symm.trans hx108_2); injection ea_ with ea_ en_ ec_; subst ea_; subst ec_; clear en_; have ea_ := Option.some.inj (hx106_3.symm.trans hx108_3); injection ea_ with ea_ en_ ec_; subst ea_; subst ec_; clear en_; have p109 : 0 ≤ ((ji20) : Int) := of_decide_eq_true zs; have q109 : (ji20) < (((rd_T75 l0_0 a1).f3).length : Int) := of_decide_eq_true zs; obtain ⟨ad109, e109, hx109_0⟩ := Kd.at_string HR108_3.out (ji20) p109 q109; cases e109; replace hx109_0 := pw_cell_below HB.out hx109_0; replace p109 := eq_true p109; replace q109 := eq_true q109; have p27 : 0 ≤ ((ji24) : Int) := of_decide_eq_true zs; have q27 : (ji24) < ((rdOf ByteArray.empty ((rd_T75 l0_0 a1).f3) (ji20)).size : Int) := of_decide_eq_true zs; have hx27 := bt_at (rdOf ByteArray.empty ((rd_T75 l0_0 a1).f3) (ji20)) (ji24); replace p27 := eq_true p27; replace q27 := eq_true q27))
            go_ret2
            exact ⟨by first | rfl | (simp [errW_none, errW_some] <;> rfl) | (simp only [← hji20, ← hji24]; first | rfl | (simp [errW_none, errW_some] <;> rfl)) | (simp [*, errW_none, errW_some] <;> rfl), bs HB.out GE101.out⟩
           ·
            rw [if_neg c26] at H
            exact absurd H (by simp)
          ·
           rw [if_neg c25] at H
           exact absurd H (by simp)
         ·
          rw [if_neg c23] at H; have c23b0 : (((rdOf ByteArray.empty ((rd_T75 l0_0 a1).f3) (ji20)).size : Int) == 4) = false := beq_eq_false_iff_ne.mpr c23; have c23b1 : (((rdOf ByteArray.empty ((rd_T75 l0_0 a1).f3) (ji20)).size : Int) != 4) = true := bne_iff_ne.mpr c23; simp only [Option.some.injEq, Prod.mk.injEq] at H; obtain ⟨rfl, rfl⟩ := H; have hcz31_0 : wc.cell? ⟨gb101, 0, none⟩ = some (.slice A0_0 l0_0.length c0_0) := (blk_cell BK101.out 0).trans rfl; have hfz31_0 := blk_frozen BK101.out 0; have p104 : 0 ≤ (a1 : Int) := of_decide_eq_true zs; have q104 : a1 < (l0_0.length : Int) := of_decide_eq_true zs; obtain ⟨ad104, A104_1, c104_1, A104_2, c104_2, A104_3, c104_3, e104, hx104_0, hx104_1, hx104_2, hx104_3, hl104_1, hi104_1, hl104_2, hi104_2, hl104_3, hi104_3⟩ := at_T75 HR0_0.out a1 p104 q104; cases e104; replace hx104_0 := pw_cell_below HB.out hx104_0; replace hx104_1 := pw_cell_below HB.out hx104_1; replace hx104_2 := pw_cell_below HB.out hx104_2; replace hx104_3 := pw_cell_below HB.out hx104_3; have HR104_1 := Aside0.mk hi104_1; have HC104_1 := Aside0.mk hl104_1; clear hi104_1 hl104_1; have HR104_2 := Aside0.mk hi104_2; have HC104_2 := Aside0.mk hl104_2; clear hi104_2 hl104_2; have HR104_3 := Aside0.mk hi104_3; have HC104_3 := Aside0.mk hl104_3; clear hi104_3 hl104_3; replace p104 := eq_true p104; replace q104 := eq_true q104
          go_wp2_with (first | ((with_reducible refine gate_callee (f := 42) rfl ?_); refine goesL_ (some 24) rfl rfl Try.func42 zk rfl #[.agg #[.bool ((rd_T75 l0_0 a1).f0), .slice A104_1 ((rd_T75 l0_0 a1).f1).length c104_1, .slice A104_2 ((rd_T75 l0_0 a1).f2).length c104_2, .slice A104_3 ((rd_T75 l0_0 a1).f3).length c104_3], .int .i64 ji20] rfl (by (try simp only [List.map_toArray, List.map_cons, List.map_nil]); first | done | (simp only [hji20]; rfl) | rfl | (simp only [List.length_drop, List.length_take]; rfl)) ?_; (with_reducible refine (impl_BytesOf_area.calls kj3 ((rd_T75 l0_0 a1).f0) _ _ ((rd_T75 l0_0 a1).f1) _ _ ((rd_T75 l0_0 a1).f2) _ _ ((rd_T75 l0_0 a1).f3) ji20 t105 _ ?side1 ?side2 ?side3 ?side4 ?side5 ?side6 A16.out).mono ?_); (case side1 => exact cz (Kd.C_below HR104_1.out HB.out)); (case side2 => exact HC104_1.out); (case side3 => exact cz (Kd.C_below HR104_2.out HB.out)); (case side4 => exact HC104_2.out); (case side5 => exact cz (Kd.C_below HR104_3.out HB.out)); (case side6 => exact HC104_3.out); rintro e w32 ⟨rfl, hb⟩; refine ⟨_, rfl, ?_⟩; replace BK101 := Aside0.mk (blk_below (kz BK101.out) hb); replace HB := Aside0.mk (below_step (bs HB.out GE101.out) hb); (try clear hb); have hcz33_0 : w32.cell? ⟨gb101, 0, none⟩ = some (.slice (some ad104) l0_0.length c0_0) := (blk_cell BK101.out 0).trans rfl; have hfz33_0 := blk_frozen BK101.out 0; have p106 : 0 ≤ (a1 : Int) := of_decide_eq_true zs; have q106 : a1 < (l0_0.length : Int) := of_decide_eq_true zs; obtain ⟨ad106, A106_1, c106_1, A106_2, c106_2, A106_3, c106_3, e106, hx106_0, hx106_1, hx106_2, hx106_3, hl106_1, hi106_1, hl106_2, hi106_2, hl106_3, hi106_3⟩ := at_T75 HR0_0.out a1 p106 q106; obtain rfl : ad104 = ad106 := (by injection e106); replace hx106_0 := pw_cell_below HB.out hx106_0; replace hx106_1 := pw_cell_below HB.out hx106_1; replace hx106_2 := pw_cell_below HB.out hx106_2; replace hx106_3 := pw_cell_below HB.out hx106_3; have HR106_1 := Aside0.mk hi106_1; have HC106_1 := Aside0.mk hl106_1; clear hi106_1 hl106_1; have HR106_2 := Aside0.mk hi106_2; have HC106_2 := Aside0.mk hl106_2; clear hi106_2 hl106_2; have HR106_3 := Aside0.mk hi106_3; have HC106_3 := Aside0.mk hl106_3; clear hi106_3 hl106_3; replace p106 := eq_true p106; replace q106 := eq_true q106; have p107 : 0 ≤ ((ji20) : Int) := of_decide_eq_true zs; have q107 : (ji20) < (((rd_T75 l0_0 a1).f3).length : Int) := of_decide_eq_true zs; obtain ⟨ad107, e107, hx107_0⟩ := Kd.at_string HR106_3.out (ji20) p107 q107; cases e107; replace hx107_0 := pw_cell_below HB.out hx107_0; replace p107 := eq_true p107; replace q107 := eq_true q107))
          go_ret2
          exact ⟨by first | rfl | (simp [errW_none, errW_some] <;> rfl) | (simp only [← hji20]; first | rfl | (simp [errW_none, errW_some] <;> rfl)) | (simp [*, errW_none, errW_some] <;> rfl), bs HB.out GE101.out⟩
        ·
         rw [if_neg c22] at H
         exact absurd H (by simp)
       ·
        rw [if_neg c21] at H
        exact absurd H (by simp)
     ·
      rw [if_neg c15] at H
      exact absurd H (by simp)
    ·
     rw [if_neg c14] at H
     exact absurd H (by simp)

end Go.Proofs.Ythoapmfpokohnaa.P
