-- printed by this session's own driver (wip/qd.py) out of the translation; Lean checks it
import Derived.Test.YthoapmfpokohnaaPf0
import Derived.Test.YthoapmfpokohnaaPflawsszBytesOf
namespace Go.Proofs.Ythoapmfpokohnaa.P
open Go.RowKit Go.Proofs.YthoapmfpokohnaaW.PrintWords Go.Proofs.YthoapmfpokohnaaW.PrintLast Go.Proofs.YthoapmfpokohnaaW.PrintMore
attribute [local go_sem] max2_int min2_int max_two min_two max_three min_three max_four min_four Q.cell_set_map   -- for this text's walks alone
set_option linter.unusedVariables false
set_option linter.unusedSimpArgs false

/-! ### laws_szBytesOfS: function 35 -/
def laws_szBytesOfS.l0 : Nat → List (S126) → Int → Int → Option (Int)
 | 0, _, _, _ => none
 | k + 1, x0, x1, x5 => if x5 < (x0.length : Int) then (if 0 ≤ x5 then ((laws_szBytesOf.f k ((rd_T126 x0 x5).f0) ((rd_T126 x0 x5).f1) ((rd_T126 x0 x5).f2) ((rd_T126 x0 x5).f3) x1).bind fun t102 => (if t102 < 0 then (some (-1)) else (laws_szBytesOfS.l0 k x0 t102 (wrap64 (x5 + 1))))) else (none)) else (some x1)
def laws_szBytesOfS.f (k : Nat) (l0 : List (S126)) (a1 : Int) : Option (Int) := if (wrap64 (a1 - (l0.length : Int))) < 0 then (some (-1)) else (laws_szBytesOfS.l0 k l0 (wrap64 (a1 - (l0.length : Int))) 0)
theorem laws_szBytesOfS.mono_l : ∀ k, (∀ y0 y1 y2, LeO (laws_szBytesOfS.l0 k y0 y1 y2) (laws_szBytesOfS.l0 (k + 1) y0 y1 y2))
 | 0 => fun _ _ _ r h => by simp [laws_szBytesOfS.l0] at h
 | k + 1 => by
  have ih0 := laws_szBytesOfS.mono_l k
  ·
   intro y0 y1 y2
   unfold laws_szBytesOfS.l0
   repeat' first
   | (with_reducible exact ih0 _ _ _)
   | (with_reducible exact laws_szBytesOf.mono _ _ _ _ _ _)
   | (with_reducible exact LeO.refl _)
   | (with_reducible exact LeO.none _)
   | (with_reducible refine LeO.ite ?_ ?_)
   | (with_reducible refine LeO.bind ?_ (fun _ => ?_))
   | exact ih0 _ _ _
   | exact laws_szBytesOf.mono _ _ _ _ _ _
   | exact LeO.none _
   | refine LeO.ite ?_ ?_
   | refine LeO.bind ?_ (fun _ => ?_)
theorem laws_szBytesOfS.mono : ∀ a0 a1 k, LeO (laws_szBytesOfS.f k a0 a1) (laws_szBytesOfS.f (k + 1) a0 a1) := by
 intro a0 a1 k
 have ih0 := laws_szBytesOfS.mono_l k
 unfold laws_szBytesOfS.f
 repeat' first
   | (with_reducible exact ih0 _ _ _)
   | (with_reducible exact laws_szBytesOf.mono _ _ _ _ _ _)
   | (with_reducible exact LeO.refl _)
   | (with_reducible exact LeO.none _)
   | (with_reducible refine LeO.ite ?_ ?_)
   | (with_reducible refine LeO.bind ?_ (fun _ => ?_))
   | exact ih0 _ _ _
   | exact laws_szBytesOf.mono _ _ _ _ _ _
   | exact LeO.none _
   | refine LeO.ite ?_ ?_
   | refine LeO.bind ?_ (fun _ => ?_)
set_option maxHeartbeats 8000000 in
set_option maxRecDepth 100000 in
theorem laws_szBytesOfS.calls (k : Nat) (A0 : Option Addr) (c0 : Nat) (l0 : List (S126)) (a1 : Int) (r : Int) (w : World) (hr0 : Kd.C k126 w A0 l0.length l0) (hc0 : l0.length ≤ c0) (h : laws_szBytesOfS.f k l0 a1 = some r) :
  Calls Try.prog 35 #[.slice A0 l0.length c0, .int .i64 a1] w fun e w' => e = .returned (.int .i64 r) ∧ Below w.heap.size w w' := by
 have hu126 := Try.underlying126
 have HR0 := Aside0.mk hr0
 have HC0 := Aside0.mk hc0
 clear hr0 hc0
 have HB := Aside0.mk (Below.refl w.heap.size w)
 have H : (if (wrap64 (a1 - (l0.length : Int))) < 0 then (some (-1)) else (laws_szBytesOfS.l0 k l0 (wrap64 (a1 - (l0.length : Int))) 0)) = some r := h
 clear h
 by_cases c3 : (wrap64 (a1 - (l0.length : Int))) < 0
 ·
  rw [if_pos c3] at H
  have c3b0 : decide ((wrap64 (a1 - (l0.length : Int))) < 0) = true := decide_eq_true c3
  clear c3
  obtain rfl := Option.some.inj H
  go_enter Try.func35, Try.ntmps35
  go_wp2
  go_ret
  exact ⟨ze, bz HB.out⟩
 ·
  rw [if_neg c3] at H
  have c3b0 : decide ((wrap64 (a1 - (l0.length : Int))) < 0) = false := decide_eq_false c3
  clear c3
  have H' := Aside0.mk H
  clear H
  go_enter Try.func35, Try.ntmps35
  go_wp2
  go_loopg [1, 5] k (fun kq v1 v5 w' => ∃ (x1_1 : Int) (x5_1 : Int), v1 = .int .i64 x1_1 ∧ v5 = .int .i64 x5_1 ∧ Aside0 (laws_szBytesOfS.l0 kq l0 x1_1 x5_1 = some r) ∧ Aside0 (kq ≤ k) ∧ Aside0 (Below w.heap.size w w'))
  case atStart => exact ⟨(wrap64 (a1 - (l0.length : Int))), (0), zr, zr, H', ⟨Nat.le_refl _⟩, ⟨bz HB.out⟩⟩
  case round =>
   clear H'
   try clear p2
   try clear c3
   try clear c3b0
   obtain ⟨x1_1, x5_1, rfl, rfl, HA, HK1, HB⟩ := hrel
   cases gk with
   | zero => exact absurd HA.out (by simp [laws_szBytesOfS.l0])
   | succ k1 =>
    have H := HA.out
    clear HA
    simp only [laws_szBytesOfS.l0] at H
    by_cases c4 : x5_1 < (l0.length : Int)
    ·
     rw [if_pos c4] at H
     have c4b0 : decide (x5_1 < (l0.length : Int)) = true := decide_eq_true c4
     clear c4
     by_cases c5 : 0 ≤ x5_1
     ·
      rw [if_pos c5] at H
      have c5b0 : decide (0 ≤ x5_1) = true := decide_eq_true c5
      clear c5
      replace H := Option.bind_eq_some_iff.mp H
      obtain ⟨t102, A60, H⟩ := H
      have A6 := Aside0.mk A60
      clear A60
      by_cases c7 : t102 < 0
      ·
       rw [if_pos c7] at H
       have c7b0 : decide (t102 < 0) = true := decide_eq_true c7
       clear c7
       obtain rfl := Option.some.inj H
       have p101 : 0 ≤ (x5_1 : Int) := of_decide_eq_true zs
       have q101 : x5_1 < (l0.length : Int) := of_decide_eq_true zs
       obtain ⟨ad101, A101_1, c101_1, A101_2, c101_2, A101_3, c101_3, e101, hx101_0, hx101_1, hx101_2, hx101_3, hl101_1, hi101_1, hl101_2, hi101_2, hl101_3, hi101_3⟩ := at_T126 HR0.out x5_1 p101 q101
       cases e101
       replace hx101_0 := pw_cell_below HB.out hx101_0
       replace hx101_1 := pw_cell_below HB.out hx101_1
       replace hx101_2 := pw_cell_below HB.out hx101_2
       replace hx101_3 := pw_cell_below HB.out hx101_3
       have HR101_1 := Aside0.mk hi101_1
       have HC101_1 := Aside0.mk hl101_1
       clear hi101_1 hl101_1
       have HR101_2 := Aside0.mk hi101_2
       have HC101_2 := Aside0.mk hl101_2
       clear hi101_2 hl101_2
       have HR101_3 := Aside0.mk hi101_3
       have HC101_3 := Aside0.mk hl101_3
       clear hi101_3 hl101_3
       replace p101 := eq_true p101
       replace q101 := eq_true q101
       go_wp2_with (first | ((with_reducible refine gate_callee (f := 84) rfl ?_); refine goesL_ (some 23) rfl rfl Try.func84 zk rfl #[.agg #[.bool ((rd_T126 l0 x5_1).f0), .slice A101_1 ((rd_T126 l0 x5_1).f1).length c101_1, .slice A101_2 ((rd_T126 l0 x5_1).f2).length c101_2, .slice A101_3 ((rd_T126 l0 x5_1).f3).length c101_3], .int .i64 x1_1] rfl zm ?_; (with_reducible refine (laws_szBytesOf.calls k1 ((rd_T126 l0 x5_1).f0) _ _ ((rd_T126 l0 x5_1).f1) _ _ ((rd_T126 l0 x5_1).f2) _ _ ((rd_T126 l0 x5_1).f3) x1_1 t102 _ ?side1 ?side2 ?side3 ?side4 ?side5 ?side6 A6.out).mono ?_); (case side1 => exact cz (Kd.C_below HR101_1.out HB.out)); (case side2 => exact HC101_1.out); (case side3 => exact cz (Kd.C_below HR101_2.out HB.out)); (case side4 => exact HC101_2.out); (case side5 => exact cz (Kd.C_below HR101_3.out HB.out)); (case side6 => exact HC101_3.out); rintro e w8 ⟨rfl, hb⟩; refine ⟨_, rfl, ?_⟩; replace HB := Aside0.mk (below_step (bz HB.out) hb); (try clear hb)))
       go_ret
       exact ⟨ze, bz HB.out⟩
      ·
       rw [if_neg c7] at H
       have c7b0 : decide (t102 < 0) = false := decide_eq_false c7
       clear c7
       have H' := Aside0.mk H
       clear H
       have p101 : 0 ≤ (x5_1 : Int) := of_decide_eq_true zs
       have q101 : x5_1 < (l0.length : Int) := of_decide_eq_true zs
       obtain ⟨ad101, A101_1, c101_1, A101_2, c101_2, A101_3, c101_3, e101, hx101_0, hx101_1, hx101_2, hx101_3, hl101_1, hi101_1, hl101_2, hi101_2, hl101_3, hi101_3⟩ := at_T126 HR0.out x5_1 p101 q101
       cases e101
       replace hx101_0 := pw_cell_below HB.out hx101_0
       replace hx101_1 := pw_cell_below HB.out hx101_1
       replace hx101_2 := pw_cell_below HB.out hx101_2
       replace hx101_3 := pw_cell_below HB.out hx101_3
       have HR101_1 := Aside0.mk hi101_1
       have HC101_1 := Aside0.mk hl101_1
       clear hi101_1 hl101_1
       have HR101_2 := Aside0.mk hi101_2
       have HC101_2 := Aside0.mk hl101_2
       clear hi101_2 hl101_2
       have HR101_3 := Aside0.mk hi101_3
       have HC101_3 := Aside0.mk hl101_3
       clear hi101_3 hl101_3
       replace p101 := eq_true p101
       replace q101 := eq_true q101
       go_wp2_with (first | ((with_reducible refine gate_callee (f := 84) rfl ?_); refine goesL_ (some 23) rfl rfl Try.func84 zk rfl #[.agg #[.bool ((rd_T126 l0 x5_1).f0), .slice A101_1 ((rd_T126 l0 x5_1).f1).length c101_1, .slice A101_2 ((rd_T126 l0 x5_1).f2).length c101_2, .slice A101_3 ((rd_T126 l0 x5_1).f3).length c101_3], .int .i64 x1_1] rfl zm ?_; (with_reducible refine (laws_szBytesOf.calls k1 ((rd_T126 l0 x5_1).f0) _ _ ((rd_T126 l0 x5_1).f1) _ _ ((rd_T126 l0 x5_1).f2) _ _ ((rd_T126 l0 x5_1).f3) x1_1 t102 _ ?side1 ?side2 ?side3 ?side4 ?side5 ?side6 A6.out).mono ?_); (case side1 => exact cz (Kd.C_below HR101_1.out HB.out)); (case side2 => exact HC101_1.out); (case side3 => exact cz (Kd.C_below HR101_2.out HB.out)); (case side4 => exact HC101_2.out); (case side5 => exact cz (Kd.C_below HR101_3.out HB.out)); (case side6 => exact HC101_3.out); rintro e w9 ⟨rfl, hb⟩; refine ⟨_, rfl, ?_⟩; replace HB := Aside0.mk (below_step (bz HB.out) hb); (try clear hb)))
       go_roundg k1
       case measure => have := HK1.out; omega
       case rel => exact ⟨(t102), (wrap64 (x5_1 + 1)), zr, zr, H', ⟨by have := HK1.out; omega⟩, ⟨bz HB.out⟩⟩
     ·
      rw [if_neg c5] at H
      exact absurd H (by simp)
    ·
     rw [if_neg c4] at H
     have c4b0 : decide (x5_1 < (l0.length : Int)) = false := decide_eq_false c4
     clear c4
     obtain rfl := Option.some.inj H
     go_wp2
     go_ret
     exact ⟨ze, bz HB.out⟩

end Go.Proofs.Ythoapmfpokohnaa.P
