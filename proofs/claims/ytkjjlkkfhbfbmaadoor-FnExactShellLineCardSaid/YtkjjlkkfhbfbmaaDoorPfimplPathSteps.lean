-- printed by wip/qd.py
import Derived.Test.YtkjjlkkfhbfbmaaDoorPf0
import Derived.Test.YtkjjlkkfhbfbmaaDoorPfstringsSplit
import Derived.Test.YtkjjlkkfhbfbmaaDoorPfstringsCutPrefix
import Derived.Test.YtkjjlkkfhbfbmaaDoorPfslicesContainsFuncstring
namespace Go.Proofs.YtkjjlkkfhbfbmaaDoor.P
open Go.RowKit Go.Proofs.YtkjjlkkfhbfbmaaDoorW.PrintWords Go.Proofs.YtkjjlkkfhbfbmaaDoorW.PrintLast Go.Proofs.YtkjjlkkfhbfbmaaDoorW.PrintMore
attribute [local go_sem] max2_int min2_int max_two min_two max_three min_three max_four min_four Q.cell_set_map Q.str_gtr Q.str_geq Q.str_leq
set_option linter.unusedVariables false
set_option linter.unusedSimpArgs false

/-! ### impl_PathSteps: function 19 -/
def impl_PathSteps.f (k : Nat) (a0 : ByteArray) : Option (Bool × List ByteArray × Bool) := (strings_CutPrefix.f a0 (⟨#[47]⟩ : ByteArray)).bind fun bt101 => (if bt101.1.toList = ([] : List UInt8) then (some (bt101.2, ([] : List ByteArray), true)) else ((strings_Split.f k bt101.1 (⟨#[47]⟩ : ByteArray)).bind fun t103 => (if (t103.length : Int) > 6 then (some (false, ([] : List ByteArray), false)) else ((slices_ContainsFunc_string.f k t103).bind fun t106 => (if t106 = true then (some (false, ([] : List ByteArray), false)) else (some (bt101.2, t103, true)))))))
theorem impl_PathSteps.mono : ∀ a0 k, LeO (impl_PathSteps.f k a0) (impl_PathSteps.f (k + 1) a0) := by
 intro a0 k
 unfold impl_PathSteps.f
 repeat' first
   | (with_reducible exact slices_ContainsFunc_string.mono _ _)
   | (with_reducible exact strings_Split.mono _ _ _)
   | (with_reducible exact LeO.refl _)
   | (with_reducible exact LeO.none _)
   | (with_reducible refine LeO.ite ?_ ?_)
   | (with_reducible refine LeO.bind ?_ (fun _ => ?_))
   | exact slices_ContainsFunc_string.mono _ _
   | exact strings_Split.mono _ _ _
   | exact LeO.none _
   | refine LeO.ite ?_ ?_
   | refine LeO.bind ?_ (fun _ => ?_)
set_option maxHeartbeats 8000000 in
set_option maxRecDepth 100000 in
theorem impl_PathSteps.calls (k : Nat) (a0 : ByteArray) (r1 : Bool) (r2 : List ByteArray) (r3 : Bool) (w : World) (h : impl_PathSteps.f k a0 = some (r1, r2, r3)) :
  Calls Tryd.prog 19 #[.string a0] w fun e w' => ∃ v1_ : Value, e = .returned (.tuple #[.bool r1, v1_, .bool r3]) ∧ Kd.R Kd.string 9 w' w.heap.size (fun _ => True) v1_ r2 ∧ Below w.heap.size w w' := by
 have HB := Aside0.mk (Below.refl w.heap.size w)
 have H : ((strings_CutPrefix.f a0 (⟨#[47]⟩ : ByteArray)).bind fun bt101 => (if bt101.1.toList = ([] : List UInt8) then (some (bt101.2, ([] : List ByteArray), true)) else ((strings_Split.f k bt101.1 (⟨#[47]⟩ : ByteArray)).bind fun t103 => (if (t103.length : Int) > 6 then (some (false, ([] : List ByteArray), false)) else ((slices_ContainsFunc_string.f k t103).bind fun t106 => (if t106 = true then (some (false, ([] : List ByteArray), false)) else (some (bt101.2, t103, true)))))))) = some (r1, r2, r3) := h
 clear h
 replace H := Option.bind_eq_some_iff.mp H
 obtain ⟨⟨t101, t102⟩, A20, H⟩ := H
 replace H : (if t101.toList = ([] : List UInt8) then (some (t102, ([] : List ByteArray), true)) else ((strings_Split.f k t101 (⟨#[47]⟩ : ByteArray)).bind fun t103 => (if (t103.length : Int) > 6 then (some (false, ([] : List ByteArray), false)) else ((slices_ContainsFunc_string.f k t103).bind fun t106 => (if t106 = true then (some (false, ([] : List ByteArray), false)) else (some (t102, t103, true))))))) = some (r1, r2, r3) := H
 have A2 := Aside0.mk A20
 clear A20
 by_cases c3 : t101.toList = ([] : List UInt8)
 ·
  rw [if_pos c3] at H
  have c3b0 : (t101.toList == ([] : List UInt8)) = true := beq_iff_eq.mpr c3
  have c3b1 : (t101.toList != ([] : List UInt8)) = false := bne_eq_false_iff_eq.mpr c3
  clear c3
  simp only [Option.some.injEq, Prod.mk.injEq] at H
  obtain ⟨rfl, rfl, rfl⟩ := H
  go_enter Tryd.func19, Tryd.ntmps19
  go_wp2_with (first | ((with_reducible refine gate_callee (f := 30) rfl ?_); refine goesL_ (some 10) rfl rfl Tryd.func30 zk rfl #[.string a0, .string (⟨#[47]⟩ : ByteArray)] rfl zm ?_; (with_reducible refine (strings_CutPrefix.calls a0 (⟨#[47]⟩ : ByteArray) t101 t102 _ A2.out).mono ?_); rintro e w' ⟨rfl, ⟨nd, rfl⟩⟩; refine ⟨_, rfl, ?_⟩))
  go_ret3
  exact ⟨_, ze, by first | exact Kd.R_nil _ _ _ _ _ | exact Kd.N_nil _ _ _ _ _ | exact Kd.V_nil _ _ _ _ _ | exact Kd.Q_nil _ _ _ _ _ | exact Kd.S_nil _ _ _ _ _, bz HB.out⟩
 ·
  rw [if_neg c3] at H
  have c3b0 : (t101.toList == ([] : List UInt8)) = false := beq_eq_false_iff_ne.mpr c3
  have c3b1 : (t101.toList != ([] : List UInt8)) = true := bne_iff_ne.mpr c3
  replace H := Option.bind_eq_some_iff.mp H
  obtain ⟨t103, A40, H⟩ := H
  have A4 := Aside0.mk A40
  clear A40
  by_cases c5 : (t103.length : Int) > 6
  ·
   rw [if_pos c5] at H
   have c5b0 : decide (6 < (t103.length : Int)) = true := decide_eq_true c5
   have c5b1 : decide (6 < t103.length) = true := decide_eq_true (by omega)
   clear c5
   simp only [Option.some.injEq, Prod.mk.injEq] at H
   obtain ⟨rfl, rfl, rfl⟩ := H
   go_enter Tryd.func19, Tryd.ntmps19
   go_wp2_with (first | ((with_reducible refine gate_callee (f := 30) rfl ?_); refine goesL_ (some 10) rfl rfl Tryd.func30 zk rfl #[.string a0, .string (⟨#[47]⟩ : ByteArray)] rfl zm ?_; (with_reducible refine (strings_CutPrefix.calls a0 (⟨#[47]⟩ : ByteArray) t101 t102 _ A2.out).mono ?_); rintro e w' ⟨rfl, ⟨nd, rfl⟩⟩; refine ⟨_, rfl, ?_⟩) | ((with_reducible refine gate_callee (f := 14) rfl ?_); refine goesL_ (some 17) rfl rfl Tryd.func14 zk rfl #[.string t101, .string (⟨#[47]⟩ : ByteArray)] rfl zm ?_; (with_reducible refine (strings_Split.calls k t101 (⟨#[47]⟩ : ByteArray) t103 _ A4.out).mono ?_); rintro e w6 ⟨v104, rfl, ho0, hb⟩; refine ⟨_, rfl, ?_⟩; have HO105 := Aside0.mk (Kd.R_lower ho0 (below_size (bz HB.out))); replace HB := Aside0.mk (below_step (bz HB.out) hb); (try clear hb); (try clear ho0); obtain ⟨Ao7, co7, eo7⟩ := Kd.R_slice HO105.out; subst eo7))
   go_ret3
   exact ⟨_, ze, by first | exact Kd.R_nil _ _ _ _ _ | exact Kd.N_nil _ _ _ _ _ | exact Kd.V_nil _ _ _ _ _ | exact Kd.Q_nil _ _ _ _ _ | exact Kd.S_nil _ _ _ _ _, bz HB.out⟩
  ·
   rw [if_neg c5] at H
   have c5b0 : decide (6 < (t103.length : Int)) = false := decide_eq_false c5
   have c5b1 : decide (6 < t103.length) = false := decide_eq_false (by omega)
   clear c5
   replace H := Option.bind_eq_some_iff.mp H
   obtain ⟨t106, A80, H⟩ := H
   have A8 := Aside0.mk A80
   clear A80
   by_cases c9 : t106 = true
   ·
    subst c9
    rw [if_pos rfl] at H
    simp only [Option.some.injEq, Prod.mk.injEq] at H
    obtain ⟨rfl, rfl, rfl⟩ := H
    go_enter Tryd.func19, Tryd.ntmps19
    go_wp2_with (first | ((with_reducible refine gate_callee (f := 30) rfl ?_); refine goesL_ (some 10) rfl rfl Tryd.func30 zk rfl #[.string a0, .string (⟨#[47]⟩ : ByteArray)] rfl zm ?_; (with_reducible refine (strings_CutPrefix.calls a0 (⟨#[47]⟩ : ByteArray) t101 t102 _ A2.out).mono ?_); rintro e w' ⟨rfl, ⟨nd, rfl⟩⟩; refine ⟨_, rfl, ?_⟩) | ((with_reducible refine gate_callee (f := 14) rfl ?_); refine goesL_ (some 17) rfl rfl Tryd.func14 zk rfl #[.string t101, .string (⟨#[47]⟩ : ByteArray)] rfl zm ?_; (with_reducible refine (strings_Split.calls k t101 (⟨#[47]⟩ : ByteArray) t103 _ A4.out).mono ?_); rintro e w10 ⟨v104, rfl, ho0, hb⟩; refine ⟨_, rfl, ?_⟩; have HO105 := Aside0.mk (Kd.R_lower ho0 (below_size (bz HB.out))); replace HB := Aside0.mk (below_step (bz HB.out) hb); (try clear hb); (try clear ho0); obtain ⟨Ao11, co11, eo11⟩ := Kd.R_slice HO105.out; subst eo11) | (go_at_call 31; (with_reducible refine (slices_ContainsFunc_string.calls k _ _ t103 true _ ?side1 ?side2 A8.out).mono ?_); (case side1 => exact cz ((Kd.R_reads' HO105.out).2.2)); (case side2 => exact (Kd.R_reads' HO105.out).2.1); rintro e w12 ⟨rfl, hb⟩; replace HO105 := Aside0.mk (Kd.R_below (rz HO105.out) hb); replace HB := Aside0.mk (below_step (bz HB.out) hb); (try clear hb)))
    go_ret3
    exact ⟨_, ze, by first | exact Kd.R_nil _ _ _ _ _ | exact Kd.N_nil _ _ _ _ _ | exact Kd.V_nil _ _ _ _ _ | exact Kd.Q_nil _ _ _ _ _ | exact Kd.S_nil _ _ _ _ _, bz HB.out⟩
   ·
    replace c9 := Bool.eq_false_iff.mpr c9
    subst c9
    rw [if_neg nf_] at H
    simp only [Option.some.injEq, Prod.mk.injEq] at H
    obtain ⟨rfl, rfl, rfl⟩ := H
    go_enter Tryd.func19, Tryd.ntmps19
    go_wp2_with (first | ((with_reducible refine gate_callee (f := 30) rfl ?_); refine goesL_ (some 10) rfl rfl Tryd.func30 zk rfl #[.string a0, .string (⟨#[47]⟩ : ByteArray)] rfl zm ?_; (with_reducible refine (strings_CutPrefix.calls a0 (⟨#[47]⟩ : ByteArray) t101 t102 _ A2.out).mono ?_); rintro e w' ⟨rfl, ⟨nd, rfl⟩⟩; refine ⟨_, rfl, ?_⟩) | ((with_reducible refine gate_callee (f := 14) rfl ?_); refine goesL_ (some 17) rfl rfl Tryd.func14 zk rfl #[.string t101, .string (⟨#[47]⟩ : ByteArray)] rfl zm ?_; (with_reducible refine (strings_Split.calls k t101 (⟨#[47]⟩ : ByteArray) t103 _ A4.out).mono ?_); rintro e w13 ⟨v104, rfl, ho0, hb⟩; refine ⟨_, rfl, ?_⟩; have HO105 := Aside0.mk (Kd.R_lower ho0 (below_size (bz HB.out))); replace HB := Aside0.mk (below_step (bz HB.out) hb); (try clear hb); (try clear ho0); obtain ⟨Ao14, co14, eo14⟩ := Kd.R_slice HO105.out; subst eo14) | (go_at_call 31; (with_reducible refine (slices_ContainsFunc_string.calls k _ _ t103 false _ ?side1 ?side2 A8.out).mono ?_); (case side1 => exact cz ((Kd.R_reads' HO105.out).2.2)); (case side2 => exact (Kd.R_reads' HO105.out).2.1); rintro e w15 ⟨rfl, hb⟩; replace HO105 := Aside0.mk (Kd.R_below (rz HO105.out) hb); replace HB := Aside0.mk (below_step (bz HB.out) hb); (try clear hb)))
    go_ret3
    exact ⟨_, ze, by (with_reducible repeat (first | apply Kd.R_alloc | apply Kd.R_drewN | apply Kd.R_drew)); exact HO105.out, bz HB.out⟩

end Go.Proofs.YtkjjlkkfhbfbmaaDoor.P
