-- printed by wip/qd.py
import Derived.Test.YtkjjlkkfhbfbmaaDoorPf0
import Derived.Test.YtkjjlkkfhbfbmaaDoorPfimplin
import Derived.Test.YtkjjlkkfhbfbmaaDoorQWords
namespace Go.Proofs.YtkjjlkkfhbfbmaaDoor.P
open Go.RowKit Go.Proofs.YtkjjlkkfhbfbmaaDoorW.PrintWords Go.Proofs.YtkjjlkkfhbfbmaaDoorW.PrintLast Go.Proofs.YtkjjlkkfhbfbmaaDoorW.PrintMore
attribute [local go_sem] max2_int min2_int max_two min_two max_three min_three max_four min_four Q.cell_set_map Q.str_gtr Q.str_geq Q.str_leq
set_option linter.unusedVariables false
set_option linter.unusedSimpArgs false

/-! ### impl_number: function 15 -/
-- IMPORT Derived.Test.YtkjjlkkfhbfbmaaDoorQWords
def impl_number.f (a0 : ByteArray) : Int × Bool :=
  match Lib.atoiAll a0.data.toList with
  | .ok v => (v, if v ≥ 0 then (if v ≤ 99999 then (Lib.itoa v == a0.toList) else false) else false)
  | .range => (Lib.atoiSat a0.data.toList, false)
  | _ => (0, false)
set_option maxHeartbeats 4000000 in
set_option maxRecDepth 100000 in
/-- A text read as a number. -/
theorem impl_number.calls (a0 : ByteArray) (w : World) (hT : Q.Tabs w) (hs : a0.size ≤ 1048576) :
    Calls Tryd.prog 15 #[.string a0] w fun e w' => e = .returned (.tuple #[.int .i64 (impl_number.f a0).1, .bool (impl_number.f a0).2]) ∧ Below w.heap.size w w' := by
  have HB := Aside0.mk (Below.refl w.heap.size w)
  have HT := Aside0.mk hT
  clear hT
  obtain ⟨o, ho⟩ : ∃ o, o = Lib.atoiAll a0.data.toList := ⟨_, rfl⟩
  cases o with
  | ok v =>
    obtain ⟨b0, b1⟩ := Lib.atoiAll_bounds ho.symm
    have e0 : impl_number.f a0 = (v, if v ≥ 0 then (if v ≤ 99999 then (Lib.itoa v == a0.toList) else false) else false) := by
      unfold impl_number.f
      rw [← ho]
    rw [e0]
    have HO := Aside0.mk ho
    clear ho e0
    by_cases h0 : v ≥ 0
    · by_cases h1 : v ≤ 99999
      ·
        have hin : impl_in.f v 0 99999 = some true := by
          unfold impl_in.f
          rw [if_pos h0, decide_eq_true h1]
        rw [if_pos h0, if_pos h1]
        go_enter Tryd.func15, Tryd.ntmps15
        go_wp2_with (first | (go_at_call 25; refine (Tryd.strconv_Atoi_ok a0 (by omega) v HO.out.symm _).mono ?_; rintro e w1 ⟨rfl, hW⟩; have hb1 : Below w.heap.size w w1 := (by rcases hW with rfl | ⟨t, rfl⟩; exact Below.refl _ _; exact Lib.bytesWorld_below _ _ _); replace HB := Aside0.mk hb1; replace HT := Aside0.mk (HT.out.below hb1); clear hb1 hW) | (go_at_call 20; refine (impl_in.calls v 0 99999 true _ hin).mono ?_; rintro e w2 ⟨rfl, ⟨nd, rfl⟩⟩) | (go_at_call 26; refine (Tryd.strconv_Itoa v b0 b1 _ ?tab).mono ?_; (case tab => exact HT.out.pw); rintro e w3 ⟨rfl, kx, os, rfl⟩))
        go_ret2
        exact ⟨rfl, Q.below_grow_ (pw_below_drewN HB.out _) _⟩
      ·
        have hin : impl_in.f v 0 99999 = some false := by
          unfold impl_in.f
          rw [if_pos h0, decide_eq_false h1]
        rw [if_pos h0, if_neg h1]
        go_enter Tryd.func15, Tryd.ntmps15
        go_wp2_with (first | (go_at_call 25; refine (Tryd.strconv_Atoi_ok a0 (by omega) v HO.out.symm _).mono ?_; rintro e w1 ⟨rfl, hW⟩; have hb1 : Below w.heap.size w w1 := (by rcases hW with rfl | ⟨t, rfl⟩; exact Below.refl _ _; exact Lib.bytesWorld_below _ _ _); replace HB := Aside0.mk hb1; replace HT := Aside0.mk (HT.out.below hb1); clear hb1 hW) | (go_at_call 20; refine (impl_in.calls v 0 99999 false _ hin).mono ?_; rintro e w2 ⟨rfl, ⟨nd, rfl⟩⟩))
        go_ret2
        exact ⟨rfl, pw_below_drewN HB.out _⟩
    ·
      have hin : impl_in.f v 0 99999 = some false := by
        unfold impl_in.f
        rw [if_neg h0]
      rw [if_neg h0]
      go_enter Tryd.func15, Tryd.ntmps15
      go_wp2_with (first | (go_at_call 25; refine (Tryd.strconv_Atoi_ok a0 (by omega) v HO.out.symm _).mono ?_; rintro e w1 ⟨rfl, hW⟩; have hb1 : Below w.heap.size w w1 := (by rcases hW with rfl | ⟨t, rfl⟩; exact Below.refl _ _; exact Lib.bytesWorld_below _ _ _); replace HB := Aside0.mk hb1; replace HT := Aside0.mk (HT.out.below hb1); clear hb1 hW) | (go_at_call 20; refine (impl_in.calls v 0 99999 false _ hin).mono ?_; rintro e w2 ⟨rfl, ⟨nd, rfl⟩⟩))
      go_ret2
      exact ⟨rfl, pw_below_drewN HB.out _⟩
  | range =>
    obtain ⟨t0, p0, hv⟩ := HT.out.er
    have e0 : impl_number.f a0 = (Lib.atoiSat a0.data.toList, false) := by
      unfold impl_number.f
      rw [← ho]
    rw [e0]
    have HO := Aside0.mk ho
    clear ho e0
    obtain ⟨b0, b1⟩ := Lib.atoiSat_bounds a0.data.toList
    generalize hsat : Lib.atoiSat a0.data.toList = sat at b0 b1 ⊢
    have HS := Aside0.mk hsat
    clear hsat
    go_enter Tryd.func15, Tryd.ntmps15
    go_wp2_with (go_at_call 25; refine (Tryd.strconv_Atoi_range a0 (by omega) HO.out.symm (.iface t0 p0) _ hv (.inr ⟨_, _, rfl⟩)).mono ?_; rintro e w1 ⟨N, rfl, hN, hc, hb1⟩; try rw [HS.out]; replace HB := Aside0.mk hb1; clear hb1 hc hN)
    go_ret2
    exact ⟨rfl, HB.out⟩
  | _ =>
    obtain ⟨t0, p0, hv⟩ := HT.out.es
    have e0 : impl_number.f a0 = (0, false) := by
      unfold impl_number.f
      rw [← ho]
    rw [e0]
    have HO := Aside0.mk ho
    clear ho e0
    go_enter Tryd.func15, Tryd.ntmps15
    go_wp2_with (go_at_call 25; refine (Tryd.strconv_Atoi_syntax a0 (by omega) (fun v hv => by rw [← HO.out] at hv; cases hv) (fun hv => by rw [← HO.out] at hv; cases hv) (.iface t0 p0) _ hv (.inr ⟨_, _, rfl⟩)).mono ?_; rintro e w1 ⟨N, rfl, hN, hc, hb1⟩; replace HB := Aside0.mk hb1; clear hb1 hc hN)
    go_ret2
    exact ⟨rfl, HB.out⟩


end Go.Proofs.YtkjjlkkfhbfbmaaDoor.P
