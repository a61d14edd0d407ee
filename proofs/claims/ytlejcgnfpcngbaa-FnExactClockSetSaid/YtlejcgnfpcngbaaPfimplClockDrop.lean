-- printed by this session's own driver (wip/qd.py) out of the translation; Lean checks it
import Derived.Test.YtlejcgnfpcngbaaPf0
import Derived.Test.YtlejcgnfpcngbaaPfimplClockOk
import Derived.Test.YtlejcgnfpcngbaaPfimplClockat
import Derived.Test.YtlejcgnfpcngbaaPfslicesDeleteAlarm
import Derived.Test.YtlejcgnfpcngbaaPfslicesCloneAlarm
import Derived.Test.YtlejcgnfpcngbaaQCopy
namespace Go.Proofs.Ytlejcgnfpcngbaa.P
open Go.RowKit Go.Proofs.YtlejcgnfpcngbaaW.PrintWords Go.Proofs.YtlejcgnfpcngbaaW.PrintLast Go.Proofs.YtlejcgnfpcngbaaW.PrintMore
attribute [local go_sem] max2_int min2_int max_two min_two max_three min_three max_four min_four Q.cell_set_map   -- for this text's walks alone
set_option linter.unusedVariables false
set_option linter.unusedSimpArgs false

/-! ### impl_ClockDrop: function 30 -/
-- IMPORT Derived.Test.YtlejcgnfpcngbaaQCopy
def impl_ClockDrop.f (a0_0 : Int) (l0_1 : List S62) (a1 : Int) : Option (Int × List S62 × Bool) :=
  if impl_ClockOk.val a0_0 l0_1 = true ∧ 0 ≤ impl_Clock_at.idx a1 l0_1 0 then some (a0_0, l0_1.take (impl_Clock_at.idx a1 l0_1 0).toNat ++ l0_1.drop ((impl_Clock_at.idx a1 l0_1 0).toNat + 1), true) else some (0, [], false)
theorem impl_ClockDrop.idx_lt (p : Int) : ∀ (l : List S62) (b : Int), impl_Clock_at.idx p l b = -1 ∨ (b ≤ impl_Clock_at.idx p l b ∧ impl_Clock_at.idx p l b < b + l.length) := by
  intro l
  induction l with
  | nil => intro b; exact .inl rfl
  | cons a l ih =>
    intro b
    simp only [impl_Clock_at.idx]
    split
    · right; simp only [List.length_cons]; omega
    · rcases ih (b + 1) with h | ⟨h1, h2⟩
      · exact .inl h
      · right; simp only [List.length_cons]; omega
theorem impl_ClockDrop.len {n : Int} {l : List S62} (h : impl_ClockOk.val n l = true) : l.length ≤ 12 := by
  unfold impl_ClockOk.val at h
  simp only [Bool.and_eq_true, decide_eq_true_eq] at h
  omega
set_option maxHeartbeats 8000000 in
set_option maxRecDepth 100000 in
theorem impl_ClockDrop.calls (a0_0 : Int) (A0_1 : Option Addr) (c0_1 : Nat) (l0_1 : List S62) (a1 : Int) (r1 : Int) (r2 : List S62) (r3 : Bool) (w : World) (hr0_1 : Kd.C k62 w A0_1 l0_1.length l0_1) (hc0_1 : l0_1.length ≤ c0_1) (h : impl_ClockDrop.f a0_0 l0_1 a1 = some (r1, r2, r3)) :
    Calls Try.prog 30 #[.agg #[.int .i64 a0_0, .slice A0_1 l0_1.length c0_1], .int .i64 a1] w fun e w' => ∃ v1_ : Value, e = .returned (.tuple #[.agg #[.int .i64 r1, v1_], .bool r3]) ∧ Kd.R k62 62 w' w.heap.size (fun _ => True) v1_ r2 ∧ Below w.heap.size w w' := by
  have HR := Aside0.mk hr0_1
  have HC := Aside0.mk hc0_1
  clear hr0_1 hc0_1
  have HB0 := below_alloc (below_alloc (Below.refl w.heap.size w) (.cells #[.int .i64 a0_0, .slice A0_1 l0_1.length c0_1] 26)) (.cells #[.int .i64 0, .slice none 0 0] 26)
  have X0 : ((w.alloc (.cells #[.int .i64 a0_0, .slice A0_1 l0_1.length c0_1] 26)).alloc (.cells #[.int .i64 0, .slice none 0 0] 26)).heap[w.heap.size]? = some (.cells #[.int .i64 a0_0, .slice A0_1 l0_1.length c0_1] 26 (0, 0)) := blk_alloc (blk_new w _) _
  have Z0 : ((w.alloc (.cells #[.int .i64 a0_0, .slice A0_1 l0_1.length c0_1] 26)).alloc (.cells #[.int .i64 0, .slice none 0 0] 26)).heap[w.heap.size + 1]? = some (.cells #[.int .i64 0, .slice none 0 0] 26 (0, 0)) := by have := blk_new (w.alloc (.cells #[.int .i64 a0_0, .slice A0_1 l0_1.length c0_1] 26)) (.cells #[.int .i64 0, .slice none 0 0] 26); simpa using this
  have mixed : Try.prog.follows .mixedOrders = true := by kernel_rfl
  have hdata : impl_Clock_at.f a0_0 l0_1 a1 = some (impl_Clock_at.idx a1 l0_1 0) := rfl
  have hlt := impl_ClockDrop.idx_lt a1 l0_1 0
  unfold impl_ClockDrop.f at h
  generalize hkk : impl_Clock_at.idx a1 l0_1 0 = kk at h hdata hlt
  have hokf : impl_ClockOk.f a0_0 l0_1 = some (impl_ClockOk.val a0_0 l0_1) := rfl
  have hlen := impl_ClockDrop.len (n := a0_0) (l := l0_1)
  generalize hvv : impl_ClockOk.val a0_0 l0_1 = vv at h hokf hlen
  have D1 := Aside0.mk hdata
  have D2 := Aside0.mk hokf
  clear hdata hokf hvv hkk
  have arm1 : True := trivial
  by_cases hc : vv = true ∧ 0 ≤ kk
  · rw [if_pos hc] at h
    simp only [Option.some.injEq, Prod.mk.injEq] at h
    obtain ⟨rfl, rfl, rfl⟩ := h
    obtain ⟨rfl, hk0⟩ := hc
    obtain ⟨kn, rfl⟩ : ∃ kn : Nat, kk = (kn : Int) := ⟨kk.toNat, by omega⟩
    have hl12 := hlen rfl
    have hkn : kn < l0_1.length := by omega
    have hwr : wrap64 ((kn : Int) + 1) = (kn : Int) + 1 := by unfold wrap64; omega
    have hneg : decide ((kn : Int) < 0) = false := decide_eq_false (by omega)
    have hcl : slices_Clone_Alarm.f l0_1 = some l0_1 := by unfold slices_Clone_Alarm.f; exact if_pos (by omega)
    rw [Int.toNat_natCast]
    clear hlt hk0 hlen
    go_enter Try.func30, Try.ntmps30
    go_wp2_with (first
      | (go_at_call 56; refine (impl_Clock_at.calls a0_0 A0_1 c0_1 l0_1 a1 _ _ (Kd.C_below HR.out HB0) HC.out D1.out).mono ?_; rintro e w1 ⟨rfl, hb1⟩; have HB1 := below_then HB0 HB0.size hb1; have X1 := (hb1.block _ (blk_lt X0)).trans X0; have Z1 := (hb1.block _ (blk_lt Z0)).trans Z0; have x10 : w1.cell? ⟨w.heap.size, 0, none⟩ = some (.int .i64 a0_0) := (blk_cell X1 0).trans rfl; have x11 : w1.cell? ⟨w.heap.size, 1, none⟩ = some (.slice A0_1 l0_1.length c0_1) := (blk_cell X1 1).trans rfl)
      | (go_at_call 21; refine (impl_ClockOk.calls a0_0 A0_1 c0_1 l0_1 _ _ (Kd.C_below HR.out HB1) HC.out D2.out).mono ?_; rintro e w2 ⟨rfl, hb2⟩; have HB2 := below_then HB1 HB1.size hb2; have X2 := (hb2.block _ (blk_lt X1)).trans X1; have Z2 := (hb2.block _ (blk_lt Z1)).trans Z1; have x20 : w2.cell? ⟨w.heap.size, 0, none⟩ = some (.int .i64 a0_0) := (blk_cell X2 0).trans rfl; have x21 : w2.cell? ⟨w.heap.size, 1, none⟩ = some (.slice A0_1 l0_1.length c0_1) := (blk_cell X2 1).trans rfl))
    refine start_ (n := 12) (S := fun w' => w'.cell? ⟨w.heap.size, 0, none⟩ = some (.int .i64 a0_0) ∧ w'.cell? ⟨w.heap.size, 1, none⟩ = some (.slice A0_1 l0_1.length c0_1)) (ds := [10]) (lb 12 0) (by kernel_rfl) rfl rfl ⟨x20, x21⟩ (fun hHeld => ?_)
    refine pure_ (i := 0) (N := some 18) (v := ?_) (a' := ?_) (lb 12 1) rfl rfl (by kernel_rfl) (fun _ _ _ h => h) (Or.inl ⟨by rfl, ?_⟩) ?_ ?_; rotate_left; (intro w'; go_simp; with_reducible rfl); rotate_left; (simp only [Act.put, List.setIfInBounds_toArray, List.set_cons_zero, List.set_cons_succ, i64_w, i32_w]; rfl)
    refine pure_ (i := 2) (N := some 20) (v := ?_) (a' := ?_) (lb 12 5) rfl rfl (by kernel_rfl) (fun _ _ _ h => h) (Or.inl ⟨by rfl, ?_⟩) ?_ ?_; rotate_left; (intro w'; go_simp; with_reducible rfl); rotate_left; (simp only [Act.put, List.setIfInBounds_toArray, List.set_cons_zero, List.set_cons_succ, i64_w, i32_w]; rfl)
    refine pure_ (i := 5) (N := some 23) (v := ?_) (a' := ?_) (lb 12 37) rfl rfl (by kernel_rfl) (fun _ _ _ h => h) (Or.inl ⟨by rfl, ?_⟩) ?_ ?_; rotate_left; (intro w'; go_simp; with_reducible rfl); rotate_left; (simp only [Act.put, List.setIfInBounds_toArray, List.set_cons_zero, List.set_cons_succ, i64_w, i32_w]; rfl)
    refine pure_ (i := 6) (N := some 24) (v := ?_) (a' := ?_) (lb 12 101) rfl rfl (by kernel_rfl) (fun _ _ _ h => h) (Or.inl ⟨by rfl, ?_⟩) ?_ ?_; rotate_left; (intro w'; go_simp; with_reducible rfl); rotate_left; (simp only [Act.put, List.setIfInBounds_toArray, List.set_cons_zero, List.set_cons_succ, i64_w, i32_w]; rfl)
    refine pure_ (i := 7) (N := some 25) (v := ?_) (a' := ?_) (lb 12 229) rfl rfl (by kernel_rfl) (fun _ _ _ h => h) (Or.inl ⟨by rfl, ?_⟩) ?_ ?_; rotate_left; (intro w'; go_simp; with_reducible rfl); rotate_left; (simp only [Act.put, List.setIfInBounds_toArray, List.set_cons_zero, List.set_cons_succ, i64_w, i32_w]; rfl)
    refine take_ (i := 1) (N := some 19) (v := ?_) (a' := ?_) (lb 12 231) rfl rfl (by kernel_rfl) (fun _ _ _ h => h) (Or.inl ⟨by rfl, ?_⟩) hHeld ?_ ?_; rotate_left; (rintro w' ⟨s0, s1⟩; go_simp; with_reducible rfl); rotate_left; (simp only [Act.put, List.setIfInBounds_toArray, List.set_cons_zero, List.set_cons_succ, i64_w, i32_w]; rfl)
    refine take_ (i := 3) (N := some 21) (v := ?_) (a' := ?_) (lb 12 239) rfl rfl (by kernel_rfl) (fun _ _ _ h => h) (Or.inl ⟨by rfl, ?_⟩) hHeld ?_ ?_; rotate_left; (rintro w' ⟨s0, s1⟩; go_simp; with_reducible rfl); rotate_left; (simp only [Act.put, List.setIfInBounds_toArray, List.set_cons_zero, List.set_cons_succ, i64_w, i32_w]; rfl)
    refine one_ (i := 4) (N := some 22) (lb 12 255) rfl rfl (by kernel_rfl) (by decide) (fun K hK => ?_)
    refine goes_ Try.func58 (by kernel_rfl) rfl #[.slice A0_1 l0_1.length c0_1] (by rfl) rfl rfl zm ?_
    refine (slices_Clone_Alarm.calls A0_1 c0_1 l0_1 l0_1 _ (Kd.C_below HR.out (below_drew HB2)) HC.out hcl).mono ?_
    rintro e w3 ⟨v3, rfl, R3, hb3⟩
    obtain ⟨A3, c3, rfl⟩ := Kd.R_slice R3
    refine ⟨_, rfl, ?_⟩
    refine hK.out _ _ ⟨pw_cell_below hb3 hHeld.1, pw_cell_below hb3 hHeld.2⟩ (fun hHeld => ?_)
    clear hK K
    refine norm_ (a' := ?_) ?_ ?_
    rotate_left
    · show Act.put _ (some 22) _ = _
      simp only [Act.put, List.setIfInBounds_toArray, List.set_cons_zero, List.set_cons_succ, i64_w, i32_w]
      rfl
    refine one_ (i := 8) (N := some 26) (lb 12 511) rfl rfl (by kernel_rfl) (by decide) (fun K hK => ?_)
    refine goes_ Try.func57 (by kernel_rfl) rfl #[.slice A3 l0_1.length c3, .int .i64 (kn : Int), .int .i64 (wrap64 ((kn : Int) + 1))] (by rfl) rfl rfl zm ?_
    rw [hwr]
    refine (slices_Delete_Alarm.own _ _ _ _ l0_1 kn R3 hkn).mono ?_
    rintro e w4 ⟨v4, rfl, R4, G4, B4⟩
    obtain ⟨A4, c4, e4⟩ := Kd.R_slice R4
    generalize hln : (l0_1.take kn ++ l0_1.drop (kn + 1)).length = ln at e4
    subst e4
    refine ⟨_, rfl, ?_⟩
    have HB3 := below_then (below_drew HB2) (below_drew HB2).size hb3
    have hrow : ∀ j, (Value.slice A3 l0_1.length c3).ownBlock = some j → w2.heap.size ≤ j := fun j hj => Kd.R_base R3 j hj
    have hz1 : w.heap.size + 1 < w2.heap.size := by have := Z2; exact blk_lt Z2
    have Z3 : w3.heap[w.heap.size + 1]? = some (.cells #[.int .i64 0, .slice none 0 0] 26 (0, 0)) := (hb3.block _ hz1).trans Z2
    have Z4 : w4.heap[w.heap.size + 1]? = some (.cells #[.int .i64 0, .slice none 0 0] 26 (0, 0)) := (G4.block _ (blk_lt Z3) (fun e => by have := hrow _ e.symm; omega)).trans Z3
    have hbx : w4.heap[w.heap.size]? = w3.heap[w.heap.size]? := G4.block _ (by have := blk_lt Z3; omega) (fun e => by have := hrow _ e.symm; omega)
    have HB4 := pw_below_grown HB3 _ HB3.size G4 (fun j hj => by have := hrow j hj; omega)
    have z40 : w4.cell? ⟨w.heap.size + 1, 0, none⟩ = some (.int .i64 0) := (blk_cell Z4 0).trans rfl
    have z41 : w4.cell? ⟨w.heap.size + 1, 1, none⟩ = some (.slice none 0 0) := (blk_cell Z4 1).trans rfl
    have z42 := blk_frozen Z4 0
    have z43 := blk_frozen Z4 1
    refine hK.out _ _ ⟨(Q.cell_eq_of hbx).trans hHeld.1, (Q.cell_eq_of hbx).trans hHeld.2⟩ (fun hHeld => ?_)
    clear hK K
    refine norm_ (a' := ?_) ?_ ?_
    rotate_left
    · show Act.put _ (some 26) _ = _
      simp only [Act.put, List.setIfInBounds_toArray, List.set_cons_zero, List.set_cons_succ, i64_w, i32_w]
      rfl
    refine pure_ (i := 9) (N := some 27) (v := ?_) (a' := ?_) (lb 12 1023) rfl rfl (by kernel_rfl) (fun _ _ _ h => h) (Or.inl ⟨by rfl, ?_⟩) ?_ ?_; rotate_left; (intro w'; go_simp; with_reducible rfl); rotate_left; (simp only [Act.put, List.setIfInBounds_toArray, List.set_cons_zero, List.set_cons_succ, i64_w, i32_w]; rfl)
    refine last_ (i := 10) (N := none) (lb 12 2047) rfl rfl (by kernel_rfl) (by decide) (fun K hK => ?_)
    refine skip_ (w1 := ?_) (by rfl) rfl ?_ ?_
    rotate_left
    · go_simp
      rfl
    refine hK.out _ _ ?_
    clear hK K
    refine pure_ (i := 11) (N := some 5) (v := ?_) (a' := ?_) (lb 12 4095) rfl rfl (by kernel_rfl) (fun _ _ _ h => h) (Or.inl ⟨by rfl, ?_⟩) ?_ ?_; rotate_left; (intro w'; go_simp; with_reducible rfl); rotate_left; (simp only [Act.put, List.setIfInBounds_toArray, List.set_cons_zero, List.set_cons_succ, i64_w, i32_w]; rfl)
    refine done_ (by kernel_rfl) ?_
    try go_wp2
    refine bodyPost_ret (results_ct rfl _ _ (w.heap.size + 1) 26 #[.int .i64 a0_0, .slice A4 ln c4] (0, 0) _ rfl (by refine blk_put (cs := #[.int .i64 a0_0, .slice none 0 0]) ?_ 1 _ rfl; refine blk_put (cs := #[.int .i64 0, .slice none 0 0]) ?_ 0 _ rfl; exact Z4) Try.underlying26 rfl zk) rfl ?_
    refine ⟨_, rfl, ?_, below_set (below_set HB4 (by omega)) (by omega)⟩
    exact Kd.R_mono (Kd.R_far (p := ⟨w.heap.size + 1, 1, none⟩) (Kd.R_far (p := ⟨w.heap.size + 1, 0, none⟩) (Kd.R_types (Kd.R_lower R4 (by have := HB2.size; exact this)) Z4 (by decide)) (fun _ hk => hk.2) _) (fun _ hk => hk.2) _) (fun _ _ => trivial)
  · rw [if_neg hc] at h
    simp only [Option.some.injEq, Prod.mk.injEq] at h
    obtain ⟨rfl, rfl, rfl⟩ := h
    have hneg : vv = true → decide (kk < 0) = true := fun hv => decide_eq_true (by
      rcases Int.lt_or_le kk 0 with h | h
      · exact h
      · exact absurd ⟨hv, h⟩ hc)
    clear hlt hlen hc
    cases vv with
    | true =>
      replace hneg := hneg rfl
      go_enter Try.func30, Try.ntmps30
      go_wp2_with (first
        | (go_at_call 56; refine (impl_Clock_at.calls a0_0 A0_1 c0_1 l0_1 a1 _ _ (Kd.C_below HR.out HB0) HC.out D1.out).mono ?_; rintro e w1 ⟨rfl, hb1⟩; have HB1 := below_then HB0 HB0.size hb1; have X1 := (hb1.block _ (blk_lt X0)).trans X0; have Z1 := (hb1.block _ (blk_lt Z0)).trans Z0; have x10 : w1.cell? ⟨w.heap.size, 0, none⟩ = some (.int .i64 a0_0) := (blk_cell X1 0).trans rfl; have x11 : w1.cell? ⟨w.heap.size, 1, none⟩ = some (.slice A0_1 l0_1.length c0_1) := (blk_cell X1 1).trans rfl)
        | (go_at_call 21; refine (impl_ClockOk.calls a0_0 A0_1 c0_1 l0_1 _ _ (Kd.C_below HR.out HB1) HC.out D2.out).mono ?_; rintro e w2 ⟨rfl, hb2⟩; have HB2 := below_then HB1 HB1.size hb2; have Z2 := (hb2.block _ (blk_lt Z1)).trans Z1; have z20 : w2.cell? ⟨w.heap.size + 1, 0, none⟩ = some (.int .i64 0) := (blk_cell Z2 0).trans rfl; have z21 : w2.cell? ⟨w.heap.size + 1, 1, none⟩ = some (.slice none 0 0) := (blk_cell Z2 1).trans rfl; have z22 := blk_frozen Z2 0; have z23 := blk_frozen Z2 1))
      refine bodyPost_ret (results_ct rfl _ _ (w.heap.size + 1) 26 #[.int .i64 0, .slice none 0 0] (0, 0) _ rfl (by refine blk_put (cs := #[.int .i64 0, .slice none 0 0]) ?_ 1 _ rfl; refine blk_put (cs := #[.int .i64 0, .slice none 0 0]) ?_ 0 _ rfl; exact Z2) Try.underlying26 rfl zk) rfl ?_
      exact ⟨_, rfl, Kd.R_nil _ _ _ _ _, below_set (below_set HB2 (by omega)) (by omega)⟩
    | false =>
      clear hneg
      go_enter Try.func30, Try.ntmps30
      go_wp2_with (first
        | (go_at_call 56; refine (impl_Clock_at.calls a0_0 A0_1 c0_1 l0_1 a1 _ _ (Kd.C_below HR.out HB0) HC.out D1.out).mono ?_; rintro e w1 ⟨rfl, hb1⟩; have HB1 := below_then HB0 HB0.size hb1; have X1 := (hb1.block _ (blk_lt X0)).trans X0; have Z1 := (hb1.block _ (blk_lt Z0)).trans Z0; have x10 : w1.cell? ⟨w.heap.size, 0, none⟩ = some (.int .i64 a0_0) := (blk_cell X1 0).trans rfl; have x11 : w1.cell? ⟨w.heap.size, 1, none⟩ = some (.slice A0_1 l0_1.length c0_1) := (blk_cell X1 1).trans rfl)
        | (go_at_call 21; refine (impl_ClockOk.calls a0_0 A0_1 c0_1 l0_1 _ _ (Kd.C_below HR.out HB1) HC.out D2.out).mono ?_; rintro e w2 ⟨rfl, hb2⟩; have HB2 := below_then HB1 HB1.size hb2; have Z2 := (hb2.block _ (blk_lt Z1)).trans Z1; have z20 : w2.cell? ⟨w.heap.size + 1, 0, none⟩ = some (.int .i64 0) := (blk_cell Z2 0).trans rfl; have z21 : w2.cell? ⟨w.heap.size + 1, 1, none⟩ = some (.slice none 0 0) := (blk_cell Z2 1).trans rfl; have z22 := blk_frozen Z2 0; have z23 := blk_frozen Z2 1))
      refine bodyPost_ret (results_ct rfl _ _ (w.heap.size + 1) 26 #[.int .i64 0, .slice none 0 0] (0, 0) _ rfl (by refine blk_put (cs := #[.int .i64 0, .slice none 0 0]) ?_ 1 _ rfl; refine blk_put (cs := #[.int .i64 0, .slice none 0 0]) ?_ 0 _ rfl; exact Z2) Try.underlying26 rfl zk) rfl ?_
      exact ⟨_, rfl, Kd.R_nil _ _ _ _ _, below_set (below_set HB2 (by omega)) (by omega)⟩


end Go.Proofs.Ytlejcgnfpcngbaa.P
