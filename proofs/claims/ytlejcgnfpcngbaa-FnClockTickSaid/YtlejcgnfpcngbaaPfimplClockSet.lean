-- printed by this session's own driver (wip/qd.py) out of the translation; Lean checks it
import Derived.Test.YtlejcgnfpcngbaaPf0
import Derived.Test.YtlejcgnfpcngbaaPfimplin
import Derived.Test.YtlejcgnfpcngbaaPfimplClockOk
import Derived.Test.YtlejcgnfpcngbaaPfimplClockat
import Derived.Test.YtlejcgnfpcngbaaPfslicesDeleteAlarm
import Derived.Test.YtlejcgnfpcngbaaPfslicesCloneAlarm
import Derived.Test.YtlejcgnfpcngbaaPfslicesBinarySearchFuncAlarm
import Derived.Test.YtlejcgnfpcngbaaPfimplClockput
import Derived.Test.YtlejcgnfpcngbaaQCopy
namespace Go.Proofs.Ytlejcgnfpcngbaa.P
open Go.RowKit Go.Proofs.YtlejcgnfpcngbaaW.PrintWords Go.Proofs.YtlejcgnfpcngbaaW.PrintLast Go.Proofs.YtlejcgnfpcngbaaW.PrintMore
attribute [local go_sem] max2_int min2_int max_two min_two max_three min_three max_four min_four Q.cell_set_map   -- for this text's walks alone
set_option linter.unusedVariables false
set_option linter.unusedSimpArgs false

/-! ### impl_ClockSet: function 31 -/
-- IMPORT Derived.Test.YtlejcgnfpcngbaaQCopy
def impl_ClockSet.less (l : List S62) (id : Int) : List S62 := if 0 ≤ impl_Clock_at.idx id l 0 then l.take (impl_Clock_at.idx id l 0).toNat ++ l.drop ((impl_Clock_at.idx id l 0).toNat + 1) else l
def impl_ClockSet.can (n : Int) (l : List S62) (a1 a2 a3 : Int) : Bool := impl_ClockOk.val n l && (impl_ClockOk.inB a1 0 99 && (impl_ClockOk.inB a2 1 4095 && (impl_ClockOk.inB a3 0 99 && !decide (wrap64 (n + a2) > 4095))))
def impl_ClockSet.f (k : Nat) (a0_0 : Int) (l0_1 : List S62) (a1 a2 a3 : Int) : Option (Int × List S62 × Bool) :=
  if impl_ClockSet.can a0_0 l0_1 a1 a2 a3 = true then
    if ((impl_ClockSet.less l0_1 a1).length : Int) = 12 then some (0, [], false)
    else (slices_BinarySearchFunc_Alarm.f k (impl_ClockSet.less l0_1 a1) a1 (wrap64 (a0_0 + a2)) a3).bind fun t => if 0 ≤ t.1 ∧ t.1 ≤ (impl_ClockSet.less l0_1 a1).length then some (a0_0, (impl_ClockSet.less l0_1 a1).take t.1.toNat ++ [⟨a1, wrap64 (a0_0 + a2), a3⟩] ++ (impl_ClockSet.less l0_1 a1).drop t.1.toNat, true) else none
  else some (0, [], false)
theorem impl_ClockSet.mono : ∀ a0 a1 a2 a3 a4 k, LeO (impl_ClockSet.f k a0 a1 a2 a3 a4) (impl_ClockSet.f (k + 1) a0 a1 a2 a3 a4) := by
  intro a0 a1 a2 a3 a4 k
  unfold impl_ClockSet.f
  exact LeO.ite (LeO.ite (LeO.refl _) (LeO.bind (slices_BinarySearchFunc_Alarm.mono _ _ _ _ _) (fun _ => LeO.refl _))) (LeO.refl _)
theorem impl_ClockSet.bel {w w' : World} (h : Drawn0 w w') : Below w.heap.size w w' := by
  obtain ⟨n, rfl⟩ := h
  exact pw_below_drewN (Below.refl _ _) n
theorem impl_ClockSet.idx_lt (p : Int) : ∀ (l : List S62) (b : Int), impl_Clock_at.idx p l b = -1 ∨ (b ≤ impl_Clock_at.idx p l b ∧ impl_Clock_at.idx p l b < b + l.length) := by
  intro l
  induction l with
  | nil => intro b; exact .inl rfl
  | cons a l ih =>
    intro b
    simp only [impl_Clock_at.idx]
    split
    · right; simp only [List.length_cons]; omega
    · rcases ih (b + 1) with h | ⟨h1, h2⟩
      · exact .inl h
      · right; simp only [List.length_cons]; omega
theorem impl_ClockSet.len {n : Int} {l : List S62} (h : impl_ClockOk.val n l = true) : l.length ≤ 12 := by
  unfold impl_ClockOk.val at h
  simp only [Bool.and_eq_true, decide_eq_true_eq] at h
  omega
set_option maxHeartbeats 8000000 in
set_option maxRecDepth 100000 in
/-- What can't be set. -/
theorem impl_ClockSet.cannot (a0_0 : Int) (A0_1 : Option Addr) (c0_1 : Nat) (l0_1 : List S62) (a1 a2 a3 : Int) (w : World) (hr0_1 : Kd.C k62 w A0_1 l0_1.length l0_1) (hc0_1 : l0_1.length ≤ c0_1) (h : impl_ClockSet.can a0_0 l0_1 a1 a2 a3 = false) :
    Calls Try.prog 31 #[.agg #[.int .i64 a0_0, .slice A0_1 l0_1.length c0_1], .int .i64 a1, .int .i64 a2, .int .i64 a3] w fun e w' => ∃ v1_ : Value, e = .returned (.tuple #[.agg #[.int .i64 0, v1_], .bool false]) ∧ Kd.R k62 62 w' w.heap.size (fun _ => True) v1_ [] ∧ Below w.heap.size w w' := by
  have HR := Aside0.mk hr0_1
  have HC := Aside0.mk hc0_1
  clear hr0_1 hc0_1
  have HB := below_alloc (below_alloc (Below.refl w.heap.size w) (.cells #[.int .i64 a0_0, .slice A0_1 l0_1.length c0_1] 26)) (.cells #[.int .i64 0, .slice none 0 0] 26)
  have X : ((w.alloc (.cells #[.int .i64 a0_0, .slice A0_1 l0_1.length c0_1] 26)).alloc (.cells #[.int .i64 0, .slice none 0 0] 26)).heap[w.heap.size]? = some (.cells #[.int .i64 a0_0, .slice A0_1 l0_1.length c0_1] 26 (0, 0)) := blk_alloc (blk_new w _) _
  have Z : ((w.alloc (.cells #[.int .i64 a0_0, .slice A0_1 l0_1.length c0_1] 26)).alloc (.cells #[.int .i64 0, .slice none 0 0] 26)).heap[w.heap.size + 1]? = some (.cells #[.int .i64 0, .slice none 0 0] 26 (0, 0)) := by have := blk_new (w.alloc (.cells #[.int .i64 a0_0, .slice A0_1 l0_1.length c0_1] 26)) (.cells #[.int .i64 0, .slice none 0 0] 26); simpa using this
  have hokf : impl_ClockOk.f a0_0 l0_1 = some (impl_ClockOk.val a0_0 l0_1) := rfl
  have g1 := impl_ClockOk.in_eq a1 0 99
  have g2 := impl_ClockOk.in_eq a2 1 4095
  have g3 := impl_ClockOk.in_eq a3 0 99
  unfold impl_ClockSet.can at h
  generalize impl_ClockOk.val a0_0 l0_1 = vv at h hokf
  generalize impl_ClockOk.inB a1 0 99 = b1 at h g1
  generalize impl_ClockOk.inB a2 1 4095 = b2 at h g2
  generalize impl_ClockOk.inB a3 0 99 = b3 at h g3
  have D := Aside0.mk hokf
  have E1 := Aside0.mk g1
  have E2 := Aside0.mk g2
  have E3 := Aside0.mk g3
  clear hokf g1 g2 g3
  cases vv with
  | false =>
    clear h
    go_enter Try.func31, Try.ntmps31
    go_wp2_with (first | (go_at_call 21; refine (impl_ClockOk.calls a0_0 A0_1 c0_1 l0_1 _ _ (Kd.C_below HR.out HB) HC.out D.out).mono ?_; rintro e w1 ⟨rfl, hb⟩; replace HB := below_then HB HB.size hb; replace X := (hb.block _ (blk_lt X)).trans X; replace Z := (hb.block _ (blk_lt Z)).trans Z; clear hb; have x0 : w1.cell? ⟨w.heap.size, 0, none⟩ = some (.int .i64 a0_0) := (blk_cell X 0).trans rfl; have x1 : w1.cell? ⟨w.heap.size, 1, none⟩ = some (.slice A0_1 l0_1.length c0_1) := (blk_cell X 1).trans rfl; have z0 : w1.cell? ⟨w.heap.size + 1, 0, none⟩ = some (.int .i64 0) := (blk_cell Z 0).trans rfl; have z1 : w1.cell? ⟨w.heap.size + 1, 1, none⟩ = some (.slice none 0 0) := (blk_cell Z 1).trans rfl; have z2 := blk_frozen Z 0; have z3 := blk_frozen Z 1) | (go_at_call 45; (with_reducible refine (impl_in.calls a1 0 99 _ _ E1.out).mono ?_); rintro e w5 ⟨rfl, hd⟩; have hb := impl_ClockSet.bel hd; replace HB := below_then HB HB.size hb; replace X := (hb.block _ (blk_lt X)).trans X; replace Z := (hb.block _ (blk_lt Z)).trans Z; clear hd hb x0 x1 z0 z1 z2 z3; have x0 : w5.cell? ⟨w.heap.size, 0, none⟩ = some (.int .i64 a0_0) := (blk_cell X 0).trans rfl; have x1 : w5.cell? ⟨w.heap.size, 1, none⟩ = some (.slice A0_1 l0_1.length c0_1) := (blk_cell X 1).trans rfl; have z0 : w5.cell? ⟨w.heap.size + 1, 0, none⟩ = some (.int .i64 0) := (blk_cell Z 0).trans rfl; have z1 : w5.cell? ⟨w.heap.size + 1, 1, none⟩ = some (.slice none 0 0) := (blk_cell Z 1).trans rfl; have z2 := blk_frozen Z 0; have z3 := blk_frozen Z 1) | (go_at_call 45; (with_reducible refine (impl_in.calls a2 1 4095 _ _ E2.out).mono ?_); rintro e w6 ⟨rfl, hd⟩; have hb := impl_ClockSet.bel hd; replace HB := below_then HB HB.size hb; replace X := (hb.block _ (blk_lt X)).trans X; replace Z := (hb.block _ (blk_lt Z)).trans Z; clear hd hb x0 x1 z0 z1 z2 z3; have x0 : w6.cell? ⟨w.heap.size, 0, none⟩ = some (.int .i64 a0_0) := (blk_cell X 0).trans rfl; have x1 : w6.cell? ⟨w.heap.size, 1, none⟩ = some (.slice A0_1 l0_1.length c0_1) := (blk_cell X 1).trans rfl; have z0 : w6.cell? ⟨w.heap.size + 1, 0, none⟩ = some (.int .i64 0) := (blk_cell Z 0).trans rfl; have z1 : w6.cell? ⟨w.heap.size + 1, 1, none⟩ = some (.slice none 0 0) := (blk_cell Z 1).trans rfl; have z2 := blk_frozen Z 0; have z3 := blk_frozen Z 1) | (go_at_call 45; (with_reducible refine (impl_in.calls a3 0 99 _ _ E3.out).mono ?_); rintro e w7 ⟨rfl, hd⟩; have hb := impl_ClockSet.bel hd; replace HB := below_then HB HB.size hb; replace X := (hb.block _ (blk_lt X)).trans X; replace Z := (hb.block _ (blk_lt Z)).trans Z; clear hd hb x0 x1 z0 z1 z2 z3; have x0 : w7.cell? ⟨w.heap.size, 0, none⟩ = some (.int .i64 a0_0) := (blk_cell X 0).trans rfl; have x1 : w7.cell? ⟨w.heap.size, 1, none⟩ = some (.slice A0_1 l0_1.length c0_1) := (blk_cell X 1).trans rfl; have z0 : w7.cell? ⟨w.heap.size + 1, 0, none⟩ = some (.int .i64 0) := (blk_cell Z 0).trans rfl; have z1 : w7.cell? ⟨w.heap.size + 1, 1, none⟩ = some (.slice none 0 0) := (blk_cell Z 1).trans rfl; have z2 := blk_frozen Z 0; have z3 := blk_frozen Z 1))
    refine bodyPost_ret (results_ct rfl _ _ (w.heap.size + 1) 26 #[.int .i64 0, .slice none 0 0] (0, 0) _ rfl (by refine blk_put (cs := #[.int .i64 0, .slice none 0 0]) ?_ 1 _ rfl; refine blk_put (cs := #[.int .i64 0, .slice none 0 0]) ?_ 0 _ rfl; exact Z) Try.underlying26 rfl zk) rfl ?_
    exact ⟨_, rfl, Kd.R_nil _ _ _ _ _, below_set (below_set HB (by omega)) (by omega)⟩
  | true =>
    cases b1 with
    | false =>
      clear h
      go_enter Try.func31, Try.ntmps31
      go_wp2_with (first | (go_at_call 21; refine (impl_ClockOk.calls a0_0 A0_1 c0_1 l0_1 _ _ (Kd.C_below HR.out HB) HC.out D.out).mono ?_; rintro e w1 ⟨rfl, hb⟩; replace HB := below_then HB HB.size hb; replace X := (hb.block _ (blk_lt X)).trans X; replace Z := (hb.block _ (blk_lt Z)).trans Z; clear hb; have x0 : w1.cell? ⟨w.heap.size, 0, none⟩ = some (.int .i64 a0_0) := (blk_cell X 0).trans rfl; have x1 : w1.cell? ⟨w.heap.size, 1, none⟩ = some (.slice A0_1 l0_1.length c0_1) := (blk_cell X 1).trans rfl; have z0 : w1.cell? ⟨w.heap.size + 1, 0, none⟩ = some (.int .i64 0) := (blk_cell Z 0).trans rfl; have z1 : w1.cell? ⟨w.heap.size + 1, 1, none⟩ = some (.slice none 0 0) := (blk_cell Z 1).trans rfl; have z2 := blk_frozen Z 0; have z3 := blk_frozen Z 1) | (go_at_call 45; (with_reducible refine (impl_in.calls a1 0 99 _ _ E1.out).mono ?_); rintro e w5 ⟨rfl, hd⟩; have hb := impl_ClockSet.bel hd; replace HB := below_then HB HB.size hb; replace X := (hb.block _ (blk_lt X)).trans X; replace Z := (hb.block _ (blk_lt Z)).trans Z; clear hd hb x0 x1 z0 z1 z2 z3; have x0 : w5.cell? ⟨w.heap.size, 0, none⟩ = some (.int .i64 a0_0) := (blk_cell X 0).trans rfl; have x1 : w5.cell? ⟨w.heap.size, 1, none⟩ = some (.slice A0_1 l0_1.length c0_1) := (blk_cell X 1).trans rfl; have z0 : w5.cell? ⟨w.heap.size + 1, 0, none⟩ = some (.int .i64 0) := (blk_cell Z 0).trans rfl; have z1 : w5.cell? ⟨w.heap.size + 1, 1, none⟩ = some (.slice none 0 0) := (blk_cell Z 1).trans rfl; have z2 := blk_frozen Z 0; have z3 := blk_frozen Z 1) | (go_at_call 45; (with_reducible refine (impl_in.calls a2 1 4095 _ _ E2.out).mono ?_); rintro e w6 ⟨rfl, hd⟩; have hb := impl_ClockSet.bel hd; replace HB := below_then HB HB.size hb; replace X := (hb.block _ (blk_lt X)).trans X; replace Z := (hb.block _ (blk_lt Z)).trans Z; clear hd hb x0 x1 z0 z1 z2 z3; have x0 : w6.cell? ⟨w.heap.size, 0, none⟩ = some (.int .i64 a0_0) := (blk_cell X 0).trans rfl; have x1 : w6.cell? ⟨w.heap.size, 1, none⟩ = some (.slice A0_1 l0_1.length c0_1) := (blk_cell X 1).trans rfl; have z0 : w6.cell? ⟨w.heap.size + 1, 0, none⟩ = some (.int .i64 0) := (blk_cell Z 0).trans rfl; have z1 : w6.cell? ⟨w.heap.size + 1, 1, none⟩ = some (.slice none 0 0) := (blk_cell Z 1).trans rfl; have z2 := blk_frozen Z 0; have z3 := blk_frozen Z 1) | (go_at_call 45; (with_reducible refine (impl_in.calls a3 0 99 _ _ E3.out).mono ?_); rintro e w7 ⟨rfl, hd⟩; have hb := impl_ClockSet.bel hd; replace HB := below_then HB HB.size hb; replace X := (hb.block _ (blk_lt X)).trans X; replace Z := (hb.block _ (blk_lt Z)).trans Z; clear hd hb x0 x1 z0 z1 z2 z3; have x0 : w7.cell? ⟨w.heap.size, 0, none⟩ = some (.int .i64 a0_0) := (blk_cell X 0).trans rfl; have x1 : w7.cell? ⟨w.heap.size, 1, none⟩ = some (.slice A0_1 l0_1.length c0_1) := (blk_cell X 1).trans rfl; have z0 : w7.cell? ⟨w.heap.size + 1, 0, none⟩ = some (.int .i64 0) := (blk_cell Z 0).trans rfl; have z1 : w7.cell? ⟨w.heap.size + 1, 1, none⟩ = some (.slice none 0 0) := (blk_cell Z 1).trans rfl; have z2 := blk_frozen Z 0; have z3 := blk_frozen Z 1))
      refine bodyPost_ret (results_ct rfl _ _ (w.heap.size + 1) 26 #[.int .i64 0, .slice none 0 0] (0, 0) _ rfl (by refine blk_put (cs := #[.int .i64 0, .slice none 0 0]) ?_ 1 _ rfl; refine blk_put (cs := #[.int .i64 0, .slice none 0 0]) ?_ 0 _ rfl; exact Z) Try.underlying26 rfl zk) rfl ?_
      exact ⟨_, rfl, Kd.R_nil _ _ _ _ _, below_set (below_set HB (by omega)) (by omega)⟩
    | true =>
      cases b2 with
      | false =>
        clear h
        go_enter Try.func31, Try.ntmps31
        go_wp2_with (first | (go_at_call 21; refine (impl_ClockOk.calls a0_0 A0_1 c0_1 l0_1 _ _ (Kd.C_below HR.out HB) HC.out D.out).mono ?_; rintro e w1 ⟨rfl, hb⟩; replace HB := below_then HB HB.size hb; replace X := (hb.block _ (blk_lt X)).trans X; replace Z := (hb.block _ (blk_lt Z)).trans Z; clear hb; have x0 : w1.cell? ⟨w.heap.size, 0, none⟩ = some (.int .i64 a0_0) := (blk_cell X 0).trans rfl; have x1 : w1.cell? ⟨w.heap.size, 1, none⟩ = some (.slice A0_1 l0_1.length c0_1) := (blk_cell X 1).trans rfl; have z0 : w1.cell? ⟨w.heap.size + 1, 0, none⟩ = some (.int .i64 0) := (blk_cell Z 0).trans rfl; have z1 : w1.cell? ⟨w.heap.size + 1, 1, none⟩ = some (.slice none 0 0) := (blk_cell Z 1).trans rfl; have z2 := blk_frozen Z 0; have z3 := blk_frozen Z 1) | (go_at_call 45; (with_reducible refine (impl_in.calls a1 0 99 _ _ E1.out).mono ?_); rintro e w5 ⟨rfl, hd⟩; have hb := impl_ClockSet.bel hd; replace HB := below_then HB HB.size hb; replace X := (hb.block _ (blk_lt X)).trans X; replace Z := (hb.block _ (blk_lt Z)).trans Z; clear hd hb x0 x1 z0 z1 z2 z3; have x0 : w5.cell? ⟨w.heap.size, 0, none⟩ = some (.int .i64 a0_0) := (blk_cell X 0).trans rfl; have x1 : w5.cell? ⟨w.heap.size, 1, none⟩ = some (.slice A0_1 l0_1.length c0_1) := (blk_cell X 1).trans rfl; have z0 : w5.cell? ⟨w.heap.size + 1, 0, none⟩ = some (.int .i64 0) := (blk_cell Z 0).trans rfl; have z1 : w5.cell? ⟨w.heap.size + 1, 1, none⟩ = some (.slice none 0 0) := (blk_cell Z 1).trans rfl; have z2 := blk_frozen Z 0; have z3 := blk_frozen Z 1) | (go_at_call 45; (with_reducible refine (impl_in.calls a2 1 4095 _ _ E2.out).mono ?_); rintro e w6 ⟨rfl, hd⟩; have hb := impl_ClockSet.bel hd; replace HB := below_then HB HB.size hb; replace X := (hb.block _ (blk_lt X)).trans X; replace Z := (hb.block _ (blk_lt Z)).trans Z; clear hd hb x0 x1 z0 z1 z2 z3; have x0 : w6.cell? ⟨w.heap.size, 0, none⟩ = some (.int .i64 a0_0) := (blk_cell X 0).trans rfl; have x1 : w6.cell? ⟨w.heap.size, 1, none⟩ = some (.slice A0_1 l0_1.length c0_1) := (blk_cell X 1).trans rfl; have z0 : w6.cell? ⟨w.heap.size + 1, 0, none⟩ = some (.int .i64 0) := (blk_cell Z 0).trans rfl; have z1 : w6.cell? ⟨w.heap.size + 1, 1, none⟩ = some (.slice none 0 0) := (blk_cell Z 1).trans rfl; have z2 := blk_frozen Z 0; have z3 := blk_frozen Z 1) | (go_at_call 45; (with_reducible refine (impl_in.calls a3 0 99 _ _ E3.out).mono ?_); rintro e w7 ⟨rfl, hd⟩; have hb := impl_ClockSet.bel hd; replace HB := below_then HB HB.size hb; replace X := (hb.block _ (blk_lt X)).trans X; replace Z := (hb.block _ (blk_lt Z)).trans Z; clear hd hb x0 x1 z0 z1 z2 z3; have x0 : w7.cell? ⟨w.heap.size, 0, none⟩ = some (.int .i64 a0_0) := (blk_cell X 0).trans rfl; have x1 : w7.cell? ⟨w.heap.size, 1, none⟩ = some (.slice A0_1 l0_1.length c0_1) := (blk_cell X 1).trans rfl; have z0 : w7.cell? ⟨w.heap.size + 1, 0, none⟩ = some (.int .i64 0) := (blk_cell Z 0).trans rfl; have z1 : w7.cell? ⟨w.heap.size + 1, 1, none⟩ = some (.slice none 0 0) := (blk_cell Z 1).trans rfl; have z2 := blk_frozen Z 0; have z3 := blk_frozen Z 1))
        refine bodyPost_ret (results_ct rfl _ _ (w.heap.size + 1) 26 #[.int .i64 0, .slice none 0 0] (0, 0) _ rfl (by refine blk_put (cs := #[.int .i64 0, .slice none 0 0]) ?_ 1 _ rfl; refine blk_put (cs := #[.int .i64 0, .slice none 0 0]) ?_ 0 _ rfl; exact Z) Try.underlying26 rfl zk) rfl ?_
        exact ⟨_, rfl, Kd.R_nil _ _ _ _ _, below_set (below_set HB (by omega)) (by omega)⟩
      | true =>
        cases b3 with
        | false =>
          clear h
          go_enter Try.func31, Try.ntmps31
          go_wp2_with (first | (go_at_call 21; refine (impl_ClockOk.calls a0_0 A0_1 c0_1 l0_1 _ _ (Kd.C_below HR.out HB) HC.out D.out).mono ?_; rintro e w1 ⟨rfl, hb⟩; replace HB := below_then HB HB.size hb; replace X := (hb.block _ (blk_lt X)).trans X; replace Z := (hb.block _ (blk_lt Z)).trans Z; clear hb; have x0 : w1.cell? ⟨w.heap.size, 0, none⟩ = some (.int .i64 a0_0) := (blk_cell X 0).trans rfl; have x1 : w1.cell? ⟨w.heap.size, 1, none⟩ = some (.slice A0_1 l0_1.length c0_1) := (blk_cell X 1).trans rfl; have z0 : w1.cell? ⟨w.heap.size + 1, 0, none⟩ = some (.int .i64 0) := (blk_cell Z 0).trans rfl; have z1 : w1.cell? ⟨w.heap.size + 1, 1, none⟩ = some (.slice none 0 0) := (blk_cell Z 1).trans rfl; have z2 := blk_frozen Z 0; have z3 := blk_frozen Z 1) | (go_at_call 45; (with_reducible refine (impl_in.calls a1 0 99 _ _ E1.out).mono ?_); rintro e w5 ⟨rfl, hd⟩; have hb := impl_ClockSet.bel hd; replace HB := below_then HB HB.size hb; replace X := (hb.block _ (blk_lt X)).trans X; replace Z := (hb.block _ (blk_lt Z)).trans Z; clear hd hb x0 x1 z0 z1 z2 z3; have x0 : w5.cell? ⟨w.heap.size, 0, none⟩ = some (.int .i64 a0_0) := (blk_cell X 0).trans rfl; have x1 : w5.cell? ⟨w.heap.size, 1, none⟩ = some (.slice A0_1 l0_1.length c0_1) := (blk_cell X 1).trans rfl; have z0 : w5.cell? ⟨w.heap.size + 1, 0, none⟩ = some (.int .i64 0) := (blk_cell Z 0).trans rfl; have z1 : w5.cell? ⟨w.heap.size + 1, 1, none⟩ = some (.slice none 0 0) := (blk_cell Z 1).trans rfl; have z2 := blk_frozen Z 0; have z3 := blk_frozen Z 1) | (go_at_call 45; (with_reducible refine (impl_in.calls a2 1 4095 _ _ E2.out).mono ?_); rintro e w6 ⟨rfl, hd⟩; have hb := impl_ClockSet.bel hd; replace HB := below_then HB HB.size hb; replace X := (hb.block _ (blk_lt X)).trans X; replace Z := (hb.block _ (blk_lt Z)).trans Z; clear hd hb x0 x1 z0 z1 z2 z3; have x0 : w6.cell? ⟨w.heap.size, 0, none⟩ = some (.int .i64 a0_0) := (blk_cell X 0).trans rfl; have x1 : w6.cell? ⟨w.heap.size, 1, none⟩ = some (.slice A0_1 l0_1.length c0_1) := (blk_cell X 1).trans rfl; have z0 : w6.cell? ⟨w.heap.size + 1, 0, none⟩ = some (.int .i64 0) := (blk_cell Z 0).trans rfl; have z1 : w6.cell? ⟨w.heap.size + 1, 1, none⟩ = some (.slice none 0 0) := (blk_cell Z 1).trans rfl; have z2 := blk_frozen Z 0; have z3 := blk_frozen Z 1) | (go_at_call 45; (with_reducible refine (impl_in.calls a3 0 99 _ _ E3.out).mono ?_); rintro e w7 ⟨rfl, hd⟩; have hb := impl_ClockSet.bel hd; replace HB := below_then HB HB.size hb; replace X := (hb.block _ (blk_lt X)).trans X; replace Z := (hb.block _ (blk_lt Z)).trans Z; clear hd hb x0 x1 z0 z1 z2 z3; have x0 : w7.cell? ⟨w.heap.size, 0, none⟩ = some (.int .i64 a0_0) := (blk_cell X 0).trans rfl; have x1 : w7.cell? ⟨w.heap.size, 1, none⟩ = some (.slice A0_1 l0_1.length c0_1) := (blk_cell X 1).trans rfl; have z0 : w7.cell? ⟨w.heap.size + 1, 0, none⟩ = some (.int .i64 0) := (blk_cell Z 0).trans rfl; have z1 : w7.cell? ⟨w.heap.size + 1, 1, none⟩ = some (.slice none 0 0) := (blk_cell Z 1).trans rfl; have z2 := blk_frozen Z 0; have z3 := blk_frozen Z 1))
          refine bodyPost_ret (results_ct rfl _ _ (w.heap.size + 1) 26 #[.int .i64 0, .slice none 0 0] (0, 0) _ rfl (by refine blk_put (cs := #[.int .i64 0, .slice none 0 0]) ?_ 1 _ rfl; refine blk_put (cs := #[.int .i64 0, .slice none 0 0]) ?_ 0 _ rfl; exact Z) Try.underlying26 rfl zk) rfl ?_
          exact ⟨_, rfl, Kd.R_nil _ _ _ _ _, below_set (below_set HB (by omega)) (by omega)⟩
        | true =>
          have hgt : decide (4095 < wrap64 (a0_0 + a2)) = true := by simpa using h
          clear h
          go_enter Try.func31, Try.ntmps31
          go_wp2_with (first | (go_at_call 21; refine (impl_ClockOk.calls a0_0 A0_1 c0_1 l0_1 _ _ (Kd.C_below HR.out HB) HC.out D.out).mono ?_; rintro e w1 ⟨rfl, hb⟩; replace HB := below_then HB HB.size hb; replace X := (hb.block _ (blk_lt X)).trans X; replace Z := (hb.block _ (blk_lt Z)).trans Z; clear hb; have x0 : w1.cell? ⟨w.heap.size, 0, none⟩ = some (.int .i64 a0_0) := (blk_cell X 0).trans rfl; have x1 : w1.cell? ⟨w.heap.size, 1, none⟩ = some (.slice A0_1 l0_1.length c0_1) := (blk_cell X 1).trans rfl; have z0 : w1.cell? ⟨w.heap.size + 1, 0, none⟩ = some (.int .i64 0) := (blk_cell Z 0).trans rfl; have z1 : w1.cell? ⟨w.heap.size + 1, 1, none⟩ = some (.slice none 0 0) := (blk_cell Z 1).trans rfl; have z2 := blk_frozen Z 0; have z3 := blk_frozen Z 1) | (go_at_call 45; (with_reducible refine (impl_in.calls a1 0 99 _ _ E1.out).mono ?_); rintro e w5 ⟨rfl, hd⟩; have hb := impl_ClockSet.bel hd; replace HB := below_then HB HB.size hb; replace X := (hb.block _ (blk_lt X)).trans X; replace Z := (hb.block _ (blk_lt Z)).trans Z; clear hd hb x0 x1 z0 z1 z2 z3; have x0 : w5.cell? ⟨w.heap.size, 0, none⟩ = some (.int .i64 a0_0) := (blk_cell X 0).trans rfl; have x1 : w5.cell? ⟨w.heap.size, 1, none⟩ = some (.slice A0_1 l0_1.length c0_1) := (blk_cell X 1).trans rfl; have z0 : w5.cell? ⟨w.heap.size + 1, 0, none⟩ = some (.int .i64 0) := (blk_cell Z 0).trans rfl; have z1 : w5.cell? ⟨w.heap.size + 1, 1, none⟩ = some (.slice none 0 0) := (blk_cell Z 1).trans rfl; have z2 := blk_frozen Z 0; have z3 := blk_frozen Z 1) | (go_at_call 45; (with_reducible refine (impl_in.calls a2 1 4095 _ _ E2.out).mono ?_); rintro e w6 ⟨rfl, hd⟩; have hb := impl_ClockSet.bel hd; replace HB := below_then HB HB.size hb; replace X := (hb.block _ (blk_lt X)).trans X; replace Z := (hb.block _ (blk_lt Z)).trans Z; clear hd hb x0 x1 z0 z1 z2 z3; have x0 : w6.cell? ⟨w.heap.size, 0, none⟩ = some (.int .i64 a0_0) := (blk_cell X 0).trans rfl; have x1 : w6.cell? ⟨w.heap.size, 1, none⟩ = some (.slice A0_1 l0_1.length c0_1) := (blk_cell X 1).trans rfl; have z0 : w6.cell? ⟨w.heap.size + 1, 0, none⟩ = some (.int .i64 0) := (blk_cell Z 0).trans rfl; have z1 : w6.cell? ⟨w.heap.size + 1, 1, none⟩ = some (.slice none 0 0) := (blk_cell Z 1).trans rfl; have z2 := blk_frozen Z 0; have z3 := blk_frozen Z 1) | (go_at_call 45; (with_reducible refine (impl_in.calls a3 0 99 _ _ E3.out).mono ?_); rintro e w7 ⟨rfl, hd⟩; have hb := impl_ClockSet.bel hd; replace HB := below_then HB HB.size hb; replace X := (hb.block _ (blk_lt X)).trans X; replace Z := (hb.block _ (blk_lt Z)).trans Z; clear hd hb x0 x1 z0 z1 z2 z3; have x0 : w7.cell? ⟨w.heap.size, 0, none⟩ = some (.int .i64 a0_0) := (blk_cell X 0).trans rfl; have x1 : w7.cell? ⟨w.heap.size, 1, none⟩ = some (.slice A0_1 l0_1.length c0_1) := (blk_cell X 1).trans rfl; have z0 : w7.cell? ⟨w.heap.size + 1, 0, none⟩ = some (.int .i64 0) := (blk_cell Z 0).trans rfl; have z1 : w7.cell? ⟨w.heap.size + 1, 1, none⟩ = some (.slice none 0 0) := (blk_cell Z 1).trans rfl; have z2 := blk_frozen Z 0; have z3 := blk_frozen Z 1))
          refine bodyPost_ret (results_ct rfl _ _ (w.heap.size + 1) 26 #[.int .i64 0, .slice none 0 0] (0, 0) _ rfl (by refine blk_put (cs := #[.int .i64 0, .slice none 0 0]) ?_ 1 _ rfl; refine blk_put (cs := #[.int .i64 0, .slice none 0 0]) ?_ 0 _ rfl; exact Z) Try.underlying26 rfl zk) rfl ?_
          exact ⟨_, rfl, Kd.R_nil _ _ _ _ _, below_set (below_set HB (by omega)) (by omega)⟩
set_option maxHeartbeats 8000000 in
set_option maxRecDepth 100000 in
theorem impl_ClockSet.calls (k : Nat) (a0_0 : Int) (A0_1 : Option Addr) (c0_1 : Nat) (l0_1 : List S62) (a1 a2 a3 : Int) (r1 : Int) (r2 : List S62) (r3 : Bool) (w : World) (hr0_1 : Kd.C k62 w A0_1 l0_1.length l0_1) (hc0_1 : l0_1.length ≤ c0_1) (h : impl_ClockSet.f k a0_0 l0_1 a1 a2 a3 = some (r1, r2, r3)) :
    Calls Try.prog 31 #[.agg #[.int .i64 a0_0, .slice A0_1 l0_1.length c0_1], .int .i64 a1, .int .i64 a2, .int .i64 a3] w fun e w' => ∃ v1_ : Value, e = .returned (.tuple #[.agg #[.int .i64 r1, v1_], .bool r3]) ∧ Kd.R k62 62 w' w.heap.size (fun _ => True) v1_ r2 ∧ Below w.heap.size w w' := by
  unfold impl_ClockSet.f at h
  cases hcan : impl_ClockSet.can a0_0 l0_1 a1 a2 a3 with
  | false =>
    rw [hcan, if_neg nf_] at h
    simp only [Option.some.injEq, Prod.mk.injEq] at h
    obtain ⟨rfl, rfl, rfl⟩ := h
    exact impl_ClockSet.cannot a0_0 A0_1 c0_1 l0_1 a1 a2 a3 w hr0_1 hc0_1 hcan
  | true =>
  rw [hcan, if_pos rfl] at h
  have HR := Aside0.mk hr0_1
  have HC := Aside0.mk hc0_1
  clear hr0_1 hc0_1
  have HB := below_alloc (below_alloc (Below.refl w.heap.size w) (.cells #[.int .i64 a0_0, .slice A0_1 l0_1.length c0_1] 26)) (.cells #[.int .i64 0, .slice none 0 0] 26)
  have X : ((w.alloc (.cells #[.int .i64 a0_0, .slice A0_1 l0_1.length c0_1] 26)).alloc (.cells #[.int .i64 0, .slice none 0 0] 26)).heap[w.heap.size]? = some (.cells #[.int .i64 a0_0, .slice A0_1 l0_1.length c0_1] 26 (0, 0)) := blk_alloc (blk_new w _) _
  have Z : ((w.alloc (.cells #[.int .i64 a0_0, .slice A0_1 l0_1.length c0_1] 26)).alloc (.cells #[.int .i64 0, .slice none 0 0] 26)).heap[w.heap.size + 1]? = some (.cells #[.int .i64 0, .slice none 0 0] 26 (0, 0)) := by have := blk_new (w.alloc (.cells #[.int .i64 a0_0, .slice A0_1 l0_1.length c0_1] 26)) (.cells #[.int .i64 0, .slice none 0 0] 26); simpa using this
  unfold impl_ClockSet.can at hcan
  simp only [Bool.and_eq_true, Bool.not_eq_true', decide_eq_false_iff_not] at hcan
  obtain ⟨hv, hb1, hb2, hb3, hgt⟩ := hcan
  have hl12 := impl_ClockSet.len hv
  have hokf : impl_ClockOk.f a0_0 l0_1 = some true := by rw [← hv]; rfl
  have g1 := impl_ClockOk.in_eq a1 0 99
  have g2 := impl_ClockOk.in_eq a2 1 4095
  have g3 := impl_ClockOk.in_eq a3 0 99
  rw [hb1] at g1
  rw [hb2] at g2
  rw [hb3] at g3
  have D := Aside0.mk hokf
  have E1 := Aside0.mk g1
  have E2 := Aside0.mk g2
  have E3 := Aside0.mk g3
  have hcl : slices_Clone_Alarm.f l0_1 = some l0_1 := by unfold slices_Clone_Alarm.f; exact if_pos (by omega)
  have hgtd : decide (4095 < wrap64 (a0_0 + a2)) = false := decide_eq_false (by omega)
  have mixed : Try.prog.follows .mixedOrders = true := by kernel_rfl
  have hlt := impl_ClockSet.idx_lt a1 l0_1 0
  have hdata : impl_Clock_at.f a0_0 l0_1 a1 = some (impl_Clock_at.idx a1 l0_1 0) := rfl
  have F0 := Aside0.mk hdata
  have HH := Aside0.mk h
  clear hokf g1 g2 g3 hv hb1 hb2 hb3 hdata h
  go_enter Try.func31, Try.ntmps31
  go_wp2_with (first | (go_at_call 21; refine (impl_ClockOk.calls a0_0 A0_1 c0_1 l0_1 _ _ (Kd.C_below HR.out HB) HC.out D.out).mono ?_; rintro e w1 ⟨rfl, hb⟩; replace HB := below_then HB HB.size hb; replace X := (hb.block _ (blk_lt X)).trans X; replace Z := (hb.block _ (blk_lt Z)).trans Z; clear hb; have x0 : w1.cell? ⟨w.heap.size, 0, none⟩ = some (.int .i64 a0_0) := (blk_cell X 0).trans rfl; have x1 : w1.cell? ⟨w.heap.size, 1, none⟩ = some (.slice A0_1 l0_1.length c0_1) := (blk_cell X 1).trans rfl; have z0 : w1.cell? ⟨w.heap.size + 1, 0, none⟩ = some (.int .i64 0) := (blk_cell Z 0).trans rfl; have z1 : w1.cell? ⟨w.heap.size + 1, 1, none⟩ = some (.slice none 0 0) := (blk_cell Z 1).trans rfl; have z2 := blk_frozen Z 0; have z3 := blk_frozen Z 1) | (go_at_call 45; (with_reducible refine (impl_in.calls a1 0 99 _ _ E1.out).mono ?_); rintro e w5 ⟨rfl, hd⟩; have hb := impl_ClockSet.bel hd; replace HB := below_then HB HB.size hb; replace X := (hb.block _ (blk_lt X)).trans X; replace Z := (hb.block _ (blk_lt Z)).trans Z; clear hd hb x0 x1 z0 z1 z2 z3; have x0 : w5.cell? ⟨w.heap.size, 0, none⟩ = some (.int .i64 a0_0) := (blk_cell X 0).trans rfl; have x1 : w5.cell? ⟨w.heap.size, 1, none⟩ = some (.slice A0_1 l0_1.length c0_1) := (blk_cell X 1).trans rfl; have z0 : w5.cell? ⟨w.heap.size + 1, 0, none⟩ = some (.int .i64 0) := (blk_cell Z 0).trans rfl; have z1 : w5.cell? ⟨w.heap.size + 1, 1, none⟩ = some (.slice none 0 0) := (blk_cell Z 1).trans rfl; have z2 := blk_frozen Z 0; have z3 := blk_frozen Z 1) | (go_at_call 45; (with_reducible refine (impl_in.calls a2 1 4095 _ _ E2.out).mono ?_); rintro e w6 ⟨rfl, hd⟩; have hb := impl_ClockSet.bel hd; replace HB := below_then HB HB.size hb; replace X := (hb.block _ (blk_lt X)).trans X; replace Z := (hb.block _ (blk_lt Z)).trans Z; clear hd hb x0 x1 z0 z1 z2 z3; have x0 : w6.cell? ⟨w.heap.size, 0, none⟩ = some (.int .i64 a0_0) := (blk_cell X 0).trans rfl; have x1 : w6.cell? ⟨w.heap.size, 1, none⟩ = some (.slice A0_1 l0_1.length c0_1) := (blk_cell X 1).trans rfl; have z0 : w6.cell? ⟨w.heap.size + 1, 0, none⟩ = some (.int .i64 0) := (blk_cell Z 0).trans rfl; have z1 : w6.cell? ⟨w.heap.size + 1, 1, none⟩ = some (.slice none 0 0) := (blk_cell Z 1).trans rfl; have z2 := blk_frozen Z 0; have z3 := blk_frozen Z 1) | (go_at_call 45; (with_reducible refine (impl_in.calls a3 0 99 _ _ E3.out).mono ?_); rintro e w7 ⟨rfl, hd⟩; have hb := impl_ClockSet.bel hd; replace HB := below_then HB HB.size hb; replace X := (hb.block _ (blk_lt X)).trans X; replace Z := (hb.block _ (blk_lt Z)).trans Z; clear hd hb x0 x1 z0 z1 z2 z3; have x0 : w7.cell? ⟨w.heap.size, 0, none⟩ = some (.int .i64 a0_0) := (blk_cell X 0).trans rfl; have x1 : w7.cell? ⟨w.heap.size, 1, none⟩ = some (.slice A0_1 l0_1.length c0_1) := (blk_cell X 1).trans rfl; have z0 : w7.cell? ⟨w.heap.size + 1, 0, none⟩ = some (.int .i64 0) := (blk_cell Z 0).trans rfl; have z1 : w7.cell? ⟨w.heap.size + 1, 1, none⟩ = some (.slice none 0 0) := (blk_cell Z 1).trans rfl; have z2 := blk_frozen Z 0; have z3 := blk_frozen Z 1))
  have HB7 := HB
  have Z7 := Z
  have HBd := below_drew HB
  refine start_ (n := 8) (S := fun w' => w'.cell? ⟨w.heap.size, 0, none⟩ = some (.int .i64 a0_0) ∧ w'.cell? ⟨w.heap.size, 1, none⟩ = some (.slice A0_1 l0_1.length c0_1)) (ds := [7]) (lb 8 0) (by kernel_rfl) rfl rfl ⟨x0, x1⟩ (fun hHeld => ?_)
  refine pure_ (i := 0) (N := some 38) (v := ?_) (a' := ?_) (lb 8 1) rfl rfl (by kernel_rfl) (fun _ _ _ h => h) (Or.inl ⟨by rfl, ?_⟩) ?_ ?_; rotate_left; (intro w'; go_simp; with_reducible rfl); rotate_left; (simp only [Act.put, List.setIfInBounds_toArray, List.set_cons_zero, List.set_cons_succ, i64_w, i32_w]; rfl)
  refine pure_ (i := 2) (N := some 40) (v := ?_) (a' := ?_) (lb 8 5) rfl rfl (by kernel_rfl) (fun _ _ _ h => h) (Or.inl ⟨by rfl, ?_⟩) ?_ ?_; rotate_left; (intro w'; go_simp; with_reducible rfl); rotate_left; (simp only [Act.put, List.setIfInBounds_toArray, List.set_cons_zero, List.set_cons_succ, i64_w, i32_w]; rfl)
  refine take_ (i := 1) (N := some 39) (v := ?_) (a' := ?_) (lb 8 7) rfl rfl (by kernel_rfl) (fun _ _ _ h => h) (Or.inl ⟨by rfl, ?_⟩) hHeld ?_ ?_; rotate_left; (rintro w' ⟨s0, s1⟩; go_simp; with_reducible rfl); rotate_left; (simp only [Act.put, List.setIfInBounds_toArray, List.set_cons_zero, List.set_cons_succ, i64_w, i32_w]; rfl)
  refine take_ (i := 3) (N := some 41) (v := ?_) (a' := ?_) (lb 8 15) rfl rfl (by kernel_rfl) (fun _ _ _ h => h) (Or.inl ⟨by rfl, ?_⟩) hHeld ?_ ?_; rotate_left; (rintro w' ⟨s0, s1⟩; go_simp; with_reducible rfl); rotate_left; (simp only [Act.put, List.setIfInBounds_toArray, List.set_cons_zero, List.set_cons_succ, i64_w, i32_w]; rfl)
  refine join_ (σ := Option Addr × Nat × Nat) 1 (lb 8 127) (fun s => [(42, Value.slice s.1 l0_1.length s.2.1), (43, Value.agg #[.int .i64 a0_0, .slice s.1 l0_1.length s.2.1]), (10, Value.pointer (some ⟨s.2.2, 0, none⟩))]) (fun s w' => w'.cell? ⟨w.heap.size, 0, none⟩ = some (.int .i64 a0_0) ∧ w'.cell? ⟨w.heap.size, 1, none⟩ = some (.slice A0_1 l0_1.length c0_1) ∧ Kd.R k62 62 w' w7.drew.heap.size (fun _ => True) (.slice s.1 l0_1.length s.2.1) l0_1 ∧ w'.heap[s.2.2]? = some (.cells #[.int .i64 0, .slice none 0 0] 26 (0, 0)) ∧ Below w7.drew.heap.size w7.drew w' ∧ w7.drew.heap.size ≤ s.2.2) ?_ ?_
  rotate_left
  · intro hCont
    refine two_ (i := 4) (j := 6) (Ni := some 42) (Nj := some 10) (lb 8 31) (lb 8 79) rfl rfl rfl rfl (by kernel_rfl) (by decide) (by decide) (fun K hK => ?_) (fun K hK => ?_)
    · skip
      refine goes_ Try.func58 (by kernel_rfl) rfl #[.slice A0_1 l0_1.length c0_1] (by rfl) rfl rfl zm ?_
      refine (slices_Clone_Alarm.calls A0_1 c0_1 l0_1 l0_1 _ (Kd.C_below HR.out (HBd)) HC.out hcl).mono ?_
      rintro e w3 ⟨v3, rfl, R3, hb3⟩
      obtain ⟨A3, c3, rfl⟩ := Kd.R_slice R3
      refine ⟨_, rfl, ?_⟩
      refine hK.out _ _ ⟨pw_cell_below hb3 hHeld.1, pw_cell_below hb3 hHeld.2⟩ (fun hHeld => ?_)
      clear hK K
      refine norm_ (a' := ?_) ?_ ?_
      rotate_left
      · show Act.put _ (some 42) _ = _
        simp only [Act.put, List.setIfInBounds_toArray, List.set_cons_zero, List.set_cons_succ, i64_w, i32_w]
        rfl
      refine pure_ (i := 5) (N := some 43) (v := ?_) (a' := ?_) (lb 8 63) rfl rfl (by kernel_rfl) (fun _ _ _ h => h) (Or.inl ⟨by rfl, ?_⟩) ?_ ?_; rotate_left; (intro w'; go_simp; with_reducible rfl); rotate_left; (simp only [Act.put, List.setIfInBounds_toArray, List.set_cons_zero, List.set_cons_succ, i64_w, i32_w]; rfl)
      refine one_ (i := 6) (N := some 10) (lb 8 127) rfl rfl (by kernel_rfl) (by decide) (fun K hK => ?_)
      refine value_ (w1 := ?_) (v := ?_) (by rfl) rfl ?_ ?_
      rotate_left 2
      · go_simp
        constructor
        · rfl
        · rfl
      refine hK.out _ _ ⟨pw_cell_below (below_alloc (Below.refl _ _) _) hHeld.1, pw_cell_below (below_alloc (Below.refl _ _) _) hHeld.2⟩ (fun hHeld => ?_)
      clear hK K
      refine norm_ (a' := ?_) ?_ ?_
      rotate_left
      · show Act.put _ (some 10) _ = _
        simp only [Act.put, List.setIfInBounds_toArray, List.set_cons_zero, List.set_cons_succ, i64_w, i32_w]
        rfl
      exact norm_ (by simp only [putAll, Act.put, List.setIfInBounds_toArray, List.set_cons_zero, List.set_cons_succ]) (hCont (A3, c3, w3.heap.size) _ ⟨hHeld.1, hHeld.2, Kd.R_alloc R3 _, blk_new w3 _, below_alloc hb3 _, hb3.size⟩)
    · skip
      refine value_ (w1 := ?_) (v := ?_) (by rfl) rfl ?_ ?_
      rotate_left 2
      · go_simp
        constructor
        · rfl
        · rfl
      refine hK.out _ _ ⟨pw_cell_below (below_alloc (Below.refl _ _) _) hHeld.1, pw_cell_below (below_alloc (Below.refl _ _) _) hHeld.2⟩ (fun hHeld => ?_)
      clear hK K
      refine norm_ (a' := ?_) ?_ ?_
      rotate_left
      · show Act.put _ (some 10) _ = _
        simp only [Act.put, List.setIfInBounds_toArray, List.set_cons_zero, List.set_cons_succ, i64_w, i32_w]
        rfl
      refine one_ (i := 4) (N := some 42) (lb 8 95) rfl rfl (by kernel_rfl) (by decide) (fun K hK => ?_)
      refine goes_ Try.func58 (by kernel_rfl) rfl #[.slice A0_1 l0_1.length c0_1] (by rfl) rfl rfl zm ?_
      refine (slices_Clone_Alarm.calls A0_1 c0_1 l0_1 l0_1 _ (Kd.C_below HR.out (below_alloc HBd _)) HC.out hcl).mono ?_
      rintro e w3 ⟨v3, rfl, R3, hb3⟩
      obtain ⟨A3, c3, rfl⟩ := Kd.R_slice R3
      refine ⟨_, rfl, ?_⟩
      refine hK.out _ _ ⟨pw_cell_below hb3 hHeld.1, pw_cell_below hb3 hHeld.2⟩ (fun hHeld => ?_)
      clear hK K
      refine norm_ (a' := ?_) ?_ ?_
      rotate_left
      · show Act.put _ (some 42) _ = _
        simp only [Act.put, List.setIfInBounds_toArray, List.set_cons_zero, List.set_cons_succ, i64_w, i32_w]
        rfl
      refine pure_ (i := 5) (N := some 43) (v := ?_) (a' := ?_) (lb 8 127) rfl rfl (by kernel_rfl) (fun _ _ _ h => h) (Or.inl ⟨by rfl, ?_⟩) ?_ ?_; rotate_left; (intro w'; go_simp; with_reducible rfl); rotate_left; (simp only [Act.put, List.setIfInBounds_toArray, List.set_cons_zero, List.set_cons_succ, i64_w, i32_w]; rfl)
      exact norm_ (by simp only [putAll, Act.put, List.setIfInBounds_toArray, List.set_cons_zero, List.set_cons_succ]) (hCont (A3, c3, w7.heap.size) _ ⟨hHeld.1, hHeld.2, Kd.R_lower R3 (by simp), (hb3.block _ (by simp)).trans (blk_new w7.drew _), below_then (below_alloc (Below.refl _ _) _) (by simp) hb3, Nat.le_refl _⟩)
  rintro ⟨A3, c3, db⟩ w3 ⟨kc0, kc1, R3, Y3, hb3, hdb⟩
  simp only at R3 Y3 hdb
  have hHeld : w3.cell? ⟨w.heap.size, 0, none⟩ = some (.int .i64 a0_0) ∧ w3.cell? ⟨w.heap.size, 1, none⟩ = some (.slice A0_1 l0_1.length c0_1) := ⟨kc0, kc1⟩
  refine norm_ (a' := ?_) ?_ ?_
  rotate_left
  · simp only [putAll, Act.put, List.setIfInBounds_toArray, List.set_cons_zero, List.set_cons_succ]
    rfl
  refine last_ (i := 7) (N := none) (lb 8 255) rfl rfl (by kernel_rfl) (by decide) (fun K hK => ?_)
  have y30 : w3.cell? ⟨db, 0, none⟩ = some (.int .i64 0) := (blk_cell Y3 0).trans rfl
  have y31 : w3.cell? ⟨db, 1, none⟩ = some (.slice none 0 0) := (blk_cell Y3 1).trans rfl
  have y32 := blk_frozen Y3 0
  have y33 := blk_frozen Y3 1
  refine skip_ (w1 := ?_) (by rfl) rfl ?_ ?_
  rotate_left
  · go_simp
    rfl
  refine hK.out _ _ ?_
  clear hK K
  refine done_ (by kernel_rfl) ?_
  have Y4 : ((w3.setCell ⟨db, 0, none⟩ (.int .i64 a0_0)).setCell ⟨db, 1, none⟩ (.slice A3 l0_1.length c3)).heap[db]? = some (.cells #[.int .i64 a0_0, .slice A3 l0_1.length c3] 26 (0, 0)) := by
    refine blk_put (cs := #[.int .i64 a0_0, .slice none 0 0]) ?_ 1 _ rfl
    refine blk_put (cs := #[.int .i64 0, .slice none 0 0]) ?_ 0 _ rfl
    exact Y3
  have hwd : w7.drew.heap.size = w7.heap.size := rfl
  have hX7 := blk_lt X
  have hZ7 := blk_lt Z
  have hne1 : w.heap.size ≠ db := by omega
  have hne2 : w.heap.size + 1 ≠ db := by omega
  have hf : ∀ q, q ≠ db → ((w3.setCell ⟨db, 0, none⟩ (.int .i64 a0_0)).setCell ⟨db, 1, none⟩ (.slice A3 l0_1.length c3)).heap[q]? = w3.heap[q]? := fun q hq => (Below.heap_setCell _ ⟨db, 1, none⟩ _ q hq).trans (Below.heap_setCell _ ⟨db, 0, none⟩ _ q hq)
  have X4 := (hf _ hne1).trans ((hb3.block _ hX7).trans X)
  have Z4 := (hf _ hne2).trans ((hb3.block _ hZ7).trans Z)
  have HB4 : Below w.heap.size w ((w3.setCell ⟨db, 0, none⟩ (.int .i64 a0_0)).setCell ⟨db, 1, none⟩ (.slice A3 l0_1.length c3)) := below_set (below_set (below_then HBd HBd.size hb3) (by have := HB.size; omega)) (by have := HB.size; omega)
  have R4 : Kd.R k62 62 ((w3.setCell ⟨db, 0, none⟩ (.int .i64 a0_0)).setCell ⟨db, 1, none⟩ (.slice A3 l0_1.length c3)) w7.drew.heap.size (fun _ => True) (.slice A3 l0_1.length c3) l0_1 :=
    Kd.R_mono (Kd.R_far (p := ⟨db, 1, none⟩) (Kd.R_far (p := ⟨db, 0, none⟩) (Kd.R_types R3 Y3 (by decide)) (fun _ hk => hk.2) _) (fun _ hk => hk.2) _) (fun _ _ => trivial)
  have hge4 : w7.drew.heap.size ≤ ((w3.setCell ⟨db, 0, none⟩ (.int .i64 a0_0)).setCell ⟨db, 1, none⟩ (.slice A3 l0_1.length c3)).heap.size := by have := hb3.size; simp only [World.setCell, Array.size_modify]; exact this
  generalize (w3.setCell ⟨db, 0, none⟩ (.int .i64 a0_0)).setCell ⟨db, 1, none⟩ (.slice A3 l0_1.length c3) = w4 at X4 Y4 Z4 HB4 R4 hge4 ⊢
  clear X Z HB HBd x0 x1 z0 z1 z2 z3 R3 Y3 hb3 hHeld kc0 kc1 hf y30 y31 y32 y33
  have y40 : w4.cell? ⟨db, 0, none⟩ = some (.int .i64 a0_0) := (blk_cell Y4 0).trans rfl
  have y41 : w4.cell? ⟨db, 1, none⟩ = some (.slice A3 l0_1.length c3) := (blk_cell Y4 1).trans rfl
  have h := HH.out
  clear HH
  have HH := trivial
  by_cases h0 : 0 ≤ impl_Clock_at.idx a1 l0_1 0
  · obtain ⟨l1, hl1e⟩ : ∃ l1, impl_ClockSet.less l0_1 a1 = l1 := ⟨_, rfl⟩
    rw [hl1e] at h
    obtain ⟨kn, hkn0⟩ : ∃ kn : Nat, impl_Clock_at.idx a1 l0_1 0 = (kn : Int) := ⟨(impl_Clock_at.idx a1 l0_1 0).toNat, by omega⟩
    have F1 := F0.out
    rw [hkn0] at F1 hlt h0
    have hkn : kn < l0_1.length := by omega
    have hl1v : l0_1.take kn ++ l0_1.drop (kn + 1) = l1 := by
      rw [← hl1e]
      unfold impl_ClockSet.less
      rw [hkn0, if_pos h0, Int.toNat_natCast]
    have hwr : wrap64 ((kn : Int) + 1) = (kn : Int) + 1 := by unfold wrap64; omega
    have h0b : decide (0 ≤ (kn : Int)) = true := decide_eq_true h0
    have hlen1 : l1.length ≤ 12 := by rw [← hl1v, List.length_append, List.length_take, List.length_drop]; omega
    clear F0 hl1e hkn0 hlt h0
    go_upto_region 7 with (first
      | (go_at_call 56; refine (impl_Clock_at.calls a0_0 A3 c3 l0_1 a1 _ _ (Kd.R_reads' R4).2.2 (Kd.R_reads' R4).2.1 F1).mono ?_; rintro e w5 ⟨rfl, hb5⟩; have X5 := (hb5.block _ (blk_lt X4)).trans X4; have Z5 := (hb5.block _ (blk_lt Z4)).trans Z4; have Y5 := (hb5.block _ (blk_lt Y4)).trans Y4; have HB5 := below_then HB4 HB4.size hb5; have R5 := Kd.R_below R4 hb5; have hge5 := Nat.le_trans hge4 hb5.size; have y50 : w5.cell? ⟨db, 0, none⟩ = some (.int .i64 a0_0) := (blk_cell Y5 0).trans rfl; have y51 : w5.cell? ⟨db, 1, none⟩ = some (.slice A3 l0_1.length c3) := (blk_cell Y5 1).trans rfl)
      | (go_at_call 57; (try rw [hwr]); refine (slices_Delete_Alarm.own _ _ _ _ l0_1 kn R5 hkn).mono ?_; rintro e w6 ⟨v6, rfl, R6, G6, B6⟩; have X6 := (G6.block _ (blk_lt X5) (fun e => by have := Kd.R_base R5 _ e.symm; omega)).trans X5; have Z6 := (G6.block _ (blk_lt Z5) (fun e => by have := Kd.R_base R5 _ e.symm; omega)).trans Z5; have Y6 := (G6.block _ (blk_lt Y5) (fun e => Kd.R_ne R5 Y5 (by decide) e)).trans Y5; have HB6 := pw_below_grown HB5 _ HB5.size G6 (fun q hq => by have := Kd.R_base R5 q hq; have := HB7.size; omega); have hge6 := Nat.le_trans hge5 G6.size; rw [hl1v] at R6; obtain ⟨A6, c6, rfl⟩ := Kd.R_slice R6; have y60 : w6.cell? ⟨db, 0, none⟩ = some (.int .i64 a0_0) := (blk_cell Y6 0).trans rfl; have y61 : w6.cell? ⟨db, 1, none⟩ = some (.slice A3 l0_1.length c3) := (blk_cell Y6 1).trans rfl; have y62 := blk_frozen Y6 1))
    have Y : (w6.setCell ⟨db, 1, none⟩ (.slice A6 l1.length c6)).heap[db]? = some (.cells #[.int .i64 a0_0, .slice A6 l1.length c6] 26 (0, 0)) := blk_put Y6 1 _ rfl
    have X := (Below.heap_setCell w6 ⟨db, 1, none⟩ (.slice A6 l1.length c6) _ hne1).trans X6
    have Z := (Below.heap_setCell w6 ⟨db, 1, none⟩ (.slice A6 l1.length c6) _ hne2).trans Z6
    have HB := below_set (j := 1) (v := .slice A6 l1.length c6) HB6 (show w.heap.size ≤ db by have := HB7.size; omega)
    have R := Kd.R_mono (Kd.R_far (p := ⟨db, 1, none⟩) (Kd.R_types R6 Y6 (by decide)) (fun _ hk => hk.2) (.slice A6 l1.length c6)) (fun _ hk => hk.1)
    have hge : w7.drew.heap.size ≤ (w6.setCell ⟨db, 1, none⟩ (.slice A6 l1.length c6)).heap.size := by simp only [World.setCell, Array.size_modify]; exact hge6
    generalize w6.setCell ⟨db, 1, none⟩ (.slice A6 l1.length c6) = wt at Y X Z HB R hge ⊢
    clear X4 X5 X6 Y4 Y5 Y6 Z4 Z5 Z6 HB4 HB5 HB6 R4 R5 R6 hge4 hge5 hge6 y40 y41 y50 y51 y60 y61 y62
    have x0 : wt.cell? ⟨w.heap.size, 0, none⟩ = some (.int .i64 a0_0) := (blk_cell X 0).trans rfl
    have y0 : wt.cell? ⟨db, 0, none⟩ = some (.int .i64 a0_0) := (blk_cell Y 0).trans rfl
    have y1 : wt.cell? ⟨db, 1, none⟩ = some (.slice A6 l1.length c6) := (blk_cell Y 1).trans rfl
    have z0 : wt.cell? ⟨w.heap.size + 1, 0, none⟩ = some (.int .i64 0) := (blk_cell Z 0).trans rfl
    have z1 : wt.cell? ⟨w.heap.size + 1, 1, none⟩ = some (.slice none 0 0) := (blk_cell Z 1).trans rfl
    have z2 := blk_frozen Z 0
    have z3 := blk_frozen Z 1
    by_cases h12 : (l1.length : Int) = 12
    · rw [if_pos h12] at h
      simp only [Option.some.injEq, Prod.mk.injEq] at h
      obtain ⟨rfl, rfl, rfl⟩ := h
      have h12b : ((l1.length : Int) == 12) = true := beq_iff_eq.mpr h12
      have h12c : (l1.length : Int) = 12 := h12
      clear HH
      go_wp2
      refine bodyPost_ret (results_ct rfl _ _ (w.heap.size + 1) 26 #[.int .i64 0, .slice none 0 0] (0, 0) _ rfl (by refine blk_put (cs := #[.int .i64 0, .slice none 0 0]) ?_ 1 _ rfl; refine blk_put (cs := #[.int .i64 0, .slice none 0 0]) ?_ 0 _ rfl; exact Z) Try.underlying26 rfl zk) rfl ?_
      exact ⟨_, rfl, Kd.R_nil _ _ _ _ _, below_set (below_set HB (by omega)) (by omega)⟩
    · rw [if_neg h12] at h
      obtain ⟨⟨i, b⟩, hs, h⟩ := Option.bind_eq_some_iff.1 h
      simp only at h
      by_cases hi : 0 ≤ i ∧ i ≤ l1.length
      · rw [if_pos hi] at h
        simp only [Option.some.injEq, Prod.mk.injEq] at h
        obtain ⟨rfl, rfl, rfl⟩ := h
        obtain ⟨j, rfl⟩ : ∃ j : Nat, i = (j : Int) := ⟨i.toNat, by omega⟩
        obtain ⟨_, inner, ho6, hr6⟩ := R
        rw [show k62.sz = 3 from rfl] at ho6 hr6
        have h12b : ((l1.length : Int) == 12) = false := beq_eq_false_iff_ne.mpr h12
        have hdlt := blk_lt Y
        have hzne : w.heap.size + 1 ≠ db := by omega
        have hrow : ∀ q, (Value.slice A6 l1.length c6).ownBlock = some q → w7.drew.heap.size ≤ q := fun q hq => own_base ho6 q hq
        have hl1 : l1.length ≤ 1000000 := by omega
        have hjl : j ≤ l1.length := by omega
        have ha : wrap64 (a0_0 + a2) ≤ 4095 := by omega
        clear HH hi
        go_wp2_with (go_at_call 59; refine (impl_Clock_put.calls k db w7.drew.heap.size a0_0 A6 c6 l1 inner a1 (wrap64 (a0_0 + a2)) a3 j b _ Y (q_of_own ho6) (fun W B okk => impl_Clock_put.kM hr6) hge ha hs hjl hl1).mono ?_; rintro e w8 ⟨rfl, v8, inner8, Y8, q8, r8, m8, o8, own8⟩; obtain ⟨A8, c8, rfl, _⟩ := q_slice q8; have y80 := (blk_cell Y8 0).trans rfl; have y81 := (blk_cell Y8 1).trans rfl; have Z8 := (m8.block _ (blk_lt Z) hzne (fun e => by have := hrow _ e.symm; have := blk_lt Z7; omega)).trans Z; have HB8 := m8.below HB HB.size (by omega) (fun q hq => by have := hrow q hq; have := HB7.size; omega); have z80 := (blk_cell Z8 0).trans rfl; have z81 := (blk_cell Z8 1).trans rfl; have z82 := blk_frozen Z8 0; have z83 := blk_frozen Z8 1)
        refine bodyPost_ret (results_ct rfl _ _ (w.heap.size + 1) 26 #[.int .i64 a0_0, .slice A8 (l1.length + 1) c8] (0, 0) _ rfl (by refine blk_put (cs := #[.int .i64 a0_0, .slice none 0 0]) ?_ 1 _ rfl; refine blk_put (cs := #[.int .i64 0, .slice none 0 0]) ?_ 0 _ rfl; exact Z8) Try.underlying26 rfl zk) rfl ?_
        have hln : (l1.take j ++ [(⟨a1, wrap64 (a0_0 + a2), a3⟩ : S62)] ++ l1.drop j).length = l1.length + 1 := by simp; omega
        have RF : Kd.R k62 62 w8 w7.drew.heap.size (fun _ => True) (.slice A8 (l1.length + 1) c8) (l1.take j ++ [⟨a1, wrap64 (a0_0 + a2), a3⟩] ++ l1.drop j) := ⟨fun _ _ => trivial, inner8, by rw [hln]; exact own8 ho6, r8 _ _ _⟩
        refine ⟨_, rfl, ?_, below_set (below_set HB8 (by omega)) (by omega)⟩
        exact Kd.R_mono (Kd.R_far (p := ⟨w.heap.size + 1, 1, none⟩) (Kd.R_far (p := ⟨w.heap.size + 1, 0, none⟩) (Kd.R_types (Kd.R_lower RF (by have := HB7.size; exact this)) Z8 (by decide)) (fun _ hk => hk.2) _) (fun _ hk => hk.2) _) (fun _ _ => trivial)
      · rw [if_neg hi] at h
        cases h
  · have hl1e : impl_ClockSet.less l0_1 a1 = l0_1 := by unfold impl_ClockSet.less; rw [if_neg h0]
    rw [hl1e] at h
    have h0b : decide (0 ≤ impl_Clock_at.idx a1 l0_1 0) = false := decide_eq_false h0
    have hlen1 : l0_1.length ≤ 12 := hl12
    generalize impl_Clock_at.idx a1 l0_1 0 = kk at F0 h0b hlt h0
    clear hlt h0 hl1e
    go_upto_region 7 with (go_at_call 56; refine (impl_Clock_at.calls a0_0 A3 c3 l0_1 a1 _ _ (Kd.R_reads' R4).2.2 (Kd.R_reads' R4).2.1 F0.out).mono ?_; rintro e wt ⟨rfl, hb5⟩; have X := (hb5.block _ (blk_lt X4)).trans X4; have Z := (hb5.block _ (blk_lt Z4)).trans Z4; have Y := (hb5.block _ (blk_lt Y4)).trans Y4; have HB := below_then HB4 HB4.size hb5; have R := Kd.R_below R4 hb5; have hge := Nat.le_trans hge4 hb5.size)
    clear X4 Y4 Z4 HB4 R4 hge4 y40 y41 hb5
    have x0 : wt.cell? ⟨w.heap.size, 0, none⟩ = some (.int .i64 a0_0) := (blk_cell X 0).trans rfl
    have y0 : wt.cell? ⟨db, 0, none⟩ = some (.int .i64 a0_0) := (blk_cell Y 0).trans rfl
    have y1 : wt.cell? ⟨db, 1, none⟩ = some (.slice A3 l0_1.length c3) := (blk_cell Y 1).trans rfl
    have z0 : wt.cell? ⟨w.heap.size + 1, 0, none⟩ = some (.int .i64 0) := (blk_cell Z 0).trans rfl
    have z1 : wt.cell? ⟨w.heap.size + 1, 1, none⟩ = some (.slice none 0 0) := (blk_cell Z 1).trans rfl
    have z2 := blk_frozen Z 0
    have z3 := blk_frozen Z 1
    by_cases h12 : (l0_1.length : Int) = 12
    · rw [if_pos h12] at h
      simp only [Option.some.injEq, Prod.mk.injEq] at h
      obtain ⟨rfl, rfl, rfl⟩ := h
      have h12b : ((l0_1.length : Int) == 12) = true := beq_iff_eq.mpr h12
      have h12c : (l0_1.length : Int) = 12 := h12
      clear HH
      go_wp2
      refine bodyPost_ret (results_ct rfl _ _ (w.heap.size + 1) 26 #[.int .i64 0, .slice none 0 0] (0, 0) _ rfl (by refine blk_put (cs := #[.int .i64 0, .slice none 0 0]) ?_ 1 _ rfl; refine blk_put (cs := #[.int .i64 0, .slice none 0 0]) ?_ 0 _ rfl; exact Z) Try.underlying26 rfl zk) rfl ?_
      exact ⟨_, rfl, Kd.R_nil _ _ _ _ _, below_set (below_set HB (by omega)) (by omega)⟩
    · rw [if_neg h12] at h
      obtain ⟨⟨i, b⟩, hs, h⟩ := Option.bind_eq_some_iff.1 h
      simp only at h
      by_cases hi : 0 ≤ i ∧ i ≤ l0_1.length
      · rw [if_pos hi] at h
        simp only [Option.some.injEq, Prod.mk.injEq] at h
        obtain ⟨rfl, rfl, rfl⟩ := h
        obtain ⟨j, rfl⟩ : ∃ j : Nat, i = (j : Int) := ⟨i.toNat, by omega⟩
        obtain ⟨_, inner, ho6, hr6⟩ := R
        rw [show k62.sz = 3 from rfl] at ho6 hr6
        have h12b : ((l0_1.length : Int) == 12) = false := beq_eq_false_iff_ne.mpr h12
        have hdlt := blk_lt Y
        have hzne : w.heap.size + 1 ≠ db := by omega
        have hrow : ∀ q, (Value.slice A3 l0_1.length c3).ownBlock = some q → w7.drew.heap.size ≤ q := fun q hq => own_base ho6 q hq
        have hl1 : l0_1.length ≤ 1000000 := by omega
        have hjl : j ≤ l0_1.length := by omega
        have ha : wrap64 (a0_0 + a2) ≤ 4095 := by omega
        clear HH hi
        go_wp2_with (go_at_call 59; refine (impl_Clock_put.calls k db w7.drew.heap.size a0_0 A3 c3 l0_1 inner a1 (wrap64 (a0_0 + a2)) a3 j b _ Y (q_of_own ho6) (fun W B okk => impl_Clock_put.kM hr6) hge ha hs hjl hl1).mono ?_; rintro e w8 ⟨rfl, v8, inner8, Y8, q8, r8, m8, o8, own8⟩; obtain ⟨A8, c8, rfl, _⟩ := q_slice q8; have y80 := (blk_cell Y8 0).trans rfl; have y81 := (blk_cell Y8 1).trans rfl; have Z8 := (m8.block _ (blk_lt Z) hzne (fun e => by have := hrow _ e.symm; have := blk_lt Z7; omega)).trans Z; have HB8 := m8.below HB HB.size (by omega) (fun q hq => by have := hrow q hq; have := HB7.size; omega); have z80 := (blk_cell Z8 0).trans rfl; have z81 := (blk_cell Z8 1).trans rfl; have z82 := blk_frozen Z8 0; have z83 := blk_frozen Z8 1)
        refine bodyPost_ret (results_ct rfl _ _ (w.heap.size + 1) 26 #[.int .i64 a0_0, .slice A8 (l0_1.length + 1) c8] (0, 0) _ rfl (by refine blk_put (cs := #[.int .i64 a0_0, .slice none 0 0]) ?_ 1 _ rfl; refine blk_put (cs := #[.int .i64 0, .slice none 0 0]) ?_ 0 _ rfl; exact Z8) Try.underlying26 rfl zk) rfl ?_
        have hln : (l0_1.take j ++ [(⟨a1, wrap64 (a0_0 + a2), a3⟩ : S62)] ++ l0_1.drop j).length = l0_1.length + 1 := by simp; omega
        have RF : Kd.R k62 62 w8 w7.drew.heap.size (fun _ => True) (.slice A8 (l0_1.length + 1) c8) (l0_1.take j ++ [⟨a1, wrap64 (a0_0 + a2), a3⟩] ++ l0_1.drop j) := ⟨fun _ _ => trivial, inner8, by rw [hln]; exact own8 ho6, r8 _ _ _⟩
        refine ⟨_, rfl, ?_, below_set (below_set HB8 (by omega)) (by omega)⟩
        exact Kd.R_mono (Kd.R_far (p := ⟨w.heap.size + 1, 1, none⟩) (Kd.R_far (p := ⟨w.heap.size + 1, 0, none⟩) (Kd.R_types (Kd.R_lower RF (by have := HB7.size; exact this)) Z8 (by decide)) (fun _ hk => hk.2) _) (fun _ hk => hk.2) _) (fun _ _ => trivial)
      · rw [if_neg hi] at h
        cases h


end Go.Proofs.Ytlejcgnfpcngbaa.P
