-- printed by this session's own driver (wip/qd.py) out of the translation; Lean checks it
import Derived.Test.YtlejcgnfpcngbaaPf0
import Derived.WalkSpells
namespace Go.Proofs.Ytlejcgnfpcngbaa.P
open Go.RowKit Go.Proofs.YtlejcgnfpcngbaaW.PrintWords Go.Proofs.YtlejcgnfpcngbaaW.PrintLast Go.Proofs.YtlejcgnfpcngbaaW.PrintMore
attribute [local go_sem] max2_int min2_int max_two min_two max_three min_three max_four min_four Q.cell_set_map   -- for this text's walks alone
set_option linter.unusedVariables false
set_option linter.unusedSimpArgs false

/-! ### slices_Clone_Alarm: function 58 -/
-- IMPORT Derived.WalkSpells
def slices_Clone_Alarm.f (l0 : List (S62)) : Option (List (S62)) := if l0.length < 5864062014805 then (some l0) else none
set_option maxHeartbeats 4000000 in
set_option maxRecDepth 100000 in
theorem slices_Clone_Alarm.calls (A0 : Option Addr) (c0 : Nat) (l0 : List (S62)) (r : List (S62)) (w : World) (hr0 : Kd.C k62 w A0 l0.length l0) (hc0 : l0.length ≤ c0) (h : slices_Clone_Alarm.f l0 = some r) :
    Calls Try.prog 58 #[.slice A0 l0.length c0] w fun e w' => ∃ v0_ : Value, e = .returned (v0_) ∧ Kd.R k62 62 w' w.heap.size (fun _ => True) v0_ r ∧ Below w.heap.size w w' := by
  have hu := Try.underlying62
  have HB := Aside0.mk (Below.refl w.heap.size w)
  have H : (if l0.length < 5864062014805 then (some l0) else none) = some r := h
  clear h
  by_cases c1 : l0.length < 5864062014805
  · rw [if_pos c1] at H
    have LM := Aside0.mk c1
    clear c1
    obtain rfl := Option.some.inj H
    clear H
    have HR := Aside0.mk hr0
    have HC := Aside0.mk hc0
    clear hr0 hc0
    cases A0 with
    | none =>
      have hl : l0 = [] := by
        rcases Nat.eq_zero_or_pos l0.length with h0 | h0
        · exact List.eq_nil_of_length_eq_zero h0
        · obtain ⟨ad, e, _⟩ := HR.out.2.2 h0
          cases e
      subst hl
      have heq := fun W : World => Lib.run_eql_slice_nil (P := Try.prog) W 24 62 none ([] : List (S62)).length c0 0 0 Try.underlying24
      have heq0 := fun W : World => Lib.run_eql_slice_nil (P := Try.prog) W 24 62 none 0 c0 0 0 Try.underlying24
      go_enter Try.func58, Try.ntmps58
      go_wp2
      go_ret
      exact ⟨_, rfl, Kd.R_nil _ _ _ _ _, HB.out⟩
    | some ad =>
      have heq := fun W : World => Lib.run_eql_slice_nil (P := Try.prog) W 24 62 (some ad) l0.length c0 0 0 Try.underlying24
      go_enter Try.func58, Try.ntmps58
      go_wp2_with (first | ((with_reducible refine gate_dst (N := 5) rfl ?_); refine Kd.R_lit k62 _ 62 ?hg (N := 5) ?hd (xs := ([] : List (S62))) (inner := []) (ok := fun _ => True) (okp := fun _ => True) ?hr ?hp (fun _ hk => hk) trivial (Below.refl _ _) (Nat.le_refl _) (by simp) ?_; (case hd => rfl); (case hg => rfl); (case hr => first | (go_simp; done) | (go_simp; rfl)); (case hp => exact (Reps.none _ _)); intro v104 w12 ho13 hb hg_ hnew_; clear hg_ hnew_; have n0_ := Aside0.mk ho13; have n1_ := Aside0.mk (below_step (by exact HB.out) hb); have n2_ := Aside0.mk (Kd.C_below HR.out hb); clear HB HR hb ho13; have HB := n1_; have HO := n0_; have HR := n2_; clear n0_ n1_ n2_) | ((with_reducible refine gate_builtin (b := .append) (xs := #[.tmp 5, .tmp 6]) rfl ?_); at_builtin; refine Kd.R_append_rows k62 (w0 := w) w.heap.size rfl (.tmp 5) (.tmp 6) 24 62 (.agg #[(.int .i64 0), (.int .i64 0), (.int .i64 0)]) 24 rfl Try.underlying24 info62 rfl (by decide) (by omega) v104 ([] : List (S62)) l0 _ _ _ (fun _ => True) (fun _ => False) rfl rfl ?aO ?aR (fun _ _ h => h) (fun _ h => h.elim) (fun _ _ => trivial) ?aB ?aS ?aL ?_; (case aR => exact HR.out); (case aB => exact HB.out); (case aO => exact Kd.R_mono HO.out (fun _ hk => hk)); (case aS => exact below_size HB.out); (case aL => have := LM.out; simp only [List.length_nil]; omega); intro v112 w22 ho hb hg hat; have n0_ := Aside0.mk ho; have n1_ := Aside0.mk hb; clear ho hb hg hat HB HO; have HO := n0_; have HB := n1_; clear n0_ n1_))
      go_ret
      exact ⟨_, rfl, HO.out, HB.out⟩
  · rw [if_neg c1] at H
    cases H

end Go.Proofs.Ytlejcgnfpcngbaa.P
