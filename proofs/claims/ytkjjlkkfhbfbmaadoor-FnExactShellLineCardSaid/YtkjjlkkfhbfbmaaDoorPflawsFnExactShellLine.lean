-- printed by wip/qd.py
import Derived.Test.YtkjjlkkfhbfbmaaDoorPf0
import Derived.Test.YtkjjlkkfhbfbmaaDoorPfspecShellLine
import Derived.Test.YtkjjlkkfhbfbmaaDoorPfimplShellLine
import Derived.Test.YtkjjlkkfhbfbmaaDoorPflawseqCall
import Derived.Test.YtkjjlkkfhbfbmaaDoorQWords
import Derived.Test.YtkjjlkkfhbfbmaaDoorQSem9
namespace Go.Proofs.YtkjjlkkfhbfbmaaDoor.P
open Go.RowKit Go.Proofs.YtkjjlkkfhbfbmaaDoorW.PrintWords Go.Proofs.YtkjjlkkfhbfbmaaDoorW.PrintLast Go.Proofs.YtkjjlkkfhbfbmaaDoorW.PrintMore
attribute [local go_sem] max2_int min2_int max_two min_two max_three min_three max_four min_four Q.cell_set_map Q.str_gtr Q.str_geq Q.str_leq
set_option linter.unusedVariables false
set_option linter.unusedSimpArgs false

/-! ### laws_FnExactShellLine: function 3 -/
-- IMPORT Derived.Test.YtkjjlkkfhbfbmaaDoorQWords
-- IMPORT Derived.Test.YtkjjlkkfhbfbmaaDoorQSem9
def laws_FnExactShellLine.f (k : Nat) (a0 : ByteArray) : Option Bool :=
  if a0.size ≤ 1048576 then (spec_ShellLine.f k a0).bind fun t => (impl_ShellLine.f k a0).bind fun u =>
    if u.1 = t.1 ∧ u.2.1.f0 = t.2.1 ∧ u.2.1.f1 = t.2.2.1 ∧ u.2.1.f2 = t.2.2.2.1 ∧ u.2.1.f3 = t.2.2.2.2.1 ∧ u.2.1.f4 = t.2.2.2.2.2.1 ∧ u.2.1.f5 = t.2.2.2.2.2.2.1 ∧ u.2.2 = t.2.2.2.2.2.2.2 then some true else none
  else some true
set_option maxHeartbeats 8000000 in
set_option maxRecDepth 100000 in
theorem laws_FnExactShellLine.calls (k : Nat) (a0 : ByteArray) (r : Bool) (w : World) (hT : Q.Tabs w) (h : laws_FnExactShellLine.f k a0 = some r) :
    Calls Tryd.prog 3 #[.string a0] w fun e w' => e = .returned (.bool r) ∧ Below w.heap.size w w' := by
  unfold laws_FnExactShellLine.f at h
  have HT := Aside0.mk hT
  have HB := Aside0.mk (Below.refl w.heap.size w)
  clear hT
  by_cases c1 : a0.size ≤ 1048576
  rotate_left
  · rw [if_neg c1] at h
    obtain rfl := Option.some.inj h
    have c1a : ((a0.size : Int) > 1048576) := by omega
    go_enter Tryd.func3, Tryd.ntmps3
    go_wp2
    go_ret
    exact ⟨rfl, HB.out⟩
  rw [if_pos c1] at h
  obtain ⟨⟨r1, r2, r3, r4, r5, r6, r7, r8⟩, h1, h⟩ := Option.bind_eq_some_iff.1 h
  obtain ⟨⟨u0, ⟨u1, u2, u3, u4, u5, u6⟩, u7⟩, h2, h⟩ := Option.bind_eq_some_iff.1 h
  simp only at h
  obtain ⟨h3, h4⟩ := Option.ite_none_right_eq_some.1 h
  obtain ⟨rfl, rfl, rfl, rfl, rfl, rfl, rfl, rfl⟩ := h3
  obtain rfl := Option.some.inj h4
  have H1 := Aside0.mk h1
  have H2 := Aside0.mk h2
  have HE : Aside0 (laws_eqCall.f u1 u2 u3 u4 u5 u6 u1 u2 u3 u4 u5 u6 = some true) := ⟨by simp [laws_eqCall.f]⟩
  have c1a : ¬ ((a0.size : Int) > 1048576) := by omega
  clear h1 h2 h h4
  go_enter Tryd.func3, Tryd.ntmps3
  go_upto_region 4 with (first | (go_at_call 5; refine (spec_ShellLine.calls k a0 _ _ _ _ _ _ _ _ _ H1.out).mono ?_; rintro e w5 ⟨rfl, hb⟩; replace HT := Aside0.mk (HT.out.below hb); replace HB := Aside0.mk (below_step HB.out hb); clear hb) | ((with_reducible refine gate_dst (N := 4) rfl ?_); (try (refine gate_guard (by rfl) ?_; dsimp only)); refine box_event ?hg (N := 4) ?hd (cs := #[.int .i64 0, .int .i64 0, .int .i64 0, .string (⟨#[]⟩ : ByteArray), .string (⟨#[]⟩ : ByteArray), .string (⟨#[]⟩ : ByteArray)]) (t := 23) ?hr ?_; (case hd => rfl); (case hg => rfl); (case hr => first | (go_simp; done) | (go_simp; rfl)); intro gb4 hg w5 hbox hb; have BK4 := Aside0.mk hbox; have GE4 := Aside0.mk (by rw [hg]; exact below_size HB.out : w.heap.size ≤ gb4);  have GX := Aside0.mk (Nat.le_of_eq hg.symm); have BX := Aside0.mk hb; clear hb hbox hg; obtain ⟨hz40, hz41, hz42, hz43, hz44, hz45⟩ := cz6 BK4.out; obtain ⟨hf40, hf41, hf42, hf43, hf44, hf45⟩ := fz6 BK4.out))
  obtain ⟨q1, q2, q3⟩ := Q.wfill6 BK4.out (.int .i64 u1) (.int .i64 u2) (.int .i64 u3) (.string u4) (.string u5) (.string u6)
  have q4 := q3 _ BX.out GX.out
  clear hz40 hz41 hz42 hz43 hz44 hz45 hf40 hf41 hf42 hf43 hf44 hf45
  generalize ((((((w5.setCell ⟨gb4, 0, none⟩ (.int .i64 u1)).setCell ⟨gb4, 1, none⟩ (.int .i64 u2)).setCell ⟨gb4, 2, none⟩ (.int .i64 u3)).setCell ⟨gb4, 3, none⟩ (.string u4)).setCell ⟨gb4, 4, none⟩ (.string u5)).setCell ⟨gb4, 5, none⟩ (.string u6)) = wa at q1 q2 q3 q4 ⊢
  replace BK4 := Aside0.mk q1
  replace HT := Aside0.mk (HT.out.below q4)
  replace HB := Aside0.mk (below_step HB.out q4)
  clear q1 q2 q3 q4 BX GX
  go_upto_region 5 with (first | (go_at_call 6; refine (impl_ShellLine.calls k a0 _ _ _ _ HT.out H2.out).mono ?_; rintro e w6 ⟨rfl, hb⟩; replace BK4 := Aside0.mk (blk_below BK4.out hb); replace HB := Aside0.mk (below_step HB.out hb); clear hb) | ((with_reducible refine gate_dst (N := 7) rfl ?_); (try (refine gate_guard (by rfl) ?_; dsimp only)); refine box_event ?hg (N := 7) ?hd (cs := #[.int .i64 0, .int .i64 0, .int .i64 0, .string (⟨#[]⟩ : ByteArray), .string (⟨#[]⟩ : ByteArray), .string (⟨#[]⟩ : ByteArray)]) (t := 23) ?hr ?_; (case hd => rfl); (case hg => rfl); (case hr => first | (go_simp; done) | (go_simp; rfl)); intro gb7 hg w5 hbox hb; have BK7 := Aside0.mk hbox; have GE7 := Aside0.mk (by rw [hg]; exact below_size HB.out : w.heap.size ≤ gb7);  have GX := Aside0.mk (Nat.le_of_eq hg.symm); have BX := Aside0.mk hb; clear hb hbox hg; obtain ⟨hz70, hz71, hz72, hz73, hz74, hz75⟩ := cz6 BK7.out; obtain ⟨hf70, hf71, hf72, hf73, hf74, hf75⟩ := fz6 BK7.out))
  obtain ⟨q1, q2, q3⟩ := Q.wfill6 BK7.out (.int .i64 u1) (.int .i64 u2) (.int .i64 u3) (.string u4) (.string u5) (.string u6)
  have q4 := q3 _ BX.out GX.out
  clear hz70 hz71 hz72 hz73 hz74 hz75 hf70 hf71 hf72 hf73 hf74 hf75
  generalize ((((((w5.setCell ⟨gb7, 0, none⟩ (.int .i64 u1)).setCell ⟨gb7, 1, none⟩ (.int .i64 u2)).setCell ⟨gb7, 2, none⟩ (.int .i64 u3)).setCell ⟨gb7, 3, none⟩ (.string u4)).setCell ⟨gb7, 4, none⟩ (.string u5)).setCell ⟨gb7, 5, none⟩ (.string u6)) = wb at q1 q2 q3 q4 ⊢
  replace BK7 := Aside0.mk q1
  replace BK4 := Aside0.mk (blk_below BK4.out q4)
  replace HB := Aside0.mk (below_step HB.out q4)
  clear q1 q2 q3 q4 BX GX
  obtain ⟨hz40, hz41, hz42, hz43, hz44, hz45⟩ := cz6 BK4.out
  obtain ⟨hz70, hz71, hz72, hz73, hz74, hz75⟩ := cz6 BK7.out
  go_wp2_with (go_at_call 7; refine (laws_eqCall.calls u1 u2 u3 u4 u5 u6 u1 u2 u3 u4 u5 u6 true _ HE.out).mono ?_; rintro e w7 ⟨rfl, hb⟩; replace HB := Aside0.mk (below_step HB.out hb); clear hb)
  go_ret
  exact ⟨rfl, HB.out⟩


end Go.Proofs.YtkjjlkkfhbfbmaaDoor.P
