-- printed by wip/qd.py, laid together by wip/mergepf.py
import Derived.Test.YtkjjlkkfhbfbmaaDoorPf0
import Derived.Test.YtkjjlkkfhbfbmaaDoorPfM4
import Derived.Test.YtkjjlkkfhbfbmaaDoorPfspecl93Line
import Derived.Test.YtkjjlkkfhbfbmaaDoorPfspecShellLine
import Derived.Test.YtkjjlkkfhbfbmaaDoorPfM3
import Derived.Test.YtkjjlkkfhbfbmaaDoorQWords
import Derived.Test.YtkjjlkkfhbfbmaaDoorQSem9
namespace Go.Proofs.YtkjjlkkfhbfbmaaDoor.P
open Go.RowKit Go.Proofs.YtkjjlkkfhbfbmaaDoorW.PrintWords Go.Proofs.YtkjjlkkfhbfbmaaDoorW.PrintLast Go.Proofs.YtkjjlkkfhbfbmaaDoorW.PrintMore
attribute [local go_sem] max2_int min2_int max_two min_two max_three min_three max_four min_four Q.cell_set_map Q.str_gtr Q.str_geq Q.str_leq
set_option linter.unusedVariables false
set_option linter.unusedSimpArgs false

/-! ### spec_DrawShellLine: function 8 -/
def spec_DrawShellLine.f (k : Nat) (l0 : List Int) : Option (ByteArray) := (spec_l6Open.f l0).bind fun bt101 => ((spec_l93Line.f k bt101.1 bt101.2).bind fun bt104 => (some bt104.1))
theorem spec_DrawShellLine.mono : ∀ a0 k, LeO (spec_DrawShellLine.f k a0) (spec_DrawShellLine.f (k + 1) a0) := by
 intro a0 k
 unfold spec_DrawShellLine.f
 repeat' first
   | (with_reducible exact spec_l93Line.mono _ _ _)
   | (with_reducible exact LeO.refl _)
   | (with_reducible exact LeO.none _)
   | (with_reducible refine LeO.ite ?_ ?_)
   | (with_reducible refine LeO.bind ?_ (fun _ => ?_))
   | exact spec_l93Line.mono _ _ _
   | exact LeO.none _
   | refine LeO.ite ?_ ?_
   | refine LeO.bind ?_ (fun _ => ?_)
set_option maxHeartbeats 8000000 in
set_option maxRecDepth 100000 in
theorem spec_DrawShellLine.calls (k : Nat) (A0 : Option Addr) (c0 : Nat) (l0 : List Int) (r : ByteArray) (w : World) (hr0 : Kd.C (Kd.int .u8) w A0 l0.length l0) (hc0 : l0.length ≤ c0) (h : spec_DrawShellLine.f k l0 = some r) :
  Calls Tryd.prog 8 #[.slice A0 l0.length c0] w fun e w' => e = .returned (.string r) ∧ Below w.heap.size w w' := by
 have HR0 := Aside0.mk hr0
 have HC0 := Aside0.mk hc0
 clear hr0 hc0
 have HB := Aside0.mk (Below.refl w.heap.size w)
 have H : ((spec_l6Open.f l0).bind fun bt101 => ((spec_l93Line.f k bt101.1 bt101.2).bind fun bt104 => (some bt104.1))) = some r := h
 clear h
 replace H := Option.bind_eq_some_iff.mp H
 obtain ⟨⟨t101, t102⟩, A20, H⟩ := H
 replace H : ((spec_l93Line.f k t101 t102).bind fun bt104 => (some bt104.1)) = some r := H
 have A2 := Aside0.mk A20
 clear A20
 replace H := Option.bind_eq_some_iff.mp H
 obtain ⟨⟨t104, t105⟩, A30, H⟩ := H
 replace H : (some t104) = some r := H
 have A3 := Aside0.mk A30
 clear A30
 obtain rfl := Option.some.inj H
 go_enter Tryd.func8, Tryd.ntmps8
 go_wp2_with (first | ((with_reducible refine gate_callee (f := 17) rfl ?_); refine goesL_ (some 5) rfl rfl Tryd.func17 zk rfl #[.slice A0 l0.length c0] rfl zm ?_; (with_reducible refine (spec_l6Open.calls _ _ l0 t101 t102 w _ ?side1 ?side2 ?side3 A2.out).mono ?_); (case side1 => repeat (first | (with_reducible first | exact HB.out | apply below_alloc | apply pw_below_drewN | apply below_drew1) | exact HB.out)); (case side2 => exact HR0.out); (case side3 => exact HC0.out); rintro e w4 ⟨g103, rfl, hi, hb, hb2⟩; refine ⟨_, rfl, ?_⟩; replace HB := Aside0.mk (hb); have HI103 := Aside0.mk (hi); (try clear hb); (try clear hb2); (try clear hi)) | ((with_reducible refine gate_callee (f := 18) rfl ?_); refine goesL_ (some 7) rfl rfl Tryd.func18 zk rfl #[.pointer (some ⟨g103, 0, none⟩)] rfl zm ?_; (with_reducible refine (spec_l93Line.calls k g103 t101 t102 t104 t105 w _ ?side1 ?side2 A3.out).mono ?_); (case side1 => repeat (first | (with_reducible first | exact HI103.out | apply IsS59.alloc | apply IsS59.drewN | apply IsS59.drew | apply IsS59.set_1) | exact HI103.out)); (case side2 => repeat (first | (with_reducible first | exact HB.out | apply below_alloc | apply pw_below_drewN | apply below_drew1 | refine below_set ?_ (IsS59.ge HI103.out)) | exact HB.out)); rintro e w5 ⟨rfl, hi, hb, hk⟩; refine ⟨_, rfl, ?_⟩; replace HB := Aside0.mk (hb); replace HI103 := Aside0.mk (hi); (try clear hb); (try clear hk); (try clear hi)))
 go_ret
 exact ⟨ze, by repeat (first | (with_reducible first | exact HB.out | apply below_alloc | apply pw_below_drewN | apply below_drew1 | refine below_set ?_ (IsS59.ge HI103.out)) | exact HB.out)⟩

end Go.Proofs.YtkjjlkkfhbfbmaaDoor.P

namespace Go.Proofs.YtkjjlkkfhbfbmaaDoor.P
open Go.RowKit Go.Proofs.YtkjjlkkfhbfbmaaDoorW.PrintWords Go.Proofs.YtkjjlkkfhbfbmaaDoorW.PrintLast Go.Proofs.YtkjjlkkfhbfbmaaDoorW.PrintMore
attribute [local go_sem] max2_int min2_int max_two min_two max_three min_three max_four min_four Q.cell_set_map Q.str_gtr Q.str_geq Q.str_leq
set_option linter.unusedVariables false
set_option linter.unusedSimpArgs false

/-! ### laws_FnShellLine: function 4 -/
-- IMPORT Derived.Test.YtkjjlkkfhbfbmaaDoorQWords
-- IMPORT Derived.Test.YtkjjlkkfhbfbmaaDoorQSem9
theorem laws_FnShellLine.eqA (d : Nat) (w : World) (x0 x1 x2 : Int) (x3 x4 x5 : ByteArray) :
    (Op.equalIn (d + 2) 23 (.agg #[.int .i64 x0, .int .i64 x1, .int .i64 x2, .string x3, .string x4, .string x5]) (.agg #[.int .i64 x0, .int .i64 x1, .int .i64 x2, .string x3, .string x4, .string x5])).run Tryd.prog w = .ok true w := by
  refine eqA_of Tryd.underlying23 (by kernel_rfl) ?_
  have h : ∀ {d : Nat} {xs ys : Array Value} {f : Field} {fs : List Field} {a b : Value} {w : World}, (f.name == "_") = false → (part f.type xs f.offset).run Tryd.prog w = .ok a w → (part f.type ys f.offset).run Tryd.prog w = .ok b w → (Op.equalIn d f.type a b).run Tryd.prog w = .ok true w → (Op.eqFields d xs ys fs).run Tryd.prog w = .ok true w → (Op.eqFields d xs ys (f :: fs)).run Tryd.prog w = .ok true w := fun h1 h2 h3 h4 h5 => eqf_cons h1 h2 h3 h4 h5
  refine h (by rfl) (by go_simp; rfl) (by go_simp; rfl) (by go_simp) ?_
  refine h (by rfl) (by go_simp; rfl) (by go_simp; rfl) (by go_simp) ?_
  refine h (by rfl) (by go_simp; rfl) (by go_simp; rfl) (by go_simp) ?_
  refine h (by rfl) (by go_simp; rfl) (by go_simp; rfl) (by go_simp) ?_
  refine h (by rfl) (by go_simp; rfl) (by go_simp; rfl) (by go_simp) ?_
  exact eqf_last (by rfl) (by go_simp; rfl) (by go_simp; rfl) (by go_simp)
def laws_FnShellLine.sp (s : ByteArray) : Nat := s.data.toList.findIdx (fun b => b == 32)
def laws_FnShellLine.f (k : Nat) (l0 : List Int) : Option Bool :=
  if l0.length ≤ 1048576 then (spec_DrawShellLine.f k l0).bind fun s => (impl_ShellLine.f k s).bind fun u => (spec_ShellLine.f k s).bind fun t =>
    if u.1 = t.1 ∧ u.2.1.f0 = t.2.1 ∧ u.2.1.f1 = t.2.2.1 ∧ u.2.1.f2 = t.2.2.2.1 ∧ u.2.1.f3 = t.2.2.2.2.1 ∧ u.2.1.f4 = t.2.2.2.2.2.1 ∧ u.2.1.f5 = t.2.2.2.2.2.2.1 ∧ u.2.2 = t.2.2.2.2.2.2.2 then
      (if u.2.2 = true then (impl_CallOk.f k u.2.1.f0 u.2.1.f1 u.2.1.f2 u.2.1.f3 u.2.1.f4 u.2.1.f5).bind fun b => if b = true ∧ 0 < laws_FnShellLine.sp s ∧ laws_FnShellLine.sp s < s.size ∧ s.size ≤ 1048576 ∧ 0 ≤ u.1 then some true else none else some true)
    else none
  else some true
theorem laws_FnShellLine.at_sp {s : ByteArray} {i : Nat} (h : i < s.size) (hi : i < laws_FnShellLine.sp s) : ((s[i].toNat : Int) != 32) = true := by
  rw [Q.byte_at_ h]
  have hl : i < s.data.toList.length := by rw [Array.length_toList]; exact h
  have := List.not_of_lt_findIdx hi
  rw [List.getD_eq_getElem?_getD, List.getElem?_eq_getElem hl]
  simp only [Option.getD_some]
  rw [bne_iff_ne]
  intro e
  rw [beq_eq_false_iff_ne] at this
  apply this
  apply UInt8.toNat_inj.1
  have : (32 : UInt8).toNat = 32 := rfl
  omega
theorem laws_FnShellLine.is_sp {s : ByteArray} (h : laws_FnShellLine.sp s < s.size) : ((s[laws_FnShellLine.sp s].toNat : Int) != 32) = false := by
  rw [Q.byte_at_ h]
  have hl : laws_FnShellLine.sp s < s.data.toList.length := by rw [Array.length_toList]; exact h
  have := List.findIdx_getElem (w := hl)
  rw [List.getD_eq_getElem?_getD, List.getElem?_eq_getElem hl]
  simp only [Option.getD_some]
  rw [bne_eq_false_iff_eq]
  unfold laws_FnShellLine.sp at this ⊢
  rw [beq_iff_eq.1 this]
  rfl
set_option maxHeartbeats 8000000 in
set_option maxRecDepth 100000 in
theorem laws_FnShellLine.calls (k : Nat) (A0 : Option Addr) (c0 : Nat) (l0 : List Int) (r : Bool) (w : World) (hr0 : Kd.C (Kd.int .u8) w A0 l0.length l0) (hc0 : l0.length ≤ c0) (hT : Q.Tabs w) (h : laws_FnShellLine.f k l0 = some r) :
    Calls Tryd.prog 4 #[.slice A0 l0.length c0] w fun e w' => e = .returned (.bool r) ∧ Below w.heap.size w w' := by
  unfold laws_FnShellLine.f at h
  have HT := Aside0.mk hT
  have HB := Aside0.mk (Below.refl w.heap.size w)
  have HR0 := Aside0.mk hr0
  have HC0 := Aside0.mk hc0
  clear hT hr0 hc0
  by_cases c1 : l0.length ≤ 1048576
  rotate_left
  · rw [if_neg c1] at h
    obtain rfl := Option.some.inj h
    have c1a : ((l0.length : Int) > 1048576) := by omega
    go_enter Tryd.func4, Tryd.ntmps4
    go_wp2
    go_ret
    exact ⟨rfl, HB.out⟩
  rw [if_pos c1] at h
  obtain ⟨s, hd, h⟩ := Option.bind_eq_some_iff.1 h
  obtain ⟨⟨u0, ⟨u1, u2, u3, u4, u5, u6⟩, u7⟩, h2, h⟩ := Option.bind_eq_some_iff.1 h
  obtain ⟨⟨r1, r2, r3, r4, r5, r6, r7, r8⟩, h1, h⟩ := Option.bind_eq_some_iff.1 h
  simp only at h
  obtain ⟨h3, h4⟩ := Option.ite_none_right_eq_some.1 h
  obtain ⟨rfl, rfl, rfl, rfl, rfl, rfl, rfl, rfl⟩ := h3
  have HD := Aside0.mk hd
  have H1 := Aside0.mk h1
  have H2 := Aside0.mk h2
  have c1a : ¬ ((l0.length : Int) > 1048576) := by omega
  have hq := laws_FnShellLine.eqA
  clear h1 h2 h hd
  go_enter Tryd.func4, Tryd.ntmps4
  go_upto_region 5 with (first | (go_at_call 8; refine (spec_DrawShellLine.calls k A0 c0 l0 s _ HR0.out HC0.out HD.out).mono ?_; rintro e w4 ⟨rfl, hb⟩; replace HT := Aside0.mk (HT.out.below hb); replace HB := Aside0.mk (below_step HB.out hb); clear hb) | (go_at_call 6; refine (impl_ShellLine.calls k s _ _ _ _ HT.out H2.out).mono ?_; rintro e w5 ⟨rfl, hb⟩; replace HT := Aside0.mk (HT.out.below hb); replace HB := Aside0.mk (below_step HB.out hb); clear hb) | ((with_reducible refine gate_dst (N := 5) rfl ?_); (try (refine gate_guard (by rfl) ?_; dsimp only)); refine box_event ?hg (N := 5) ?hd (cs := #[.int .i64 0, .int .i64 0, .int .i64 0, .string (⟨#[]⟩ : ByteArray), .string (⟨#[]⟩ : ByteArray), .string (⟨#[]⟩ : ByteArray)]) (t := 23) ?hr ?_; (case hd => rfl); (case hg => rfl); (case hr => first | (go_simp; done) | (go_simp; rfl)); intro gb5 hg w5 hbox hb; have BK5 := Aside0.mk hbox; have GE5 := Aside0.mk (by rw [hg]; exact below_size HB.out : w.heap.size ≤ gb5);  have GX := Aside0.mk (Nat.le_of_eq hg.symm); have BX := Aside0.mk hb; clear hb hbox hg; obtain ⟨hz50, hz51, hz52, hz53, hz54, hz55⟩ := cz6 BK5.out; obtain ⟨hf50, hf51, hf52, hf53, hf54, hf55⟩ := fz6 BK5.out))
  obtain ⟨q1, q2, q3⟩ := Q.wfill6 BK5.out (.int .i64 u1) (.int .i64 u2) (.int .i64 u3) (.string u4) (.string u5) (.string u6)
  have q4 := q3 _ BX.out GX.out
  clear hz50 hz51 hz52 hz53 hz54 hz55 hf50 hf51 hf52 hf53 hf54 hf55
  generalize ((((((w5.setCell ⟨gb5, 0, none⟩ (.int .i64 u1)).setCell ⟨gb5, 1, none⟩ (.int .i64 u2)).setCell ⟨gb5, 2, none⟩ (.int .i64 u3)).setCell ⟨gb5, 3, none⟩ (.string u4)).setCell ⟨gb5, 4, none⟩ (.string u5)).setCell ⟨gb5, 5, none⟩ (.string u6)) = wa at q1 q2 q3 q4 ⊢
  replace BK5 := Aside0.mk q1
  replace HT := Aside0.mk (HT.out.below q4)
  replace HB := Aside0.mk (below_step HB.out q4)
  clear q1 q2 q3 q4 BX GX
  go_upto_region 6 with (first | (go_at_call 5; refine (spec_ShellLine.calls k s _ _ _ _ _ _ _ _ _ H1.out).mono ?_; rintro e w6 ⟨rfl, hb⟩; replace BK5 := Aside0.mk (blk_below BK5.out hb); replace HB := Aside0.mk (below_step HB.out hb); replace HT := Aside0.mk (HT.out.below hb); clear hb) | ((with_reducible refine gate_dst (N := 8) rfl ?_); (try (refine gate_guard (by rfl) ?_; dsimp only)); refine box_event ?hg (N := 8) ?hd (cs := #[.int .i64 0, .int .i64 0, .int .i64 0, .string (⟨#[]⟩ : ByteArray), .string (⟨#[]⟩ : ByteArray), .string (⟨#[]⟩ : ByteArray)]) (t := 23) ?hr ?_; (case hd => rfl); (case hg => rfl); (case hr => first | (go_simp; done) | (go_simp; rfl)); intro gb8 hg w5 hbox hb; have BK8 := Aside0.mk hbox; have GE8 := Aside0.mk (by rw [hg]; exact below_size HB.out : w.heap.size ≤ gb8);  have GX := Aside0.mk (Nat.le_of_eq hg.symm); have BX := Aside0.mk hb; clear hb hbox hg; obtain ⟨hz80, hz81, hz82, hz83, hz84, hz85⟩ := cz6 BK8.out; obtain ⟨hf80, hf81, hf82, hf83, hf84, hf85⟩ := fz6 BK8.out))
  obtain ⟨q1, q2, q3⟩ := Q.wfill6 BK8.out (.int .i64 u1) (.int .i64 u2) (.int .i64 u3) (.string u4) (.string u5) (.string u6)
  have q4 := q3 _ BX.out GX.out
  clear hz80 hz81 hz82 hz83 hz84 hz85 hf80 hf81 hf82 hf83 hf84 hf85
  generalize ((((((w5.setCell ⟨gb8, 0, none⟩ (.int .i64 u1)).setCell ⟨gb8, 1, none⟩ (.int .i64 u2)).setCell ⟨gb8, 2, none⟩ (.int .i64 u3)).setCell ⟨gb8, 3, none⟩ (.string u4)).setCell ⟨gb8, 4, none⟩ (.string u5)).setCell ⟨gb8, 5, none⟩ (.string u6)) = wb at q1 q2 q3 q4 ⊢
  replace BK8 := Aside0.mk q1
  replace BK5 := Aside0.mk (blk_below BK5.out q4)
  replace HT := Aside0.mk (HT.out.below q4)
  replace HB := Aside0.mk (below_step HB.out q4)
  clear q1 q2 q3 q4 BX GX
  obtain ⟨hz50, hz51, hz52, hz53, hz54, hz55⟩ := cz6 BK5.out
  obtain ⟨hz80, hz81, hz82, hz83, hz84, hz85⟩ := cz6 BK8.out
  go_upto_region 7 with fail
  cases u7 with
  | false =>
    rw [if_neg (by simp)] at h4
    obtain rfl := Option.some.inj h4
    go_wp2
    go_ret
    exact ⟨rfl, HB.out⟩
  | true =>
  rw [if_pos rfl] at h4
  obtain ⟨b, hb, h4⟩ := Option.bind_eq_some_iff.1 h4
  obtain ⟨⟨rfl, g1, g2, g3, g4⟩, h5⟩ := Option.ite_none_right_eq_some.1 h4
  obtain rfl := Option.some.inj h5
  have HCO := Aside0.mk hb
  clear h4 h5 hb
  obtain ⟨n, hn⟩ : ∃ n, n = laws_FnShellLine.sp s := ⟨_, rfl⟩
  have hat : Aside0 (∀ i (h : i < s.size), i < n → ((s[i].toNat : Int) != 32) = true) := ⟨fun i h hi => laws_FnShellLine.at_sp h (hn ▸ hi)⟩
  have his : Aside0 (∀ h : n < s.size, ((s[n].toNat : Int) != 32) = false) := ⟨by subst hn; exact fun h => laws_FnShellLine.is_sp h⟩
  rw [← hn] at g1 g2
  clear hn hq
  clear hz50 hz51 hz52 hz53 hz54 hz55 hz80 hz81 hz82 hz83 hz84 hz85
  have hsn : Aside0 (n < s.size ∧ s.size ≤ 1048576) := ⟨g2, g3⟩
  go_wp2
  go_loopg [11] n (fun kq v11 w' => ∃ (i : Nat), v11 = .int .i64 (i : Int) ∧ i + kq = n ∧ w' = wb)
  case atStart => exact ⟨0, rfl, by omega, rfl⟩
  case round =>
    obtain ⟨i, rfl, hi, rfl⟩ := hrel
    cases gk with
    | zero =>
      obtain rfl : i = n := by omega
      have ka1 : (i : Int) < (s.size : Int) := by omega
      have ka2 := his.out g2
      have ka3 : (i : Int) > 0 := by omega
      have ka4 : (u0 : Int) ≥ 0 := g4
      obtain ⟨hz50, hz51, hz52, hz53, hz54, hz55⟩ := cz6 BK5.out
      go_wp2_with (go_at_call 9; refine (impl_CallOk.calls k u1 u2 u3 u4 u5 u6 true _ HCO.out).mono ?_; rintro e w9 ⟨rfl, hb⟩; replace HB := Aside0.mk (below_step HB.out hb); clear hb)
      go_ret
      exact ⟨rfl, HB.out⟩
    | succ kr =>
      have ka0 : i < s.size := by omega
      have ka1 : (i : Int) < (s.size : Int) := by omega
      have ka2 := hat.out i ka0 (by omega)
      go_wp2
      go_roundg kr
      case measure => omega
      case rel => exact ⟨i + 1, by go_num, by omega, rfl⟩


end Go.Proofs.YtkjjlkkfhbfbmaaDoor.P
