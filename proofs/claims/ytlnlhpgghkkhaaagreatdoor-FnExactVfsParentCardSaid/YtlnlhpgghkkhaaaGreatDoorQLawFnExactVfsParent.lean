/- For every input the law FnExactVfsParent returns true, and each argument reads behind the call as it read before: no condition. -/
import Derived.Test.YtlnlhpgghkkhaaaGreatDoorRows
import Derived.Test.YtlnlhpgghkkhaaaGreatDoorTie
import Derived.Test.YtlnlhpgghkkhaaaGreatDoorCards
import Derived.SevenTiedAt
import Derived.LaidMore
import Derived.Lay
import Derived.Test.YtlnlhpgghkkhaaaGreatDoorFsPar
import Derived.WalkKit
import Derived.ProofKit
import Derived.OpenShut
import Derived.ShutString
import Derived.ChangeOld
import Derived.Below
import Derived.SizedLaws
import Derived.Carry
namespace Go.Proofs.YtlnlhpgghkkhaaaGreatDoor.fnExactVfsParent
open Go.ChangeShapes Go.WideShapes Go.ChangeAt Go.RowKit
open Go.ChangeMaps (open_string shut_string)
open Go.Mach Go.Mach.Fv
set_option linter.unusedVariables false
theorem own : ownKnob Tryz.prog.godebug = none := by kernel_rfl
theorem laidOut : laidOutB Tryz.prog = true := by kernel_rfl
theorem agg_of {cs : Array Value} {l : List Value} (h : (Value.cells (.agg cs)).toList = l) : cs = l.toArray := by subst h; simp [Value.cells]
set_option maxRecDepth 100000 in
theorem lifted (os : Os) (started : os.Started) (H : Type) (enc : TypeId × Value → H) :
    ReturnsInHanded {} Tryz.checked os 5 .any (fun w args => (Rows.fnExactVfsParentSpec.pre enc Tryz.prog Tryz.f5 Rows.fnExactVfsParentRow.domain false w args ∧ laidMetH Tryz.prog Rows.fnExactVfsParentRow.laid w) ∧ sizedMet enc Tryz.prog Tryz.f5 (OpenSpec.ofChange Rows.fnExactVfsParentSpec) false w args) (Rows.fnExactVfsParentSpec.post enc Tryz.prog Tryz.f5 false true false false) := by
  refine returnsInHanded_of_change_and (C := Tryz.checked) (X := fun w _ => laidMetH Tryz.prog Rows.fnExactVfsParentRow.laid w) (fun _ _ _ hh h => h.of_heap hh) own started (by kernel_rfl) Tryz.func5
    (ChangeSpec.witness_shaped (enc := enc) (C := Tryz.checked) (os := os) (X := fun w _ => laidMetH Tryz.prog Rows.fnExactVfsParentRow.laid w) false (World.laidAll Tryz.prog os Rows.fnExactVfsParentRow.laid) #[.agg #[.slice none 0 0, .int .i64 0], .agg #[.int .i64 0, .int .i64 0, .slice none 0 0], .agg #[.int .i64 0, .int .i64 0], .string ByteArray.empty] 8 (World.laidAll_os _ _ _)
      (World.shaped_of_ZipB (by kernel_rfl) (by kernel_rfl)) (by kernel_rfl) (by kernel_rfl) (by kernel_rfl)
      (by rw [MakeChecks.laidMetH_plain _ _ _ (by kernel_rfl)]; exact laidMet_laidAll _ (by kernel_rfl) (by kernel_rfl))) ?_
  intro W base args ds gs before hval0 hW hcnd hsz0 hlaid _
  have hsz : (DataW.weightsEach Tryz.prog (Tryz.f5.params.toList ++ Rows.fnExactVfsParentSpec.plain.varTypes Tryz.prog) (ds ++ gs)).all (· ≤ reachBytes) = true := hsz0
  have hval : ∀ (j : Nat) t v, Tryz.f5.params[j]? = some t → args[j]? = some v → Value.okWide Tryz.prog W .any base t v := hval0
  have hW' := hW
  obtain ⟨p, q, hA0, hV, rfl, hfz, hnd⟩ := hW
  have hA : DataW.TrodAll enc Tryz.prog W 0 (fun _ => true) true Tryz.f5.params.toList args.toList ds p := hA0
  rw [Tryz.params5] at hA hval hsz
  obtain ⟨v0, vs0, d0, ds0, p0, q0, hargs, rfl, rfl, h0, r0⟩ := trodAll_cons hA
  obtain ⟨v1, vs1, d1, ds1, p1, q1, rfl, rfl, rfl, h1, r1⟩ := trodAll_cons r0
  obtain ⟨v2, vs2, d2, ds2, p2, q2, rfl, rfl, rfl, h2, r2⟩ := trodAll_cons r1
  obtain ⟨v3, vs3, d3, ds3, p3, q3, rfl, rfl, rfl, h3, r3⟩ := trodAll_cons r2
  obtain ⟨rfl, rfl, rfl⟩ := trodAll_nil r3
  obtain rfl : args = #[v0, v1, v2, v3] := by cases args; simp_all
  obtain ⟨rfl, rfl⟩ := trodVars_none hV
  obtain ⟨cs0, rfl, hs0⟩ := okWide_struct u24 (hval 0 24 v0 rfl rfl)
  have k0 := h0
  have lt0 : ∀ x ∈ p0, x.block < W.heap.size := by obtain ⟨m, hm⟩ := k0; exact DataW.trod_lt m _ _ _ hm
  obtain ⟨fuel0, hf0⟩ := h0
  obtain ⟨z0, cl0, e0, er0, C0, _, ok0⟩ := o24.op hf0 (Mach.Small.of_all hsz (j := 0) rfl rfl)
  obtain rfl := agg_of e0.symm
  obtain ⟨cs1, rfl, hs1⟩ := okWide_struct u27 (hval 1 27 v1 rfl rfl)
  have k1 := h1
  have lt1 : ∀ x ∈ p1, x.block < W.heap.size := by obtain ⟨m, hm⟩ := k1; exact DataW.trod_lt m _ _ _ hm
  obtain ⟨fuel1, hf1⟩ := h1
  obtain ⟨z1, cl1, e1, er1, C1, _, ok1⟩ := o27.op hf1 (Mach.Small.of_all hsz (j := 1) rfl rfl)
  obtain rfl := agg_of e1.symm
  obtain ⟨cs2, rfl, hs2⟩ := okWide_struct u29 (hval 2 29 v2 rfl rfl)
  have k2 := h2
  have lt2 : ∀ x ∈ p2, x.block < W.heap.size := by obtain ⟨m, hm⟩ := k2; exact DataW.trod_lt m _ _ _ hm
  obtain ⟨fuel2, hf2⟩ := h2
  obtain ⟨z2, cl2, e2, er2, C2, _, ok2⟩ := o29.op hf2 (Mach.Small.of_all hsz (j := 2) rfl rfl)
  obtain rfl := agg_of e2.symm
  obtain ⟨a3, rfl, rfl, rfl, y3⟩ := open_string u9 (hval 3 9 v3 rfl rfl) h3
  have w3 : a3.size ≤ 140737488351232 := by
    have z := sized_string hsz (j := 3) (t := 9) rfl rfl
    rw [Array.length_toList] at z
    exact z
  have hp := fn5 z0 ok0 z1 ok1 z2 a3 w3
  have hS : Sound Tryz.prog Z.M (Go.Mach.Fn Z) := mk_sound (by kernel_rfl) (orac_ok _)
  have hq : Go.Mach.Fn Z 5 ([V.agg cl0, V.agg cl1, V.agg cl2, V.one (C.str a3)].map V.er) = some ⟨[(false, [.bool true])], []⟩ := by
    show Go.Mach.Fn Z 5 [V.agg (cl0.map C.er), V.agg (cl1.map C.er), V.agg (cl2.map C.er), V.one (C.er (C.str a3))] = _
    rw [er0, er1, er2, er_str]
    exact hp
  have hcl := law_calls hS (args := [V.agg cl0, V.agg cl1, V.agg cl2, V.one (C.str a3)]) (W := W) (by rw [M5]; simp) (by rw [M5]; rfl) (by intro v hv vs e; subst e; simp at hv) (by
    intro v hv
    simp only [List.mem_cons, List.not_mem_nil, or_false] at hv
    rcases hv with rfl | rfl | rfl | rfl
    · exact C0
    · exact C1
    · exact C2
    · exact Cells.one (.str a3) (by intros; simp)) hq
  refine hcl.mono fun e W' hew => ?_
  obtain ⟨he, bel0⟩ := hew
  have bel : Below W.heap.size W W' := bel0
  subst he
  exact ⟨_, rfl, _, _, _, [], _, [], hW', trodAll_mk1 (shut_bool tBool _), (trodAll_cons_mk (Below.trod laidOut (by kernel_rfl) (of_decide_eq_true (by kernel_rfl)) k0 bel lt0) (trodAll_cons_mk (Below.trod laidOut (by kernel_rfl) (of_decide_eq_true (by kernel_rfl)) k1 bel lt1) (trodAll_cons_mk (Below.trod laidOut (by kernel_rfl) (of_decide_eq_true (by kernel_rfl)) k2 bel lt2) (trodAll_cons_mk (shut_string u9 y3) trodAll_mk0)))), rfl, bel.frame _, fun h => by cases h⟩
theorem over : Rows.fnExactVfsParentRow.holds Tryz.pinned (OpenSpec.ofChange Rows.fnExactVfsParentSpec) :=
  OpenClaim.holds_of_wide 5 Tryz.f5 rfl rfl rfl rfl rfl rfl rfl ⟨rfl, rfl, rfl, rfl, rfl⟩ rfl rfl rfl rfl rfl (by kernel_rfl) Tryz.func5 (by kernel_rfl)
    (of_decide_eq_true (by kernel_rfl)) (by unfold Func.isWrapper; first | (rw [if_pos (by decide +kernel)]; kernel_rfl) | (rw [if_neg (by decide +kernel)]; exact ⟨rfl, rfl⟩))
    (fun os started H enc _ => lifted os started H enc)
theorem proved : Rows.FnExactVfsParentCardSaid :=
  Claim7.holds_tied_plain_at .later [] [.data, .pinned] true (true, "313ec934d834c1e959e919a8398140c55c7fe76b9ccc26fc52a63b8bc643d8eb") false over (fun _ h => by cases h) (by kernel_rfl) (fun _ h => by cases h) fnExactVfsParent_row_tie rfl ⟨rfl, rfl⟩ (by kernel_rfl) rfl
    (fun f fn hf hfn => by
      obtain rfl : f = 5 := Option.some.inj ((show Tryz.prog.funcNamed "loop.example/quarterdeck/laws.FnExactVfsParent" = some 5 by kernel_rfl).symm.trans hf) |>.symm
      obtain rfl : fn = Tryz.f5 := (Option.some.inj (Tryz.func5.symm.trans hfn)).symm
      exact ⟨by kernel_rfl, fun j t ht => by
        rw [Tryz.params5] at ht
        have hm : t ∈ ([24, 27, 29, 9] : List Nat) := by simpa using Array.mem_of_getElem? ht
        have hall : ([24, 27, 29, 9].all fun u => !Tryz.prog.wantsStandIn u) = true := by kernel_rfl
        exact (show Tryz.prog.wantsStandIn t = false by simpa using List.all_eq_true.1 hall t hm)⟩)
    (by kernel_rfl)
#print axioms proved
end Go.Proofs.YtlnlhpgghkkhaaaGreatDoor.fnExactVfsParent
namespace Go.Proofs.YtlnlhpgghkkhaaaGreatDoor
/-- The row, under a short name, for the claim. -/
theorem fnExactVfsParent_holds : Rows.FnExactVfsParentCardSaid := fnExactVfsParent.proved
end Go.Proofs.YtlnlhpgghkkhaaaGreatDoor
