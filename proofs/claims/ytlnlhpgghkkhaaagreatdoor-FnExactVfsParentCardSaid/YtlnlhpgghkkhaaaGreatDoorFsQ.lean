/- The law's comparisons, of what is alike. -/
import Derived.Test.YtlnlhpgghkkhaaaGreatDoorFsT
open Go Go.Mach Go.Mach.Fv Go.Proofs
set_option maxRecDepth 100000
set_option linter.unusedVariables false
set_option linter.unusedSimpArgs false
namespace Go.Mach.Fv
theorem fn148 (e : Entry) : Fn Z 148 [.agg [.str e.name, .int .i64 e.id], .agg [.str e.name, .int .i64 e.id]] = some ⟨[(false, [.bool true])], []⟩ := by
  refine Fn_ans Z rfl Tryz.func148 rfl K148 ?_
  rw [ZP, M148, nt148]
  have hb : bodyOf Tryz.f148 = bodyOf Tryz.f148 := rfl
  conv at hb => rhs; simp only [bodyOf, Tryz.f148]
  rw [hb]
  clear hb 
  simp
theorem fn17 (p : Place) : Fn Z 17 [.agg [.int .i64 p.fs, .int .i64 p.id], .agg [.int .i64 p.fs, .int .i64 p.id]] = some ⟨[(false, [.bool true])], []⟩ := by
  refine Fn_ans Z rfl Tryz.func17 rfl K17 ?_
  rw [ZP, M17, nt17]
  have hb : bodyOf Tryz.f17 = bodyOf Tryz.f17 := rfl
  conv at hb => rhs; simp only [bodyOf, Tryz.f17]
  rw [hb]
  clear hb 
  simp
theorem ev134 (xs : List Entry) (hm : xs.length ≤ 1000000000000) (hcal : ∀ j : Nat, j < xs.length → Fn Z 148 [.agg [.str (el xs j).name, .int .i64 (el xs j).id], .agg [.str (el xs j).name, .int .i64 (el xs j).id]] = some ⟨[(false, [.bool true])], []⟩)
    (r : List It) (R : Option Ret) (hr : ans Tryz.prog Tryz.f134 [.ro, .ro] (Mach.go Z (Z.H 134) r ⟨27, [], []⟩) = R) :
    ∀ (n : Nat) (j : Nat) (σ : St Unit), j + n = xs.length →
    σ.keep ⟨[5, 1, 0], [], [5, 1, 0]⟩ = some ⟨27, [(5, .one (.int .i64 j)), (1, .one (.ro () 114 (row encE xs))), (0, .one (.ro () 114 (row encE xs)))], []⟩ →
      ans Tryz.prog Tryz.f134 [.ro, .ro] (Mach.go Z (Z.H 134) ((.lp (lpc Tryz.f134 4)) :: .blk 0 :: r) σ) = R := by
  have hb : lpc Tryz.f134 4 = lpc Tryz.f134 4 := rfl
  conv at hb => rhs; simp only [lpc, bodyOf, Tryz.f134, nthLoop, headId, if_true, if_false, reduceIte, Nat.reduceEqDiff]
  have hc := fun r σ => congrArg (fun c => Mach.go Z (Z.H 134) (.code c :: r) σ) hb
  clear hb
  intro n
  induction n with
  | zero =>
    intro j σ h hσ
    have hx : ¬ j < xs.length := by omega
    rw [go_lp, b134_4, L134_4, hσ, nx_, hc]
    simp [hx]
    exact hr
  | succ n ih =>
    intro j σ h hσ
    have h1 : j < xs.length := by omega
    have hcj := hcal j (by omega)
    rw [go_lp, b134_4, L134_4, hσ, nx_, hc]
    simp [h1, hcj, wrapJ (show j ≤ 1000000000000 by omega)]
    exact ih (j + 1) _ (by omega) (by simp)
theorem fn134 (xs : List Entry) (hm : xs.length ≤ 1048576) (hcal : ∀ j : Nat, j < xs.length → Fn Z 148 [.agg [.str (el xs j).name, .int .i64 (el xs j).id], .agg [.str (el xs j).name, .int .i64 (el xs j).id]] = some ⟨[(false, [.bool true])], []⟩) :
    Fn Z 134 [.one (.ro () 114 (row encE xs)), .one (.ro () 114 (row encE xs))] = some ⟨[(false, [.bool true])], []⟩ := by
  refine Fn_ans Z rfl Tryz.func134 rfl K134 ?_
  rw [ZP, M134, nt134]
  have hb : bodyOf Tryz.f134 = bodyOf Tryz.f134 := rfl
  conv at hb => rhs; simp only [bodyOf, Tryz.f134]
  have hb4 : lpc Tryz.f134 4 = lpc Tryz.f134 4 := rfl
  conv at hb4 => rhs; simp only [lpc, bodyOf, Tryz.f134, nthLoop, headId, if_true, if_false, reduceIte, Nat.reduceEqDiff]
  rw [← hb4] at hb
  rw [hb]
  clear hb hb4
  simp
  refine ev134 xs (by omega) hcal _ _ ?_ xs.length 0 _ (by omega) (by simp)
  simp
theorem fn134' (n : Inode) (hn : OkN 1048576 n) : Fn Z 134 [.one (.ro () 114 (row encE n.names)), .one (.ro () 114 (row encE n.names))] = some ⟨[(false, [.bool true])], []⟩ := fn134 n.names hn.2.1 fun j hj => fn148 _
theorem fn114 (n : Inode) (hn : OkN 1048576 n) : Fn Z 114 [.agg [.int .i64 n.kind, .int .i64 n.mode, .int .i64 n.owner, .int .i64 n.group, .int .i64 n.links, .int .i64 n.opens, .bool n.mark, .str n.text, .ro () 114 (row encE n.names)], .agg [.int .i64 n.kind, .int .i64 n.mode, .int .i64 n.owner, .int .i64 n.group, .int .i64 n.links, .int .i64 n.opens, .bool n.mark, .str n.text, .ro () 114 (row encE n.names)]] = some ⟨[(false, [.bool true])], []⟩ := by
  refine Fn_ans Z rfl Tryz.func114 rfl K114 ?_
  rw [ZP, M114, nt114]
  have hb : bodyOf Tryz.f114 = bodyOf Tryz.f114 := rfl
  conv at hb => rhs; simp only [bodyOf, Tryz.f114]
  rw [hb]
  clear hb 
  have h1 := fn134' n hn
  simp [h1]
theorem ev94 (xs : List Inode) (hm : xs.length ≤ 1000000000000) (hcal : ∀ j : Nat, j < xs.length → Fn Z 114 [.agg [.int .i64 (N xs j).kind, .int .i64 (N xs j).mode, .int .i64 (N xs j).owner, .int .i64 (N xs j).group, .int .i64 (N xs j).links, .int .i64 (N xs j).opens, .bool (N xs j).mark, .str (N xs j).text, .ro () 114 (row encE (N xs j).names)], .agg [.int .i64 (N xs j).kind, .int .i64 (N xs j).mode, .int .i64 (N xs j).owner, .int .i64 (N xs j).group, .int .i64 (N xs j).links, .int .i64 (N xs j).opens, .bool (N xs j).mark, .str (N xs j).text, .ro () 114 (row encE (N xs j).names)]] = some ⟨[(false, [.bool true])], []⟩)
    (r : List It) (R : Option Ret) (hr : ans Tryz.prog Tryz.f94 [.ro, .ro] (Mach.go Z (Z.H 94) r ⟨27, [], []⟩) = R) :
    ∀ (n : Nat) (j : Nat) (σ : St Unit), j + n = xs.length →
    σ.keep ⟨[5, 1, 0], [], [5, 1, 0]⟩ = some ⟨27, [(5, .one (.int .i64 j)), (1, .one (.ro () 62 (row (encN 114 true) xs))), (0, .one (.ro () 62 (row (encN 114 true) xs)))], []⟩ →
      ans Tryz.prog Tryz.f94 [.ro, .ro] (Mach.go Z (Z.H 94) ((.lp (lpc Tryz.f94 4)) :: .blk 0 :: r) σ) = R := by
  have hb : lpc Tryz.f94 4 = lpc Tryz.f94 4 := rfl
  conv at hb => rhs; simp only [lpc, bodyOf, Tryz.f94, nthLoop, headId, if_true, if_false, reduceIte, Nat.reduceEqDiff]
  have hc := fun r σ => congrArg (fun c => Mach.go Z (Z.H 94) (.code c :: r) σ) hb
  clear hb
  intro n
  induction n with
  | zero =>
    intro j σ h hσ
    have hx : ¬ j < xs.length := by omega
    rw [go_lp, b94_4, L94_4, hσ, nx_, hc]
    simp [hx]
    exact hr
  | succ n ih =>
    intro j σ h hσ
    have h1 : j < xs.length := by omega
    have hcj := hcal j (by omega)
    rw [go_lp, b94_4, L94_4, hσ, nx_, hc]
    simp [h1, hcj, wrapJ (show j ≤ 1000000000000 by omega)]
    exact ih (j + 1) _ (by omega) (by simp)
theorem fn94 (xs : List Inode) (hm : xs.length ≤ 1048576) (hcal : ∀ j : Nat, j < xs.length → Fn Z 114 [.agg [.int .i64 (N xs j).kind, .int .i64 (N xs j).mode, .int .i64 (N xs j).owner, .int .i64 (N xs j).group, .int .i64 (N xs j).links, .int .i64 (N xs j).opens, .bool (N xs j).mark, .str (N xs j).text, .ro () 114 (row encE (N xs j).names)], .agg [.int .i64 (N xs j).kind, .int .i64 (N xs j).mode, .int .i64 (N xs j).owner, .int .i64 (N xs j).group, .int .i64 (N xs j).links, .int .i64 (N xs j).opens, .bool (N xs j).mark, .str (N xs j).text, .ro () 114 (row encE (N xs j).names)]] = some ⟨[(false, [.bool true])], []⟩) :
    Fn Z 94 [.one (.ro () 62 (row (encN 114 true) xs)), .one (.ro () 62 (row (encN 114 true) xs))] = some ⟨[(false, [.bool true])], []⟩ := by
  refine Fn_ans Z rfl Tryz.func94 rfl K94 ?_
  rw [ZP, M94, nt94]
  have hb : bodyOf Tryz.f94 = bodyOf Tryz.f94 := rfl
  conv at hb => rhs; simp only [bodyOf, Tryz.f94]
  have hb4 : lpc Tryz.f94 4 = lpc Tryz.f94 4 := rfl
  conv at hb4 => rhs; simp only [lpc, bodyOf, Tryz.f94, nthLoop, headId, if_true, if_false, reduceIte, Nat.reduceEqDiff]
  rw [← hb4] at hb
  rw [hb]
  clear hb hb4
  simp
  refine ev94 xs (by omega) hcal _ _ ?_ xs.length 0 _ (by omega) (by simp)
  simp
theorem fn94' (f : Fs) (hf : OkF 1048576 f) : Fn Z 94 [.one (.ro () 62 (row (encN 114 true) f)), .one (.ro () 62 (row (encN 114 true) f))] = some ⟨[(false, [.bool true])], []⟩ := fn94 f hf.1 fun j hj => fn114 _ (hf.2 j hj)
theorem fn74 (f : Fs) (hf : OkF 1048576 f) : Fn Z 74 [.agg [.ro () 62 (row (encN 114 true) f)], .agg [.ro () 62 (row (encN 114 true) f)]] = some ⟨[(false, [.bool true])], []⟩ := by
  refine Fn_ans Z rfl Tryz.func74 rfl K74 ?_
  rw [ZP, M74, nt74]
  have hb : bodyOf Tryz.f74 = bodyOf Tryz.f74 := rfl
  conv at hb => rhs; simp only [bodyOf, Tryz.f74]
  rw [hb]
  clear hb 
  have h1 := fn94' f hf
  simp [h1]
theorem ev41 (xs : List Fs) (hm : xs.length ≤ 1000000000000) (hcal : ∀ j : Nat, j < xs.length → Fn Z 74 [.agg [.ro () 62 (row (encN 114 true) (el xs j))], .agg [.ro () 62 (row (encN 114 true) (el xs j))]] = some ⟨[(false, [.bool true])], []⟩)
    (r : List It) (R : Option Ret) (hr : ans Tryz.prog Tryz.f41 [.ro, .ro] (Mach.go Z (Z.H 41) r ⟨27, [], []⟩) = R) :
    ∀ (n : Nat) (j : Nat) (σ : St Unit), j + n = xs.length →
    σ.keep ⟨[5, 1, 0], [], [5, 1, 0]⟩ = some ⟨27, [(5, .one (.int .i64 j)), (1, .one (.ro () 65 (row (encF 62 114 true) xs))), (0, .one (.ro () 65 (row (encF 62 114 true) xs)))], []⟩ →
      ans Tryz.prog Tryz.f41 [.ro, .ro] (Mach.go Z (Z.H 41) ((.lp (lpc Tryz.f41 4)) :: .blk 0 :: r) σ) = R := by
  have hb : lpc Tryz.f41 4 = lpc Tryz.f41 4 := rfl
  conv at hb => rhs; simp only [lpc, bodyOf, Tryz.f41, nthLoop, headId, if_true, if_false, reduceIte, Nat.reduceEqDiff]
  have hc := fun r σ => congrArg (fun c => Mach.go Z (Z.H 41) (.code c :: r) σ) hb
  clear hb
  intro n
  induction n with
  | zero =>
    intro j σ h hσ
    have hx : ¬ j < xs.length := by omega
    rw [go_lp, b41_4, L41_4, hσ, nx_, hc]
    simp [hx]
    exact hr
  | succ n ih =>
    intro j σ h hσ
    have h1 : j < xs.length := by omega
    have hcj := hcal j (by omega)
    rw [go_lp, b41_4, L41_4, hσ, nx_, hc]
    simp [h1, hcj, wrapJ (show j ≤ 1000000000000 by omega)]
    exact ih (j + 1) _ (by omega) (by simp)
theorem fn41 (xs : List Fs) (hm : xs.length ≤ 1048576) (hcal : ∀ j : Nat, j < xs.length → Fn Z 74 [.agg [.ro () 62 (row (encN 114 true) (el xs j))], .agg [.ro () 62 (row (encN 114 true) (el xs j))]] = some ⟨[(false, [.bool true])], []⟩) :
    Fn Z 41 [.one (.ro () 65 (row (encF 62 114 true) xs)), .one (.ro () 65 (row (encF 62 114 true) xs))] = some ⟨[(false, [.bool true])], []⟩ := by
  refine Fn_ans Z rfl Tryz.func41 rfl K41 ?_
  rw [ZP, M41, nt41]
  have hb : bodyOf Tryz.f41 = bodyOf Tryz.f41 := rfl
  conv at hb => rhs; simp only [bodyOf, Tryz.f41]
  have hb4 : lpc Tryz.f41 4 = lpc Tryz.f41 4 := rfl
  conv at hb4 => rhs; simp only [lpc, bodyOf, Tryz.f41, nthLoop, headId, if_true, if_false, reduceIte, Nat.reduceEqDiff]
  rw [← hb4] at hb
  rw [hb]
  clear hb hb4
  simp
  refine ev41 xs (by omega) hcal _ _ ?_ xs.length 0 _ (by omega) (by simp)
  simp
theorem fn41' (v : Vfs) (hv : OkV 1048576 v) : Fn Z 41 [.one (.ro () 65 (row (encF 62 114 true) v.fss)), .one (.ro () 65 (row (encF 62 114 true) v.fss))] = some ⟨[(false, [.bool true])], []⟩ := fn41 v.fss hv.1 fun j hj => fn74 _ (hv.2 j hj)
theorem fn18 (v : Vfs) (hv : OkV 1048576 v) : Fn Z 18 [.agg [.ro () 65 (row (encF 62 114 true) v.fss), .int .i64 v.mount], .agg [.ro () 65 (row (encF 62 114 true) v.fss), .int .i64 v.mount]] = some ⟨[(false, [.bool true])], []⟩ := by
  refine Fn_ans Z rfl Tryz.func18 rfl K18 ?_
  rw [ZP, M18, nt18]
  have hb : bodyOf Tryz.f18 = bodyOf Tryz.f18 := rfl
  conv at hb => rhs; simp only [bodyOf, Tryz.f18]
  rw [hb]
  clear hb 
  have h1 := fn41' v hv
  simp [h1]
theorem ev42 (xs : List Int) (hm : xs.length ≤ 1000000000000)
    (r : List It) (R : Option Ret) (hr : ans Tryz.prog Tryz.f42 [.ro, .ro] (Mach.go Z (Z.H 42) r ⟨26, [], []⟩) = R) :
    ∀ (n : Nat) (j : Nat) (σ : St Unit), j + n = xs.length →
    σ.keep ⟨[5, 1, 0], [], [5, 1, 0]⟩ = some ⟨26, [(5, .one (.int .i64 j)), (1, .one (.ro () 3 (row encI xs))), (0, .one (.ro () 3 (row encI xs)))], []⟩ →
      ans Tryz.prog Tryz.f42 [.ro, .ro] (Mach.go Z (Z.H 42) ((.lp (lpc Tryz.f42 4)) :: .blk 0 :: r) σ) = R := by
  have hb : lpc Tryz.f42 4 = lpc Tryz.f42 4 := rfl
  conv at hb => rhs; simp only [lpc, bodyOf, Tryz.f42, nthLoop, headId, if_true, if_false, reduceIte, Nat.reduceEqDiff]
  have hc := fun r σ => congrArg (fun c => Mach.go Z (Z.H 42) (.code c :: r) σ) hb
  clear hb
  intro n
  induction n with
  | zero =>
    intro j σ h hσ
    have hx : ¬ j < xs.length := by omega
    rw [go_lp, b42_4, L42_4, hσ, nx_, hc]
    simp [hx]
    exact hr
  | succ n ih =>
    intro j σ h hσ
    have h1 : j < xs.length := by omega
    rw [go_lp, b42_4, L42_4, hσ, nx_, hc]
    simp [encI, h1, wrapJ (show j ≤ 1000000000000 by omega)]
    exact ih (j + 1) _ (by omega) (by simp)
theorem fn42 (xs : List Int) (hm : xs.length ≤ 1048576) :
    Fn Z 42 [.one (.ro () 3 (row encI xs)), .one (.ro () 3 (row encI xs))] = some ⟨[(false, [.bool true])], []⟩ := by
  refine Fn_ans Z rfl Tryz.func42 rfl K42 ?_
  rw [ZP, M42, nt42]
  have hb : bodyOf Tryz.f42 = bodyOf Tryz.f42 := rfl
  conv at hb => rhs; simp only [bodyOf, Tryz.f42]
  have hb4 : lpc Tryz.f42 4 = lpc Tryz.f42 4 := rfl
  conv at hb4 => rhs; simp only [lpc, bodyOf, Tryz.f42, nthLoop, headId, if_true, if_false, reduceIte, Nat.reduceEqDiff]
  rw [← hb4] at hb
  rw [hb]
  clear hb hb4
  simp
  refine ev42 xs (by omega) _ _ ?_ xs.length 0 _ (by omega) (by simp)
  simp
theorem fn19 (c : Cred) (h : c.groups.length ≤ 1048576) : Fn Z 19 [.agg [.int .i64 c.user, .int .i64 c.real, .ro () 3 (row encI c.groups)], .agg [.int .i64 c.user, .int .i64 c.real, .ro () 3 (row encI c.groups)]] = some ⟨[(false, [.bool true])], []⟩ := by
  refine Fn_ans Z rfl Tryz.func19 rfl K19 ?_
  rw [ZP, M19, nt19]
  have hb : bodyOf Tryz.f19 = bodyOf Tryz.f19 := rfl
  conv at hb => rhs; simp only [bodyOf, Tryz.f19]
  rw [hb]
  clear hb 
  have h1 := fn42 c.groups h
  simp [h1]
end Go.Mach.Fv
