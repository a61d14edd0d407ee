/- Users: who is valid, who may. -/
import Derived.Test.YtlnlhpgghkkhaaaGreatDoorFsW
open Go Go.Mach Go.Mach.Fv Go.Proofs
set_option maxRecDepth 100000
set_option maxHeartbeats 4000000
set_option linter.unusedVariables false
set_option linter.unusedSimpArgs false
namespace Go.Mach.Fv
theorem elG (c : Cred) (i : Int) : el c.groups i = gA c i.toNat := rfl
def gOk (c : Cred) (i : Nat) : Bool := inR (gA c i) 0 9 && (decide (i = 0) || decide (gA c (i - 1) < gA c i))
theorem elI0 (c : Cred) : ([C.int .i64 0] : List (C Unit)) = encI 0 := rfl
theorem ev32 (c : Cred) (hm : c.groups.length ≤ 1048576) (t : Bool) (r : List It) (hr : ∀ σ : St Unit, σ = ⟨50, [(1, .one (.ref () ⟨1, 0, []⟩))], [(1, [.own () .pt 39 [[.int .i64 c.user, .int .i64 c.real, .ro () 3 (row encI c.groups)]]])]⟩ → ans Tryz.prog Tryz.f32 [.ro] (Mach.go Z (Z.H 32) r σ) = some ⟨[(false, [.bool t])], []⟩) :
    ∀ (n j : Nat) (σ : St Unit), j + n = c.groups.length →
    σ.keep ⟨[3, 1], [], [3, 1]⟩ = some ⟨50, [(3, .one (.int .i64 (j))), (1, .one (.ref () ⟨1, 0, []⟩))], [(1, [.own () .pt 39 [[.int .i64 c.user, .int .i64 c.real, .ro () 3 (row encI c.groups)]]])]⟩ →
      ans Tryz.prog Tryz.f32 [.ro] (Mach.go Z (Z.H 32) ((.lp (lpc Tryz.f32 2)) :: .blk 0 :: r) σ) = some ⟨[(false, [.bool (allF (gOk c) j n && t)])], []⟩ := by
  have hb : lpc Tryz.f32 2 = lpc Tryz.f32 2 := rfl
  conv at hb => rhs; simp only [lpc, bodyOf, Tryz.f32, nthLoop, headId, if_true, if_false, reduceIte, Nat.reduceEqDiff]
  have hc := fun r σ => congrArg (fun c => Mach.go Z (Z.H 32) (.code c :: r) σ) hb
  clear hb
  intro n
  induction n with
  | zero =>
    intro j σ h hσ
    have hx : ¬ j < c.groups.length := by omega
    rw [go_lp, b32_2, L32_2, hσ, nx_, hc]
    simp [hx]
    refine (hr _ rfl).trans (by simp [allF])
  | succ n ih =>
    intro j σ h hσ
    have h2 : j < c.groups.length := by omega
    have hj := wrapJ (show j ≤ 1000000000000 by omega)
    rw [go_lp, b32_2, L32_2, hσ, nx_, hc]
    unfold allF
    by_cases h3 : inR (gA c j) 0 9 = true
    · by_cases h4 : 0 < j
      · have a1 : IntKind.i64.wrap ((j : Int) - 1) = (j : Int) - 1 := wrap_in (by omega) (by omega)
        have a2 : ((j : Int) - 1).toNat = j - 1 := by omega
        have a3 : (1 : Int) ≤ j := by omega
        have a6 : j - 1 < c.groups.length := by omega
        have a4 : (j : Int) - 1 < c.groups.length := by omega
        have a5 : ¬ j = 0 := by omega
        by_cases h5 : gA c (j - 1) < gA c j
        · have h6 : ¬ gA c j ≤ gA c (j - 1) := by omega
          simp [encI, elG, h2, hj, fn64, h3, h4, h6, a1, a2, a3, a4, a6]
          refine (ih (j + 1) _ (by omega) (by simp)).trans ?_
          simp [gOk, h3, h5]
        · have h6 : gA c j ≤ gA c (j - 1) := by omega
          simp [encI, elG, h2, hj, fn64, h3, h4, h5, h6, a1, a2, a3, a4, a5, a6, gOk]
      · have a5 : j = 0 := by omega
        subst a5
        simp [encI, elG, h2, fn64, h3]
        refine (ih 1 _ (by omega) (by simp [wrapJ (show 0 ≤ 1000000000000 by omega), w1])).trans ?_
        simp [gOk, h3]
    · simp [encI, elG, h2, hj, fn64, h3, gOk]
theorem fn32 (c : Cred) (hm : c.groups.length ≤ 1048576) : Fn Z 32 [.agg [.int .i64 c.user, .int .i64 c.real, .ro () 3 (row encI c.groups)]] = some ⟨[(false, [.bool (credOk c)])], []⟩ := by
  have he : credOk c = (allF (gOk c) 0 c.groups.length && (inR c.user 0 9 && inR c.real 0 9 && decide (c.groups.length ≤ 3))) := by
    show (allF (gOk c) 0 c.groups.length && inR c.user 0 9 && inR c.real 0 9 && decide (c.groups.length ≤ 3)) = _
    simp only [Bool.and_assoc]
  rw [he]
  clear he
  refine Fn_ans Z rfl Tryz.func32 rfl K32 ?_
  rw [ZP, M32, nt32]
  have hb : bodyOf Tryz.f32 = bodyOf Tryz.f32 := rfl
  conv at hb => rhs; simp only [bodyOf, Tryz.f32]
  have hb2 : lpc Tryz.f32 2 = lpc Tryz.f32 2 := rfl
  conv at hb2 => rhs; simp only [lpc, bodyOf, Tryz.f32, nthLoop, headId, if_true, if_false, reduceIte, Nat.reduceEqDiff]
  rw [← hb2] at hb
  rw [hb]
  clear hb hb2
  simp
  refine ev32 c hm _ _ (fun σ hσ => ?_) c.groups.length 0 _ (by omega) (by simp)
  subst hσ
  have hL : ((c.groups.length : Int) ≤ 3) = (c.groups.length ≤ 3) := by apply propext; omega
  by_cases q0 : inR c.user 0 9 = true
  ·
    by_cases q1 : inR c.real 0 9 = true
    ·
      simp [fn64, hL, q0, q1]
    ·
      simp [fn64, hL, q0, q1]
  ·
    simp [fn64, hL, q0]
theorem ev38 (c : Cred) (hm : c.groups.length ≤ 1048576) (t : Bool) (r : List It) (hr : ∀ σ : St Unit, σ = ⟨45, [(1, .one (.ref () ⟨1, 0, []⟩))], [(1, [.own () .pt 39 [[.int .i64 c.user, .int .i64 c.real, .ro () 3 (row encI c.groups)]]])]⟩ → ans Tryz.prog Tryz.f38 [.ro] (Mach.go Z (Z.H 38) r σ) = some ⟨[(false, [.bool t])], []⟩) :
    ∀ (n j : Nat) (σ : St Unit), j + n = c.groups.length →
    σ.keep ⟨[7, 8, 6, 1], [], [7, 8, 6, 1]⟩ = some ⟨45, [(7, .one (.int .i64 (c.groups.length))), (8, .one (.int .i64 (j))), (6, .one (.ro () 3 (row encI c.groups))), (1, .one (.ref () ⟨1, 0, []⟩))], [(1, [.own () .pt 39 [[.int .i64 c.user, .int .i64 c.real, .ro () 3 (row encI c.groups)]]])]⟩ →
      ans Tryz.prog Tryz.f38 [.ro] (Mach.go Z (Z.H 38) ((.lp (lpc Tryz.f38 2)) :: .blk 0 :: r) σ) = some ⟨[(false, [.bool (allF (gOk c) j n && t)])], []⟩ := by
  have hb : lpc Tryz.f38 2 = lpc Tryz.f38 2 := rfl
  conv at hb => rhs; simp only [lpc, bodyOf, Tryz.f38, nthLoop, headId, if_true, if_false, reduceIte, Nat.reduceEqDiff]
  have hc := fun r σ => congrArg (fun c => Mach.go Z (Z.H 38) (.code c :: r) σ) hb
  clear hb
  intro n
  induction n with
  | zero =>
    intro j σ h hσ
    have hx : ¬ j < c.groups.length := by omega
    rw [go_lp, b38_2, L38_2, hσ, nx_, hc]
    simp [hx]
    refine (hr _ rfl).trans (by simp [allF])
  | succ n ih =>
    intro j σ h hσ
    have h2 : j < c.groups.length := by omega
    have hj := wrapJ (show j ≤ 1000000000000 by omega)
    rw [go_lp, b38_2, L38_2, hσ, nx_, hc]
    unfold allF
    by_cases h3 : inR (gA c j) 0 9 = true
    · by_cases h4 : 0 < j
      · have a1 : IntKind.i64.wrap ((j : Int) - 1) = (j : Int) - 1 := wrap_in (by omega) (by omega)
        have a2 : ((j : Int) - 1).toNat = j - 1 := by omega
        have a3 : (1 : Int) ≤ j := by omega
        have a6 : j - 1 < c.groups.length := by omega
        have a4 : (j : Int) - 1 < c.groups.length := by omega
        have a5 : ¬ j = 0 := by omega
        by_cases h5 : gA c (j - 1) < gA c j
        · have h6 : ¬ gA c j ≤ gA c (j - 1) := by omega
          simp [encI, elG, h2, hj, fn70, h3, h4, h6, a1, a2, a3, a4, a6]
          refine (ih (j + 1) _ (by omega) (by simp)).trans ?_
          simp [gOk, h3, h5]
        · have h6 : gA c j ≤ gA c (j - 1) := by omega
          simp [encI, elG, h2, hj, fn70, h3, h4, h5, h6, a1, a2, a3, a4, a5, a6, gOk]
      · have a5 : j = 0 := by omega
        subst a5
        simp [encI, elG, h2, fn70, h3]
        refine (ih 1 _ (by omega) (by simp [wrapJ (show 0 ≤ 1000000000000 by omega), w1])).trans ?_
        simp [gOk, h3]
    · simp [encI, elG, h2, hj, fn70, h3, gOk]
theorem fn38 (c : Cred) (hm : c.groups.length ≤ 1048576) : Fn Z 38 [.agg [.int .i64 c.user, .int .i64 c.real, .ro () 3 (row encI c.groups)]] = some ⟨[(false, [.bool (credOk c)])], []⟩ := by
  have he : credOk c = (allF (gOk c) 0 c.groups.length && (inR c.user 0 9 && inR c.real 0 9 && decide (c.groups.length ≤ 3))) := by
    show (allF (gOk c) 0 c.groups.length && inR c.user 0 9 && inR c.real 0 9 && decide (c.groups.length ≤ 3)) = _
    simp only [Bool.and_assoc]
  rw [he]
  clear he
  refine Fn_ans Z rfl Tryz.func38 rfl K38 ?_
  rw [ZP, M38, nt38]
  have hb : bodyOf Tryz.f38 = bodyOf Tryz.f38 := rfl
  conv at hb => rhs; simp only [bodyOf, Tryz.f38]
  have hb2 : lpc Tryz.f38 2 = lpc Tryz.f38 2 := rfl
  conv at hb2 => rhs; simp only [lpc, bodyOf, Tryz.f38, nthLoop, headId, if_true, if_false, reduceIte, Nat.reduceEqDiff]
  rw [← hb2] at hb
  rw [hb]
  clear hb hb2
  simp
  refine ev38 c hm _ _ (fun σ hσ => ?_) c.groups.length 0 _ (by omega) (by simp)
  subst hσ
  have hL : ((c.groups.length : Int) ≤ 3) = (c.groups.length ≤ 3) := by apply propext; omega
  by_cases q0 : inR c.user 0 9 = true
  ·
    by_cases q1 : inR c.real 0 9 = true
    ·
      simp [fn70, hL, q0, q1]
    ·
      simp [fn70, hL, q0, q1]
  ·
    simp [fn70, hL, q0]
end Go.Mach.Fv
