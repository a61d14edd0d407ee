/- Walks. -/
import Derived.Test.YtlnlhpgghkkhaaaGreatDoorFsG2
open Go Go.Mach Go.Mach.Fv Go.Proofs
set_option maxRecDepth 100000
set_option maxHeartbeats 8000000
set_option linter.unusedVariables false
set_option linter.unusedSimpArgs false
namespace Go.Mach.Fv
def rp (r : Place × Int) : Option Ret := some ⟨[(true, [.int .i64 r.1.fs, .int .i64 r.1.id]), (false, [.int .i64 r.2])], []⟩
theorem walkL_cons (v : Vfs) (c : Cred) (p : Place) (s : ByteArray) (r : List ByteArray) : walkL v c p (s :: r) = if (step v c p s).2 = 0 then walkL v c (step v c p s).1 r else (⟨0, 0⟩, (step v c p s).2) := rfl
theorem drop_el (l : List ByteArray) (j : Nat) (h : j < l.length) : l.drop j = el l j :: l.drop (j + 1) := by
  rw [List.drop_eq_getElem_cons h]
  simp [el, List.getD_eq_getElem?_getD, h]
theorem ev34 (v : Vfs) (c : Cred) (R : Rdy v c) (l : List ByteArray) (hm : l.length ≤ 10000000) (r : List It)
    (hr : ∀ (p : Place) (σ : St Unit), σ = ⟨43, [(7, .one (.ref () ⟨7, 0, []⟩)), (10, .one (.ref () ⟨10, 0, []⟩))], [(7, [.own () .pt 32 [[.int .i64 p.fs, .int .i64 p.id]]]), (10, [.own () .pt 32 [[.int .i64 0, .int .i64 0]]])]⟩ → ans Tryz.prog Tryz.f34 [.ro, .ro, .ro, .ro, .ro] (Mach.go Z (Z.H 34) r σ) = rp (p, 0)) :
    ∀ (n j : Nat) (p : Place) (σ : St Unit), j + n = l.length → placeOk v p = true →
    σ.keep ⟨[12, 4, 6, 5, 7, 10], [], [12, 4, 6, 5, 7, 10]⟩ = some ⟨43, [(12, .one (.int .i64 (j))), (4, .one (.ro () 9 (row encS l))), (6, .one (.ref () ⟨6, 0, []⟩)), (5, .one (.ref () ⟨5, 0, []⟩)), (7, .one (.ref () ⟨7, 0, []⟩)), (10, .one (.ref () ⟨10, 0, []⟩))], [(6, [.own () .pt 39 [[.int .i64 c.user, .int .i64 c.real, .ro () 3 (row encI c.groups)]]]), (5, [.own () .pt 37 [[.ro () 65 (row (encF 62 114 true) v.fss), .int .i64 v.mount]]]), (7, [.own () .pt 32 [[.int .i64 p.fs, .int .i64 p.id]]]), (10, [.own () .pt 32 [[.int .i64 0, .int .i64 0]]])]⟩ →
      ans Tryz.prog Tryz.f34 [.ro, .ro, .ro, .ro, .ro] (Mach.go Z (Z.H 34) ((.lp (lpc Tryz.f34 5)) :: .blk 0 :: r) σ) = rp (walkL v c p (l.drop j)) := by
  have hb : lpc Tryz.f34 5 = lpc Tryz.f34 5 := rfl
  conv at hb => rhs; simp only [lpc, bodyOf, Tryz.f34, nthLoop, headId, if_true, if_false, reduceIte, Nat.reduceEqDiff]
  have hc := fun r σ => congrArg (fun c => Mach.go Z (Z.H 34) (.code c :: r) σ) hb
  clear hb
  intro n
  induction n with
  | zero =>
    intro j p σ h hp hσ
    have hx : ¬ j < l.length := by omega
    have hd : l.drop j = [] := List.drop_eq_nil_of_le (by omega)
    rw [hd]
    rw [go_lp, b34_5, L34_5, hσ, nx_, hc]
    simp [hx]
    exact hr p _ rfl
  | succ n ih =>
    intro j p σ h hp hσ
    have h2 : j < l.length := by omega
    have hcal := fn66 v c R p hp (el l j)
    have hj := wrapJ (show j ≤ 1000000000000 by omega)
    rw [drop_el l j h2, walkL_cons]
    rw [go_lp, b34_5, L34_5, hσ, nx_, hc]
    by_cases h3 : (step v c p (el l j)).2 = 0
    · rw [if_pos h3]
      rw [h3] at hcal
      simp [encS, h2, hcal, hj]
      exact ih (j + 1) (step v c p (el l j)).1 _ (by omega) (step_ok R.g hp _ h3) (by simp)
    · rw [if_neg h3]
      simp [rp, encS, h2, hcal, h3]
theorem fn34 (v : Vfs) (c : Cred) (R : Rdy v c) (p : Place) (hp : placeOk v p = true) (top : Bool) (l : List ByteArray) (hm : l.length ≤ 10000000) :
    Fn Z 34 [.agg [.ro () 65 (row (encF 62 114 true) v.fss), .int .i64 v.mount], .agg [.int .i64 c.user, .int .i64 c.real, .ro () 3 (row encI c.groups)], .agg [.int .i64 p.fs, .int .i64 p.id], .one (.bool top), .one (.ro () 9 (row encS l))] = rp (walk v c p top l) := by
  have hw : walk v c p top l = walkL v c (down v (if top then ⟨0, 0⟩ else p)) (l.drop 0) := rfl
  rw [hw]
  refine Fn_ans Z rfl Tryz.func34 rfl K34 ?_
  rw [ZP, M34, nt34]
  have hb : bodyOf Tryz.f34 = bodyOf Tryz.f34 := rfl
  conv at hb => rhs; simp only [bodyOf, Tryz.f34]
  have hb5 : lpc Tryz.f34 5 = lpc Tryz.f34 5 := rfl
  conv at hb5 => rhs; simp only [lpc, bodyOf, Tryz.f34, nthLoop, headId, if_true, if_false, reduceIte, Nat.reduceEqDiff]
  rw [← hb5] at hb
  rw [hb]
  clear hb hb5
  cases top with
  | true =>
    have h48 := fn48 v ⟨0, 0⟩
    have hok := down_ok R.g (zero_ok R.g)
    simp [h48]
    refine ev34 v c R l hm _ (fun p σ hσ => ?_) l.length 0 (down v ⟨0, 0⟩) _ (by omega) hok (by simp)
    subst hσ
    simp [rp]
  | false =>
    have h48 := fn48 v p
    have hok := down_ok R.g hp
    simp [h48]
    refine ev34 v c R l hm _ (fun p σ hσ => ?_) l.length 0 (down v p) _ (by omega) hok (by simp)
    subst hσ
    simp [rp]
theorem ev40 (v : Vfs) (c : Cred) (R : Rdy v c) (l : List ByteArray) (hm : l.length ≤ 10000000) (hs : ∀ j : Nat, j < l.length → stepOk (el l j) = true) (r : List It)
    (hr : ∀ (p : Place) (σ : St Unit), σ = ⟨42, [(7, .one (.ref () ⟨7, 0, []⟩)), (10, .one (.ref () ⟨10, 0, []⟩))], [(7, [.own () .pt 32 [[.int .i64 p.fs, .int .i64 p.id]]]), (10, [.own () .pt 32 [[.int .i64 0, .int .i64 0]]])]⟩ → ans Tryz.prog Tryz.f40 [.ro, .ro, .ro, .ro, .ro] (Mach.go Z (Z.H 40) r σ) = rp (p, 0)) :
    ∀ (n j : Nat) (p : Place) (σ : St Unit), j + n = l.length → placeOk v p = true →
    σ.keep ⟨[22, 23, 6, 5, 21, 7, 10], [], [22, 23, 6, 5, 21, 7, 10]⟩ = some ⟨42, [(22, .one (.int .i64 (l.length))), (23, .one (.int .i64 (j))), (6, .one (.ref () ⟨6, 0, []⟩)), (5, .one (.ref () ⟨5, 0, []⟩)), (21, .one (.ro () 9 (row encS l))), (7, .one (.ref () ⟨7, 0, []⟩)), (10, .one (.ref () ⟨10, 0, []⟩))], [(6, [.own () .pt 39 [[.int .i64 c.user, .int .i64 c.real, .ro () 3 (row encI c.groups)]]]), (5, [.own () .pt 37 [[.ro () 65 (row (encF 62 114 true) v.fss), .int .i64 v.mount]]]), (7, [.own () .pt 32 [[.int .i64 p.fs, .int .i64 p.id]]]), (10, [.own () .pt 32 [[.int .i64 0, .int .i64 0]]])]⟩ →
      ans Tryz.prog Tryz.f40 [.ro, .ro, .ro, .ro, .ro] (Mach.go Z (Z.H 40) ((.lp (lpc Tryz.f40 5)) :: .blk 0 :: r) σ) = rp (walkL v c p (l.drop j)) := by
  have hb : lpc Tryz.f40 5 = lpc Tryz.f40 5 := rfl
  conv at hb => rhs; simp only [lpc, bodyOf, Tryz.f40, nthLoop, headId, if_true, if_false, reduceIte, Nat.reduceEqDiff]
  have hc := fun r σ => congrArg (fun c => Mach.go Z (Z.H 40) (.code c :: r) σ) hb
  clear hb
  intro n
  induction n with
  | zero =>
    intro j p σ h hp hσ
    have hx : ¬ j < l.length := by omega
    have hd : l.drop j = [] := List.drop_eq_nil_of_le (by omega)
    rw [hd]
    rw [go_lp, b40_5, L40_5, hσ, nx_, hc]
    simp [hx]
    exact hr p _ rfl
  | succ n ih =>
    intro j p σ h hp hσ
    have h2 : j < l.length := by omega
    have hcal := fn73 v c R p hp (el l j) (hs j h2)
    have hj := wrapJ (show j ≤ 1000000000000 by omega)
    rw [drop_el l j h2, walkL_cons]
    rw [go_lp, b40_5, L40_5, hσ, nx_, hc]
    by_cases h3 : (step v c p (el l j)).2 = 0
    · rw [if_pos h3]
      rw [h3] at hcal
      simp [encS, h2, hcal, hj]
      exact ih (j + 1) (step v c p (el l j)).1 _ (by omega) (step_ok R.g hp _ h3) (by simp)
    · rw [if_neg h3]
      simp [rp, encS, h2, hcal, h3]
theorem fn40 (v : Vfs) (c : Cred) (R : Rdy v c) (p : Place) (hp : placeOk v p = true) (top : Bool) (l : List ByteArray) (hm : l.length ≤ 10000000) (hs : ∀ j : Nat, j < l.length → stepOk (el l j) = true) :
    Fn Z 40 [.agg [.ro () 65 (row (encF 62 114 true) v.fss), .int .i64 v.mount], .agg [.int .i64 c.user, .int .i64 c.real, .ro () 3 (row encI c.groups)], .agg [.int .i64 p.fs, .int .i64 p.id], .one (.bool top), .one (.ro () 9 (row encS l))] = rp (walk v c p top l) := by
  have hw : walk v c p top l = walkL v c (down v (if top then ⟨0, 0⟩ else p)) (l.drop 0) := rfl
  rw [hw]
  refine Fn_ans Z rfl Tryz.func40 rfl K40 ?_
  rw [ZP, M40, nt40]
  have hb : bodyOf Tryz.f40 = bodyOf Tryz.f40 := rfl
  conv at hb => rhs; simp only [bodyOf, Tryz.f40]
  have hb5 : lpc Tryz.f40 5 = lpc Tryz.f40 5 := rfl
  conv at hb5 => rhs; simp only [lpc, bodyOf, Tryz.f40, nthLoop, headId, if_true, if_false, reduceIte, Nat.reduceEqDiff]
  rw [← hb5] at hb
  rw [hb]
  clear hb hb5
  cases top with
  | true =>
    have h48 := fn72 v ⟨0, 0⟩ R.g.mt.2.2 (by first | exact Int.le_refl 0 | exact (placeOk_iff.1 hp).2.1.1)
    have hok := down_ok R.g (zero_ok R.g)
    simp [h48]
    refine ev40 v c R l hm hs _ (fun p σ hσ => ?_) l.length 0 (down v ⟨0, 0⟩) _ (by omega) hok (by simp)
    subst hσ
    simp [rp]
  | false =>
    have h48 := fn72 v p R.g.mt.2.2 (by first | exact Int.le_refl 0 | exact (placeOk_iff.1 hp).2.1.1)
    have hok := down_ok R.g hp
    simp [h48]
    refine ev40 v c R l hm hs _ (fun p σ hσ => ?_) l.length 0 (down v p) _ (by omega) hok (by simp)
    subst hσ
    simp [rp]
end Go.Mach.Fv
