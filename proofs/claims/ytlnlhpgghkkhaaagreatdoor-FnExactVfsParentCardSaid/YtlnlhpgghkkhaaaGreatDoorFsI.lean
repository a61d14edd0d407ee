/- One node, as the reference asks. -/
import Derived.Test.YtlnlhpgghkkhaaaGreatDoorFsN
open Go Go.Mach Go.Mach.Fv Go.Proofs
set_option maxRecDepth 100000
set_option maxHeartbeats 8000000
set_option linter.unusedVariables false
set_option linter.unusedSimpArgs false
namespace Go.Mach.Fv
theorem tl_ne (s : ByteArray) : (s.toList != []) = !decide (s.size = 0) := by
  rw [← tl_empty]
  cases s.toList <;> rfl
theorem lt_eq (a b : ByteArray) : Op.bytesLess a.toList b.toList = lt a b := rfl
theorem ev84 (n : Inode) (hn : OkN 1048576 n) (r : List It) (hr : ∀ σ : St Unit, σ = ⟨117, [], []⟩ → ans Tryz.prog Tryz.f84 [.ro] (Mach.go Z (Z.H 84) r σ) = some ⟨[(false, [.bool true])], []⟩) :
    ∀ (m j : Nat) (σ : St Unit), j + m = n.names.length →
    σ.keep ⟨[3, 1], [], [3, 1]⟩ = some ⟨117, [(3, .one (.int .i64 (j))), (1, .one (.ref () ⟨1, 0, []⟩))], [(1, [.own () .pt 62 [[.int .i64 n.kind, .int .i64 n.mode, .int .i64 n.owner, .int .i64 n.group, .int .i64 n.links, .int .i64 n.opens, .bool n.mark, .str n.text, .ro () 114 (row encE n.names)]]])]⟩ →
      ans Tryz.prog Tryz.f84 [.ro] (Mach.go Z (Z.H 84) ((.lp (lpc Tryz.f84 8)) :: .blk 0 :: r) σ) = some ⟨[(false, [.bool (allF (entS n) j m)])], []⟩ := by
  have hb : lpc Tryz.f84 8 = lpc Tryz.f84 8 := rfl
  conv at hb => rhs; simp only [lpc, bodyOf, Tryz.f84, nthLoop, headId, if_true, if_false, reduceIte, Nat.reduceEqDiff]
  have hc := fun r σ => congrArg (fun c => Mach.go Z (Z.H 84) (.code c :: r) σ) hb
  clear hb
  intro m
  induction m with
  | zero =>
    intro j σ h hσ
    have hx : ¬ j < n.names.length := by omega
    rw [go_lp, b84_8, L84_8, hσ, nx_, hc]
    simp [hx]
    exact (hr _ rfl).trans (by simp [allF])
  | succ m ih =>
    intro j σ h hσ
    have h2 : j < n.names.length := by omega
    have hl := hn.2.1
    have hj := wrapJ (show j ≤ 1000000000000 by omega)
    have hs := fn60 (nE n j).name (Nat.le_trans (hn.2.2 j h2) (by omega))
    rw [go_lp, b84_8, L84_8, hσ, nx_, hc]
    unfold allF
    by_cases h3 : nm (nE n j).name = true
    · by_cases h4 : inR (nE n j).id 1 9 = true
      · by_cases h5 : 0 < j
        · have a1 : IntKind.i64.wrap ((j : Int) - 1) = (j : Int) - 1 := wrap_in (by omega) (by omega)
          have a2 : ((j : Int) - 1).toNat = j - 1 := by omega
          have a3 : (1 : Int) ≤ j := by omega
          have a4 : (j : Int) - 1 < n.names.length := by omega
          have a5 : ¬ j = 0 := by omega
          have a6 : j - 1 < n.names.length := by omega
          by_cases h6 : lt (nE n (j - 1)).name (nE n j).name = true
          · simp [lt_eq, h2, hj, hs, h3, fn62, h4, h5, a1, a2, a3, a4, a6, h6]
            refine (ih (j + 1) _ (by omega) (by simp)).trans ?_
            simp [entS, h3, h4, h6]
          · simp [lt_eq, h2, hj, hs, h3, fn62, h4, h5, a1, a2, a3, a4, a5, a6, h6, entS]
        · have a5 : j = 0 := by omega
          subst a5
          simp [h2, hs, h3, fn62, h4]
          refine (ih 1 _ (by omega) (by simp [w1])).trans ?_
          simp [entS, h3, h4]
      · simp [h2, hj, hs, h3, fn62, h4, entS]
    · simp [h2, hj, hs, h3, entS]
theorem fn84 (n : Inode) (hn : OkN 1048576 n) : Fn Z 84 [.agg [.int .i64 n.kind, .int .i64 n.mode, .int .i64 n.owner, .int .i64 n.group, .int .i64 n.links, .int .i64 n.opens, .bool n.mark, .str n.text, .ro () 114 (row encE n.names)]] = some ⟨[(false, [.bool (nodS n)])], []⟩ := by
  have h106 := fn106 n
  unfold nodS
  refine Fn_ans Z rfl Tryz.func84 rfl K84 ?_
  rw [ZP, M84, nt84]
  have hb : bodyOf Tryz.f84 = bodyOf Tryz.f84 := rfl
  conv at hb => rhs; simp only [bodyOf, Tryz.f84]
  have hb8 : lpc Tryz.f84 8 = lpc Tryz.f84 8 := rfl
  conv at hb8 => rhs; simp only [lpc, bodyOf, Tryz.f84, nthLoop, headId, if_true, if_false, reduceIte, Nat.reduceEqDiff]
  rw [← hb8] at hb
  rw [hb]
  clear hb hb8
  by_cases q : n.kind = 0
  · rw [if_pos q]
    simp [eq_true q, h106]
  rw [if_neg q]
  by_cases q1 : inR n.kind 1 2 = true
  rotate_left 1
  · simp [q, fn62, fn64, q1]
  by_cases q2 : inR n.mode 0 511 = true
  rotate_left 1
  · simp [q, fn62, fn64, q1, q2]
  by_cases q3 : inR n.owner 0 9 = true
  rotate_left 1
  · simp [q, fn62, fn64, q1, q2, q3]
  by_cases q4 : inR n.group 0 9 = true
  rotate_left 1
  · simp [q, fn62, fn64, q1, q2, q3, q4]
  by_cases q5 : inR n.opens 0 99 = true
  rotate_left 1
  · simp [q, fn62, fn64, q1, q2, q3, q4, q5]
  by_cases q6 : inR n.links 0 99 = true
  rotate_left 1
  · simp [q, fn62, fn64, q1, q2, q3, q4, q5, q6]
  by_cases q7 : n.text.size ≤ 40
  rotate_left 1
  · have e7 : (40 : Int) < n.text.size := by omega
    simp [q, fn62, fn64, q1, q2, q3, q4, q5, q6, q7, e7]
  have e7 : ¬ (40 : Int) < n.text.size := by omega
  by_cases q8 : n.names.length ≤ 6
  rotate_left 1
  · have e8 : (6 : Int) < n.names.length := by omega
    simp [q, fn62, fn64, q1, q2, q3, q4, q5, q6, q7, e7, q8, e8]
  have e8 : ¬ (6 : Int) < n.names.length := by omega
  have hk : n.kind = 1 ∨ n.kind = 2 := by have := inR_iff.1 q1; omega
  rcases hk with k1 | k2
  · have k2 : ¬ n.kind = 2 := by omega
    by_cases q9 : 0 < n.names.length
    · simp [q, fn62, fn64, q1, q2, q3, q4, q5, q6, q7, e7, q8, e8, eq_true k1, k2, q9]
    · simp [q, fn62, fn64, q1, q2, q3, q4, q5, q6, q7, e7, q8, e8, eq_true k1, k2, q9]
      refine ev84 n hn _ (fun σ hσ => ?_) n.names.length 0 _ (by omega) (by simp)
      subst hσ
      simp
  · have k1 : ¬ n.kind = 1 := by omega
    by_cases q9 : n.text.size = 0
    rotate_left 1
    · simp [q, fn62, fn64, q1, q2, q3, q4, q5, q6, q7, e7, q8, e8, tl_ne, k1, eq_true k2, q9]
    by_cases q10 : n.mark = true
    · simp [q, fn62, fn64, q1, q2, q3, q4, q5, q6, q7, e7, q8, e8, tl_ne, k1, eq_true k2, q9, q10]
    · simp [q, fn62, fn64, q1, q2, q3, q4, q5, q6, q7, e7, q8, e8, tl_ne, k1, eq_true k2, q9, q10]
      have q11 : n.mark = false := by simpa using q10
      refine ev84 n hn _ (fun σ hσ => ?_) n.names.length 0 _ (by omega) (by simp [q11])
      subst hσ
      simp
end Go.Mach.Fv
