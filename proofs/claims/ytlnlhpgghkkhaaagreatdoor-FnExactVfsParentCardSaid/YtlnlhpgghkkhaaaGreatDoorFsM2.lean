/- A file system, as the program asks: the nodes. -/
import Derived.Test.YtlnlhpgghkkhaaaGreatDoorFsM
open Go Go.Mach Go.Mach.Fv Go.Proofs
set_option maxRecDepth 100000
set_option maxHeartbeats 8000000
set_option linter.unusedVariables false
set_option linter.unusedSimpArgs false
namespace Go.Mach.Fv
theorem nodI_1 {f : Fs} {n : Inode} (k1 : n.kind = 1) (q2 : inR n.mode 0 511 = true) (q3 : inR n.owner 0 9 = true) (q4 : inR n.group 0 9 = true) (q5 : inR n.opens 0 99 = true) (q7 : ¬ 40 < n.text.size) (q8 : ¬ 0 < n.names.length) : nodI f n = allF (entI f n) 0 n.names.length := by
  have h0 : ¬ n.kind = 0 := by omega
  have h2 : ¬ n.kind = 2 := by omega
  have h1 : inR n.kind 1 2 = true := by rw [k1]; rfl
  unfold nodI
  rw [if_neg h0, h1, q2, q3, q4, q5]
  simp [k1, q7, q8]
theorem nodI_2 {f : Fs} {n : Inode} (k2 : n.kind = 2) (q2 : inR n.mode 0 511 = true) (q3 : inR n.owner 0 9 = true) (q4 : inR n.group 0 9 = true) (q5 : inR n.opens 0 99 = true) (q7 : n.text.size = 0) (q9 : n.mark = false) (q8 : ¬ 6 < n.names.length) : nodI f n = allF (entI f n) 0 n.names.length := by
  have h0 : ¬ n.kind = 0 := by omega
  have h1 : inR n.kind 1 2 = true := by rw [k2]; rfl
  unfold nodI
  rw [if_neg h0, h1, q2, q3, q4, q5]
  simp [k2, q7, q8, q9]
theorem ev68a (f : Fs) (hf : f.length = 10) (hO : ∀ i : Nat, i < 10 → OkN 1048576 (N f i)) (r : List It) (R : Option Ret)
    (hr : (∀ i : Nat, i < 10 → nodI f (N f i) = true) → ∀ σ : St Unit, σ = ⟨230, [(1, .one (.ref () ⟨1, 0, []⟩)), (4, .one (.ref () ⟨4, 0, []⟩)), (3, .one (.ref () ⟨3, 0, []⟩))], [(1, [.own () .pt 65 [[.ro () 62 (row (encN 114 true) f)]]]), (4, [.own () .sl 3 (row encI (abL (edg f 10)))]), (3, [.own () .sl 3 (row encI (lkL (edg f 10)))])]⟩ → ans Tryz.prog Tryz.f68 [.ro] (Mach.go Z (Z.H 68) r σ) = R) :
    ∀ (n i : Nat) (σ : St Unit), i + n = 10 → (∀ k : Nat, k < i → nodI f (N f k) = true) → (edg f i).length ≤ 6 * i →
    σ.keep ⟨[29, 30, 28, 1, 4, 3], [], [29, 30, 28, 1, 4, 3]⟩ = some ⟨230, [(29, .one (.int .i64 (10))), (30, .one (.int .i64 (i))), (28, .one (.ro () 62 (row (encN 114 true) f))), (1, .one (.ref () ⟨1, 0, []⟩)), (4, .one (.ref () ⟨4, 0, []⟩)), (3, .one (.ref () ⟨3, 0, []⟩))], [(1, [.own () .pt 65 [[.ro () 62 (row (encN 114 true) f)]]]), (4, [.own () .sl 3 (row encI (abL (edg f i)))]), (3, [.own () .sl 3 (row encI (lkL (edg f i)))])]⟩ →
      ans Tryz.prog Tryz.f68 [.ro] (Mach.go Z (Z.H 68) ((.lp (lpc Tryz.f68 6)) :: .blk 0 :: r) σ) = if allF (fun i => nodI f (N f i)) i n = true then R else some ⟨[(false, [.bool false])], []⟩ := by
  have hb : lpc Tryz.f68 6 = lpc Tryz.f68 6 := rfl
  conv at hb => rhs; simp only [lpc, bodyOf, Tryz.f68, nthLoop, headId, if_true, if_false, reduceIte, Nat.reduceEqDiff]
  have hb16 : lpc Tryz.f68 16 = lpc Tryz.f68 16 := rfl
  conv at hb16 => rhs; simp only [lpc, bodyOf, Tryz.f68, nthLoop, headId, if_true, if_false, reduceIte, Nat.reduceEqDiff]
  rw [← hb16] at hb
  clear hb16
  have hc := fun r σ => congrArg (fun c => Mach.go Z (Z.H 68) (.code c :: r) σ) hb
  clear hb
  intro n
  induction n with
  | zero =>
    intro i σ h hv hle hσ
    have hx : ¬ (i : Int) < 10 := by omega
    have hi : i = 10 := by omega
    subst hi
    rw [go_lp, b68_6, L68_6, hσ, nx_, hc]
    rw [allF, if_pos rfl]
    simp [hx]
    exact hr hv _ rfl
  | succ n ih =>
    intro i σ h hv hle hσ
    have h2 : i < 10 := by omega
    have h3 : (i : Int) < 10 := by omega
    have h89 := fn89 (N f i)
    have hwi := wrapJ (show i ≤ 1000000000000 by omega)
    have hE : allF (fun i => nodI f (N f i)) i (n + 1) = (nodI f (N f i) && allF (fun i => nodI f (N f i)) (i + 1) n) := rfl
    have hfin : nodI f (N f i) = true → (N f i).names.length ≤ 6 → ∀ σ : St Unit, σ.keep ⟨[29, 30, 28, 1, 4, 3], [], [29, 30, 28, 1, 4, 3]⟩ = some ⟨230, [(29, .one (.int .i64 (10))), (30, .one (.int .i64 ((i : Int) + 1))), (28, .one (.ro () 62 (row (encN 114 true) f))), (1, .one (.ref () ⟨1, 0, []⟩)), (4, .one (.ref () ⟨4, 0, []⟩)), (3, .one (.ref () ⟨3, 0, []⟩))], [(1, [.own () .pt 65 [[.ro () 62 (row (encN 114 true) f)]]]), (4, [.own () .sl 3 (row encI (abL (edg f (i + 1))))]), (3, [.own () .sl 3 (row encI (lkL (edg f (i + 1))))])]⟩ →
        ans Tryz.prog Tryz.f68 [.ro] (Mach.go Z (Z.H 68) ((.lp (lpc Tryz.f68 6)) :: .blk 0 :: r) σ) = if allF (fun i => nodI f (N f i)) (i + 1) n = true then R else some ⟨[(false, [.bool false])], []⟩ := by
      intro hn hl6 σ hσ
      refine ih (i + 1) σ (by omega) (fun k hk => ?_) ?_ hσ
      · by_cases e : k = i
        · subst e; exact hn
        · exact hv k (by omega)
      · rw [edg_succ, List.length_append]
        have : (tagI (N f i) 0 i).length ≤ 6 := by simpa [tagI, ids] using hl6
        omega
    rw [go_lp, b68_6, L68_6, hσ, nx_, hc]
    rw [hE]
    by_cases q : (N f i).kind = 0
    · by_cases hp : plain (N f i) = true
      · have hn : nodI f (N f i) = true := by unfold nodI; rw [if_pos q, hp]
        have hz := (nod_plain hp).1
        have he : edg f (i + 1) = edg f i := by rw [edg_succ]; simp [tagI, ids, hz]
        rw [hn, Bool.true_and]
        simp [h2, h3, hf, eq_true q, h89, hp, hwi]
        exact hfin hn (by rw [hz]; simp) _ (by simp [he])
      · have hn : nodI f (N f i) = false := by unfold nodI; rw [if_pos q]; simpa using hp
        rw [hn, Bool.false_and, if_neg (by simp)]
        simp [h2, h3, hf, eq_true q, h89, hp]
    by_cases q1 : inR (N f i).kind 1 2 = true
    rotate_left 1
    · have hn : nodI f (N f i) = false := by unfold nodI; rw [if_neg q]; simp [q1]
      rw [hn, Bool.false_and, if_neg (by simp)]
      simp [h2, h3, hf, q, fn70, q1]
    by_cases q2 : inR (N f i).mode 0 511 = true
    rotate_left 1
    · have hn : nodI f (N f i) = false := by unfold nodI; rw [if_neg q]; simp [q2]
      rw [hn, Bool.false_and, if_neg (by simp)]
      simp [h2, h3, hf, q, fn70, q1, q2]
    by_cases q3 : inR (N f i).owner 0 9 = true
    rotate_left 1
    · have hn : nodI f (N f i) = false := by unfold nodI; rw [if_neg q]; simp [q3]
      rw [hn, Bool.false_and, if_neg (by simp)]
      simp [h2, h3, hf, q, fn70, q1, q2, q3]
    by_cases q4 : inR (N f i).group 0 9 = true
    rotate_left 1
    · have hn : nodI f (N f i) = false := by unfold nodI; rw [if_neg q]; simp [q4]
      rw [hn, Bool.false_and, if_neg (by simp)]
      simp [h2, h3, hf, q, fn70, q1, q2, q3, q4]
    by_cases q5 : inR (N f i).opens 0 99 = true
    rotate_left 1
    · have hn : nodI f (N f i) = false := by unfold nodI; rw [if_neg q]; simp [q5]
      rw [hn, Bool.false_and, if_neg (by simp)]
      simp [h2, h3, hf, q, fn70, q1, q2, q3, q4, q5]
    have hk : (N f i).kind = 1 ∨ (N f i).kind = 2 := by have := inR_iff.1 q1; omega
    rcases hk with k1 | k2
    · have k2 : ¬ (N f i).kind = 2 := by omega
      by_cases q7 : 40 < (N f i).text.size
      · have e7 : (40 : Int) < (N f i).text.size := by omega
        have hn : nodI f (N f i) = false := by unfold nodI; rw [if_neg q]; simp [k1, q7]
        rw [hn, Bool.false_and, if_neg (by simp)]
        simp [h2, h3, hf, q, fn70, q1, q2, q3, q4, q5, eq_true k1, k2, q7, e7]
      have e7 : ¬ (40 : Int) < (N f i).text.size := by omega
      by_cases q8 : 0 < (N f i).names.length
      · have hn : nodI f (N f i) = false := by unfold nodI; rw [if_neg q]; simp [k1, q8]
        rw [hn, Bool.false_and, if_neg (by simp)]
        simp [h2, h3, hf, q, fn70, q1, q2, q3, q4, q5, eq_true k1, k2, q7, e7, q8]
      have hI := nodI_1 (f := f) k1 q2 q3 q4 q5 q7 q8
      have hl6 : (N f i).names.length ≤ 6 := by omega
      have hlen : (edg f (i + 1)).length ≤ 1000000 := by
        rw [edg_succ, List.length_append]
        have : (tagI (N f i) 0 i).length ≤ 6 := by simpa [tagI, ids] using hl6
        omega
      simp [h2, h3, hf, q, fn70, q1, q2, q3, q4, q5, eq_true k1, k2, q7, e7, q8]
      by_cases hn : nodI f (N f i) = true
      · refine (ev68b f hf i h2 (N f i) (hO i h2) hl6 _ (if allF (fun i => nodI f (N f i)) (i + 1) n = true then R else some ⟨[(false, [.bool false])], []⟩) (edg f (i + 1)) hlen (fun σ hσ => ?_) (N f i).names.length 0 (edg f i) _ (by omega) (edg_succ f i) (by simp)).trans ?_
        · subst hσ
          simp [hwi]
          exact hfin hn hl6 _ (by simp)
        · rw [← hI, hn, if_pos rfl]
          simp
      · refine (ev68b f hf i h2 (N f i) (hO i h2) hl6 _ _ (edg f (i + 1)) hlen (fun σ hσ => by subst hσ; rfl) (N f i).names.length 0 (edg f i) _ (by omega) (edg_succ f i) (by simp)).trans ?_
        rw [← hI, if_neg hn, if_neg (fun q => hn q.1)]
    · have k1 : ¬ (N f i).kind = 1 := by omega
      by_cases q7 : (N f i).text.size = 0
      rotate_left 1
      · have hn : nodI f (N f i) = false := by unfold nodI; rw [if_neg q]; simp [k2, q7]
        rw [hn, Bool.false_and, if_neg (by simp)]
        simp [tl_ne, h2, h3, hf, q, fn70, q1, q2, q3, q4, q5, eq_true k2, k1, q7]
      by_cases q9 : (N f i).mark = true
      · have hn : nodI f (N f i) = false := by unfold nodI; rw [if_neg q]; simp [k2, q9]
        rw [hn, Bool.false_and, if_neg (by simp)]
        simp [tl_ne, h2, h3, hf, q, fn70, q1, q2, q3, q4, q5, eq_true k2, k1, q7, q9]
      have q9 : (N f i).mark = false := by simpa using q9
      by_cases q8 : 6 < (N f i).names.length
      · have hn : nodI f (N f i) = false := by unfold nodI; rw [if_neg q]; simp [k2, q8]
        have e8 : (6 : Int) < (N f i).names.length := by omega
        rw [hn, Bool.false_and, if_neg (by simp)]
        simp [tl_ne, h2, h3, hf, q, fn70, q1, q2, q3, q4, q5, eq_true k2, k1, q7, q9, q8, e8]
      have e8 : ¬ (6 : Int) < (N f i).names.length := by omega
      have hI := nodI_2 (f := f) k2 q2 q3 q4 q5 q7 q9 q8
      have hl6 : (N f i).names.length ≤ 6 := by omega
      have hlen : (edg f (i + 1)).length ≤ 1000000 := by
        rw [edg_succ, List.length_append]
        have : (tagI (N f i) 0 i).length ≤ 6 := by simpa [tagI, ids] using hl6
        omega
      simp [tl_ne, h2, h3, hf, q, fn70, q1, q2, q3, q4, q5, eq_true k2, k1, q7, q9, q8, e8]
      by_cases hn : nodI f (N f i) = true
      · refine (ev68b f hf i h2 (N f i) (hO i h2) hl6 _ (if allF (fun i => nodI f (N f i)) (i + 1) n = true then R else some ⟨[(false, [.bool false])], []⟩) (edg f (i + 1)) hlen (fun σ hσ => ?_) (N f i).names.length 0 (edg f i) _ (by omega) (edg_succ f i) (by simp [q9])).trans ?_
        · subst hσ
          simp [hwi]
          exact hfin hn hl6 _ (by simp)
        · rw [← hI, hn, if_pos rfl]
          simp
      · refine (ev68b f hf i h2 (N f i) (hO i h2) hl6 _ _ (edg f (i + 1)) hlen (fun σ hσ => by subst hσ; rfl) (N f i).names.length 0 (edg f i) _ (by omega) (edg_succ f i) (by simp [q9])).trans ?_
        rw [← hI, if_neg hn, if_neg (fun q => hn q.1)]
end Go.Mach.Fv
