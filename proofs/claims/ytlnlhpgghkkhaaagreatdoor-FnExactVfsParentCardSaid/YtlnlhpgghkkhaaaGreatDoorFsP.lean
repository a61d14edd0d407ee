/- Folders above. -/
import Derived.Test.YtlnlhpgghkkhaaaGreatDoorFsZ
open Go Go.Mach Go.Mach.Fv Go.Proofs
set_option maxRecDepth 100000
set_option maxHeartbeats 4000000
set_option linter.unusedVariables false
set_option linter.unusedSimpArgs false
namespace Go.Mach.Fv
def parS (f : Fs) (id : Int) : Nat → Nat → Int × ByteArray
  | i, 0 => (0, ⟨#[]⟩)
  | i, n + 1 => if 0 ≤ hasE (N f i) id then ((i : Int), (nE (N f i) (hasE (N f i) id).toNat).name) else parS f id (i + 1) n
theorem hasE_eq (n : Inode) (id : Int) : hasE n id = ix (fun i => decide ((nE n i).id = id)) 0 n.names.length := rfl
theorem ev47b (f : Fs) (id : Int) (n : Inode) (hm : n.names.length ≤ 1000000) (i : Nat) (r : List It) (R : Option Ret)
    (hr : ∀ σ : St Unit, σ = ⟨34, [(13, .one (.int .i64 (i))), (12, .one (.int .i64 (f.length))), (1, .one (.int .i64 (id))), (11, .one (.ro () 62 (row (encN 114 true) f)))], []⟩ → ans Tryz.prog Tryz.f47 [.ro, .ro] (Mach.go Z (Z.H 47) r σ) = R) :
    ∀ (m k : Nat) (σ : St Unit), k + m = n.names.length →
    σ.keep ⟨[20, 21, 6, 19, 13, 12, 1, 11], [], [20, 21, 6, 19, 13, 12, 1, 11]⟩ = some ⟨34, [(20, .one (.int .i64 (n.names.length))), (21, .one (.int .i64 (k))), (6, .one (.int .i64 (i))), (19, .one (.ro () 114 (row encE n.names))), (13, .one (.int .i64 (i))), (12, .one (.int .i64 (f.length))), (1, .one (.int .i64 (id))), (11, .one (.ro () 62 (row (encN 114 true) f)))], []⟩ →
      ans Tryz.prog Tryz.f47 [.ro, .ro] (Mach.go Z (Z.H 47) ((.lp (lpc Tryz.f47 5)) :: .blk 2 :: r) σ) = if 0 ≤ ix (fun i => decide ((nE n i).id = id)) k m then some ⟨[(false, [.int .i64 i]), (false, [.str (nE n (ix (fun i => decide ((nE n i).id = id)) k m).toNat).name])], []⟩ else R := by
  have hb : lpc Tryz.f47 5 = lpc Tryz.f47 5 := rfl
  conv at hb => rhs; simp only [lpc, bodyOf, Tryz.f47, nthLoop, headId, if_true, if_false, reduceIte, Nat.reduceEqDiff]
  have hc := fun r σ => congrArg (fun c => Mach.go Z (Z.H 47) (.code c :: r) σ) hb
  clear hb
  intro m
  induction m with
  | zero =>
    intro k σ h hσ
    have hx : ¬ k < n.names.length := by omega
    rw [go_lp, b47_5, L47_5, hσ, nx_, hc]
    unfold ix
    rw [if_neg (by omega)]
    simp [hx]
    exact hr _ rfl
  | succ m ih =>
    intro k σ h hσ
    have h2 : k < n.names.length := by omega
    rw [go_lp, b47_5, L47_5, hσ, nx_, hc]
    by_cases h3 : (nE n k).id = id
    · have e : ix (fun i => decide ((nE n i).id = id)) k (m + 1) = (k : Int) := by unfold ix; simp [h3]
      rw [e, if_pos (by omega)]
      simp [h2, eq_true h3]
    · have e : ix (fun i => decide ((nE n i).id = id)) k (m + 1) = ix (fun i => decide ((nE n i).id = id)) (k + 1) m := by rw [ix]; simp [h3]
      rw [e]
      simp [h2, h3, wrapJ (show k ≤ 1000000000000 by omega)]
      exact ih (k + 1) _ (by omega) (by simp)
theorem ev47 (f : Fs) (id : Int) (hf : f.length ≤ 1000000) (hm : ∀ i : Nat, i < f.length → (N f i).names.length ≤ 1000000) (r : List It)
    (hr : ∀ σ : St Unit, σ = ⟨34, [], []⟩ → ans Tryz.prog Tryz.f47 [.ro, .ro] (Mach.go Z (Z.H 47) r σ) = some ⟨[(false, [.int .i64 0]), (false, [.str ⟨#[]⟩])], []⟩) :
    ∀ (n i : Nat) (σ : St Unit), i + n = f.length →
    σ.keep ⟨[12, 13, 1, 11], [], [12, 13, 1, 11]⟩ = some ⟨34, [(12, .one (.int .i64 (f.length))), (13, .one (.int .i64 (i))), (1, .one (.int .i64 (id))), (11, .one (.ro () 62 (row (encN 114 true) f)))], []⟩ →
      ans Tryz.prog Tryz.f47 [.ro, .ro] (Mach.go Z (Z.H 47) ((.lp (lpc Tryz.f47 2)) :: .blk 0 :: r) σ) = some ⟨[(false, [.int .i64 (parS f id i n).1]), (false, [.str (parS f id i n).2])], []⟩ := by
  have hb : lpc Tryz.f47 2 = lpc Tryz.f47 2 := rfl
  conv at hb => rhs; simp only [lpc, bodyOf, Tryz.f47, nthLoop, headId, if_true, if_false, reduceIte, Nat.reduceEqDiff]
  have hb5 : lpc Tryz.f47 5 = lpc Tryz.f47 5 := rfl
  conv at hb5 => rhs; simp only [lpc, bodyOf, Tryz.f47, nthLoop, headId, if_true, if_false, reduceIte, Nat.reduceEqDiff]
  rw [← hb5] at hb
  clear hb5
  have hc := fun r σ => congrArg (fun c => Mach.go Z (Z.H 47) (.code c :: r) σ) hb
  clear hb
  intro n
  induction n with
  | zero =>
    intro i σ h hσ
    have hx : ¬ i < f.length := by omega
    rw [go_lp, b47_2, L47_2, hσ, nx_, hc]
    simp [hx]
    exact hr _ rfl
  | succ n ih =>
    intro i σ h hσ
    have h2 : i < f.length := by omega
    rw [go_lp, b47_2, L47_2, hσ, nx_, hc]
    simp [h2]
    refine (ev47b f id (N f i) (hm i h2) i _ (some ⟨[(false, [.int .i64 (parS f id (i + 1) n).1]), (false, [.str (parS f id (i + 1) n).2])], []⟩) (fun σ hσ => ?_) (N f i).names.length 0 _ (by omega) (by simp)).trans ?_
    rotate_left 1
    · have e : parS f id i (n + 1) = if 0 ≤ hasE (N f i) id then ((i : Int), (nE (N f i) (hasE (N f i) id).toNat).name) else parS f id (i + 1) n := rfl
      rw [e, ← hasE_eq]
      by_cases h3 : 0 ≤ hasE (N f i) id
      · rw [if_pos h3, if_pos h3]
      · rw [if_neg h3, if_neg h3]
    · subst hσ
      simp [wrapJ (show i ≤ 1000000000000 by omega)]
      exact ih (i + 1) _ (by omega) (by simp)
theorem fn47 (f : Fs) (id : Int) (hf : f.length ≤ 1000000) (hm : ∀ i : Nat, i < f.length → (N f i).names.length ≤ 1000000) : Fn Z 47 [.agg [.ro () 62 (row (encN 114 true) f)], .one (.int .i64 (id))] = some ⟨[(false, [.int .i64 (parS f id 0 f.length).1]), (false, [.str (parS f id 0 f.length).2])], []⟩ := by
  refine Fn_ans Z rfl Tryz.func47 rfl K47 ?_
  rw [ZP, M47, nt47]
  have hb : bodyOf Tryz.f47 = bodyOf Tryz.f47 := rfl
  conv at hb => rhs; simp only [bodyOf, Tryz.f47]
  have hb2 : lpc Tryz.f47 2 = lpc Tryz.f47 2 := rfl
  conv at hb2 => rhs; simp only [lpc, bodyOf, Tryz.f47, nthLoop, headId, if_true, if_false, reduceIte, Nat.reduceEqDiff]
  rw [← hb2] at hb
  rw [hb]
  clear hb hb2
  simp
  refine ev47 f id hf hm _ (fun σ hσ => ?_) f.length 0 _ (by omega) (by simp)
  subst hσ
  simp
theorem parS_par (f : Fs) (id : Int) : ∀ n i : Nat, 0 ≤ ix (fun i => decide (0 ≤ hasE (N f i) id)) i n → (parS f id i n).1 = ix (fun i => decide (0 ≤ hasE (N f i) id)) i n
  | 0, i, h => by simp [ix] at h
  | n + 1, i, h => by
    unfold ix at h ⊢
    unfold parS
    by_cases h3 : 0 ≤ hasE (N f i) id
    · rw [if_pos h3, if_pos (decide_eq_true h3)]
    · rw [if_neg (by simpa using h3)] at h
      rw [if_neg h3, if_neg (by simpa using h3)]
      exact parS_par f id n (i + 1) h
abbrev pl (a b : Int) : Option Ret := some ⟨[(true, [.int .i64 a, .int .i64 b])], []⟩
theorem ev49b (f : Fs) (p : Place) (i : Nat) (hi : i < f.length) (hm : (N f i).names.length ≤ 1000000) (r : List It) (R : Option Ret)
    (hr : ∀ σ : St Unit, σ = ⟨65, [(6, .one (.int .i64 (i))), (5, .one (.ref () ⟨5, 0, []⟩)), (3, .one (.ref () ⟨3, 0, []⟩)), (4, .one (.ref () ⟨4, 0, []⟩))], [(5, [.own () .pt 65 [[.ro () 62 (row (encN 114 true) f)]]]), (3, [.own () .pt 32 [[.int .i64 p.fs, .int .i64 p.id]]]), (4, [.own () .pt 32 [[.int .i64 0, .int .i64 0]]])]⟩ → ans Tryz.prog Tryz.f49 [.ro, .ro] (Mach.go Z (Z.H 49) r σ) = R) :
    ∀ (m k : Nat) (σ : St Unit), k + m = (N f i).names.length →
    σ.keep ⟨[7, 6, 5, 3, 4], [], [7, 6, 5, 3, 4]⟩ = some ⟨65, [(7, .one (.int .i64 (k))), (6, .one (.int .i64 (i))), (5, .one (.ref () ⟨5, 0, []⟩)), (3, .one (.ref () ⟨3, 0, []⟩)), (4, .one (.ref () ⟨4, 0, []⟩))], [(5, [.own () .pt 65 [[.ro () 62 (row (encN 114 true) f)]]]), (3, [.own () .pt 32 [[.int .i64 p.fs, .int .i64 p.id]]]), (4, [.own () .pt 32 [[.int .i64 0, .int .i64 0]]])]⟩ →
      ans Tryz.prog Tryz.f49 [.ro, .ro] (Mach.go Z (Z.H 49) ((.lp (lpc Tryz.f49 10)) :: .blk 2 :: r) σ) = if 0 ≤ ix (fun j => decide ((nE (N f i) j).id = p.id)) k m then some ⟨[(true, [.int .i64 p.fs, .int .i64 i])], []⟩ else R := by
  have hb : lpc Tryz.f49 10 = lpc Tryz.f49 10 := rfl
  conv at hb => rhs; simp only [lpc, bodyOf, Tryz.f49, nthLoop, headId, if_true, if_false, reduceIte, Nat.reduceEqDiff]
  have hc := fun r σ => congrArg (fun c => Mach.go Z (Z.H 49) (.code c :: r) σ) hb
  clear hb
  intro m
  induction m with
  | zero =>
    intro k σ h hσ
    have hx : ¬ k < (N f i).names.length := by omega
    rw [go_lp, b49_10, L49_10, hσ, nx_, hc]
    unfold ix
    rw [if_neg (by omega)]
    simp [hx, hi]
    exact hr _ rfl
  | succ m ih =>
    intro k σ h hσ
    have h2 : k < (N f i).names.length := by omega
    rw [go_lp, b49_10, L49_10, hσ, nx_, hc]
    by_cases h3 : (nE (N f i) k).id = p.id
    · have e : ix (fun j => decide ((nE (N f i) j).id = p.id)) k (m + 1) = (k : Int) := by unfold ix; simp [h3]
      rw [e, if_pos (by omega)]
      simp [h2, hi, eq_true h3]
    · have e : ix (fun j => decide ((nE (N f i) j).id = p.id)) k (m + 1) = ix (fun j => decide ((nE (N f i) j).id = p.id)) (k + 1) m := by rw [ix]; simp [h3]
      rw [e]
      simp [h2, hi, h3, wrapJ (show k ≤ 1000000000000 by omega)]
      exact ih (k + 1) _ (by omega) (by simp)
theorem ev49 (f : Fs) (p : Place) (hf : f.length ≤ 1000000) (hm : ∀ i : Nat, i < f.length → (N f i).names.length ≤ 1000000) (r : List It)
    (hr : ∀ σ : St Unit, σ = ⟨65, [(3, .one (.ref () ⟨3, 0, []⟩)), (4, .one (.ref () ⟨4, 0, []⟩))], [(3, [.own () .pt 32 [[.int .i64 p.fs, .int .i64 p.id]]]), (4, [.own () .pt 32 [[.int .i64 0, .int .i64 0]]])]⟩ → ans Tryz.prog Tryz.f49 [.ro, .ro] (Mach.go Z (Z.H 49) r σ) = some ⟨[(true, [.int .i64 p.fs, .int .i64 p.id])], []⟩) :
    ∀ (n i : Nat) (σ : St Unit), i + n = f.length →
    σ.keep ⟨[6, 5, 3, 4], [], [6, 5, 3, 4]⟩ = some ⟨65, [(6, .one (.int .i64 (i))), (5, .one (.ref () ⟨5, 0, []⟩)), (3, .one (.ref () ⟨3, 0, []⟩)), (4, .one (.ref () ⟨4, 0, []⟩))], [(5, [.own () .pt 65 [[.ro () 62 (row (encN 114 true) f)]]]), (3, [.own () .pt 32 [[.int .i64 p.fs, .int .i64 p.id]]]), (4, [.own () .pt 32 [[.int .i64 0, .int .i64 0]]])]⟩ →
      ans Tryz.prog Tryz.f49 [.ro, .ro] (Mach.go Z (Z.H 49) ((.lp (lpc Tryz.f49 7)) :: .blk 0 :: r) σ) = if 0 ≤ ix (fun i => decide (0 ≤ hasE (N f i) p.id)) i n then some ⟨[(true, [.int .i64 p.fs, .int .i64 (ix (fun i => decide (0 ≤ hasE (N f i) p.id)) i n)])], []⟩ else some ⟨[(true, [.int .i64 p.fs, .int .i64 p.id])], []⟩ := by
  have hb : lpc Tryz.f49 7 = lpc Tryz.f49 7 := rfl
  conv at hb => rhs; simp only [lpc, bodyOf, Tryz.f49, nthLoop, headId, if_true, if_false, reduceIte, Nat.reduceEqDiff]
  have hb10 : lpc Tryz.f49 10 = lpc Tryz.f49 10 := rfl
  conv at hb10 => rhs; simp only [lpc, bodyOf, Tryz.f49, nthLoop, headId, if_true, if_false, reduceIte, Nat.reduceEqDiff]
  rw [← hb10] at hb
  clear hb10
  have hc := fun r σ => congrArg (fun c => Mach.go Z (Z.H 49) (.code c :: r) σ) hb
  clear hb
  intro n
  induction n with
  | zero =>
    intro i σ h hσ
    have hx : ¬ i < f.length := by omega
    rw [go_lp, b49_7, L49_7, hσ, nx_, hc]
    rw [ix, if_neg (by omega)]
    simp [hx]
    exact hr _ rfl
  | succ n ih =>
    intro i σ h hσ
    have h2 : i < f.length := by omega
    rw [go_lp, b49_7, L49_7, hσ, nx_, hc]
    simp [h2]
    refine (ev49b f p i h2 (hm i h2) _ (if 0 ≤ ix (fun i => decide (0 ≤ hasE (N f i) p.id)) (i + 1) n then some ⟨[(true, [.int .i64 p.fs, .int .i64 (ix (fun i => decide (0 ≤ hasE (N f i) p.id)) (i + 1) n)])], []⟩ else some ⟨[(true, [.int .i64 p.fs, .int .i64 p.id])], []⟩) (fun σ hσ => ?_) (N f i).names.length 0 _ (by omega) (by simp)).trans ?_
    rotate_left 1
    · rw [← hasE_eq]
      by_cases h3 : 0 ≤ hasE (N f i) p.id
      · have e : ix (fun i => decide (0 ≤ hasE (N f i) p.id)) i (n + 1) = (i : Int) := by unfold ix; simp [h3]
        rw [if_pos h3, e, if_pos (by omega)]
      · have e : ix (fun i => decide (0 ≤ hasE (N f i) p.id)) i (n + 1) = ix (fun i => decide (0 ≤ hasE (N f i) p.id)) (i + 1) n := by rw [ix]; simp [h3]
        rw [if_neg h3, e]
    · subst hσ
      simp [wrapJ (show i ≤ 1000000000000 by omega)]
      exact ih (i + 1) _ (by omega) (by simp)
theorem upF_eq (v : Vfs) (p : Place) : (if 0 ≤ ix (fun i => decide (0 ≤ hasE (N (F v p.fs) i) p.id)) 0 (F v p.fs).length then some ⟨[(true, [.int .i64 p.fs, .int .i64 (ix (fun i => decide (0 ≤ hasE (N (F v p.fs) i) p.id)) 0 (F v p.fs).length)])], []⟩ else some ⟨[(true, [.int .i64 p.fs, .int .i64 p.id])], []⟩ : Option Ret) = some ⟨[(true, [.int .i64 (upF v p).fs, .int .i64 (upF v p).id])], []⟩ := by
  unfold upF parN
  by_cases h : 0 ≤ ix (fun i => decide (0 ≤ hasE (N (F v p.fs) i) p.id)) 0 (F v p.fs).length
  · rw [if_pos h, if_pos h]
  · rw [if_neg h, if_neg h]
theorem fn49 (v : Vfs) (p : Place) (h : L2 v) (hp0 : 0 ≤ p.fs) (hp1 : p.fs ≤ 1) (hm : ∀ (a : Int) (i : Nat), 0 ≤ a → a ≤ 1 → i < 10 → (N (F v a) i).names.length ≤ 1000000) :
    Fn Z 49 [.agg [.ro () 65 (row (encF 62 114 true) v.fss), .int .i64 v.mount], .agg [.int .i64 p.fs, .int .i64 p.id]] = some ⟨[(true, [.int .i64 (up v p).fs, .int .i64 (up v p).id])], []⟩ := by
  have hl := h.l
  have hn := h.n p.fs hp0 hp1
  have hn0 := h.n 0 (by omega) (by omega)
  have h3 : p.fs < 2 := by omega
  have hf : (F v p.fs).length ≤ 1000000 := by omega
  have hf0 : (F v 0).length ≤ 1000000 := by omega
  have hm1 : ∀ i : Nat, i < (F v p.fs).length → (N (F v p.fs) i).names.length ≤ 1000000 := fun i hi => hm _ i hp0 hp1 (by omega)
  have hm0 : ∀ i : Nat, i < (F v 0).length → (N (F v 0) i).names.length ≤ 1000000 := fun i hi => hm 0 i (by omega) (by omega) (by omega)
  unfold up
  refine Fn_ans Z rfl Tryz.func49 rfl K49 ?_
  rw [ZP, M49, nt49]
  have hb : bodyOf Tryz.f49 = bodyOf Tryz.f49 := rfl
  conv at hb => rhs; simp only [bodyOf, Tryz.f49]
  have hb7 : lpc Tryz.f49 7 = lpc Tryz.f49 7 := rfl
  conv at hb7 => rhs; simp only [lpc, bodyOf, Tryz.f49, nthLoop, headId, if_true, if_false, reduceIte, Nat.reduceEqDiff]
  rw [← hb7] at hb
  rw [hb]
  clear hb hb7
  by_cases q0 : p.id = 0
  · rw [if_pos q0]
    by_cases q1 : p.fs = 0
    · rw [if_pos (.inl q1)]
      simp [eq_true q0, eq_true q1]
    · by_cases q2 : v.mount < 0
      · rw [if_pos (.inr q2)]
        simp [eq_true q0, q1, q2]
      · rw [if_neg (by omega)]
        simp [eq_true q0, q1, q2, hl]
        refine (ev49 (F v 0) ⟨0, v.mount⟩ hf0 hm0 _ (fun σ hσ => ?_) (F v 0).length 0 _ (by omega) (by simp)).trans (upF_eq v ⟨0, v.mount⟩)
        subst hσ
        simp
  · rw [if_neg q0]
    simp [q0, hl, hp0, h3]
    refine (ev49 (F v p.fs) p hf hm1 _ (fun σ hσ => ?_) (F v p.fs).length 0 _ (by omega) (by simp)).trans (upF_eq v p)
    subst hσ
    simp
end Go.Mach.Fv
