/- A file system, as the program asks: whole. -/
import Derived.Test.YtlnlhpgghkkhaaaGreatDoorFsM2
open Go Go.Mach Go.Mach.Fv Go.Proofs
set_option maxRecDepth 100000
set_option maxHeartbeats 8000000
set_option linter.unusedVariables false
set_option linter.unusedSimpArgs false
namespace Go.Mach.Fv
theorem ab_in : ∀ (es : List (Int × Int)) (x z : Int), (∀ p ∈ es, 0 ≤ p.2 ∧ p.2 < 10) → 0 ≤ z → z < 10 → 0 ≤ es.foldl (fun a p => if p.1 = x then p.2 else a) z ∧ es.foldl (fun a p => if p.1 = x then p.2 else a) z < 10
  | [], x, z, h, h0, h1 => ⟨h0, h1⟩
  | p :: es, x, z, h, h0, h1 => by
    rw [List.foldl_cons]
    have hp := h p (by simp)
    refine ab_in es x _ (fun q hq => h q (by simp [hq])) ?_ ?_ <;> split <;> omega
theorem ab_edg (f : Fs) (x : Int) : 0 ≤ ab (edg f 10) x ∧ ab (edg f 10) x < 10 := ab_in _ x 0 (fun p hp => by
  obtain ⟨k, i⟩ := p
  have := mem_edg.1 hp
  exact ⟨this.1, this.2.1⟩) (by omega) (by omega)
theorem ev68d (f : Fs) (k : Nat) (r : List It) (R : Option Ret)
    (hr : ∀ σ : St Unit, σ = ⟨230, [(165, .one (.int .i64 (k))), (164, .one (.int .i64 (10))), (4, .one (.ref () ⟨4, 0, []⟩)), (3, .one (.ref () ⟨3, 0, []⟩)), (163, .one (.ro () 62 (row (encN 114 true) f)))], [(4, [.own () .sl 3 (row encI (abL (edg f 10)))]), (3, [.own () .sl 3 (row encI (lkL (edg f 10)))])]⟩ → ans Tryz.prog Tryz.f68 [.ro] (Mach.go Z (Z.H 68) r σ) = R) :
    ∀ (n s : Nat) (at' : Int) (σ : St Unit), s + n = 11 → 0 ≤ at' → at' < 10 →
    σ.keep ⟨[12, 11, 165, 164, 4, 3, 163], [], [12, 11, 165, 164, 4, 3, 163]⟩ = some ⟨230, [(12, .one (.int .i64 (s))), (11, .one (.int .i64 (at'))), (165, .one (.int .i64 (k))), (164, .one (.int .i64 (10))), (4, .one (.ref () ⟨4, 0, []⟩)), (3, .one (.ref () ⟨3, 0, []⟩)), (163, .one (.ro () 62 (row (encN 114 true) f)))], [(4, [.own () .sl 3 (row encI (abL (edg f 10)))]), (3, [.own () .sl 3 (row encI (lkL (edg f 10)))])]⟩ →
      ans Tryz.prog Tryz.f68 [.ro] (Mach.go Z (Z.H 68) ((.lp (lpc Tryz.f68 36)) :: .blk 7 :: r) σ) = if climb (ab (edg f 10)) n at' = true then R else some ⟨[(false, [.bool false])], []⟩ := by
  have hb : lpc Tryz.f68 36 = lpc Tryz.f68 36 := rfl
  conv at hb => rhs; simp only [lpc, bodyOf, Tryz.f68, nthLoop, headId, if_true, if_false, reduceIte, Nat.reduceEqDiff]
  have hc := fun r σ => congrArg (fun c => Mach.go Z (Z.H 68) (.code c :: r) σ) hb
  clear hb
  intro n
  induction n with
  | zero =>
    intro s at' σ h h0 h1 hσ
    have hs : s = 11 := by omega
    subst hs
    rw [go_lp, b68_36, L68_36, hσ, nx_, hc]
    by_cases q : at' = 0
    · rw [climb, if_pos (by simp [q])]
      simp [eq_true q]
      exact hr _ rfl
    · rw [climb, if_neg (by simp [q])]
      simp [q]
  | succ n ih =>
    intro s at' σ h h0 h1 hσ
    have hs : ¬ (10 : Int) < s := by omega
    have e3 := abL_len (edg f 10)
    have e4 := abL_el (edg f 10) h0 h1
    rw [go_lp, b68_36, L68_36, hσ, nx_, hc]
    by_cases q : at' = 0
    · rw [climb, if_pos q, if_pos rfl]
      simp [eq_true q]
      exact hr _ rfl
    · rw [climb, if_neg q]
      simp [encI, q, hs, h0, h1, e3, e4, wrapJ (show s ≤ 1000000000000 by omega)]
      exact ih (s + 1) (ab (edg f 10) at') _ (by omega) (ab_edg f at').1 (ab_edg f at').2 (by simp)
theorem nodI_kind {f : Fs} {n : Inode} (h : nodI f n = true) : n.kind = 0 ∨ n.kind = 1 ∨ n.kind = 2 := by
  unfold nodI at h
  split at h
  · rename_i hk; exact .inl hk
  · simp only [Bool.and_eq_true, inR_iff] at h
    omega
theorem finI_0 {f : Fs} {k : Nat} (h : (N f k).kind = 0) : finI f k = true := by unfold finI; simp [h]
theorem finI_n {f : Fs} {k : Nat} (h : ¬ (N f k).kind = 0) : finI f k = (decide ((N f k).links = lk (edg f 10) k) && !(decide ((N f k).kind = 1) && decide ((N f k).links = 0) && decide ((N f k).opens = 0)) && !(decide ((N f k).kind = 2) && decide (0 < k) && !decide ((N f k).links = 1)) && !(decide (k = 0) && !decide ((N f k).links = 0)) &&
    (if (N f k).kind = 2 then climb (ab (edg f 10)) 11 k else true)) := by unfold finI; simp [h]
theorem ev68c (f : Fs) (hf : f.length = 10) (hN : ∀ i : Nat, i < 10 → nodI f (N f i) = true) (r : List It)
    (hr : ∀ σ : St Unit, σ = ⟨230, [], []⟩ → ans Tryz.prog Tryz.f68 [.ro] (Mach.go Z (Z.H 68) r σ) = some ⟨[(false, [.bool true])], []⟩) :
    ∀ (n k : Nat) (σ : St Unit), k + n = 10 →
    σ.keep ⟨[164, 165, 4, 3, 163], [], [164, 165, 4, 3, 163]⟩ = some ⟨230, [(164, .one (.int .i64 (10))), (165, .one (.int .i64 (k))), (4, .one (.ref () ⟨4, 0, []⟩)), (3, .one (.ref () ⟨3, 0, []⟩)), (163, .one (.ro () 62 (row (encN 114 true) f)))], [(4, [.own () .sl 3 (row encI (abL (edg f 10)))]), (3, [.own () .sl 3 (row encI (lkL (edg f 10)))])]⟩ →
      ans Tryz.prog Tryz.f68 [.ro] (Mach.go Z (Z.H 68) ((.lp (lpc Tryz.f68 25)) :: .blk 4 :: r) σ) = some ⟨[(false, [.bool (allF (finI f) k n)])], []⟩ := by
  have hb : lpc Tryz.f68 25 = lpc Tryz.f68 25 := rfl
  conv at hb => rhs; simp only [lpc, bodyOf, Tryz.f68, nthLoop, headId, if_true, if_false, reduceIte, Nat.reduceEqDiff]
  have hb36 : lpc Tryz.f68 36 = lpc Tryz.f68 36 := rfl
  conv at hb36 => rhs; simp only [lpc, bodyOf, Tryz.f68, nthLoop, headId, if_true, if_false, reduceIte, Nat.reduceEqDiff]
  rw [← hb36] at hb
  clear hb36
  have hc := fun r σ => congrArg (fun c => Mach.go Z (Z.H 68) (.code c :: r) σ) hb
  clear hb
  intro n
  induction n with
  | zero =>
    intro k σ h hσ
    have hx : ¬ (k : Int) < 10 := by omega
    rw [go_lp, b68_25, L68_25, hσ, nx_, hc]
    simp [hx]
    exact (hr _ rfl).trans (by simp [allF])
  | succ n ih =>
    intro k σ h hσ
    have h2 : k < 10 := by omega
    have h3 : (k : Int) < 10 := by omega
    have h0 : (0 : Int) ≤ k := by omega
    have e3 := lkL_len (edg f 10)
    have e4 := lkL_el (edg f 10) h0 h3
    have hw := wrapJ (show k ≤ 1000000000000 by omega)
    have hE : allF (finI f) k (n + 1) = (finI f k && allF (finI f) (k + 1) n) := rfl
    rw [go_lp, b68_25, L68_25, hσ, nx_, hc]
    rw [hE]
    by_cases q : (N f k).kind = 0
    · rw [finI_0 q, Bool.true_and]
      simp [encI, h2, h3, hf, eq_true q, hw]
      exact ih (k + 1) _ (by omega) (by simp)
    rw [finI_n q]
    by_cases c2 : (N f k).links = lk (edg f 10) k
    rotate_left 1
    · rw [decide_eq_false c2]
      simp [encI, h2, h3, hf, q, e3, e4, c2]
    rw [decide_eq_true c2, Bool.true_and]
    have hk : (N f k).kind = 1 ∨ (N f k).kind = 2 := by rcases nodI_kind (hN k h2) with h | h | h <;> omega
    rcases hk with k1 | k2
    · have k2 : ¬ (N f k).kind = 2 := by omega
      by_cases c3 : (N f k).links = 0
      · have c3' : ((lk (edg f 10) k : Nat) : Int) = 0 := by omega
        by_cases c4 : (N f k).opens = 0
        · simp [encI, h2, h3, hf, q, e3, e4, eq_true c2, eq_true k1, k2, eq_true c3, eq_true c4]
        · by_cases c5 : k = 0
          · simp [encI, h2, h3, hf, q, e3, e4, eq_true c2, eq_true k1, k2, eq_true c3, c4, eq_true c5, hw]
            exact ih (k + 1) _ (by omega) (by simp)
          · have c5' : ¬ (k : Int) = 0 := by omega
            simp [encI, h2, h3, hf, q, e3, e4, eq_true c2, eq_true k1, k2, eq_true c3, c4, c5, c5', hw]
            exact ih (k + 1) _ (by omega) (by simp)
      · by_cases c5 : k = 0
        · simp [encI, h2, h3, hf, q, e3, e4, eq_true c2, eq_true k1, k2, c3, eq_true c5]
        · have c5' : ¬ (k : Int) = 0 := by omega
          simp [encI, h2, h3, hf, q, e3, e4, eq_true c2, eq_true k1, k2, c3, c5, c5', hw]
          exact ih (k + 1) _ (by omega) (by simp)
    · have k1 : ¬ (N f k).kind = 1 := by omega
      by_cases c5 : k = 0
      · have c6 : ¬ 0 < k := by omega
        have c7 : ¬ (0 : Int) < k := by omega
        by_cases c3 : (N f k).links = 0
        · simp [encI, h2, h3, hf, q, e3, e4, eq_true c2, k1, eq_true k2, eq_true c3, eq_true c5, c6, c7]
          refine (ev68d f k _ (some ⟨[(false, [.bool (allF (finI f) (k + 1) n)])], []⟩) (fun σ hσ => ?_) 11 0 k _ (by omega) h0 h3 (by simp)).trans ?_
          · subst hσ
            simp [hw]
            exact ih (k + 1) _ (by omega) (by simp)
          · cases climb (ab (edg f 10)) 11 k <;> simp
        · simp [encI, h2, h3, hf, q, e3, e4, eq_true c2, k1, eq_true k2, c3, eq_true c5, c6, c7]
      · have c5' : ¬ (k : Int) = 0 := by omega
        have c6 : 0 < k := by omega
        have c7 : (0 : Int) < k := by omega
        by_cases c3 : (N f k).links = 1
        · have c4 : ¬ (N f k).links = 0 := by omega
          simp [encI, h2, h3, hf, q, e3, e4, eq_true c2, k1, eq_true k2, eq_true c3, c4, c5, c5', c6, c7]
          refine (ev68d f k _ (some ⟨[(false, [.bool (allF (finI f) (k + 1) n)])], []⟩) (fun σ hσ => ?_) 11 0 k _ (by omega) h0 h3 (by simp)).trans ?_
          · subst hσ
            simp [hw]
            exact ih (k + 1) _ (by omega) (by simp)
          · cases climb (ab (edg f 10)) 11 k <;> simp
        · simp [encI, h2, h3, hf, q, e3, e4, eq_true c2, k1, eq_true k2, c3, c5, c5', c6, c7]
theorem fn68 (f : Fs) (hO : OkF 1048576 f) : Fn Z 68 [.agg [.ro () 62 (row (encN 114 true) f)]] = some ⟨[(false, [.bool (okI f)])], []⟩ := by
  unfold okI
  by_cases hf : f.length = 10
  rotate_left 1
  · have hf' : ¬ (f.length : Int) = 10 := by omega
    refine Fn_ans Z rfl Tryz.func68 rfl K68 ?_
    rw [ZP, M68, nt68]
    have hb : bodyOf Tryz.f68 = bodyOf Tryz.f68 := rfl
    conv at hb => rhs; simp only [bodyOf, Tryz.f68]
    have hb6 : lpc Tryz.f68 6 = lpc Tryz.f68 6 := rfl
    conv at hb6 => rhs; simp only [lpc, bodyOf, Tryz.f68, nthLoop, headId, if_true, if_false, reduceIte, Nat.reduceEqDiff]
    rw [← hb6] at hb
    have hb25 : lpc Tryz.f68 25 = lpc Tryz.f68 25 := rfl
    conv at hb25 => rhs; simp only [lpc, bodyOf, Tryz.f68, nthLoop, headId, if_true, if_false, reduceIte, Nat.reduceEqDiff]
    rw [← hb25] at hb
    rw [hb]
    clear hb hb6 hb25
    simp [hf, hf']
  rw [decide_eq_true hf, Bool.true_and]
  by_cases k2 : (N f 0).kind = 2
  rotate_left 1
  · rw [decide_eq_false k2]
    refine Fn_ans Z rfl Tryz.func68 rfl K68 ?_
    rw [ZP, M68, nt68]
    have hb : bodyOf Tryz.f68 = bodyOf Tryz.f68 := rfl
    conv at hb => rhs; simp only [bodyOf, Tryz.f68]
    have hb6 : lpc Tryz.f68 6 = lpc Tryz.f68 6 := rfl
    conv at hb6 => rhs; simp only [lpc, bodyOf, Tryz.f68, nthLoop, headId, if_true, if_false, reduceIte, Nat.reduceEqDiff]
    rw [← hb6] at hb
    have hb25 : lpc Tryz.f68 25 = lpc Tryz.f68 25 := rfl
    conv at hb25 => rhs; simp only [lpc, bodyOf, Tryz.f68, nthLoop, headId, if_true, if_false, reduceIte, Nat.reduceEqDiff]
    rw [← hb25] at hb
    rw [hb]
    clear hb hb6 hb25
    simp [hf, k2]
  rw [decide_eq_true k2, Bool.true_and]
  refine Fn_ans Z rfl Tryz.func68 rfl K68 ?_
  rw [ZP, M68, nt68]
  have hb : bodyOf Tryz.f68 = bodyOf Tryz.f68 := rfl
  conv at hb => rhs; simp only [bodyOf, Tryz.f68]
  have hb6 : lpc Tryz.f68 6 = lpc Tryz.f68 6 := rfl
  conv at hb6 => rhs; simp only [lpc, bodyOf, Tryz.f68, nthLoop, headId, if_true, if_false, reduceIte, Nat.reduceEqDiff]
  rw [← hb6] at hb
  have hb25 : lpc Tryz.f68 25 = lpc Tryz.f68 25 := rfl
  conv at hb25 => rhs; simp only [lpc, bodyOf, Tryz.f68, nthLoop, headId, if_true, if_false, reduceIte, Nat.reduceEqDiff]
  rw [← hb25] at hb
  rw [hb]
  clear hb hb6 hb25
  simp [hf, eq_true k2]
  refine (ev68a f hf (okN_at hO hf) _ (some ⟨[(false, [.bool (allF (finI f) 0 10)])], []⟩) (fun hN σ hσ => ?_) 10 0 _ (by omega) (fun k hk => by omega) (by simp [edg]) ?_).trans ?_
  · subst hσ
    simp [hf]
    refine ev68c f hf hN _ (fun σ hσ => ?_) 10 0 _ (by omega) (by simp)
    subst hσ
    simp
  · have : edg f 0 = [] := rfl
    rw [this, lkL_nil, abL_nil]
    simp
  · cases allF (fun i => nodI f (N f i)) 0 10 <;> simp
end Go.Mach.Fv
