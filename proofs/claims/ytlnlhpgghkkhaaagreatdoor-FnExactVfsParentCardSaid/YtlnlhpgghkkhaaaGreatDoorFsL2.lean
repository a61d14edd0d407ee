/- A file system, as the reference asks: whole. -/
import Derived.Test.YtlnlhpgghkkhaaaGreatDoorFsL
open Go Go.Mach Go.Mach.Fv Go.Proofs
set_option maxRecDepth 100000
set_option maxHeartbeats 8000000
set_option linter.unusedVariables false
set_option linter.unusedSimpArgs false
namespace Go.Mach.Fv
theorem ev61d (f : Fs) (ms : List Int) (r : List It)
    (hr : ∀ σ : St Unit, σ = ⟨138, [(7, .one (.bool false))], []⟩ → ans Tryz.prog Tryz.f61 [.ro] (Mach.go Z (Z.H 61) r σ) = some ⟨[(false, [.bool false])], []⟩) (σ : St Unit) 
    (hσ : σ.keep ⟨[8, 6, 3, 1, 7], [], [8, 6, 3, 1, 7]⟩ = some ⟨138, [(8, .one (.int .i64 (0))), (6, .one (.ref () ⟨6, 0, []⟩)), (3, .one (.ref () ⟨3, 0, []⟩)), (1, .one (.ref () ⟨1, 0, []⟩)), (7, .one (.bool false))], [(6, [.own () .sl 4 (row encB (metL ms)), .bool false]), (3, [.own () .sl 3 (row encI (lkL (edg f 10)))]), (1, [.own () .pt 65 [[.ro () 62 (row (encN 114 true) f)]]])]⟩) :
      ans Tryz.prog Tryz.f61 [.ro] (Mach.go Z (Z.H 61) ((.lp (lpc Tryz.f61 17)) :: .blk 4 :: r) σ) = some ⟨[(false, [.bool false])], []⟩ := by
  have hb : lpc Tryz.f61 17 = lpc Tryz.f61 17 := rfl
  conv at hb => rhs; simp only [lpc, bodyOf, Tryz.f61, nthLoop, headId, if_true, if_false, reduceIte, Nat.reduceEqDiff]
  have hc := fun r σ => congrArg (fun c => Mach.go Z (Z.H 61) (.code c :: r) σ) hb
  clear hb
  rw [go_lp, b61_17, L61_17, hσ, nx_, hc]
  simp
  exact hr _ rfl
theorem nod6 {n : Inode} (hn : nodS n = true) : n.names.length ≤ 6 := by
  unfold nodS at hn
  split at hn
  · rw [(nod_plain hn).1]; simp
  · simp only [Bool.and_eq_true, decide_eq_true_eq] at hn
    exact hn.1.1.1.2
theorem okN_at {f : Fs} (h : OkF 1048576 f) (hf : f.length = 10) : ∀ i : Nat, i < 10 → OkN 1048576 (N f i) := fun i hi => h.2 i (by omega)
theorem fn61 (f : Fs) (hO : OkF 1048576 f) : Fn Z 61 [.agg [.ro () 62 (row (encN 114 true) f)]] = some ⟨[(false, [.bool (okS f)])], []⟩ := by
  unfold okS
  by_cases hf : f.length = 10
  rotate_left 1
  · have hf' : ¬ (f.length : Int) = 10 := by omega
    refine Fn_ans Z rfl Tryz.func61 rfl K61 ?_
    rw [ZP, M61, nt61]
    have hb : bodyOf Tryz.f61 = bodyOf Tryz.f61 := rfl
    conv at hb => rhs; simp only [bodyOf, Tryz.f61]
    have hb5 : lpc Tryz.f61 5 = lpc Tryz.f61 5 := rfl
    conv at hb5 => rhs; simp only [lpc, bodyOf, Tryz.f61, nthLoop, headId, if_true, if_false, reduceIte, Nat.reduceEqDiff]
    rw [← hb5] at hb
    have hb17 : lpc Tryz.f61 17 = lpc Tryz.f61 17 := rfl
    conv at hb17 => rhs; simp only [lpc, bodyOf, Tryz.f61, nthLoop, headId, if_true, if_false, reduceIte, Nat.reduceEqDiff]
    rw [← hb17] at hb
    rw [hb]
    clear hb hb5 hb17
    simp [hf, hf']
  have e0 : (decide (f.length = 10) && allF (fun i => nodS (N f i)) 0 10 && decide ((N f 0).kind = 2) && (bfs f 11 [] [0]).2 && allF (finS f (bfs f 11 [] [0]).1) 0 10) = (allF (fun i => nodS (N f i)) 0 10 && (decide ((N f 0).kind = 2) && ((bfs f 11 [] [0]).2 && allF (finS f (bfs f 11 [] [0]).1) 0 10))) := by
    rw [decide_eq_true hf, Bool.true_and, Bool.and_assoc, Bool.and_assoc]
  rw [e0]
  clear e0
  refine Fn_ans Z rfl Tryz.func61 rfl K61 ?_
  rw [ZP, M61, nt61]
  have hb : bodyOf Tryz.f61 = bodyOf Tryz.f61 := rfl
  conv at hb => rhs; simp only [bodyOf, Tryz.f61]
  have hb5 : lpc Tryz.f61 5 = lpc Tryz.f61 5 := rfl
  conv at hb5 => rhs; simp only [lpc, bodyOf, Tryz.f61, nthLoop, headId, if_true, if_false, reduceIte, Nat.reduceEqDiff]
  rw [← hb5] at hb
  have hb17 : lpc Tryz.f61 17 = lpc Tryz.f61 17 := rfl
  conv at hb17 => rhs; simp only [lpc, bodyOf, Tryz.f61, nthLoop, headId, if_true, if_false, reduceIte, Nat.reduceEqDiff]
  rw [← hb17] at hb
  rw [hb]
  clear hb hb5 hb17
  simp [hf]
  refine (ev61a f hf (okN_at hO hf) _ (some ⟨[(false, [.bool (decide ((N f 0).kind = 2) && ((bfs f 11 [] [0]).2 && allF (finS f (bfs f 11 [] [0]).1) 0 10))])], []⟩) (fun hN σ hσ => ?_) 10 0 _ (by omega) (fun k hk => by omega) (by simp [edg]) ?_).trans ?_
  · subst hσ
    have h85 := fn85 f hf hN (fun i hi => nod6 (hN i hi))
    by_cases k2 : (N f 0).kind = 2
    · rw [decide_eq_true k2, Bool.true_and]
      generalize hb : bfs f 11 [] [0] = b at *
      obtain ⟨ms, ok⟩ := b
      cases ok with
      | true =>
        rw [Bool.true_and]
        simp [hf, h85, eq_true k2]
        refine ev61c f hf hN ms _ (fun σ hσ => ?_) 10 0 _ (by omega) (by simp)
        subst hσ
        simp
      | false =>
        rw [Bool.false_and]
        simp [hf, h85, eq_true k2]
        refine ev61d f ms _ (fun σ hσ => ?_) _ (by simp)
        subst hσ
        simp
    · rw [decide_eq_false k2, Bool.false_and]
      simp [hf, k2]
  · have : edg f 0 = [] := rfl
    rw [this, lkL_nil]
    simp
  · cases allF (fun i => nodS (N f i)) 0 10 <;> simp
end Go.Mach.Fv
