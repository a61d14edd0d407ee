/- A file system, as the reference asks. -/
import Derived.Test.YtlnlhpgghkkhaaaGreatDoorFsJ2
open Go Go.Mach Go.Mach.Fv Go.Proofs
set_option maxRecDepth 100000
set_option maxHeartbeats 8000000
set_option linter.unusedVariables false
set_option linter.unusedSimpArgs false
namespace Go.Mach.Fv
def lkL (es : List (Int × Int)) : List Int := (List.range 10).map fun (k : Nat) => (lk es (k : Int) : Int)
theorem lkL_len (es) : (lkL es).length = 10 := by simp [lkL]
theorem lkL_el (es : List (Int × Int)) {i : Int} (h0 : 0 ≤ i) (h1 : i < 10) : el (lkL es) i = (lk es i : Int) := by
  have : i.toNat < 10 := by omega
  simp only [el, lkL, List.getD_eq_getElem?_getD, List.getElem?_map, List.getElem?_range this, Option.map_some, Option.getD_some, Int.toNat_of_nonneg h0]
theorem lk_app (es : List (Int × Int)) (k i x : Int) : lk (es ++ [(k, i)]) x = if k = x then lk es x + 1 else lk es x := by
  simp only [lk, List.map_append, List.map_cons, List.map_nil, List.count_append, List.count_cons, List.count_nil, beq_iff_eq]
  split <;> omega
theorem lk_le (es : List (Int × Int)) (x : Int) : lk es x ≤ es.length := by
  unfold lk
  exact Nat.le_trans List.count_le_length (by simp)
theorem lkL_set (es : List (Int × Int)) {k : Int} (i : Int) (h0 : 0 ≤ k) (h1 : k < 10) : (lkL es).set k.toNat ((lk es k : Int) + 1) = lkL (es ++ [(k, i)]) := by
  apply List.ext_getElem?
  intro m
  rw [List.getElem?_set, lkL_len]
  by_cases hm : k.toNat = m
  · subst hm
    have : k.toNat < 10 := by omega
    rw [if_pos rfl, if_pos this]
    simp only [lkL, List.getElem?_map, List.getElem?_range this, Option.map_some, Int.toNat_of_nonneg h0, lk_app, if_true]
    simp
  · rw [if_neg hm]
    by_cases hl : m < 10
    · simp only [lkL, List.getElem?_map, List.getElem?_range hl, Option.map_some, lk_app]
      have : ¬ k = (m : Int) := by omega
      simp [this]
    · simp [lkL, hl]
theorem lkL_nil : row encI (lkL []) = List.replicate 10 [C.int .i64 0] := rfl
def tagI (n : Inode) (j : Nat) (i : Int) : List (Int × Int) := ((ids n).drop j).map fun k => (k, i)
theorem tagI_cons (n : Inode) (j : Nat) (i : Int) (h : j < n.names.length) : tagI n j i = ((nE n j).id, i) :: tagI n (j + 1) i := by
  have hj : j < (ids n).length := by simpa [ids] using h
  unfold tagI
  rw [List.drop_eq_getElem_cons hj, List.map_cons]
  have : (ids n)[j] = (nE n j).id := by simp [ids, nE, List.getD_eq_getElem?_getD, h]
  rw [this]
theorem edg_succ (f : Fs) (i : Nat) : edg f (i + 1) = edg f i ++ tagI (N f i) 0 i := by
  unfold edg tagI
  rw [List.range_succ, List.flatMap_append]
  simp
theorem ev61b (f : Fs) (hf : f.length = 10) (i : Nat) (hi : i < 10) (hl6 : (N f i).names.length ≤ 6) (hI : ∀ j : Nat, j < (N f i).names.length → 0 ≤ (nE (N f i) j).id ∧ (nE (N f i) j).id < 10) (r : List It) (R : Option Ret) (ES : List (Int × Int)) (hES : ES.length ≤ 1000000)
    (hr : ∀ σ : St Unit, σ = ⟨138, [(4, .one (.int .i64 (i))), (3, .one (.ref () ⟨3, 0, []⟩)), (1, .one (.ref () ⟨1, 0, []⟩))], [(3, [.own () .sl 3 (row encI (lkL ES))]), (1, [.own () .pt 65 [[.ro () 62 (row (encN 114 true) f)]]])]⟩ → ans Tryz.prog Tryz.f61 [.ro] (Mach.go Z (Z.H 61) r σ) = R) :
    ∀ (m j : Nat) (es : List (Int × Int)) (σ : St Unit), j + m = (N f i).names.length → ES = es ++ tagI (N f i) j i →
    σ.keep ⟨[5, 4, 3, 1], [], [5, 4, 3, 1]⟩ = some ⟨138, [(5, .one (.int .i64 (j))), (4, .one (.int .i64 (i))), (3, .one (.ref () ⟨3, 0, []⟩)), (1, .one (.ref () ⟨1, 0, []⟩))], [(3, [.own () .sl 3 (row encI (lkL es))]), (1, [.own () .pt 65 [[.ro () 62 (row (encN 114 true) f)]]])]⟩ →
      ans Tryz.prog Tryz.f61 [.ro] (Mach.go Z (Z.H 61) ((.lp (lpc Tryz.f61 10)) :: .blk 2 :: r) σ) = R := by
  have hb : lpc Tryz.f61 10 = lpc Tryz.f61 10 := rfl
  conv at hb => rhs; simp only [lpc, bodyOf, Tryz.f61, nthLoop, headId, if_true, if_false, reduceIte, Nat.reduceEqDiff]
  have hc := fun r σ => congrArg (fun c => Mach.go Z (Z.H 61) (.code c :: r) σ) hb
  clear hb
  have hi' : (i : Int) < 10 := by omega
  intro m
  induction m with
  | zero =>
    intro j es σ h e hσ
    have hx : ¬ j < (N f i).names.length := by omega
    have e : es = ES := by
      have : tagI (N f i) j i = [] := by unfold tagI; rw [List.drop_eq_nil_of_le (by simp [ids]; omega)]; rfl
      rw [e, this, List.append_nil]
    subst e
    rw [go_lp, b61_10, L61_10, hσ, nx_, hc]
    simp [hx, hi, hi', hf]
    exact hr _ rfl
  | succ m ih =>
    intro j es σ h e hσ
    have h2 : j < (N f i).names.length := by omega
    obtain ⟨g0, g1⟩ := hI j h2
    have hle : es.length ≤ 1000000 := by rw [e] at hES; simp at hES; omega
    have hlk := lk_le es (nE (N f i) j).id
    have e1 := lkL_len es
    have e2 := lkL_el es g0 g1
    have hw : IntKind.i64.wrap ((lk es (nE (N f i) j).id : Int) + 1) = (lk es (nE (N f i) j).id : Int) + 1 := wrapJ (by omega)
    rw [go_lp, b61_10, L61_10, hσ, nx_, hc]
    simp [encI, h2, hi, hi', hf, g0, g1, e1, e2, hw, wrapJ (show j ≤ 1000000000000 by omega)]
    refine ih (j + 1) (es ++ [((nE (N f i) j).id, (i : Int))]) _ (by omega) (by rw [e, tagI_cons _ _ _ h2]; simp) ?_
    rw [row_modify encI (lkL es) (nE (N f i) j).id.toNat ((lk es (nE (N f i) j).id : Int) + 1), lkL_set es (i : Int) g0 g1]
    · simp
    · intro z; simp [encI]
theorem ev61a (f : Fs) (hf : f.length = 10) (hO : ∀ i : Nat, i < 10 → OkN 1048576 (N f i)) (r : List It) (R : Option Ret)
    (hr : (∀ i : Nat, i < 10 → nodS (N f i) = true) → ∀ σ : St Unit, σ = ⟨138, [(3, .one (.ref () ⟨3, 0, []⟩)), (1, .one (.ref () ⟨1, 0, []⟩))], [(3, [.own () .sl 3 (row encI (lkL (edg f 10)))]), (1, [.own () .pt 65 [[.ro () 62 (row (encN 114 true) f)]]])]⟩ → ans Tryz.prog Tryz.f61 [.ro] (Mach.go Z (Z.H 61) r σ) = R) :
    ∀ (n i : Nat) (σ : St Unit), i + n = 10 → (∀ k : Nat, k < i → nodS (N f k) = true) → (edg f i).length ≤ 6 * i →
    σ.keep ⟨[4, 3, 1], [], [4, 3, 1]⟩ = some ⟨138, [(4, .one (.int .i64 (i))), (3, .one (.ref () ⟨3, 0, []⟩)), (1, .one (.ref () ⟨1, 0, []⟩))], [(3, [.own () .sl 3 (row encI (lkL (edg f i)))]), (1, [.own () .pt 65 [[.ro () 62 (row (encN 114 true) f)]]])]⟩ →
      ans Tryz.prog Tryz.f61 [.ro] (Mach.go Z (Z.H 61) ((.lp (lpc Tryz.f61 5)) :: .blk 0 :: r) σ) = if allF (fun i => nodS (N f i)) i n = true then R else some ⟨[(false, [.bool false])], []⟩ := by
  have hb : lpc Tryz.f61 5 = lpc Tryz.f61 5 := rfl
  conv at hb => rhs; simp only [lpc, bodyOf, Tryz.f61, nthLoop, headId, if_true, if_false, reduceIte, Nat.reduceEqDiff]
  have hb10 : lpc Tryz.f61 10 = lpc Tryz.f61 10 := rfl
  conv at hb10 => rhs; simp only [lpc, bodyOf, Tryz.f61, nthLoop, headId, if_true, if_false, reduceIte, Nat.reduceEqDiff]
  rw [← hb10] at hb
  clear hb10
  have hc := fun r σ => congrArg (fun c => Mach.go Z (Z.H 61) (.code c :: r) σ) hb
  clear hb
  intro n
  induction n with
  | zero =>
    intro i σ h hv hle hσ
    have hx : ¬ (i : Int) < 10 := by omega
    have hi : i = 10 := by omega
    subst hi
    rw [go_lp, b61_5, L61_5, hσ, nx_, hc]
    rw [allF, if_pos rfl]
    simp [hx]
    exact hr hv _ rfl
  | succ n ih =>
    intro i σ h hv hle hσ
    have h2 : i < 10 := by omega
    have h3 : (i : Int) < 10 := by omega
    have h84 := fn84 (N f i) (hO i h2)
    rw [go_lp, b61_5, L61_5, hσ, nx_, hc]
    unfold allF
    by_cases hn : nodS (N f i) = true
    · rw [hn, Bool.true_and]
      have hids : ∀ j : Nat, j < (N f i).names.length → 0 ≤ (nE (N f i) j).id ∧ (nE (N f i) j).id < 10 := by
        intro j hj
        have := nodS_ids (f := f) hn (nE (N f i) j).id (List.mem_map.2 ⟨nE (N f i) j, by simp [nE, List.getD_eq_getElem?_getD, hj], rfl⟩)
        omega
      have hl6 : (N f i).names.length ≤ 6 := by
        unfold nodS at hn
        split at hn
        · rw [(nod_plain hn).1]; simp
        · simp only [Bool.and_eq_true, decide_eq_true_eq] at hn
          exact hn.1.1.1.2
      have hlen : (edg f (i + 1)).length ≤ 6 * (i + 1) := by
        rw [edg_succ, List.length_append]
        have : (tagI (N f i) 0 i).length ≤ 6 := by simpa [tagI, ids] using hl6
        omega
      simp [h2, h3, hf, h84, hn]
      refine ev61b f hf i h2 hl6 hids _ _ (edg f (i + 1)) (by omega) (fun σ hσ => ?_) (N f i).names.length 0 (edg f i) _ (by omega) (edg_succ f i) (by simp)
      subst hσ
      simp [wrapJ (show i ≤ 1000000000000 by omega)]
      exact ih (i + 1) _ (by omega) (fun k hk => by
        by_cases e : k = i
        · subst e; exact hn
        · exact hv k (by omega)) hlen (by simp)
    · have hn : nodS (N f i) = false := by simpa using hn
      rw [hn, Bool.false_and, if_neg (by simp)]
      simp [h2, h3, hf, h84, hn]
theorem nodS_kind {n : Inode} (h : nodS n = true) : n.kind = 0 ∨ n.kind = 1 ∨ n.kind = 2 := by
  unfold nodS at h
  split at h
  · rename_i hk; exact .inl hk
  · simp only [Bool.and_eq_true, inR_iff] at h
    omega
theorem finS_eq (f : Fs) (ms : List Int) (k : Nat) : finS f ms k = (!(decide (0 < lk (edg f 10) k) && decide ((N f k).kind = 0)) && !(!decide ((N f k).kind = 0) && !decide ((N f k).links = lk (edg f 10) k)) && !(decide ((N f k).kind = 2) && !decide ((k : Int) ∈ ms)) && !(decide ((N f k).kind = 1) && decide ((N f k).links = 0) && decide ((N f k).opens = 0))) := rfl
theorem ev61c (f : Fs) (hf : f.length = 10) (hN : ∀ i : Nat, i < 10 → nodS (N f i) = true) (ms : List Int) (r : List It)
    (hr : ∀ σ : St Unit, σ = ⟨138, [(7, .one (.bool true))], []⟩ → ans Tryz.prog Tryz.f61 [.ro] (Mach.go Z (Z.H 61) r σ) = some ⟨[(false, [.bool true])], []⟩) :
    ∀ (n k : Nat) (σ : St Unit), k + n = 10 →
    σ.keep ⟨[8, 6, 3, 1, 7], [], [8, 6, 3, 1, 7]⟩ = some ⟨138, [(8, .one (.int .i64 (k))), (6, .one (.ref () ⟨6, 0, []⟩)), (3, .one (.ref () ⟨3, 0, []⟩)), (1, .one (.ref () ⟨1, 0, []⟩)), (7, .one (.bool true))], [(6, [.own () .sl 4 (row encB (metL ms)), .bool true]), (3, [.own () .sl 3 (row encI (lkL (edg f 10)))]), (1, [.own () .pt 65 [[.ro () 62 (row (encN 114 true) f)]]])]⟩ →
      ans Tryz.prog Tryz.f61 [.ro] (Mach.go Z (Z.H 61) ((.lp (lpc Tryz.f61 17)) :: .blk 4 :: r) σ) = some ⟨[(false, [.bool (allF (finS f ms) k n)])], []⟩ := by
  have hb : lpc Tryz.f61 17 = lpc Tryz.f61 17 := rfl
  conv at hb => rhs; simp only [lpc, bodyOf, Tryz.f61, nthLoop, headId, if_true, if_false, reduceIte, Nat.reduceEqDiff]
  have hc := fun r σ => congrArg (fun c => Mach.go Z (Z.H 61) (.code c :: r) σ) hb
  clear hb
  intro n
  induction n with
  | zero =>
    intro k σ h hσ
    have hx : ¬ (k : Int) < 10 := by omega
    rw [go_lp, b61_17, L61_17, hσ, nx_, hc]
    simp [hx]
    exact (hr _ rfl).trans (by simp [allF])
  | succ n ih =>
    intro k σ h hσ
    have h2 : k < 10 := by omega
    have h3 : (k : Int) < 10 := by omega
    have h0 : (0 : Int) ≤ k := by omega
    have e1 := metL_len ms
    have e2 := metL_el ms h0 h3
    have e3 := lkL_len (edg f 10)
    have e4 := lkL_el (edg f 10) h0 h3
    have hw := wrapJ (show k ≤ 1000000000000 by omega)
    rw [go_lp, b61_17, L61_17, hσ, nx_, hc]
    unfold allF
    rw [finS_eq]
    rcases nodS_kind (hN k h2) with k0 | k0 | k0
    · have k1 : ¬ (N f k).kind = 1 := by omega
      have k2 : ¬ (N f k).kind = 2 := by omega
      by_cases c1 : 0 < lk (edg f 10) k
      · simp [encI, encB, h2, h3, hf, e1, e2, e3, e4, eq_true k0, k1, k2, c1]
      · simp [encI, encB, h2, h3, hf, e1, e2, e3, e4, eq_true k0, k1, k2, c1, hw]
        refine (ih (k + 1) _ (by omega) (by simp)).trans ?_
        simp [k0, c1]
    · have k1 : ¬ (N f k).kind = 0 := by omega
      have k2 : ¬ (N f k).kind = 2 := by omega
      by_cases c2 : (N f k).links = lk (edg f 10) k
      · by_cases c3 : (N f k).links = 0
        · by_cases c4 : (N f k).opens = 0
          · by_cases c1 : 0 < lk (edg f 10) k
            · omega
            · simp [encI, encB, h2, h3, hf, e1, e2, e3, e4, eq_true k0, k1, k2, c1, eq_true c2, eq_true c3, eq_true c4]
              all_goals simp [k0, c1, c2, c3, c4]
              all_goals omega
          · by_cases c1 : 0 < lk (edg f 10) k
            · omega
            · simp [encI, encB, h2, h3, hf, e1, e2, e3, e4, eq_true k0, k1, k2, c1, eq_true c2, eq_true c3, c4, hw]
              refine (ih (k + 1) _ (by omega) (by simp)).trans ?_
              simp [k0, c1, c2, c4]
        · by_cases c1 : 0 < lk (edg f 10) k
          · simp [encI, encB, h2, h3, hf, e1, e2, e3, e4, eq_true k0, k1, k2, c1, eq_true c2, c3, hw]
            refine (ih (k + 1) _ (by omega) (by simp)).trans ?_
            have : ¬ ((lk (edg f 10) k : Nat) : Int) = 0 := by omega
            simp [k0, c2, this]
            all_goals omega
          · omega
      · by_cases c1 : 0 < lk (edg f 10) k
        · simp [encI, encB, h2, h3, hf, e1, e2, e3, e4, eq_true k0, k1, k2, c1, c2]
        · simp [encI, encB, h2, h3, hf, e1, e2, e3, e4, eq_true k0, k1, k2, c1, c2]
    · have k1 : ¬ (N f k).kind = 0 := by omega
      have k2 : ¬ (N f k).kind = 1 := by omega
      by_cases c2 : (N f k).links = lk (edg f 10) k
      · by_cases c3 : (k : Int) ∈ ms
        · by_cases c1 : 0 < lk (edg f 10) k
          · simp [encI, encB, h2, h3, hf, e1, e2, e3, e4, eq_true k0, k1, k2, c1, eq_true c2, c3, hw]
            refine (ih (k + 1) _ (by omega) (by simp)).trans ?_
            simp [k0, c2, c3]
          · simp [encI, encB, h2, h3, hf, e1, e2, e3, e4, eq_true k0, k1, k2, c1, eq_true c2, c3, hw]
            refine (ih (k + 1) _ (by omega) (by simp)).trans ?_
            simp [k0, c2, c3]
        · by_cases c1 : 0 < lk (edg f 10) k
          · simp [encI, encB, h2, h3, hf, e1, e2, e3, e4, eq_true k0, k1, k2, c1, eq_true c2, c3]
            all_goals simp [k0, c2, c3]
          · simp [encI, encB, h2, h3, hf, e1, e2, e3, e4, eq_true k0, k1, k2, c1, eq_true c2, c3]
            all_goals simp [k0, c2, c3]
      · by_cases c1 : 0 < lk (edg f 10) k
        · simp [encI, encB, h2, h3, hf, e1, e2, e3, e4, eq_true k0, k1, k2, c1, c2]
        · simp [encI, encB, h2, h3, hf, e1, e2, e3, e4, eq_true k0, k1, k2, c1, c2]
end Go.Mach.Fv
