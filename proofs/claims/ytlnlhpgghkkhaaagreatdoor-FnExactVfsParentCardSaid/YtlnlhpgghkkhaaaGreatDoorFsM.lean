/- A file system, as the program asks. -/
import Derived.Test.YtlnlhpgghkkhaaaGreatDoorFsL2
open Go Go.Mach Go.Mach.Fv Go.Proofs
set_option maxRecDepth 100000
set_option maxHeartbeats 8000000
set_option linter.unusedVariables false
set_option linter.unusedSimpArgs false
namespace Go.Mach.Fv
def abL (es : List (Int × Int)) : List Int := (List.range 10).map fun (k : Nat) => ab es (k : Int)
theorem abL_len (es) : (abL es).length = 10 := by simp [abL]
theorem abL_el (es : List (Int × Int)) {i : Int} (h0 : 0 ≤ i) (h1 : i < 10) : el (abL es) i = ab es i := by
  have : i.toNat < 10 := by omega
  simp only [el, abL, List.getD_eq_getElem?_getD, List.getElem?_map, List.getElem?_range this, Option.map_some, Option.getD_some, Int.toNat_of_nonneg h0]
theorem ab_app (es : List (Int × Int)) (k i x : Int) : ab (es ++ [(k, i)]) x = if k = x then i else ab es x := by
  simp only [ab, List.foldl_append, List.foldl_cons, List.foldl_nil]
theorem abL_set (es : List (Int × Int)) {k : Int} (i : Int) (h0 : 0 ≤ k) (h1 : k < 10) : (abL es).set k.toNat i = abL (es ++ [(k, i)]) := by
  apply List.ext_getElem?
  intro m
  rw [List.getElem?_set, abL_len]
  by_cases hm : k.toNat = m
  · subst hm
    have : k.toNat < 10 := by omega
    rw [if_pos rfl, if_pos this]
    simp only [abL, List.getElem?_map, List.getElem?_range this, Option.map_some, Int.toNat_of_nonneg h0, ab_app, if_true]
  · rw [if_neg hm]
    by_cases hl : m < 10
    · simp only [abL, List.getElem?_map, List.getElem?_range hl, Option.map_some, ab_app]
      have : ¬ k = (m : Int) := by omega
      simp [this]
    · simp [abL, hl]
theorem abL_nil : row encI (abL []) = List.replicate 10 [C.int .i64 0] := rfl
theorem ev68b (f : Fs) (hf : f.length = 10) (i : Nat) (hi : i < 10) (n : Inode) (hn : OkN 1048576 n) (hl6 : n.names.length ≤ 6) (r : List It) (R : Option Ret) (ES : List (Int × Int)) (hES : ES.length ≤ 1000000)
    (hr : ∀ σ : St Unit, σ = ⟨230, [(30, .one (.int .i64 (i))), (29, .one (.int .i64 (10))), (28, .one (.ro () 62 (row (encN 114 true) f))), (1, .one (.ref () ⟨1, 0, []⟩)), (4, .one (.ref () ⟨4, 0, []⟩)), (3, .one (.ref () ⟨3, 0, []⟩))], [(1, [.own () .pt 65 [[.ro () 62 (row (encN 114 true) f)]]]), (4, [.own () .sl 3 (row encI (abL ES))]), (3, [.own () .sl 3 (row encI (lkL ES))])]⟩ → ans Tryz.prog Tryz.f68 [.ro] (Mach.go Z (Z.H 68) r σ) = R) :
    ∀ (m j : Nat) (es : List (Int × Int)) (σ : St Unit), j + m = n.names.length → ES = es ++ tagI n j i →
    σ.keep ⟨[106, 107, 5, 6, 105, 30, 29, 28, 1, 4, 3], [], [106, 107, 5, 6, 105, 30, 29, 28, 1, 4, 3]⟩ = some ⟨230, [(106, .one (.int .i64 (n.names.length))), (107, .one (.int .i64 (j))), (5, .one (.int .i64 (i))), (6, .one (.ref () ⟨6, 0, []⟩)), (105, .one (.ro () 114 (row encE n.names))), (30, .one (.int .i64 (i))), (29, .one (.int .i64 (10))), (28, .one (.ro () 62 (row (encN 114 true) f))), (1, .one (.ref () ⟨1, 0, []⟩)), (4, .one (.ref () ⟨4, 0, []⟩)), (3, .one (.ref () ⟨3, 0, []⟩))], [(6, [.own () .pt 62 [[.int .i64 n.kind, .int .i64 n.mode, .int .i64 n.owner, .int .i64 n.group, .int .i64 n.links, .int .i64 n.opens, .bool n.mark, .str n.text, .ro () 114 (row encE n.names)]]]), (1, [.own () .pt 65 [[.ro () 62 (row (encN 114 true) f)]]]), (4, [.own () .sl 3 (row encI (abL es))]), (3, [.own () .sl 3 (row encI (lkL es))])]⟩ →
      ans Tryz.prog Tryz.f68 [.ro] (Mach.go Z (Z.H 68) ((.lp (lpc Tryz.f68 16)) :: .blk 2 :: r) σ) = if allF (entI f n) j m = true then R else some ⟨[(false, [.bool false])], []⟩ := by
  have hb : lpc Tryz.f68 16 = lpc Tryz.f68 16 := rfl
  conv at hb => rhs; simp only [lpc, bodyOf, Tryz.f68, nthLoop, headId, if_true, if_false, reduceIte, Nat.reduceEqDiff]
  have hc := fun r σ => congrArg (fun c => Mach.go Z (Z.H 68) (.code c :: r) σ) hb
  clear hb
  intro m
  induction m with
  | zero =>
    intro j es σ h e hσ
    have hx : ¬ j < n.names.length := by omega
    have e : es = ES := by
      have : tagI n j i = [] := by unfold tagI; rw [List.drop_eq_nil_of_le (by simp [ids]; omega)]; rfl
      rw [e, this, List.append_nil]
    subst e
    rw [go_lp, b68_16, L68_16, hσ, nx_, hc]
    rw [allF, if_pos rfl]
    simp [hx]
    exact hr _ rfl
  | succ m ih =>
    intro j es σ h e hσ
    have h2 : j < n.names.length := by omega
    have hs := fn55 (nE n j).name
    have hj := wrapJ (show j ≤ 1000000000000 by omega)
    have hle : es.length ≤ 1000000 := by rw [e] at hES; simp at hES; omega
    rw [go_lp, b68_16, L68_16, hσ, nx_, hc]
    have hE : allF (entI f n) j (m + 1) = (entI f n j && allF (entI f n) (j + 1) m) := rfl
    rw [hE]
    by_cases h3 : nm (nE n j).name = true
    rotate_left 1
    · have : entI f n j = false := by unfold entI; simp [h3]
      rw [this, Bool.false_and, if_neg (by simp)]
      simp [h2, hs, h3]
    by_cases h4 : inR (nE n j).id 0 9 = true
    rotate_left 1
    · have : entI f n j = false := by unfold entI; simp [h4]
      rw [this, Bool.false_and, if_neg (by simp)]
      simp [h2, hs, h3, fn70, h4]
    have g0 : 0 ≤ (nE n j).id := (inR_iff.1 h4).1
    have g1 : (nE n j).id < 10 := by have := (inR_iff.1 h4).2; omega
    by_cases h5 : (N f (nE n j).id).kind = 0
    · have : entI f n j = false := by unfold entI; simp [h5]
      rw [this, Bool.false_and, if_neg (by simp)]
      simp [h2, hs, h3, fn70, h4, g0, g1, hf, eq_true h5]
    have hlk := lk_le es (nE n j).id
    have e1 := lkL_len es
    have e2 := lkL_el es g0 g1
    have e3 := abL_len es
    have e4 := abL_el es g0 g1
    have hw : IntKind.i64.wrap ((lk es (nE n j).id : Int) + 1) = (lk es (nE n j).id : Int) + 1 := wrapJ (by omega)
    have hfin : ∀ σ : St Unit, entI f n j = true → σ.keep ⟨[106, 107, 5, 6, 105, 30, 29, 28, 1, 4, 3], [], [106, 107, 5, 6, 105, 30, 29, 28, 1, 4, 3]⟩ = some ⟨230, [(106, .one (.int .i64 (n.names.length))), (107, .one (.int .i64 ((j : Int) + 1))), (5, .one (.int .i64 (i))), (6, .one (.ref () ⟨6, 0, []⟩)), (105, .one (.ro () 114 (row encE n.names))), (30, .one (.int .i64 (i))), (29, .one (.int .i64 (10))), (28, .one (.ro () 62 (row (encN 114 true) f))), (1, .one (.ref () ⟨1, 0, []⟩)), (4, .one (.ref () ⟨4, 0, []⟩)), (3, .one (.ref () ⟨3, 0, []⟩))], [(6, [.own () .pt 62 [[.int .i64 n.kind, .int .i64 n.mode, .int .i64 n.owner, .int .i64 n.group, .int .i64 n.links, .int .i64 n.opens, .bool n.mark, .str n.text, .ro () 114 (row encE n.names)]]]), (1, [.own () .pt 65 [[.ro () 62 (row (encN 114 true) f)]]]), (4, [.own () .sl 3 ((row encI (abL es)).modify (nE n j).id.toNat fun el => el.modify 0 fun x => C.int .i64 i)]), (3, [.own () .sl 3 ((row encI (lkL es)).modify (nE n j).id.toNat fun el => el.modify 0 fun x => C.int .i64 ((lk es (nE n j).id : Int) + 1))])]⟩ →
        ans Tryz.prog Tryz.f68 [.ro] (Mach.go Z (Z.H 68) ((.lp (lpc Tryz.f68 16)) :: .blk 2 :: r) σ) = if entI f n j = true ∧ allF (entI f n) (j + 1) m = true then R else some ⟨[(false, [.bool false])], []⟩ := by
      intro σ he hσ
      rw [show (if entI f n j = true ∧ allF (entI f n) (j + 1) m = true then R else some ⟨[(false, [.bool false])], []⟩) = (if allF (entI f n) (j + 1) m = true then R else some ⟨[(false, [.bool false])], []⟩) by simp [he]]
      rw [row_modify encI (lkL es) (nE n j).id.toNat ((lk es (nE n j).id : Int) + 1) _ (by intro z; simp [encI]), lkL_set es (i : Int) g0 g1,
        row_modify encI (abL es) (nE n j).id.toNat (i : Int) _ (by intro z; simp [encI]), abL_set es (i : Int) g0 g1] at hσ
      exact ih (j + 1) (es ++ [((nE n j).id, (i : Int))]) σ (by omega) (by rw [e, tagI_cons _ _ _ h2]; simp) hσ
    by_cases h6 : 0 < j
    · have a1 : IntKind.i64.wrap ((j : Int) - 1) = (j : Int) - 1 := wrap_in (by omega) (by omega)
      have a2 : ((j : Int) - 1).toNat = j - 1 := by omega
      have a3 : (1 : Int) ≤ j := by omega
      have a4 : (j : Int) - 1 < n.names.length := by omega
      have a5 : ¬ j = 0 := by omega
      have a6 : j - 1 < n.names.length := by omega
      by_cases h7 : lt (nE n (j - 1)).name (nE n j).name = true
      · simp [encI, lt_eq, h2, hs, h3, fn70, h4, g0, g1, hf, h5, h6, a1, a2, a3, a4, a6, h7, e1, e2, e3, e4, hw, hj]
        exact hfin _ (by unfold entI; simp [h3, h4, h5, h7]) (by simp)
      · have : entI f n j = false := by unfold entI; simp [h7, a5]
        rw [this, Bool.false_and, if_neg (by simp)]
        simp [encI, lt_eq, h2, hs, h3, fn70, h4, g0, g1, hf, h5, h6, a1, a2, a3, a4, a6, h7]
    · have a5 : j = 0 := by omega
      subst a5
      simp [encI, h2, hs, h3, fn70, h4, g0, g1, hf, h5, e1, e2, e3, e4, hw, w1]
      exact hfin _ (by unfold entI; simp [h3, h4, h5]) (by simp [w1])
end Go.Mach.Fv
