/- The search from the first folder. -/
import Derived.Test.YtlnlhpgghkkhaaaGreatDoorFsI
open Go Go.Mach Go.Mach.Fv Go.Proofs
set_option maxRecDepth 100000
set_option maxHeartbeats 8000000
set_option linter.unusedVariables false
set_option linter.unusedSimpArgs false
namespace Go.Mach.Fv
def encB (b : Bool) : List (C Unit) := [.bool b]
def metL (ms : List Int) : List Bool := (List.range 10).map fun (k : Nat) => decide ((k : Int) ∈ ms)
theorem metL_len (ms) : (metL ms).length = 10 := by simp [metL]
theorem metL_el (ms : List Int) {i : Int} (h0 : 0 ≤ i) (h1 : i < 10) : el (metL ms) i = decide (i ∈ ms) := by
  have : i.toNat < 10 := by omega
  simp only [el, metL, List.getD_eq_getElem?_getD, List.getElem?_map, List.getElem?_range this, Option.map_some, Option.getD_some, Int.toNat_of_nonneg h0]
theorem metL_set (ms : List Int) {i : Int} (h0 : 0 ≤ i) (h1 : i < 10) : (metL ms).set i.toNat true = metL (ms ++ [i]) := by
  apply List.ext_getElem?
  intro m
  rw [List.getElem?_set, metL_len]
  by_cases hm : i.toNat = m
  · subst hm
    have : i.toNat < 10 := by omega
    rw [if_pos rfl, if_pos this]
    simp only [metL, List.getElem?_map, List.getElem?_range this, Option.map_some, Int.toNat_of_nonneg h0]
    simp
  · rw [if_neg hm]
    by_cases hl : m < 10
    · simp only [metL, List.getElem?_map, List.getElem?_range hl, Option.map_some]
      have : ¬ (m : Int) = i := by omega
      simp [this]
    · simp [metL, hl]
def kidsF (f : Fs) (n : Inode) : Nat → Nat → List Int
  | _, 0 => []
  | j, m + 1 => (if (N f (nE n j).id).kind = 2 then [(nE n j).id] else []) ++ kidsF f n (j + 1) m
theorem kidsF_eq (f : Fs) (n : Inode) : ∀ m j, j + m = n.names.length → kidsF f n j m = ((ids n).drop j).filter fun k => decide ((N f k).kind = 2)
  | 0, j, h => by
    have : (ids n).drop j = [] := List.drop_eq_nil_of_le (by simp [ids]; omega)
    rw [this]; rfl
  | m + 1, j, h => by
    have hj : j < (ids n).length := by simp [ids]; omega
    rw [List.drop_eq_getElem_cons hj, List.filter_cons, kidsF, kidsF_eq f n m (j + 1) (by omega)]
    have : (ids n)[j] = (nE n j).id := by simp [ids, nE, List.getD_eq_getElem?_getD, show j < n.names.length by omega]
    rw [this]
    by_cases h2 : (N f (nE n j).id).kind = 2
    · simp [h2]
    · simp [h2]
theorem kidsF_all (f : Fs) (i : Int) : kidsF f (N f i) 0 (N f i).names.length = kids f i := by
  rw [kidsF_eq f (N f i) _ 0 (by omega)]; rfl
theorem deown_rowI (xs : List Int) : (row encI xs).map (List.map deown) = row encI xs := by
  simp [row, encI, deown]
theorem row_cons {α : Type} (en : α → List (C Unit)) (x : α) (xs : List α) : row en (x :: xs) = en x :: row en xs := rfl
theorem row_app {α : Type} (en : α → List (C Unit)) (xs ys : List α) : row en xs ++ row en ys = row en (xs ++ ys) := by simp [row]
theorem row_one (z : Int) : [[C.int .i64 z]] = row encI [z] := rfl
theorem ev85b (f : Fs) (hf : f.length = 10) (hN : ∀ i : Nat, i < 10 → nodS (N f i) = true) (id : Int) (h0 : 0 ≤ id) (h1 : id < 10) (met : List Bool) (r : List It) (R : Option Ret) (T : List Int) (hT : T.length ≤ 100)
    (hl : (N f id).names.length ≤ 6)
    (hr : ∀ σ : St Unit, σ = ⟨65, [(1, .one (.ref () ⟨1, 0, []⟩)), (5, .one (.ref () ⟨5, 0, []⟩)), (4, .one (.ref () ⟨4, 0, []⟩))], [(1, [.own () .pt 65 [[.ro () 62 (row (encN 114 true) f)]]]), (5, [.own () .sl 3 (row encI (T ++ kids f id))]), (4, [.own () .sl 4 (row encB met)])]⟩ → ans Tryz.prog Tryz.f85 [.ro] (Mach.go Z (Z.H 85) r σ) = R) :
    ∀ (m j : Nat) (todo : List Int) (σ : St Unit), j + m = (N f id).names.length → T ++ kids f id = todo ++ kidsF f (N f id) j m → todo.length ≤ 100 + j →
    σ.keep ⟨[7, 6, 1, 5, 4], [], [7, 6, 1, 5, 4]⟩ = some ⟨65, [(7, .one (.int .i64 (j))), (6, .one (.int .i64 (id))), (1, .one (.ref () ⟨1, 0, []⟩)), (5, .one (.ref () ⟨5, 0, []⟩)), (4, .one (.ref () ⟨4, 0, []⟩))], [(1, [.own () .pt 65 [[.ro () 62 (row (encN 114 true) f)]]]), (5, [.own () .sl 3 (row encI todo)]), (4, [.own () .sl 4 (row encB met)])]⟩ →
      ans Tryz.prog Tryz.f85 [.ro] (Mach.go Z (Z.H 85) ((.lp (lpc Tryz.f85 10)) :: .blk 2 :: r) σ) = R := by
  have hb : lpc Tryz.f85 10 = lpc Tryz.f85 10 := rfl
  conv at hb => rhs; simp only [lpc, bodyOf, Tryz.f85, nthLoop, headId, if_true, if_false, reduceIte, Nat.reduceEqDiff]
  have hc := fun r σ => congrArg (fun c => Mach.go Z (Z.H 85) (.code c :: r) σ) hb
  clear hb
  intro m
  induction m with
  | zero =>
    intro j todo σ h e hlt hσ
    have hx : ¬ j < (N f id).names.length := by omega
    have e : todo = T ++ kids f id := by rw [e]; simp [kidsF]
    subst e
    rw [go_lp, b85_10, L85_10, hσ, nx_, hc]
    simp [hx, h0, h1, hf]
    exact hr _ rfl
  | succ m ih =>
    intro j todo σ h e hlt hσ
    have h2 : j < (N f id).names.length := by omega
    have hid : 1 ≤ (nE (N f id) j).id ∧ (nE (N f id) j).id ≤ 9 := by
      have := nodS_ids (f := f) (hN id.toNat (by omega))
      rw [Int.toNat_of_nonneg h0] at this
      exact this _ (List.mem_map.2 ⟨nE (N f id) j, by simp [nE, List.getD_eq_getElem?_getD, h2], rfl⟩)
    have g0 : 0 ≤ (nE (N f id) j).id := by omega
    have g1 : (nE (N f id) j).id < 10 := by omega
    rw [go_lp, b85_10, L85_10, hσ, nx_, hc]
    by_cases h3 : (N f (nE (N f id) j).id).kind = 2
    · have b1 : ((todo.length : Int) + 1) * 8 ≤ 140737488355328 := by omega
      have b2 : (todo.length + 1) * 8 ≤ 140737488355328 := by omega
      have b3 : todo.length + 1 ≤ 140737488355328 := by omega
      simp [h2, h0, h1, hf, g0, g1, eq_true h3, b2, b3, wrapJ (show j ≤ 1000000000000 by omega)]
      refine ih (j + 1) (todo ++ [(nE (N f id) j).id]) _ (by omega) (by rw [e, kidsF, if_pos h3]; simp) (by simp; omega) ?_
      simp [row_one, row_app]
    · simp [h2, h0, h1, hf, g0, g1, h3, wrapJ (show j ≤ 1000000000000 by omega)]
      exact ih (j + 1) todo _ (by omega) (by rw [e, kidsF, if_neg h3]; simp) (by omega) (by simp)
end Go.Mach.Fv
