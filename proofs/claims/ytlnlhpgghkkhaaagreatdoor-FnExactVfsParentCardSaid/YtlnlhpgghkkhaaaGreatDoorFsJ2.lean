/- The search from the first folder, whole. -/
import Derived.Test.YtlnlhpgghkkhaaaGreatDoorFsJ
open Go Go.Mach Go.Mach.Fv Go.Proofs
set_option maxRecDepth 100000
set_option maxHeartbeats 8000000
set_option linter.unusedVariables false
set_option linter.unusedSimpArgs false
namespace Go.Mach.Fv
theorem el_c0 {α : Type} [Inhabited α] (x : α) (xs : List α) : el (x :: xs) 0 = x := rfl
theorem sub1 (x : Int) (xs : List Int) : (List.take (1 + xs.length) (List.map (fun x => List.map deown x) (row encI (x :: xs)))).tail = row encI xs := by
  have h : List.map (fun x => List.map deown x) (row encI (x :: xs)) = row encI (x :: xs) := deown_rowI _
  rw [h, Nat.add_comm, row_cons, List.take_succ_cons, List.tail_cons]
  exact List.take_of_length_le (by rw [row_len]; exact Nat.le_refl _)
theorem ev85 (f : Fs) (hf : f.length = 10) (hN : ∀ i : Nat, i < 10 → nodS (N f i) = true) (hl : ∀ i : Nat, i < 10 → (N f i).names.length ≤ 6) (r : List It)
    (hr : ∀ (ms : List Int) (σ : St Unit), σ = ⟨65, [(4, .one (.ref () ⟨4, 0, []⟩))], [(4, [.own () .sl 4 (row encB (metL ms))])]⟩ → ans Tryz.prog Tryz.f85 [.ro] (Mach.go Z (Z.H 85) r σ) = some ⟨[(false, [.own () .sl 4 (row encB (metL ms))]), (false, [.bool true])], []⟩) :
    ∀ (n : Nat) (ms todo : List Int) (σ : St Unit), J f ms todo → In10 (ms ++ todo) → 11 ≤ ms.length + n → todo.length ≤ 1 + 6 * ms.length →
    σ.keep ⟨[1, 5, 4], [], [1, 5, 4]⟩ = some ⟨65, [(1, .one (.ref () ⟨1, 0, []⟩)), (5, .one (.ref () ⟨5, 0, []⟩)), (4, .one (.ref () ⟨4, 0, []⟩))], [(1, [.own () .pt 65 [[.ro () 62 (row (encN 114 true) f)]]]), (5, [.own () .sl 3 (row encI todo)]), (4, [.own () .sl 4 (row encB (metL ms))])]⟩ →
      ans Tryz.prog Tryz.f85 [.ro] (Mach.go Z (Z.H 85) ((.lp (lpc Tryz.f85 3)) :: .blk 0 :: r) σ) = some ⟨[(false, [.own () .sl 4 (row encB (metL (bfs f n ms todo).1))]), (false, [.bool (bfs f n ms todo).2])], []⟩ := by
  have hb : lpc Tryz.f85 3 = lpc Tryz.f85 3 := rfl
  conv at hb => rhs; simp only [lpc, bodyOf, Tryz.f85, nthLoop, headId, if_true, if_false, reduceIte, Nat.reduceEqDiff]
  have hb10 : lpc Tryz.f85 10 = lpc Tryz.f85 10 := rfl
  conv at hb10 => rhs; simp only [lpc, bodyOf, Tryz.f85, nthLoop, headId, if_true, if_false, reduceIte, Nat.reduceEqDiff]
  rw [← hb10] at hb
  clear hb10
  have hc := fun r σ => congrArg (fun c => Mach.go Z (Z.H 85) (.code c :: r) σ) hb
  clear hb
  intro n
  induction n with
  | zero =>
    intro ms todo σ hJ hI hn hl' hσ
    have := len_10 ms hJ.nd (fun i hi => hI i (List.mem_append_left _ hi))
    omega
  | succ n ih =>
    intro ms todo σ hJ hI hn hl' hσ
    have hm10 := len_10 ms hJ.nd (fun i hi => hI i (List.mem_append_left _ hi))
    cases todo with
    | nil =>
      rw [go_lp, b85_3, L85_3, hσ, nx_, hc]
      simp
      exact hr ms _ rfl
    | cons i t =>
      have hi := hI i (by simp)
      have hk := kids_in hN i hi.1 hi.2
      have b1 : (0 : Int) < (t.length : Int) + 1 := by omega
      have b2 : (1 : Int) ≤ (t.length : Int) + 1 := by omega
      simp only [List.length_cons] at hl'
      have b3 : t.length * 8 ≤ 140737488355328 := by omega
      have b4 : t.length ≤ 140737488355328 := by omega
      have b5 : 1 + t.length ≤ t.length + 1 := by omega
      have e1 := metL_len ms
      have e2 := metL_el ms hi.1 hi.2
      have e3 : i.toNat < (metL ms).length := by omega
      rw [go_lp, b85_3, L85_3, hσ, nx_, hc]
      unfold bfs
      by_cases h3 : i ∈ ms
      · rw [if_pos h3]
        simp [el_c0, sub1, b5, encI, encB, b1, b2, b3, b4, hi.1, hi.2, e1, e2, h3]
      · rw [if_neg h3]
        simp [el_c0, sub1, b5, encI, encB, b1, b2, b3, b4, hi.1, hi.2, e1, e2, h3]
        have hli : (N f i).names.length ≤ 6 := by have := hl i.toNat (by omega); rwa [Int.toNat_of_nonneg hi.1] at this
        refine ev85b f hf hN i hi.1 hi.2 (metL (ms ++ [i])) _ _ t (by omega) hli (fun σ hσ => ?_) (N f i).names.length 0 t _ (by omega) (by rw [kidsF_all]) (by omega) ?_
        · subst hσ
          simp
          refine ih (ms ++ [i]) (t ++ kids f i) _ (hJ.step h3) ?_ (by simp; omega) ?_ (by simp)
          · intro x hx
            simp only [List.mem_append, List.mem_singleton] at hx
            rcases hx with (hx | rfl) | (hx | hx)
            · exact hI x (by simp [hx])
            · exact hi
            · exact hI x (by simp [hx])
            · exact hk x hx
          · have hkl : (kids f i).length ≤ 6 := Nat.le_trans (List.length_filter_le _ _) (by simpa [ids] using hli)
            simp only [List.length_append, List.length_singleton]
            omega
        · rw [row_modify encB (metL ms) i.toNat true, metL_set ms hi.1 hi.2]
          · simp
          · intro z; simp [encB]
theorem metL_nil : metL [] = List.replicate 10 false := rfl
theorem rep_B (n : Nat) : List.replicate n [C.bool false] = row encB (List.replicate n false) := by simp [row, encB]
theorem fn85 (f : Fs) (hf : f.length = 10) (hN : ∀ i : Nat, i < 10 → nodS (N f i) = true) (hl : ∀ i : Nat, i < 10 → (N f i).names.length ≤ 6) :
    Fn Z 85 [.agg [.ro () 62 (row (encN 114 true) f)]] = some ⟨[(false, [.own () .sl 4 (row encB (metL (bfs f 11 [] [0]).1))]), (false, [.bool (bfs f 11 [] [0]).2])], []⟩ := by
  refine Fn_ans Z rfl Tryz.func85 rfl K85 ?_
  rw [ZP, M85, nt85]
  have hb : bodyOf Tryz.f85 = bodyOf Tryz.f85 := rfl
  conv at hb => rhs; simp only [bodyOf, Tryz.f85]
  have hb3 : lpc Tryz.f85 3 = lpc Tryz.f85 3 := rfl
  conv at hb3 => rhs; simp only [lpc, bodyOf, Tryz.f85, nthLoop, headId, if_true, if_false, reduceIte, Nat.reduceEqDiff]
  rw [← hb3] at hb
  rw [hb]
  clear hb hb3
  simp [hf]
  refine ev85 f hf hN hl _ (fun ms σ hσ => ?_) 11 [] [0] _ (J.start f) start_in (by simp) (by simp) ?_
  · subst hσ
    simp
  · simp [metL_nil, rep_B, row_one]
    rfl
end Go.Mach.Fv
