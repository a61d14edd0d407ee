/- A line of the shell: the program and the reference agree. -/
import Derived.Test.YtkjjlkkfhbfbmaaDoorQShell2
import Derived.Test.YtkjjlkkfhbfbmaaDoorPf0
import Derived.Test.YtkjjlkkfhbfbmaaDoorPfM3
import Derived.Test.YtkjjlkkfhbfbmaaDoorPfM4
import Derived.Test.YtkjjlkkfhbfbmaaDoorPfM1
import Derived.Test.YtkjjlkkfhbfbmaaDoorPfspecShellLine
import Derived.Test.YtkjjlkkfhbfbmaaDoorPfM0
namespace Go.Proofs.YtkjjlkkfhbfbmaaDoor.Q
open Go.RowKit Go.Proofs.YtkjjlkkfhbfbmaaDoorW.PrintWords Go.Proofs.YtkjjlkkfhbfbmaaDoorW.PrintLast Go.Proofs.YtkjjlkkfhbfbmaaDoorW.PrintMore Go.Proofs.YtkjjlkkfhbfbmaaDoor.P
set_option linter.unusedVariables false
set_option linter.unusedSimpArgs false
theorem callOk (a b c : Int) (p q r : ByteArray) (hp : p.size ≤ 1048576) (hq : q.size ≤ 1048576) : ∃ v, Ev (fun k => impl_CallOk.f k a b c p q r) v ∧ Ev (fun k => spec_CallOk.f k a b c p q r) v := by
  have i1 := pathI' p hp
  have i2 := pathI' q hq
  have s1 := pathS' p hp
  have s2 := pathS' q hq
  generalize pathR p.data.toList = P1 at i1 s1
  generalize pathR q.data.toList = P2 at i2 s2
  refine ⟨((decide (1 ≤ a) && decide (a ≤ 31)) && (P1.2.2 && (P2.2.2 && (decide ((p.size : Int) ≤ 40) && (decide ((q.size : Int) ≤ 40) && decide ((r.size : Int) ≤ 40)))))), ?_, ?_⟩
  · unfold impl_CallOk.f
    refine Ev.bind i1 (Ev.bind i2 (Ev.bind (Ev.const (implIn' a 1 31)) ?_))
    cases (decide (1 ≤ a) && decide (a ≤ 31)) with
    | false => exact Ev.neg (by simp) (Ev.pure rfl)
    | true =>
      refine Ev.pos rfl ?_
      cases P1.2.2 with
      | false => exact Ev.neg (by simp) (Ev.pure rfl)
      | true =>
        refine Ev.pos rfl ?_
        cases P2.2.2 with
        | false => exact Ev.neg (by simp) (Ev.pure rfl)
        | true =>
          refine Ev.pos rfl ?_
          by_cases h1 : (p.size : Int) ≤ 40
          · by_cases h2 : (q.size : Int) ≤ 40
            · exact Ev.pos h1 (Ev.pos h2 (Ev.pure (by simp [h1, h2])))
            · exact Ev.pos h1 (Ev.neg h2 (Ev.pure (by simp [h2])))
          · exact Ev.neg h1 (Ev.pure (by simp [h1]))
  · unfold spec_CallOk.f
    refine Ev.bind s1 (Ev.bind s2 (Ev.bind (Ev.const (specIn' a 1 31)) ?_))
    cases (decide (1 ≤ a) && decide (a ≤ 31)) with
    | false => exact Ev.neg (by simp) (Ev.pure rfl)
    | true =>
      refine Ev.pos rfl ?_
      by_cases h3 : (r.size : Int) ≤ 40
      · by_cases h1 : (p.size : Int) ≤ 40
        · by_cases h2 : (q.size : Int) ≤ 40
          · refine Ev.pos h3 (Ev.pos h1 (Ev.pos h2 ?_))
            cases P1.2.2 with
            | false => exact Ev.neg (by simp) (Ev.pure rfl)
            | true => exact Ev.pos rfl (Ev.pure (by simp [h1, h2, h3]))
          · exact Ev.pos h3 (Ev.pos h1 (Ev.neg h2 (Ev.pure (by simp [h2]))))
        · exact Ev.pos h3 (Ev.neg h1 (Ev.pure (by simp [h1])))
      · exact Ev.neg h3 (Ev.pure (by simp [h3]))

def formOf (w : List UInt8) : List UInt8 × List UInt8 := match cutS [] w with | a :: b :: _ => (a, b) | [a] => (a, []) | [] => ([], [])
def findW (s : List UInt8) : List (List UInt8) → Nat → Int × ByteArray
  | [], _ => (0, (⟨#[]⟩ : ByteArray))
  | w :: ws, i => if (formOf w).1 = s then ((i : Int), Bs (formOf w).2) else findW s ws (i + 1)
theorem findW_none (s : List UInt8) : ∀ (ws : List (List UInt8)) (i : Nat), (∀ w ∈ ws, (formOf w).1 ≠ s) → findW s ws i = (0, (⟨#[]⟩ : ByteArray))
  | [], i, h => rfl
  | w :: ws, i, h => by
    rw [findW, if_neg (h w (by simp))]
    exact findW_none s ws _ (fun x hx => h x (List.mem_cons_of_mem _ hx))
theorem form_l (s : List UInt8) (W : List (List UInt8)) (hW : ∀ w ∈ W, w.length ≤ 100) (hn : W.length ≤ 1000) : ∀ (rest pre : List (List UInt8)), W = pre ++ rest → Ev (fun k => spec_l18Form.l0 k (Bs s) (W.map Bs) (pre.length : Int)) (findW s rest pre.length) := by
  intro rest
  induction rest with
  | nil =>
    intro pre hp
    refine Ev.step (fun k => by simp only [spec_l18Form.l0]; rfl) ?_
    refine Ev.neg (by rw [List.length_map, hp]; simp) (Ev.now _)
  | cons w rest ih =>
    intro pre hp
    have hl : W.length = pre.length + (rest.length + 1) := by rw [hp]; simp
    have hw : W.getD pre.length [] = w := by rw [hp]; simp [List.getD]
    have hwl : w.length ≤ 100 := hW w (by rw [hp]; simp)
    have hs : wrap64 ((pre.length : Int) + 1) = ((pre.length + 1 : Nat) : Int) := by rw [wrap_id (by omega) (by omega)]; omega
    refine Ev.step (fun k => by simp only [spec_l18Form.l0]; rfl) ?_
    refine Ev.pos (by rw [List.length_map]; omega) (Ev.pos (by omega) ?_)
    rw [rdP, hw, hs]
    refine Ev.bind (cutSpec w (by omega)) ?_
    have h0 := rdP (cutS [] w) 0
    have h1 := rdP (cutS [] w) 1
    rw [show ((0 : Nat) : Int) = 0 from rfl] at h0
    rw [show ((1 : Nat) : Int) = 1 from rfl] at h1
    simp only [h0, h1, List.length_map, Bs_toList]
    have next := ih (pre ++ [w]) (by rw [hp]; simp)
    rw [show (pre ++ [w]).length = pre.length + 1 by simp] at next
    rw [findW]
    unfold formOf
    cases hc : cutS [] w with
    | nil => exact absurd hc (cutS_ne w [])
    | cons a t =>
      cases t with
      | nil =>
        refine Ev.pos (by simp) ?_
        by_cases he : a = s
        · rw [if_pos he]
          exact Ev.pos he (Ev.pos (by simp) (Ev.now _))
        · rw [if_neg he]
          exact Ev.neg he next
      | cons b t =>
        refine Ev.pos (by simp; omega) ?_
        by_cases he : a = s
        · rw [if_pos he]
          exact Ev.pos he (Ev.neg (by simp; omega) (Ev.pos (by simp; omega) (Ev.now _)))
        · rw [if_neg he]
          exact Ev.neg he next
def Wd : List (List UInt8) := [[], [102, 111, 114, 107], [101, 120, 105, 116, 32, 110], [119, 97, 105, 116], [107, 105, 108, 108, 32, 110, 110], [115, 105, 103, 32, 110, 110], [98, 108, 111, 99, 107, 32, 110], [115, 105, 103, 115], [109, 97, 112, 32, 110, 110, 116], [117, 110, 109, 97, 112, 32, 110, 110], [108, 111, 97, 100, 32, 110], [115, 116, 111, 114, 101, 32, 110, 110], [111, 112, 101, 110, 32, 112, 110, 110], [99, 108, 111, 115, 101, 32, 110], [114, 101, 97, 100, 32, 110, 110], [119, 114, 105, 116, 101, 32, 110, 116], [100, 117, 112, 32, 110], [112, 105, 112, 101], [100, 105, 114, 32, 112], [102, 111, 108, 100, 101, 114, 32, 112, 110], [100, 114, 111, 112, 32, 112], [108, 105, 110, 107, 32, 112, 112], [109, 111, 118, 101, 32, 112, 112], [109, 111, 100, 101, 32, 112, 110], [111, 119, 110, 32, 112, 110], [117, 115, 101, 114, 32, 110], [109, 111, 117, 110, 116, 32, 112], [117, 110, 109, 111, 117, 110, 116], [114, 117, 110, 32, 112], [115, 101, 101, 107, 32, 110, 110], [119, 101, 105, 103, 104, 116, 32, 110], [105, 100]]
theorem formS (s : List UInt8) : Ev (fun k => spec_l18Form.f k (Bs s)) (findW s Wd.tail 1) :=
  form_l s Wd (by decide) (by decide) Wd.tail [[]] rfl
def okPair (e : Int × ByteArray × Bool) (f : Int × ByteArray) : Bool := if e.2.2 then decide (f.1 = e.1) && (decide (f.1 ≠ 0) && okF e.2.1.data.toList f.2.data.toList 0 0) else decide (f.1 = 0)
def keysW : List (List UInt8) := Wd.tail.map (fun w => (formOf w).1)
theorem pair_ok (s : List UInt8) : okPair (wfind impl_words.f (Bs s)) (findW s Wd.tail 1) = true := by
  by_cases hs : s ∈ keysW
  · have h : ∀ s ∈ keysW, okPair (wfind impl_words.f (Bs s)) (findW s Wd.tail 1) = true := by decide +kernel
    exact h s hs
  · have hk : ∀ x ∈ impl_words.f, x.1.data.toList ∈ keysW := by decide +kernel
    rw [wfind_none (fun x hx e => hs (by have := hk x hx; rw [e, Bs_data] at this; exact this)), findW_none s _ _ (fun w hw e => hs (e ▸ List.mem_map.2 ⟨w, hw, rfl⟩))]
    rfl
theorem shortF {s F : List UInt8} {f : Int} (h : findW s Wd.tail 1 = (f, Bs F)) : F.length ≤ 100 := by
  have key : ∀ (ws : List (List UInt8)) (i : Nat), (∀ w ∈ ws, (formOf w).2.length ≤ 100) → (findW s ws i).2.size ≤ 100 := by
    intro ws
    induction ws with
    | nil => intro i _; show (0 : Nat) ≤ 100; decide
    | cons w ws ih =>
      intro i hw
      rw [findW]
      split
      · rw [Bs_size]
        exact hw w (by simp)
      · exact ih _ (fun x hx => hw x (List.mem_cons_of_mem _ hx))
  have := key Wd.tail 1 (by decide)
  rw [h, Bs_size] at this
  exact this
theorem step_sz (c : Int) (s : ByteArray) (y : S23) (hs : s.size ≤ 1048576) (h3 : y.f3.size ≤ 1048576) (h4 : y.f4.size ≤ 1048576) : (impl_ShellLine.step c s y).1.f3.size ≤ 1048576 ∧ (impl_ShellLine.step c s y).1.f4.size ≤ 1048576 := by
  unfold impl_ShellLine.step
  split
  · exact ⟨h3, h4⟩
  split
  · exact ⟨h3, h4⟩
  split
  · exact ⟨hs, h4⟩
  split
  · exact ⟨h3, hs⟩
  split
  · exact ⟨h3, h4⟩
  · exact ⟨h3, h4⟩
theorem loop_sz (P : List (List UInt8)) (hP : ∀ p ∈ P, p.length ≤ 1048576) (N : ByteArray) : ∀ (m i : Nat) (y : S23), y.f3.size ≤ 1048576 → y.f4.size ≤ 1048576 → (impl_ShellLine.loop (P.map Bs) N m i y).1.f3.size ≤ 1048576 ∧ (impl_ShellLine.loop (P.map Bs) N m i y).1.f4.size ≤ 1048576
  | 0, i, y, h3, h4 => ⟨h3, h4⟩
  | m + 1, i, y, h3, h4 => by
    rw [impl_ShellLine.loop, rdP]
    have h := step_sz (N.data.toList.getD i 0).toNat (Bs (P.getD (i + 2) [])) y (by rw [Bs_size]; exact getP P hP _) h3 h4
    split
    · exact loop_sz P hP N m (i + 1) _ h.1 h.2
    · exact ⟨h3, h4⟩
def tup (R : R8) : Int × S23 × Bool := (R.1, ⟨R.2.1, R.2.2.1, R.2.2.2.1, R.2.2.2.2.1, R.2.2.2.2.2.1, R.2.2.2.2.2.2.1⟩, R.2.2.2.2.2.2.2)
theorem shell_g (P : List (List UInt8)) (hne : P ≠ []) (hP : ∀ p ∈ P, p.length ≤ 1048576) (hL : P.length ≤ 1048577) : ∃ R : R8, Ev (fun k => (spec_l18Num.f k (rdOf ByteArray.empty (P.map Bs) 0)).bind fun bt106 => (if bt106.2 = true then (spec_ShellLine.j0 k (P.map Bs) bt106.1 true (decide (((P.map Bs).length : Int) < 2))) else (spec_ShellLine.j0 k (P.map Bs) bt106.1 false true))) R ∧
    Ev (fun k => impl_ShellLine.g k (P.map Bs)) (tup R) ∧ (R.2.2.2.2.2.2.2 = true → 2 ≤ P.length ∧ (numR (P.getD 0 [])).2 = true ∧ R.1 = (numR (P.getD 0 [])).1 ∧ Ev (fun k => impl_CallOk.f k R.2.1 R.2.2.1 R.2.2.2.1 R.2.2.2.2.1 R.2.2.2.2.2.1 R.2.2.2.2.2.2.1) true) := by
  have h0 := rdP P 0
  have h1 := rdP P 1
  rw [show ((0 : Nat) : Int) = 0 from rfl] at h0
  rw [show ((1 : Nat) : Int) = 1 from rfl] at h1
  have s0 := getP P hP 0
  have s1 := getP P hP 1
  obtain ⟨n2, n1⟩ := numImpl (P.getD 0 [])
  unfold impl_ShellLine.g
  rw [h0, h1]
  generalize hq : P.getD 0 [] = p0 at *
  generalize hq1 : P.getD 1 [] = p1 at *
  by_cases c2 : P.length < 2
  · refine ⟨zer, Ev.bind (numSpec p0 s0) ?_, Ev.pos (by rw [List.length_map]; exact c2) (Ev.now _), fun h => by cases h⟩
    have hz : ∀ b, Ev (fun k => spec_ShellLine.j0 k (P.map Bs) (numR p0).1 b true) zer := fun b => Ev.step (fun k => by simp only [spec_ShellLine.j0]; rfl) (Ev.pos (by trivial) (Ev.now _))
    rw [show decide (((P.map Bs).length : Int) < 2) = true from decide_eq_true (by rw [List.length_map]; omega)]
    cases (numR p0).2 with
    | true => exact Ev.pos rfl (hz _)
    | false => exact Ev.neg (by simp) (hz _)
  cases hb : (numR p0).2 with
  | false =>
    refine ⟨zer, Ev.bind (numSpec p0 s0) (Ev.neg (by rw [hb]; simp) (Ev.step (fun k => by simp only [spec_ShellLine.j0]; rfl) (Ev.pos (by trivial) (Ev.now _)))), Ev.neg (by rw [List.length_map]; exact c2) ?_, fun h => by cases h⟩
    unfold impl_ShellLine.g2
    exact Ev.neg (by rw [n2, hb]; simp) (Ev.now _)
  | true =>
  have hok := pair_ok p1
  obtain ⟨e1, e2, e3, he⟩ : ∃ e1 e2 e3, wfind impl_words.f (Bs p1) = (e1, e2, e3) := ⟨_, _, _, rfl⟩
  obtain ⟨f1, f2, hf⟩ : ∃ f1 f2, findW p1 Wd.tail 1 = (f1, f2) := ⟨_, _, rfl⟩
  have hF := formS p1
  rw [hf] at hF
  rw [he, hf] at hok
  rw [n1 hb, he]
  unfold okPair at hok
  have lead : ∀ R, Ev (fun k => if f1 = 0 then spec_ShellLine.j1 k (P.map Bs) (numR p0).1 true f1 f2 true else spec_ShellLine.j1 k (P.map Bs) (numR p0).1 true f1 f2 (((P.map Bs).length : Int) != wrap64 (2 + (f2.size : Int)))) R →
      Ev (fun k => (spec_l18Num.f k (Bs p0)).bind fun bt106 => (if bt106.2 = true then (spec_ShellLine.j0 k (P.map Bs) bt106.1 true (decide (((P.map Bs).length : Int) < 2))) else (spec_ShellLine.j0 k (P.map Bs) bt106.1 false true))) R := by
    intro R h
    refine Ev.bind (numSpec p0 s0) (Ev.pos hb ?_)
    rw [show decide (((P.map Bs).length : Int) < 2) = false from decide_eq_false (by rw [List.length_map]; omega)]
    refine Ev.step (fun k => by simp only [spec_ShellLine.j0]; rfl) ?_
    refine Ev.neg (by simp) (Ev.pos (by rw [List.length_map]; omega) ?_)
    rw [h1]
    exact Ev.bind hF h
  have gl : ∀ R, Ev (fun k => impl_ShellLine.g2 k (P.map Bs) (numR p0) (e1, e2, e3)) (tup R) → Ev (fun k => if (P.map Bs).length < 2 then some (0, impl_ShellLine.zero, false) else impl_ShellLine.g2 k (P.map Bs) (numR p0) (e1, e2, e3)) (tup R) := fun R h => Ev.neg (by rw [List.length_map]; exact c2) h
  have jz : Ev (fun k => spec_ShellLine.j1 k (P.map Bs) (numR p0).1 true f1 f2 true) zer := Ev.step (fun k => by simp only [spec_ShellLine.j1]; rfl) (Ev.pos (by trivial) (Ev.now _))
  cases e3 with
  | false =>
    simp only [if_false, Bool.false_eq_true, decide_eq_true_eq] at hok
    refine ⟨zer, lead _ (Ev.pos hok jz), gl _ ?_, fun h => by cases h⟩
    unfold impl_ShellLine.g2
    exact Ev.pos hb (Ev.neg (by simp) (Ev.now _))
  | true =>
  simp only [if_true, Bool.and_eq_true, decide_eq_true_eq] at hok
  obtain ⟨rfl, hf0, hok⟩ := hok
  have hlen := okF_len _ _ _ _ hok
  obtain ⟨N, rfl⟩ : ∃ N, e2 = Bs N := ⟨_, (Bs_eta e2).symm⟩
  obtain ⟨F, rfl⟩ : ∃ F, f2 = Bs F := ⟨_, (Bs_eta f2).symm⟩
  rw [Bs_data, Bs_data] at hok hlen
  by_cases c4 : P.length = 2 + N.length
  rotate_left
  · refine ⟨zer, lead _ (Ev.neg hf0 ?_), gl _ ?_, fun h => by cases h⟩
    · rw [show (((P.map Bs).length : Int) != wrap64 (2 + ((Bs F).size : Int))) = true from by
        rw [Bs_size, List.length_map, bne_iff_ne, wrap_id (by omega) (by have : F.length ≤ 100 := shortF hf; omega)]
        omega]
      exact jz
    · unfold impl_ShellLine.g2
      exact Ev.pos hb (Ev.pos rfl (Ev.neg (by rw [List.length_map, Bs_size]; exact c4) (Ev.now _)))
  have hx : (((P.map Bs).length : Int) != wrap64 (2 + ((Bs F).size : Int))) = false := by
    rw [Bs_size, List.length_map, bne_eq_false_iff_eq, wrap_id (by omega) (by omega)]
    omega
  have hsz := loop_sz P hP (Bs N) N.length 0 ⟨f1, 0, 0, ⟨#[]⟩, ⟨#[]⟩, ⟨#[]⟩⟩ (show (⟨#[]⟩ : ByteArray).size ≤ 1048576 by decide) (show (⟨#[]⟩ : ByteArray).size ≤ 1048576 by decide)
  have hlive := fun R => live_ev P hP hL (numR p0).1 f1 R N F [] [] [] [] (⟨#[]⟩ : ByteArray) ⟨f1, 0, 0, ⟨#[]⟩, ⟨#[]⟩, ⟨#[]⟩⟩ rfl (by simp; omega) (by simp) (by simp) hok ⟨rfl, rfl, rfl, rfl, rfl, rfl⟩
  simp only [List.nil_append, List.length_nil] at hlive
  have tail : ∀ R, Ev (fun k => spec_ShellLine.l0 k (P.map Bs) (numR p0).1 true (Bs F) [] [] ((0 : Nat) : Int) f1 0 0 (⟨#[]⟩ : ByteArray) (⟨#[]⟩ : ByteArray) (⟨#[]⟩ : ByteArray)) R → Ev (fun k => if f1 = 0 then spec_ShellLine.j1 k (P.map Bs) (numR p0).1 true f1 (Bs F) true else spec_ShellLine.j1 k (P.map Bs) (numR p0).1 true f1 (Bs F) (((P.map Bs).length : Int) != wrap64 (2 + ((Bs F).size : Int)))) R := by
    intro R h
    refine Ev.neg hf0 ?_
    rw [hx]
    refine Ev.step (fun k => by simp only [spec_ShellLine.j1]; rfl) ?_
    exact Ev.neg (by simp) h
  have gi : ∀ R, Ev (fun k => impl_ShellLine.fin k (numR p0).1 (impl_ShellLine.loop (P.map Bs) (Bs N) N.length 0 ⟨f1, 0, 0, ⟨#[]⟩, ⟨#[]⟩, ⟨#[]⟩⟩)) (tup R) → Ev (fun k => impl_ShellLine.g2 k (P.map Bs) (numR p0) (f1, Bs N, true)) (tup R) := by
    intro R h
    unfold impl_ShellLine.g2
    refine Ev.pos hb (Ev.pos rfl (Ev.pos (by rw [List.length_map, Bs_size]; exact c4) ?_))
    rw [Bs_size]
    exact h
  generalize impl_ShellLine.loop (P.map Bs) (Bs N) N.length 0 ⟨f1, 0, 0, ⟨#[]⟩, ⟨#[]⟩, ⟨#[]⟩⟩ = r at hsz hlive gi
  obtain ⟨y, br⟩ := r
  cases br with
  | false =>
    refine ⟨zer, lead _ (tail _ (hlive _ (fun h => by cases h) (fun _ => rfl))), gl _ (gi _ ?_), fun h => by cases h⟩
    unfold impl_ShellLine.fin
    exact Ev.neg (by simp) (Ev.now _)
  | true =>
    obtain ⟨v, vi, vs⟩ := callOk y.f0 y.f1 y.f2 y.f3 y.f4 y.f5 hsz.1 hsz.2
    refine ⟨if v = true then ((numR p0).1, y.f0, y.f1, y.f2, y.f3, y.f4, y.f5, true) else zer, lead _ (tail _ (hlive _ (fun _ => ?_) (fun h => by cases h))), gl _ (gi _ ?_), fun h => ?_⟩
    · unfold FinS
      refine Ev.bind vs ?_
      cases v with
      | true => exact Ev.pos rfl (Ev.now _)
      | false => exact Ev.neg (by simp) (Ev.now _)
    · unfold impl_ShellLine.fin
      refine Ev.pos rfl (Ev.bind vi ?_)
      cases v with
      | true => exact Ev.pos rfl (Ev.now _)
      | false => exact Ev.neg (by simp) (Ev.now _)
    · cases v with
      | true => exact ⟨by omega, by first | exact hb | rfl, rfl, vi⟩
      | false => cases h
theorem shell (l : List UInt8) (hn : l.length ≤ 1048576) : ∃ R : R8, Ev (fun k => spec_ShellLine.f k (Bs l)) R ∧ Ev (fun k => impl_ShellLine.f k (Bs l)) (tup R) ∧ (R.2.2.2.2.2.2.2 = true → 2 ≤ (cutS [] l).length ∧ (numR ((cutS [] l).getD 0 [])).2 = true ∧ R.1 = (numR ((cutS [] l).getD 0 [])).1 ∧ Ev (fun k => impl_CallOk.f k R.2.1 R.2.2.1 R.2.2.2.1 R.2.2.2.2.1 R.2.2.2.2.2.1 R.2.2.2.2.2.2.1) true) := by
  have hne := cutS_ne l []
  have hP : ∀ p ∈ cutS [] l, p.length ≤ 1048576 := fun p hp => by
    have := cutS_size l [] p hp
    simp at this
    omega
  have hL : (cutS [] l).length ≤ 1048577 := by have := cutS_len l []; omega
  obtain ⟨R, h1, h2, h3⟩ := shell_g (cutS [] l) hne hP hL
  refine ⟨R, ?_, ?_, h3⟩
  · unfold spec_ShellLine.f
    refine Ev.bind (cutSpec l hn) (Ev.pos (by rw [List.length_map]; have := List.length_pos_iff.2 hne; omega) h1)
  · unfold impl_ShellLine.f
    refine Ev.bind (splitI _ rfl rfl l hn) (Ev.pos ⟨?_, by rw [List.length_map]; exact hL⟩ h2)
    rw [List.all_eq_true]
    intro s hs
    obtain ⟨p, hp, rfl⟩ := List.mem_map.1 hs
    rw [Bs_size]
    exact decide_eq_true (hP p hp)
end Go.Proofs.YtkjjlkkfhbfbmaaDoor.Q
