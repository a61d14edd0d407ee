/- What the exact laws' own functions over areas answer: copying, comparing, marking. -/
import Derived.Test.YthoapmfpokohnaaQAreas
import Derived.Test.YthoapmfpokohnaaPf0
import Derived.Test.YthoapmfpokohnaaPfM2
import Derived.Test.YthoapmfpokohnaaPfM0
namespace Go.Proofs.Ythoapmfpokohnaa.Q
open Go.RowKit Go.Proofs.YthoapmfpokohnaaW.PrintWords Go.Proofs.YthoapmfpokohnaaW.PrintLast Go.Proofs.YthoapmfpokohnaaW.PrintMore Go.Proofs.Ythoapmfpokohnaa.P
set_option linter.unusedVariables false
set_option linter.unusedSimpArgs false

def toA (x : S174) : Ar := ⟨x.f0, x.f1, x.f2, x.f3⟩

theorem set_prefix {α : Type} (pre : List α) (x y : α) (post : List α) : (pre ++ x :: post).set pre.length y = pre ++ y :: post := by
  induction pre with
  | nil => rfl
  | cons a pre ih => simp [ih]
theorem getD_prefix {α : Type} (pre : List α) (x z : α) (post : List α) : (pre ++ x :: post).getD pre.length z = x := by
  simp [List.getD_eq_getElem?_getD]

theorem toAreaS_l (l : List S174) (hn : l.length ≤ 9223372036854775807) : ∀ (rest pre : List S174) (tail : List Ar), l = pre ++ rest → tail.length = rest.length →
    Ev (fun k => laws_toAreaS.l0 k l (pre.map toA ++ tail) (pre.length : Int)) (l.map toA) := by
  intro rest
  induction rest with
  | nil =>
    intro pre tail hl ht
    have ht' : tail = [] := List.eq_nil_of_length_eq_zero ht
    subst ht'
    refine Ev.step (fun k => by simp only [laws_toAreaS.l0]; rfl) ?_
    refine Ev.neg (by rw [hl]; simp) (Ev.pure ?_)
    rw [hl]; simp
  | cons x rest ih =>
    intro pre tail hl ht
    match tail, ht with
    | y :: tail, ht =>
      have hlt : pre.length < l.length := by rw [hl]; simp
      refine Ev.step (fun k => by simp only [laws_toAreaS.l0]; rfl) ?_
      refine Ev.pos (by omega) (Ev.pos (by omega) ?_)
      refine Ev.bind (Ev.const (by unfold laws_toArea.f; rfl)) ?_
      refine Ev.pos (by simp; omega) ?_
      rw [succ_wrap hlt hn, show ((pre.length : Int)).toNat = (pre.map toA).length by simp, set_prefix]
      have hx : rd_T174 l (pre.length : Int) = x := by unfold rd_T174; rw [hl, Int.toNat_natCast, getD_prefix]
      rw [hx]
      have h := ih (pre ++ [x]) tail (by rw [hl]; simp) (by simpa using ht)
      simp only [List.map_append, List.map_cons, List.map_nil, List.append_assoc, List.cons_append, List.nil_append, List.length_append, List.length_cons, List.length_nil] at h
      exact h
theorem toAreaS_ev (l : List S174) (hn : l.length ≤ 1048576) : Ev (fun k => laws_toAreaS.f k l) (l.map toA) := by
  unfold laws_toAreaS.f
  refine Ev.pos (by omega) (Ev.pos (by omega) ?_)
  have h := toAreaS_l l (by omega) l [] (List.replicate l.length z108) rfl (by simp)
  simpa using h

theorem eqArea_self (a b : Int) (c d : Bool) : laws_eqArea.f a b c d a b c d = some true := by
  unfold laws_eqArea.f
  simp
theorem eqAreaS_l (l : List Ar) (hn : l.length ≤ 9223372036854775807) : ∀ d i : Nat, i + d = l.length → Ev (fun k => laws_eqAreaS.l0 k l l (i : Int)) true := by
  intro d
  induction d with
  | zero =>
    intro i hi
    refine Ev.step (fun k => by simp only [laws_eqAreaS.l0]; rfl) ?_
    exact Ev.neg (by omega) (Ev.pure rfl)
  | succ d ih =>
    intro i hi
    have hlt : i < l.length := by omega
    refine Ev.step (fun k => by simp only [laws_eqAreaS.l0]; rfl) ?_
    refine Ev.pos (by omega) (Ev.pos (by omega) (Ev.pos (by omega) ?_))
    refine Ev.bind (Ev.const (eqArea_self _ _ _ _)) ?_
    rw [succ_wrap hlt hn]
    exact Ev.pos rfl (ih (i + 1) (by omega))
theorem eqAreaS_self (l : List Ar) (hn : l.length ≤ 9223372036854775807) : Ev (fun k => laws_eqAreaS.f k l l) true := by
  unfold laws_eqAreaS.f
  exact Ev.pos rfl (eqAreaS_l l hn l.length 0 (by omega))

theorem szAreaS_eq (l : List S174) (hn : l.length ≤ 9223372036854775807) (n : Int) (h0 : 0 ≤ n) (h1 : n ≤ 1048576) : laws_szAreaS.f l n = some (if n - l.length < 0 then -1 else n - l.length) := by
  unfold laws_szAreaS.f
  have : wrap64 (n - (l.length : Int)) = n - l.length := wrap_id (by omega) (by omega)
  rw [this]
  split <;> rfl

end Go.Proofs.Ythoapmfpokohnaa.Q
