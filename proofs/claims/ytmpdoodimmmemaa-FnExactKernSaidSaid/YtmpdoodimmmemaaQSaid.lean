/- What was said, in order: the program's walk and the reference's. -/
import Derived.Test.YtmpdoodimmmemaaQLoops
import Derived.Test.YtmpdoodimmmemaaPf0
import Derived.Test.YtmpdoodimmmemaaPfimplKernSaid
import Derived.Test.YtmpdoodimmmemaaPflawseqAnswer
import Derived.Test.YtmpdoodimmmemaaPflawseqAnswerS
import Derived.Test.YtmpdoodimmmemaaPflawseqDone
import Derived.Test.YtmpdoodimmmemaaPflawseqDoneS
import Derived.Test.YtmpdoodimmmemaaPflawsszAnswer
import Derived.Test.YtmpdoodimmmemaaPflawsszAnswerS
import Derived.Test.YtmpdoodimmmemaaPflawsszDone
import Derived.Test.YtmpdoodimmmemaaPflawsszDoneS
import Derived.Test.YtmpdoodimmmemaaPflawstoAnswer
import Derived.Test.YtmpdoodimmmemaaPflawstoAnswerS
import Derived.Test.YtmpdoodimmmemaaPflawstoDone
import Derived.Test.YtmpdoodimmmemaaPflawstoDoneS
import Derived.Test.YtmpdoodimmmemaaPfspecKernSaid
namespace Go.Proofs.Ytmpdoodimmmemaa.Q
open Go.RowKit Go.Proofs.YtmpdoodimmmemaaW.PrintWords Go.Proofs.YtmpdoodimmmemaaW.PrintLast Go.Proofs.YtmpdoodimmmemaaW.PrintMore Go.Proofs.Ytmpdoodimmmemaa.P
set_option linter.unusedVariables false
set_option linter.unusedSimpArgs false

def saidA (o : ByteArray) : List S55 → ByteArray
  | [] => o
  | a :: l => saidA (o ++ a.f3) l
def saidD (id : Int) (o : ByteArray) : List S53 → ByteArray
  | [] => o
  | d :: l => saidD id (if d.f0 = id then saidA o d.f1 else o) l
def wA (a : S55) : Nat := a.f3.size
def wD (d : S53) : Nat := sumW wA d.f1
theorem saidA_size (l : List S55) : ∀ o, (saidA o l).size = o.size + sumW wA l := by
  induction l with
  | nil => intro o; rfl
  | cons a l ih => intro o; rw [saidA, ih, ByteArray.size_append]; simp [sumW, wA]; omega

theorem implSaid_in (id : Int) (x10 : List S53) (x11 x12 : Int) (al : List S55) (hn : al.length ≤ 9223372036854775807) (r : ByteArray) : ∀ (rest pre : List S55) (o : ByteArray), al = pre ++ rest → o.size + sumW wA rest ≤ 9223372036854775807 →
    Ev (fun k => impl_KernSaid.l0 k id (saidA o rest) x10 x11 (wrap64 (x12 + 1))) r → Ev (fun k => impl_KernSaid.l1 k id o x10 x11 x12 al (al.length : Int) (pre.length : Int)) r := by
  intro rest
  induction rest with
  | nil =>
    intro pre o hl hs h
    refine Ev.step (fun k => by simp only [impl_KernSaid.l1]; rfl) ?_
    exact Ev.neg (by rw [hl]; simp) h
  | cons a rest ih =>
    intro pre o hl hs h
    have hlt : pre.length < al.length := by rw [hl]; simp
    refine Ev.step (fun k => by simp only [impl_KernSaid.l1]; rfl) ?_
    have hx : rd_T55 al (pre.length : Int) = a := by unfold rd_T55; rw [hl, Int.toNat_natCast, lgetD_prefix]
    rw [hx]
    simp only [sumW, wA] at hs
    refine Ev.pos (by omega) (Ev.pos (by omega) (Ev.pos (by omega) (Ev.pos (by omega) ?_)))
    rw [lsucc_wrap hlt hn]
    have h' := ih (pre ++ [a]) (o ++ a.f3) (by rw [hl]; simp) (by rw [ByteArray.size_append]; omega) h
    simpa using h'
theorem implSaid_l (id : Int) (l : List S53) (hn : l.length ≤ 9223372036854775807) (ha : ∀ d ∈ l, d.f1.length ≤ 9223372036854775807) : ∀ (rest pre : List S53) (o : ByteArray), l = pre ++ rest → o.size + sumW wD rest ≤ 9223372036854775807 →
    Ev (fun k => impl_KernSaid.l0 k id o l (l.length : Int) (pre.length : Int)) (saidD id o rest) := by
  intro rest
  induction rest with
  | nil =>
    intro pre o hl hs
    refine Ev.step (fun k => by simp only [impl_KernSaid.l0]; rfl) ?_
    exact Ev.neg (by rw [hl]; simp) (Ev.pure rfl)
  | cons d rest ih =>
    intro pre o hl hs
    have hlt : pre.length < l.length := by rw [hl]; simp
    refine Ev.step (fun k => by simp only [impl_KernSaid.l0]; rfl) ?_
    have hx : rd_T53 l (pre.length : Int) = d := by unfold rd_T53; rw [hl, Int.toNat_natCast, lgetD_prefix]
    rw [hx]
    simp only [sumW] at hs
    refine Ev.pos (by omega) (Ev.pos (by omega) (Ev.pos (by omega) ?_))
    have ih' := fun (o : ByteArray) (h : o.size + sumW wD rest ≤ 9223372036854775807) => ih (pre ++ [d]) o (by rw [hl]; simp) h
    simp only [List.length_append, List.length_cons, List.length_nil, Nat.zero_add] at ih'
    by_cases hd : d.f0 = id
    · refine Ev.pos hd ?_
      refine implSaid_in id l _ _ d.f1 (ha d (by rw [hl]; simp)) _ d.f1 [] o rfl (by have hw : wD d = sumW wA d.f1 := rfl; rw [hw] at hs; show o.size + sumW wA d.f1 ≤ _; omega) ?_
      rw [lsucc_wrap hlt hn]
      have := ih' (saidA o d.f1) (by rw [saidA_size]; have hw : wD d = sumW wA d.f1 := rfl; rw [hw] at hs; omega)
      simp only [saidD]; rw [if_pos hd]; exact this
    · refine Ev.neg hd ?_
      rw [lsucc_wrap hlt hn]
      simp only [saidD]; rw [if_neg hd]; exact ih' o (by omega)
theorem implSaid (id : Int) (l : List S53) (hn : l.length ≤ 9223372036854775807) (ha : ∀ d ∈ l, d.f1.length ≤ 9223372036854775807) (hs : sumW wD l ≤ 1048576) : Ev (fun k => impl_KernSaid.f k l id) (saidD id ⟨#[]⟩ l) := by
  unfold impl_KernSaid.f
  exact implSaid_l id l hn ha l [] ⟨#[]⟩ rfl (by show 0 + _ ≤ _; omega)

theorem specSaid_in (id : Int) (l : List S53) (pre : List S53) (d : S53) (post : List S53) (hl : l = pre ++ d :: post) (hd : d.f0 = id) (hn : d.f1.length ≤ 9223372036854775807) (r : ByteArray) : ∀ (rest prea : List S55) (o : ByteArray), d.f1 = prea ++ rest → o.size + sumW wA rest ≤ 9223372036854775807 →
    Ev (fun k => spec_KernSaid.l0 k l id (saidA o rest) (wrap64 ((pre.length : Int) + 1))) r → Ev (fun k => spec_KernSaid.l1 k l id o (pre.length : Int) (prea.length : Int)) r := by
  intro rest
  have hx : rd_T53 l (pre.length : Int) = d := by unfold rd_T53; rw [hl, Int.toNat_natCast, lgetD_prefix]
  have hlt : pre.length < l.length := by rw [hl]; simp
  induction rest with
  | nil =>
    intro prea o ha hs h
    refine Ev.step (fun k => by simp only [spec_KernSaid.l1]; rfl) ?_
    rw [hx]
    refine Ev.pos (by omega) (Ev.pos (by omega) (Ev.neg (by rw [ha]; simp) h))
  | cons a rest ih =>
    intro prea o ha hs h
    have hla : prea.length < d.f1.length := by rw [ha]; simp
    refine Ev.step (fun k => by simp only [spec_KernSaid.l1]; rfl) ?_
    rw [hx]
    have hy : rd_T55 d.f1 (prea.length : Int) = a := by unfold rd_T55; rw [ha, Int.toNat_natCast, lgetD_prefix]
    rw [hy]
    simp only [sumW, wA] at hs
    refine Ev.pos (by omega) (Ev.pos (by omega) (Ev.pos (by omega) (Ev.pos hd (Ev.pos (by omega) (Ev.pos (by omega) ?_)))))
    rw [lsucc_wrap hla hn]
    have h' := ih (prea ++ [a]) (o ++ a.f3) (by rw [ha]; simp) (by rw [ByteArray.size_append]; omega) h
    simpa using h'
theorem specSaid_l (id : Int) (l : List S53) (hn : l.length ≤ 9223372036854775807) (ha : ∀ d ∈ l, d.f1.length ≤ 9223372036854775807) : ∀ (rest pre : List S53) (o : ByteArray), l = pre ++ rest → o.size + sumW wD rest ≤ 9223372036854775807 →
    Ev (fun k => spec_KernSaid.l0 k l id o (pre.length : Int)) (saidD id o rest) := by
  intro rest
  induction rest with
  | nil =>
    intro pre o hl hs
    refine Ev.step (fun k => by simp only [spec_KernSaid.l0]; rfl) ?_
    exact Ev.neg (by rw [hl]; simp) (Ev.pure rfl)
  | cons d rest ih =>
    intro pre o hl hs
    have hlt : pre.length < l.length := by rw [hl]; simp
    refine Ev.step (fun k => by simp only [spec_KernSaid.l0]; rfl) ?_
    have hx : rd_T53 l (pre.length : Int) = d := by unfold rd_T53; rw [hl, Int.toNat_natCast, lgetD_prefix]
    simp only [sumW] at hs
    refine Ev.pos (by omega) ?_
    have ih' := fun (o : ByteArray) (h : o.size + sumW wD rest ≤ 9223372036854775807) => ih (pre ++ [d]) o (by rw [hl]; simp) h
    simp only [List.length_append, List.length_cons, List.length_nil, Nat.zero_add] at ih'
    by_cases hd : d.f0 = id
    · refine specSaid_in id l pre d rest hl hd (ha d (by rw [hl]; simp)) _ d.f1 [] o rfl (by have hw : wD d = sumW wA d.f1 := rfl; rw [hw] at hs; show o.size + sumW wA d.f1 ≤ _; omega) ?_
      rw [lsucc_wrap hlt hn]
      have := ih' (saidA o d.f1) (by rw [saidA_size]; have hw : wD d = sumW wA d.f1 := rfl; rw [hw] at hs; omega)
      simp only [saidD]; rw [if_pos hd]; exact this
    · refine Ev.step (fun k => by simp only [spec_KernSaid.l1]; rfl) ?_
      rw [hx]
      have fin : Ev (fun k => spec_KernSaid.l0 k l id o (wrap64 ((pre.length : Int) + 1))) (saidD id o (d :: rest)) := by
        rw [lsucc_wrap hlt hn]
        simp only [saidD]; rw [if_neg hd]; exact ih' o (by omega)
      refine Ev.pos (by omega) (Ev.pos (by omega) ?_)
      by_cases h0 : (0 : Int) < (d.f1.length : Int)
      · exact Ev.pos h0 (Ev.neg hd fin)
      · exact Ev.neg h0 fin
theorem specSaid (id : Int) (l : List S53) (hn : l.length ≤ 9223372036854775807) (ha : ∀ d ∈ l, d.f1.length ≤ 9223372036854775807) (hs : sumW wD l ≤ 1048576) : Ev (fun k => spec_KernSaid.f k l id) (saidD id ⟨#[]⟩ l) := by
  unfold spec_KernSaid.f
  exact specSaid_l id l hn ha l [] ⟨#[]⟩ rfl (by show 0 + _ ≤ _; omega)

-- copying, comparing, sizing
def toAn (x : S85) : S55 := ⟨x.f0, x.f1, x.f2, x.f3⟩
def toDn (x : S50) : S53 := ⟨x.f0, x.f1.map toAn⟩
def vA (x : S85) : Nat := x.f3.size
def vD (x : S50) : Nat := x.f1.length + sumW vA x.f1
theorem sumW_map {α β : Type} (g : α → β) (w : β → Nat) (l : List α) : sumW w (l.map g) = sumW (fun x => w (g x)) l := by
  induction l with
  | nil => rfl
  | cons x l ih => simp [sumW, ih]
theorem sumW_mono {α : Type} {v w : α → Nat} (h : ∀ x, v x ≤ w x) (l : List α) : sumW v l ≤ sumW w l := by
  induction l with
  | nil => exact Nat.le_refl _
  | cons x l ih => have := h x; simp only [sumW]; omega
theorem wD_to (l : List S50) : sumW wD (l.map toDn) ≤ sumW vD l := by
  rw [sumW_map]
  refine sumW_mono (fun x => ?_) l
  show sumW wA (x.f1.map toAn) ≤ x.f1.length + sumW vA x.f1
  rw [sumW_map]
  have := sumW_mono (v := fun x => wA (toAn x)) (w := vA) (fun y => Nat.le_refl _) x.f1
  omega

theorem toAnswerS_ev (l : List S85) (hn : l.length ≤ 1048576) : Ev (fun k => laws_toAnswerS.f k l) (l.map toAn) := by
  unfold laws_toAnswerS.f
  refine Ev.pos (by omega) (Ev.pos (by omega) ?_)
  exact mapLoop (L := laws_toAnswerS.l0) (z := z85) (conv := fun k x => laws_toAnswer.f x.f0 x.f1 x.f2 x.f3) (mkb := fun b => (⟨b.1, b.2.1, b.2.2.1, b.2.2.2⟩ : S55)) (by intro k x0 x3 x4; simp only [laws_toAnswerS.l0]; rfl) (fun x => (x.f0, x.f1, x.f2, x.f3)) l (by omega) (fun x _ => Ev.const (by unfold laws_toAnswer.f; rfl)) _
theorem toDoneS_ev (l : List S50) (hn : l.length ≤ 1048576) (ha : ∀ d ∈ l, d.f1.length ≤ 1048576) : Ev (fun k => laws_toDoneS.f k l) (l.map toDn) := by
  unfold laws_toDoneS.f
  refine Ev.pos (by omega) (Ev.pos (by omega) ?_)
  exact mapLoop (L := laws_toDoneS.l0) (z := z50) (conv := fun k x => laws_toDone.f k x.f0 x.f1) (mkb := fun b => (⟨b.1, b.2⟩ : S53)) (by intro k x0 x3 x4; simp only [laws_toDoneS.l0]; rfl) (fun x => (x.f0, x.f1.map toAn)) l (by omega) (fun x hx => by unfold laws_toDone.f; exact Ev.bind (toAnswerS_ev x.f1 (ha x hx)) (Ev.now _)) _
theorem eqAnswer_self (a b c : Int) (d : ByteArray) : laws_eqAnswer.f a b c d a b c d = some true := by
  unfold laws_eqAnswer.f
  simp
theorem eqAnswerS_self (l : List S55) (hn : l.length ≤ 9223372036854775807) : Ev (fun k => laws_eqAnswerS.f k l l) true := by
  unfold laws_eqAnswerS.f
  refine Ev.pos rfl ?_
  exact eqLoop (L := laws_eqAnswerS.l0) (z := z55) (cmp := fun k x y => laws_eqAnswer.f x.f0 x.f1 x.f2 x.f3 y.f0 y.f1 y.f2 y.f3) (by intro k x0 x3 x4; simp only [laws_eqAnswerS.l0]; rfl) l hn (fun x _ => Ev.const (eqAnswer_self _ _ _ _))
theorem eqDoneS_self (l : List S53) (hn : l.length ≤ 9223372036854775807) (ha : ∀ d ∈ l, d.f1.length ≤ 9223372036854775807) : Ev (fun k => laws_eqDoneS.f k l l) true := by
  unfold laws_eqDoneS.f
  refine Ev.pos rfl ?_
  exact eqLoop (L := laws_eqDoneS.l0) (z := z53) (cmp := fun k x y => laws_eqDone.f k x.f0 x.f1 y.f0 y.f1) (by intro k x0 x3 x4; simp only [laws_eqDoneS.l0]; rfl) l hn (fun x hx => by unfold laws_eqDone.f; exact Ev.pos rfl (Ev.bind (eqAnswerS_self x.f1 (ha x hx)) (Ev.pos rfl (Ev.now _))))
theorem szAnswer_eq (x : S85) (hx : x.f3.size ≤ 9223372036854775807) (n : Int) (h0 : 0 ≤ n) (h1 : n ≤ 1048576) : laws_szAnswer.f x.f0 x.f1 x.f2 x.f3 n = some (szR n (vA x)) := by
  unfold laws_szAnswer.f szR vA
  rw [wrap_id (n := n - (x.f3.size : Int)) (by omega) (by omega)]
  split <;> rfl
theorem szAnswerS_ev (l : List S85) (hn : l.length ≤ 9223372036854775807) (hx : ∀ x ∈ l, x.f3.size ≤ 9223372036854775807) (n : Int) (h0 : 0 ≤ n) (h1 : n ≤ 1048576) : Ev (fun k => laws_szAnswerS.f k l n) (szR n (l.length + sumW vA l)) := by
  unfold laws_szAnswerS.f
  exact szLoop (L := laws_szAnswerS.l0) (z := z85) (sz := fun k x n => laws_szAnswer.f x.f0 x.f1 x.f2 x.f3 n) (by intro k x0 x3 x4; simp only [laws_szAnswerS.l0]; rfl) l hn (fun x h n h0 h1 => Ev.const (szAnswer_eq x (hx x h) n h0 h1)) n h0 h1
theorem szDoneS_ev (l : List S50) (hn : l.length ≤ 9223372036854775807) (ha : ∀ d ∈ l, d.f1.length ≤ 9223372036854775807) (hx : ∀ d ∈ l, ∀ x ∈ d.f1, x.f3.size ≤ 9223372036854775807) (n : Int) (h0 : 0 ≤ n) (h1 : n ≤ 1048576) : Ev (fun k => laws_szDoneS.f k l n) (szR n (l.length + sumW vD l)) := by
  unfold laws_szDoneS.f
  refine szLoop (L := laws_szDoneS.l0) (z := z50) (sz := fun k x n => laws_szDone.f k x.f0 x.f1 n) (by intro k x0 x3 x4; simp only [laws_szDoneS.l0]; rfl) l hn (fun d h n h0 h1 => ?_) n h0 h1
  unfold laws_szDone.f
  refine Ev.bind (szAnswerS_ev d.f1 (ha d h) (hx d h) n h0 h1) ?_
  by_cases hs : szR n (d.f1.length + sumW vA d.f1) < 0
  · refine Ev.pos hs (Ev.pure ?_)
    show -1 = szR n (vD d)
    unfold szR vD at *
    split at hs <;> rename_i h2
    · rw [if_pos h2]
    · omega
  · exact Ev.neg hs (Ev.pure rfl)
end Go.Proofs.Ytmpdoodimmmemaa.Q
