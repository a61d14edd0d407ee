/- What the exact laws' own functions over locks answer: copying, comparing, sizing. -/
import Derived.Test.YtmpdoodimmmemaaQLock
import Derived.Test.YtmpdoodimmmemaaPf0
import Derived.Test.YtmpdoodimmmemaaPflawseqIntS
import Derived.Test.YtmpdoodimmmemaaPflawseqLock
import Derived.Test.YtmpdoodimmmemaaPflawseqThread
import Derived.Test.YtmpdoodimmmemaaPflawseqThreadS
import Derived.Test.YtmpdoodimmmemaaPflawsszIntS
import Derived.Test.YtmpdoodimmmemaaPflawsszLock
import Derived.Test.YtmpdoodimmmemaaPflawsszThreadS
import Derived.Test.YtmpdoodimmmemaaPflawstoIntS
import Derived.Test.YtmpdoodimmmemaaPflawstoLock
import Derived.Test.YtmpdoodimmmemaaPflawstoThread
import Derived.Test.YtmpdoodimmmemaaPflawstoThreadS
namespace Go.Proofs.Ytmpdoodimmmemaa.Q
open Go.RowKit Go.Proofs.YtmpdoodimmmemaaW.PrintWords Go.Proofs.YtmpdoodimmmemaaW.PrintLast Go.Proofs.YtmpdoodimmmemaaW.PrintMore Go.Proofs.Ytmpdoodimmmemaa.P
set_option linter.unusedVariables false
set_option linter.unusedSimpArgs false

def toTh (x : S74) : Th := ⟨x.f0, x.f1, x.f2, x.f3⟩
theorem toThreadS_ev (l : List S74) (hn : l.length ≤ 1048576) : Ev (fun k => laws_toThreadS.f k l) (l.map toTh) := by
  unfold laws_toThreadS.f
  refine Ev.pos (by omega) (Ev.pos (by omega) ?_)
  exact mapLoop (L := laws_toThreadS.l0) (z := z74) (conv := fun k x => laws_toThread.f x.f0 x.f1 x.f2 x.f3) (mkb := fun b => (⟨b.1, b.2.1, b.2.2.1, b.2.2.2⟩ : Th)) (by intro k x0 x3 x4; simp only [laws_toThreadS.l0]; rfl) (fun x => (x.f0, x.f1, x.f2, x.f3)) l (by omega) (fun x _ => Ev.const (by unfold laws_toThread.f; rfl)) _
theorem toIntS_ev (l : List Int) (hn : l.length ≤ 1048576) : Ev (fun k => laws_toIntS.f k l) l := by
  unfold laws_toIntS.f
  refine Ev.pos (by omega) (Ev.pos (by omega) ?_)
  have h := mapLoop (L := laws_toIntS.l0) (z := (0 : Int)) (conv := fun _ x => some x) (mkb := fun b => b) (by intro k x0 x3 x4; simp only [laws_toIntS.l0]; rfl) (fun x => x) l (by omega) (fun x _ => Ev.now _) 0
  exact Ev.cast h (by simp)
theorem toLock_ev (w : Int) (l : List S74) (m : List Int) (hn : l.length ≤ 1048576) (hm : m.length ≤ 1048576) : Ev (fun k => laws_toLock.f k w l m) (w, l.map toTh, m) := by
  unfold laws_toLock.f
  exact Ev.bind (toThreadS_ev l hn) (Ev.bind (toIntS_ev m hm) (Ev.now _))
theorem eqThread_self (a b c : Int) (d : Bool) : laws_eqThread.f a b c d a b c d = some true := by
  unfold laws_eqThread.f
  simp
theorem eqThreadS_self (l : List Th) (hn : l.length ≤ 9223372036854775807) : Ev (fun k => laws_eqThreadS.f k l l) true := by
  unfold laws_eqThreadS.f
  refine Ev.pos rfl ?_
  exact eqLoop (L := laws_eqThreadS.l0) (z := z45) (cmp := fun k x y => laws_eqThread.f x.f0 x.f1 x.f2 x.f3 y.f0 y.f1 y.f2 y.f3) (by intro k x0 x3 x4; simp only [laws_eqThreadS.l0]; rfl) l hn (fun x _ => Ev.const (eqThread_self _ _ _ _))
theorem eqIntS_l : ∀ (rest pre : List Int), (pre ++ rest).length ≤ 9223372036854775807 → Ev (fun k => laws_eqIntS.l0 k (pre ++ rest) (pre ++ rest) (pre.length : Int)) true := by
  intro rest
  induction rest with
  | nil =>
    intro pre hn
    exact Ev.step (fun k => by simp only [laws_eqIntS.l0]; rfl) (Ev.neg (by simp) (Ev.pure rfl))
  | cons y rest ih =>
    intro pre hn
    have hlt : pre.length < (pre ++ y :: rest).length := by simp
    refine Ev.step (fun k => by simp only [laws_eqIntS.l0]; rfl) ?_
    refine Ev.pos (by omega) (Ev.pos (by omega) (Ev.pos (by omega) (Ev.pos (by trivial) ?_)))
    rw [lsucc_wrap hlt hn]
    have h := ih (pre ++ [y]) (by simp at hn ⊢; omega)
    simp only [List.append_assoc, List.cons_append, List.nil_append, List.length_append, List.length_cons, List.length_nil] at h
    exact h
theorem eqLock_self (w : Int) (l : List Th) (m : List Int) (hn : l.length ≤ 9223372036854775807) (hm : m.length ≤ 9223372036854775807) : Ev (fun k => laws_eqLock.f k w l m w l m) true := by
  unfold laws_eqLock.f laws_eqIntS.f
  exact Ev.pos rfl (Ev.bind (eqThreadS_self l hn) (Ev.pos rfl (Ev.bind (Ev.pos rfl (eqIntS_l m [] hm)) (Ev.pos rfl (Ev.now _)))))
theorem szLock_eq (w : Int) (l : List S74) (m : List Int) (hn : l.length ≤ 9223372036854775807) (hm : m.length ≤ 9223372036854775807) :
    ∃ r, laws_szLock.f w l m 1048576 = some r ∧ (¬ r < 0 → l.length ≤ 1048576 ∧ m.length ≤ 1048576) := by
  unfold laws_szLock.f laws_szThreadS.f laws_szIntS.f
  rw [wrap_id (n := 1048576 - (l.length : Int)) (by omega) (by omega)]
  by_cases h : 1048576 - (l.length : Int) < 0
  · exact ⟨-1, by simp [h], by omega⟩
  · rw [if_neg h]
    simp only [Option.bind_some]
    rw [if_neg h, wrap_id (n := 1048576 - (l.length : Int) - (m.length : Int)) (by omega) (by omega)]
    by_cases h' : 1048576 - (l.length : Int) - (m.length : Int) < 0
    · exact ⟨-1, by simp [h'], by omega⟩
    · exact ⟨_, by rw [if_neg h']; simp only [Option.bind_some]; rw [if_neg h'], by omega⟩
end Go.Proofs.Ytmpdoodimmmemaa.Q
