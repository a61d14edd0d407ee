/- Locks of records: how they are drawn: each step comes to an answer, and stays small. -/
import Derived.Test.YtgjlbghjjjlhmaaQHeld3
import Derived.Test.YtgjlbghjjjlhmaaQHeldM
import Derived.Test.YtgjlbghjjjlhmaaQPick
import Derived.Test.YtgjlbghjjjlhmaaPf0
import Derived.Test.YtgjlbghjjjlhmaaPfspecHeldFree
import Derived.Test.YtgjlbghjjjlhmaaPfspecHeldSet
import Derived.Test.YtgjlbghjjjlhmaaPfspecl17Add
import Derived.Test.YtgjlbghjjjlhmaaPfspecl17Change
import Derived.Test.YtgjlbghjjjlhmaaPfspecl17Holds
import Derived.Test.YtgjlbghjjjlhmaaPfspecl17Mode
import Derived.Test.YtgjlbghjjjlhmaaPfspecl17Modes
import Derived.Test.YtgjlbghjjjlhmaaPfspecl17Settle
import Derived.Test.YtgjlbghjjjlhmaaPfspecl17Waits
import Derived.Test.YtgjlbghjjjlhmaaPfspecl92Held
import Derived.Test.YtgjlbghjjjlhmaaPfspecl92Hold
namespace Go.Proofs.Ytgjlbghjjjlhmaa.Q
open Go.RowKit Go.Proofs.YtgjlbghjjjlhmaaW.PrintWords Go.Proofs.YtgjlbghjjjlhmaaW.PrintLast Go.Proofs.YtgjlbghjjjlhmaaW.PrintMore Go.Proofs.Ytgjlbghjjjlhmaa.P
set_option linter.unusedVariables false
set_option linter.unusedSimpArgs false

def Rng (l : List Ho) : Prop := ∀ x ∈ l, 0 ≤ x.f0 ∧ x.f0 ≤ 3 ∧ 0 ≤ x.f1 ∧ x.f1 ≤ x.f2 ∧ x.f2 ≤ 15
theorem Rng.nil : Rng [] := fun x hx => by simp at hx
theorem Rng.app {a b : List Ho} (ha : Rng a) (hb : Rng b) : Rng (a ++ b) := fun x hx => (List.mem_append.1 hx).elim (ha x) (hb x)
theorem Rng.one {x : Ho} (h : 0 ≤ x.f0 ∧ x.f0 ≤ 3 ∧ 0 ≤ x.f1 ∧ x.f1 ≤ x.f2 ∧ x.f2 ≤ 15) : Rng [x] := fun y hy => by rw [List.mem_singleton.1 hy]; exact h
theorem Rng.sub {a b : List Ho} (hb : Rng b) (h : ∀ x ∈ a, x ∈ b) : Rng a := fun x hx => hb x (h x hx)
theorem Rng.modes {hs : List Ho} (hr : Rng hs) (hn : hs.length ≤ 1048576) (o : Int) : ∃ out, Ev (fun k => spec_l17Modes.f k hs o) out ∧ out.length = 16 := by
  obtain ⟨out, e, h, _⟩ := Go.Proofs.Ytgjlbghjjjlhmaa.Q.modes hs hn (fun x hx => by have := hr x hx; omega) o
  exact ⟨out, e, h⟩
theorem holds_l (o : Int) (ho : 0 ≤ o ∧ o ≤ 3) (ms : List Int) (hm : ms.length = 16) : ∀ (d i : Nat) (out : List Ho), i + d = 16 → out.length ≤ i → Rng out → (∀ x ∈ out, x.f1 ≤ (i : Int)) → (∀ j : Nat, j + 1 = i → rd ms (j : Int) ≠ 0 → out ≠ []) →
    ∃ r, Ev (fun k => spec_l17Holds.l0 k o ms out (i : Int)) r ∧ r.length ≤ 16 ∧ Rng r := by
  intro d
  induction d with
  | zero =>
    intro i out hi hl hr h1 h2
    refine ⟨out, Ev.step (fun k => by simp only [spec_l17Holds.l0]; rfl) ?_, by omega, hr⟩
    exact Ev.neg (by omega) (Ev.now _)
  | succ d ih =>
    intro i out hi hl hr h1 h2
    have hx : wrap64 ((i : Int) + 1) = ((i + 1 : Nat) : Int) := by rw [wrap_id (by omega) (by omega)]; omega
    have happ : ∃ r, Ev (fun k => spec_l17Holds.l0 k o ms (out ++ [⟨o, (i : Int), (i : Int), (rd ms (i : Int) == 2)⟩]) (wrap64 ((i : Int) + 1))) r ∧ r.length ≤ 16 ∧ Rng r := by
      rw [hx]
      refine ih (i + 1) _ (by omega) (by simp; omega) (hr.app (Rng.one ⟨ho.1, ho.2, by simp, by simp, by simp; omega⟩)) (fun x hx => ?_) (fun _ _ _ => by simp)
      rcases List.mem_append.1 hx with hx | hx
      · have := h1 x hx; omega
      · rw [List.mem_singleton.1 hx]; simp; omega
    by_cases hz : rd ms (i : Int) = 0
    · obtain ⟨r, e, h3, h4⟩ := ih (i + 1) out (by omega) (by omega) hr (fun x hx => by have := h1 x hx; omega) (fun j hj hn => absurd hz (by rw [show i = j by omega]; exact hn))
      rw [← hx] at e
      refine ⟨r, Ev.step (fun k => by simp only [spec_l17Holds.l0]; rfl) ?_, h3, h4⟩
      exact Ev.pos (by omega) (Ev.pos (by omega) (Ev.pos hz e))
    by_cases h0 : i = 0
    · obtain ⟨r, e, h3, h4⟩ := happ
      refine ⟨r, Ev.step (fun k => by simp only [spec_l17Holds.l0]; rfl) ?_, h3, h4⟩
      exact Ev.pos (by omega) (Ev.pos (by omega) (Ev.neg hz (Ev.neg (by omega) (Ev.pos (by omega) e))))
    obtain ⟨j, rfl⟩ : ∃ j, i = j + 1 := ⟨i - 1, by omega⟩
    have hj : wrap64 (((j + 1 : Nat) : Int) - 1) = (j : Int) := by rw [wrap_id (by omega) (by omega)]; omega
    by_cases hs : rd ms (j : Int) = rd ms ((j + 1 : Nat) : Int)
    · have hne := h2 j rfl (by rw [hs]; exact hz)
      rcases List.eq_nil_or_concat out with rfl | ⟨out', z, rfl⟩
      · exact absurd rfl hne
      rw [List.concat_eq_append] at *
      have hl' : out'.length + 1 ≤ j + 1 := by simpa using hl
      have hlo : wrap64 (((out' ++ [z]).length : Int) - 1) = (out'.length : Int) := by
        rw [List.length_append, List.length_singleton, wrap_id (by omega) (by omega)]; omega
      have hrd : rd_T40 (out' ++ [z]) (out'.length : Int) = z := rdH_at out' z []
      have hst : (out' ++ [z]).set (out'.length : Int).toNat ⟨z.f0, z.f1, ((j + 1 : Nat) : Int), z.f3⟩ = out' ++ [⟨z.f0, z.f1, ((j + 1 : Nat) : Int), z.f3⟩] := by
        rw [Int.toNat_natCast]
        exact lset_prefix out' z _ []
      have hzr := hr z (by simp)
      have hz1 := h1 z (by simp)
      obtain ⟨r, e, h3, h4⟩ := ih (j + 1 + 1) (out' ++ [⟨z.f0, z.f1, ((j + 1 : Nat) : Int), z.f3⟩]) (by omega) (by simp only [List.length_append, List.length_singleton] at hl ⊢; omega)
        ((hr.sub (fun x hx => List.mem_append.2 (.inl hx))).app (Rng.one ⟨hzr.1, hzr.2.1, hzr.2.2.1, hz1, by simp; omega⟩))
        (fun x hx => by
          rcases List.mem_append.1 hx with hx | hx
          · have := h1 x (List.mem_append.2 (.inl hx)); omega
          · rw [List.mem_singleton.1 hx]; simp only; omega)
        (fun _ _ _ => by simp)
      rw [← hx] at e
      refine ⟨r, Ev.step (fun k => by simp only [spec_l17Holds.l0]; rfl) (Ev.pos (by omega) (Ev.pos (by omega) (Ev.neg hz (Ev.pos (by omega) ?_)))), h3, h4⟩
      rw [hj]
      refine Ev.pos (by omega) (Ev.pos (by omega) (Ev.pos hs ?_))
      rw [hlo, hrd, hst]
      exact Ev.pos (by omega) (Ev.pos (by simp; omega) e)
    · obtain ⟨r, e, h3, h4⟩ := happ
      refine ⟨r, Ev.step (fun k => by simp only [spec_l17Holds.l0]; rfl) (Ev.pos (by omega) (Ev.pos (by omega) (Ev.neg hz (Ev.pos (by omega) ?_)))), h3, h4⟩
      rw [hj]
      exact Ev.pos (by omega) (Ev.pos (by omega) (Ev.neg hs (Ev.pos (by omega) e)))
theorem holds_ev (o : Int) (ho : 0 ≤ o ∧ o ≤ 3) (ms : List Int) (hm : ms.length = 16) : ∃ r, Ev (fun k => spec_l17Holds.f k o ms) r ∧ r.length ≤ 16 ∧ Rng r :=
  holds_l o ho ms hm 16 0 [] rfl (Nat.le_refl _) Rng.nil (fun x hx => by simp at hx) (fun j hj => by omega)
def Small (r : List Ho) : Prop := Rng r ∧ r.length ≤ 64
theorem change_l1 (hs : List Ho) (a1 a2 a3 a4 : Int) (h3 : a3 ≤ 15) (n : Nat) (hn : n < 4) (out : List Ho) (hl : out.length ≤ 16 * n)
    (hnext : ∀ t, Rng t → t.length ≤ 16 → ∃ r, Ev (fun k => spec_l17Change.l0 k hs a1 a2 a3 a4 (out ++ t) (wrap64 ((n : Int) + 1))) r ∧ Small r) :
    ∀ (d : Nat) (b : Int) (ms : List Int), ms.length = 16 → 0 ≤ b → (a3 + 1 - b).toNat ≤ d → ∃ r, Ev (fun k => spec_l17Change.l1 k hs a1 a2 a3 a4 out (n : Int) ms b) r ∧ Small r := by
  intro d
  induction d with
  | zero =>
    intro b ms hm h0 hd
    obtain ⟨t, et, t1, t2⟩ := holds_ev (n : Int) ⟨by omega, by omega⟩ ms hm
    obtain ⟨r, er, hr⟩ := hnext t t2 t1
    refine ⟨r, Ev.step (fun k => by simp only [spec_l17Change.l1]; rfl) ?_, hr⟩
    exact Ev.neg (by omega) (Ev.bind et (Ev.pos (by omega) er))
  | succ d ih =>
    intro b ms hm h0 hd
    by_cases hb : b ≤ a3
    · by_cases ho : (n : Int) = a1
      · have hw : wrap64 (b + 1) = b + 1 := wrap_id (by omega) (by omega)
        obtain ⟨r, er, hr⟩ := ih (b + 1) (ms.set b.toNat a4) (by simpa using hm) (by omega) (by omega)
        rw [← hw] at er
        refine ⟨r, Ev.step (fun k => by simp only [spec_l17Change.l1]; rfl) ?_, hr⟩
        exact Ev.pos hb (Ev.pos ho (Ev.pos h0 (Ev.pos (by omega) er)))
      · obtain ⟨t, et, t1, t2⟩ := holds_ev (n : Int) ⟨by omega, by omega⟩ ms hm
        obtain ⟨r, er, hr⟩ := hnext t t2 t1
        refine ⟨r, Ev.step (fun k => by simp only [spec_l17Change.l1]; rfl) ?_, hr⟩
        exact Ev.pos hb (Ev.neg ho (Ev.bind et (Ev.pos (by omega) er)))
    · obtain ⟨t, et, t1, t2⟩ := holds_ev (n : Int) ⟨by omega, by omega⟩ ms hm
      obtain ⟨r, er, hr⟩ := hnext t t2 t1
      refine ⟨r, Ev.step (fun k => by simp only [spec_l17Change.l1]; rfl) ?_, hr⟩
      exact Ev.neg hb (Ev.bind et (Ev.pos (by omega) er))
theorem change_ev (hs : List Ho) (hr : Rng hs) (hn : hs.length ≤ 1048576) (a1 a2 a3 a4 : Int) (h2 : 0 ≤ a2) (h3 : a3 ≤ 15) : ∃ r, Ev (fun k => spec_l17Change.f k hs a1 a2 a3 a4) r ∧ Small r := by
  have loop : ∀ (d n : Nat) (out : List Ho), n + d = 4 → out.length ≤ 16 * n → Rng out → ∃ r, Ev (fun k => spec_l17Change.l0 k hs a1 a2 a3 a4 out (n : Int)) r ∧ Small r := by
    intro d
    induction d with
    | zero =>
      intro n out hd hl ho
      refine ⟨out, Ev.step (fun k => by simp only [spec_l17Change.l0]; rfl) ?_, ho, by omega⟩
      exact Ev.neg (by omega) (Ev.now _)
    | succ d ih =>
      intro n out hd hl ho
      have hx : wrap64 ((n : Int) + 1) = ((n + 1 : Nat) : Int) := by rw [wrap_id (by omega) (by omega)]; omega
      obtain ⟨ms, em, hm⟩ := hr.modes hn (n : Int)
      obtain ⟨r, er, h⟩ := change_l1 hs a1 a2 a3 a4 h3 n (by omega) out hl (fun t ht tl => by rw [hx]; exact ih (n + 1) (out ++ t) (by omega) (by simp; omega) (ho.app ht)) _ a2 ms hm h2 (Nat.le_refl _)
      refine ⟨r, Ev.step (fun k => by simp only [spec_l17Change.l0]; rfl) ?_, h⟩
      exact Ev.pos (by omega) (Ev.bind em er)
  exact loop 4 0 [] rfl (by simp) Rng.nil
theorem mode_ev (a b c : Int) (d : Bool) : ∃ m, spec_l17Mode.f a b c d = some m := by
  unfold spec_l17Mode.f
  split
  · exact ⟨_, rfl⟩
  · exact ⟨_, rfl⟩
theorem settle_ev : ∀ (n : Nat) (ws hs : List Ho), ws.length ≤ n → ws.length ≤ 1000 → Rng ws → Small hs → ∃ r, Ev (fun k => spec_l17Settle.f k hs ws) r ∧ Small r.1 ∧ r.2.length ≤ ws.length := by
  intro n
  induction n with
  | zero =>
    intro ws hs hl hw hr hh
    refine ⟨(hs, ws), Ev.step (fun k => by simp only [spec_l17Settle.f]; rfl) ?_, hh, Nat.le_refl _⟩
    exact Ev.step (fun k => by simp only [spec_l17Settle.l0]; rfl) (Ev.neg (by omega) (Ev.now _))
  | succ n ihn =>
    intro ws hs hl hw hr hh
    have loop : ∀ (rest pre : List Ho), ws = pre ++ rest → ∃ r, Ev (fun k => spec_l17Settle.l0 k (pre.length : Int) hs ws) r ∧ Small r.1 ∧ r.2.length ≤ ws.length := by
      intro rest
      induction rest with
      | nil =>
        intro pre hp
        refine ⟨(hs, ws), Ev.step (fun k => by simp only [spec_l17Settle.l0]; rfl) ?_, hh, Nat.le_refl _⟩
        exact Ev.neg (by rw [hp]; simp) (Ev.now _)
      | cons y rest ih =>
        intro pre hp
        have hlt : pre.length < ws.length := by rw [hp]; simp
        have hrd : rd_T40 ws (pre.length : Int) = y := by rw [hp]; exact rdH_at _ _ _
        have hy := hr y (by rw [hp]; simp)
        have ew := specWho y hs (by have := hh.2; omega)
        by_cases hz : (who hs y).length = 0
        · obtain ⟨md, hmd⟩ := mode_ev y.f0 y.f1 y.f2 y.f3
          obtain ⟨nh, en, hnh⟩ := change_ev hs hh.1 (by have := hh.2; omega) y.f0 y.f1 y.f2 md hy.2.2.1 hy.2.2.2.2
          obtain ⟨r, er, h1, h2⟩ := ihn (ws.take pre.length ++ ws.drop (pre.length + 1)) nh (by simp; omega) (by simp; omega) (hr.sub (fun x hx => (List.mem_append.1 hx).elim List.mem_of_mem_take List.mem_of_mem_drop)) hnh
          refine ⟨r, Ev.step (fun k => by simp only [spec_l17Settle.l0]; rfl) (Ev.pos (by omega) (Ev.pos (by omega) (Ev.pos (by omega) ?_))), h1, Nat.le_trans h2 (by simp; omega)⟩
          rw [hrd]
          exact Ev.bind ew (Ev.pos hz (Ev.bind (Ev.const hmd) (Ev.bind en (by rw [Int.toNat_natCast]; exact er))))
        · obtain ⟨r, er, h⟩ := ih (pre ++ [y]) (by simp [hp])
          refine ⟨r, Ev.step (fun k => by simp only [spec_l17Settle.l0]; rfl) (Ev.pos (by omega) (Ev.pos (by omega) (Ev.pos (by omega) ?_))), h⟩
          rw [hrd]
          refine Ev.bind ew (Ev.neg hz ?_)
          rw [show ((pre ++ [y]).length : Int) = (pre.length : Int) + 1 by simp] at er
          exact er
    obtain ⟨r, er, h⟩ := loop ws [] rfl
    exact ⟨r, Ev.step (fun k => by simp only [spec_l17Settle.f]; rfl) er, h⟩
theorem waits_ev (hs ws : List Ho) (hw : ws.length ≤ 1000) (a : Int) : ∃ b, Ev (fun k => spec_l17Waits.f k hs ws a) b := by
  have loop : ∀ (rest pre : List Ho), ws = pre ++ rest → ∃ b, Ev (fun k => spec_l17Waits.l0 k a (pre.length : Int) hs ws) b := by
    intro rest
    induction rest with
    | nil =>
      intro pre hp
      exact ⟨false, Ev.step (fun k => by simp only [spec_l17Waits.l0]; rfl) (Ev.neg (by rw [hp]; simp) (Ev.now _))⟩
    | cons y rest ih =>
      intro pre hp
      have hlt : pre.length < ws.length := by rw [hp]; simp
      by_cases hz : (rd_T40 ws (pre.length : Int)).f0 = a
      · exact ⟨true, Ev.step (fun k => by simp only [spec_l17Waits.l0]; rfl) (Ev.pos (by omega) (Ev.pos (by omega) (Ev.pos hz (Ev.now _))))⟩
      · obtain ⟨b, e⟩ := ih (pre ++ [y]) (by simp [hp])
        rw [show ((pre ++ [y]).length : Int) = wrap64 ((pre.length : Int) + 1) by rw [wrap_id (by omega) (by omega)]; simp] at e
        exact ⟨b, Ev.step (fun k => by simp only [spec_l17Waits.l0]; rfl) (Ev.pos (by omega) (Ev.pos (by omega) (Ev.neg hz e)))⟩
  exact loop ws [] rfl
theorem add_ev (ws : List Ho) (hw : ws.length ≤ 4) (x : Ho) : ∃ r, Ev (fun k => spec_l17Add.f k ws x.f0 x.f1 x.f2 x.f3) r ∧ r.length ≤ 20 := by
  have loop : ∀ (d n : Nat) (out : List Ho), n + d = 4 → out.length ≤ 5 * n → ∃ r, Ev (fun k => spec_l17Add.l0 k ws out (n : Int) x.f0 x.f1 x.f2 x.f3) r ∧ r.length ≤ 20 := by
    intro d
    induction d with
    | zero =>
      intro n out hd hl
      refine ⟨out, Ev.step (fun k => by simp only [spec_l17Add.l0]; rfl) ?_, by omega⟩
      exact Ev.neg (by omega) (Ev.now _)
    | succ d ih =>
      intro n out hd hl
      have hx : wrap64 ((n : Int) + 1) = ((n + 1 : Nat) : Int) := by rw [wrap_id (by omega) (by omega)]; omega
      have inner : ∀ (rest pre out : List Ho), ws = pre ++ rest → out.length ≤ 5 * n + pre.length → ∃ r, Ev (fun k => spec_l17Add.l1 k ws out (n : Int) (pre.length : Int) x.f0 x.f1 x.f2 x.f3) r ∧ r.length ≤ 20 := by
        intro rest
        induction rest with
        | nil =>
          intro pre out hp ho
          have hpl : pre.length = ws.length := by rw [hp]; simp
          by_cases hz : x.f0 = (n : Int)
          · obtain ⟨r, e, h⟩ := ih (n + 1) (out ++ [⟨x.f0, x.f1, x.f2, x.f3⟩]) (by omega) (by simp; omega)
            rw [← hx] at e
            refine ⟨r, Ev.step (fun k => by simp only [spec_l17Add.l1]; rfl) ?_, h⟩
            exact Ev.neg (by omega) (Ev.pos hz (Ev.pos (by omega) e))
          · obtain ⟨r, e, h⟩ := ih (n + 1) out (by omega) (by omega)
            rw [← hx] at e
            refine ⟨r, Ev.step (fun k => by simp only [spec_l17Add.l1]; rfl) ?_, h⟩
            exact Ev.neg (by omega) (Ev.neg hz e)
        | cons y rest ihr =>
          intro pre out hp ho
          have hlt : pre.length < ws.length := by rw [hp]; simp
          have hxp : wrap64 ((pre.length : Int) + 1) = ((pre ++ [y]).length : Int) := by rw [wrap_id (by omega) (by omega)]; simp
          by_cases hz : (rd_T40 ws (pre.length : Int)).f0 = (n : Int)
          · obtain ⟨r, e, h⟩ := ihr (pre ++ [y]) (out ++ [⟨(rd_T40 ws (pre.length : Int)).f0, (rd_T40 ws (pre.length : Int)).f1, (rd_T40 ws (pre.length : Int)).f2, (rd_T40 ws (pre.length : Int)).f3⟩]) (by simp [hp]) (by simp; omega)
            rw [← hxp] at e
            refine ⟨r, Ev.step (fun k => by simp only [spec_l17Add.l1]; rfl) ?_, h⟩
            exact Ev.pos (by omega) (Ev.pos (by omega) (Ev.pos hz (Ev.pos (by omega) e)))
          · obtain ⟨r, e, h⟩ := ihr (pre ++ [y]) out (by simp [hp]) (by simp; omega)
            rw [← hxp] at e
            refine ⟨r, Ev.step (fun k => by simp only [spec_l17Add.l1]; rfl) ?_, h⟩
            exact Ev.pos (by omega) (Ev.pos (by omega) (Ev.neg hz e))
      obtain ⟨r, e, h⟩ := inner ws [] out rfl (by simpa using hl)
      refine ⟨r, Ev.step (fun k => by simp only [spec_l17Add.l0]; rfl) ?_, h⟩
      exact Ev.pos (by omega) e
  exact loop 4 0 [] rfl (by simp)
theorem vH_all {l : List Ho} (h : ∀ y ∈ l, vH y = true) : Rng l := fun y hy => vH_rng (h y hy)
/-- HeldSet comes to an answer, and stays small. -/
theorem set_ev (hs ws : List Ho) (hn : hs.length ≤ 64) (hw : ws.length ≤ 1000) (x : Ho) : ∃ r, Ev (fun k => spec_HeldSet.f k hs ws x.f0 x.f1 x.f2 x.f3) r ∧ r.1.length ≤ 64 ∧ r.2.1.length ≤ 20 := by
  obtain ⟨b, _, eb, hb⟩ := heldOkW hs ws (by omega) (by omega)
  have stop : ∃ r, Ev (fun k => spec_HeldSet.j0 k true hs ws x.f0 x.f1 x.f2 x.f3) r ∧ r.1.length ≤ 64 ∧ r.2.1.length ≤ 20 := by
    refine ⟨([], [], 1), Ev.step (fun k => by simp only [spec_HeldSet.j0]; rfl) ?_, by simp, by simp⟩
    exact Ev.pos trivial (Ev.now _)
  unfold spec_HeldSet.f
  cases b with
  | false =>
    obtain ⟨r, e, h⟩ := stop
    exact ⟨r, Ev.bind eb (Ev.neg (by simp) e), h⟩
  | true =>
    obtain ⟨T, hv, h4⟩ := hb rfl
    by_cases hx : vH x = true
    · obtain ⟨b2, e2⟩ := waits_ev hs ws hw x.f0
      cases b2 with
      | true =>
        obtain ⟨r, e, h⟩ := stop
        exact ⟨r, Ev.bind eb (Ev.pos rfl (Ev.bind (Ev.const (specHok x)) (Ev.pos hx (Ev.bind e2 e)))), h⟩
      | false =>
        have hxr := vH_rng hx
        have key : ∃ r, Ev (fun k => spec_HeldSet.j0 k false hs ws x.f0 x.f1 x.f2 x.f3) r ∧ r.1.length ≤ 64 ∧ r.2.1.length ≤ 20 := by
          have ew := specWho x hs (by omega)
          by_cases hz : ((who hs x).length : Int) = 0
          · obtain ⟨md, hmd⟩ := mode_ev x.f0 x.f1 x.f2 x.f3
            obtain ⟨nh, en, hnh⟩ := change_ev hs T.rng (by omega) x.f0 x.f1 x.f2 md hxr.2.2.1 hxr.2.2.2.2
            obtain ⟨r, er, h1, h2⟩ := settle_ev _ ws nh (Nat.le_refl _) hw (vH_all hv) hnh
            refine ⟨(r.1, r.2, 0), Ev.step (fun k => by simp only [spec_HeldSet.j0]; rfl) ?_, h1.2, by simp only; omega⟩
            exact Ev.neg (by simp) (Ev.bind (Ev.now _) (Ev.pos (by simp; omega) (Ev.bind (Ev.now _) (Ev.bind (Ev.now _) (Ev.pos (by simp; omega) (Ev.bind (Ev.now _) (Ev.bind ew (Ev.pos hz (Ev.bind (Ev.const hmd) (Ev.bind en (Ev.bind (by simpa using er) (Ev.now _))))))))))))
          · obtain ⟨rb, _, erb⟩ := rounds_ex hs ws (by omega) (by omega) (fun y hy => ⟨(T.rng y hy).1, (T.rng y hy).2.1⟩) x
            cases rb with
            | true =>
              refine ⟨(hs, ws, 5), Ev.step (fun k => by simp only [spec_HeldSet.j0]; rfl) ?_, hn, by simp only; omega⟩
              exact Ev.neg (by simp) (Ev.bind (Ev.now _) (Ev.pos (by simp; omega) (Ev.bind (Ev.now _) (Ev.bind (Ev.now _) (Ev.pos (by simp; omega) (Ev.bind (Ev.now _) (Ev.bind ew (Ev.neg hz (Ev.bind erb (Ev.pos rfl (Ev.pure (by simp))))))))))))
            | false =>
              obtain ⟨nw, enw, hnw⟩ := add_ev ws h4 x
              refine ⟨(hs, nw, 6), Ev.step (fun k => by simp only [spec_HeldSet.j0]; rfl) ?_, hn, hnw⟩
              exact Ev.neg (by simp) (Ev.bind (Ev.now _) (Ev.pos (by simp; omega) (Ev.bind (Ev.now _) (Ev.bind (Ev.now _) (Ev.pos (by simp; omega) (Ev.bind (Ev.now _) (Ev.bind ew (Ev.neg hz (Ev.bind erb (Ev.neg (by simp) (Ev.bind (by simpa using enw) (Ev.pure (by simp)))))))))))))
        obtain ⟨r, e, h⟩ := key
        exact ⟨r, Ev.bind eb (Ev.pos rfl (Ev.bind (Ev.const (specHok x)) (Ev.pos hx (Ev.bind e2 e)))), h⟩
    · obtain ⟨r, e, h⟩ := stop
      exact ⟨r, Ev.bind eb (Ev.pos rfl (Ev.bind (Ev.const (specHok x)) (Ev.neg hx e))), h⟩
/-- HeldFree comes to an answer, and stays small. -/
theorem free_ev (hs ws : List Ho) (hn : hs.length ≤ 64) (hw : ws.length ≤ 1000) (a b c : Int) : ∃ r, Ev (fun k => spec_HeldFree.f k hs ws a b c) r ∧ r.1.length ≤ 64 ∧ r.2.1.length ≤ 20 := by
  obtain ⟨bk, _, eb, hb⟩ := heldOkW hs ws (by omega) (by omega)
  have stop : ∃ r, Ev (fun k => spec_HeldFree.j0 k a b c true hs ws) r ∧ r.1.length ≤ 64 ∧ r.2.1.length ≤ 20 := by
    refine ⟨([], [], false), Ev.step (fun k => by simp only [spec_HeldFree.j0]; rfl) ?_, by simp, by simp⟩
    exact Ev.pos trivial (Ev.now _)
  unfold spec_HeldFree.f
  cases bk with
  | false =>
    obtain ⟨r, e, h⟩ := stop
    exact ⟨r, Ev.bind eb (Ev.neg (by simp) e), h⟩
  | true =>
    obtain ⟨T, hv, h4⟩ := hb rfl
    have hok := specHok (⟨a, b, c, false⟩ : Ho)
    simp only at hok
    cases hx : vH (⟨a, b, c, false⟩ : Ho) with
    | false =>
      rw [hx] at hok
      obtain ⟨r, e, h⟩ := stop
      exact ⟨r, Ev.bind eb (Ev.pos rfl (Ev.bind (Ev.const hok) (by simpa using e))), h⟩
    | true =>
      rw [hx] at hok
      have hxr := vH_rng hx
      simp only at hxr
      have loop : ∀ (rest pre out : List Ho), ws = pre ++ rest → out.length ≤ pre.length → Rng out → ∃ r, Ev (fun k => spec_HeldFree.l0 k a b c out (pre.length : Int) hs ws) r ∧ r.1.length ≤ 64 ∧ r.2.1.length ≤ 20 := by
        intro rest
        induction rest with
        | nil =>
          intro pre out hp ho hr
          have hpl : pre.length = ws.length := by rw [hp]; simp
          obtain ⟨nh, en, hnh⟩ := change_ev hs T.rng (by omega) a b c 0 hxr.2.2.1 hxr.2.2.2.2
          obtain ⟨r, er, h1, h2⟩ := settle_ev _ out nh (Nat.le_refl _) (by omega) hr hnh
          refine ⟨(r.1, r.2, true), Ev.step (fun k => by simp only [spec_HeldFree.l0]; rfl) ?_, h1.2, by simp only; omega⟩
          exact Ev.neg (by omega) (Ev.bind en (Ev.bind er (Ev.now _)))
        | cons y rest ih =>
          intro pre out hp ho hr
          have hlt : pre.length < ws.length := by rw [hp]; simp
          have hrd : rd_T40 ws (pre.length : Int) = y := by rw [hp]; exact rdH_at _ _ _
          have hxp : wrap64 ((pre.length : Int) + 1) = ((pre ++ [y]).length : Int) := by rw [wrap_id (by omega) (by omega)]; simp
          by_cases hz : y.f0 = a
          · obtain ⟨r, e, h⟩ := ih (pre ++ [y]) out (by simp [hp]) (by simp; omega) hr
            rw [← hxp] at e
            refine ⟨r, Ev.step (fun k => by simp only [spec_HeldFree.l0]; rfl) (Ev.pos (by omega) (Ev.pos (by omega) ?_)), h⟩
            rw [hrd]
            exact Ev.pos hz e
          · obtain ⟨r, e, h⟩ := ih (pre ++ [y]) (out ++ [⟨y.f0, y.f1, y.f2, y.f3⟩]) (by simp [hp]) (by simp; omega) (hr.app (Rng.one (vH_rng (hv y (by rw [hp]; simp)))))
            rw [← hxp] at e
            refine ⟨r, Ev.step (fun k => by simp only [spec_HeldFree.l0]; rfl) (Ev.pos (by omega) (Ev.pos (by omega) ?_)), h⟩
            rw [hrd]
            exact Ev.neg hz (Ev.pos (by omega) e)
      obtain ⟨r, e, h⟩ := loop ws [] [] rfl (Nat.le_refl _) Rng.nil
      refine ⟨r, Ev.bind eb (Ev.pos rfl (Ev.bind (Ev.const hok) ?_)), h⟩
      exact Ev.step (fun k => by simp only [spec_HeldFree.j0]; rfl) (Ev.neg (by simp) e)
theorem hold_ev (s : List Int) (hs : Bytes s) (p : Int) (hp : 0 ≤ p) (hp' : p ≤ 900000) : ∃ r : Int × Int × Int × Bool × Int, Ev (fun k => spec_l92Hold.f k s p) r ∧ p ≤ r.2.2.2.2 ∧ r.2.2.2.2 ≤ p + 6 := by
  unfold spec_l92Hold.f
  obtain ⟨v1, e1, _⟩ := pick_ev s hs p 16 hp (by omega) (by omega)
  obtain ⟨v2, e2, _⟩ := pick_ev s hs (p + 1) 4 (by omega) (by omega) (by omega)
  obtain ⟨v3, e3, _⟩ := pick_ev s hs (p + 1 + 1) 6 (by omega) (by omega) (by omega)
  obtain ⟨v4, e4, _⟩ := pick_ev s hs (p + 1 + 1 + 1) 2 (by omega) (by omega) (by omega)
  obtain ⟨v5, e5, _⟩ := pick_ev s hs (p + 1 + 1 + 1 + 1) 24 (by omega) (by omega) (by omega)
  by_cases h : v5 = 0
  · obtain ⟨v6, e6, h0, h1, _⟩ := pick_ev s hs (p + 1 + 1 + 1 + 1 + 1) 3 (by omega) (by omega) (by omega)
    refine ⟨(v2, v1, rd [(-1), 16, 15] v6, (v4 == 0), p + 1 + 1 + 1 + 1 + 1 + 1), Ev.bind e1 (Ev.bind e2 (Ev.bind e3 (Ev.bind e4 (Ev.bind e5 (Ev.pos h (Ev.bind (Ev.now _) (Ev.bind e6 (Ev.pos h0 (Ev.pos (by have := h1 (by omega); simpa using this) (Ev.now _)))))))))), by simp only; omega, by simp only; omega⟩
  · exact ⟨(v2, v1, mn 15 (wrap64 (v1 + v3)), (v4 == 0), p + 1 + 1 + 1 + 1 + 1), Ev.bind e1 (Ev.bind e2 (Ev.bind e3 (Ev.bind e4 (Ev.bind e5 (Ev.neg h (Ev.now _)))))), by simp only; omega, by simp only; omega⟩
theorem held_l (s : List Int) (hs : Bytes s) : ∀ (m : Nat) (p : Int) (l w : List Ho), m ≤ 20 → 0 ≤ p → p + 10 * m ≤ 100000 → l.length ≤ 64 → w.length ≤ 20 →
    ∃ r : List Ho × List Ho × Int, Ev (fun k => spec_l92Held.l0 k (m : Int) s p l w) r ∧ r.1.length ≤ 65 ∧ r.2.1.length ≤ 21 ∧ p ≤ r.2.2 ∧ r.2.2 ≤ p + 10 * m + 10 := by
  intro m
  induction m with
  | zero =>
    intro p l w hm hp hp' hl hw
    obtain ⟨v, e, _⟩ := pick_ev s hs p 20 hp (by omega) (by omega)
    obtain ⟨⟨h0, h1, h2, h3, q⟩, eh, b1, b2⟩ := hold_ev s hs (p + 1) (by omega) (by omega)
    simp only at b1 b2
    by_cases c0 : v = 0
    · refine ⟨(l ++ [⟨h0, h1, h2, h3⟩], w, q), Ev.step (fun k => by simp only [spec_l92Held.l0]; rfl) ?_, by simp; omega, by simp only; omega, by simp only; omega, by simp only; omega⟩
      exact Ev.neg (by decide) (Ev.bind e (Ev.pos c0 (Ev.bind eh (Ev.pos (by omega) (Ev.now _)))))
    by_cases c1 : v = 1
    · refine ⟨(l, w ++ [⟨h0, h1, h2, h3⟩], q), Ev.step (fun k => by simp only [spec_l92Held.l0]; rfl) ?_, by simp only; omega, by simp; omega, by simp only; omega, by simp only; omega⟩
      exact Ev.neg (by decide) (Ev.bind e (Ev.neg c0 (Ev.pos c1 (Ev.bind eh (Ev.pos (by omega) (Ev.now _))))))
    · refine ⟨(l, w, p + 1), Ev.step (fun k => by simp only [spec_l92Held.l0]; rfl) ?_, by simp only; omega, by simp only; omega, by simp only; omega, by simp only; omega⟩
      exact Ev.neg (by decide) (Ev.bind e (Ev.neg c0 (Ev.neg c1 (Ev.now _))))
  | succ m ih =>
    intro p l w hm hp hp' hl hw
    have hx : wrap64 (((m + 1 : Nat) : Int) - 1) = (m : Int) := by rw [wrap_id (by omega) (by omega)]; omega
    obtain ⟨⟨h0, h1, h2, h3, q⟩, eh, b1, b2⟩ := hold_ev s hs p (by omega) (by omega)
    simp only at b1 b2
    have go : ∀ (p' : Int) (l' w' : List Ho), p ≤ p' → p' ≤ p + 7 → l'.length ≤ 64 → w'.length ≤ 20 → ∃ r : List Ho × List Ho × Int, Ev (fun k => spec_l92Held.l0 k (wrap64 (((m + 1 : Nat) : Int) - 1)) s p' l' w') r ∧ r.1.length ≤ 65 ∧ r.2.1.length ≤ 21 ∧ p ≤ r.2.2 ∧ r.2.2 ≤ p + 10 * ((m + 1 : Nat) : Int) + 10 := by
      intro p' l' w' g1 g2 g3 g4
      rw [hx]
      obtain ⟨r, e, r1, r2, r3, r4⟩ := ih p' l' w' (by omega) (by omega) (by omega) g3 g4
      exact ⟨r, e, r1, r2, by omega, by omega⟩
    have ev := specHok (⟨h0, h1, h2, h3⟩ : Ho)
    simp only at ev
    by_cases hv : vH (⟨h0, h1, h2, h3⟩ : Ho) = true
    · obtain ⟨v, e, _⟩ := pick_ev s hs q 4 (by omega) (by omega) (by omega)
      by_cases c0 : v = 0
      · obtain ⟨⟨f1, f2, f3⟩, ef, g1, g2⟩ := free_ev l w hl (by omega) h0 h1 h2
        by_cases c : f3 = true
        · obtain ⟨r, er, hr⟩ := go (q + 1) f1 f2 (by omega) (by omega) g1 g2
          refine ⟨r, Ev.step (fun k => by simp only [spec_l92Held.l0]; rfl) ?_, hr⟩
          exact Ev.pos (by omega) (Ev.bind eh (Ev.bind (Ev.const ev) (Ev.pos hv (Ev.bind e (Ev.pos c0 (Ev.bind ef (Ev.pos c er)))))))
        · obtain ⟨r, er, hr⟩ := go (q + 1) l w (by omega) (by omega) hl hw
          refine ⟨r, Ev.step (fun k => by simp only [spec_l92Held.l0]; rfl) ?_, hr⟩
          exact Ev.pos (by omega) (Ev.bind eh (Ev.bind (Ev.const ev) (Ev.pos hv (Ev.bind e (Ev.pos c0 (Ev.bind ef (Ev.neg c er)))))))
      · obtain ⟨⟨f1, f2, f3⟩, ef, g1, g2⟩ := set_ev l w hl (by omega) (⟨h0, h1, h2, h3⟩ : Ho)
        by_cases c : f3 = 0
        · obtain ⟨r, er, hr⟩ := go (q + 1) f1 f2 (by omega) (by omega) g1 g2
          refine ⟨r, Ev.step (fun k => by simp only [spec_l92Held.l0]; rfl) ?_, hr⟩
          exact Ev.pos (by omega) (Ev.bind eh (Ev.bind (Ev.const ev) (Ev.pos hv (Ev.bind e (Ev.neg c0 (Ev.bind ef (Ev.pos c er)))))))
        by_cases c' : f3 = 6
        · obtain ⟨r, er, hr⟩ := go (q + 1) f1 f2 (by omega) (by omega) g1 g2
          refine ⟨r, Ev.step (fun k => by simp only [spec_l92Held.l0]; rfl) ?_, hr⟩
          exact Ev.pos (by omega) (Ev.bind eh (Ev.bind (Ev.const ev) (Ev.pos hv (Ev.bind e (Ev.neg c0 (Ev.bind ef (Ev.neg c (Ev.pos c' er))))))))
        · obtain ⟨r, er, hr⟩ := go (q + 1) l w (by omega) (by omega) hl hw
          refine ⟨r, Ev.step (fun k => by simp only [spec_l92Held.l0]; rfl) ?_, hr⟩
          exact Ev.pos (by omega) (Ev.bind eh (Ev.bind (Ev.const ev) (Ev.pos hv (Ev.bind e (Ev.neg c0 (Ev.bind ef (Ev.neg c (Ev.neg c' er))))))))
    · obtain ⟨r, er, hr⟩ := go q l w (by omega) (by omega) hl hw
      refine ⟨r, Ev.step (fun k => by simp only [spec_l92Held.l0]; rfl) ?_, hr⟩
      exact Ev.pos (by omega) (Ev.bind eh (Ev.bind (Ev.const ev) (Ev.neg hv er)))
/-- A drawn Held. -/
theorem held_ev (s : List Int) (hs : Bytes s) (p : Int) (hp : 0 ≤ p) (hp' : p ≤ 1000) : ∃ (l w : List Ho) (q : Int), Ev (fun k => spec_l92Held.f k s p) (l, w, q) ∧ l.length ≤ 65 ∧ w.length ≤ 21 ∧ p ≤ q ∧ q ≤ p + 200 := by
  unfold spec_l92Held.f
  obtain ⟨v, e, h0, h1, _⟩ := pick_ev s hs p 14 hp (by omega) (by omega)
  have := h1 (by omega)
  obtain ⟨m, rfl⟩ : ∃ m : Nat, v = (m : Int) := ⟨v.toNat, by omega⟩
  obtain ⟨⟨l, w, q⟩, er, r1, r2, r3, r4⟩ := held_l s hs m (p + 1) [] [] (by omega) (by omega) (by omega) (by simp) (by simp)
  exact ⟨l, w, q, Ev.bind e er, r1, r2, by simp only at r3; omega, by simp only at r4; omega⟩
end Go.Proofs.Ytgjlbghjjjlhmaa.Q
