/- Locks of records: what an owner holds of each byte. -/
import Derived.Test.YtgjlbghjjjlhmaaQHeld3
import Derived.Test.YtgjlbghjjjlhmaaPf0
import Derived.Test.YtgjlbghjjjlhmaaPfspecl17Modes
namespace Go.Proofs.Ytgjlbghjjjlhmaa.Q
open Go.RowKit Go.Proofs.YtgjlbghjjjlhmaaW.PrintWords Go.Proofs.YtgjlbghjjjlhmaaW.PrintLast Go.Proofs.YtgjlbghjjjlhmaaW.PrintMore Go.Proofs.Ytgjlbghjjjlhmaa.P
set_option linter.unusedVariables false
set_option linter.unusedSimpArgs false

def mv (x : Ho) : Int := if x.f3 = true then 2 else 1
def cov (x : Ho) (o b : Int) : Prop := x.f0 = o ∧ x.f1 ≤ b ∧ b ≤ x.f2
instance (x : Ho) (o b : Int) : Decidable (cov x o b) := by unfold cov; exact inferInstance
def modeF (o b : Int) : Int → List Ho → Int
  | acc, [] => acc
  | acc, x :: l => modeF o b (if cov x o b then mv x else acc) l
def Rh (a b : Ho) : Prop := a.f0 < b.f0 ∨ (a.f0 = b.f0 ∧ a.f2 < b.f1)
theorem sorted_l : ∀ (l : List Ho) (p : Option Ho), (∀ x ∈ l, x.f1 ≤ x.f2 ∧ 0 ≤ x.f2 ∧ x.f2 ≤ 15) → (∀ q, p = some q → q.f1 ≤ q.f2 ∧ 0 ≤ q.f2 ∧ q.f2 ≤ 15) → adjL p l = true → l.Pairwise Rh ∧ ∀ q, p = some q → ∀ x ∈ l, Rh q x
  | [], p, _, _, _ => ⟨List.Pairwise.nil, fun q _ x hx => by cases hx⟩
  | x :: l, p, hv, hp, h => by
    simp only [adjL, Bool.and_eq_true] at h
    have hx := hv x List.mem_cons_self
    obtain ⟨h1, h2⟩ := sorted_l l (some x) (fun y hy => hv y (List.mem_cons_of_mem _ hy)) (fun q e => by cases e; exact hx) h.2
    refine ⟨List.pairwise_cons.2 ⟨h2 x rfl, h1⟩, fun q hq => ?_⟩
    subst hq
    have hqv := hp q rfl
    have hR : Rh q x := by
      have h3 : adjP q x = true := h.1
      unfold adjP at h3
      simp only [Bool.not_eq_true', Bool.or_eq_false_iff, Bool.and_eq_false_iff, decide_eq_false_iff_not] at h3
      obtain ⟨h4, h5⟩ := h3
      rcases h5 with h5 | ⟨h5, _⟩
      · exact .inl (by omega)
      · by_cases e : q.f0 = x.f0
        · exact .inr ⟨e, by omega⟩
        · exact .inl (by omega)
    intro y hy
    rcases List.mem_cons.1 hy with rfl | hy
    · exact hR
    · have h6 := h2 x rfl y hy
      unfold Rh at *
      omega
theorem Tidy.sorted {hs : List Ho} (h : Tidy hs) : hs.Pairwise Rh :=
  (sorted_l hs none (fun x hx => by have := h.rng x hx; omega) (fun q e => by cases e) h.adj).1
theorem modeF_none (o b : Int) : ∀ (l : List Ho) (acc : Int), (∀ x ∈ l, ¬ cov x o b) → modeF o b acc l = acc
  | [], acc, _ => rfl
  | x :: l, acc, h => by
    simp only [modeF]
    rw [if_neg (h x List.mem_cons_self)]
    exact modeF_none o b l acc (fun y hy => h y (List.mem_cons_of_mem _ hy))
theorem modeF_some (o b : Int) : ∀ (l : List Ho) (acc : Int), l.Pairwise Rh → ∀ x ∈ l, cov x o b → modeF o b acc l = mv x
  | [], acc, _, x, hx, _ => by cases hx
  | y :: l, acc, hp, x, hx, hc => by
    obtain ⟨h1, h2⟩ := List.pairwise_cons.1 hp
    simp only [modeF]
    rcases List.mem_cons.1 hx with e | hx'
    · subst e
      rw [if_pos hc]
      refine modeF_none o b l _ (fun z hz hcz => ?_)
      have := h1 z hz
      unfold Rh at this
      unfold cov at hc hcz
      omega
    · exact modeF_some o b l _ h2 x hx' hc
/-- One hold's bytes. -/
theorem modes_l1 (hs : List Ho) (hn : hs.length ≤ 1048576) (o : Int) (x : Ho) (i : Nat) (hi : i < hs.length) (hx : rd_T40 hs (i : Int) = x) (hv : 0 ≤ x.f1 ∧ x.f2 ≤ 15) {r : List Int} (m : Nat → Int) : ∀ (d : Nat) (out : List Int) (b : Int), 0 ≤ b → x.f1 ≤ b → b ≤ 16 → (16 - b).toNat = d → out.length = 16 →
    (∀ j : Nat, j < 16 → out.getD j 0 = if x.f0 = o ∧ x.f1 ≤ (j : Int) ∧ (j : Int) ≤ x.f2 ∧ (j : Int) < b then mv x else m j) →
    (∀ out' : List Int, out'.length = 16 → (∀ j : Nat, j < 16 → out'.getD j 0 = if cov x o (j : Int) then mv x else m j) → Ev (fun k => spec_l17Modes.l0 k hs o out' (wrap64 ((i : Int) + 1))) r) → (b > x.f2 ∨ b ≤ x.f2) → Ev (fun k => spec_l17Modes.l1 k hs o out (i : Int) b) r := by
  intro d
  induction d with
  | zero =>
    intro out b h0 h1 h2 hd hl ho hr _
    have hb : ¬ b ≤ x.f2 := by omega
    refine Ev.step (fun k => by simp only [spec_l17Modes.l1]; rfl) (Ev.pos (by omega) (Ev.pos (by omega) ?_))
    rw [hx]
    refine Ev.neg hb ?_
    refine Ev.step (fun k => by simp only [spec_l17Modes.j2]; rfl) ?_
    refine Ev.neg (by simp) (hr out hl (fun j hj => ?_))
    rw [ho j hj]
    by_cases hc : cov x o (j : Int)
    · rw [if_pos hc, if_pos ⟨hc.1, hc.2.1, hc.2.2, by have := hc.2.2; omega⟩]
    · rw [if_neg hc, if_neg (fun q => hc ⟨q.1, q.2.1, q.2.2.1⟩)]
  | succ d ih =>
    intro out b h0 h1 h2 hd hl ho hr _
    refine Ev.step (fun k => by simp only [spec_l17Modes.l1]; rfl) (Ev.pos (by omega) (Ev.pos (by omega) ?_))
    rw [hx]
    by_cases hb : b ≤ x.f2
    · refine Ev.pos hb ?_
      by_cases hown : x.f0 = o
      · have hob : (x.f0 == o) = true := beq_iff_eq.mpr hown
        rw [hob]
        refine Ev.step (fun k => by simp only [spec_l17Modes.j2]; rfl) ?_
        refine Ev.pos (by trivial) (Ev.pos h0 (Ev.pos (by omega) (Ev.bind (Ev.now _) (Ev.pos (by omega) (Ev.pos (by omega) ?_)))))
        rw [hx, wrap_id (n := b + 1) (by omega) (by omega)]
        obtain ⟨bn, rfl⟩ : ∃ bn : Nat, b = (bn : Int) := ⟨b.toNat, by omega⟩
        rw [Int.toNat_natCast]
        have key : ∀ q : List Int, q.length = 16 → (∀ j : Nat, j < 16 → q.getD j 0 = if j = bn then mv x else out.getD j 0) → Ev (fun k => spec_l17Modes.l1 k hs o q (i : Int) ((bn : Int) + 1)) r := fun q hq hqj => by
          refine ih q ((bn : Int) + 1) (by omega) (by omega) (by omega) (by omega) hq (fun j hj => ?_) hr (by omega)
          rw [hqj j hj, ho j hj]
          by_cases e : j = bn
          · rw [if_pos e, if_pos ⟨hown, by omega, by omega, by omega⟩]
          · rw [if_neg e]
            by_cases hc : x.f0 = o ∧ x.f1 ≤ (j : Int) ∧ (j : Int) ≤ x.f2 ∧ (j : Int) < (bn : Int)
            · rw [if_pos hc, if_pos ⟨hc.1, hc.2.1, hc.2.2.1, by omega⟩]
            · rw [if_neg hc, if_neg (fun q => hc ⟨q.1, q.2.1, q.2.2.1, by omega⟩)]
        have hset : ∀ (q : List Int) (v : Int) (j : Nat), q.length = 16 → j < 16 → (q.set bn v).getD j 0 = if j = bn then v else q.getD j 0 := by
          intro q v j hq hj
          simp only [List.getD_eq_getElem?_getD, List.getElem?_set]
          by_cases e : bn = j
          · subst e
            simp [hq, hj]
          · rw [if_neg e, if_neg (fun z => e z.symm)]
        by_cases hw : x.f3 = true
        · refine Ev.pos hw (key _ (by simpa using hl) (fun j hj => ?_))
          rw [hset _ _ j (by simpa using hl) hj, hset _ _ j hl hj]
          by_cases e : j = bn
          · rw [if_pos e, if_pos e]; unfold mv; rw [if_pos hw]
          · rw [if_neg e, if_neg e, if_neg e]
        · refine Ev.neg hw (key _ (by simpa using hl) (fun j hj => ?_))
          rw [hset _ _ j hl hj]
          by_cases e : j = bn
          · rw [if_pos e, if_pos e]; unfold mv; rw [if_neg hw]
          · rw [if_neg e, if_neg e]
      · have hob : (x.f0 == o) = false := beq_eq_false_iff_ne.mpr hown
        rw [hob]
        refine Ev.step (fun k => by simp only [spec_l17Modes.j2]; rfl) ?_
        refine Ev.neg (by simp) (hr out hl (fun j hj => ?_))
        rw [ho j hj, if_neg (fun q => hown q.1), if_neg (fun q => hown q.1)]
    · refine Ev.neg hb ?_
      refine Ev.step (fun k => by simp only [spec_l17Modes.j2]; rfl) ?_
      refine Ev.neg (by simp) (hr out hl (fun j hj => ?_))
      rw [ho j hj]
      by_cases hc : cov x o (j : Int)
      · rw [if_pos hc, if_pos ⟨hc.1, hc.2.1, hc.2.2, by have := hc.2.2; omega⟩]
      · rw [if_neg hc, if_neg (fun q => hc ⟨q.1, q.2.1, q.2.2.1⟩)]
theorem modeF_snoc (o b : Int) (x : Ho) : ∀ (l : List Ho) (acc : Int), modeF o b acc (l ++ [x]) = if cov x o b then mv x else modeF o b acc l
  | [], acc => rfl
  | y :: l, acc => by
    simp only [List.cons_append, modeF]
    exact modeF_snoc o b x l _
theorem modes_l (hs : List Ho) (hn : hs.length ≤ 1048576) (hv : ∀ x ∈ hs, 0 ≤ x.f1 ∧ x.f1 ≤ x.f2 ∧ x.f2 ≤ 15) (o : Int) : ∀ (rest pre : List Ho) (out : List Int), hs = pre ++ rest → out.length = 16 → (∀ j : Nat, j < 16 → out.getD j 0 = modeF o (j : Int) 0 pre) →
    ∃ out', Ev (fun k => spec_l17Modes.l0 k hs o out (pre.length : Int)) out' ∧ out'.length = 16 ∧ ∀ j : Nat, j < 16 → out'.getD j 0 = modeF o (j : Int) 0 hs := by
  intro rest
  induction rest with
  | nil =>
    intro pre out hl ho hj
    refine ⟨out, Ev.step (fun k => by simp only [spec_l17Modes.l0]; rfl) (Ev.neg (by rw [hl]; simp) (Ev.now _)), ho, fun j h => ?_⟩
    rw [hj j h, hl, List.append_nil]
  | cons x rest ih =>
    intro pre out hl ho hj
    have hlt : pre.length < hs.length := by rw [hl]; simp
    have hr : rd_T40 hs (pre.length : Int) = x := by rw [hl]; exact rdH_at _ _ _
    have hlen : ((pre ++ [x]).length : Int) = ((pre.length + 1 : Nat) : Int) := by simp
    have hx := lsucc_wrap hlt (by omega : hs.length ≤ 9223372036854775807)
    have hxm : x ∈ hs := by rw [hl]; simp
    have hvx := hv x hxm
    -- what follows is found behind one hold's bytes
    obtain ⟨out1, hl1, hj1⟩ : ∃ out1 : List Int, out1.length = 16 ∧ ∀ j : Nat, j < 16 → out1.getD j 0 = if cov x o (j : Int) then mv x else modeF o (j : Int) 0 pre :=
      ⟨(List.range 16).map fun (j : Nat) => if cov x o (j : Int) then mv x else modeF o (j : Int) 0 pre, by simp, fun j h => by simp [List.getD_eq_getElem?_getD, h]⟩
    obtain ⟨out', e, h1, h2⟩ := ih (pre ++ [x]) out1 (by simp [hl]) hl1 (fun j h => by rw [hj1 j h, modeF_snoc])
    refine ⟨out', ?_, h1, h2⟩
    refine Ev.step (fun k => by simp only [spec_l17Modes.l0]; rfl) (Ev.pos (by omega) (Ev.pos (by omega) ?_))
    rw [hr]
    refine modes_l1 hs hn o x pre.length hlt hr ⟨hvx.1, hvx.2.2⟩ (fun j => modeF o (j : Int) 0 pre) _ out x.f1 (by omega) (by omega) (by omega) rfl ho (fun j h => ?_) (fun out2 hl2 hj2 => ?_) (by omega)
    · rw [hj j h, if_neg (fun q => by omega)]
    · have : out2 = out1 := by
        apply List.ext_getElem (by omega)
        intro j g1 g2
        have a := hj2 j (by omega)
        have b := hj1 j (by omega)
        rw [List.getD_eq_getElem?_getD, List.getElem?_eq_getElem g1, Option.getD_some] at a
        rw [List.getD_eq_getElem?_getD, List.getElem?_eq_getElem g2, Option.getD_some] at b
        rw [a, b]
      rw [this, hx, ← hlen]
      exact e
theorem modes (hs : List Ho) (hn : hs.length ≤ 1048576) (hv : ∀ x ∈ hs, 0 ≤ x.f1 ∧ x.f1 ≤ x.f2 ∧ x.f2 ≤ 15) (o : Int) : ∃ out, Ev (fun k => spec_l17Modes.f k hs o) out ∧ out.length = 16 ∧ ∀ j : Nat, j < 16 → out.getD j 0 = modeF o (j : Int) 0 hs := by
  unfold spec_l17Modes.f
  obtain ⟨out, e, h1, h2⟩ := modes_l hs hn hv o hs [] (List.replicate 16 0) rfl (by simp) (fun j h => by rw [List.getD_eq_getElem?_getD, List.getElem?_replicate, if_pos h]; rfl)
  exact ⟨out, Ev.pos (by omega) e, h1, h2⟩
end Go.Proofs.Ytgjlbghjjjlhmaa.Q
