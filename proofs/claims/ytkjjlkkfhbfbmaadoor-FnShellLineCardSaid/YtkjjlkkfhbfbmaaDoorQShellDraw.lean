/- How a line of the shell is drawn: it comes to an answer, and is short. -/
import Derived.Test.YtkjjlkkfhbfbmaaDoorQShell
import Derived.Test.YtkjjlkkfhbfbmaaDoorQPick
import Derived.Test.YtkjjlkkfhbfbmaaDoorPfM0
import Derived.Test.YtkjjlkkfhbfbmaaDoorPfspecl93Line
namespace Go.Proofs.YtkjjlkkfhbfbmaaDoor.Q
open Go.RowKit Go.Proofs.YtkjjlkkfhbfbmaaDoorW.PrintWords Go.Proofs.YtkjjlkkfhbfbmaaDoorW.PrintLast Go.Proofs.YtkjjlkkfhbfbmaaDoorW.PrintMore Go.Proofs.YtkjjlkkfhbfbmaaDoor.P
set_option linter.unusedVariables false
set_option linter.unusedSimpArgs false
theorem exb {α β : Type} {g : Nat → Option α} {a : α} {f : Nat → α → Option β} {Pz : β → Prop} (h : Ev g a) (k : ∃ r, Ev (fun n => f n a) r ∧ Pz r) : ∃ r, Ev (fun n => (g n).bind (f n)) r ∧ Pz r := by
  obtain ⟨r, k1, k2⟩ := k
  exact ⟨r, Ev.bind h k1, k2⟩
theorem expos {β : Type} {c : Prop} [Decidable c] {f g : Nat → Option β} {Pz : β → Prop} (h : c) (k : ∃ r, Ev f r ∧ Pz r) : ∃ r, Ev (fun n => if c then f n else g n) r ∧ Pz r := by
  obtain ⟨r, k1, k2⟩ := k
  exact ⟨r, Ev.pos h k1, k2⟩
theorem exneg {β : Type} {c : Prop} [Decidable c] {f g : Nat → Option β} {Pz : β → Prop} (h : ¬ c) (k : ∃ r, Ev g r ∧ Pz r) : ∃ r, Ev (fun n => if c then f n else g n) r ∧ Pz r := by
  obtain ⟨r, k1, k2⟩ := k
  exact ⟨r, Ev.neg h k1, k2⟩
theorem exlist {β : Type} {m : Nat} {Y : List ByteArray} {f : Nat → List ByteArray → Option β} {Pz : β → Prop} (hY : ∀ x ∈ Y, x.size ≤ 200) (hn : Y.length = m) (k : ∀ y : List ByteArray, (∀ x ∈ y, x.size ≤ 200) → y.length = m → ∃ r, Ev (fun n => f n y) r ∧ Pz r) : ∃ r, Ev (fun n => (some Y).bind (f n)) r ∧ Pz r :=
  exb (Ev.now _) (k Y hY hn)
theorem rd_all {xs : List ByteArray} {m : Nat} (h : ∀ x ∈ xs, x.size ≤ m) (i : Int) : (rdOf ByteArray.empty xs i).size ≤ m := by
  unfold rdOf
  rw [List.getD_eq_getElem?_getD]
  cases hx : xs[i.toNat]? with
  | none => show (0 : Nat) ≤ m; omega
  | some x => exact h x (List.mem_of_getElem? hx)
theorem sz_lit (l : List UInt8) : (⟨l.toArray⟩ : ByteArray).size = l.length := by simp [ByteArray.size]
theorem dec_ev (v : Int) (h0 : 0 ≤ v) (h1 : v < 64) : ∃ t, Ev (fun k => spec_l6Dec.f k v) t ∧ t.size ≤ 64 := by
  obtain ⟨u, rfl⟩ := Int.eq_ofNat_of_zero_le h0
  have := dec_len u
  exact ⟨_, l6Dec_ev u (by omega), by rw [Bs_size]; omega⟩
theorem line_ev (s : List Int) (hs : Bytes s) (p : Int) (hp : 0 ≤ p) (hp' : p ≤ 1000) : ∃ r : ByteArray × Int, Ev (fun k => spec_l93Line.f k s p) r ∧ r.1.size ≤ 400 := by
  unfold spec_l93Line.f
  obtain ⟨v1, e1, a1, b1, _⟩ := pick_ev s hs p 4 hp (by omega) (by decide)
  obtain ⟨v2, e2, a2, b2, _⟩ := pick_ev s hs (p + 1) 2 (by omega) (by omega) (by decide)
  have b1 := b1 (by decide)
  have b2 := b2 (by decide)
  have hv : 0 ≤ wrap64 (v1 * v2) ∧ wrap64 (v1 * v2) < 64 := by
    rcases (by omega : v2 = 0 ∨ v2 = 1) with rfl | rfl
    · rw [Int.mul_zero, wrap_id (by decide) (by decide)]; decide
    · rw [Int.mul_one, wrap_id (by omega) (by omega)]; omega
  obtain ⟨t105, e3, z105⟩ := dec_ev _ hv.1 hv.2
  obtain ⟨v4, e4, a4, b4, _⟩ := pick_ev s hs (p + 1 + 1) 6 (by omega) (by omega) (by decide)
  obtain ⟨v5, e5, a5, b5, _⟩ := pick_ev s hs (p + 1 + 1 + 1) 7 (by omega) (by omega) (by decide)
  obtain ⟨v6, e6, a6, b6, _⟩ := pick_ev s hs (p + 1 + 1 + 1 + 1) 64 (by omega) (by omega) (by decide)
  have b4 := b4 (by decide)
  have b5 := b5 (by decide)
  have b6 := b6 (by decide)
  obtain ⟨t114, e7, z114⟩ := dec_ev v5 a5 (by omega)
  obtain ⟨t117, e8, z117⟩ := dec_ev v6 a6 (by omega)
  obtain ⟨v7, e9, a7, b7, _⟩ := pick_ev s hs (p + 1 + 1 + 1 + 1 + 1) 38 (by omega) (by omega) (by decide)
  obtain ⟨v8, e10, a8, b8, _⟩ := pick_ev s hs (p + 1 + 1 + 1 + 1 + 1 + 1) 30 (by omega) (by omega) (by decide)
  have b7 := b7 (by decide)
  refine exb e1 (exb e2 (exb e3 (exb (Ev.now _) (exb e4 (expos a4 (expos (by simpa using b4) ?_))))))
  have zp := rd_all (xs := [(⟨#[47, 97]⟩ : ByteArray), (⟨#[47, 98]⟩ : ByteArray), (⟨#[47, 97, 47, 98]⟩ : ByteArray), (⟨#[98]⟩ : ByteArray), (⟨#[46, 46]⟩ : ByteArray), (⟨#[47]⟩ : ByteArray)]) (m := 5) (by decide) v4
  generalize rdOf ByteArray.empty [(⟨#[47, 97]⟩ : ByteArray), (⟨#[47, 98]⟩ : ByteArray), (⟨#[47, 97, 47, 98]⟩ : ByteArray), (⟨#[98]⟩ : ByteArray), (⟨#[46, 46]⟩ : ByteArray), (⟨#[47]⟩ : ByteArray)] v4 = q at zp ⊢
  refine exb e5 (exb e7 (exb e6 (exb e8 ?_)))
  repeat (refine expos (by first | omega | (simp only [ByteArray.size_append, sz_lit, List.length_cons, List.length_nil]; omega)) ?_)
  refine exlist (m := 38) ?hl rfl (fun y hy hyl => exb e9 (expos a7 (expos (by omega) (exb e10 ?_))))
  case hl =>
    repeat (refine List.forall_mem_cons.2 ⟨by first | decide | (simp only [ByteArray.size_append, sz_lit, List.length_cons, List.length_nil]; omega), ?_⟩)
    intro x hx
    cases hx
  have zr := rd_all hy v7
  by_cases h0 : v8 = 0
  · exact expos h0 ⟨_, Ev.now _, by simp only; omega⟩
  · refine exneg h0 (expos (by omega) (expos (by simp only [ByteArray.size_append, sz_lit, List.length_cons, List.length_nil]; omega) ⟨_, Ev.now _, by simp only [ByteArray.size_append, sz_lit, List.length_cons, List.length_nil]; omega⟩))
end Go.Proofs.YtkjjlkkfhbfbmaaDoor.Q
