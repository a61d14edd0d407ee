/- A map of two numbers that a call makes and ranges over: in whichever order. -/
import Derived.Test.YthoapmfpokohnaaQTell
import Derived.Maps.RangeRun
namespace Go.Proofs.Ythoapmfpokohnaa.Q
open Go Go.RowKit Go.WideMaps Go.WideElems Go.MapKept Go.ChangeMaps Go.Proofs.YthoapmfpokohnaaW.PrintWords
set_option linter.unusedVariables false
set_option linter.unusedSimpArgs false
section
variable {P : Program}
theorem set_run {w : World} {r : Nat} {o : Obj} (hr : w.heap[r]? = some o) (o' : Obj) : w.grownBy (setBlock w r o') (some r) ∧ (setBlock w r o').heap[r]? = some o' ∧ (setBlock w r o').heap.size = w.heap.size := by
  have hlt : r < w.heap.size := (Array.getElem?_eq_some_iff.1 hr).1
  refine ⟨⟨rfl, rfl, rfl, by simp [setBlock], fun k hk hne => ?_⟩, ?_, by simp [setBlock]⟩
  · simp only [setBlock]
    rw [Array.getElem?_setIfInBounds_ne]
    intro e1
    exact hne (by rw [e1])
  · simp only [setBlock]
    rw [Array.getElem?_setIfInBounds_self_of_lt hlt]
def two (v1 v2 : Value) : Array MapEntry := #[⟨.int .i64 1, v1, 0⟩, ⟨.int .i64 2, v2, 1⟩]
structure Two (w : World) (gm ri : Nat) (v1 v2 : Value) (seen : Array Nat) : Prop where
  map : w.heap[gm]? = some (.map (two v1 v2) 2)
  iter : w.heap[ri]? = some (.mapIter (some gm) 2 seen 2)
theorem Two.made {t kt S : TypeId} (ht : P.underlying t = some (.map kt S)) (hk : P.underlying kt = some (.int .i64)) (w0 : World) (v1 v2 : Value) :
    ∃ w1 w2 w3 w4 ri, (Instr.makeMap t none).run P w0 = .ok (.map (some w0.heap.size)) w1 ∧ (Instr.mapUpdate t (.map (some w0.heap.size)) (.int .i64 1) v1).run P w1 = .ok () w2 ∧ (Instr.mapUpdate t (.map (some w0.heap.size)) (.int .i64 2) v2).run P w2 = .ok () w3 ∧
      (Instr.range t (.map (some w0.heap.size))).run P w3 = .ok (.pointer (some ⟨ri, 0, none⟩)) w4 ∧ Below w0.heap.size w0 w1 ∧ Below w0.heap.size w0 w2 ∧ Below w0.heap.size w0 w3 ∧ Below w0.heap.size w0 w4 ∧ w0.heap.size ≤ ri ∧ Two w4 w0.heap.size ri v1 v2 #[] := by
  have a1 := (heap_alloc w0 (.map #[] 0)).1
  have B1 : Below w0.heap.size w0 (w0.alloc (.map #[] 0)) := below_alloc (Below.refl _ _) _
  have hs1 := B1.size
  obtain ⟨g2, b2, s2⟩ := set_run a1 (.map #[⟨.int .i64 1, v1, 0⟩] 1)
  have B2 := B1.grown g2 hs1 (fun k e1 => by injection e1 with e1; omega)
  obtain ⟨g3, b3, s3⟩ := set_run b2 (.map (two v1 v2) 2)
  have B3 := B2.grown g3 B2.size (fun k e1 => by injection e1 with e1; omega)
  have B4 := below_alloc B3 (.mapIter (some w0.heap.size) 2 #[] 2)
  have c1 : ∀ n u, (Instr.checkKey false 10000 kt (.int .i64 n)).run P u = .ok () u := fun n u => MapKept.run_checkKey (k := .int .i64 n) hk (by simp [MapKept.IsKey]) false 9999
  have f1 : ∀ u, (Instr.findKey kt (.int .i64 1) ([] : List MapEntry)).run P u = .ok none u := fun u => MapKept.run_findKey hk rfl
  have f2 : ∀ u, (Instr.findKey kt (.int .i64 2) ([⟨.int .i64 1, v1, 0⟩] : List MapEntry)).run P u = .ok none u := fun u => MapKept.run_findKey hk rfl
  refine ⟨_, _, _, _, _, run_makeMap _ _, ?_, ?_, run_range_map _ t kt S w0.heap.size (two v1 v2) 2 ht b3, B1, B2, B3, B4, B3.size, ?_, (heap_alloc _ _).1⟩
  · simp only [Instr.mapUpdate, Sem.run_bind, run_underlying ht, MapKept.run_getObj_map a1, c1, f1, Result.andThen, MapKept.run_setObj_map _ a1]
    rfl
  · simp only [Instr.mapUpdate, Sem.run_bind, run_underlying ht, MapKept.run_getObj_map b2, c1, f2, Result.andThen, MapKept.run_setObj_map _ b2]
    rfl
  · rw [(heap_alloc _ _).2 _ (by have := (Array.getElem?_eq_some_iff.1 b3).1; exact this)]
    exact b3
theorem leftOf_two (v1 v2 : Value) (seen : Array Nat) : (leftOf (two v1 v2) seen).toList = (if seen.contains 0 then [] else [⟨.int .i64 1, v1, 0⟩]) ++ (if seen.contains 1 then [] else [⟨.int .i64 2, v2, 1⟩]) := by
  simp only [leftOf, two, Array.toList_filter, List.filter_cons, List.filter_nil]
  cases h0 : seen.contains 0 <;> cases h1 : seen.contains 1 <;> rfl
/-- What 'next' makes of it, and 'entry' behind it. -/
theorem Two.next {w : World} {gm ri : Nat} {v1 v2 : Value} {seen : Array Nat} (h : Two w gm ri v1 v2 seen) (ty : TypeId) :
    (seen.contains 0 = true ∧ seen.contains 1 = true ∧ (Instr.next (.pointer (some ⟨ri, 0, none⟩)) false ty).run P w = .ok (.tuple #[.bool false]) w) ∨
    ∃ (n : Nat) (seen' : Array Nat) (w' : World), ((n = 1 ∧ seen.contains 0 = false ∧ seen'.contains 0 = true ∧ seen'.contains 1 = seen.contains 1) ∨ (n = 2 ∧ seen.contains 1 = false ∧ seen'.contains 1 = true ∧ seen'.contains 0 = seen.contains 0)) ∧
      (Instr.next (.pointer (some ⟨ri, 0, none⟩)) false ty).run P w = .ok (.tuple #[.bool true, .int .i64 (n : Nat), if n = 1 then v1 else v2]) w' ∧ (Instr.entry (.pointer (some ⟨ri, 0, none⟩))).run P w' = .ok (.tuple #[.int .i64 (n : Nat), if n = 1 then v1 else v2]) w' ∧
      Two w' gm ri v1 v2 seen' ∧ w.grownBy w' (some ri) := by
  have hne : gm ≠ ri := by
    rintro rfl
    have := h.map.symm.trans h.iter
    cases this
  have hold : ∀ x ∈ (two v1 v2).toList, x.born < 2 := by simp [two]
  have hnd : ((two v1 v2).toList.map (·.born)).Nodup := by simp [two]
  rcases run_next_at (P := P) w ty ri gm 2 2 seen (two v1 v2) 2 h.iter h.map hold (by omega) with ⟨h0, hrun⟩ | ⟨e, he, w1, hw1, hrun⟩
  · left
    have h0' : (leftOf (two v1 v2) seen).toList = [] := by
      rw [Array.eq_empty_of_size_eq_zero h0]
    rw [leftOf_two] at h0'
    cases g0 : seen.contains 0 <;> cases g1 : seen.contains 1 <;> rw [g0, g1] at h0'
    · cases h0'
    · cases h0'
    · cases h0'
    · exact ⟨rfl, rfl, hrun⟩
  · right
    have hi1 : w1.heap[ri]? = some (.mapIter (some gm) 2 seen 2) := by rcases hw1 with rfl | rfl <;> exact h.iter
    have hm1 : w1.heap[gm]? = some (.map (two v1 v2) 2) := by rcases hw1 with rfl | rfl <;> exact h.map
    have hg1 : w.grownBy w1 none := by
      rcases hw1 with rfl | rfl
      · exact ⟨rfl, rfl, rfl, Nat.le_refl _, fun _ _ _ => rfl⟩
      · exact ⟨rfl, rfl, rfl, Nat.le_refl _, fun _ _ _ => rfl⟩
    obtain ⟨g2, b2, s2⟩ := set_run hi1 (.mapIter (some gm) 2 (seen.push e.born) 2)
    have hm2 : (setBlock w1 ri (.mapIter (some gm) 2 (seen.push e.born) 2)).heap[gm]? = some (.map (two v1 v2) 2) := by
      rw [g2.block gm (Array.getElem?_eq_some_iff.1 hm1).1 (by intro e1; injection e1 with e1; exact hne e1)]
      exact hm1
    have hent := run_entry_at (P := P) _ ri gm 2 seen (two v1 v2) 2 e b2 hm2 (mem_left he).1 hnd
    have hgr : w.grownBy (setBlock w1 ri (.mapIter (some gm) 2 (seen.push e.born) 2)) (some ri) := by
      refine ⟨?_, ?_, ?_, ?_, ?_⟩
      · exact g2.os.trans hg1.os
      · exact g2.tape.trans hg1.tape
      · exact g2.output.trans hg1.output
      · exact Nat.le_trans hg1.size g2.size
      · exact fun k hk hk2 => (g2.block k (Nat.lt_of_lt_of_le hk hg1.size) hk2).trans (hg1.block k hk (by simp))
    have hee := (mem_left he).2
    rcases (by simpa [two] using (mem_left he).1 : e = ⟨.int .i64 1, v1, 0⟩ ∨ e = ⟨.int .i64 2, v2, 1⟩) with rfl | rfl
    · exact ⟨1, _, _, Or.inl ⟨rfl, hee, by simp [Array.contains_push], by simp [Array.contains_push]⟩, hrun, hent, ⟨hm2, b2⟩, hgr⟩
    · exact ⟨2, _, _, Or.inr ⟨rfl, hee, by simp [Array.contains_push], by simp [Array.contains_push]⟩, hrun, hent, ⟨hm2, b2⟩, hgr⟩
theorem Two.iter_ {α : Type} {d : Kd α} {E : Nat} {w w1 : World} {base b ri : Nat} {T : List ((Int × Int) × α)} {m s sn c} (h : TMap d E w base b T) (hr : w.heap[ri]? = some (.mapIter m s sn c)) (hd : d.E = []) (hg : w.grownBy w1 (some ri)) : TMap d E w1 base b T := by
  obtain ⟨L, clock, hb, _⟩ := id h
  refine h.step (hg.block b h.lt ?_) (fun k _ hk hc => hg.block k hk ?_) hd
  · intro e1
    injection e1 with e1
    subst e1
    rw [hr] at hb
    cases hb
  · intro e1
    injection e1 with e1
    subst e1
    obtain ⟨cells, hc⟩ := hc
    rw [hr] at hc
    cases hc
theorem Two.below {w w1 : World} {gm ri : Nat} {v1 v2 : Value} {seen : Array Nat} (h : Two w gm ri v1 v2 seen) (hb : Below w.heap.size w w1) : Two w1 gm ri v1 v2 seen :=
  ⟨(hb.block gm (Array.getElem?_eq_some_iff.1 h.map).1).trans h.map, (hb.block ri (Array.getElem?_eq_some_iff.1 h.iter).1).trans h.iter⟩
theorem Two.wr {w w1 : World} {gm ri : Nat} {v1 v2 : Value} {seen : Array Nat} (h : Two w gm ri v1 v2 seen) {g t : Nat} {cs : Array Value} (hb : w.heap[g]? = some (.cells cs t (0, 0))) (hw : ∀ k, k ≠ g → w1.heap[k]? = w.heap[k]?) : Two w1 gm ri v1 v2 seen := by
  refine ⟨(hw gm ?_).trans h.map, (hw ri ?_).trans h.iter⟩
  · rintro rfl
    rw [h.map] at hb
    cases hb
  · rintro rfl
    rw [h.iter] at hb
    cases hb
theorem Two.ne {w : World} {gm ri : Nat} {v1 v2 : Value} {seen : Array Nat} (h : Two w gm ri v1 v2 seen) {g t : Nat} {cs : Array Value} {fr : Nat × Nat} (hb : w.heap[g]? = some (.cells cs t fr)) : some g ≠ some ri := by
  intro e1
  injection e1 with e1
  subst e1
  rw [h.iter] at hb
  cases hb
end
end Go.Proofs.Ythoapmfpokohnaa.Q
