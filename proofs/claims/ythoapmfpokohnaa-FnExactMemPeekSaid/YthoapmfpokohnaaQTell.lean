/- A map from pairs of numbers to lists that a call makes, its lists grown one by one ('m[k] = append(m[k], x)'): what a look-up answers, what a store makes of it, when it stays. -/
import Derived.Test.YthoapmfpokohnaaV
import Derived.WideKeyEntry
import Derived.WideKeyPair
import Derived.DeepKeys4
namespace Go.Proofs.Ythoapmfpokohnaa.Q
open Go Go.RowKit Go.WideMaps Go.WideElems Go.MapKept Go.ChangeMaps Go.Proofs.YthoapmfpokohnaaW.PrintWords
set_option linter.unusedVariables false
set_option linter.unusedSimpArgs false
def kv (q : Int × Int) : Value := .agg #[.int .i64 q.1, .int .i64 q.2]
theorem kv_inj {p q : Int × Int} (h : kv p = kv q) : p = q := by
  obtain ⟨a, b⟩ := p
  obtain ⟨c, d⟩ := q
  simp only [kv, Value.agg.injEq, Array.mk.injEq, List.cons.injEq, Value.int.injEq, true_and, and_true] at h
  rw [h.1, h.2]
def okq (q : Int × Int) : Prop := (Lit.int .i64 q.1).wf = true ∧ (Lit.int .i64 q.2).wf = true
section
variable {α : Type} {d : Kd α} {E : Nat} {w w1 : World} {base b : Nat} {T : List ((Int × Int) × α)} {P : Program} {q : Int × Int}
def at_ (T : List ((Int × Int) × α)) (q : Int × Int) : List α := (T.filter (fun t => t.1 == q)).map (·.2)
theorem at_snoc_same (T : List ((Int × Int) × α)) (q : Int × Int) (x : α) : at_ (T ++ [(q, x)]) q = at_ T q ++ [x] := by simp [at_]
theorem at_snoc_ne (T : List ((Int × Int) × α)) {p q : Int × Int} (h : q ≠ p) (x : α) : at_ (T ++ [(q, x)]) p = at_ T p := by simp [at_, h]
theorem at_none (h : ∀ t ∈ T, t.1 ≠ q) : at_ T q = [] := by
  simp only [at_, List.map_eq_nil_iff, List.filter_eq_nil_iff, beq_iff_eq]
  exact h
def TMap (d : Kd α) (E : Nat) (w : World) (base b : Nat) (T : List ((Int × Int) × α)) : Prop :=
  ∃ (L : List (MapEntry × (Int × Int))) (clock : Nat), w.heap[b]? = some (.map (L.map (·.1)).toArray clock) ∧ (∀ x ∈ L, x.1.key = kv x.2 ∧ okq x.2 ∧ x.1.born < clock ∧ d.R E w base (fun k => some k = x.1.val.ownBlock) x.1.val (at_ T x.2)) ∧
    (L.map (·.1.born)).Nodup ∧ (L.map (·.2)).Nodup ∧ (∀ t ∈ T, ∃ x ∈ L, x.2 = t.1) ∧ L.Pairwise (fun x y => ∀ k, x.1.val.ownBlock = some k → y.1.val.ownBlock ≠ some k)
theorem TMap.made (w : World) (base : Nat) : TMap d E (w.alloc (.map #[] 0)) base w.heap.size ([] : List ((Int × Int) × α)) :=
  ⟨[], 0, by simpa using (heap_alloc w (.map #[] 0)).1, by simp, by simp, by simp, by simp, by simp⟩
theorem TMap.lt (h : TMap d E w base b T) : b < w.heap.size := by
  obtain ⟨L, clock, hb, _⟩ := h
  exact (Array.getElem?_eq_some_iff.1 hb).1
theorem TMap.step (h : TMap d E w base b T) (h0 : w1.heap[b]? = w.heap[b]?) (hm : ∀ k, base ≤ k → k < w.heap.size → (∃ cells, w.heap[k]? = some (.cells cells E (0, 0))) → w1.heap[k]? = w.heap[k]?) (hd : d.E = []) : TMap d E w1 base b T := by
  obtain ⟨L, clock, hb, h1, h2, h3, h4, h5⟩ := h
  refine ⟨L, clock, h0.trans hb, fun x hx => ?_, h2, h3, h4, h5⟩
  obtain ⟨a1, a2, a3, a4⟩ := h1 x hx
  refine ⟨a1, a2, a3, Kd.R_mono (Kd.R_move (Kd.R_bound a4) (fun k hk => ?_)) (fun _ hk => hk.1)⟩
  obtain ⟨_, hk1, hk2, t, ht, hc⟩ := hk
  rw [hd] at ht
  simp only [List.mem_singleton] at ht
  subst ht
  exact hm k hk1 hk2 hc
theorem TMap.below (h : TMap d E w base b T) (hd : d.E = []) (hb : Below w.heap.size w w1) : TMap d E w1 base b T :=
  h.step (hb.block b h.lt) (fun k _ hk _ => hb.block k hk) hd
theorem TMap.notCells (h : TMap d E w base b T) {g : Nat} {cs : Array Value} {t : TypeId} {fr : Nat × Nat} (hb : w.heap[g]? = some (.cells cs t fr)) : b ≠ g := by
  rintro rfl
  obtain ⟨L, clock, h1, _⟩ := h
  rw [h1] at hb
  cases hb
theorem TMap.set (h : TMap d E w base b T) (hd : d.E = []) {g t : Nat} {cs : Array Value} (hb : w.heap[g]? = some (.cells cs t (0, 0))) (ht : E ≠ t) (j : Nat) (u : Value) : TMap d E (w.setCell ⟨g, j, none⟩ u) base b T := by
  refine h.step (Below.heap_setCell w ⟨g, j, none⟩ u b (h.notCells hb)) (fun k _ _ hc => Below.heap_setCell w ⟨g, j, none⟩ u k ?_) hd
  rintro rfl
  obtain ⟨c, hc⟩ := hc
  rw [hb] at hc
  injection hc with hc
  injection hc with _ hc
  exact ht hc.symm
theorem TMap.drew_ (h : TMap d E w base b T) (hd : d.E = []) : TMap d E w.drew base b T := h.step rfl (fun _ _ _ _ => rfl) hd
theorem reps1 {R : α → List Value → Prop} {sz : Nat} {x : α} {cs : List Value} (h : R x cs) (hl : cs.length = sz) : Reps R sz [x] cs := by
  refine ⟨by simp [hl], fun j y hj => ?_⟩
  cases j with
  | zero =>
    simp only [List.getElem?_cons_zero, Option.some.injEq] at hj
    subst hj
    simpa [← hl] using h
  | succ j => simp at hj
theorem TMap.grown (h : TMap d E w base b T) (hd : d.E = []) (hg : w.grownBy w1 none) : TMap d E w1 base b T :=
  h.step (hg.block b h.lt (by simp)) (fun k _ hk _ => hg.block k hk (by simp)) hd
theorem none_ne {p : Prop} (h : p) {k : Nat} : some k ≠ (none : Option Nat) := by simp
theorem TMap.ne (h : TMap d E w base b T) {g : Nat} {cs : Array Value} {t : TypeId} {fr : Nat × Nat} (hb : w.heap[g]? = some (.cells cs t fr)) : some g ≠ some b := fun e1 => h.notCells hb (by injection e1 with e1; exact e1.symm)
theorem TMap.ne_own (h : TMap d E w base b T) {base' : Nat} {ok : Nat → Prop} {v : Value} {xs : List α} (hR : d.R E w base' ok v xs) : ∀ k, v.ownBlock = some k → some k ≠ some b := by
  intro k hk
  obtain ⟨cells, hc⟩ := Kd.R_typed hR k hk
  exact h.ne hc
theorem TMap.wr (h : TMap d E w base b T) (hd : d.E = []) {g t : Nat} {cs : Array Value} (hb : w.heap[g]? = some (.cells cs t (0, 0))) (ht : E ≠ t) (hw : ∀ k, k ≠ g → w1.heap[k]? = w.heap[k]?) : TMap d E w1 base b T := by
  refine h.step (hw b (h.notCells hb)) (fun k _ _ hc => hw k ?_) hd
  rintro rfl
  obtain ⟨c, hc⟩ := hc
  rw [hb] at hc
  injection hc with hc
  injection hc with _ hc
  exact ht hc.symm
theorem fill2 {w : World} {g t : Nat} {z0 z1 : Value} (h : w.heap[g]? = some (.cells #[z0, z1] t (0, 0))) (v0 v1 : Value) : ((w.setCell ⟨g, 0, none⟩ v0).setCell ⟨g, 1, none⟩ v1).heap[g]? = some (.cells #[v0, v1] t (0, 0)) ∧ (∀ k, k ≠ g → ((w.setCell ⟨g, 0, none⟩ v0).setCell ⟨g, 1, none⟩ v1).heap[k]? = w.heap[k]?) ∧ (∀ w0 : World, Below w0.heap.size w0 w → w0.heap.size ≤ g → Below w0.heap.size w0 ((w.setCell ⟨g, 0, none⟩ v0).setCell ⟨g, 1, none⟩ v1)) :=
  ⟨blk_put (cs' := #[v0, v1]) (blk_put (cs' := #[v0, z1]) (h) 0 v0 rfl) 1 v1 rfl, fun k hk => (Below.heap_setCell _ ⟨g, 1, none⟩ v1 k hk).trans ((Below.heap_setCell _ ⟨g, 0, none⟩ v0 k hk)), fun w0 hB hg => below_set (below_set (hB) hg) hg⟩
theorem fill3 {w : World} {g t : Nat} {z0 z1 z2 : Value} (h : w.heap[g]? = some (.cells #[z0, z1, z2] t (0, 0))) (v0 v1 v2 : Value) : (((w.setCell ⟨g, 0, none⟩ v0).setCell ⟨g, 1, none⟩ v1).setCell ⟨g, 2, none⟩ v2).heap[g]? = some (.cells #[v0, v1, v2] t (0, 0)) ∧ (∀ k, k ≠ g → (((w.setCell ⟨g, 0, none⟩ v0).setCell ⟨g, 1, none⟩ v1).setCell ⟨g, 2, none⟩ v2).heap[k]? = w.heap[k]?) ∧ (∀ w0 : World, Below w0.heap.size w0 w → w0.heap.size ≤ g → Below w0.heap.size w0 (((w.setCell ⟨g, 0, none⟩ v0).setCell ⟨g, 1, none⟩ v1).setCell ⟨g, 2, none⟩ v2)) :=
  ⟨blk_put (cs' := #[v0, v1, v2]) (blk_put (cs' := #[v0, v1, z2]) (blk_put (cs' := #[v0, z1, z2]) (h) 0 v0 rfl) 1 v1 rfl) 2 v2 rfl, fun k hk => (Below.heap_setCell _ ⟨g, 2, none⟩ v2 k hk).trans ((Below.heap_setCell _ ⟨g, 1, none⟩ v1 k hk).trans ((Below.heap_setCell _ ⟨g, 0, none⟩ v0 k hk))), fun w0 hB hg => below_set (below_set (below_set (hB) hg) hg) hg⟩
theorem fill4 {w : World} {g t : Nat} {z0 z1 z2 z3 : Value} (h : w.heap[g]? = some (.cells #[z0, z1, z2, z3] t (0, 0))) (v0 v1 v2 v3 : Value) : ((((w.setCell ⟨g, 0, none⟩ v0).setCell ⟨g, 1, none⟩ v1).setCell ⟨g, 2, none⟩ v2).setCell ⟨g, 3, none⟩ v3).heap[g]? = some (.cells #[v0, v1, v2, v3] t (0, 0)) ∧ (∀ k, k ≠ g → ((((w.setCell ⟨g, 0, none⟩ v0).setCell ⟨g, 1, none⟩ v1).setCell ⟨g, 2, none⟩ v2).setCell ⟨g, 3, none⟩ v3).heap[k]? = w.heap[k]?) ∧ (∀ w0 : World, Below w0.heap.size w0 w → w0.heap.size ≤ g → Below w0.heap.size w0 ((((w.setCell ⟨g, 0, none⟩ v0).setCell ⟨g, 1, none⟩ v1).setCell ⟨g, 2, none⟩ v2).setCell ⟨g, 3, none⟩ v3)) :=
  ⟨blk_put (cs' := #[v0, v1, v2, v3]) (blk_put (cs' := #[v0, v1, v2, z3]) (blk_put (cs' := #[v0, v1, z2, z3]) (blk_put (cs' := #[v0, z1, z2, z3]) (h) 0 v0 rfl) 1 v1 rfl) 2 v2 rfl) 3 v3 rfl, fun k hk => (Below.heap_setCell _ ⟨g, 3, none⟩ v3 k hk).trans ((Below.heap_setCell _ ⟨g, 2, none⟩ v2 k hk).trans ((Below.heap_setCell _ ⟨g, 1, none⟩ v1 k hk).trans ((Below.heap_setCell _ ⟨g, 0, none⟩ v0 k hk)))), fun w0 hB hg => below_set (below_set (below_set (below_set (hB) hg) hg) hg) hg⟩
variable {k e : TypeId}
theorem TMap.keys {L : List (MapEntry × (Int × Int))} (A : ArrKey P k e 2) (he : P.underlying e = some (.int .i64)) (hsz : ∃ m, P.types.size = m + 1) (h : ∀ x ∈ L, x.1.key = kv x.2 ∧ okq x.2) : ∀ y ∈ L.map (·.1), ∃ l, keyOf P k y.key = some l := by
  intro y hy
  obtain ⟨x, hx, rfl⟩ := List.mem_map.1 hy
  obtain ⟨h1, h2, h3⟩ := h x hx
  exact ⟨_, by rw [h1]; exact keyOf_pair A he hsz h2 h3⟩
theorem drawn_below {w w1 : World} {n : Nat} (h : w1 = w.drewN n) : Below w.heap.size w w1 := by
  subst h
  exact pw_below_drewN (Below.refl _ _) n
/-- What a look-up answers. -/
theorem TMap.look (h : TMap d E w base b T) (K : KeyLaw P k) (A : ArrKey P k e 2) (he : P.underlying e = some (.int .i64)) (hsz : ∃ m, P.types.size = m + 1) {t S : TypeId} (ht : P.underlying t = some (.map k S)) (hz : (zeroValue S).run P w = .ok (.slice none 0 0) w) (hq : okq q) :
    ∃ v, (Instr.lookup t (.map (some b)) (kv q) false).run P w = .ok v w ∧ d.R E w base (fun k => some k = v.ownBlock) v (at_ T q) := by
  obtain ⟨L, clock, hb, h1, h2, h3, h4, h5⟩ := h
  have hkey := keyOf_pair (k := k) A he hsz hq.1 hq.2
  rcases K.find w hkey (L.map (·.1)) (TMap.keys A he hsz (fun x hx => ⟨(h1 x hx).1, (h1 x hx).2.1⟩)) with ⟨f1, f2⟩ | ⟨j, e0, f1, f2, f3⟩
  · refine ⟨.slice none 0 0, ?_, ?_⟩
    · simp [Instr.lookup, run_underlying ht, MapKept.run_getObj_map hb, K.check w _ hkey, kv, f1, hz, Result.andThen]
    · rw [at_none (q := q)]
      · exact Kd.R_nil _ _ _ _ _
      · intro x hx e1
        obtain ⟨y, hy, hy2⟩ := h4 x hx
        refine f2 y.1 (List.mem_map.2 ⟨y, hy, rfl⟩) ?_
        rw [(h1 y hy).1, hy2, e1]
        rfl
  · obtain ⟨y, hy, rfl⟩ := List.mem_map.1 (List.mem_of_getElem? f2)
    refine ⟨y.1.val, ?_, ?_⟩
    · simp [Instr.lookup, run_underlying ht, MapKept.run_getObj_map hb, K.check w _ hkey, kv, f1, hz, Result.andThen]
    · have e2 : y.2 = q := kv_inj (by rw [← (h1 y hy).1, f3]; rfl)
      rw [← e2]
      exact (h1 y hy).2.2.2
def TInv (d : Kd α) (E : Nat) (w : World) (base b : Nat) (T : List ((Int × Int) × α)) (L : List (MapEntry × (Int × Int))) (clock : Nat) : Prop :=
  w.heap[b]? = some (.map (L.map (·.1)).toArray clock) ∧ (∀ x ∈ L, x.1.key = kv x.2 ∧ okq x.2 ∧ x.1.born < clock ∧ d.R E w base (fun k => some k = x.1.val.ownBlock) x.1.val (at_ T x.2)) ∧
    (L.map (·.1.born)).Nodup ∧ (L.map (·.2)).Nodup ∧ (∀ t ∈ T, ∃ x ∈ L, x.2 = t.1) ∧ L.Pairwise (fun x y => ∀ k, x.1.val.ownBlock = some k → y.1.val.ownBlock ≠ some k)
theorem setBlock_grown {es : Array MapEntry} {clock : Nat} (hb : w.heap[b]? = some (.map es clock)) (o : Obj) : w.grownBy (setBlock w b o) (some b) ∧ (setBlock w b o).heap[b]? = some o ∧ (setBlock w b o).heap.size = w.heap.size := by
  have hlt : b < w.heap.size := (Array.getElem?_eq_some_iff.1 hb).1
  refine ⟨⟨rfl, rfl, rfl, by simp [setBlock], fun k hk hne => ?_⟩, ?_, by simp [setBlock]⟩
  · simp only [setBlock]
    rw [Array.getElem?_setIfInBounds_ne]
    intro e1
    exact hne (by rw [e1])
  · simp only [setBlock]
    rw [Array.getElem?_setIfInBounds_self_of_lt hlt]
theorem R_other {v : Value} {xs : List α} (h : d.R E w base (fun k => some k = v.ownBlock) v xs) {row : Option Nat} (hg : w.grownBy w1 row) (hne : ∀ k, v.ownBlock = some k → some k ≠ row) : d.R E w1 base (fun k => some k = v.ownBlock) v xs :=
  Kd.R_mono (Kd.R_move (Kd.R_bound h) (fun k hk => hg.block k hk.2.2.1 (hne k hk.1.symm))) (fun _ hk => hk.1)
theorem R_notMap {v : Value} {xs : List α} (h : d.R E w base (fun k => some k = v.ownBlock) v xs) {es : Array MapEntry} {clock : Nat} (hb : w.heap[b]? = some (.map es clock)) : ∀ k, v.ownBlock = some k → some k ≠ some b := by
  rintro k hk e1
  injection e1 with e1
  subst e1
  obtain ⟨cells, hc⟩ := Kd.R_typed h k hk
  rw [hb] at hc
  cases hc
/-- The first half of 'm[k] = append(m[k], x)': the entry, made where it lacked. -/
theorem TMap.entry (h : TMap d E w base b T) (K : KeyLaw P k) (A : ArrKey P k e 2) (he : P.underlying e = some (.int .i64)) (hsz : ∃ m, P.types.size = m + 1) {t S : TypeId} (ht : P.underlying t = some (.map k S)) (hz : ∀ u : World, (zeroValue S).run P u = .ok (.slice none 0 0) u) (hq : okq q) :
    ∃ (x0 : MapEntry) (w1 : World) (L : List (MapEntry × (Int × Int))) (clock j : Nat), (Instr.mapEntry t (.map (some b)) (kv q)).run P w = .ok (.tuple #[x0.val, goInt x0.born]) w1 ∧ w.grownBy w1 (some b) ∧ w1.heap.size = w.heap.size ∧ TInv d E w1 base b T L clock ∧ L[j]? = some (x0, q) := by
  obtain ⟨L, clock, hb, h1, h2, h3, h4, h5⟩ := h
  have hkey := keyOf_pair (k := k) A he hsz hq.1 hq.2
  rcases K.find w hkey (L.map (·.1)) (TMap.keys A he hsz (fun x hx => ⟨(h1 x hx).1, (h1 x hx).2.1⟩)) with ⟨f1, f2⟩ | ⟨j, e0, f1, f2, f3⟩
  · have hT : ∀ x ∈ T, x.1 ≠ q := by
      intro x hx e1
      obtain ⟨y, hy, hy2⟩ := h4 x hx
      refine f2 y.1 (List.mem_map.2 ⟨y, hy, rfl⟩) ?_
      rw [(h1 y hy).1, hy2, e1]
      rfl
    have hL : ∀ y ∈ L, y.2 ≠ q := by
      intro y hy e1
      refine f2 y.1 (List.mem_map.2 ⟨y, hy, rfl⟩) ?_
      rw [(h1 y hy).1, e1]
      rfl
    obtain ⟨g1, g2, g3⟩ := setBlock_grown hb (.map ((L.map (·.1)).toArray.push ⟨kv q, .slice none 0 0, clock⟩) (clock + 1))
    refine ⟨⟨kv q, .slice none 0 0, clock⟩, _, L ++ [(⟨kv q, .slice none 0 0, clock⟩, q)], clock + 1, L.length, ?_, g1, g3, ⟨by rw [g2]; simp, ?_, ?_, ?_, ?_, ?_⟩, by simp⟩
    · simp [Instr.mapEntry, run_underlying ht, MapKept.run_getObj_map hb, K.check w _ hkey, kv, f1, hz, MapKept.run_setObj_map _ hb, Result.andThen, setBlock]
    · intro x hx
      rcases List.mem_append.1 hx with hx | hx
      · obtain ⟨a1, a2, a3, a4⟩ := h1 x hx
        exact ⟨a1, a2, by omega, R_other a4 g1 (R_notMap a4 hb)⟩
      · simp only [List.mem_singleton] at hx
        subst hx
        refine ⟨rfl, hq, by simp, ?_⟩
        simp only
        rw [at_none hT]
        exact Kd.R_nil _ _ _ _ _
    · simp only [List.map_append, List.map_cons, List.map_nil]
      refine List.nodup_append.2 ⟨h2, by simp, fun a ha c hc e1 => ?_⟩
      simp only [List.mem_singleton] at hc
      obtain ⟨x, hx, rfl⟩ := List.mem_map.1 ha
      have := (h1 x hx).2.2.1
      omega
    · simp only [List.map_append, List.map_cons, List.map_nil]
      refine List.nodup_append.2 ⟨h3, by simp, fun a ha c hc e1 => ?_⟩
      simp only [List.mem_singleton] at hc
      obtain ⟨x, hx, rfl⟩ := List.mem_map.1 ha
      exact hL x hx (e1.trans hc)
    · intro x hx
      obtain ⟨y, hy, hy2⟩ := h4 x hx
      exact ⟨y, List.mem_append_left _ hy, hy2⟩
    · refine List.pairwise_append.2 ⟨h5, by simp, fun x hx y hy k hk => ?_⟩
      simp only [List.mem_singleton] at hy
      subst hy
      simp [Value.ownBlock]
  · obtain ⟨y, hy1, hy2⟩ : ∃ y, L[j]? = some y ∧ y.1 = e0 := by
      rw [List.getElem?_map] at f2
      cases hl : L[j]? with
      | none => rw [hl] at f2; cases f2
      | some y => rw [hl] at f2; exact ⟨y, rfl, by simpa using f2⟩
    have hyq : y.2 = q := kv_inj (by rw [← (h1 y (List.mem_of_getElem? hy1)).1, hy2, f3]; rfl)
    have hj : (L.map (·.1)).toArray[j]? = some e0 := by simpa using f2
    have hsame : (L.map (·.1)).toArray.modify j (fun e => { e with key := kv q }) = (L.map (·.1)).toArray := by
      apply Array.ext'
      rw [Array.toList_modify, modify_eq_set _ _ _ _ f2]
      have : ({ e0 with key := kv q } : MapEntry) = e0 := by rw [show kv q = e0.key from f3.symm]
      rw [this]
      exact set_self _ _ _ f2
    obtain ⟨g1, g2, g3⟩ := setBlock_grown hb (.map (L.map (·.1)).toArray clock)
    refine ⟨e0, _, L, clock, j, ?_, g1, g3, ⟨g2, fun x hx => ?_, h2, h3, h4, h5⟩, by rw [hy1, ← hy2, ← hyq]⟩
    · have hs2 := hsame
      simp only [kv] at hs2
      have f1' : (Instr.findKey k (.agg #[.int .i64 q.1, .int .i64 q.2]) (L.map (·.1)).toArray.toList).run P w = .ok (some (j, e0.val)) w := f1
      clear f1 hsame
      revert hb hj hs2 f1'
      generalize (L.map (·.1)).toArray = es
      intro hb hj hs2 f1'
      simp [Instr.mapEntry, run_underlying ht, MapKept.run_getObj_map hb, K.check w _ hkey, kv, f1', hj, f3, hs2, K.stays w hkey, MapKept.run_setObj_map _ hb, Result.andThen, setBlock]
    · obtain ⟨a1, a2, a3, a4⟩ := h1 x hx
      exact ⟨a1, a2, a3, R_other a4 g1 (R_notMap a4 hb)⟩
theorem pw {β : Type} {R : β → β → Prop} {L : List β} (h : L.Pairwise R) {i j : Nat} {y z : β} (hi : L[i]? = some y) (hj : L[j]? = some z) (hlt : i < j) : R y z := by
  obtain ⟨hi1, hi2⟩ := List.getElem?_eq_some_iff.1 hi
  obtain ⟨hj1, hj2⟩ := List.getElem?_eq_some_iff.1 hj
  rw [← hi2, ← hj2]
  exact List.pairwise_iff_getElem.1 h i j hi1 hj1 hlt
theorem pw_mk {β : Type} {R : β → β → Prop} {L : List β} (h : ∀ (i j : Nat) (y z : β), i < j → L[i]? = some y → L[j]? = some z → R y z) : L.Pairwise R :=
  List.pairwise_iff_getElem.2 fun i j hi hj hlt => h i j _ _ hlt (List.getElem?_eq_getElem hi) (List.getElem?_eq_getElem hj)
theorem nd {β γ : Type} {f : β → γ} {L : List β} (h : (L.map f).Nodup) {i j : Nat} {y z : β} (hi : L[i]? = some y) (hj : L[j]? = some z) (hne : i ≠ j) : f y ≠ f z := by
  have h' := List.pairwise_map.1 h
  rcases Nat.lt_or_gt_of_ne hne with hl | hl
  · exact pw h' hi hj hl
  · exact fun e1 => pw h' hj hi hl e1.symm
theorem TInv.row {L : List (MapEntry × (Int × Int))} {clock j : Nat} {x0 : MapEntry} (h : TInv d E w base b T L clock) (hj : L[j]? = some (x0, q)) : d.R E w base (fun k => some k = x0.val.ownBlock) x0.val (Q.at_ T q) := (h.2.1 _ (List.mem_of_getElem? hj)).2.2.2
theorem at_length (T : List ((Int × Int) × α)) (q : Int × Int) : (Q.at_ T q).length ≤ T.length := by
  simp only [Q.at_, List.length_map]
  exact List.length_filter_le _ _
/-- .. and the second half: the store into that entry, of a list grown by one. -/
theorem TInv.store {L : List (MapEntry × (Int × Int))} {clock j : Nat} {x0 : MapEntry} {t : TypeId} (h : TInv d E w base b T L clock) (hj : L[j]? = some (x0, q)) (hd : d.E = []) {w2 : World} {v : Value} {x : α} (hg : w.grownBy w2 x0.val.ownBlock)
    (hR : d.R E w2 base (fun k => some k = v.ownBlock) v (at_ T q ++ [x])) (hv : v.ownBlock = x0.val.ownBlock ∨ ∃ g, v.ownBlock = some g ∧ w.heap.size ≤ g) :
    ∃ w3, (Instr.entryStore t (.map (some b)) (goInt x0.born) v).run P w2 = .ok () w3 ∧ w2.grownBy w3 (some b) ∧ w3.heap.size = w2.heap.size ∧ TMap d E w3 base b (T ++ [(q, x)]) := by
  obtain ⟨hb, h1, h2, h3, h4, h5⟩ := h
  obtain ⟨a1, a2, a3, a4⟩ := h1 _ (List.mem_of_getElem? hj)
  have hb2 : w2.heap[b]? = some (.map (L.map (·.1)).toArray clock) := by
    rw [hg.block b (Array.getElem?_eq_some_iff.1 hb).1 ?_, hb]
    intro e1
    exact R_notMap a4 hb b e1.symm rfl
  have hjl : j < L.length := (List.getElem?_eq_some_iff.1 hj).1
  have hidx : (L.map (·.1)).toArray.findIdx? (fun e => ((e.born : Nat) : Int) == ((x0.born : Nat) : Int)) = some j := by
    rw [findIdx_arr]
    exact findIdx_born (by simpa [Function.comp_def] using h2) (by simp [hj])
  obtain ⟨g1, g2, g3⟩ := setBlock_grown hb2 (.map ((L.set j ({ x0 with val := v }, q)).map (·.1)).toArray clock)
  refine ⟨_, ?_, g1, g3, L.set j ({ x0 with val := v }, q), clock, g2, ?_, ?_, ?_, ?_, ?_⟩
  · have hmod : (L.map (·.1)).toArray.modify j (fun e => { e with val := v }) = ((L.set j ({ x0 with val := v }, q)).map (·.1)).toArray := by
      apply Array.ext'
      rw [Array.toList_modify, modify_eq_set _ _ _ x0 (by simp [hj]), List.map_set]
    simp [Instr.entryStore, MapKept.run_getObj_map hb2, asInt, asIntOf, goInt, hidx, hmod, MapKept.run_setObj_map _ hb2, Result.andThen, setBlock]
  all_goals
    have hother : ∀ (i : Nat) (y : MapEntry × (Int × Int)), i ≠ j → L[i]? = some y → y.2 ≠ q ∧ (∀ k, y.1.val.ownBlock = some k → x0.val.ownBlock ≠ some k) ∧ (∀ k, v.ownBlock = some k → y.1.val.ownBlock ≠ some k) := by
      intro i y hne hi
      obtain ⟨b1, b2, b3, b4⟩ := h1 y (List.mem_of_getElem? hi)
      have hap : ∀ k, y.1.val.ownBlock = some k → x0.val.ownBlock ≠ some k := by
        intro k hk e1
        rcases Nat.lt_or_gt_of_ne hne with hl | hl
        · exact pw h5 hi hj hl k hk e1
        · exact pw h5 hj hi hl k e1 hk
      refine ⟨fun e1 => nd h3 hi hj hne e1, hap, fun k hk e1 => ?_⟩
      rcases hv with hv | ⟨g, hv, hge⟩
      · exact hap k e1 (hv ▸ hk)
      · rw [hv] at hk
        injection hk with hk
        subst hk
        have := Kd.R_lt b4 g e1
        omega
  · intro y hy
    obtain ⟨i, hi⟩ := List.getElem?_of_mem hy
    by_cases hij : i = j
    · subst hij
      rw [List.getElem?_set_self hjl] at hi
      injection hi with hi
      subst hi
      refine ⟨a1, a2, a3, ?_⟩
      simp only [at_snoc_same]
      exact R_other hR g1 (R_notMap hR hb2)
    · rw [List.getElem?_set_ne (fun e1 => hij e1.symm)] at hi
      obtain ⟨b1, b2, b3, b4⟩ := h1 y (List.mem_of_getElem? hi)
      obtain ⟨o1, o2, o3⟩ := hother i y hij hi
      have b5 := R_other b4 hg (fun k hk e1 => o2 k hk e1.symm)
      refine ⟨b1, b2, b3, ?_⟩
      rw [at_snoc_ne T (fun e1 => o1 e1.symm)]
      exact R_other b5 g1 (R_notMap b5 hb2)
  · have e1 : (L.set j ({ x0 with val := v }, q)).map (fun x => x.1.born) = L.map (fun x => x.1.born) := by
      rw [List.map_set]
      exact set_self _ _ _ (by simp [hj])
    rw [e1]
    exact h2
  · have e1 : (L.set j ({ x0 with val := v }, q)).map (fun x => x.2) = L.map (fun x => x.2) := by
      rw [List.map_set]
      exact set_self _ _ _ (by simp [hj])
    rw [e1]
    exact h3
  · intro z hz
    have hin : ({ x0 with val := v }, q) ∈ L.set j ({ x0 with val := v }, q) := List.mem_of_getElem? (List.getElem?_set_self hjl)
    rcases List.mem_append.1 hz with hz | hz
    · obtain ⟨y, hy, hy2⟩ := h4 z hz
      obtain ⟨i, hi⟩ := List.getElem?_of_mem hy
      by_cases hij : i = j
      · subst hij
        rw [hj] at hi
        injection hi with hi
        subst hi
        exact ⟨_, hin, hy2⟩
      · exact ⟨y, List.mem_of_getElem? (by rw [List.getElem?_set_ne (fun e1 => hij e1.symm)]; exact hi), hy2⟩
    · simp only [List.mem_singleton] at hz
      subst hz
      exact ⟨_, hin, rfl⟩
  · refine pw_mk fun i1 i2 y z hlt hi1 hi2 k hk => ?_
    by_cases e1 : i1 = j
    · subst e1
      rw [List.getElem?_set_self hjl] at hi1
      injection hi1 with hi1
      subst hi1
      rw [List.getElem?_set_ne (by omega)] at hi2
      exact (hother i2 z (by omega) hi2).2.2 k hk
    · rw [List.getElem?_set_ne (fun e2 => e1 e2.symm)] at hi1
      by_cases e2 : i2 = j
      · subst e2
        rw [List.getElem?_set_self hjl] at hi2
        injection hi2 with hi2
        subst hi2
        exact fun e3 => (hother i1 y e1 hi1).2.2 k e3 hk
      · rw [List.getElem?_set_ne (fun e3 => e2 e3.symm)] at hi2
        exact pw h5 hi1 hi2 hlt k hk
end
end Go.Proofs.Ythoapmfpokohnaa.Q
