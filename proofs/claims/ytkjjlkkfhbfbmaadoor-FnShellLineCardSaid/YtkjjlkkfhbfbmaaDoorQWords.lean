/- A map from words to pairs (a number, a text) that a call makes: what a store of a new word makes of it, what a look-up answers; the tables of the library that a walk reads, and that they stand. -/
import Derived.Test.YtkjjlkkfhbfbmaaDoorV
import Derived.Test.YtkjjlkkfhbfbmaaDoorQShelf
import Derived.StringKeys
import Derived.Maps.Keyed
import Derived.WideKeyEntry
import Derived.Lib.LaidTab
import Derived.Sort.Grow
import Derived.Lib.ItoaNum
import Derived.Lib.Fields
namespace Go.Proofs.YtkjjlkkfhbfbmaaDoor.Q
open Go Go.RowKit Go.WideMaps Go.WideElems Go.MapKept Go.ChangeMaps Go.Proofs.YtkjjlkkfhbfbmaaDoorW.PrintWords
set_option linter.unusedVariables false
set_option linter.unusedSimpArgs false
theorem ba_ext {a b : ByteArray} (h : a.data = b.data) : a = b := by
  cases a
  cases b
  simp only at h
  rw [h]
abbrev WEntry := ByteArray × Int × ByteArray
def WMap (w : World) (b : Nat) (L : List WEntry) : Prop :=
  ∃ (es : List MapEntry) (clock : Nat), w.heap[b]? = some (.map es.toArray clock) ∧ es.map (fun e => (e.key, e.val)) = L.map (fun x => (Value.string x.1, Value.agg #[.int .i64 x.2.1, .string x.2.2])) ∧ (L.map (·.1)).Nodup ∧ ∀ x ∈ L, x.1.size ≤ maxLen
def wfind (L : List WEntry) (s : ByteArray) : Int × ByteArray × Bool :=
  match L.find? (fun x => x.1.data == s.data) with
  | some x => (x.2.1, x.2.2, true)
  | none => (0, ByteArray.empty, false)
section
variable {w w1 : World} {b : Nat} {L : List WEntry} {P : Program} {k e t : TypeId}
theorem WMap.made (w : World) : WMap (w.alloc (.map #[] 0)) w.heap.size [] :=
  ⟨[], 0, by simpa using (heap_alloc w (.map #[] 0)).1, rfl, List.nodup_nil, by simp⟩
theorem WMap.lt (h : WMap w b L) : b < w.heap.size := by
  obtain ⟨es, clock, hb, _⟩ := h
  exact (Array.getElem?_eq_some_iff.1 hb).1
theorem WMap.keep (h : WMap w b L) (hb : w1.heap[b]? = w.heap[b]?) : WMap w1 b L := by
  obtain ⟨es, clock, h1, h2⟩ := h
  exact ⟨es, clock, hb.trans h1, h2⟩
theorem WMap.below (h : WMap w b L) (hb : Below w.heap.size w w1) : WMap w1 b L := h.keep (hb.block b h.lt)
theorem WMap.ne (h : WMap w b L) {g : Nat} {cs : Array Value} {t : TypeId} {fr : Nat × Nat} (hb : w.heap[g]? = some (.cells cs t fr)) : g ≠ b := by
  rintro rfl
  obtain ⟨es, clock, h1, h2⟩ := h
  rw [h1] at hb
  cases hb
theorem keyOf_str (hk : P.underlying k = some .string) {s : ByteArray} (hs : s.size ≤ maxLen) : keyOf P k (.string s) = some (.string s.data.toList) := by
  simp [keyOf, mapKey, hk, hs]
theorem WMap.keys (hk : P.underlying k = some .string) {es : List MapEntry} (h2 : es.map (fun e => (e.key, e.val)) = L.map (fun x => (Value.string x.1, Value.agg #[.int .i64 x.2.1, .string x.2.2]))) (h4 : ∀ x ∈ L, x.1.size ≤ maxLen) : ∀ y ∈ es, (∃ l, keyOf P k y.key = some l) ∧ ∃ x ∈ L, y.key = .string x.1 ∧ y.val = .agg #[.int .i64 x.2.1, .string x.2.2] := by
  intro y hy
  have hm : (y.key, y.val) ∈ L.map (fun x => (Value.string x.1, Value.agg #[.int .i64 x.2.1, .string x.2.2])) := by
    rw [← h2]
    exact List.mem_map.2 ⟨y, hy, rfl⟩
  obtain ⟨x, hx, he⟩ := List.mem_map.1 hm
  injection he with he1 he2
  exact ⟨⟨_, by rw [← he1]; exact keyOf_str hk (h4 x hx)⟩, x, hx, he1.symm, he2.symm⟩
theorem wfind_mem (hn : (L.map (·.1)).Nodup) {x : WEntry} (hx : x ∈ L) : wfind L x.1 = (x.2.1, x.2.2, true) := by
  unfold wfind
  have h : L.find? (fun y => y.1.data == x.1.data) = some x := by
    induction L with
    | nil => cases hx
    | cons y L ih =>
      simp only [List.map_cons, List.nodup_cons] at hn
      rw [List.find?_cons]
      rcases List.mem_cons.1 hx with rfl | hx
      · simp
      · have hne : ¬ y.1.data = x.1.data := fun e1 => hn.1 (ba_ext e1 ▸ List.mem_map.2 ⟨x, hx, rfl⟩)
        simp only [beq_eq_false_iff_ne.2 hne]
        exact ih hn.2 hx
  rw [h]
theorem wfind_none {s : ByteArray} (h : ∀ x ∈ L, x.1 ≠ s) : wfind L s = (0, ByteArray.empty, false) := by
  unfold wfind
  rw [List.find?_eq_none.2 (fun x hx => by simpa using fun e1 => h x hx (ba_ext e1))]
/-- What a look-up with 'ok' answers. -/
theorem WMap.look (h : WMap w b L) (hk : P.underlying k = some .string) (ht : P.underlying t = some (.map k e)) (hz : (zeroValue e).run P w = .ok (.agg #[.int .i64 0, .string ByteArray.empty]) w) {s : ByteArray} (hs : s.size ≤ maxLen) :
    (Instr.lookup t (.map (some b)) (.string s) true).run P w = .ok (.tuple #[.agg #[.int .i64 (wfind L s).1, .string (wfind L s).2.1], .bool (wfind L s).2.2]) w := by
  obtain ⟨es, clock, hb, h2, h3, h4⟩ := h
  have K := string_law hk
  have hkey := keyOf_str hk hs
  have hK := WMap.keys hk h2 h4
  rcases K.find w hkey es (fun y hy => (hK y hy).1) with ⟨f1, f2⟩ | ⟨j, e0, f1, f2, f3⟩
  · have hno : ∀ x ∈ L, x.1 ≠ s := by
      intro x hx e1
      have hm : (Value.string x.1, Value.agg #[.int .i64 x.2.1, .string x.2.2]) ∈ es.map (fun e => (e.key, e.val)) := by
        rw [h2]
        exact List.mem_map.2 ⟨x, hx, rfl⟩
      obtain ⟨y, hy, he⟩ := List.mem_map.1 hm
      injection he with he1 _
      exact f2 y hy (by rw [he1, e1])
    rw [wfind_none hno]
    simp [Instr.lookup, run_underlying ht, MapKept.run_getObj_map hb, K.check w _ hkey, f1, hz, Result.andThen]
  · obtain ⟨_, x, hx, h5, h6⟩ := hK e0 (List.mem_of_getElem? f2)
    have hxs : x.1 = s := by
      rw [h5] at f3
      injection f3
    rw [← hxs, wfind_mem h3 hx]
    rw [← hxs] at f1 hkey
    simp [Instr.lookup, run_underlying ht, MapKept.run_getObj_map hb, K.check w _ hkey, f1, Result.andThen, h6]
/-- A store of a word that is not yet there. -/
theorem WMap.store (h : WMap w b L) (hk : P.underlying k = some .string) (ht : P.underlying t = some (.map k e)) {s : ByteArray} (hs : s.size ≤ maxLen) (hn : s ∉ L.map (·.1)) (n : Int) (d : ByteArray) :
    ∃ w', (Instr.mapUpdate t (.map (some b)) (.string s) (.agg #[.int .i64 n, .string d])).run P w = .ok () w' ∧ WMap w' b (L ++ [(s, n, d)]) ∧ w.grownBy w' (some b) ∧ w'.heap.size = w.heap.size := by
  obtain ⟨es, clock, hb, h2, h3, h4⟩ := h
  have K := string_law hk
  have hkey := keyOf_str hk hs
  have hK := WMap.keys hk h2 h4
  have hlt : b < w.heap.size := (Array.getElem?_eq_some_iff.1 hb).1
  rcases K.find w hkey es (fun y hy => (hK y hy).1) with ⟨f1, f2⟩ | ⟨j, e0, f1, f2, f3⟩
  · refine ⟨setBlock w b (.map (es.toArray.push ⟨.string s, .agg #[.int .i64 n, .string d], clock⟩) (clock + 1)), ?_, ⟨es ++ [⟨.string s, .agg #[.int .i64 n, .string d], clock⟩], clock + 1, ?_, ?_, ?_, ?_⟩, ⟨rfl, rfl, rfl, by simp [setBlock], fun i hi hne => ?_⟩, by simp [setBlock]⟩
    · simp [Instr.mapUpdate, run_underlying ht, MapKept.run_getObj_map hb, K.check w _ hkey, f1, MapKept.run_setObj_map _ hb, Result.andThen, setBlock]
    · simp only [setBlock]
      rw [Array.getElem?_setIfInBounds_self_of_lt hlt]
      simp
    · simp [h2]
    · rw [List.map_append]
      exact List.nodup_append.2 ⟨h3, by simp, fun a ha c hc e1 => by
        simp only [List.map_cons, List.map_nil, List.mem_singleton] at hc
        exact hn (hc ▸ e1 ▸ ha)⟩
    · intro x hx
      rcases List.mem_append.1 hx with hx | hx
      · exact h4 x hx
      · simp only [List.mem_singleton] at hx
        subst hx
        exact hs
    · simp only [setBlock]
      rw [Array.getElem?_setIfInBounds_ne]
      intro e1
      exact hne (by rw [e1])
  · exfalso
    obtain ⟨_, x, hx, h5, h6⟩ := hK e0 (List.mem_of_getElem? f2)
    refine hn (List.mem_map.2 ⟨x, hx, ?_⟩)
    rw [h5] at f3
    injection f3
/-- The store at the operation, for the walk. -/
theorem WMap.at_store {ops : Array Oper} {rest : List Oper} {o : Oper} {a : Act} {Q : Exit → Act → World → Prop}
    (hg : o.guard = none) (m x v : Operand) (t : TypeId) (hop : o.op = Op.mapUpdate t m x v) (hk : P.underlying k = some .string) (ht : P.underlying t = some (.map k e)) (h : WMap w b L) (hm : a.eval m = .map (some b))
    (s d : ByteArray) (n : Int) (hx : a.eval x = .string s) (hv : a.eval v = .agg #[.int .i64 n, .string d]) (hs : s.size ≤ maxLen) (hn : s ∉ L.map (·.1))
    (hK : ∀ w', WMap w' b (L ++ [(s, n, d)]) → w.grownBy w' (some b) → wpList P ops Q rest (a.put o.dst undef) w') :
    wpList P ops Q (o :: rest) a w := by
  refine wpList_plain hg fun K' hK' => ?_
  obtain ⟨w', hrun, r1, r2, _⟩ := h.store (t := t) hk ht hs hn n d
  unfold Oper.wp
  simp [execOp, hop, hm, hx, hv, hrun, Result.andThen]
  exact hK' _ _ (hK w' r1 r2)
/-- The look-up at the operation. -/
theorem WMap.at_look {ops : Array Oper} {rest : List Oper} {o : Oper} {a : Act} {Q : Exit → Act → World → Prop}
    (hg : o.guard = none) (m x : Operand) (t : TypeId) (hop : o.op = Op.lookup t m x true) (hk : P.underlying k = some .string) (ht : P.underlying t = some (.map k e)) (hz : (zeroValue e).run P w = .ok (.agg #[.int .i64 0, .string ByteArray.empty]) w) (h : WMap w b L) (hm : a.eval m = .map (some b))
    (s : ByteArray) (hx : a.eval x = .string s) (hs : s.size ≤ maxLen)
    (hK : wpList P ops Q rest (a.put o.dst (.tuple #[.agg #[.int .i64 (wfind L s).1, .string (wfind L s).2.1], .bool (wfind L s).2.2])) w) :
    wpList P ops Q (o :: rest) a w := by
  refine wpList_plain hg fun K' hK' => ?_
  have hrun := h.look (t := t) hk ht hz hs
  unfold Oper.wp
  simp [execOp, hop, hm, hx, hrun, Result.andThen]
  exact hK' _ _ hK
def wgot (needs : ByteArray) (F : List ByteArray) (K : List Int) : List WEntry := (F.zip K).map (fun x => (x.1, x.2, needs))
theorem wgot_length {needs : ByteArray} {F : List ByteArray} {K : List Int} (hK : F.length ≤ K.length) : (wgot needs F K).length = F.length := by
  simp only [wgot, List.length_map, List.length_zip]
  omega
theorem wgot_keys {needs : ByteArray} {F : List ByteArray} {K : List Int} (hK : F.length ≤ K.length) : (wgot needs F K).map (·.1) = F := by
  simp only [wgot, List.map_map, Function.comp_def]
  exact List.map_fst_zip hK
theorem wgot_next {needs : ByteArray} {F : List ByteArray} {K : List Int} (hnd : (L.map (·.1) ++ F).Nodup) (hK : F.length ≤ K.length) {i : Nat} (hi : i < F.length) :
    F.getD i ByteArray.empty ∉ (L ++ (wgot needs F K).take i).map (·.1) ∧ (L ++ (wgot needs F K).take i) ++ [(F.getD i ByteArray.empty, K.getD i 0, needs)] = L ++ (wgot needs F K).take (i + 1) := by
  have hF : F.getD i ByteArray.empty = F[i] := by simp [List.getD, hi]
  have hKi : K.getD i 0 = K[i] := by simp [List.getD, show i < K.length by omega]
  obtain ⟨n1, n2, n3⟩ := List.nodup_append.1 hnd
  constructor
  · rw [List.map_append, List.map_take, wgot_keys hK, hF]
    intro hm
    rcases List.mem_append.1 hm with hm | hm
    · exact n3 _ hm _ (List.getElem_mem hi) rfl
    · obtain ⟨j, hj, he⟩ := List.mem_take_iff_getElem.1 hm
      have := (List.getElem_inj n2).1 he
      omega
  · rw [List.append_assoc, List.take_add_one, List.getElem?_eq_getElem (by rw [wgot_length hK]; exact hi), hF, hKi]
    simp [wgot]
theorem WMap.cell_ne (h : WMap w b L) {p : Addr} {v : Value} (hc : w.cell? p = some v) : some p.block ≠ some b := by
  intro e1
  injection e1 with e1
  obtain ⟨es, clock, h1, _⟩ := h
  rw [← e1] at h1
  simp [World.cell?, h1] at hc
theorem fields_cell (w : World) (F : List ByteArray) (t : TypeId) (i : Nat) (hi : i < F.length) : (w.alloc (.cells (F.map fun l => Value.string l).toArray t)).cell? ⟨w.heap.size, i, none⟩ = some (.string (F.getD i ByteArray.empty)) := by
  have h := (heap_alloc w (.cells (F.map fun l => Value.string l).toArray t)).1
  unfold World.cell?
  simp only [h]
  simp [List.getD, hi]
theorem below_grow_ {w0 : World} (h : Below w0.heap.size w0 w) (os : Array Obj) : Below w0.heap.size w0 (Go.Sort.grow w os) :=
  ⟨h.os, h.tape, h.output, by have := h.size; rw [Go.Sort.size_grow]; omega, fun i hi => (Go.Sort.heap_grow_old w os (Nat.lt_of_lt_of_le hi h.size)).trans (h.block i hi)⟩
/-- What the walks read of the library's variables. -/
structure Tabs (w : World) : Prop where
  sp : Lib.TabIs Go.Proofs.Tryd.prog w "strings.asciiSpace" .u8 Lib.asciiSpaceTab
  pw : Lib.TabIs Go.Proofs.Tryd.prog w "internal/strconv.uint64pow10" .u64 Lib.pow10Tab
  es : ∃ t p, w.cell? ⟨3, 0, none⟩ = some (.iface t p)
  er : ∃ t p, w.cell? ⟨4, 0, none⟩ = some (.iface t p)
theorem tab_keep {n : String} {kd : IntKind} {zs : List Int} (h : Lib.TabIs P w n kd zs) (hb : ∀ i, i < w.heap.size → (∀ es c, w.heap[i]? ≠ some (.map es c)) → w1.heap[i]? = w.heap[i]?) : Lib.TabIs P w1 n kd zs := by
  unfold Lib.TabIs World.var? at *
  cases hg : P.globalNamed n with
  | none => simp [hg] at h
  | some g =>
    simp only [hg, Option.bind_some] at h ⊢
    cases hw : w.heap[g]? with
    | none => simp [hw] at h
    | some o =>
      rw [hb g (Array.getElem?_eq_some_iff.1 hw).1 (fun es c e1 => by rw [e1] at h; cases h)]
      exact h
theorem cell_keep {p : Addr} {t : TypeId} {v : Value} (h : w.cell? p = some (.iface t v)) (hb : ∀ i, i < w.heap.size → (∀ es c, w.heap[i]? ≠ some (.map es c)) → w1.heap[i]? = w.heap[i]?) : w1.cell? p = some (.iface t v) := by
  rw [World.cell?_of_block (hb p.block (World.block_lt_of_cell? w p h) (fun es c e1 => ?_))]
  · exact h
  · simp [World.cell?, e1] at h
theorem Tabs.keep (h : Tabs w) (hb : ∀ i, i < w.heap.size → (∀ es c, w.heap[i]? ≠ some (.map es c)) → w1.heap[i]? = w.heap[i]?) : Tabs w1 := by
  obtain ⟨t1, p1, h1⟩ := h.es
  obtain ⟨t2, p2, h2⟩ := h.er
  exact ⟨tab_keep h.sp hb, tab_keep h.pw hb, ⟨t1, p1, cell_keep h1 hb⟩, ⟨t2, p2, cell_keep h2 hb⟩⟩
theorem Tabs.below (h : Tabs w) (hb : Below w.heap.size w w1) : Tabs w1 := h.keep (fun i hi _ => hb.block i hi)
theorem Tabs.grown (h : Tabs w) (hg : w.grownBy w1 (some b)) (hm : WMap w b L) : Tabs w1 := h.keep (fun i hi hno => hg.block i hi (fun e1 => by
  injection e1 with e1
  subst e1
  obtain ⟨es, clock, h1, _⟩ := hm
  exact hno _ _ h1))
/-- What stands while the words are stored. -/
structure WSt (w0 w : World) (pb mb : Nat) (L : List WEntry) : Prop where
  tabs : Tabs w
  cell : w.cell? ⟨pb, 0, none⟩ = some (.map (some mb))
  map : WMap w mb L
  below : Below w0.heap.size w0 w
  ge : w0.heap.size ≤ mb
theorem WSt.step {w0 w : World} {pb mb : Nat} (h : WSt w0 w pb mb L) (o : Obj) : WSt w0 (w.alloc o) pb mb L :=
  have hb := below_alloc (Below.refl w.heap.size w) o
  ⟨h.tabs.below hb, pw_cell_below hb h.cell, h.map.below hb, below_step h.below hb, h.ge⟩
theorem WSt.next {w0 w w1 : World} {pb mb : Nat} {L1 : List WEntry} (h : WSt w0 w pb mb L) (hm : WMap w1 mb L1) (hg : w.grownBy w1 (some mb)) : WSt w0 w1 pb mb L1 :=
  ⟨h.tabs.grown hg h.map, hg.cell h.cell (h.map.cell_ne h.cell), hm, h.below.grown hg h.below.size (fun k e1 => by
    injection e1 with e1
    subst e1
    exact h.ge), h.ge⟩
theorem WSt.made {w : World} (hT : Tabs w) (t : TypeId) : WSt w ((w.alloc (.map #[] 0)).alloc (.cells #[.map (some w.heap.size)] t)) (w.heap.size + 1) w.heap.size [] := by
  have b1 := below_alloc (Below.refl w.heap.size w) (.map #[] 0)
  have b2 := below_alloc (Below.refl _ (w.alloc (.map #[] 0))) (.cells #[.map (some w.heap.size)] t)
  have h3 := (heap_alloc (w.alloc (.map #[] 0)) (.cells #[.map (some w.heap.size)] t)).1
  refine ⟨(hT.below b1).below b2, ?_, (WMap.made w).below b2, below_step b1 b2, Nat.le_refl _⟩
  rw [show (w.alloc (.map #[] 0)).heap.size = w.heap.size + 1 from by simp] at h3
  unfold World.cell?
  simp only [h3]
  rfl
theorem wfill2 {w : World} {g t : Nat} {z0 z1 : Value} (h : w.heap[g]? = some (.cells #[z0, z1] t (0, 0))) (v0 v1 : Value) : ((w.setCell ⟨g, 0, none⟩ v0).setCell ⟨g, 1, none⟩ v1).heap[g]? = some (.cells #[v0, v1] t (0, 0)) ∧ (∀ k, k ≠ g → ((w.setCell ⟨g, 0, none⟩ v0).setCell ⟨g, 1, none⟩ v1).heap[k]? = w.heap[k]?) ∧ (∀ w0 : World, Below w0.heap.size w0 w → w0.heap.size ≤ g → Below w0.heap.size w0 ((w.setCell ⟨g, 0, none⟩ v0).setCell ⟨g, 1, none⟩ v1)) :=
  ⟨(blk_put (cs' := #[v0, v1]) (blk_put (cs' := #[v0, z1]) h 0 v0 rfl) 1 v1 rfl), fun k hk => ((Below.heap_setCell _ ⟨g, 1, none⟩ v1 k hk).trans (Below.heap_setCell _ ⟨g, 0, none⟩ v0 k hk)), fun w0 hB hg => (below_set (below_set hB hg) hg)⟩
theorem wfill6 {w : World} {g t : Nat} {z0 z1 z2 z3 z4 z5 : Value} (h : w.heap[g]? = some (.cells #[z0, z1, z2, z3, z4, z5] t (0, 0))) (v0 v1 v2 v3 v4 v5 : Value) : ((((((w.setCell ⟨g, 0, none⟩ v0).setCell ⟨g, 1, none⟩ v1).setCell ⟨g, 2, none⟩ v2).setCell ⟨g, 3, none⟩ v3).setCell ⟨g, 4, none⟩ v4).setCell ⟨g, 5, none⟩ v5).heap[g]? = some (.cells #[v0, v1, v2, v3, v4, v5] t (0, 0)) ∧ (∀ k, k ≠ g → ((((((w.setCell ⟨g, 0, none⟩ v0).setCell ⟨g, 1, none⟩ v1).setCell ⟨g, 2, none⟩ v2).setCell ⟨g, 3, none⟩ v3).setCell ⟨g, 4, none⟩ v4).setCell ⟨g, 5, none⟩ v5).heap[k]? = w.heap[k]?) ∧ (∀ w0 : World, Below w0.heap.size w0 w → w0.heap.size ≤ g → Below w0.heap.size w0 ((((((w.setCell ⟨g, 0, none⟩ v0).setCell ⟨g, 1, none⟩ v1).setCell ⟨g, 2, none⟩ v2).setCell ⟨g, 3, none⟩ v3).setCell ⟨g, 4, none⟩ v4).setCell ⟨g, 5, none⟩ v5)) :=
  ⟨(blk_put (cs' := #[v0, v1, v2, v3, v4, v5]) (blk_put (cs' := #[v0, v1, v2, v3, v4, z5]) (blk_put (cs' := #[v0, v1, v2, v3, z4, z5]) (blk_put (cs' := #[v0, v1, v2, z3, z4, z5]) (blk_put (cs' := #[v0, v1, z2, z3, z4, z5]) (blk_put (cs' := #[v0, z1, z2, z3, z4, z5]) h 0 v0 rfl) 1 v1 rfl) 2 v2 rfl) 3 v3 rfl) 4 v4 rfl) 5 v5 rfl), fun k hk => ((Below.heap_setCell _ ⟨g, 5, none⟩ v5 k hk).trans ((Below.heap_setCell _ ⟨g, 4, none⟩ v4 k hk).trans ((Below.heap_setCell _ ⟨g, 3, none⟩ v3 k hk).trans ((Below.heap_setCell _ ⟨g, 2, none⟩ v2 k hk).trans ((Below.heap_setCell _ ⟨g, 1, none⟩ v1 k hk).trans (Below.heap_setCell _ ⟨g, 0, none⟩ v0 k hk)))))), fun w0 hB hg => (below_set (below_set (below_set (below_set (below_set (below_set hB hg) hg) hg) hg) hg) hg)⟩
theorem rd_mem_ {xs : List ByteArray} {i : Int} (h : 0 ≤ i ∧ i < (xs.length : Int)) : rdOf ByteArray.empty xs i ∈ xs := by
  unfold rdOf
  rw [List.getD_eq_getElem?_getD, List.getElem?_eq_getElem (by omega)]
  exact List.getElem_mem _
theorem add_at_ {w : World} {a : Addr} {i : Nat} {v : Value} (h : w.cell? (a.add (i + 2)) = some v) : w.cell? ⟨a.block, a.off + 2 + i, none⟩ = some v := by
  rw [Addr.add, if_neg (by omega)] at h
  rw [show a.off + 2 + i = a.off + (i + 2) by omega]
  exact h
theorem add_eq_ {a : Addr} : (some a).map (·.add (2 * 1)) = some (⟨a.block, a.off + 2, none⟩ : Addr) := rfl
theorem byte_at_ {s : ByteArray} {i : Nat} (h : i < s.size) : s[i] = s.data.toList.getD i 0 := by
  have h' : i < s.data.size := h
  rw [List.getD_eq_getElem?_getD, Array.getElem?_toList, Array.getElem?_eq_getElem h']
  rfl
theorem cell_far_ {w : World} {a p : Addr} {v u : Value} (h : w.cell? a = some v) (hne : a.block ≠ p.block) : (w.setCell p u).cell? a = some v :=
  (World.cell?_of_block (Below.heap_setCell w p u a.block hne)).trans h
theorem kinds_cell (w : World) (K : List Int) (t : TypeId) (i : Nat) (hi : i < K.length) : (w.alloc (.cells (K.map fun l => Value.int .i64 l).toArray t)).cell? ⟨w.heap.size, i, none⟩ = some (.int .i64 (K.getD i 0)) := by
  have h := (heap_alloc w (.cells (K.map fun l => Value.int .i64 l).toArray t)).1
  unfold World.cell?
  simp only [h]
  simp [List.getD, hi]
theorem ascii_of {l : List UInt8} (h : l.all (fun b => decide (b.toNat < 128)) = true) (j : Nat) (b : UInt8) (hb : l[j]? = some b) : b.toNat < 128 := by
  have := List.all_eq_true.1 h b (List.mem_of_getElem? hb)
  simpa using this
end
end Go.Proofs.YtkjjlkkfhbfbmaaDoor.Q
