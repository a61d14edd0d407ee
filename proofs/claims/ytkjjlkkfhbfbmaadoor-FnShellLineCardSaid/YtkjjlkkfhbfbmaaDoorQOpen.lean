/- From a row's reading of an argument of any type made of whole numbers, bools, strings, structs and slices to the print's kinds: 'Opens P t d ok' says that whatever reads at type t is of kind d and within its bounds. -/
import Derived.Test.YtkjjlkkfhbfbmaaDoorV
import Derived.SizedLaws
import Derived.ChangeSlices
import Derived.ChangeArms
import Derived.DataReads
import Derived.Deep.Slices
namespace Go.Proofs.YtkjjlkkfhbfbmaaDoor.Q
open Go.ChangeShapes Go.WideShapes Go.Proofs.YtkjjlkkfhbfbmaaDoorW.PrintWords
set_option linter.unusedVariables false

def okI (k : IntKind) (n : Int) : Prop := (Lit.int k n).wf = true
def okB (_ : Bool) : Prop := True
def okS (s : ByteArray) : Prop := s.size ≤ 140737488351232
def okL {α : Type} (B : Nat) (ok : α → Prop) (l : List α) : Prop := l.length ≤ 9223372036854775807 ∧ l.length * B ≤ 140737488351232 ∧ ∀ x ∈ l, ok x

/-- All weights of a datum are within the reach. -/
def Small {H : Type} (P : Program) (t : TypeId) (x : DataW H) : Prop := ∀ n ∈ DataW.weights P t x, n ≤ reachBytes

theorem Small.of_all {H : Type} {P : Program} {ts : List TypeId} {ds : List (DataW H)} {j : Nat} {t : TypeId} {d : DataW H} (h : (DataW.weightsEach P ts ds).all (· ≤ reachBytes) = true) (ht : ts[j]? = some t) (hd : ds[j]? = some d) : Small P t d := by
  intro n hn
  have := List.all_eq_true.1 h _ (DataW.weights_mem_each ht hd n hn)
  simpa using this

structure Opens (P : Program) (t : TypeId) {α : Type} (d : Kd α) (ok : α → Prop) : Prop where
  sz : P.cellsOf t = d.sz
  op : ∀ {H : Type} {enc : TypeId × Value → H} {W : World} {base : Nat} {spare : Nat → Bool} {held : Bool} {fuel : Nat} {cs : List Value} {x : DataW H} {ps : List MemPlace},
    DataW.trod enc P W base spare held fuel t cs = some (x, ps) → Small P t x → ∃ a, d.K W a cs ∧ ok a

theorem Opens.int {P : Program} {t : TypeId} {k : IntKind} (ht : P.underlying t = some (.int k)) (hc : P.cellsOf t = 1) : Opens P t (Kd.int k) (okI k) := by
  refine ⟨hc, ?_⟩
  intro H enc W base spare held fuel cs x ps h _
  obtain ⟨n, rfl, _, hw⟩ := DataW.trod_int ht h
  exact ⟨n, rfl, hw⟩
theorem Opens.bool {P : Program} {t : TypeId} (ht : P.underlying t = some .bool) (hc : P.cellsOf t = 1) : Opens P t Kd.bool okB := by
  refine ⟨hc, ?_⟩
  intro H enc W base spare held fuel cs x ps h _
  obtain ⟨b, rfl, _⟩ := DataW.trod_bool ht h
  exact ⟨b, rfl, trivial⟩
theorem Opens.string {P : Program} {t : TypeId} (ht : P.underlying t = some .string) (hc : P.cellsOf t = 1) : Opens P t Kd.string okS := by
  refine ⟨hc, ?_⟩
  intro H enc W base spare held fuel cs x ps h hs
  obtain ⟨s, rfl, hx, _⟩ := DataW.trod_string ht h
  refine ⟨s, rfl, ?_⟩
  obtain ⟨rfl, _⟩ := Prod.mk.inj hx
  have := hs s.data.toList.length (by simp [DataW.weights])
  rw [Array.length_toList] at this
  exact this

theorem weightsAll_mem {H : Type} {P : Program} {e : TypeId} : ∀ {ds : List (DataW H)} {d : DataW H}, d ∈ ds → ∀ n ∈ d.weights P e, n ∈ DataW.weightsAll P e ds
  | d0 :: ds, d, hd, n, hn => by
    simp only [DataW.weightsAll, List.mem_append]
    rcases List.mem_cons.1 hd with rfl | hd
    · exact .inl hn
    · exact .inr (weightsAll_mem hd n hn)

theorem Opens.slice {P : Program} {t e : TypeId} {α : Type} {d : Kd α} {ok : α → Prop} {B : Nat} (ht : P.underlying t = some (.slice e)) (hc : P.cellsOf t = 1) (hB : P.bytesOf e = B) (he : Opens P e d ok) :
    Opens P t (Kd.slice e d) (okL B ok) := by
  refine ⟨hc, ?_⟩
  intro H enc W base spare held fuel cs x ps h hs
  rcases Go.Deep.open_slice ht h with ⟨rfl, _⟩ | ⟨a, len, cap, m, n, D, Pl, rfl, hb, hl, hm, hmm, hx, hel⟩
  · refine ⟨[], ⟨none, 0, rfl, Nat.le_refl _, rfl, by simp, fun h => absurd h (by simp)⟩, ?_⟩
    exact ⟨by simp, by simp, by simp⟩
  · obtain ⟨rfl, _⟩ := Prod.mk.inj hx
    have hlm : len ≤ m := by rw [hmm]; split <;> omega
    have small : ∀ i, i < len → Small P e (D i) := by
      intro i hi n hn
      refine hs n ?_
      simp only [DataW.weights, ht, List.mem_cons, List.mem_append]
      refine .inr (.inl (weightsAll_mem (d := D i) ?_ n hn))
      exact List.mem_map.2 ⟨i, List.mem_range.2 hi, rfl⟩
    have each : ∀ i, i < len → ∃ y : α, ok y ∧ ∃ c, c.length = d.sz ∧ d.K W y c ∧ ∀ j u, c[j]? = some u → W.cell? (a.add (i * d.sz + j)) = some u := by
      intro i hi
      obtain ⟨c, h1, h2⟩ := hel i (by omega)
      obtain ⟨y, hK, hok⟩ := he.op h2 (small i hi)
      rw [he.sz] at h1
      obtain ⟨_, hlen, hcell⟩ := World.cells?_some h1
      refine ⟨y, hok, c, d.K_len hK, hK, fun j u hj => ?_⟩
      have hj' : j < d.sz := by
        have := (List.getElem?_eq_some_iff.1 hj).1
        omega
      have := hcell j hj'
      rw [hj, Go.Deep.add_add] at this
      exact this
    have hlist : ∀ q, q ≤ len → ∃ ys : List α, ys.length = q ∧ ∀ i y, ys[i]? = some y → ok y ∧ ∃ c, c.length = d.sz ∧ d.K W y c ∧ ∀ j u, c[j]? = some u → W.cell? (a.add (i * d.sz + j)) = some u := by
      intro q
      induction q with
      | zero => intro _; exact ⟨[], rfl, fun i y h => by simp at h⟩
      | succ q ih =>
        intro hq
        obtain ⟨ys, hy, hys⟩ := ih (by omega)
        obtain ⟨y, hok, hK⟩ := each q (by omega)
        refine ⟨ys ++ [y], by simp [hy], fun i z hz => ?_⟩
        rcases Nat.lt_or_ge i ys.length with hi | hi
        · rw [List.getElem?_append_left hi] at hz
          exact hys i z hz
        · have hi' : i = ys.length := by
            have := (List.getElem?_eq_some_iff.1 hz).1
            simp at this
            omega
          subst hi'
          have : y = z := by simpa using hz
          subst this
          rw [hy]
          exact ⟨hok, hK⟩
    obtain ⟨ys, hy, hys⟩ := hlist len (Nat.le_refl _)
    have hml : len ≤ 9223372036854775807 := by simp only [maxLen] at hm; omega
    refine ⟨ys, ⟨some a, cap, by rw [hy], by omega, rfl, by omega, fun _ => ⟨a, rfl, fun j p hj => ?_⟩⟩, by omega, ?_, ?_⟩
    · obtain ⟨_, c, h1, h2, h3⟩ := hys j p hj
      exact ⟨c, h1, h2, h3⟩
    · have := hs ((List.map D (List.range len)).length + (List.map (fun j => D (len + j)) (List.range (m - len))).length * 1 |> fun k => k * P.bytesOf e) (by
        simp only [DataW.weights, ht, List.mem_cons]
        exact .inl (by simp))
      have hr : reachBytes = 140737488351232 := rfl
      rw [hr] at this
      simp at this
      rw [hB] at this
      rw [hy]
      refine Nat.le_trans (Nat.mul_le_mul_right _ ?_) this
      omega
    · intro y hy'
      obtain ⟨i, hi, rfl⟩ := List.getElem_of_mem hy'
      exact (hys i _ (List.getElem?_eq_getElem hi)).1

/-- The fields of a struct from one cell on. -/
structure OpensF (P : Program) (fs : List Field) (off : Nat) {α : Type} (d : Kd α) (ok : α → Prop) : Prop where
  op : ∀ {H : Type} {enc : TypeId × Value → H} {W : World} {base : Nat} {spare : Nat → Bool} {held : Bool} {fuel : Nat} {cs : List Value} {xs : List (DataW H × List MemPlace)},
    cs.length = off + d.sz → xs.length = fs.length → (∀ (i : Nat) (f : Field), fs[i]? = some f → DataW.trod enc P W base spare held fuel f.type ((cs.drop f.offset).take (P.cellsOf f.type)) = xs[i]?) →
    (∀ (i : Nat) (f : Field) x, fs[i]? = some f → xs[i]? = some x → Small P f.type x.1) → ∃ a, d.K W a (cs.drop off) ∧ ok a

theorem OpensF.one {P : Program} {f : Field} {off : Nat} {α : Type} {d : Kd α} {ok : α → Prop} (ho : f.offset = off) (h : Opens P f.type d ok) : OpensF P [f] off d ok := by
  refine ⟨?_⟩
  intro H enc W base spare held fuel cs xs hl hx ht hs
  match xs, hx with
  | [y], _ =>
    have h0 := ht 0 f rfl
    rw [ho, h.sz] at h0
    have e : (cs.drop off).take d.sz = cs.drop off := List.take_of_length_le (by rw [List.length_drop]; omega)
    rw [e] at h0
    exact h.op (x := y.1) (ps := y.2) h0 (hs 0 f y rfl rfl)
theorem OpensF.cons {P : Program} {f : Field} {fs : List Field} {off off' : Nat} {α β : Type} {a : Kd α} {b : Kd β} {oka : α → Prop} {okb : β → Prop} (ho : f.offset = off) (ho' : off' = off + a.sz) (h : Opens P f.type a oka) (hf : OpensF P fs off' b okb) :
    OpensF P (f :: fs) off (Kd.pair a b) (fun p => oka p.1 ∧ okb p.2) := by
  subst ho'
  refine ⟨?_⟩
  intro H enc W base spare held fuel cs xs hl hx ht hs
  match xs, hx with
  | y :: ys, hx =>
    have hsz : (Kd.pair a b).sz = a.sz + b.sz := rfl
    have h0 := ht 0 f rfl
    rw [ho, h.sz] at h0
    obtain ⟨p, hp, okp⟩ := h.op (x := y.1) (ps := y.2) h0 (hs 0 f y rfl rfl)
    obtain ⟨q, hq, okq⟩ := hf.op (cs := cs) (xs := ys) (by rw [hl, hsz]; omega) (by simpa using hx) (fun i g hg => by simpa using ht (i + 1) g (by simpa using hg)) (fun i g x hg hx => hs (i + 1) g x (by simpa using hg) (by simpa using hx))
    refine ⟨(p, q), ⟨(cs.drop off).take a.sz, cs.drop (off + a.sz), ?_, hp, hq⟩, okp, okq⟩
    rw [← List.drop_drop]
    exact (List.take_append_drop _ _).symm
theorem Opens.struct {P : Program} {t : TypeId} {fs : Array Field} {α β : Type} {d : Kd α} {ok : α → Prop} {okb : β → Prop} {f : β → α} (g : α → β) (hg : ∀ a, f (g a) = a) (hok : ∀ a, ok a → okb (g a)) (ht : P.underlying t = some (.struct fs)) (hc : P.cellsOf t = d.sz) (hf : OpensF P fs.toList 0 d ok) :
    Opens P t (Kd.iso d f) okb := by
  refine ⟨hc, ?_⟩
  intro H enc W base spare held fuel cs x ps h hs
  obtain ⟨xs, n, _, hx, hl, hlen, hf'⟩ := DataW.trod_struct ht h
  obtain ⟨rfl, _⟩ := Prod.mk.inj hx
  obtain ⟨a, hK, oka⟩ := hf.op (cs := cs) (xs := xs) (by rw [hl, hc]; omega) (by simpa using hlen) (fun i f hi => hf' i f (by simpa using hi)) (fun i f y hi hy m hm => by
    refine hs m ?_
    simp only [DataW.weights, ht]
    exact DataW.weights_mem_each (j := i) (t := f.type) (d := y.1) (by simp [hi]) (by simp [hy]) m hm)
  rw [List.drop_zero] at hK
  exact ⟨g a, (show d.K W (f (g a)) cs by rw [hg]; exact hK), hok a oka⟩
end Go.Proofs.YtkjjlkkfhbfbmaaDoor.Q
