/- File systems in plain words: the program's check and the reference's check agree. -/
import Derived.Test.YtlnlhpgghkkhaaaGreatDoorMach3
import Derived.Lib.Strings
namespace Go.Mach.Fv
set_option linter.unusedVariables false
set_option linter.unusedSimpArgs false
structure Entry where
  name : ByteArray
  id : Int
structure Inode where
  kind : Int
  mode : Int
  owner : Int
  group : Int
  links : Int
  opens : Int
  mark : Bool
  text : ByteArray
  names : List Entry
abbrev Fs := List Inode
structure Vfs where
  fss : List Fs
  mount : Int
structure Cred where
  user : Int
  real : Int
  groups : List Int
structure Place where
  fs : Int
  id : Int
  deriving DecidableEq
instance : Inhabited Entry := ⟨⟨⟨#[]⟩, 0⟩⟩
instance : Inhabited Inode := ⟨⟨0, 0, 0, 0, 0, 0, false, ⟨#[]⟩, []⟩⟩
instance : Inhabited Place := ⟨⟨0, 0⟩⟩
def N (f : Fs) (i : Int) : Inode := f.getD i.toNat default
def nE (n : Inode) (i : Nat) : Entry := n.names.getD i default
def lt (a b : ByteArray) : Bool := Op.bytesLess a.toList b.toList
def inR (n lo hi : Int) : Bool := decide (lo ≤ n) && decide (n ≤ hi)
theorem inR_iff {n lo hi : Int} : inR n lo hi = true ↔ lo ≤ n ∧ n ≤ hi := by simp [inR]
def okB (b : UInt8) : Bool := decide (97 ≤ b.toNat) && decide (b.toNat ≤ 122)
def nm (s : ByteArray) : Bool := decide (1 ≤ s.toList.length) && (decide (s.toList.length ≤ 3) && s.toList.all okB)
def allF (p : Nat → Bool) : Nat → Nat → Bool
  | _, 0 => true
  | i, n + 1 => p i && allF p (i + 1) n
theorem allF_iff {p : Nat → Bool} : ∀ {n i : Nat}, allF p i n = true ↔ ∀ j, i ≤ j → j < i + n → p j = true
  | 0, i => by simp [allF]; intro j h1 h2; omega
  | n + 1, i => by
    simp only [allF, Bool.and_eq_true, allF_iff (n := n)]
    constructor
    · rintro ⟨h, h'⟩ j h1 h2
      by_cases e : j = i
      · subst e; exact h
      · exact h' j (by omega) (by omega)
    · intro h
      exact ⟨h i (by omega) (by omega), fun j h1 h2 => h j (by omega) (by omega)⟩
theorem all0 {p : Nat → Bool} {n : Nat} : allF p 0 n = true ↔ ∀ j, j < n → p j = true := by
  rw [allF_iff]; simp
def plain (n : Inode) : Bool := decide (n.kind = 0) && decide (n.mode = 0) && decide (n.owner = 0) && decide (n.group = 0) && decide (n.links = 0) && decide (n.opens = 0) && !n.mark && decide (n.text.size = 0) && decide (n.names.length = 0)
/-- an entry, as the reference asks -/
def entS (n : Inode) (i : Nat) : Bool := nm (nE n i).name && inR (nE n i).id 1 9 && (decide (i = 0) || lt (nE n (i - 1)).name (nE n i).name)
def entI (f : Fs) (n : Inode) (i : Nat) : Bool := nm (nE n i).name && inR (nE n i).id 0 9 && !decide ((N f (nE n i).id).kind = 0) && (decide (i = 0) || lt (nE n (i - 1)).name (nE n i).name)
def nodS (n : Inode) : Bool := if n.kind = 0 then plain n else
  inR n.kind 1 2 && inR n.mode 0 511 && inR n.owner 0 9 && inR n.group 0 9 && inR n.opens 0 99 && inR n.links 0 99 && decide (n.text.size ≤ 40) && decide (n.names.length ≤ 6) &&
  !(decide (n.kind = 2) && (!decide (n.text.size = 0) || n.mark)) && !(decide (n.kind = 1) && decide (0 < n.names.length)) && allF (entS n) 0 n.names.length
def nodI (f : Fs) (n : Inode) : Bool := if n.kind = 0 then plain n else
  inR n.kind 1 2 && inR n.mode 0 511 && inR n.owner 0 9 && inR n.group 0 9 && inR n.opens 0 99 &&
  !(decide (n.kind = 1) && (decide (40 < n.text.size) || decide (0 < n.names.length))) && !(decide (n.kind = 2) && (!decide (n.text.size = 0) || n.mark || decide (6 < n.names.length))) && allF (entI f n) 0 n.names.length
def ids (n : Inode) : List Int := n.names.map (·.id)
def edg (f : Fs) (j : Nat) : List (Int × Int) := (List.range j).flatMap fun (i : Nat) => (ids (N f i)).map fun k => (k, (i : Int))
def lk (es : List (Int × Int)) (k : Int) : Nat := (es.map (·.1)).count k
def ab (es : List (Int × Int)) (k : Int) : Int := es.foldl (fun a p => if p.1 = k then p.2 else a) 0
def kids (f : Fs) (i : Int) : List Int := (ids (N f i)).filter fun k => decide ((N f k).kind = 2)
def bfs (f : Fs) : Nat → List Int → List Int → List Int × Bool
  | 0, ms, _ => (ms, false)
  | n + 1, ms, [] => (ms, true)
  | n + 1, ms, i :: r => if i ∈ ms then (ms, false) else bfs f n (ms ++ [i]) (r ++ kids f i)
def finS (f : Fs) (ms : List Int) (k : Nat) : Bool := let n := N f k
  !(decide (0 < lk (edg f 10) k) && decide (n.kind = 0)) && !(!decide (n.kind = 0) && !decide (n.links = lk (edg f 10) k)) && !(decide (n.kind = 2) && !decide ((k : Int) ∈ ms)) && !(decide (n.kind = 1) && decide (n.links = 0) && decide (n.opens = 0))
def climb (ab : Int → Int) : Nat → Int → Bool
  | 0, k => decide (k = 0)
  | n + 1, k => if k = 0 then true else climb ab n (ab k)
def finI (f : Fs) (k : Nat) : Bool := let n := N f k
  if n.kind = 0 then true else decide (n.links = lk (edg f 10) k) && !(decide (n.kind = 1) && decide (n.links = 0) && decide (n.opens = 0)) && !(decide (n.kind = 2) && decide (0 < k) && !decide (n.links = 1)) && !(decide (k = 0) && !decide (n.links = 0)) &&
    (if n.kind = 2 then climb (ab (edg f 10)) 11 k else true)
def okS (f : Fs) : Bool := decide (f.length = 10) && allF (fun i => nodS (N f i)) 0 10 && decide ((N f 0).kind = 2) && (bfs f 11 [] [0]).2 && allF (finS f (bfs f 11 [] [0]).1) 0 10
def okI (f : Fs) : Bool := decide (f.length = 10) && decide ((N f 0).kind = 2) && allF (fun i => nodI f (N f i)) 0 10 && allF (finI f) 0 10
/-! sums over ten nodes -/
def S10 (g : Nat → Nat) : Nat := g 0 + g 1 + g 2 + g 3 + g 4 + g 5 + g 6 + g 7 + g 8 + g 9
theorem lk_edg (f : Fs) (k : Int) : lk (edg f 10) k = S10 fun i => (ids (N f i)).count k := by
  have : ∀ (l : List Int) (i : Int), ((l.map fun k => (k, i)).map (·.1)) = l := by
    intro l i; rw [List.map_map]; exact List.map_id' l |>.symm ▸ by simp [Function.comp_def]
  simp only [lk, edg, show List.range 10 = [0,1,2,3,4,5,6,7,8,9] from rfl, List.flatMap_cons, List.flatMap_nil, List.map_append, this, List.count_append, S10, List.append_nil]
  omega
theorem S10_le {g h : Nat → Nat} (H : ∀ i, i < 10 → g i ≤ h i) : S10 g ≤ S10 h := by
  have := H 0 (by omega); have := H 1 (by omega); have := H 2 (by omega); have := H 3 (by omega); have := H 4 (by omega)
  have := H 5 (by omega); have := H 6 (by omega); have := H 7 (by omega); have := H 8 (by omega); have := H 9 (by omega)
  unfold S10; omega
theorem S10_eq {g h : Nat → Nat} (H : ∀ i, i < 10 → g i = h i) : S10 g = S10 h := by
  have := H 0 (by omega); have := H 1 (by omega); have := H 2 (by omega); have := H 3 (by omega); have := H 4 (by omega)
  have := H 5 (by omega); have := H 6 (by omega); have := H 7 (by omega); have := H 8 (by omega); have := H 9 (by omega)
  unfold S10; omega
theorem S10_one {c : Nat → Nat} {g : Nat → Nat} {a : Nat} (ha : a < 10) : S10 (fun i => (if i = a then c i else 0) + g i) = c a + S10 g := by
  unfold S10
  match a, ha with
  | 0, _ | 1, _ | 2, _ | 3, _ | 4, _ | 5, _ | 6, _ | 7, _ | 8, _ | 9, _ => simp; omega
theorem S10_mem {g : Nat → Nat} {a : Nat} (ha : a < 10) : g a ≤ S10 g := by
  unfold S10
  match a, ha with
  | 0, _ | 1, _ | 2, _ | 3, _ | 4, _ | 5, _ | 6, _ | 7, _ | 8, _ | 9, _ => omega
def In10 (ms : List Int) : Prop := ∀ i ∈ ms, 0 ≤ i ∧ i < 10
theorem cnt_flat (c : Int → List Int) (k : Int) : ∀ (ms : List Int), ms.Nodup → In10 ms → (ms.flatMap c).count k = S10 fun i => if (i : Int) ∈ ms then (c i).count k else 0
  | [], _, _ => by simp [S10]
  | a :: ms, hn, hi => by
    obtain ⟨ha, hn⟩ := List.nodup_cons.1 hn
    have h0 := hi a (List.mem_cons_self ..)
    rw [List.flatMap_cons, List.count_append, cnt_flat c k ms hn (fun i h => hi i (List.mem_cons_of_mem _ h))]
    obtain ⟨b, rfl⟩ : ∃ b : Nat, a = (b : Int) := ⟨a.toNat, by omega⟩
    rw [← S10_one (c := fun i => (c i).count k) (a := b) (by omega)]
    refine S10_eq fun i hi => ?_
    by_cases e : i = b
    · subst e; simp [ha]
    · have : ¬ (i : Int) = (b : Int) := by omega
      simp [e, this]
theorem len_10 : ∀ (ms : List Int), ms.Nodup → In10 ms → ms.length ≤ 10 := by
  have h : ∀ (ms : List Int), ms.Nodup → In10 ms → ms.length = S10 fun i => if (i : Int) ∈ ms then 1 else 0 := by
    intro ms
    induction ms with
    | nil => intro _ _; simp [S10]
    | cons a ms ih =>
      intro hn' hi
      obtain ⟨ha, hn⟩ := List.nodup_cons.1 hn'
      have h0 := hi a (List.mem_cons_self ..)
      obtain ⟨b, rfl⟩ : ∃ b : Nat, a = (b : Int) := ⟨a.toNat, by omega⟩
      rw [List.length_cons, ih hn (fun i h => hi i (List.mem_cons_of_mem _ h)), Nat.add_comm, ← S10_one (c := fun _ => 1) (a := b) (by omega)]
      refine S10_eq fun i hi => ?_
      by_cases e : i = b
      · subst e; simp [ha]
      · have : ¬ (i : Int) = (b : Int) := by omega
        simp [e, this]
  intro ms hn hi
  rw [h ms hn hi]
  refine Nat.le_trans (S10_le (h := fun _ => 1) fun i _ => ?_) (by simp [S10])
  split <;> omega
/-! the search from the first folder -/
structure J (f : Fs) (ms todo : List Int) : Prop where
  eq : ms ++ todo = 0 :: ms.flatMap (kids f)
  nd : ms.Nodup
  ord : ∀ l k r, ms = l ++ k :: r → k = 0 ∨ ∃ i ∈ l, k ∈ kids f i
theorem J.start (f : Fs) : J f [] [0] := ⟨rfl, List.nodup_nil, fun l k r h => by simp at h⟩
theorem J.step {f : Fs} {ms r : List Int} {i : Int} (h : J f ms (i :: r)) (hi : i ∉ ms) : J f (ms ++ [i]) (r ++ kids f i) := by
  refine ⟨?_, ?_, ?_⟩
  · have := h.eq
    rw [List.flatMap_append, ← List.cons_append, ← this]
    simp
  · rw [List.nodup_append]
    exact ⟨h.nd, by simp, fun a ha b hb => by simp at hb; subst hb; intro e; subst e; exact hi ha⟩
  · intro l k r' e
    have hk : i = 0 ∨ ∃ a ∈ ms, i ∈ kids f a := by
      have : i ∈ ms ++ i :: r := by simp
      rw [h.eq] at this
      simpa using this
    rcases List.append_eq_append_iff.1 e with ⟨a, rfl, h2⟩ | ⟨a, rfl, h2⟩
    · cases a with
      | nil =>
        simp only [List.nil_append, List.cons.injEq] at h2
        obtain ⟨rfl, _⟩ := h2
        simpa using hk
      | cons b a => simp at h2
    · cases a with
      | nil =>
        simp only [List.nil_append, List.cons.injEq] at h2
        obtain ⟨rfl, _⟩ := h2
        simpa using hk
      | cons b a =>
        simp only [List.cons_append, List.cons.injEq] at h2
        obtain ⟨rfl, h2⟩ := h2
        exact h.ord l k a rfl
theorem bfs_end {f : Fs} (hk : ∀ i, 0 ≤ i → i < 10 → In10 (kids f i)) : ∀ (n : Nat) (ms todo : List Int), J f ms todo → In10 (ms ++ todo) → 11 ≤ ms.length + n →
    ((bfs f n ms todo).2 = true ∧ J f (bfs f n ms todo).1 [] ∧ In10 (bfs f n ms todo).1) ∨ ((bfs f n ms todo).2 = false ∧ ∃ ms' i r, J f ms' (i :: r) ∧ i ∈ ms' ∧ In10 ms')
  | 0, ms, todo, h, h10, hn => by
    have := len_10 ms h.nd (fun i hi => h10 i (List.mem_append_left _ hi))
    omega
  | n + 1, ms, [], h, h10, hn => .inl ⟨rfl, h, fun i hi => h10 i (List.mem_append_left _ hi)⟩
  | n + 1, ms, i :: r, h, h10, hn => by
    have hm : In10 ms := fun i hi => h10 i (List.mem_append_left _ hi)
    unfold bfs
    by_cases hi : i ∈ ms
    · rw [if_pos hi]
      exact .inr ⟨rfl, ms, i, r, h, hi, hm⟩
    · rw [if_neg hi]
      refine bfs_end hk n _ _ (h.step hi) ?_ (by simp; omega)
      have hi0 := h10 i (by simp)
      intro x hx
      simp only [List.mem_append, List.mem_singleton] at hx
      rcases hx with (hx | rfl) | (hx | hx)
      · exact hm x hx
      · exact hi0
      · exact h10 x (by simp [hx])
      · exact hk i hi0.1 hi0.2 x hx
theorem mem_edg {f : Fs} {k i : Int} : (k, i) ∈ edg f 10 ↔ 0 ≤ i ∧ i < 10 ∧ k ∈ ids (N f i) := by
  simp only [edg, List.mem_flatMap, List.mem_range, List.mem_map, Prod.mk.injEq]
  constructor
  · rintro ⟨a, ha, k', hk, rfl, rfl⟩
    exact ⟨by omega, by omega, hk⟩
  · rintro ⟨h0, h1, hk⟩
    exact ⟨i.toNat, by omega, k, by rw [Int.toNat_of_nonneg h0]; exact hk, rfl, by omega⟩
theorem ab_pos {k : Int} : ∀ {es : List (Int × Int)} {z : Int}, 0 < lk es k → (k, es.foldl (fun a p => if p.1 = k then p.2 else a) z) ∈ es
  | [], z, h => by simp [lk] at h
  | (a, b) :: es, z, h => by
    by_cases e : a = k
    · subst e
      by_cases h2 : 0 < lk es a
      · exact List.mem_cons_of_mem _ (ab_pos h2)
      · have : ∀ p ∈ es, p.1 ≠ a := by
          intro p hp e
          apply h2
          unfold lk
          exact List.count_pos_iff.2 (List.mem_map.2 ⟨p, hp, e⟩)
        have h3 : ∀ (l : List (Int × Int)) (z : Int), (∀ p ∈ l, p.1 ≠ a) → l.foldl (fun x p => if p.1 = a then p.2 else x) z = z := by
          intro l
          induction l with
          | nil => intro z _; rfl
          | cons p l ih =>
            intro z hl
            rw [List.foldl_cons, if_neg (hl p (by simp))]
            exact ih z fun q hq => hl q (by simp [hq])
        rw [List.foldl_cons, if_pos rfl, h3 es b this]
        simp
    · rw [List.foldl_cons, if_neg e]
      refine List.mem_cons_of_mem _ (ab_pos ?_)
      simpa [lk, e] using h
theorem lk_one {k i j : Int} : ∀ {es : List (Int × Int)}, lk es k = 1 → (k, i) ∈ es → (k, j) ∈ es → i = j
  | (a, b) :: es, h, hi, hj => by
    by_cases e : a = k
    · subst e
      have h0 : lk es a = 0 := by simpa [lk] using h
      have hno : ∀ x, (a, x) ∉ es := fun x hx => by
        have : 0 < lk es a := List.count_pos_iff.2 (List.mem_map.2 ⟨_, hx, rfl⟩)
        omega
      rcases List.mem_cons.1 hi with hi | hi
      · rcases List.mem_cons.1 hj with hj | hj
        · simp at hi hj; omega
        · exact absurd hj (hno j)
      · exact absurd hi (hno i)
    · have h0 : lk es k = 1 := by simpa [lk, e] using h
      have g : ∀ x, (k, x) ∈ (a, b) :: es → (k, x) ∈ es := fun x hx => by
        rcases List.mem_cons.1 hx with hx | hx
        · simp only [Prod.mk.injEq] at hx; exact absurd hx.1.symm e
        · exact hx
      exact lk_one h0 (g i hi) (g j hj)
theorem climb_mono {a : Int → Int} : ∀ {n m : Nat} {k : Int}, n ≤ m → climb a n k = true → climb a m k = true
  | 0, 0, k, _, h => h
  | 0, m + 1, k, _, h => by simp only [climb, decide_eq_true_eq] at h; simp [climb, h]
  | n + 1, 0, k, hnm, h => by omega
  | n + 1, m + 1, k, hnm, h => by
    simp only [climb] at h ⊢
    split
    · rfl
    · rename_i hk
      rw [if_neg hk] at h
      exact climb_mono (by omega) h
theorem nod_plain {n : Inode} (h : plain n = true) : n.names = [] ∧ n.kind = 0 := by
  simp only [plain, Bool.and_eq_true, decide_eq_true_eq, List.length_eq_zero_iff] at h
  exact ⟨h.2, h.1.1.1.1.1.1.1.1⟩
theorem ids_get {n : Inode} {k : Int} (h : k ∈ ids n) : ∃ j, j < n.names.length ∧ (nE n j).id = k := by
  obtain ⟨e, he, rfl⟩ := List.mem_map.1 h
  obtain ⟨j, hj, rfl⟩ := List.getElem_of_mem he
  exact ⟨j, hj, by simp [nE, List.getD_eq_getElem?_getD, hj]⟩
theorem count_filter_le (l : List Int) (p : Int → Bool) (k : Int) : (l.filter p).count k ≤ l.count k := (List.filter_sublist (l := l)).count_le k
end Go.Mach.Fv
