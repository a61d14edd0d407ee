/- File systems in plain words: users, lookups, steps. -/
import Derived.Test.YtlnlhpgghkkhaaaGreatDoorFsB
namespace Go.Mach.Fv
set_option linter.unusedVariables false
set_option linter.unusedSimpArgs false
def F (v : Vfs) (i : Int) : Fs := v.fss.getD i.toNat []
def gA (c : Cred) (i : Nat) : Int := c.groups.getD i 0
def credOk (c : Cred) : Bool := allF (fun i => inR (gA c i) 0 9 && (decide (i = 0) || decide (gA c (i - 1) < gA c i))) 0 c.groups.length && inR c.user 0 9 && inR c.real 0 9 && decide (c.groups.length ≤ 3)
/-- who may go through a folder -/
def mayX (c : Cred) (n : Inode) : Bool :=
  if c.user = 0 then decide (n.mode % 2 = 1) || decide (n.mode / 8 % 2 = 1) || decide (n.mode / 64 % 2 = 1)
  else if c.user = n.owner then decide (n.mode / 64 % 2 = 1)
  else if n.group ∈ c.groups then decide (n.mode / 8 % 2 = 1) else decide (n.mode % 2 = 1)
/-- the first place of what is looked for -/
def ix (p : Nat → Bool) : Nat → Nat → Int
  | _, 0 => -1
  | i, n + 1 => if p i then i else ix p (i + 1) n
theorem ix_cases (p : Nat → Bool) : ∀ (n i : Nat), (ix p i n = -1 ∧ ∀ j, i ≤ j → j < i + n → p j = false) ∨ ∃ j : Nat, ix p i n = j ∧ i ≤ j ∧ j < i + n ∧ p j = true ∧ ∀ k, i ≤ k → k < j → p k = false
  | 0, i => .inl ⟨rfl, fun j h1 h2 => by omega⟩
  | n + 1, i => by
    unfold ix
    by_cases h : p i = true
    · rw [if_pos h]
      exact .inr ⟨i, rfl, Nat.le_refl _, by omega, h, fun k h1 h2 => by omega⟩
    · rw [if_neg h]
      have h : p i = false := by simpa using h
      rcases ix_cases p n (i + 1) with ⟨h1, h2⟩ | ⟨j, h1, h2, h3, h4, h5⟩
      · refine .inl ⟨h1, fun j a b => ?_⟩
        by_cases e : j = i
        · subst e; exact h
        · exact h2 j (by omega) (by omega)
      · refine .inr ⟨j, h1, by omega, by omega, h4, fun k a b => ?_⟩
        by_cases e : k = i
        · subst e; exact h
        · exact h5 k (by omega) b
def atN (n : Inode) (s : ByteArray) : Int := ix (fun i => (nE n i).name.toList == s.toList) 0 n.names.length
def hasE (n : Inode) (id : Int) : Int := ix (fun i => decide ((nE n i).id = id)) 0 n.names.length
/-- the folder that has a node -/
def parN (f : Fs) (id : Int) : Int := ix (fun i => decide (0 ≤ hasE (N f i) id)) 0 f.length
def down (v : Vfs) (p : Place) : Place := if 0 < v.mount ∧ p.fs = 0 ∧ p.id = v.mount then ⟨1, 0⟩ else p
def upF (v : Vfs) (p : Place) : Place := if 0 ≤ parN (F v p.fs) p.id then ⟨p.fs, parN (F v p.fs) p.id⟩ else p
def up (v : Vfs) (p : Place) : Place := if p.id = 0 then (if p.fs = 0 ∨ v.mount < 0 then p else upF v ⟨0, v.mount⟩) else upF v p
def dots : List UInt8 := [46, 46]
def step (v : Vfs) (c : Cred) (p : Place) (s : ByteArray) : Place × Int :=
  let n := N (F v p.fs) p.id
  if ¬ n.kind = 2 then (⟨0, 0⟩, 4) else if mayX c n = false then (⟨0, 0⟩, 5) else
    if s.toList = dots then (down v (up v p), 0) else if atN n s < 0 then (⟨0, 0⟩, 2) else (down v ⟨p.fs, (nE n (atN n s).toNat).id⟩, 0)
def walkL (v : Vfs) (c : Cred) (p : Place) : List ByteArray → Place × Int
  | [] => (p, 0)
  | s :: r => if (step v c p s).2 = 0 then walkL v c (step v c p s).1 r else (⟨0, 0⟩, (step v c p s).2)
def walk (v : Vfs) (c : Cred) (p : Place) (top : Bool) (l : List ByteArray) : Place × Int := walkL v c (down v (if top then ⟨0, 0⟩ else p)) l
def opensZ (f : Fs) : Bool := allF (fun i => decide ((N f i).opens ≤ 0)) 0 f.length
def vfsOk (v : Vfs) : Bool := decide (v.fss.length = 2) && okS (F v 0) && okS (F v 1) && inR v.mount (-1) 9 && !decide (v.mount = 0) &&
  (if v.mount < 0 then opensZ (F v 1) else decide ((N (F v 0) v.mount).kind = 2) && decide (0 < (N (F v 0) v.mount).opens))
def placeOk (v : Vfs) (p : Place) : Bool := inR p.fs 0 1 && inR p.id 0 9 && !decide ((N (F v p.fs) p.id).kind = 0)
/-! what a valid state keeps to -/
structure Good (v : Vfs) : Prop where
  len : v.fss.length = 2
  fit : ∀ i : Int, 0 ≤ i → i ≤ 1 → Fit (F v i)
  mt : -1 ≤ v.mount ∧ v.mount ≤ 9 ∧ v.mount ≠ 0
  fol : 0 ≤ v.mount → (N (F v 0) v.mount).kind = 2
theorem good {v : Vfs} (h : vfsOk v = true) : Good v := by
  simp only [vfsOk, Bool.and_eq_true, decide_eq_true_eq, inR_iff, Bool.not_eq_true', decide_eq_false_iff_not] at h
  obtain ⟨⟨⟨⟨⟨h1, h2⟩, h3⟩, h4⟩, h5⟩, h6⟩ := h
  refine ⟨h1, fun i h0 h1 => ?_, ⟨h4.1, h4.2, h5⟩, fun h0 => ?_⟩
  · have : i = 0 ∨ i = 1 := by omega
    rcases this with rfl | rfl
    · exact okS_fit h2
    · exact okS_fit h3
  · rw [if_neg (by omega)] at h6
    simp only [Bool.and_eq_true, decide_eq_true_eq] at h6
    exact h6.1
theorem placeOk_iff {v : Vfs} {p : Place} : placeOk v p = true ↔ (0 ≤ p.fs ∧ p.fs ≤ 1) ∧ (0 ≤ p.id ∧ p.id ≤ 9) ∧ ¬ (N (F v p.fs) p.id).kind = 0 := by
  simp only [placeOk, Bool.and_eq_true, inR_iff, Bool.not_eq_true', decide_eq_false_iff_not, and_assoc]
theorem down_ok {v : Vfs} (g : Good v) {p : Place} (h : placeOk v p = true) : placeOk v (down v p) = true := by
  unfold down
  split
  · rw [placeOk_iff]
    have := (g.fit 1 (by omega) (by omega)).top
    refine ⟨by decide, by decide, ?_⟩
    show ¬ (N (F v 1) 0).kind = 0
    omega
  · exact h
theorem zero_ok {v : Vfs} (g : Good v) : placeOk v ⟨0, 0⟩ = true := by
  rw [placeOk_iff]
  have := (g.fit 0 (by omega) (by omega)).top
  refine ⟨by decide, by decide, ?_⟩
  show ¬ (N (F v 0) 0).kind = 0
  omega
theorem hasE_iff {n : Inode} {id : Int} : 0 ≤ hasE n id ↔ id ∈ ids n := by
  unfold hasE
  rcases ix_cases (fun i => decide ((nE n i).id = id)) n.names.length 0 with ⟨h1, h2⟩ | ⟨j, h1, h2, h3, h4, h5⟩
  · rw [h1]
    constructor
    · intro h; omega
    · intro h
      obtain ⟨j, hj, e⟩ := ids_get h
      have := h2 j (by omega) (by omega)
      simp [e] at this
  · rw [h1]
    refine ⟨fun _ => ?_, fun _ => by omega⟩
    simp only [decide_eq_true_eq] at h4
    exact List.mem_map.2 ⟨nE n j, by simp [nE, List.getD_eq_getElem?_getD, show j < n.names.length by omega], h4⟩
/-- a node that a folder has -/
theorem parN_ok {f : Fs} (h : Fit f) {id : Int} (h0 : 0 ≤ parN f id) : parN f id < 10 ∧ id ∈ ids (N f (parN f id)) ∧ (N f (parN f id)).kind = 2 := by
  unfold parN at *
  rcases ix_cases (fun i => decide (0 ≤ hasE (N f i) id)) f.length 0 with ⟨h1, h2⟩ | ⟨j, h1, h2, h3, h4, h5⟩
  · omega
  · rw [h1]
    simp only [decide_eq_true_eq, hasE_iff] at h4
    have := h.len
    exact ⟨by omega, h4, nodS_folder (h.nod j (by omega)) h4⟩
theorem parN_some {f : Fs} (h : Fit f) {id : Int} (h0 : 0 < id) (h9 : id ≤ 9) (hk : (N f id).kind = 2) : 0 ≤ parN f id := by
  have h1 := h.one id.toNat (by omega) (by rw [Int.toNat_of_nonneg (by omega)]; exact hk)
  rw [if_neg (by omega), Int.toNat_of_nonneg (by omega)] at h1
  have h4 := ab_pos (es := edg f 10) (k := id) (z := 0) (by omega)
  obtain ⟨g0, g1, g2⟩ := mem_edg.1 h4
  generalize List.foldl (fun a p => if p.1 = id then p.2 else a) 0 (edg f 10) = a at *
  unfold parN
  rcases ix_cases (fun i => decide (0 ≤ hasE (N f i) id)) f.length 0 with ⟨h1, h2⟩ | ⟨j, h1, _⟩
  · have := h2 a.toNat (by omega) (by have := h.len; omega)
    simp only [decide_eq_false_iff_not, hasE_iff] at this
    rw [Int.toNat_of_nonneg g0] at this
    contradiction
  · omega
theorem upF_ok {v : Vfs} (g : Good v) {p : Place} (h : placeOk v p = true) : placeOk v (upF v p) = true := by
  unfold upF
  split
  · rename_i h0
    rw [placeOk_iff] at h ⊢
    have := parN_ok (g.fit p.fs h.1.1 h.1.2) h0
    refine ⟨h.1, ⟨h0, by show parN _ _ ≤ 9; omega⟩, ?_⟩
    show ¬ (N (F v p.fs) (parN (F v p.fs) p.id)).kind = 0
    omega
  · exact h
theorem up_ok {v : Vfs} (g : Good v) {p : Place} (h : placeOk v p = true) : placeOk v (up v p) = true := by
  unfold up
  split
  · split
    · exact h
    · rename_i h1
      refine upF_ok g ?_
      rw [placeOk_iff]
      have := g.fol (by omega)
      have := g.mt
      refine ⟨⟨Int.le_refl 0, by show (0 : Int) ≤ 1; omega⟩, ⟨by show 0 ≤ v.mount; omega, by show v.mount ≤ 9; omega⟩, ?_⟩
      show ¬ (N (F v 0) v.mount).kind = 0
      omega
  · exact upF_ok g h
theorem atN_ok {n : Inode} {s : ByteArray} (h : ¬ atN n s < 0) : (atN n s).toNat < n.names.length ∧ (nE n (atN n s).toNat).id ∈ ids n := by
  unfold atN at *
  rcases ix_cases (fun i => (nE n i).name.toList == s.toList) n.names.length 0 with ⟨h1, h2⟩ | ⟨j, h1, h2, h3, h4, h5⟩
  · omega
  · rw [h1]
    have : ((j : Int)).toNat = j := by omega
    rw [this]
    exact ⟨by omega, List.mem_map.2 ⟨nE n j, by simp [nE, List.getD_eq_getElem?_getD, show j < n.names.length by omega], rfl⟩⟩
theorem step_ok {v : Vfs} (g : Good v) {c : Cred} {p : Place} (h : placeOk v p = true) (s : ByteArray) (h2 : (step v c p s).2 = 0) : placeOk v (step v c p s).1 = true := by
  unfold step at *
  simp only at *
  split at h2
  · cases h2
  split at h2
  · cases h2
  rename_i hk hm
  rw [if_neg hk, if_neg hm]
  split
  · exact down_ok g (up_ok g h)
  rename_i hd
  rw [if_neg hd] at h2
  split at h2
  · cases h2
  rename_i ha
  rw [if_neg ha]
  refine down_ok g ?_
  rw [placeOk_iff] at h ⊢
  have hf := g.fit p.fs h.1.1 h.1.2
  have h3 := (atN_ok ha).2
  have h0 : N (F v p.fs) p.id = N (F v p.fs) (p.id.toNat : Int) := by rw [Int.toNat_of_nonneg h.2.1.1]
  rw [h0] at h3 ⊢
  have h4 := nodS_ids (f := F v p.fs) (hf.nod p.id.toNat (by omega)) _ h3
  have h5 := hf.ent p.id.toNat (by omega) _ h3
  exact ⟨h.1, ⟨by show 0 ≤ (nE _ _).id; omega, by show (nE _ _).id ≤ 9; omega⟩, h5⟩
/-! a search by halves -/
theorem bytesLess_irrefl : ∀ l, Op.bytesLess l l = false
  | [] => rfl
  | a :: l => by simp [Op.bytesLess, bytesLess_irrefl l]
theorem bytesLess_trans : ∀ {a b c : List UInt8}, Op.bytesLess a b = true → Op.bytesLess b c = true → Op.bytesLess a c = true
  | _, [], _, h, _ => by simp [Op.bytesLess] at h
  | _, _ :: _, [], _, h => by simp [Op.bytesLess] at h
  | [], _ :: _, _ :: _, _, _ => rfl
  | x :: a, y :: b, z :: c, h1, h2 => by
    simp only [Op.bytesLess, Bool.or_eq_true, Bool.and_eq_true, decide_eq_true_eq, beq_iff_eq] at h1 h2 ⊢
    rcases h1 with h1 | ⟨rfl, h1⟩
    · rcases h2 with h2 | ⟨rfl, h2⟩
      · exact .inl (UInt8.lt_trans h1 h2)
      · exact .inl h1
    · rcases h2 with h2 | ⟨rfl, h2⟩
      · exact .inl h2
      · exact .inr ⟨rfl, bytesLess_trans h1 h2⟩
/-- Compare's sign -/
def cmpS (a b : List UInt8) : Int := if a = b then 0 else if Op.bytesLess a b then -1 else 1
def bsr (c : Nat → Int) : Nat → Nat → Nat → Nat
  | 0, i, _ => i
  | n + 1, i, j => if i < j then (if c ((i + j) / 2) < 0 then bsr c n ((i + j) / 2 + 1) j else bsr c n i ((i + j) / 2)) else i
theorem bsr_spec {c : Nat → Int} {len : Nat} (mono : ∀ a b, a < b → b < len → c b < 0 → c a < 0) : ∀ (n i j : Nat), j - i ≤ n → i ≤ j → j ≤ len → (∀ k, k < i → c k < 0) → (∀ k, j ≤ k → k < len → ¬ c k < 0) →
    bsr c n i j ≤ len ∧ (∀ k, k < bsr c n i j → c k < 0) ∧ ∀ k, bsr c n i j ≤ k → k < len → ¬ c k < 0
  | 0, i, j, hn, hij, hj, h1, h2 => by
    have : i = j := by omega
    subst this
    exact ⟨hj, h1, h2⟩
  | n + 1, i, j, hn, hij, hj, h1, h2 => by
    unfold bsr
    split
    · split
      · rename_i hlt hc
        refine bsr_spec mono n _ j (by omega) (by omega) hj (fun k hk => ?_) h2
        by_cases e : k = (i + j) / 2
        · subst e; exact hc
        · exact mono k _ (by omega) (by omega) hc
      · rename_i hlt hc
        refine bsr_spec mono n i _ (by omega) (by omega) (by omega) h1 (fun k hk hl hc' => ?_)
        by_cases e : (i + j) / 2 = k
        · subst e; exact hc hc'
        · exact hc (mono _ k (by omega) hl hc')
    · have : i = j := by omega
      subst this
      exact ⟨hj, h1, h2⟩
/-- the search by halves finds what is there -/
theorem bsr_at {n : Inode} {s : ByteArray} (hs : ∀ j, j + 1 < n.names.length → lt (nE n j).name (nE n (j + 1)).name = true) (m : Nat) (hm : n.names.length ≤ m) :
    let r := bsr (fun k => cmpS (nE n k).name.toList s.toList) m 0 n.names.length
    (r < n.names.length ∧ cmpS (nE n r).name.toList s.toList = 0 ∧ atN n s = r) ∨ ((¬ r < n.names.length ∨ ¬ cmpS (nE n r).name.toList s.toList = 0) ∧ atN n s = -1) := by
  intro r
  have hsort : ∀ d a, a + d + 1 < n.names.length → lt (nE n a).name (nE n (a + d + 1)).name = true := by
    intro d
    induction d with
    | zero => intro a h; exact hs a h
    | succ d ih => intro a h; exact bytesLess_trans (ih a (by omega)) (hs (a + d + 1) h)
  have hsrt : ∀ a b, a < b → b < n.names.length → lt (nE n a).name (nE n b).name = true := by
    intro a b h1 h2
    have := hsort (b - a - 1) a (by omega)
    rwa [show a + (b - a - 1) + 1 = b by omega] at this
  have mono : ∀ a b, a < b → b < n.names.length → cmpS (nE n b).name.toList s.toList < 0 → cmpS (nE n a).name.toList s.toList < 0 := by
    intro a b h1 h2 h3
    have h4 := hsrt a b h1 h2
    unfold cmpS at h3 ⊢
    split at h3
    · omega
    split at h3
    · rename_i h5
      have h6 := bytesLess_trans h4 h5
      rw [if_neg, if_pos h6]
      · decide
      · intro e
        rw [e, bytesLess_irrefl] at h6
        cases h6
    · omega
  obtain ⟨h1, h2, h3⟩ := bsr_spec mono m 0 n.names.length (by omega) (by omega) (Nat.le_refl _) (fun k hk => by omega) (fun k hk hl => by omega)
  change r ≤ _ at h1
  change ∀ k, k < r → _ at h2
  change ∀ k, r ≤ k → _ at h3
  have heq : ∀ k, cmpS (nE n k).name.toList s.toList = 0 ↔ (nE n k).name.toList = s.toList := by
    intro k
    unfold cmpS
    split
    · rename_i h; simp [h]
    · rename_i h; split <;> simp [h]
  have huniq : ∀ k, k < n.names.length → (nE n k).name.toList = s.toList → k = r := by
    intro k hk e
    rcases Nat.lt_trichotomy k r with h | h | h
    · have := h2 k h
      rw [(heq k).2 e] at this
      omega
    · exact h
    · have h4 := h3 r (Nat.le_refl _) (by omega)
      have h5 := hsrt r k h hk
      unfold lt at h5
      rw [e] at h5
      exfalso
      apply h4
      unfold cmpS
      rw [if_neg, if_pos h5]
      · decide
      · intro e; rw [e, bytesLess_irrefl] at h5; cases h5
  unfold atN
  rcases ix_cases (fun i => (nE n i).name.toList == s.toList) n.names.length 0 with ⟨g1, g2⟩ | ⟨j, g1, g2, g3, g4, g5⟩
  · right
    refine ⟨?_, g1⟩
    by_cases hr : r < n.names.length
    · right
      rw [heq]
      have := g2 r (by omega) (by omega)
      simpa using this
    · exact .inl hr
  · left
    have := huniq j (by omega) (by simpa using g4)
    subst this
    exact ⟨by omega, (heq _).2 (by simpa using g4), g1⟩
end Go.Mach.Fv
