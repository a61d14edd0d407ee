import Derived.Test.YtlnlhpgghkkhaaaGreatDoorMach2
import Derived.Orders
import Derived.LoopN
import Derived.SizedLaws
import Derived.ChangeSlices
import Derived.ChangeArms
import Derived.DataReads
import Derived.Deep.Slices
set_option linter.unusedVariables false
set_option linter.unusedSimpArgs false
/- Operations, and regions that draw no order. -/
namespace Go.Mach
set_option linter.unusedVariables false
set_option linter.unusedSimpArgs false
section
variable {P : Program} {hd hd' : Nat → Nat → Option (Value × K × TypeId)} {w0 w w' : World} {O O' N N' : Nat → Prop} {Γ Γ' Γ0 Γ1 : St Value} {a a' : Act} {rt rt' : Rt} {Q : Exit → Act → World → Prop}
theorem wants_ok (R : Rel P hd w0 O N Γ a w) {ops : Array Oper} {o : Oper} {b : Bool} (h : wants ops Γ.er o = some b) : Region.wanted o (yielded ops a.tmps) = b := by
  unfold wants at h
  unfold Region.wanted
  split at h
  · rename_i hg
    simp only [Option.some.injEq] at h
    rw [hg]
    exact h
  · rename_i g want hg
    rw [hg]
    simp only
    unfold yielded
    split at h
    · rename_i t ht
      rw [ht]
      simp only [Option.bind_some]
      split at h
      · rename_i b' hf
        simp only [St.er] at hf
        rw [find_map] at hf
        obtain ⟨v, hv, hve⟩ := Option.map_eq_some_iff.1 hf
        obtain ⟨c, rfl, hc⟩ := inv_one hve
        obtain rfl := inv_bool hc
        rw [(R.tms t _ hv).1]
        simp only [Option.some.injEq] at h
        simp only [concV, conc]
        cases want <;> cases b' <;> simp_all
      · rename_i hf
        simp only [St.er] at hf
        rw [find_map] at hf
        obtain ⟨v, hv, hve⟩ := Option.map_eq_some_iff.1 hf
        obtain ⟨c, rfl, hc⟩ := inv_one hve
        have hc' : c = .und := by cases c <;> simp [er_int, er_bool, er_str, er_fn, er_nil, er_own, er_und, er_ro, er_rp, er_ref, er_ptr, er_sub, er_top] at hc ⊢
        subst hc'
        rw [(R.tms t _ hv).1]
        simp only [Option.some.injEq] at h
        subst h
        simp [concV, conc, undef]
      · cases h
    · cases h
/-- what a quiet operation yields -/
theorem valO_ok (R : Rel P hd w0 O N Γ a w) {ops : Array Oper} {o : Oper} {v : V Unit} (h : valO P ops Γ.er o = some v) :
    ∃ U : V Value, U.er = v ∧ (∀ c ∈ cellsV U, OkC P w N Γ.rt c) ∧ ((Region.wanted o (yielded ops a.tmps) = true ∧ (execOp a.eval o).run P w = .ok (.value (concV U)) w) ∨ (Region.wanted o (yielded ops a.tmps) = false ∧ concV U = undef)) := by
  unfold valO at h
  split at h
  · rename_i hw
    obtain ⟨U, h1, h2, h3⟩ := valQ_ok R o h
    exact ⟨U, h1, h2, .inl ⟨wants_ok R hw, h3⟩⟩
  · rename_i hw
    simp only [Option.some.injEq] at h
    subst h
    exact ⟨.one .und, by simp [V.er, er_und], fun c hc => by rw [mem1 hc]; trivial, .inr ⟨wants_ok R hw, rfl⟩⟩
  · cases h
theorem toList_one' {α : Type} {as : Array α} {x : α} (h : as.toList = [x]) : as = #[x] := toList_one h
/-- an effect -/
theorem stepE_ok {E : Env} (S : Sound E.P E.M E.cf) (R : Rel E.P hd w0 O N Γ a w) {o : Oper} (hdst : ∀ t, o.dst = some t → t < Γ.nt ∧ t < 1000) {σ' : St Unit} (h : stepE E Γ.er o.dst o.op = some σ') : o.wp E.P a w (Done E.P hd w0 O N σ') Q := by
  cases hop : o.op with
  | assign x =>
    simp only [hop, stepE] at h
    split at h
    · rename_i v hv
      simp only [Option.some.injEq] at h
      subst h
      obtain ⟨U, rfl, he, hU⟩ := opd_ok R hv
      have hrun : (execOp a.eval o).run E.P w = .ok (.value (concV U)) w := by simp [execOp, hop, he]
      refine wp_value hrun ⟨Γ.put o.dst U, put_er _ _ _, R.put o.dst (fun u hu => (hdst u hu).1) hU⟩
    · cases h
  | alloc t =>
    simp only [hop, stepE] at h
    split at h
    · rename_i cs hz
      exact alloc_ok R hdst hop hz h
    · cases h
  | box t x =>
    simp only [hop, stepE] at h
    split at h
    · rename_i v hv
      split at h
      · rename_i ls hl
        split at h
        · rename_i cs hc
          split at h
          · rename_i hlen
            exact box_ok R hdst hop hv hl hc hlen h
          · cases h
        · cases h
      · cases h
    · cases h
  | store t x y =>
    simp only [hop, stepE] at h
    split at h
    · rename_i v hv
      split at h
      · rename_i u hu
        split at h
        · rename_i hd
          exact store_ok R hop hd hv hu h
        · cases h
      · cases h
    · cases h
  | makeSlice t l c =>
    simp only [hop, stepE] at h
    split at h
    · rename_i k n hl
      split at h
      · rename_i k' m hc
        split at h
        · rename_i e he
          split at h
          · rename_i hcond
            obtain ⟨rfl, h0, hb, hn⟩ := hcond
            split at h
            · rename_i cs hz
              exact makeSlice_ok R hdst hop hl hc he h0 hb hn hz h
            · cases h
          · cases h
        · cases h
      · cases h
    · cases h
  | buildSlice t n ps =>
    simp only [hop, stepE] at h
    split at h
    · rename_i e he
      split at h
      · rename_i zs hz
        split at h
        · rename_i hcond
          split at h
          · rename_i σ2 xs hel
            exact buildSlice_ok R hdst hop he hz hcond.1 hcond.2.1 hcond.2.2 hel h
          · cases h
        · cases h
      · cases h
    · cases h
  | call c =>
    obtain ⟨callee, args, ats⟩ := c
    cases callee with
    | builtin b =>
      cases b with
      | append =>
        simp only [hop, stepE] at h
        split at h
        · rename_i x y t t' hx ht
          obtain rfl := toList_two hx
          obtain rfl := toList_two ht
          split at h
          · rename_i v hv
            split at h
            · rename_i u hu
              exact append_ok R hdst hop hv hu h
            · cases h
          · cases h
        · cases h
      | _ => simp [hop, stepE] at h
    | value f =>
      simp only [hop, stepE] at h
      split at h
      · rename_i g hf
        split at h
        · rename_i vs hvs
          exact callE_ok S R hdst hop hf hvs h
        · cases h
      · cases h
    | invoke r m => simp [hop, stepE] at h
  | _ => simp [hop, stepE] at h
def Runs (P : Program) (ops : Array Oper) (o : Oper) (a : Act) (w : World) (K : Act → World → Prop) : Prop :=
  (Region.wanted o (yielded ops a.tmps) = true ∧ o.wp P a w K (fun _ _ _ => False)) ∨ (Region.wanted o (yielded ops a.tmps) = false ∧ K (a.put o.dst undef) w)
theorem stepO_ok {E : Env} (S : Sound E.P E.M E.cf) (R : Rel E.P hd w0 O N Γ a w) {ops : Array Oper} {o : Oper} (hdst : ∀ t, o.dst = some t → t < Γ.nt ∧ t < 1000) {σ' : St Unit} (h : stepO E ops o Γ.er = some σ') : Runs E.P ops o a w (Done E.P hd w0 O N σ') := by
  unfold stepO at h
  split at h
  · split at h
    · rename_i v hv
      simp only [Option.some.injEq] at h
      subst h
      obtain ⟨U, rfl, hU, hr⟩ := valO_ok R hv
      have hD : Done E.P hd w0 O N (Γ.er.put o.dst U.er) (a.put o.dst (concV U)) w := ⟨Γ.put o.dst U, put_er _ _ _, R.put o.dst (fun u hu => (hdst u hu).1) hU⟩
      rcases hr with ⟨h1, h2⟩ | ⟨h1, h2⟩
      · exact .inl ⟨h1, wp_value h2 hD⟩
      · exact .inr ⟨h1, by rw [← h2]; exact hD⟩
    · cases h
  · split at h
    · rename_i hw
      exact .inl ⟨wants_ok R hw, stepE_ok S R hdst h⟩
    · rename_i hw
      simp only [Option.some.injEq] at h
      subst h
      refine .inr ⟨wants_ok R hw, ⟨Γ.put o.dst (.one .und), ?_, ?_⟩⟩
      · rw [put_er]; simp [V.er, er_und]
      · exact R.put o.dst (fun u hu => (hdst u hu).1) (U := .one .und) (fun c hc => by rw [mem1 hc]; trivial)
    · cases h
/-- a run of one operation from another state, where it sees the same -/
theorem wp_move {o : Oper} {b : Act} {K K' : Act → World → Prop} (he : execOp a.eval o = execOp b.eval o) (h : o.wp P a w K (fun _ _ _ => False)) (hd : a.defers = []) (hk : ∀ v w', K (a.put o.dst v) w' → K' (b.put o.dst v) w') (hK : ∀ a' w', K a' w' → a'.defers = []) : o.wp P b w K' Q := by
  unfold Oper.wp at *
  rw [← he]
  generalize (execOp a.eval o).run P w = r at *
  cases r with
  | ok n w1 =>
    cases n with
    | value v => exact hk _ _ h
    | skip => exact hk _ _ h
    | defer d =>
      have := hK _ _ h
      rw [defers_put] at this
      cases this
    | enter f args =>
      refine Calls.mono h (fun e w2 h2 => ?_)
      cases e with
      | returned v => exact hk _ _ h2
      | panicked c => exact h2.elim
      | outgrown => obtain ⟨_, _, h3⟩ := h2; exact h3.elim
    | row r args => exact Rows.mono h (fun v w2 h2 => hk _ _ h2)
    | _ => exact h.elim
  | halt x w1 => cases x <;> exact h.elim
theorem Done.dfr {σ : St Unit} (h : Done P hd w0 O N σ a w) : a.defers = [] := by
  obtain ⟨_, _, R⟩ := h
  exact R.dfr
/-- .. and what is left -/
def DoneN (P : Program) (hd : Nat → Nat → Option (Value × K × TypeId)) (w0 : World) (O N : Nat → Prop) (n : Nat) (σ : St Unit) (a : Act) (w : World) : Prop := ∃ Γ : St Value, Γ.er = σ ∧ Γ.nt = n ∧ Rel P hd w0 O N Γ a w
theorem Done.nt {σ : St Unit} {n : Nat} (h : Done P hd w0 O N σ a w) (hs : a.tmps.size = n) : DoneN P hd w0 O N n σ a w := by
  obtain ⟨Γ, h1, R⟩ := h
  exact ⟨Γ, h1, by rw [← R.sz]; exact hs, R⟩
theorem Runs.wpOp {ops : Array Oper} {i : Nat} {o : Oper} (hi : ops[i]? = some o) {σ' : St Unit} {K : Act → World → Prop} (R : Rel P hd w0 O N Γ a w) (h : Runs P ops o a w (Done P hd w0 O N σ')) (hk : ∀ a' w', DoneN P hd w0 O N Γ.nt σ' a' w' → K a' w') : Go.wpOp P ops Q i K a w := by
  unfold Go.wpOp
  simp only [hi]
  rcases h with ⟨h1, h2⟩ | ⟨h1, h2⟩
  · rw [if_pos h1]
    refine .inl (wp_move rfl h2 R.dfr (fun v w' hD => hk _ _ (hD.nt (by rw [size_put, R.sz]))) (fun _ _ h => h.dfr))
  · rw [if_neg (by rw [h1]; simp)]
    exact hk _ _ (h2.nt (by rw [size_put, R.sz]))
def okDst (n : Nat) (ops : Array Oper) : Bool := ops.all fun o => match o.dst with
  | some t => decide (t < n) && decide (t < 1000)
  | none => true
theorem okDst_ok {n : Nat} {ops : Array Oper} (h : okDst n ops = true) {o : Oper} (ho : o ∈ ops) : ∀ t, o.dst = some t → t < n ∧ t < 1000 := by
  intro t ht
  unfold okDst at h
  rw [Array.all_eq_true_iff_forall_mem] at h
  have := h o ho
  rw [ht] at this
  simpa using this
theorem steps_ok {E : Env} (S : Sound E.P E.M E.cf) {ops : Array Oper} {n : Nat} (hd0 : okDst n ops = true) {σ' : St Unit} (hq : ∀ a' w', DoneN E.P hd w0 O N n σ' a' w' → Q .normal a' w') :
    ∀ (m i : Nat) {Γ : St Value} {a : Act} {w : World}, ops.size = i + m → Rel E.P hd w0 O N Γ a w → Γ.nt = n → steps E ops (ops.toList.drop i) Γ.er = some σ' → wpOps E.P ops Q (List.range' i m) a w
  | 0, i, Γ, a, w, hs, R, hn, h => by
    rw [List.drop_of_length_le (by rw [Array.length_toList]; omega)] at h
    simp only [steps, Option.some.injEq] at h
    exact hq _ _ ⟨Γ, h, hn, R⟩
  | m + 1, i, Γ, a, w, hs, R, hn, h => by
    have hi : i < ops.toList.length := by rw [Array.length_toList]; omega
    have hi' : i < ops.size := by omega
    rw [List.drop_eq_getElem_cons hi] at h
    simp only [steps, Array.getElem_toList] at h
    split at h
    · rename_i σ1 h1
      rw [List.range'_succ, wpOps_cons]
      refine (stepO_ok S R (o := ops[i]) (by rw [hn]; exact okDst_ok hd0 (Array.getElem_mem hi')) h1).wpOp (by simp [hi']) R (fun a' w' hD => ?_)
      obtain ⟨Γ1, rfl, hn1, R1⟩ := hD
      exact steps_ok S hd0 hq m (i + 1) (by omega) R1 (hn1.trans hn) h
    · cases h
theorem region_ok {E : Env} (S : Sound E.P E.M E.cf) {id : Nat} {ops : Array Oper} {n : Nat} (hd0 : okDst n ops = true) {σ' : St Unit} (hq : ∀ a' w', DoneN E.P hd w0 O N n σ' a' w' → Q .normal a' w') (R : Rel E.P hd w0 O N Γ a w) (hn : Γ.nt = n)
    (h : steps E ops ops.toList Γ.er = some σ') : (Code.region id ops false).wp E.P Q a w := by
  refine wp_region ?_
  rw [List.range_eq_range']
  exact steps_ok S hd0 hq ops.size 0 (by omega) R hn (by simpa using h)
end
end Go.Mach

/- What is kept at a loop's head and at a region's end. -/
namespace Go.Mach
set_option linter.unusedVariables false
set_option linter.unusedSimpArgs false
section
variable {P : Program} {hd hd' : Nat → Nat → Option (Value × K × TypeId)} {w0 w w' : World} {O O' N N' : Nat → Prop} {Γ Γ' Γ0 Γ1 : St Value} {a a' : Act} {rt rt' : Rt} {Q : Exit → Act → World → Prop}
theorem pickL_map {α β : Type} (f : α → β) (m : List (Nat × α)) : ∀ ts, pickL (m.map fun x => (x.1, f x.2)) ts = (pickL m ts).map fun x => (x.1, f x.2)
  | [] => rfl
  | t :: r => by
    simp only [pickL]
    rw [find_map]
    cases find t m with
    | none => exact pickL_map f m r
    | some v => simp [pickL_map f m r]
theorem G_pick {rs : List Nat} {p : Path} : G (pickL rt rs) p = if memb p.n rs then G rt p else none := by
  unfold G
  rw [getP_inn, getP_inn, find_pickL]
  split
  · rfl
  · rfl
theorem pick_er (Γ : St Value) (ts rs : List Nat) : (Γ.pick ts rs).er = Γ.er.pick ts rs := by
  unfold St.pick
  rw [kill_er]
  congr 1
  simp only [St.er, erR]
  rw [pickL_map, pickL_map]
theorem Rel.pick (R : Rel P hd w0 O N Γ a w) (ts rs : List Nat) : Rel P hd w0 O N (Γ.pick ts rs) a w := by
  have R1 := R.kill (fun q => !memb q.n rs)
  have hst : Γ.pick ts rs = ⟨Γ.nt, pickL (Γ.kill (fun q => !memb q.n rs)).tm ts, pickL (Γ.kill (fun q => !memb q.n rs)).rt rs⟩ := by
    unfold St.pick St.kill St.mapA
    simp only [St.mk.injEq, true_and]
    exact ⟨(pickL_map _ _ _).symm, (pickL_map _ _ _).symm⟩
  rw [hst]
  have hG : ∀ p s, G (pickL (Γ.kill (fun q => !memb q.n rs)).rt rs) p = some s → memb p.n rs = true ∧ G (Γ.kill (fun q => !memb q.n rs)).rt p = some s := by
    intro p s h
    rw [G_pick] at h
    split at h
    · rename_i hm; exact ⟨hm, h⟩
    · cases h
  have hkeep : ∀ d, OkC P w N (Γ.kill (fun q => !memb q.n rs)).rt d → (∀ q, refd d q → (!memb q.n rs) = false) → OkC P w N (pickL (Γ.kill (fun q => !memb q.n rs)).rt rs) d := by
    intro d hd' hl
    refine hd'.mono (Fr.refl w (fun _ => False)) (fun _ _ => id) (fun q g k e vs hr hq => ⟨vs, ?_⟩)
    have := hl q hr
    rw [G_pick, if_pos (by simpa using this)]
    exact hq
  have hrefR : ∀ q c, G (Γ.kill (fun q => !memb q.n rs)).rt q = some (.oth c) → ∀ p, refd c p → (!memb p.n rs) = false := by
    intro q c hq p hp
    have hq : G (mapRt (killC (fun q => !memb q.n rs)) Γ.rt) q = some (.oth c) := hq
    rw [G_mapRt (killC_lossy _).mild R.hp] at hq
    obtain ⟨s, hs, he⟩ := Option.map_eq_some_iff.1 hq
    cases s with
    | own _ _ _ _ => cases he
    | oth d =>
      simp only [mapS, Sh.oth.injEq] at he
      subst he
      exact killC_refd (bad := fun q => !memb q.n rs) hp
  refine ⟨⟨?_, ?_, ?_, ?_, ?_, ?_⟩, R.nn, R.fr, ?_, R.dfr, R.sz, ?_⟩
  · intro p h k e vs h1; exact R1.hp.own _ _ _ _ _ (hG _ _ h1).2
  · intro p c h1
    obtain ⟨o1, o2⟩ := R1.hp.oth _ _ (hG _ _ h1).2
    exact ⟨hkeep c o1 (hrefR _ _ (hG _ _ h1).2), o2⟩
  · intro p i j h e vs c h1 h2; exact R1.hp.pln _ _ _ _ _ _ _ (hG _ _ h1).2 (hG _ _ h2).2
  · intro p h e vs h1; exact R1.hp.pts _ _ _ _ (hG _ _ h1).2
  · intro p q h k e vs h' k' e' vs' g h1 h2 b1 b2; exact R1.hp.dis _ _ _ _ _ _ _ _ _ _ g (hG _ _ h1).2 (hG _ _ h2).2 b1 b2
  · intro n k h K e vs hn h1; exact R1.hp.par _ _ _ _ _ _ hn (hG _ _ h1).2
  · intro p h k e vs g h1 hb; exact R1.inO _ _ _ _ _ g (hG _ _ h1).2 hb
  · intro t v hv
    rw [find_pickL] at hv
    split at hv
    · obtain ⟨t1, t2⟩ := R1.tms t v hv
      refine ⟨t1, fun c hc => hkeep c (t2 c hc) (fun p hp => ?_)⟩
      have : find t (Γ.tm.map fun x => (x.1, mapV (killC (fun q => !memb q.n rs)) x.2)) = some v := hv
      rw [find_map] at this
      obtain ⟨u, hu, rfl⟩ := Option.map_eq_some_iff.1 this
      rw [cellsV_map] at hc
      obtain ⟨d, _, rfl⟩ := List.mem_map.1 hc
      exact killC_refd (bad := fun q => !memb q.n rs) hp
    · cases hv
/-! a root is named anew -/
theorem renC_mild (r t : Nat) : Mild (renC (γ := Value) r t) where
  own h k e xs := rfl
  pln c hc := by cases c <;> first | rfl | cases hc
  conc c := by cases c <;> rfl
  und c hc := by cases c <;> first | exact hc | (simp [renC])
  noOwn c hc h k e xs := by cases c <;> first | exact hc h k e xs | (simp [renC])
theorem renC_er (r t : Nat) (c : C Value) : (renC r t c).er = renC r t c.er := by
  cases c <;> simp only [renC, er_int, er_bool, er_str, er_fn, er_nil, er_own, er_und, er_ro, er_rp, er_ref, er_ptr, er_sub, er_top]
theorem ren_er (Γ : St Value) (r t : Nat) : (Γ.ren r t).er = Γ.er.ren r t := by
  unfold St.ren
  have h := mapA_er (renC_er r t) Γ
  simp only [St.er, St.mapA, St.mk.injEq, true_and] at h ⊢
  refine ⟨h.1, ?_⟩
  have h2 := h.2
  rw [← h2]
  simp only [erR, List.map_map]
  apply List.map_congr_left
  intro x _
  rfl
theorem find_ren {α : Type} {r t : Nat} (hrt : r ≠ t) : ∀ {l : List (Nat × α)}, find t l = none → ∀ u, find u (l.map fun x => (if x.1 = r then t else x.1, x.2)) = if u = t then find r l else if u = r then none else find u l
  | [], _, u => by simp [find]
  | (k, v) :: l, h, u => by
    simp only [find] at h
    split at h
    · cases h
    · rename_i hk
      have ih := find_ren hrt h u
      simp only [List.map_cons, find]
      rw [ih]
      by_cases hkr : k = r
      · subst hkr
        simp only [if_true]
        by_cases hut : u = t
        · subst hut; simp
        · by_cases huk : u = k
          · subst huk; simp [hut]
          · simp only [hut, huk, if_false]
      · rw [if_neg hkr]
        by_cases hut : u = t
        · subst hut
          simp [hk, Ne.symm hkr]
        · by_cases hur : u = r
          · subst hur
            simp [hut, Ne.symm hkr]
          · simp [hut, hur]
theorem G_ren {r t : Nat} (hrt : r ≠ t) (h : find t rt = none) (p : Path) : G (rt.map fun x => (if x.1 = r then t else x.1, x.2)) p = if p.n = t then G rt ⟨r, p.k, p.s⟩ else if p.n = r then none else G rt p := by
  unfold G
  rw [getP_inn, find_ren hrt h]
  split
  · rw [getP_inn]
  · split
    · rfl
    · rw [getP_inn]
theorem Rel.ren (R : Rel P hd w0 O N Γ a w) {r t : Nat} (hrt : r ≠ t) (hf : find t Γ.rt = none) (hr : r < 1000) (ht : t < 1000) : Rel P hd w0 O N (Γ.ren r t) a w := by
  have m := renC_mild r t
  have hfm : find t (mapRt (renC r t) Γ.rt) = none := by
    unfold mapRt
    rw [find_map, hf]; rfl
  -- where what lies behind came from
  have hG : ∀ p, G (Γ.ren r t).rt p = if p.n = t then (G Γ.rt ⟨r, p.k, p.s⟩).map (mapS (renC r t)) else if p.n = r then none else (G Γ.rt p).map (mapS (renC r t)) := by
    intro p
    have h1 : (Γ.ren r t).rt = (mapRt (renC r t) Γ.rt).map fun x => (if x.1 = r then t else x.1, x.2) := rfl
    rw [h1, G_ren hrt hfm, G_mapRt m R.hp, G_mapRt m R.hp]
  let φ : Path → Path := fun p => if p.n = t then ⟨r, p.k, p.s⟩ else p
  have hcase : ∀ p s, G (Γ.ren r t).rt p = some s → p.n ≠ r ∧ ∃ s0, G Γ.rt (φ p) = some s0 ∧ s = mapS (renC r t) s0 := by
    intro p s h
    rw [hG] at h
    split at h
    · rename_i hn
      obtain ⟨s0, h1, h2⟩ := Option.map_eq_some_iff.1 h
      exact ⟨by rw [hn]; exact Ne.symm hrt, s0, by simp only [φ, hn, if_true]; exact h1, h2.symm⟩
    · rename_i hn
      split at h
      · cases h
      · rename_i hn2
        obtain ⟨s0, h1, h2⟩ := Option.map_eq_some_iff.1 h
        exact ⟨hn2, s0, by simp only [φ, hn, if_false]; exact h1, h2.symm⟩
  have hown : ∀ p h k e vs, G (Γ.ren r t).rt p = some (.own h k e vs) → p.n ≠ r ∧ G Γ.rt (φ p) = some (.own h k e vs) := by
    intro p h k e vs hp
    obtain ⟨h1, s0, h2, h3⟩ := hcase p _ hp
    cases s0 with
    | own _ _ _ _ => exact ⟨h1, by rw [h2, h3]; rfl⟩
    | oth c => cases h3
  have hfwd : ∀ q h k e vs, G Γ.rt q = some (.own h k e vs) → G (Γ.ren r t).rt (renP r t q) = some (.own h k e vs) := by
    intro q h k e vs hq
    have hqt : q.n ≠ t := fun hn => by rw [G_none hf hn] at hq; cases hq
    rw [hG]
    unfold renP
    by_cases hn : q.n = r
    · rw [if_pos hn]
      have : (⟨r, q.k, q.s⟩ : Path) = q := by cases q; simp only at hn; subst hn; rfl
      simp only [if_true, this, hq]
      rfl
    · rw [if_neg hn, if_neg hqt, if_neg hn, hq]
      rfl
  have hok : ∀ c, OkC P w N Γ.rt c → OkC P w N (Γ.ren r t).rt (renC r t c) := by
    intro c hc
    cases c with
    | ref g q =>
      obtain ⟨k, e, vs, hq⟩ := hc
      exact ⟨k, e, vs, hfwd _ _ _ _ _ hq⟩
    | ptr g q i j =>
      obtain ⟨h', k, e, vs, b, hq, hb, rfl⟩ := hc
      exact ⟨h', k, e, vs, b, hfwd _ _ _ _ _ hq, hb, rfl⟩
    | sub g q i j =>
      obtain ⟨h', k, e, vs, b, o, cap, hq, hb, rfl, hc⟩ := hc
      exact ⟨h', k, e, vs, b, o, cap, hfwd _ _ _ _ _ hq, hb, rfl, hc⟩
    | own => exact hc.elim
    | _ => exact hc
  have hext : ∀ p i j, φ (Path.ext p i j) = (φ p).ext i j := by
    intro p i j
    simp only [φ, Path.ext]
    split <;> rfl
  have hinj : ∀ p q, p.n ≠ r → q.n ≠ r → φ p = φ q → p = q := by
    intro p q hp hq he
    simp only [φ] at he
    split at he <;> rename_i h1 <;> split at he <;> rename_i h2
    · simp only [Path.mk.injEq, true_and] at he
      cases p; cases q
      simp only at he h1 h2
      rw [h1, h2, he.1, he.2]
    · rw [← he] at hq; exact absurd rfl hq
    · rw [he] at hp; exact absurd rfl hp
    · exact he
  refine ⟨⟨?_, ?_, ?_, ?_, ?_, ?_⟩, R.nn, R.fr, ?_, R.dfr, R.sz, ?_⟩
  · intro p h k e vs h1; exact R.hp.own _ _ _ _ _ (hown _ _ _ _ _ h1).2
  · intro p c h1
    obtain ⟨_, s0, h2, h3⟩ := hcase p _ h1
    cases s0 with
    | own _ _ _ _ => cases h3
    | oth c0 =>
      simp only [mapS, Sh.oth.injEq] at h3
      subst h3
      obtain ⟨o1, o2⟩ := R.hp.oth _ _ h2
      exact ⟨hok c0 o1, m.und _ o2⟩
  · intro p i j h e vs c h1 h2
    have h1' := (hown _ _ _ _ _ h1).2
    obtain ⟨_, s0, h3, h4⟩ := hcase _ _ h2
    cases s0 with
    | own _ _ _ _ => cases h4
    | oth c0 =>
      simp only [mapS, Sh.oth.injEq] at h4
      subst h4
      rw [hext] at h3
      have := R.hp.pln _ _ _ _ _ _ _ h1' h3
      rw [m.pln _ this]
      exact this
  · intro p h e vs h1
    have := R.hp.pts _ _ _ _ (hown _ _ _ _ _ h1).2
    simp only [φ] at this
    split at this <;> exact this
  · intro p q h k e vs h' k' e' vs' g h1 h2 b1 b2
    exact hinj p q (hown _ _ _ _ _ h1).1 (hown _ _ _ _ _ h2).1 (R.hp.dis _ _ _ _ _ _ _ _ _ _ g (hown _ _ _ _ _ h1).2 (hown _ _ _ _ _ h2).2 b1 b2)
  · intro n k h K e vs hn h1
    have h2 := (hown _ _ _ _ _ h1).2
    have : φ ⟨n, k, []⟩ = ⟨n, k, []⟩ := by
      simp only [φ]
      rw [if_neg (by omega)]
    rw [this] at h2
    exact R.hp.par n k h K e vs hn h2
  · intro p h k e vs g h1 hb; exact R.inO _ _ _ _ _ g (hown _ _ _ _ _ h1).2 hb
  · intro u v hv
    have : find u (Γ.tm.map fun x => (x.1, mapV (renC r t) x.2)) = some v := hv
    rw [find_map] at this
    obtain ⟨v0, hv0, rfl⟩ := Option.map_eq_some_iff.1 this
    obtain ⟨t1, t2⟩ := R.tms u v0 hv0
    refine ⟨by rw [t1, concV_map m], fun c hc => ?_⟩
    rw [cellsV_map] at hc
    obtain ⟨d, hd', rfl⟩ := List.mem_map.1 hc
    exact hok d (t2 d hd')
theorem moveR_ok {n : Nat} (hn : n ≤ 1000) : ∀ {ts : List Nat} {Γ : St Value} {σ' : St Unit}, Rel P hd w0 O N Γ a w → Γ.nt = n → moveR Γ.er ts = some σ' → DoneN P hd w0 O N n σ' a w
  | [], Γ, σ', R, hnt, h => by simp only [moveR, Option.some.injEq] at h; exact ⟨Γ, h, hnt, R⟩
  | t :: r, Γ, σ', R, hnt, h => by
    simp only [moveR] at h
    split at h
    · rename_i g q hf
      split at h
      · exact moveR_ok hn R hnt h
      · rename_i hqt
        split at h
        · exact moveR_ok hn R hnt h
        · rename_i hq
          split at h
          · rename_i hft
            have hlt : t < 1000 := by
              simp only [St.er] at hf
              rw [find_map] at hf
              obtain ⟨v, hv, _⟩ := Option.map_eq_some_iff.1 hf
              have := (Array.getElem?_eq_some_iff.1 (R.tms t v hv).1).1
              have := R.sz
              omega
            rw [← ren_er] at h
            exact moveR_ok hn (R.ren hqt ((find_er Γ).1 hft) (by omega) hlt) hnt h
          · cases h
    · exact moveR_ok hn R hnt h
theorem keep_ok {n : Nat} (hn : n ≤ 1000) (R : Rel P hd w0 O N Γ a w) (hnt : Γ.nt = n) {h : Hint} {σ' : St Unit} (hk : Γ.er.keep h = some σ') : DoneN P hd w0 O N n σ' a w := by
  unfold St.keep at hk
  rw [← pick_er] at hk
  exact moveR_ok hn (R.pick _ _) hnt hk
end
end Go.Mach

/- Regions that draw their order. -/
namespace Go.Mach
set_option linter.unusedVariables false
set_option linter.unusedSimpArgs false
section
variable {P : Program} {hd hd' : Nat → Nat → Option (Value × K × TypeId)} {w0 w w' : World} {O O' N N' : Nat → Prop} {Γ Γ' Γ0 Γ1 : St Value} {a a' : Act} {rt rt' : Rt} {Q : Exit → Act → World → Prop} {σ σ' : St Unit}
theorem build_congr (hr : σ'.rt = σ.rt) {t : TypeId} : ∀ {ps : List (Nat × Operand)} {cs : List (C Unit)}, (∀ x ∈ ps.map (·.2), opd σ' x = opd σ x) → build P σ' t ps cs = build P σ t ps cs
  | [], cs, h => rfl
  | (f, x) :: r, cs, h => by
    simp only [build]
    rw [h x (by simp)]
    cases fieldAt P t f with
    | none => rfl
    | some y =>
      obtain ⟨off, ft⟩ := y
      cases opd σ x with
      | none => rfl
      | some v =>
        simp only
        cases dat v with
        | none => rfl
        | some ds =>
          simp only
          split
          · exact build_congr hr (fun x hx => h x (by simp at hx ⊢; exact .inr hx))
          · rfl
theorem loadAt_congr (hr : σ'.rt = σ.rt) (t : TypeId) (p : Path) (i j : Nat) : loadAt P σ' t p i j = loadAt P σ t p i j := by
  simp only [loadAt, rowAt, hr]
theorem load_congr (hr : σ'.rt = σ.rt) (t : TypeId) (v : V Unit) : load P σ' t v = load P σ t v := by
  unfold load
  simp only [rowAt, hr, loadAt_congr hr]
theorem fieldAddr_congr (hr : σ'.rt = σ.rt) (s f : Nat) (v : V Unit) : fieldAddr P σ' s f v = fieldAddr P σ s f v := by
  unfold fieldAddr
  simp only [rowAt, hr]
theorem indexAddr_congr (hr : σ'.rt = σ.rt) (t : TypeId) (v u : V Unit) : indexAddr P σ' t v u = indexAddr P σ t v u := by
  unfold indexAddr
  simp only [rowAt, hr]
theorem lenOf_congr (hr : σ'.rt = σ.rt) (t : TypeId) (v : V Unit) : lenOf P σ' t v = lenOf P σ t v := by
  unfold lenOf
  simp only [rowAt, hr]
theorem bytesOf_congr (hr : σ'.rt = σ.rt) (v : V Unit) : bytesOf σ' v = bytesOf σ v := by
  unfold bytesOf
  simp only [rowAt, hr]
theorem valQ_congr (hr : σ'.rt = σ.rt) (op : Op) (h : ∀ x ∈ op.operands, opd σ' x = opd σ x) : valQ P σ' op = valQ P σ op := by
  cases op with
  | build t ps =>
    simp only [valQ]
    split
    · cases zeroB P t with
      | none => rfl
      | some z =>
        simp only
        rw [build_congr hr (fun x hx => h x (by simpa [Op.operands] using hx))]
    · rfl
  | slice t x lo hi mx =>
    cases mx with
    | some m => rfl
    | none =>
      have hx := h x (by simp [Op.operands])
      have hrow : ∀ p, rowAt σ' p = rowAt σ p := fun p => by simp only [rowAt, hr]
      cases lo with
      | none =>
        cases hi with
        | none => simp only [valQ, hrow, hx]
        | some y => simp only [valQ, hrow, hx, h y (by simp [Op.operands])]
      | some z =>
        cases hi with
        | none => simp only [valQ, hrow, hx, h z (by simp [Op.operands])]
        | some y => simp only [valQ, hrow, hx, h y (by simp [Op.operands]), h z (by simp [Op.operands])]
  | call c =>
    obtain ⟨callee, args, ats⟩ := c
    cases callee with
    | value f => rfl
    | invoke r m => rfl
    | builtin b =>
      have hargs : ∀ x ∈ args.toList, opd σ' x = opd σ x := fun x hx => h x (by simpa [Op.operands, Call.operands] using hx)
      cases b with
      | len =>
        simp only [valQ]
        split
        · rename_i x t hx ht
          rw [hargs x (by rw [hx]; simp)]
          simp only [lenOf_congr hr]
        · rfl
      | min =>
        simp only [valQ]
        split
        · rename_i x y hx
          rw [hargs x (by rw [hx]; simp), hargs y (by rw [hx]; simp)]
        · rfl
      | max =>
        simp only [valQ]
        split
        · rename_i x y hx
          rw [hargs x (by rw [hx]; simp), hargs y (by rw [hx]; simp)]
        · rfl
      | _ => rfl
  | _ =>
    first
    | rfl
    | (simp only [Op.operands] at h
       simp only [valQ, load_congr hr, fieldAddr_congr hr, indexAddr_congr hr, bytesOf_congr hr]
       simp [h])
theorem opd_put {d : Option Nat} {v : V Unit} {x : Operand} (h : ∀ t, d = some t → x ≠ .tmp t) : opd (σ.put d v) x = opd σ x := by
  cases d with
  | none => rfl
  | some t =>
    cases x with
    | tmp u =>
      have : u ≠ t := fun e => h t rfl (by rw [e])
      simp [opd, St.put, find, this]
    | _ => rfl
theorem put_rtU (d : Option Nat) (v : V Unit) : (σ.put d v).rt = σ.rt := by cases d <;> rfl
theorem put_findU (d : Option Nat) (v : V Unit) (t : Nat) : find t (σ.put d v).tm = if d = some t then some v else find t σ.tm := by
  cases d with
  | none => rfl
  | some u =>
    simp only [St.put, find, Option.some.injEq]
    by_cases h : t = u
    · subst h; simp
    · simp [h, Ne.symm h]
theorem looks_op {ops : Array Oper} {o : Oper} {t : Nat} (h : Operand.tmp t ∈ o.op.operands) : t ∈ o.looksAt ops :=
  List.mem_append_left _ (List.mem_filterMap.2 ⟨.tmp t, by simpa using h, rfl⟩)
theorem valO_put {ops : Array Oper} {o : Oper} {d : Option Nat} {v : V Unit} (h : ∀ t, d = some t → t ∉ o.looksAt ops) : valO P ops (σ.put d v) o = valO P ops σ o := by
  have hw : wants ops (σ.put d v) o = wants ops σ o := by
    unfold wants
    split
    · rfl
    · rename_i g want hg
      split
      · rename_i t ht
        rw [put_findU, if_neg ?_]
        intro hd
        refine h t hd ?_
        unfold Oper.looksAt
        rw [hg]
        simp [ht]
      · rfl
  unfold valO
  rw [hw]
  split
  · exact valQ_congr (put_rtU d v) _ (fun x hx => opd_put (fun t ht he => h t ht (looks_op (he ▸ hx))))
  · rfl
  · rfl
/-! a temporary is set anew to what reads the same -/
theorem updT_er {t : Nat} {U : V Value} : ∀ {l : List (Nat × V Value)} {v : V Value}, find t l = some v → v.er = U.er → (upd t (fun _ => U) l).map (fun x => (x.1, x.2.er)) = l.map fun x => (x.1, x.2.er)
  | [], v, h, _ => by cases h
  | (k, u) :: r, v, h, he => by
    simp only [find] at h
    simp only [upd]
    split at h
    · rename_i hk
      simp only [Option.some.injEq] at h
      subst h
      rw [if_pos hk]
      simp [he]
    · rename_i hk
      rw [if_neg hk]
      simp [updT_er h he]
theorem Rel.reput (R : Rel P hd w0 O N Γ a w) {t : Nat} {U v : V Value} (hf : find t Γ.tm = some v) (he : v.er = U.er) (hU : ∀ c ∈ cellsV U, OkC P w N Γ.rt c) : DoneN P hd w0 O N Γ.nt Γ.er (a.put (some t) (concV U)) w := by
  refine ⟨⟨Γ.nt, upd t (fun _ => U) Γ.tm, Γ.rt⟩, ?_, rfl, ⟨R.hp, R.nn, R.fr, R.inO, by rw [defers_put]; exact R.dfr, by rw [size_put]; exact R.sz, ?_⟩⟩
  · simp only [St.er, St.mk.injEq, true_and, and_true]
    exact updT_er hf he
  · intro u x hx
    have hlt : t < a.tmps.size := (Array.getElem?_eq_some_iff.1 (R.tms t v hf).1).1
    rw [tmps_put a _ _ u (fun y hy => Option.some.inj hy ▸ hlt)]
    simp only at hx
    rw [find_upd] at hx
    by_cases hu : t = u
    · subst hu
      rw [if_pos rfl, hf] at hx
      simp only [Option.map_some, Option.some.injEq] at hx
      subst hx
      rw [if_pos rfl]
      exact ⟨rfl, hU⟩
    · rw [if_neg hu] at hx
      rw [if_neg (by simpa using hu)]
      exact R.tms u x hx
/-! how many are left -/
def cnt (f : Nat → Bool) : Nat → Nat
  | 0 => 0
  | n + 1 => cnt f n + (if f n then 1 else 0)
theorem cnt_same {f g : Nat → Bool} : ∀ {n : Nat}, (∀ i, i < n → f i = g i) → cnt f n = cnt g n
  | 0, _ => rfl
  | n + 1, h => by simp only [cnt]; rw [cnt_same (fun i hi => h i (by omega)), h n (by omega)]
theorem cnt_less {f g : Nat → Bool} {j : Nat} : ∀ {n : Nat}, j < n → f j = true → g j = false → (∀ i, i ≠ j → g i = f i) → cnt f n = cnt g n + 1
  | 0, h, _, _, _ => by omega
  | n + 1, h, hf, hg, hs => by
    simp only [cnt]
    by_cases hj : j = n
    · subst hj
      rw [cnt_same (fun i hi => (hs i (by omega)).symm), hf, hg]
      simp
    · rw [cnt_less (by omega) hf hg hs, hs n (Ne.symm hj)]
      omega
theorem cnt_zero {f : Nat → Bool} : ∀ {n : Nat}, cnt f n = 0 → ∀ i, i < n → f i = false
  | 0, _, i, hi => by omega
  | n + 1, h, i, hi => by
    simp only [cnt] at h
    by_cases hn : i = n
    · subst hn
      cases hf : f i with
      | false => rfl
      | true => rw [hf] at h; simp at h
    · exact cnt_zero (n := n) (by omega) i (by omega)
theorem cnt_all {f : Nat → Bool} : ∀ {n : Nat}, (∀ i, i < n → f i = true) → cnt f n = n
  | 0, _ => rfl
  | n + 1, h => by simp only [cnt]; rw [cnt_all (fun i hi => h i (by omega)), h n (by omega)]; simp
theorem least {f : Nat → Bool} : ∀ {n : Nat}, 0 < cnt f n → ∃ i, i < n ∧ f i = true ∧ ∀ j, j < i → f j = false
  | 0, h => by simp [cnt] at h
  | n + 1, h => by
    by_cases hc : 0 < cnt f n
    · obtain ⟨i, h1, h2, h3⟩ := least hc
      exact ⟨i, by omega, h2, h3⟩
    · have h0 : cnt f n = 0 := by omega
      refine ⟨n, by omega, ?_, fun j hj => cnt_zero h0 j hj⟩
      simp only [cnt, h0] at h
      cases hf : f n with
      | true => rfl
      | false => rw [hf] at h; simp at h
/-! the static check of a tree -/
def aft (ops : Array Oper) (i : Nat) : List Nat := match ops[i]? with
  | some o => (o.after.toList.filter fun e => Region.binds .any e).map (·.on)
  | none => []
def subL (l m : List Nat) : Bool := l.all fun i => m.contains i
def qAt (ops : Array Oper) (i : Nat) : Bool := match ops[i]? with
  | some o => isQ o.op
  | none => false
/-- all that must come ahead -/
def anc (ops : Array Oper) : Nat → List Nat → List Nat → List Nat
  | 0, acc, _ => acc
  | _ + 1, acc, [] => acc
  | n + 1, acc, x :: todo => if acc.contains x then anc ops n acc todo else anc ops n (x :: acc) (aft ops x ++ todo)
def ancOf (ops : Array Oper) (i : Nat) : List Nat := anc ops 1000 [] (aft ops i)
theorem anc_ok {ops : Array Oper} {p : Nat → Prop} (h : ∀ i, p i → ∀ j ∈ aft ops i, p j) : ∀ (n : Nat) {acc todo : List Nat}, (∀ i ∈ acc, p i) → (∀ i ∈ todo, p i) → ∀ i ∈ anc ops n acc todo, p i
  | 0, acc, todo, ha, _, i, hi => ha i hi
  | n + 1, acc, [], ha, _, i, hi => ha i hi
  | n + 1, acc, x :: todo, ha, ht, i, hi => by
    simp only [anc] at hi
    split at hi
    · exact anc_ok h n ha (fun j hj => ht j (List.mem_cons_of_mem _ hj)) i hi
    · have hx := ht x (List.mem_cons_self ..)
      exact anc_ok h n (fun j hj => (List.mem_cons.1 hj).elim (fun e => e ▸ hx) (ha j)) (fun j hj => (List.mem_append.1 hj).elim (h x hx j) (fun h2 => ht j (List.mem_cons_of_mem _ h2))) i hi
def okTr (ops : Array Oper) : List Nat → List Nat → Tr → Bool
  | L, X, .done => X.isEmpty && (List.range ops.size).all fun i => L.contains i
  | L, X, .take i t => X.isEmpty && decide (i < ops.size) && !L.contains i && qAt ops i && subL (aft ops i) L && okTr ops (i :: L) [] t
  | L, X, .eff i chk t => decide (i < ops.size) && !L.contains i && !X.contains i && subL (aft ops i) L && (L.all fun q => !qAt ops q || chk.contains q || (ancOf ops i).contains q) && okTr ops (i :: L) [] t &&
      (List.range ops.size).all fun j => L.contains j || X.contains j || j == i || !subL (aft ops j) L
  | L, X, .alt i chk t r => decide (i < ops.size) && !L.contains i && !X.contains i && subL (aft ops i) L && (L.all fun q => !qAt ops q || chk.contains q || (ancOf ops i).contains q) && okTr ops (i :: L) [] t && okTr ops L (i :: X) r
def okPairs (ops : Array Oper) : Bool := (List.range ops.size).all fun i => (aft ops i).all (fun j => decide (j < i)) && match ops[i]? with
  | some oi => (match oi.dst with
    | some d => (List.range ops.size).all fun j => match ops[j]? with
      | some oj => (!(oj.looksAt ops).contains d || (aft ops j).contains i || !qAt ops i) && (j == i || !(oj.dst == some d))
      | none => true
    | none => true)
  | none => true
structure Pairs (ops : Array Oper) : Prop where
  low : ∀ i, i < ops.size → ∀ j ∈ aft ops i, j < i
  look : ∀ (i j : Nat) (oi oj : Oper) (d : Nat), qAt ops i = true → ops[i]? = some oi → ops[j]? = some oj → oi.dst = some d → d ∈ oj.looksAt ops → i ∈ aft ops j
  dst : ∀ (i j : Nat) (oi oj : Oper) (d : Nat), ops[i]? = some oi → ops[j]? = some oj → oi.dst = some d → oj.dst = some d → j = i
theorem okPairs_ok {ops : Array Oper} (h : okPairs ops = true) : Pairs ops := by
  unfold okPairs at h
  simp only [List.all_eq_true, List.mem_range, Bool.and_eq_true] at h
  have key : ∀ (i j : Nat) (oi oj : Oper) (d : Nat), ops[i]? = some oi → ops[j]? = some oj → oi.dst = some d → (qAt ops i = true → d ∈ oj.looksAt ops → i ∈ aft ops j) ∧ (oj.dst = some d → j = i) := by
    intro i j oi oj d hi hj hd'
    have hil := (Array.getElem?_eq_some_iff.1 hi).1
    have hjl := (Array.getElem?_eq_some_iff.1 hj).1
    have h1 := (h i hil).2
    rw [hi] at h1
    simp only [hd'] at h1
    simp only [List.all_eq_true, List.mem_range] at h1
    have h2 := h1 j hjl
    rw [hj] at h2
    simp only [Bool.and_eq_true, Bool.or_eq_true, Bool.not_eq_true', List.contains_eq_mem, decide_eq_false_iff_not, decide_eq_true_eq, beq_iff_eq] at h2
    refine ⟨fun hq hl => (h2.1.resolve_right (fun hn => Bool.noConfusion (hq.symm.trans hn))).resolve_left (fun hn => hn hl), fun hd2 => h2.2.resolve_right (fun hn => ?_)⟩
    rw [hd2] at hn
    simp at hn
  exact ⟨fun i hi j hj => by simpa using (h i hi).1 j hj, fun i j oi oj d hq h1 h2 h3 h4 => (key i j oi oj d h1 h2 h3).1 hq h4, fun i j oi oj d h1 h2 h3 h4 => (key i j oi oj d h1 h2 h3).2 h4⟩
theorem subL_ok {l m : List Nat} : subL l m = true ↔ ∀ i ∈ l, i ∈ m := by simp [subL, List.all_eq_true]
theorem mem_readyA {ops : Array Oper} {listed : Array Bool} {j : Nat} : j ∈ Region.ready .any ops listed ↔ j < ops.size ∧ listed.getD j true = false ∧ ∀ i ∈ aft ops j, listed.getD i false = true := by
  rw [mem_ready]
  constructor
  · rintro ⟨h0, o, ho, h⟩
    refine ⟨(Array.getElem?_eq_some_iff.1 ho).1, h0, fun i hi => ?_⟩
    unfold aft at hi
    rw [ho] at hi
    obtain ⟨e, he, rfl⟩ := List.mem_map.1 hi
    obtain ⟨h1, h2⟩ := List.mem_filter.1 he
    exact h e (by simpa using h1) h2
  · rintro ⟨h1, h0, h⟩
    refine ⟨h0, ops[j], by simp [h1], fun e he hb => h e.on ?_⟩
    unfold aft
    rw [Array.getElem?_eq_getElem h1]
    exact List.mem_map.2 ⟨e, List.mem_filter.2 ⟨by simpa using he, hb⟩, rfl⟩
theorem checks_mem {ops : Array Oper} : ∀ {l : List Nat}, checks P ops σ l → ∀ i ∈ l, chk1 P ops σ i
  | [], _, i, hi => by cases hi
  | x :: r, h, i, hi => by
    rcases List.mem_cons.1 hi with rfl | hi
    · exact h.1
    · exact checks_mem h.2 i hi
end
end Go.Mach

/- Regions that draw their order: any order does as the tree says. -/
namespace Go.Mach
set_option linter.unusedVariables false
set_option linter.unusedSimpArgs false
section
variable {hd hd' : Nat → Nat → Option (Value × K × TypeId)} {w0 w w' : World} {O O' N N' : Nat → Prop} {Γ Γ' Γ0 Γ1 : St Value} {a a' b : Act} {rt rt' : Rt} {Q : Exit → Act → World → Prop} {σ σ' : St Unit} {E : Env} {ops : Array Oper}
/-- A region under way: `L` done for the tree, of which `D` are not yet done in the run. `b`: the run's state, had it done them. -/
structure Way (E : Env) (ops : Array Oper) (hd : Nat → Nat → Option (Value × K × TypeId)) (w0 : World) (O N : Nat → Prop) (n : Nat) (L D : List Nat) (listed : Array Bool) (σ : St Unit) (a : Act) (w : World) : Prop where
  st : ∃ b : Act, DoneN E.P hd w0 O N n σ b w ∧ a.defers = [] ∧ a.tmps.size = b.tmps.size ∧ ∀ t, (∀ i ∈ D, ∀ o, ops[i]? = some o → o.dst ≠ some t) → a.tmps[t]? = b.tmps[t]?
  all : ∀ i, i < ops.size → (i ∈ L ↔ listed.getD i true = true ∨ i ∈ D)
  siz : listed.size = ops.size
  not : ∀ i ∈ D, i < ops.size ∧ listed.getD i true = false
  quiet : ∀ i ∈ D, qAt ops i = true
  same : ∀ i ∈ D, chk1 E.P ops σ i
  low : ∀ i ∈ L, i < ops.size ∧ ∀ j ∈ aft ops i, j ∈ L
  lowR : ∀ i, i < ops.size → listed.getD i true = true → ∀ j ∈ aft ops i, j < ops.size ∧ listed.getD j true = true
theorem getD_of {listed : Array Bool} {i : Nat} (h : i < listed.size) (d d' : Bool) : listed.getD i d = listed.getD i d' := by simp [Array.getD, h]
theorem listed_set {listed : Array Bool} {i j : Nat} (hs : i < listed.size) : (listed.setIfInBounds i true).getD j true = if j = i then true else listed.getD j true := by
  by_cases h : j = i
  · subst h; simp [hs]
  · rw [if_neg h]
    simp [Array.getElem?_setIfInBounds_ne (Ne.symm h)]
theorem lowR_set {listed : Array Bool} (hp : Pairs ops) (siz : listed.size = ops.size) (low : ∀ i, i < ops.size → listed.getD i true = true → ∀ j ∈ aft ops i, j < ops.size ∧ listed.getD j true = true) {j : Nat} (hj : j < ops.size) (hr : ∀ i ∈ aft ops j, listed.getD i false = true) :
    ∀ i, i < ops.size → (listed.setIfInBounds j true).getD i true = true → ∀ k ∈ aft ops i, k < ops.size ∧ (listed.setIfInBounds j true).getD k true = true := by
  intro i hi h k hk
  have hks : k < ops.size := by have := hp.low i hi k hk; omega
  refine ⟨hks, ?_⟩
  rw [listed_set (by rw [siz]; exact hj)] at h ⊢
  by_cases hkj : k = j
  · rw [if_pos hkj]
  · rw [if_neg hkj]
    by_cases hij : i = j
    · subst hij
      rw [getD_of (by rw [siz]; exact hks) true false]
      exact hr k hk
    · rw [if_neg hij] at h
      exact (low i hi h k hk).2
theorem eval_same {o : Oper} (h : ∀ t ∈ o.looksAt ops, a.tmps[t]? = b.tmps[t]?) (hs : ∀ cs x, o.op ≠ .select cs x) : execOp a.eval o = execOp b.eval o := by
  refine execOp_congr o hs (fun x hx => ?_)
  cases x with
  | tmp t => simp [Act.eval, h t (looks_op hx)]
  | _ => rfl
theorem wanted_same {o : Oper} (h : ∀ t ∈ o.looksAt ops, a.tmps[t]? = b.tmps[t]?) : Region.wanted o (yielded ops a.tmps) = Region.wanted o (yielded ops b.tmps) := by
  unfold Region.wanted
  cases hg : o.guard with
  | none => rfl
  | some gw =>
    obtain ⟨g, want⟩ := gw
    have hy : yielded ops a.tmps g = yielded ops b.tmps g := by
      unfold yielded
      cases ht : (ops[g]?).bind (·.dst) with
      | none => rfl
      | some t =>
        simp only [Option.bind_some]
        rw [h t (by unfold Oper.looksAt; rw [hg]; simp [ht])]
    simp only [hy]
/-- what a ready operation looks at is there -/
theorem Way.sees {n : Nat} {L D : List Nat} {listed : Array Bool} (hp : Pairs ops) {j : Nat} {o : Oper} (ho : ops[j]? = some o) (hnot : ∀ i ∈ D, i < ops.size ∧ listed.getD i true = false) (hqq : ∀ i ∈ D, qAt ops i = true) (hs : listed.size = ops.size) (hr : ∀ i ∈ aft ops j, listed.getD i false = true)
    (hab : ∀ t, (∀ i ∈ D, ∀ o, ops[i]? = some o → o.dst ≠ some t) → a.tmps[t]? = b.tmps[t]?) : ∀ t ∈ o.looksAt ops, a.tmps[t]? = b.tmps[t]? := by
  intro t ht
  refine hab t (fun i hi oi hoi hdi => ?_)
  have h1 := hr i (hp.look i j oi o t (hqq i hi) hoi ho hdi ht)
  have h2 := hnot i hi
  rw [getD_of (by rw [hs]; exact h2.1) false true, h2.2] at h1
  cases h1
theorem lookJ {j : Nat} (h : j < ops.size) : ∃ o, ops[j]? = some o := ⟨ops[j], by simp [h]⟩
/-- one that the tree did already is done now -/
theorem Way.later {n : Nat} {L D : List Nat} {listed : Array Bool} (hp : Pairs ops) (hsel : Region.noSelect ops = true) (hd0 : okDst n ops = true) (W : Way E ops hd w0 O N n L D listed σ a w) {j : Nat} (hj : j ∈ D) (hr : ∀ i ∈ aft ops j, listed.getD i false = true)
    {K : Act → World → Prop} (hk : ∀ a' , Way E ops hd w0 O N n L (D.filter (· != j)) (listed.setIfInBounds j true) σ a' w → K a' w) : wpOp E.P ops Q j K a w := by
  obtain ⟨b, ⟨Γ, rfl, hnt, R⟩, hdf, hsz, hab⟩ := W.st
  obtain ⟨hjs, hjn⟩ := W.not j hj
  obtain ⟨o, ho⟩ := lookJ hjs
  have hsee := Way.sees (n := n) (L := L) hp ho W.not W.quiet W.siz hr hab
  have hex := eval_same hsee (fun cs x => Region.noSelect_spec hsel j o cs x ho)
  have hwa := wanted_same hsee
  have hdst := okDst_ok hd0 (Array.mem_of_getElem? ho)
  have hc := W.same j hj
  unfold chk1 at hc
  rw [ho] at hc
  simp only at hc
  -- the value
  have hv : ∃ v, valO E.P ops Γ.er o = some v ∧ ∀ t, o.dst = some t → find t Γ.er.tm = some v := by
    cases hd1 : o.dst with
    | none => rw [hd1] at hc; obtain ⟨v, h1⟩ := hc; exact ⟨v, h1, fun t ht => by cases ht⟩
    | some t => rw [hd1] at hc; obtain ⟨v, h1, h2⟩ := hc; exact ⟨v, h1, fun t' ht => by simp only [Option.some.injEq] at ht; subst ht; exact h2⟩
  obtain ⟨v, hv1, hv2⟩ := hv
  obtain ⟨U, rfl, hU, hrun⟩ := valO_ok R hv1
  -- the state behind
  have hW' : K (a.put o.dst (concV U)) w := by
    refine hk _ ⟨?_, ?_, ?_, ?_, ?_, ?_, W.low, lowR_set hp W.siz W.lowR hjs hr⟩
    · have hb' : DoneN E.P hd w0 O N n Γ.er (b.put o.dst (concV U)) w := by
        cases hd1 : o.dst with
        | none => exact ⟨Γ, rfl, hnt, R⟩
        | some t =>
          have h2 := hv2 t hd1
          simp only [St.er] at h2
          rw [find_map] at h2
          obtain ⟨V, hV, hVe⟩ := Option.map_eq_some_iff.1 h2
          rw [← hnt]
          exact R.reput hV hVe hU
      refine ⟨_, hb', by rw [defers_put]; exact hdf, by rw [size_put, size_put]; exact hsz, fun t ht => ?_⟩
      have hb1 : ∀ u, o.dst = some u → u < b.tmps.size := fun u hu => by rw [R.sz, hnt]; exact (hdst u hu).1
      rw [tmps_put a _ _ t (fun u hu => by rw [hsz]; exact hb1 u hu), tmps_put b _ _ t hb1]
      split
      · rfl
      · rename_i hne
        refine hab t (fun i hi oi hoi hdi => ?_)
        by_cases hij : i = j
        · subst hij
          rw [ho] at hoi
          simp only [Option.some.injEq] at hoi
          subst hoi
          exact hne hdi
        · exact ht i (List.mem_filter.2 ⟨hi, by simpa using hij⟩) oi hoi hdi
    · intro i hi
      rw [W.all i hi, listed_set (by rw [W.siz]; exact hjs)]
      by_cases hij : i = j
      · subst hij; simp [hj]
      · simp [hij]
    · simp [W.siz]
    · intro i hi
      obtain ⟨h1, h2⟩ := List.mem_filter.1 hi
      rw [listed_set (by rw [W.siz]; exact hjs), if_neg (by simpa using h2)]
      exact W.not i h1
    · exact fun i hi => W.quiet i (List.mem_filter.1 hi).1
    · exact fun i hi => W.same i (List.mem_filter.1 hi).1
  unfold Go.wpOp
  simp only [ho]
  rcases hrun with ⟨h1, h2⟩ | ⟨h1, h2⟩
  · rw [← hwa] at h1
    rw [if_pos h1]
    exact .inl (wp_value (by rw [hex]; exact h2) hW')
  · rw [← hwa] at h1
    rw [if_neg (by rw [h1]; simp), ← h2]
    exact hW'
/-- the tree does a quiet one ahead -/
theorem Way.take {n : Nat} {L D : List Nat} {listed : Array Bool} (hp : Pairs ops) (hd0 : okDst n ops = true) (W : Way E ops hd w0 O N n L D listed σ a w) {k : Nat} (hk : k < ops.size) (hkL : k ∉ L) (hq : qAt ops k = true) (haf : ∀ i ∈ aft ops k, i ∈ L) {o : Oper} (ho : ops[k]? = some o) {v : V Unit} (hv : valO E.P ops σ o = some v) :
    Way E ops hd w0 O N n (k :: L) (k :: D) listed (σ.put o.dst v) a w := by
  obtain ⟨b, ⟨Γ, rfl, hnt, R⟩, hdf, hsz, hab⟩ := W.st
  have hdst := okDst_ok hd0 (Array.mem_of_getElem? ho)
  obtain ⟨U, rfl, hU, _⟩ := valO_ok R hv
  have hself : ∀ t, o.dst = some t → t ∉ o.looksAt ops := by
    intro t ht hl
    have h1 := hp.look k k o o t hq ho ho ht hl
    have := hp.low k hk k h1
    omega
  refine ⟨⟨b.put o.dst (concV U), ⟨Γ.put o.dst U, put_er _ _ _, by rw [put_nt]; exact hnt, R.put o.dst (fun u hu => by rw [hnt]; exact (hdst u hu).1) hU⟩, hdf, by rw [size_put]; exact hsz, fun t ht => ?_⟩, ?_, W.siz, ?_, ?_, ?_, ?_, W.lowR⟩
  · have hb1 : ∀ u, o.dst = some u → u < b.tmps.size := fun u hu => by rw [R.sz, hnt]; exact (hdst u hu).1
    rw [tmps_put b _ _ t hb1, if_neg (ht k (List.mem_cons_self ..) o ho)]
    exact hab t (fun i hi => ht i (List.mem_cons_of_mem _ hi))
  · intro i hi
    simp only [List.mem_cons, W.all i hi]
    constructor
    · rintro (h | h | h)
      · exact .inr (.inl h)
      · exact .inl h
      · exact .inr (.inr h)
    · rintro (h | h | h)
      · exact .inr (.inl h)
      · exact .inl h
      · exact .inr (.inr h)
  · intro i hi
    rcases List.mem_cons.1 hi with rfl | hi
    · refine ⟨hk, ?_⟩
      cases hl : listed.getD i true with
      | false => rfl
      | true => exact absurd ((W.all i hk).2 (.inl hl)) hkL
    · exact W.not i hi
  · intro i hi
    rcases List.mem_cons.1 hi with rfl | hi
    · exact hq
    · exact W.quiet i hi
  · intro i hi
    rcases List.mem_cons.1 hi with rfl | hi
    · unfold chk1
      rw [ho]
      simp only
      cases hd1 : o.dst with
      | none => exact ⟨U.er, hv⟩
      | some t =>
        refine ⟨U.er, ?_, by rw [put_findU]; simp⟩
        rw [valO_put (fun u hu => hself u (by rw [hd1]; exact hu))]
        exact hv
    · have hc := W.same i hi
      have hil := (W.not i hi).1
      obtain ⟨oi, hoi⟩ := lookJ hil
      have hiL : i ∈ L := (W.all i hil).2 (.inr hi)
      have hno : ∀ t, o.dst = some t → t ∉ oi.looksAt ops := fun t ht hl => hkL ((W.low i hiL).2 k (hp.look k i o oi t hq ho hoi ht hl))
      unfold chk1 at hc ⊢
      rw [hoi] at hc ⊢
      simp only at hc ⊢
      cases hd1 : oi.dst with
      | none =>
        rw [hd1] at hc
        obtain ⟨x, hx⟩ := hc
        exact ⟨x, by rw [valO_put hno]; exact hx⟩
      | some t =>
        rw [hd1] at hc
        obtain ⟨x, hx, hy⟩ := hc
        refine ⟨x, by rw [valO_put hno]; exact hx, ?_⟩
        rw [put_findU, if_neg ?_]
        · exact hy
        · intro hdk
          exact hkL (hp.dst k i o oi t ho hoi hdk hd1 ▸ hiL)
  · intro i hi
    rcases List.mem_cons.1 hi with rfl | hi
    · exact ⟨hk, fun j hj => List.mem_cons_of_mem _ (haf j hj)⟩
    · exact ⟨(W.low i hi).1, fun j hj => List.mem_cons_of_mem _ ((W.low i hi).2 j hj)⟩
/-- the next one -/
theorem Way.next {n : Nat} {L D : List Nat} {listed : Array Bool} (S : Sound E.P E.M E.cf) (hp : Pairs ops) (hsel : Region.noSelect ops = true) (hd0 : okDst n ops = true) (W : Way E ops hd w0 O N n L D listed σ a w) {j : Nat} {o : Oper} (ho : ops[j]? = some o) (hjL : j ∉ L) (hr : ∀ i ∈ aft ops j, listed.getD i false = true)
    {σ1 : St Unit} (h : stepO E ops o σ = some σ1) {chk : List Nat} (hc : checks E.P ops σ1 chk) (hall : ∀ q ∈ L, qAt ops q = true → q ∈ chk ∨ q ∈ ancOf ops j)
    {K : Act → World → Prop} (hk : ∀ a' w', Way E ops hd w0 O N n (j :: L) D (listed.setIfInBounds j true) σ1 a' w' → K a' w') : wpOp E.P ops Q j K a w := by
  obtain ⟨b, ⟨Γ, rfl, hnt, R⟩, hdf, hsz, hab⟩ := W.st
  have hjs : j < ops.size := (Array.getElem?_eq_some_iff.1 ho).1
  have hsee := Way.sees (n := n) (L := L) hp ho W.not W.quiet W.siz hr hab
  have hex := eval_same hsee (fun cs x => Region.noSelect_spec hsel j o cs x ho)
  have hwa := wanted_same hsee
  have hdst := okDst_ok hd0 (Array.mem_of_getElem? ho)
  have hruns := stepO_ok S R (o := o) (by rw [hnt]; exact hdst) h
  have hb1 : ∀ u, o.dst = some u → u < b.tmps.size := fun u hu => by rw [R.sz, hnt]; exact (hdst u hu).1
  have hW' : ∀ v w', Done E.P hd w0 O N σ1 (b.put o.dst v) w' → K (a.put o.dst v) w' := by
    intro v w' hD
    refine hk _ _ ⟨⟨b.put o.dst v, hD.nt (by rw [size_put, R.sz, hnt]), by rw [defers_put]; exact hdf, by rw [size_put, size_put]; exact hsz, fun t ht => ?_⟩, ?_, ?_, ?_, W.quiet, ?_, ?_, lowR_set hp W.siz W.lowR hjs hr⟩
    · rw [tmps_put a _ _ t (fun u hu => by rw [hsz]; exact hb1 u hu), tmps_put b _ _ t hb1]
      split
      · rfl
      · exact hab t ht
    · intro i hi
      rw [listed_set (by rw [W.siz]; exact hjs)]
      by_cases hij : i = j
      · subst hij; simp
      · simp [hij, W.all i hi]
    · simp [W.siz]
    · intro i hi
      rw [listed_set (by rw [W.siz]; exact hjs), if_neg ?_]
      · exact W.not i hi
      · rintro rfl
        exact hjL ((W.all i (W.not i hi).1).2 (.inr hi))
    · intro i hi
      have hil := (W.not i hi)
      rcases hall i ((W.all i hil.1).2 (.inr hi)) (W.quiet i hi) with hm | hm
      · exact checks_mem hc i hm
      · have hbase : ∀ q ∈ aft ops j, q < ops.size ∧ listed.getD q true = true := fun q hq => by
          have hqs : q < ops.size := by have := hp.low j hjs q hq; omega
          refine ⟨hqs, ?_⟩
          rw [getD_of (by rw [W.siz]; exact hqs) true false]
          exact hr q hq
        have h1 := (anc_ok (p := fun q => q < ops.size ∧ listed.getD q true = true) (fun q hq => W.lowR q hq.1 hq.2) 1000 (by simp) hbase i hm).2
        rw [hil.2] at h1
        cases h1
    · intro i hi
      rcases List.mem_cons.1 hi with rfl | hi
      · refine ⟨hjs, fun q hq => List.mem_cons_of_mem _ ?_⟩
        have hqs : q < ops.size := by have := hp.low i hjs q hq; omega
        refine (W.all q hqs).2 (.inl ?_)
        rw [getD_of (by rw [W.siz]; exact hqs) true false]
        exact hr q hq
      · exact ⟨(W.low i hi).1, fun q hq => List.mem_cons_of_mem _ ((W.low i hi).2 q hq)⟩
  unfold Go.wpOp
  simp only [ho]
  rcases hruns with ⟨h1, h2⟩ | ⟨h1, h2⟩
  · rw [← hwa] at h1
    rw [if_pos h1]
    exact .inl (wp_move hex.symm h2 R.dfr hW' (fun _ _ h => h.dfr))
  · rw [← hwa] at h1
    rw [if_neg (by rw [h1]; simp)]
    exact hW' _ _ h2
def isTake : Tr → Bool
  | .take _ _ => true
  | _ => false
/-- the tree has a branch for what is next -/
theorem chain {h : Option Hint} {x : St Unit} {L : List Nat} {j : Nat} {o : Oper} (ho : ops[j]? = some o) (hjL : j ∉ L) (haf : ∀ i ∈ aft ops j, i ∈ L) : ∀ {tr : Tr} {X : List Nat}, isTake tr = false → okTr ops L X tr = true → j ∉ X → tree E ops h tr σ = some x →
    ∃ σ1 chk t, stepO E ops o σ = some σ1 ∧ checks E.P ops σ1 chk ∧ tree E ops h t σ1 = some x ∧ okTr ops (j :: L) [] t = true ∧ ∀ q ∈ L, qAt ops q = true → q ∈ chk ∨ q ∈ ancOf ops j
  | .done, X, _, hok, hjX, ht => by
    have hjs : j < ops.size := (Array.getElem?_eq_some_iff.1 ho).1
    simp only [okTr, Bool.and_eq_true, List.all_eq_true, List.mem_range, List.contains_eq_mem, decide_eq_true_eq] at hok
    exact absurd (hok.2 j hjs) hjL
  | .take i t, X, h1, _, _, _ => by cases h1
  | .eff i chk t, X, _, hok, hjX, ht => by
    have hjs : j < ops.size := (Array.getElem?_eq_some_iff.1 ho).1
    simp only [okTr, Bool.and_eq_true, List.all_eq_true, List.mem_range, List.contains_eq_mem, decide_eq_true_eq, Bool.or_eq_true, Bool.not_eq_true', decide_eq_false_iff_not, beq_iff_eq] at hok
    obtain ⟨⟨⟨⟨⟨⟨h1, h2⟩, h3⟩, h4⟩, h5⟩, h6⟩, h7⟩ := hok
    have hji : j = i := by
      rcases h7 j hjs with ((h | h) | h) | h
      · exact absurd h hjL
      · exact absurd h hjX
      · exact h
      · rw [subL_ok.2 haf] at h; cases h
    subst hji
    simp only [tree, ho] at ht
    split at ht
    · rename_i σ1 hs
      split at ht
      · rename_i hc
        exact ⟨σ1, chk, t, hs, hc, ht, h6, fun q hq hqa => by
          rcases h5 q hq with (h | h) | h
          · rw [hqa] at h; cases h
          · exact .inl h
          · exact .inr h⟩
      · cases ht
    · cases ht
  | .alt i chk t r, X, _, hok, hjX, ht => by
    simp only [okTr, Bool.and_eq_true, List.all_eq_true, List.mem_range, List.contains_eq_mem, decide_eq_true_eq, Bool.or_eq_true, Bool.not_eq_true', decide_eq_false_iff_not, beq_iff_eq] at hok
    obtain ⟨⟨⟨⟨⟨⟨h1, h2⟩, h3⟩, h4⟩, h5⟩, h6⟩, h7⟩ := hok
    have hi : ops[i]? = some ops[i] := by simp [h1]
    simp only [tree, hi] at ht
    split at ht
    · rename_i σ1 hs
      split at ht
      · rename_i hc
        split at ht
        · rename_i y hy
          split at ht
          · rename_i hr
            simp only [Option.some.injEq] at ht
            subst ht
            by_cases hji : j = i
            · subst hji
              rw [hi] at ho
              simp only [Option.some.injEq] at ho
              subst ho
              exact ⟨σ1, chk, t, hs, hc, hy, h6, fun q hq hqa => by
                rcases h5 q hq with (h | h) | h
                · rw [hqa] at h; cases h
                · exact .inl h
                · exact .inr h⟩
            · refine chain ho hjL haf (tr := r) (X := i :: X) ?_ h7 (by simp [hji, hjX]) hr
              cases r with
              | take k t => simp [okTr] at h7
              | _ => rfl
          · cases ht
        · cases ht
      · cases ht
    · cases ht
theorem tree_ok (S : Sound E.P E.M E.cf) (hp : Pairs ops) (hsel : Region.noSelect ops = true) {n : Nat} (hn : n ≤ 1000) (hd0 : okDst n ops = true) {h : Option Hint} {x : St Unit} (hq : ∀ a' w', DoneN E.P hd w0 O N n x a' w' → Q .normal a' w') :
    ∀ (fuel : Nat) (tr : Tr) {L D : List Nat} {listed : Array Bool} {σ : St Unit} {a : Act} {w : World}, Way E ops hd w0 O N n L D listed σ a w → okTr ops L [] tr = true → cnt (fun i => !listed.getD i true) ops.size = fuel → tree E ops h tr σ = some x →
      wpAny E.P .any ops Q fuel listed a w := by
  intro fuel
  induction fuel with
  | zero =>
    intro tr
    induction tr with
    | take k t ih =>
      intro L D listed σ a w W hok hc ht
      simp only [okTr, Bool.and_eq_true, List.contains_eq_mem, decide_eq_true_eq, Bool.not_eq_true', decide_eq_false_iff_not] at hok
      obtain ⟨⟨⟨⟨⟨_, h1⟩, h2⟩, h3⟩, h4⟩, h5⟩ := hok
      obtain ⟨o, ho⟩ := lookJ h1
      simp only [tree, ho] at ht
      split at ht
      · rename_i v hv
        exact ih (W.take hp hd0 h1 h2 h3 (subL_ok.1 h4) ho hv) h5 hc ht
      · cases ht
    | done =>
      intro L D listed σ a w W hok hc ht
      have hz := cnt_zero hc
      have hready : Region.ready .any ops listed = [] := by
        rw [List.eq_nil_iff_forall_not_mem]
        intro j hj
        obtain ⟨h1, h2, _⟩ := mem_readyA.1 hj
        have := hz j h1
        simp only [h2, Bool.not_false] at this
        cases this
      have hD : D = [] := by
        rw [List.eq_nil_iff_forall_not_mem]
        intro i hi
        obtain ⟨h1, h2⟩ := W.not i hi
        have := hz i h1
        simp only [h2, Bool.not_false] at this
        cases this
      subst hD
      obtain ⟨b, hb, hdf, hsz, hab⟩ := W.st
      have hba : a = b := by
        obtain ⟨Γ, _, _, R⟩ := hb
        have : a.tmps = b.tmps := Array.ext_getElem? (fun i => hab i (fun j hj => by cases hj))
        have h2 := R.dfr
        cases a; cases b
        simp only at this hdf h2
        subst this; subst hdf; subst h2; rfl
      refine ⟨hready, hq _ _ ?_⟩
      rw [hba]
      simp only [tree] at ht
      cases h with
      | none => simp only [Option.some.injEq] at ht; subst ht; exact hb
      | some hh =>
        obtain ⟨Γ, rfl, hnt, R⟩ := hb
        exact keep_ok hn R hnt ht
    | eff i chk t _ =>
      intro L D listed σ a w W hok hc ht
      simp only [okTr, Bool.and_eq_true, List.contains_eq_mem, decide_eq_true_eq, Bool.not_eq_true', decide_eq_false_iff_not] at hok
      have h1 := hok.1.1.1.1.1.1
      have h2 := hok.1.1.1.1.1.2
      have := cnt_zero hc i h1
      simp only [Bool.not_eq_eq_eq_not, Bool.not_false] at this
      exact absurd ((W.all i h1).2 (.inl this)) h2
    | alt i chk t r _ _ =>
      intro L D listed σ a w W hok hc ht
      simp only [okTr, Bool.and_eq_true, List.contains_eq_mem, decide_eq_true_eq, Bool.not_eq_true', decide_eq_false_iff_not] at hok
      have h1 := hok.1.1.1.1.1.1
      have h2 := hok.1.1.1.1.1.2
      have := cnt_zero hc i h1
      simp only [Bool.not_eq_eq_eq_not, Bool.not_false] at this
      exact absurd ((W.all i h1).2 (.inl this)) h2
  | succ fuel IH =>
    -- with something left, something is ready
    have hne : ∀ {L D : List Nat} {listed : Array Bool} {σ : St Unit} {a : Act} {w : World}, Way E ops hd w0 O N n L D listed σ a w → cnt (fun i => !listed.getD i true) ops.size = fuel + 1 → Region.ready .any ops listed ≠ [] := by
      intro L D listed σ a w W hc hready
      obtain ⟨i, h1, h2, h3⟩ := least (f := fun i => !listed.getD i true) (n := ops.size) (by omega)
      have hm : i ∈ Region.ready .any ops listed := mem_readyA.2 ⟨h1, by simpa using h2, fun j hj => by
        have hji := hp.low i h1 j hj
        have := h3 j hji
        rw [getD_of (by rw [W.siz]; omega) false true]
        simpa using this⟩
      rw [hready] at hm
      cases hm
    have hcnt : ∀ {L D : List Nat} {listed : Array Bool} {σ : St Unit} {a : Act} {w : World} {j : Nat}, Way E ops hd w0 O N n L D listed σ a w → cnt (fun i => !listed.getD i true) ops.size = fuel + 1 → j < ops.size → listed.getD j true = false → cnt (fun i => !(listed.setIfInBounds j true).getD i true) ops.size = fuel := by
      intro L D listed σ a w j W hc hj hl
      have := cnt_less (f := fun i => !listed.getD i true) (g := fun i => !(listed.setIfInBounds j true).getD i true) hj (by simp only [hl]; rfl) (by rw [listed_set (by rw [W.siz]; exact hj)]; simp) (fun i hi => by rw [listed_set (by rw [W.siz]; exact hj), if_neg hi])
      omega
    have main : ∀ (tr : Tr), isTake tr = false → ∀ {L D : List Nat} {listed : Array Bool} {σ : St Unit} {a : Act} {w : World}, Way E ops hd w0 O N n L D listed σ a w → okTr ops L [] tr = true → cnt (fun i => !listed.getD i true) ops.size = fuel + 1 → tree E ops h tr σ = some x →
        wpAny E.P .any ops Q (fuel + 1) listed a w := by
      intro tr htk L D listed σ a w W hok hc ht
      refine ⟨fun hready => absurd hready (hne W hc), fun j hj => ?_⟩
      obtain ⟨h1, h2, h3⟩ := mem_readyA.1 hj
      by_cases hjD : j ∈ D
      · exact W.later hp hsel hd0 hjD h3 (fun a' W' => IH tr W' hok (hcnt W hc h1 h2) ht)
      · have hjL : j ∉ L := fun hjL => by
          rcases (W.all j h1).1 hjL with h | h
          · rw [h2] at h; cases h
          · exact hjD h
        obtain ⟨o, ho⟩ := lookJ h1
        have haf : ∀ i ∈ aft ops j, i ∈ L := fun i hi => by
          have his : i < ops.size := by have := hp.low j h1 i hi; omega
          refine (W.all i his).2 (.inl ?_)
          rw [getD_of (by rw [W.siz]; exact his) true false]
          exact h3 i hi
        obtain ⟨σ1, chk, t, c1, c2, c3, c4, c5⟩ := chain ho hjL haf htk hok (by simp) ht
        exact W.next S hp hsel hd0 ho hjL h3 c1 c2 c5 (fun a' w' W' => IH t W' c4 (hcnt W hc h1 h2) c3)
    intro tr
    induction tr with
    | take k t ih =>
      intro L D listed σ a w W hok hc ht
      simp only [okTr, Bool.and_eq_true, List.contains_eq_mem, decide_eq_true_eq, Bool.not_eq_true', decide_eq_false_iff_not] at hok
      obtain ⟨⟨⟨⟨⟨_, h1⟩, h2⟩, h3⟩, h4⟩, h5⟩ := hok
      obtain ⟨o, ho⟩ := lookJ h1
      simp only [tree, ho] at ht
      split at ht
      · rename_i v hv
        exact ih (W.take hp hd0 h1 h2 h3 (subL_ok.1 h4) ho hv) h5 hc ht
      · cases ht
    | done => exact main .done rfl
    | eff i chk t _ => exact main (.eff i chk t) rfl
    | alt i chk t r _ _ => exact main (.alt i chk t r) rfl
theorem Rel.drew {P : Program} (R : Rel P hd w0 O N Γ a w) : Rel P hd w0 O N Γ a { w with drawn := w.drawn + 1 } := by
  have f := Fr.drew w (fun _ => False)
  refine R.step (fun p => p) f (fun _ h => h.elim) (Org.id fun p h k e vs hp => ⟨vs, hp⟩) (fun p h k e vs hp => (R.hp.own p h k e vs hp).fr f (fun _ _ h => h)) (fun kp p c hp => ?_) R.hp.pln R.hp.pts R.hp.par R.dfr R.sz (fun kp t v hv => ?_)
  · obtain ⟨o1, o2⟩ := R.hp.oth p c hp
    exact ⟨kp c o1 (fun q h k e vs _ hq => ⟨vs, hq⟩), o2⟩
  · obtain ⟨t1, t2⟩ := R.tms t v hv
    exact ⟨t1, fun c hc => kp c (t2 c hc) (fun q h k e vs _ hq => ⟨vs, hq⟩)⟩
theorem drawn_ok (S : Sound E.P E.M E.cf) (hm : E.P.follows .mixedOrders = true) {id n : Nat} (hn : n ≤ 1000) (hpr : okPairs ops = true) (hsel : Region.noSelect ops = true) (hd0 : okDst n ops = true) {h : Option Hint} {tr : Tr} (hok : okTr ops [] [] tr = true) {x : St Unit} (hq : ∀ a' w', DoneN E.P hd w0 O N n x a' w' → Q .normal a' w')
    (R : Rel E.P hd w0 O N Γ a w) (hnt : Γ.nt = n) (ht : tree E ops h tr Γ.er = some x) : (Code.region id ops true).wp E.P Q a w := by
  refine wp_region_any hm ?_
  refine tree_ok S (okPairs_ok hpr) hsel hn hd0 hq ops.size tr (L := []) (D := []) ⟨⟨a, ⟨Γ, rfl, hnt, R.drew⟩, R.dfr, rfl, fun _ _ => rfl⟩, ?_, by simp, by simp, by simp, by simp, by simp, fun i hi h => by simp [hi] at h⟩ hok ?_ ht
  · intro i hi
    simp [hi]
  · apply cnt_all
    intro i hi
    simp [hi]
end
end Go.Mach

/- Code is run. -/
namespace Go.Mach
set_option linter.unusedVariables false
set_option linter.unusedSimpArgs false
section
variable {hd hd' : Nat → Nat → Option (Value × K × TypeId)} {w0 w w' : World} {O O' N N' : Nat → Prop} {Γ Γ' Γ0 Γ1 : St Value} {a a' b : Act} {rt rt' : Rt} {σ σ' : St Unit} {E : Env} {ops : Array Oper}
/-- the code is such as the machine takes -/
def okC (H : FnHint) (n : Nat) : Code → Bool
  | .region id ops draw => okDst n ops && (!draw || (okPairs ops && Region.noSelect ops && okTr ops [] [] (H.tree id)))
  | .seq a b => okC H n a && okC H n b
  | .cond _ a b => okC H n a && okC H n b
  | .block _ b => okC H n b
  | .loop b => okC H n b
  | _ => true
def exitOf : Ex → Exit
  | .normal => .normal
  | .exit i => .exit i
  | .ret => .ret
theorem loop_ok {hn : Hint} {n : Nat} (hle : n ≤ 1000) {c : Code} {body : St Unit → Option (St Unit × Ex)}
    (hb : ∀ {σ' : St Unit} {ex : Ex} {Γ : St Value} {a : Act} {w : World} {Q : Exit → Act → World → Prop}, Rel E.P hd w0 O N Γ a w → Γ.nt = n → body Γ.er = some (σ', ex) → (∀ a' w', DoneN E.P hd w0 O N n σ' a' w' → Q (exitOf ex) a' w') → c.wp E.P Q a w) :
    ∀ (m : Nat) {σ' : St Unit} {ex : Ex} {Γ : St Value} {a : Act} {w : World} {Q : Exit → Act → World → Prop}, Rel E.P hd w0 O N Γ a w → Γ.nt = n → loopN body (·.keep hn) m Γ.er = some (σ', ex) → (∀ a' w', DoneN E.P hd w0 O N n σ' a' w' → Q (exitOf ex) a' w') → Code.rounds E.P c Q m a w
  | 0, σ', ex, Γ, a, w, Q, R, hnt, h, hq => by simp [loopN] at h
  | m + 1, σ', ex, Γ, a, w, Q, R, hnt, h, hq => by
    simp only [loopN] at h
    split at h
    · rename_i σ1 h1
      obtain ⟨Γ1, rfl, hnt1, R1⟩ := keep_ok hle R hnt h1
      rw [rounds_succ]
      split at h
      · rename_i σ2 h2
        refine hb R1 hnt1 h2 (fun a' w' hD => ?_)
        obtain ⟨Γ2, rfl, hnt2, R2⟩ := hD
        exact loop_ok hle hb m R2 hnt2 h hq
      · rename_i r hr
        cases hbd : body Γ1.er with
        | none => rw [hbd] at h; cases h
        | some x =>
          obtain ⟨σ2, ex2⟩ := x
          rw [hbd] at h
          have hex : ex2 ≠ .normal := by
            rintro rfl
            exact hr σ2 hbd
          simp only [Option.some.injEq, Prod.mk.injEq] at h
          obtain ⟨rfl, rfl⟩ := h
          refine hb R1 hnt1 hbd (fun a' w' hD => ?_)
          have := hq a' w' hD
          cases ex2 <;> first | exact absurd rfl hex | exact this
    · cases h
theorem exec_ok (S : Sound E.P E.M E.cf) (hm : E.P.follows .mixedOrders = true) {n m : Nat} (hn : n ≤ 1000) (H : FnHint) : ∀ (c : Code) {σ' : St Unit} {ex : Ex} {Γ : St Value} {a : Act} {w : World} {Q : Exit → Act → World → Prop}, okC H n c = true → Rel E.P hd w0 O N Γ a w → Γ.nt = n →
    exec E H m c Γ.er = some (σ', ex) → (∀ a' w', DoneN E.P hd w0 O N n σ' a' w' → Q (exitOf ex) a' w') → c.wp E.P Q a w := by
  intro c
  induction c with
  | skip =>
    intro σ' ex Γ a w Q hok R hnt h hq
    simp only [exec, Option.some.injEq, Prod.mk.injEq] at h
    obtain ⟨rfl, rfl⟩ := h
    exact wp_skip (hq _ _ ⟨Γ, rfl, hnt, R⟩)
  | region id ops draw =>
    intro σ' ex Γ a w Q hok R hnt h hq
    simp only [okC, Bool.and_eq_true, Bool.or_eq_true, Bool.not_eq_true'] at hok
    cases draw with
    | false =>
      simp only [exec] at h
      split at h
      · rename_i σ1 h1
        split at h
        · rename_i hh hh1
          obtain ⟨y, hy, h2⟩ := Option.map_eq_some_iff.1 h
          simp only [Prod.mk.injEq] at h2
          obtain ⟨rfl, rfl⟩ := h2
          refine region_ok S hok.1 (fun a' w' hD => ?_) R hnt h1
          obtain ⟨Γ1, rfl, hnt1, R1⟩ := hD
          exact hq _ _ (keep_ok hn R1 hnt1 hy)
        · simp only [Option.some.injEq, Prod.mk.injEq] at h
          obtain ⟨rfl, rfl⟩ := h
          exact region_ok S hok.1 hq R hnt h1
      · cases h
    | true =>
      simp only [exec] at h
      obtain ⟨y, hy, h2⟩ := Option.map_eq_some_iff.1 h
      simp only [Prod.mk.injEq] at h2
      obtain ⟨rfl, rfl⟩ := h2
      have hok2 := hok.2.resolve_left (by simp)
      exact drawn_ok S hm hn hok2.1.1 hok2.1.2 hok.1 hok2.2 hq R hnt hy
  | seq x y ihx ihy =>
    intro σ' ex Γ a w Q hok R hnt h hq
    simp only [okC, Bool.and_eq_true] at hok
    simp only [exec] at h
    refine wp_seq ?_
    split at h
    · rename_i σ1 h1
      refine ihx hok.1 R hnt h1 (fun a' w' hD => ?_)
      obtain ⟨Γ1, rfl, hnt1, R1⟩ := hD
      exact ihy hok.2 R1 hnt1 h hq
    · rename_i r hr
      refine ihx hok.1 R hnt h (fun a' w' hD => ?_)
      have := hq a' w' hD
      cases ex with
      | normal => exact absurd h (hr σ')
      | _ => exact this
  | cond c x y ihx ihy =>
    intro σ' ex Γ a w Q hok R hnt h hq
    simp only [okC, Bool.and_eq_true] at hok
    simp only [exec] at h
    split at h
    · rename_i q hc
      obtain ⟨U, hU, he, _⟩ := opd_ok R hc
      obtain ⟨d, rfl, hd'⟩ := inv_one hU
      obtain rfl := inv_bool hd'
      have he : a.eval c = .bool q := he
      cases q with
      | true => exact wp_cond he (ihx hok.1 R hnt (by simpa using h) hq)
      | false => exact wp_cond he (ihy hok.2 R hnt (by simpa using h) hq)
    · cases h
  | block id b ih =>
    intro σ' ex Γ a w Q hok R hnt h hq
    simp only [okC] at hok
    simp only [exec] at h
    refine wp_block ?_
    have hkp : ∀ {σ1 y : St Unit} {a' : Act} {w' : World}, σ1.keepO (H.blk id) = some y → DoneN E.P hd w0 O N n σ1 a' w' → DoneN E.P hd w0 O N n y a' w' := by
      intro σ1 y a' w' hy hD
      obtain ⟨Γ1, rfl, hnt1, R1⟩ := hD
      cases hb : H.blk id with
      | none =>
        rw [hb] at hy
        simp only [St.keepO, Option.some.injEq] at hy
        subst hy
        exact ⟨Γ1, rfl, hnt1, R1⟩
      | some hh =>
        rw [hb] at hy
        exact keep_ok hn R1 hnt1 hy
    cases hbd : exec E H m b Γ.er with
    | none => rw [hbd] at h; cases h
    | some x =>
      obtain ⟨σ1, e1⟩ := x
      rw [hbd] at h
      cases e1 with
      | normal =>
        simp only at h
        obtain ⟨y, hy, h2⟩ := Option.map_eq_some_iff.1 h
        simp only [Prod.mk.injEq] at h2
        obtain ⟨rfl, rfl⟩ := h2
        exact ih hok R hnt hbd (fun a' w' hD => hq _ _ (hkp hy hD))
      | exit i =>
        simp only at h
        refine ih hok R hnt hbd (fun a' w' hD => ?_)
        simp only [exitOf, Exit.inBlock]
        split at h
        · rename_i hi
          obtain ⟨y, hy, h2⟩ := Option.map_eq_some_iff.1 h
          simp only [Prod.mk.injEq] at h2
          obtain ⟨rfl, rfl⟩ := h2
          rw [if_pos hi]
          exact hq _ _ (hkp hy hD)
        · rename_i hi
          simp only [Option.some.injEq, Prod.mk.injEq] at h
          obtain ⟨rfl, rfl⟩ := h
          rw [if_neg hi]
          exact hq _ _ hD
      | ret =>
        simp only [Option.some.injEq, Prod.mk.injEq] at h
        obtain ⟨rfl, rfl⟩ := h
        exact ih hok R hnt hbd (fun a' w' hD => hq a' w' hD)
  | loop b ih =>
    intro σ' ex Γ a w Q hok R hnt h hq
    simp only [okC] at hok
    simp only [exec] at h
    exact wp_loop_rounds m (loop_ok hn (fun R hnt h hq => ih hok R hnt h hq) m R hnt h hq)
  | exit id =>
    intro σ' ex Γ a w Q hok R hnt h hq
    simp only [exec, Option.some.injEq, Prod.mk.injEq] at h
    obtain ⟨rfl, rfl⟩ := h
    exact wp_exit (hq _ _ ⟨Γ, rfl, hnt, R⟩)
  | ret =>
    intro σ' ex Γ a w Q hok R hnt h hq
    simp only [exec, Option.some.injEq, Prod.mk.injEq] at h
    obtain ⟨rfl, rfl⟩ := h
    exact wp_ret (hq _ _ ⟨Γ, rfl, hnt, R⟩)
  | _ =>
    intro σ' ex Γ a w Q hok R hnt h hq
    simp [exec] at h
end
end Go.Mach

/- Entering a function, and leaving it. -/
namespace Go.Mach
set_option linter.unusedVariables false
set_option linter.unusedSimpArgs false
section
variable {P : Program} {hd hd' : Nat → Nat → Option (Value × K × TypeId)} {w0 w w' : World} {O O' N N' M : Nat → Prop} {Γ Γ' Γ0 Γ1 Γ2 : St Value} {a a' b : Act} {rt rt' : Rt} {σ σ' : St Unit}
/-! in -/
theorem find_enterR' {γ : Type} : ∀ {ms : List Mode} {vs : List (V γ)} {i j : Nat} {m : Mode} {v : V γ}, ms[j]? = some m → m ≠ .ro → vs[j]? = some v → find (1000 + (i + j)) (enterR i ms vs) = some (cellsV v)
  | [], vs, i, j, m, v, h, _, _ => by simp at h
  | x :: ms, [], i, j, m, v, _, _, h => by simp at h
  | x :: ms, u :: vs, i, 0, m, v, h1, h2, h3 => by
    simp only [List.getElem?_cons_zero, Option.some.injEq] at h1 h3
    subst h1; subst h3
    cases x <;> simp [enterR, find] at h2 ⊢
  | x :: ms, u :: vs, i, j + 1, m, v, h1, h2, h3 => by
    have ih := find_enterR' (ms := ms) (vs := vs) (i := i + 1) (j := j) (by simpa using h1) h2 (by simpa using h3)
    have he : 1000 + (i + 1 + j) = 1000 + (i + (j + 1)) := by omega
    rw [he] at ih
    cases x with
    | ro => exact ih
    | kept => simp only [enterR, find]; rw [if_neg (by omega)]; exact ih
    | gone => simp only [enterR, find]; rw [if_neg (by omega)]; exact ih
theorem find_enterT {γ : Type} {t : Nat} {x : V γ} : ∀ {ms : List Mode} {vs : List (V γ)} {i : Nat}, find t (enterT i ms vs) = some x → ∃ j m v, ms[j]? = some m ∧ vs[j]? = some v ∧ t = i + j ∧ ((m = .ro ∧ x = v) ∨ (m ≠ .ro ∧ x = viewA (1000 + t) v))
  | [], vs, i, h => by simp [enterT, find] at h
  | m :: ms, [], i, h => by cases m <;> simp [enterT, find] at h
  | m :: ms, v :: vs, i, h => by
    have hrec : find t (enterT (i + 1) ms vs) = some x → ∃ j m' v', (m :: ms)[j]? = some m' ∧ (v :: vs)[j]? = some v' ∧ t = i + j ∧ ((m' = .ro ∧ x = v') ∨ (m' ≠ .ro ∧ x = viewA (1000 + t) v')) := by
      intro h
      obtain ⟨j, m', v', h1, h2, h3, h4⟩ := find_enterT h
      exact ⟨j + 1, m', v', by simpa using h1, by simpa using h2, by omega, h4⟩
    cases m with
    | ro =>
      simp only [enterT, find] at h
      split at h
      · rename_i ht
        simp only [Option.some.injEq] at h
        exact ⟨0, _, v, rfl, rfl, by simpa using ht, .inl ⟨rfl, h.symm⟩⟩
      · exact hrec h
    | kept =>
      simp only [enterT, find] at h
      split at h
      · rename_i ht
        simp only [Option.some.injEq] at h
        exact ⟨0, _, v, rfl, rfl, by simpa using ht, .inr ⟨by simp, by rw [ht]; exact h.symm⟩⟩
      · exact hrec h
    | gone =>
      simp only [enterT, find] at h
      split at h
      · rename_i ht
        simp only [Option.some.injEq] at h
        exact ⟨0, _, v, rfl, rfl, by simpa using ht, .inr ⟨by simp, by rw [ht]; exact h.symm⟩⟩
      · exact hrec h
theorem viewA_er (t : Nat) (v : V Value) (h : ∀ vs, v ≠ .tup vs) : (viewA t v).er = viewA t v.er := by
  cases v with
  | one c => simp [viewA, V.er, viewC_er]
  | agg cs => simp [viewA, V.er, viewO_er]
  | tup vs => exact absurd rfl (h vs)
theorem viewA_conc (t : Nat) (v : V Value) : concV (viewA t v) = concV v := by
  cases v with
  | one c => exact viewC_conc _ _
  | agg cs => simp [viewA, concV, viewO_conc]
  | tup vs => rfl
theorem enterR_er : ∀ {i : Nat} {ms : List Mode} {vs : List (V Value)}, erR (enterR i ms vs) = enterR i ms (vs.map V.er)
  | i, [], vs => by cases vs <;> simp [enterR, erR]
  | i, m :: ms, [] => by cases m <;> simp [enterR, erR]
  | i, m :: ms, v :: vs => by
    have ih := enterR_er (i := i + 1) (ms := ms) (vs := vs)
    simp only [erR] at ih
    cases m <;> simp [enterR, erR, ih, cellsV_er]
theorem enterT_er : ∀ {i : Nat} {ms : List Mode} {vs : List (V Value)}, (∀ v ∈ vs, ∀ x, v ≠ .tup x) → (enterT i ms vs).map (fun x => (x.1, x.2.er)) = enterT i ms (vs.map V.er)
  | i, [], vs, h => by cases vs <;> simp [enterT]
  | i, m :: ms, [], h => by cases m <;> simp [enterT]
  | i, m :: ms, v :: vs, h => by
    have ih := enterT_er (i := i + 1) (ms := ms) (vs := vs) (fun u hu => h u (List.mem_cons_of_mem _ hu))
    cases m <;> simp [enterT, ih, viewA_er _ v (h v (List.mem_cons_self ..))]
theorem enter_ok {ms : List Mode} {args : List (V Value)} (I : In P hd w O N ms args) {n : Nat} (hn : ms.length ≤ n) :
    Rel P hd w O N ⟨n, enterT 0 ms args, enterR 0 ms args⟩ { tmps := (args.map concV).toArray ++ Array.replicate (n - (args.map concV).toArray.size) undef, defers := [] } w := by
  refine ⟨I.hp, I.nn, Fr.refl w O, fun p h k e vs g h1 h2 => .inl (I.inO p h k e vs g h1 h2), rfl, ?_, ?_⟩
  · have := I.len
    simp only [Array.size_append, List.size_toArray, List.length_map, Array.size_replicate]
    omega
  · intro t x hx
    obtain ⟨j, m, v, h1, h2, h3, h4⟩ := find_enterT hx
    rw [Nat.zero_add] at h3
    subst h3
    have hlt : t < args.length := (List.getElem?_eq_some_iff.1 h2).1
    have htm : ((args.map concV).toArray ++ Array.replicate (n - (args.map concV).toArray.size) undef)[t]? = some (concV v) := by
      rw [Array.getElem?_append_left (by simpa using hlt)]
      simp [h2]
    rcases h4 with ⟨rfl, rfl⟩ | ⟨hm, rfl⟩
    · exact ⟨htm, fun c hc => OkC_plain (I.ro t x h2 h1 c hc).1 (I.ro t x h2 h1 c hc).2⟩
    · refine ⟨by rw [viewA_conc]; exact htm, fun c hc => ?_⟩
      have hf := find_enterR' (i := 0) h1 hm h2
      rw [Nat.zero_add] at hf
      have hcell : ∀ (k : Nat) (d : C Value), (cellsV v)[k]? = some d → OkC P w N (enterR 0 ms args) (viewC ⟨1000 + t, k, []⟩ d) := by
        intro k d hd'
        refine (view_ok (Γ := ⟨0, [], enterR 0 ms args⟩) I.hp ?_).1
        rw [getP_inn, hf]
        simp [hd', inn]
      cases v with
      | one d =>
        rw [mem1 hc]
        exact hcell 0 d rfl
      | agg cs =>
        obtain ⟨i, d, hd', rfl⟩ := viewO_get _ 0 cs c hc
        rw [Nat.zero_add]
        exact hcell i d hd'
      | tup vs => exact absurd rfl (I.tup _ (List.mem_of_getElem? h2) vs)
/-! out -/
def Kept (ms : List Mode) (n : Nat) : Prop := 1000 ≤ n ∧ ms[n - 1000]? = some Mode.kept
structure Ob (P : Program) (w : World) (N M : Nat → Prop) (ms : List Mode) (Γ Γ' : St Value) (es : List (C Value)) : Prop where
  sub : Subs Γ'.rt Γ.rt
  kp : ∀ p h k e vs, Kept ms p.n → G Γ.rt p = some (.own h k e vs) → G Γ'.rt p = some (.own h k e vs)
  fit : ∀ e ∈ es, Fit P w N M Γ'.rt .sl e ∨ ∃ g q k t vs, e = .ref g q ∧ Kept ms q.n ∧ G Γ'.rt q = some (.own g k t vs)
  was : ∀ e ∈ es, ∀ r h k t vs g, T e r = some (.own h k t vs) → blk h = some g → ¬ Apart Γ.rt g
  dis : ∀ (i j : Nat) (d d' : C Value) r r' h k t vs h' k' t' vs' g, es[i]? = some d → es[j]? = some d' → T d r = some (.own h k t vs) → T d' r' = some (.own h' k' t' vs') → blk h = some g → blk h' = some g → i = j
theorem Ob.nil {ms : List Mode} : Ob P w N M ms Γ Γ [] := ⟨fun _ _ _ _ _ h => h, fun _ _ _ _ _ _ h => h, by simp, by simp, by intros; simp_all⟩
theorem Ob.app {ms : List Mode} {es es' : List (C Value)} (A : Ob P w N M ms Γ Γ1 es) (B : Ob P w N M ms Γ1 Γ2 es') : Ob P w N M ms Γ Γ2 (es ++ es') := by
  have hT : ∀ e ∈ es, ∀ r h k t vs g, T e r = some (.own h k t vs) → blk h = some g → Apart Γ1.rt g := by
    intro e he r h k t vs g ht hb
    rcases A.fit e he with hf | ⟨_, q, _, _, _, rfl, _⟩
    · exact (hf.lay.apt r h k t vs g ht hb).1
    · rw [T_noOwn (by intros; simp)] at ht; split at ht <;> simp at ht
  refine ⟨fun p h k e vs hG => A.sub p h k e vs (B.sub p h k e vs hG), fun p h k e vs hk hG => B.kp p h k e vs hk (A.kp p h k e vs hk hG), ?_, ?_, ?_⟩
  · intro e he
    rcases List.mem_append.1 he with he | he
    · rcases A.fit e he with hf | ⟨g, q, k, t, vs, h1, h2, h3⟩
      · exact .inl (hf.sub B.sub)
      · exact .inr ⟨g, q, k, t, vs, h1, h2, B.kp _ _ _ _ _ h2 h3⟩
    · exact B.fit e he
  · intro e he r h k t vs g ht hb
    rcases List.mem_append.1 he with he | he
    · exact A.was e he r h k t vs g ht hb
    · exact fun hap => B.was e he r h k t vs g ht hb (hap.sub A.sub)
  · intro i j d d' r r' h k t vs h' k' t' vs' g hi hj t1 t2 b1 b2
    rw [List.getElem?_append] at hi hj
    split at hi <;> rename_i hi1 <;> split at hj <;> rename_i hj1
    · exact A.dis i j d d' r r' h k t vs h' k' t' vs' g hi hj t1 t2 b1 b2
    · exact absurd (hT d (List.mem_of_getElem? hi) r h k t vs g t1 b1) (B.was d' (List.mem_of_getElem? hj) r' h' k' t' vs' g t2 b2)
    · exact absurd (hT d' (List.mem_of_getElem? hj) r' h' k' t' vs' g t2 b2) (B.was d (List.mem_of_getElem? hi) r h k t vs g t1 b1)
    · have := B.dis _ _ d d' r r' h k t vs h' k' t' vs' g hi hj t1 t2 b1 b2
      omega
theorem gone_keep (R : Rel P hd w0 O N Γ a w) {q : Path} {g e xs} (h : getP Γ.rt q = some (.own g .sl e xs)) {p : Path} {h' k' e' vs} (hne : p.n ≠ q.n) (hG : G Γ.rt p = some (.own h' k' e' vs)) : G (gone Γ q g).rt p = some (.own h' k' e' vs) := by
  have h1 : getP (Γ.kill (under q)).rt q = some (.own g .sl e xs) := getP_mapRt_plain (killC_lossy _).mild R.hp h rfl (by intros; simp)
  obtain ⟨_, m2, _⟩ := G_mod (fun _ => .top g) h1
  show G (modP (fun _ => .top g) (Γ.kill (under q)).rt q) p = _
  rw [m2 p (fun r hr => hne (by rw [hr]; rfl)) (.inr rfl)]
  exact (G_map_own (killC_lossy _).mild R.hp).2 hG
theorem outC_ok {ms : List Mode} (R : Rel P hd w0 O N Γ a w) (hs : Subs Γ.rt Γ0.rt) (hk : ∀ p h k e vs, Kept ms p.n → G Γ0.rt p = some (.own h k e vs) → G Γ.rt p = some (.own h k e vs)) {lf : Leaf} {c : C Value} (hc : OkC P w N Γ0.rt c) (hu : c ≠ .und) {u : C Unit} (h : outC ms Γ.er lf c.er = some (σ', u)) :
    ∃ (Γ' : St Value) (d : C Value), Γ'.er = σ' ∧ d.er = u ∧ conc d = conc c ∧ Rel P hd w0 O N Γ' a w ∧ Ob P w N (Mk O w0) ms Γ Γ' [d] := by
  have hplain : plain c = true → (∀ h k e xs, c ≠ .own h k e xs) → outC ms Γ.er lf c.er = some (Γ.er, asOwn lf c.er) → ∃ (Γ' : St Value) (d : C Value), Γ'.er = σ' ∧ d.er = u ∧ conc d = conc c ∧ Rel P hd w0 O N Γ' a w ∧ Ob P w N (Mk O w0) ms Γ Γ' [d] := by
    intro hp hno h2
    rw [h2] at h
    simp only [Option.some.injEq, Prod.mk.injEq] at h
    obtain ⟨rfl, rfl⟩ := h
    have hb : Bare (asOwnG lf c) := by
      cases lf with
      | ot => exact .inl hno
      | sl e => cases c <;> first | exact .inl hno | exact .inr ⟨e, rfl⟩
    have hf : Fit P w N (Mk O w0) Γ.rt .sl (asOwnG lf c) := hb.fit (fun hn => by
      have : asOwnG lf c = c := by
        cases lf with
        | ot => rfl
        | sl e => cases c <;> first | rfl | exact absurd rfl (hn _ _ _ _)
      rw [this]
      exact ⟨OkC_plain hc hp, hu, fun _ => hp⟩)
    refine ⟨Γ, asOwnG lf c, rfl, asOwnG_er _ _, asOwnG_conc _ _, R, ⟨fun _ _ _ _ _ h => h, fun _ _ _ _ _ _ h => h, fun e he => ?_, fun e he r h k t vs g ht hb' => ?_, fun i j d d' r r' h k t vs h' k' t' vs' g hi hj _ _ _ _ => ?_⟩⟩
    · simp only [List.mem_cons, List.not_mem_nil, or_false] at he
      subst he; exact .inl hf
    · simp only [List.mem_cons, List.not_mem_nil, or_false] at he
      subst he
      obtain ⟨_, rfl, _⟩ := T_bare hb ht; cases hb'
    · have h1 := (List.getElem?_eq_some_iff.1 hi).1
      have h2 := (List.getElem?_eq_some_iff.1 hj).1
      simp only [List.length_cons, List.length_nil] at h1 h2
      omega
  have hone : ∀ {d : C Value} {i j : Nat} {x y : C Value}, [d][i]? = some x → [d][j]? = some y → i = j := by
    intro d i j x y hi hj
    have h1 := (List.getElem?_eq_some_iff.1 hi).1
    have h2 := (List.getElem?_eq_some_iff.1 hj).1
    simp only [List.length_cons, List.length_nil] at h1 h2
    omega
  cases c with
  | ref g q =>
    simp only [er_ref, outC] at h
    split at h
    · rename_i hkq
      simp only [Option.some.injEq, Prod.mk.injEq] at h
      obtain ⟨rfl, rfl⟩ := h
      obtain ⟨k, e, vs, hG⟩ := hc
      refine ⟨Γ, .ref g q, rfl, er_ref _ _, rfl, R, ⟨fun _ _ _ _ _ h => h, fun _ _ _ _ _ _ h => h, fun e' he => ?_, fun e he r h k t vs g ht hb' => ?_, fun i j d d' r r' h k t vs h' k' t' vs' g hi hj _ _ _ _ => hone hi hj⟩⟩
      · simp only [List.mem_cons, List.not_mem_nil, or_false] at he
        subst he
        exact .inr ⟨g, q, k, e, vs, rfl, hkq, hk _ _ _ _ _ hkq hG⟩
      · simp only [List.mem_cons, List.not_mem_nil, or_false] at he
        subst he
        rw [T_noOwn (by intros; simp)] at ht; split at ht <;> simp at ht
    · rename_i hkq
      split at h
      · rename_i g' e xs hq
        simp only [Option.some.injEq, Prod.mk.injEq] at h
        obtain ⟨rfl, rfl⟩ := h
        obtain ⟨d, hd1, hd2⟩ := getP_of (rt := Γ.rt) hq
        obtain ⟨g2, ys, rfl, rfl⟩ := inv_own hd2
        obtain ⟨R1, L1, L2, hown⟩ := R.gone hd1
        have hG : G Γ.rt q = some (.own g2 .sl e (ys.map (·.map conc))) := by unfold G; rw [hd1]; rfl
        have hhdr : g = g2 := by
          obtain ⟨k, e', vs, hG'⟩ := hc
          have := hs _ _ _ _ _ hG
          rw [this] at hG'
          simp only [Option.some.injEq, Sh.own.injEq] at hG'
          exact hG'.1.symm
        subst hhdr
        have hT : ∀ r, T (.own g .sl e ys) r = G Γ.rt (q.app r) := fun r => by unfold T G; rw [getP_app hd1]
        refine ⟨gone Γ q g, .own g .sl e ys, gone_er _ _ _, er_own _ _ _ _, rfl, R1, ⟨fun p h k e vs hG => (hown p h k e vs hG).2, fun p h k e vs hkp hG => gone_keep R hd1 (fun hn => hkq (by rw [hn] at hkp; exact hkp)) hG, fun e' he => ?_, fun e' he r h k t vs b ht hb' hap => ?_, fun i j d d' r r' h k t vs h' k' t' vs' g hi hj _ _ _ _ => hone hi hj⟩⟩
        · simp only [List.mem_cons, List.not_mem_nil, or_false] at he
          subst he
          exact .inl ⟨L1, L2, fun _ => rfl⟩
        · simp only [List.mem_cons, List.not_mem_nil, or_false] at he
          subst he
          rw [hT] at ht
          exact hap _ _ _ _ _ ht hb'
      · cases h
  | ptr => simp [outC, er_ptr] at h
  | sub => simp [outC, er_sub] at h
  | rp => simp [outC, er_rp] at h
  | und => exact absurd rfl hu
  | own => exact hc.elim
  | int k z => exact hplain rfl (by intros; simp) (by rw [er_int]; rfl)
  | bool b => exact hplain rfl (by intros; simp) (by rw [er_bool]; rfl)
  | str s => exact hplain rfl (by intros; simp) (by rw [er_str]; rfl)
  | fn f => exact hplain rfl (by intros; simp) (by rw [er_fn]; rfl)
  | nil => exact hplain rfl (by intros; simp) (by rw [er_nil]; rfl)
  | ro g e xs => exact hplain rfl (by intros; simp) (by rw [er_ro]; rfl)
  | top g => exact hplain rfl (by intros; simp) (by rw [er_top]; rfl)
theorem outCs_ok {ms : List Mode} : ∀ {ls : List Leaf} {cs : List (C Value)} {Γ : St Value} {σ' : St Unit} {ds : List (C Unit)}, Rel P hd w0 O N Γ a w → Subs Γ.rt Γ0.rt → (∀ p h k e vs, Kept ms p.n → G Γ0.rt p = some (.own h k e vs) → G Γ.rt p = some (.own h k e vs)) → (∀ c ∈ cs, OkC P w N Γ0.rt c ∧ c ≠ .und) → outCs ms Γ.er ls (cs.map C.er) = some (σ', ds) →
    ∃ (Γ' : St Value) (es : List (C Value)), Γ'.er = σ' ∧ es.map C.er = ds ∧ es.map conc = cs.map conc ∧ Rel P hd w0 O N Γ' a w ∧ Ob P w N (Mk O w0) ms Γ Γ' es
  | [], [], Γ, σ', ds, R, _, _, _, h => by
    simp only [outCs, List.map_nil, Option.some.injEq, Prod.mk.injEq] at h
    obtain ⟨rfl, rfl⟩ := h
    exact ⟨Γ, [], rfl, rfl, rfl, R, Ob.nil⟩
  | [], c :: cs, Γ, σ', ds, R, _, _, _, h => by simp [outCs] at h
  | l :: ls, [], Γ, σ', ds, R, _, _, _, h => by simp [outCs] at h
  | l :: ls, c :: cs, Γ, σ', ds, R, hs, hk, hc, h => by
    simp only [outCs, List.map_cons] at h
    split at h
    · rename_i σ1 u h1
      obtain ⟨⟨σ2, ds2⟩, h2, h3⟩ := Option.map_eq_some_iff.1 h
      simp only [Prod.mk.injEq] at h3
      obtain ⟨rfl, rfl⟩ := h3
      have hcc := hc c (List.mem_cons_self ..)
      obtain ⟨Γ1, d, e1, e2, e3, R1, A⟩ := outC_ok R hs hk hcc.1 hcc.2 h1
      rw [← e1] at h2
      obtain ⟨Γ2, es, f1, f2, f3, R2, B⟩ := outCs_ok R1 (fun p h k e vs hG => hs p h k e vs (A.sub p h k e vs hG)) (fun p h k e vs hp hG => A.kp p h k e vs hp (hk p h k e vs hp hG)) (fun c hm => hc c (List.mem_cons_of_mem _ hm)) h2
      exact ⟨Γ2, d :: es, f1, by simp [e2, f2], by simp [e3, f3], R2, A.app B⟩
    · cases h
def resS (a : Act) : ResultVar → Sem Value
  | .tmp t => pure (a.tmps.getD t undef)
  | .cell c t => do loadVar t (← asAddr (a.tmps.getD c undef))
def resW (P : Program) (w : World) (a : Act) (r : ResultVar) : Value := match (resS a r).run P w with
  | .ok v _ => v
  | _ => undef
theorem resV_ok (R : Rel P hd w0 O N Γ a w) {r : ResultVar} {v : V Unit} (h : resV P Γ.er r = some v) : ∃ U : V Value, U.er = v ∧ (∀ c ∈ cellsV U, OkC P w N Γ.rt c) ∧ (resS a r).run P w = .ok (concV U) w := by
  cases r with
  | tmp u =>
    simp only [resV, St.er] at h
    rw [find_map] at h
    obtain ⟨U, hU, rfl⟩ := Option.map_eq_some_iff.1 h
    obtain ⟨t1, t2⟩ := R.tms u U hU
    refine ⟨U, rfl, t2, ?_⟩
    simp [resS, t1]
  | cell c t =>
    simp only [resV] at h
    split at h
    · rename_i x hx
      simp only [St.er] at hx
      rw [find_map] at hx
      obtain ⟨U0, hU0, rfl⟩ := Option.map_eq_some_iff.1 hx
      obtain ⟨t1, t2⟩ := R.tms c U0 hU0
      obtain ⟨U, h1, h2, h3⟩ := load_ok R.hp t2 h
      refine ⟨U, h1, h2, ?_⟩
      have hg : a.tmps.getD c undef = concV U0 := by simp [t1]
      simp only [resS, hg]
      generalize concV U0 = x at h3
      unfold Instr.loadAt at h3
      cases x with
      | pointer ad =>
        cases ad with
        | some ad => simpa [Instr.sureAddr, asAddr] using h3
        | none => simp [Instr.sureAddr, stuck] at h3
      | _ => simp [Instr.sureAddr, stuck] at h3
    · cases h
theorem outs_ok {ms : List Mode} : ∀ {rs : List ResultVar} {ts : List TypeId} {Γ : St Value} {σ' : St Unit} {vals : List (Bool × List (C Unit))}, Rel P hd w0 O N Γ a w → outs P ms rs ts Γ.er = some (σ', vals) →
    ∃ (Γ' : St Value) (vs : List (Bool × List (C Value))), Γ'.er = σ' ∧ erL C.er vs = vals ∧ Rel P hd w0 O N Γ' a w ∧ Ob P w N (Mk O w0) ms Γ Γ' (vs.flatMap (·.2)) ∧ (∀ r ∈ rs, (resS a r).run P w = .ok (resW P w a r) w) ∧ vs.map conc1 = rs.map (resW P w a)
  | [], [], Γ, σ', vals, R, h => by
    simp only [outs, Option.some.injEq, Prod.mk.injEq] at h
    obtain ⟨rfl, rfl⟩ := h
    exact ⟨Γ, [], rfl, rfl, R, Ob.nil, by simp, rfl⟩
  | [], t :: ts, Γ, σ', vals, R, h => by simp [outs] at h
  | r :: rs, [], Γ, σ', vals, R, h => by simp [outs] at h
  | r :: rs, t :: ts, Γ, σ', vals, R, h => by
    simp only [outs] at h
    split at h
    · rename_i v hv
      split at h
      · rename_i ls hl
        split at h
        · rename_i ds hds
          split at h
          · rename_i σ1 cs h1
            obtain ⟨⟨σ2, vals2⟩, h2, h3⟩ := Option.map_eq_some_iff.1 h
            simp only [Prod.mk.injEq] at h3
            obtain ⟨rfl, rfl⟩ := h3
            obtain ⟨U, rfl, t2, t1⟩ := resV_ok R hv
            have hw : resW P w a r = concV U := by unfold resW; rw [t1]
            obtain ⟨rfl, hnt, hnu⟩ := dat_ok hds
            obtain ⟨Γ1, es, e1, e2, e3, R1, A⟩ := outCs_ok (Γ0 := Γ) R (fun _ _ _ _ _ h => h) (fun _ _ _ _ _ _ h => h) (fun c hc => ⟨t2 c hc, hnu c hc⟩) h1
            rw [← e1] at h2
            obtain ⟨Γ2, vs, f1, f2, R2, B, f3, f4⟩ := outs_ok R1 h2
            have hconc : conc1 (isAgg1 U.er, es) = concV U := by
              cases U with
              | one c =>
                simp only [cellsV, List.map_cons, List.map_nil] at e3
                cases es with
                | nil => simp at e3
                | cons e r =>
                  cases r with
                  | nil =>
                    simp only [List.map_cons, List.map_nil, List.cons.injEq, and_true] at e3
                    simp [V.er, isAgg1, conc1, concV, e3]
                  | cons y r => simp at e3
              | agg cs =>
                simp only [cellsV] at e3
                simp [V.er, isAgg1, conc1, concV, e3]
              | tup vs => exact absurd rfl (hnt vs)
            refine ⟨Γ2, (isAgg1 U.er, es) :: vs, f1, ?_, R2, by rw [List.flatMap_cons]; exact A.app B, ?_, ?_⟩
            · simp only [erL, List.map_cons, e2] at f2 ⊢
              rw [f2]
            · intro r' hr
              rcases List.mem_cons.1 hr with rfl | hr
              · rw [hw]; exact t1
              · exact f3 r' hr
            · simp only [List.map_cons, f4, hconc, hw]
          · cases h
        · cases h
      · cases h
    · cases h
theorem memb_keys {n : Nat} : ∀ {ms : List Mode} {i : Nat}, memb n (keysRw i ms) = true ↔ ∃ j m, ms[j]? = some m ∧ m ≠ .ro ∧ n = 1000 + (i + j)
  | [], i => by simp [keysRw, memb]
  | m :: ms, i => by
    have ih := memb_keys (n := n) (ms := ms) (i := i + 1)
    have hr : (∃ j m', ms[j]? = some m' ∧ m' ≠ .ro ∧ n = 1000 + (i + 1 + j)) → ∃ j m', (m :: ms)[j]? = some m' ∧ m' ≠ .ro ∧ n = 1000 + (i + j) := by
      rintro ⟨j, m', h1, h2, h3⟩; exact ⟨j + 1, m', by simpa using h1, h2, by omega⟩
    have hl : ∀ j m', (m :: ms)[j]? = some m' → m' ≠ .ro → n = 1000 + (i + j) → (m ≠ .ro ∧ n = 1000 + i) ∨ ∃ j m', ms[j]? = some m' ∧ m' ≠ .ro ∧ n = 1000 + (i + 1 + j) := by
      intro j m' h1 h2 h3
      cases j with
      | zero =>
        simp only [List.getElem?_cons_zero, Option.some.injEq] at h1
        subst h1
        exact .inl ⟨h2, by simpa using h3⟩
      | succ j => exact .inr ⟨j, m', by simpa using h1, h2, by omega⟩
    have hhead : m ≠ .ro → (memb n ((1000 + i) :: keysRw (i + 1) ms) = true ↔ ∃ j m', (m :: ms)[j]? = some m' ∧ m' ≠ .ro ∧ n = 1000 + (i + j)) := by
      intro hm
      simp only [memb]
      split
      · rename_i hn
        simp only [true_iff]
        exact ⟨0, m, rfl, hm, by simpa using hn⟩
      · rename_i hn
        rw [ih]
        constructor
        · exact hr
        · rintro ⟨j, m', h1, h2, h3⟩
          rcases hl j m' h1 h2 h3 with ⟨_, h⟩ | h
          · exact absurd h hn
          · exact h
    cases m with
    | ro =>
      simp only [keysRw]
      rw [ih]
      constructor
      · exact hr
      · rintro ⟨j, m', h1, h2, h3⟩
        rcases hl j m' h1 h2 h3 with ⟨h, _⟩ | h
        · exact absurd rfl h
        · exact h
    | kept => exact hhead (by simp)
    | gone => exact hhead (by simp)
theorem shutL_ok : ∀ {cs : List (C Value)}, shutL (cs.map C.er) = true → ∀ c ∈ cs, plain c = true ∧ ∀ h e xs, c = .own h .pt e xs → ∀ el ∈ xs, ∀ d ∈ el, plain d = true
  | [], _, c, hc => by cases hc
  | d :: r, h, c, hc => by
    have hp : shutL (r.map C.er) = true ∧ plain d = true ∧ ∀ h e xs, d = .own h .pt e xs → ∀ el ∈ xs, ∀ x ∈ el, plain x = true := by
      cases d with
      | own g k e xs =>
        simp only [List.map_cons, er_own, shutL] at h
        split at h
        · rename_i hs
          exact ⟨h, rfl, fun h' e' xs' he => by
            simp only [C.own.injEq] at he
            obtain ⟨rfl, rfl, rfl, rfl⟩ := he
            exact shut_ok hs rfl⟩
        · cases h
      | _ =>
        simp only [List.map_cons, er_int, er_bool, er_str, er_fn, er_nil, er_und, er_ro, er_rp, er_ref, er_ptr, er_sub, er_top, shutL, plain, if_true, if_false, Bool.false_eq_true] at h <;> exact ⟨h, rfl, by intros; simp_all⟩
    rcases List.mem_cons.1 hc with rfl | hc
    · exact hp.2
    · exact shutL_ok hp.1 c hc
theorem shutR_ok {n : Nat} {cs : List (C Value)} : ∀ {rt : Rt}, shutR (erR rt) = true → find n rt = some cs → shutL (cs.map C.er) = true
  | [], _, h => by cases h
  | (k, v) :: r, h, hf => by
    simp only [erR, List.map_cons, shutR] at h
    split at h
    · rename_i hv
      simp only [find] at hf
      split at hf
      · simp only [Option.some.injEq] at hf
        subst hf; exact hv
      · exact shutR_ok h hf
    · cases h
theorem leave_ok {fn : Func} {ms : List Mode} (R : Rel P hd w O N Γ a w') {r : Ret} (h : leave P fn ms Γ.er = some r) :
    ∃ (vals : List (Bool × List (C Value))) (fin : Rt), erL C.er vals = r.vals ∧ erR fin = r.fin ∧ (results fn a.tmps).run P w' = .ok (concR vals) w' ∧ Outs P hd w w' O N (vals.flatMap (·.2)) fin := by
  unfold leave at h
  split at h
  case h_2 => cases h
  rename_i σ' valsE ho
  split at h
  case isFalse => cases h
  rename_i hsh
  simp only [Option.some.injEq] at h
  subst h
  obtain ⟨Γ2, vs, rfl, rfl, R2, A, hres, hv⟩ := outs_ok R ho
  have hpk : erR (pickL Γ2.rt (keysRw 0 ms)) = pickL Γ2.er.rt (keysRw 0 ms) := by
    simp only [St.er, erR]
    rw [pickL_map]
  rw [← hpk] at hsh
  -- the run
  have hrun : (results fn a.tmps).run P w' = .ok (concR vs) w' := by
    have hm : ∀ f : ResultVar → Sem Value, (∀ x ∈ fn.results, (f x).run P w' = .ok (resW P w' a x) w') → (fn.results.mapM f).run P w' = .ok (Array.map (resW P w' a) fn.results) w' := fun f hf => mapM_run_at hf
    unfold results
    rw [Sem.run_bind, hm _ (by
      intro x hx
      have := hres x (by simpa using hx)
      cases x <;> exact this)]
    simp only [Result.andThen_ok, Sem.run_pure]
    congr 1
    have hmap : vs.map conc1 = (Array.map (resW P w' a) fn.results).toList := by rw [hv]; simp
    cases vs with
    | nil =>
      have h0 : (Array.map (resW P w' a) fn.results) = #[] := by
        apply Array.ext'
        simpa using hmap.symm
      simp only [h0]
      rfl
    | cons x rr =>
      cases rr with
      | nil =>
        have h0 : (Array.map (resW P w' a) fn.results) = #[conc1 x] := by
          apply Array.ext'
          simpa using hmap.symm
        simp only [h0]
        rfl
      | cons y rr =>
        have h0 : (Array.map (resW P w' a) fn.results) = ((x :: y :: rr).map conc1).toArray := by
          apply Array.ext'
          simpa using hmap.symm
        simp only [h0]
        rw [dif_neg (by simp)]
        rfl
  refine ⟨vs, pickL Γ2.rt (keysRw 0 ms), rfl, hpk, hrun, ?_⟩
  generalize hfin : pickL Γ2.rt (keysRw 0 ms) = fin at *
  generalize hes : vs.flatMap (·.2) = es at *
  have hG : ∀ p s, G fin p = some s → memb p.n (keysRw 0 ms) = true ∧ G Γ2.rt p = some s := by
    intro p s hp
    rw [← hfin, G_pick] at hp
    split at hp
    · rename_i hm; exact ⟨hm, hp⟩
    · cases hp
  have hGb : ∀ p, memb p.n (keysRw 0 ms) = true → G fin p = G Γ2.rt p := fun p hm => by rw [← hfin, G_pick, if_pos hm]
  have hoth : ∀ p c, G fin p = some (.oth c) → OkC P w' N fin c ∧ plain c = true := by
    intro p c hp
    obtain ⟨hm, hp2⟩ := hG _ _ hp
    have hp3 := hp
    unfold G at hp3
    rw [getP_inn] at hp3
    obtain ⟨d, hd2, hsh2⟩ := Option.map_eq_some_iff.1 hp3
    obtain ⟨cs, hf, hd3⟩ := Option.bind_eq_some_iff.1 hd2
    obtain ⟨c0, hc0, hin⟩ := Option.bind_eq_some_iff.1 hd3
    obtain ⟨s1, s2⟩ := shutL_ok (shutR_ok hsh hf) c0 (List.mem_of_getElem? hc0)
    have hpl : plain c = true := by
      cases hs : p.s with
      | nil =>
        rw [hs] at hin
        simp only [inn, Option.some.injEq] at hin
        subst hin
        cases c0 <;> first | (simp [sh] at hsh2; done) | (simp [sh] at hsh2; subst hsh2; exact s1)
      | cons x rr =>
        rw [hs] at hin
        obtain ⟨i, j⟩ := x
        obtain ⟨g, K, e, xs, el, c1, rfl, h1, h2, h3⟩ := inn_cons hin
        have hroot : getP Γ2.rt ⟨p.n, p.k, []⟩ = some (.own g K e xs) := by
          have hf2 : find p.n Γ2.rt = some cs := by
            rw [← hfin, find_pickL, if_pos hm] at hf
            exact hf
          rw [getP_inn, hf2]
          simp [hc0, inn]
        refine deep_plain R2.hp hroot (fun hk => ?_) (r := p.s) (by rw [hs]; simp) (d := c) ?_
        · subst hk; exact s2 g e xs rfl
        · have : (⟨p.n, p.k, []⟩ : Path).app p.s = p := by cases p; simp [Path.app]
          rw [this]; exact hp2
    exact ⟨OkC_plain (R2.hp.oth _ _ hp2).1 hpl, hpl⟩
  have hpf : Hp P hd N w' fin := by
    refine ⟨fun p h k e vs hp => R2.hp.own _ _ _ _ _ (hG _ _ hp).2, fun p c hp => ⟨(hoth p c hp).1, plain_und (hoth p c hp).2⟩, fun p i j h e vs c h1 h2 => (hoth _ c h2).2, fun p h e vs hp => R2.hp.pts _ _ _ _ (hG _ _ hp).2,
      fun p q h k e vs h' k' e' vs' g h1 h2 b1 b2 => R2.hp.dis _ _ _ _ _ _ _ _ _ _ g (hG _ _ h1).2 (hG _ _ h2).2 b1 b2, fun n k h K e vs hn hp => R2.hp.par _ _ _ _ _ _ hn (hG _ _ hp).2⟩
  have h0 : find 0 fin = none := by
    rw [← hfin, find_pickL, if_neg ?_]
    intro hm
    obtain ⟨j, m, _, _, hj⟩ := memb_keys.1 hm
    omega
  have hsubf : Subs fin Γ2.rt := fun p h k e vs hp => (hG _ _ hp).2
  have hfits : ∀ (k : Nat) (c : C Value), es[k]? = some c → Fit P w' N (Mk O w) fin .sl c ∨ ∃ g q k t vs, c = .ref g q ∧ Kept ms q.n ∧ G Γ2.rt q = some (.own g k t vs) := by
    intro k c hc
    rcases A.fit c (List.mem_of_getElem? hc) with hf | hf
    · exact .inl (hf.sub hsubf)
    · exact .inr hf
  have hnT : ∀ {g : Value} {q : Path} {r h k e vs}, T (C.ref g q) r = some (.own h k e vs) → False := by
    intro g q r h k e vs ht
    rw [T_noOwn (by intros; simp)] at ht; split at ht <;> simp at ht
  have hdeep : ∀ {c : C Value}, Fit P w' N (Mk O w) fin .sl c → ∀ {r d}, T c r = some (.oth d) → plain d = true := by
    intro c hf r d ht
    cases r with
    | nil =>
      have : c = d := by
        unfold T at ht
        cases c <;> simp [inn, sh] at ht <;> exact ht
      subst this
      exact hf.pl rfl
    | cons x r => exact hf.lay.deep hf.not_pt (by simp) ht
  have hroot : Root P w' N fin ((0, es) :: fin) es := by
    refine ⟨?_, ?_, ?_, ?_⟩
    · intro k c hc r h K e vs ht
      rcases hfits k c hc with hf | ⟨g, q, _, _, _, rfl, _⟩
      · exact ⟨(hf.lay.own r h K e vs ht).1, (hf.lay.own r h K e vs ht).2, fun g hg => (hf.lay.apt r h K e vs g ht hg).1⟩
      · exact (hnT ht).elim
    · intro k c hc r d ht
      rcases hfits k c hc with hf | ⟨g, q, k', t, vs', rfl, hk, hq⟩
      · exact ⟨OkC_plain (hf.lay.oth r d ht).1 (hdeep hf ht), (hf.lay.oth r d ht).2⟩
      · rw [T_noOwn (by intros; simp)] at ht
        split at ht
        · simp only [Option.some.injEq, Sh.oth.injEq] at ht
          subst ht
          refine ⟨⟨k', t, vs', ?_⟩, by simp⟩
          rw [G_add, if_neg (by have := hk.1; show ¬ q.n = 0; omega), hGb q (memb_keys.2 ⟨q.n - 1000, .kept, hk.2, by simp, by have := hk.1; omega⟩)]
          exact hq
        · cases ht
    · intro k c hc r i j h e vs d h1 h2
      rcases hfits k c hc with hf | ⟨g, q, _, _, _, rfl, _⟩
      · exact hf.lay.pln r i j h e vs d h1 h2
      · exact (hnT h1).elim
    · intro k k' c c' hc hc' r h K e vs r' h' K' e' vs' g t1 t2 b1 b2
      have := A.dis k k' c c' r r' h K e vs h' K' e' vs' g hc hc' t1 t2 b1 b2
      subst this
      rw [hc] at hc'
      simp only [Option.some.injEq] at hc'
      subst hc'
      rcases hfits k c hc with hf | ⟨g, q, _, _, _, rfl, _⟩
      · exact ⟨rfl, hf.lay.dis _ _ _ _ _ _ _ _ _ _ g t1 t2 b1 b2⟩
      · exact (hnT t1).elim
  refine ⟨hpf.root h0 (by omega) hroot, R2.fr, ?_, ?_⟩
  · intro p h k e vs g hp hb
    rcases G_root hp with ⟨_, c, h1, h2⟩ | ⟨_, h1⟩
    · rcases hfits _ c h1 with hf | ⟨g, q, _, _, _, rfl, _⟩
      · exact (hf.lay.apt _ _ _ _ _ g h2 hb).2
      · exact (hnT h2).elim
    · exact R2.inO _ _ _ _ _ g (hG _ _ h1).2 hb
  · intro p c hp hor
    rcases G_root hp with ⟨hn, d, h1, h2⟩ | ⟨_, h1⟩
    · have hs : p.s ≠ [] := hor.resolve_right (fun h => h hn)
      rcases hfits _ d h1 with hf | ⟨g, q, _, _, _, rfl, _⟩
      · exact hdeep hf h2
      · rw [T_noOwn (by intros; simp), if_neg hs] at h2
        cases h2
    · exact (hoth p c h1).2
end
end Go.Mach

/- A function answers as the machine says. -/
namespace Go.Mach
set_option linter.unusedVariables false
set_option linter.unusedSimpArgs false
/-- what a function must be like: looked at once, by the kernel -/
def okFn (P : Program) (M : FuncId → List Mode) (H : FuncId → FnHint) (f : FuncId) : Bool := match P.funcs[f]? with
  | some F => match F.body with
    | some c => decide (F.ntmps ≤ 1000) && decide ((M f).length ≤ F.ntmps) && !(F.name == "runtime.NumGoroutine") && okC (H f) F.ntmps c
    | none => false
  | none => false
/-- a table of functions, told otherwise -/
def Orac (P : Program) (M : FuncId → List Mode) (o : FuncId → Option (List (V Unit) → Option Ret)) : Prop := ∀ f g, o f = some g → Sound P M fun f' as => if f' = f then g as else none
theorem fn_sound (Z : Setup) (hm : Z.P.follows .mixedOrders = true) (hO : Orac Z.P Z.M Z.orac) (hF : ∀ f, Z.okF f = true → okFn Z.P Z.M Z.H f = true) : ∀ n, Sound Z.P Z.M (fn Z n)
  | 0 => fun f as r h => by cases h
  | n + 1 => by
    intro f as r h
    simp only [fn] at h
    split at h
    · rename_i g hg
      exact hO f g hg f as r (by simp only [if_true]; exact h)
    · split at h
      case h_2 => cases h
      rename_i F hf
      split at h
      case h_2 => cases h
      rename_i c hc
      split at h
      case isFalse => cases h
      rename_i hok
      have hok := hF f hok
      unfold okFn at hok
      rw [hf] at hok
      simp only at hok
      rw [hc] at hok
      simp only [Bool.and_eq_true, decide_eq_true_eq] at hok
      obtain ⟨⟨⟨h1, h2⟩, h3⟩, h4⟩ := hok
      refine ⟨?_, fun hd w O N args hargs I => ?_⟩
      · unfold okCall
        rw [hf]
        simp only [hc, Option.isSome_some, Bool.true_and]
        exact h3
      · subst hargs
        have hent := enter_ok I h2
        have hst : (⟨F.ntmps, enterT 0 (Z.M f) (args.map V.er), enterR 0 (Z.M f) (args.map V.er)⟩ : St Unit) = (⟨F.ntmps, enterT 0 (Z.M f) args, enterR 0 (Z.M f) args⟩ : St Value).er := by
          simp only [St.er, St.mk.injEq, true_and]
          exact ⟨(enterT_er I.tup).symm, enterR_er.symm⟩
        rw [hst] at h
        -- the body
        have key : ∀ (σ' : St Unit) (ex : Ex), ex ≠ .exit 0 ∧ (ex = .normal ∨ ex = .ret) → exec ⟨Z.P, Z.M, fn Z n⟩ (Z.H f) n c (⟨F.ntmps, enterT 0 (Z.M f) args, enterR 0 (Z.M f) args⟩ : St Value).er = some (σ', ex) → leave Z.P F (Z.M f) σ' = some r →
            Calls Z.P f (args.map concV).toArray w fun
              | .returned v, w' => ∃ (vals : List (Bool × List (C Value))) (fin : Rt), erL C.er vals = r.vals ∧ erR fin = r.fin ∧ v = concR vals ∧ Outs Z.P hd w w' O N (vals.flatMap (·.2)) fin
              | _, _ => False := by
          intro σ' ex hex he hl
          refine calls_of_wp hf hc ?_
          refine exec_ok (E := ⟨Z.P, Z.M, fn Z n⟩) (fn_sound Z hm hO hF n) hm h1 (Z.H f) c h4 hent rfl he (fun a' w' hD => ?_)
          obtain ⟨Γ1, rfl, _, R1⟩ := hD
          obtain ⟨vals, fin, e1, e2, e3, e4⟩ := leave_ok R1 hl
          have hpost : a'.defers = [] ∧ ∃ v, (results F a'.tmps).run Z.P w' = .ok v w' ∧ ∃ (vals : List (Bool × List (C Value))) (fin : Rt), erL C.er vals = r.vals ∧ erR fin = r.fin ∧ v = concR vals ∧ Outs Z.P hd w w' O N (vals.flatMap (·.2)) fin :=
            ⟨R1.dfr, _, e3, vals, fin, e1, e2, rfl, e4⟩
          rcases hex.2 with rfl | rfl <;> exact hpost
        split at h
        · rename_i σ' he
          exact key σ' .normal ⟨by simp, .inl rfl⟩ he h
        · rename_i σ' he
          exact key σ' .ret ⟨by simp, .inr rfl⟩ he h
        · cases h
end Go.Mach

/- The machine without fuel. -/
namespace Go.Mach
set_option linter.unusedVariables false
set_option linter.unusedSimpArgs false
open Classical in
noncomputable def lim {α : Type} (f : Nat → Option α) : Option α := if h : ∃ a n, ∀ m, n ≤ m → f m = some a then some h.choose else none
section
variable {α β : Type}
theorem lim_some {f : Nat → Option α} {a : α} : lim f = some a ↔ ∃ n, ∀ m, n ≤ m → f m = some a := by
  unfold lim
  constructor
  · intro h
    split at h
    · rename_i hh
      simp only [Option.some.injEq] at h
      subst h
      exact hh.choose_spec
    · cases h
  · intro h
    rw [dif_pos ⟨a, h⟩]
    congr 1
    have hh : ∃ a n, ∀ m, n ≤ m → f m = some a := ⟨a, h⟩
    obtain ⟨n, hn⟩ := hh.choose_spec
    obtain ⟨m, hm⟩ := h
    have h1 := hn (max n m) (by omega)
    have h2 := hm (max n m) (by omega)
    rw [h1] at h2
    simpa using h2
def Mono (f : Nat → Option α) : Prop := ∀ n m a, n ≤ m → f n = some a → f m = some a
theorem Mono.lim {f : Nat → Option α} (h : Mono f) {a : α} : lim f = some a ↔ ∃ n, f n = some a := by
  rw [lim_some]
  constructor
  · rintro ⟨n, hn⟩; exact ⟨n, hn n (Nat.le_refl _)⟩
  · rintro ⟨n, hn⟩; exact ⟨n, fun m hm => h n m a hm hn⟩
theorem Mono.const (x : Option α) : Mono (fun _ => x) := fun _ _ _ _ h => h
theorem lim_const (x : Option α) : lim (fun _ => x) = x := by
  cases x with
  | none =>
    cases h : lim (fun _ : Nat => (none : Option α)) with
    | none => rfl
    | some a => obtain ⟨n, hn⟩ := lim_some.1 h; cases hn n (Nat.le_refl _)
  | some a => exact lim_some.2 ⟨0, fun _ _ => rfl⟩
theorem opt_ext {x y : Option α} (h : ∀ a, x = some a ↔ y = some a) : x = y := by
  cases x with
  | none =>
    cases y with
    | none => rfl
    | some b => exact absurd ((h b).2 rfl) (by simp)
  | some a => exact ((h a).1 rfl).symm
theorem Mono.bind {f : Nat → Option α} {g : Nat → α → Option β} (hf : Mono f) (hg : ∀ a, Mono (fun n => g n a)) : Mono (fun n => (f n).bind (g n)) := by
  intro n m b hnm h
  obtain ⟨a, h1, h2⟩ := Option.bind_eq_some_iff.1 h
  show (f m).bind (g m) = some b
  rw [hf n m a hnm h1]
  exact hg a n m b hnm h2
theorem lim_bind {f : Nat → Option α} {g : Nat → α → Option β} (hf : Mono f) (hg : ∀ a, Mono (fun n => g n a)) : lim (fun n => (f n).bind (g n)) = (lim f).bind fun a => lim fun n => g n a := by
  apply opt_ext
  intro b
  rw [(hf.bind hg).lim]
  constructor
  · rintro ⟨n, hn⟩
    obtain ⟨a, h1, h2⟩ := Option.bind_eq_some_iff.1 hn
    rw [hf.lim.2 ⟨n, h1⟩]
    exact (hg a).lim.2 ⟨n, h2⟩
  · intro h
    obtain ⟨a, h1, h2⟩ := Option.bind_eq_some_iff.1 h
    obtain ⟨n, hn⟩ := hf.lim.1 h1
    obtain ⟨m, hm⟩ := (hg a).lim.1 h2
    refine ⟨max n m, ?_⟩
    rw [hf n _ a (by omega) hn]
    exact hg a m _ b (by omega) hm
theorem Mono.map {f : Nat → Option α} (hf : Mono f) (g : α → β) : Mono (fun n => (f n).map g) := by
  intro n m b hnm h
  obtain ⟨a, h1, h2⟩ := Option.map_eq_some_iff.1 h
  show (f m).map g = some b
  rw [hf n m a hnm h1]
  exact congrArg some h2
theorem lim_shift {f : Nat → Option α} (hf : Mono f) : lim (fun n => f (n + 1)) = lim f := by
  apply opt_ext
  intro a
  rw [hf.lim, (show Mono (fun n => f (n + 1)) from fun n m a hnm h => hf (n + 1) (m + 1) a (by omega) h).lim]
  constructor
  · rintro ⟨n, hn⟩; exact ⟨n + 1, hn⟩
  · rintro ⟨n, hn⟩; exact ⟨n, hf n (n + 1) a (by omega) hn⟩
/-- a value, where another comes to the same -/
theorem Mono.both {f g : Nat → Option α} (hf : Mono f) (hg : Mono g) [DecidableEq (Option α)] : Mono (fun n => (f n).bind fun x => if g n = some x then some x else none) := by
  intro n m a hnm h
  obtain ⟨x, h1, h2⟩ := Option.bind_eq_some_iff.1 h
  show (f m).bind _ = some a
  rw [hf n m x hnm h1]
  simp only [Option.bind_some]
  split at h2
  · rename_i hx
    rw [hg n m x hnm hx, if_pos rfl]; exact h2
  · cases h2
theorem lim_both {f g : Nat → Option α} (hf : Mono f) (hg : Mono g) [DecidableEq (Option α)] : lim (fun n => (f n).bind fun x => if g n = some x then some x else none) = (lim f).bind fun x => if lim g = some x then some x else none := by
  apply opt_ext
  intro a
  rw [(hf.both hg).lim]
  constructor
  · rintro ⟨n, hn⟩
    obtain ⟨x, h1, h2⟩ := Option.bind_eq_some_iff.1 hn
    split at h2
    · rename_i hx
      rw [hf.lim.2 ⟨n, h1⟩]
      simp only [Option.bind_some]
      rw [hg.lim.2 ⟨n, hx⟩, if_pos rfl]; exact h2
    · cases h2
  · intro h
    obtain ⟨x, h1, h2⟩ := Option.bind_eq_some_iff.1 h
    split at h2
    · rename_i hx
      obtain ⟨n, hn⟩ := hf.lim.1 h1
      obtain ⟨m, hm⟩ := hg.lim.1 hx
      refine ⟨max n m, ?_⟩
      rw [hf n _ x (by omega) hn]
      simp only [Option.bind_some]
      rw [hg m _ x (by omega) hm, if_pos rfl]; exact h2
    · cases h2
theorem match_bind {x : Option α} {g : α → Option β} : (match x with | some a => g a | none => none) = x.bind g := by cases x <;> rfl
end
section
variable {P : Program} {M : FuncId → List Mode} {cf : Nat → Calls0}
def MonoC (cf : Nat → Calls0) : Prop := ∀ f as, Mono fun n => cf n f as
noncomputable def limC (cf : Nat → Calls0) : Calls0 := fun f as => lim fun n => cf n f as
/-- every step of a limit is the limit of the steps -/
structure Lim {α : Type} (f : Nat → Option α) (x : Option α) : Prop where
  mono : Mono f
  eq : x = lim f
theorem Lim.const {α : Type} (x : Option α) : Lim (fun _ => x) x := ⟨Mono.const x, (lim_const x).symm⟩
theorem Lim.bind {α β : Type} {f : Nat → Option α} {x : Option α} {g : Nat → α → Option β} {y : α → Option β} (hf : Lim f x) (hg : ∀ a, Lim (fun n => g n a) (y a)) : Lim (fun n => (f n).bind (g n)) (x.bind y) := by
  refine ⟨hf.mono.bind fun a => (hg a).mono, ?_⟩
  rw [lim_bind hf.mono fun a => (hg a).mono, hf.eq]
  congr 1
  funext a
  exact (hg a).eq
theorem Lim.map {α β : Type} {f : Nat → Option α} {x : Option α} (hf : Lim f x) (g : α → β) : Lim (fun n => (f n).map g) (x.map g) := by
  have h := hf.bind (g := fun _ a => some (g a)) (y := fun a => some (g a)) (fun a => Lim.const _)
  have e1 : (fun n => (f n).map g) = fun n => (f n).bind fun a => some (g a) := by funext n; cases f n <;> rfl
  have e2 : x.map g = x.bind fun a => some (g a) := by cases x <;> rfl
  rw [e1, e2]; exact h
theorem Lim.of {α : Type} {f g : Nat → Option α} {x y : Option α} (h : Lim f x) (hf : ∀ n, g n = f n) (hx : y = x) : Lim g y := by
  have : g = f := funext hf
  rw [this, hx]; exact h
theorem callE_lim (hc : MonoC cf) (σ : St Unit) (d : Option Nat) (f : FuncId) (vs : List (V Unit)) : Lim (fun n => callE M (cf n) σ d f vs) (callE M (limC cf) σ d f vs) := by
  by_cases h1 : apartL (rwH 0 (M f) vs) = true
  · by_cases h2 : apartR (rwH 0 (M f) vs) (roH (M f) vs) = true
    · cases has : argsOf σ (M f) vs with
      | none => exact (Lim.const none).of (fun n => by simp only [callE, h1, h2, if_true, has]) (by simp only [callE, h1, h2, if_true, has])
      | some as =>
        have hb : Lim (fun n => cf n f as) (limC cf f as) := ⟨hc f as, rfl⟩
        refine (hb.bind (g := fun _ r => (callE M (fun _ _ => some r) σ d f vs)) (y := fun r => (callE M (fun _ _ => some r) σ d f vs)) (fun r => Lim.const _)).of (fun n => ?_) ?_
        · unfold callE
          simp only [h1, h2, if_true, has]
          cases cf n f as <;> rfl
        · unfold callE
          simp only [h1, h2, if_true, has]
          cases limC cf f as <;> rfl
    · exact (Lim.const none).of (fun n => by simp [callE, h1, h2]) (by simp [callE, h1, h2])
  · exact (Lim.const none).of (fun n => by simp [callE, h1]) (by simp [callE, h1])
theorem stepE_lim (hc : MonoC cf) (σ : St Unit) (d : Option Nat) (op : Op) : Lim (fun n => stepE ⟨P, M, cf n⟩ σ d op) (stepE ⟨P, M, limC cf⟩ σ d op) := by
  cases op with
  | call c =>
    obtain ⟨callee, args, ats⟩ := c
    cases callee with
    | value f =>
      cases hf : opd σ f with
      | none => exact (Lim.const none).of (fun n => by simp only [stepE, hf]) (by simp only [stepE, hf])
      | some v =>
        cases v with
        | one c =>
          cases c with
          | fn g =>
            cases hvs : mapO (opd σ) args.toList with
            | none => exact (Lim.const none).of (fun n => by simp only [stepE, hf, hvs]) (by simp only [stepE, hf, hvs])
            | some vs => exact (callE_lim (M := M) hc σ d g vs).of (fun n => by simp only [stepE, hf, hvs]) (by simp only [stepE, hf, hvs])
          | _ => exact (Lim.const none).of (fun n => by simp only [stepE, hf]) (by simp only [stepE, hf])
        | _ => exact (Lim.const none).of (fun n => by simp only [stepE, hf]) (by simp only [stepE, hf])
    | builtin b => cases b <;> exact (Lim.const _).of (fun n => rfl) rfl
    | invoke r m => exact (Lim.const none).of (fun n => rfl) rfl
  | _ => exact (Lim.const _).of (fun n => rfl) rfl
theorem stepO_lim (hc : MonoC cf) (ops : Array Oper) (o : Oper) (σ : St Unit) : Lim (fun n => stepO ⟨P, M, cf n⟩ ops o σ) (stepO ⟨P, M, limC cf⟩ ops o σ) := by
  by_cases hq : isQ o.op = true
  · refine (Lim.const (stepO ⟨P, M, limC cf⟩ ops o σ)).of (fun n => ?_) rfl
    unfold stepO
    rw [if_pos hq, if_pos hq]
  · cases hw : wants ops σ o with
    | none => exact (Lim.const none).of (fun n => by simp only [stepO, hq, hw]; rfl) (by simp only [stepO, hq, hw]; rfl)
    | some b =>
      cases b with
      | true => exact (stepE_lim hc σ o.dst o.op).of (fun n => by simp only [stepO, hq, hw]; rfl) (by simp only [stepO, hq, hw]; rfl)
      | false => exact (Lim.const (some (σ.put o.dst (.one .und)))).of (fun n => by simp only [stepO, hq, hw]; rfl) (by simp only [stepO, hq, hw]; rfl)
theorem steps_lim (hc : MonoC cf) (ops : Array Oper) : ∀ (l : List Oper) (σ : St Unit), Lim (fun n => steps ⟨P, M, cf n⟩ ops l σ) (steps ⟨P, M, limC cf⟩ ops l σ)
  | [], σ => Lim.const _
  | o :: r, σ => ((stepO_lim (P := P) (M := M) hc ops o σ).bind (fun σ' => steps_lim hc ops r σ')).of (fun n => by simp only [steps]; cases stepO ⟨P, M, cf n⟩ ops o σ <;> rfl) (by simp only [steps]; cases stepO ⟨P, M, limC cf⟩ ops o σ <;> rfl)
theorem tree_lim (hc : MonoC cf) (ops : Array Oper) (h : Option Hint) : ∀ (t : Tr) (σ : St Unit), Lim (fun n => tree ⟨P, M, cf n⟩ ops h t σ) (tree ⟨P, M, limC cf⟩ ops h t σ)
  | .done, σ => (Lim.const (tree ⟨P, M, limC cf⟩ ops h .done σ)).of (fun n => by simp only [tree]) rfl
  | .take i t, σ => by
    cases ho : ops[i]? with
    | none => exact (Lim.const none).of (fun n => by simp only [tree, ho]) (by simp only [tree, ho])
    | some o =>
      cases hv : valO P ops σ o with
      | none => exact (Lim.const none).of (fun n => by simp only [tree, ho, hv]) (by simp only [tree, ho, hv])
      | some v => exact (tree_lim hc ops h t (σ.put o.dst v)).of (fun n => by simp only [tree, ho, hv]) (by simp only [tree, ho, hv])
  | .eff i chk t, σ => by
    cases ho : ops[i]? with
    | none => exact (Lim.const none).of (fun n => by simp only [tree, ho]) (by simp only [tree, ho])
    | some o =>
      classical
      refine ((stepO_lim (P := P) (M := M) hc ops o σ).bind (g := fun n σ' => if checks P ops σ' chk then tree ⟨P, M, cf n⟩ ops h t σ' else none) (y := fun σ' => if checks P ops σ' chk then tree ⟨P, M, limC cf⟩ ops h t σ' else none) (fun σ' => ?_)).of (fun n => ?_) ?_
      · by_cases hk : checks P ops σ' chk
        · exact (tree_lim hc ops h t σ').of (fun n => by rw [if_pos hk]) (by rw [if_pos hk])
        · exact (Lim.const none).of (fun n => by rw [if_neg hk]) (by rw [if_neg hk])
      · simp only [tree, ho]
        cases stepO ⟨P, M, cf n⟩ ops o σ with
        | none => rfl
        | some σ' =>
          simp only [Option.bind_some]
      · simp only [tree, ho]
        cases stepO ⟨P, M, limC cf⟩ ops o σ with
        | none => rfl
        | some σ' =>
          simp only [Option.bind_some]
  | .alt i chk t r, σ => by
    cases ho : ops[i]? with
    | none => exact (Lim.const none).of (fun n => by simp only [tree, ho]) (by simp only [tree, ho])
    | some o =>
      classical
      refine ((stepO_lim (P := P) (M := M) hc ops o σ).bind (g := fun n σ' => if checks P ops σ' chk then (tree ⟨P, M, cf n⟩ ops h t σ').bind (fun x => if tree ⟨P, M, cf n⟩ ops h r σ = some x then some x else none) else none)
        (y := fun σ' => if checks P ops σ' chk then (tree ⟨P, M, limC cf⟩ ops h t σ').bind (fun x => if tree ⟨P, M, limC cf⟩ ops h r σ = some x then some x else none) else none) (fun σ' => ?_)).of (fun n => ?_) ?_
      · by_cases hk : checks P ops σ' chk
        · have a := tree_lim hc ops h t σ'
          have b := tree_lim hc ops h r σ
          refine (⟨a.mono.both b.mono, ?_⟩ : Lim (fun n => (tree ⟨P, M, cf n⟩ ops h t σ').bind (fun x => if tree ⟨P, M, cf n⟩ ops h r σ = some x then some x else none)) ((tree ⟨P, M, limC cf⟩ ops h t σ').bind (fun x => if tree ⟨P, M, limC cf⟩ ops h r σ = some x then some x else none))).of (fun n => by rw [if_pos hk]) (by rw [if_pos hk])
          rw [lim_both a.mono b.mono, ← a.eq, ← b.eq]
        · exact (Lim.const none).of (fun n => by rw [if_neg hk]) (by rw [if_neg hk])
      · simp only [tree, ho]
        cases stepO ⟨P, M, cf n⟩ ops o σ with
        | none => rfl
        | some σ' =>
          simp only [Option.bind_some]
          by_cases hk : checks P ops σ' chk
          · simp only [if_pos hk]
            cases tree ⟨P, M, cf n⟩ ops h t σ' with
            | none => rfl
            | some x =>
              simp only [Option.bind_some]
          · simp only [if_neg hk]
      · simp only [tree, ho]
        cases stepO ⟨P, M, limC cf⟩ ops o σ with
        | none => rfl
        | some σ' =>
          simp only [Option.bind_some]
          by_cases hk : checks P ops σ' chk
          · simp only [if_pos hk]
            cases tree ⟨P, M, limC cf⟩ ops h t σ' with
            | none => rfl
            | some x =>
              simp only [Option.bind_some]
          · simp only [if_neg hk]
end
end Go.Mach

/- Code and functions without fuel; the run as a list of what is still to do. -/
namespace Go.Mach
set_option linter.unusedVariables false
set_option linter.unusedSimpArgs false
def Le (c c' : Calls0) : Prop := ∀ f as r, c f as = some r → c' f as = some r
section
variable {P : Program} {M : FuncId → List Mode} {c c' : Calls0}
theorem two (h : Le c c') : MonoC fun n => if n = 0 then c else c' := by
  intro f as n m a hnm hn
  by_cases h0 : n = 0
  · subst h0
    by_cases hm : m = 0
    · subst hm; exact hn
    · simp only [hm, if_false]; exact h f as a hn
  · have hm : m ≠ 0 := by omega
    simp only [h0, hm, if_false] at hn ⊢
    exact hn
theorem steps_le (h : Le c c') {ops : Array Oper} {l : List Oper} {σ x : St Unit} (hs : steps ⟨P, M, c⟩ ops l σ = some x) : steps ⟨P, M, c'⟩ ops l σ = some x :=
  (steps_lim (P := P) (M := M) (two h) ops l σ).mono 0 1 x (by omega) hs
theorem tree_le (h : Le c c') {ops : Array Oper} {hh : Option Hint} {t : Tr} {σ x : St Unit} (hs : tree ⟨P, M, c⟩ ops hh t σ = some x) : tree ⟨P, M, c'⟩ ops hh t σ = some x :=
  (tree_lim (P := P) (M := M) (two h) ops hh t σ).mono 0 1 x (by omega) hs
theorem loopN_le {b b' : St Unit → Option (St Unit × Ex)} {nm : St Unit → Option (St Unit)} (h : ∀ σ x, b σ = some x → b' σ = some x) : ∀ {n m : Nat} {σ : St Unit} {x : St Unit × Ex}, n ≤ m → loopN b nm n σ = some x → loopN b' nm m σ = some x
  | 0, m, σ, x, _, hl => by simp [loopN] at hl
  | n + 1, 0, σ, x, hnm, hl => by omega
  | n + 1, m + 1, σ, x, hnm, hl => by
    simp only [loopN] at hl ⊢
    cases hk : nm σ with
    | none => rw [hk] at hl; cases hl
    | some σ1 =>
      rw [hk] at hl
      simp only at hl ⊢
      cases hb : b σ1 with
      | none => rw [hb] at hl; cases hl
      | some y =>
        rw [h _ _ hb]
        rw [hb] at hl
        obtain ⟨σ2, e⟩ := y
        cases e with
        | normal => exact loopN_le h (by omega) hl
        | _ => exact hl
theorem exec_le (h : Le c c') (H : FnHint) {n m : Nat} (hnm : n ≤ m) : ∀ (cd : Code) {σ : St Unit} {x : St Unit × Ex}, exec ⟨P, M, c⟩ H n cd σ = some x → exec ⟨P, M, c'⟩ H m cd σ = some x := by
  intro cd
  induction cd with
  | region id ops d =>
    intro σ x hx
    cases d with
    | false =>
      simp only [exec] at hx ⊢
      split at hx
      · rename_i σ1 h1
        rw [steps_le h h1]
        exact hx
      · cases hx
    | true =>
      simp only [exec] at hx ⊢
      obtain ⟨y, hy, rfl⟩ := Option.map_eq_some_iff.1 hx
      rw [tree_le h hy]; rfl
  | seq a b iha ihb =>
    intro σ x hx
    simp only [exec] at hx ⊢
    cases ha : exec ⟨P, M, c⟩ H n a σ with
    | none => rw [ha] at hx; cases hx
    | some y =>
      rw [iha ha]
      rw [ha] at hx
      obtain ⟨σ1, e⟩ := y
      cases e with
      | normal => exact ihb hx
      | _ => exact hx
  | cond v a b iha ihb =>
    intro σ x hx
    simp only [exec] at hx ⊢
    split at hx
    · rename_i q hq
      cases q with
      | true => exact iha hx
      | false => exact ihb hx
    · cases hx
  | block id b ih =>
    intro σ x hx
    simp only [exec] at hx ⊢
    cases hb : exec ⟨P, M, c⟩ H n b σ with
    | none => rw [hb] at hx; cases hx
    | some y => rw [ih hb]; rw [hb] at hx; exact hx
  | loop b ih =>
    intro σ x hx
    simp only [exec] at hx ⊢
    exact loopN_le (fun σ x h => ih h) hnm hx
  | _ => intro σ x hx; first | exact hx | (simp [exec] at hx)
end
theorem fn_succ (Z : Setup) (n : Nat) (f : FuncId) (as : List (V Unit)) : fn Z (n + 1) f as = match Z.orac f with
    | some g => g as
    | none => match Z.P.funcs[f]? with
      | some F => match F.body with
        | some c => if Z.okF f then match exec ⟨Z.P, Z.M, fn Z n⟩ (Z.H f) n c ⟨F.ntmps, enterT 0 (Z.M f) as, enterR 0 (Z.M f) as⟩ with
          | some (σ, .normal) | some (σ, .ret) => leave Z.P F (Z.M f) σ
          | _ => none
          else none
        | none => none
      | none => none := rfl
theorem fn_le (Z : Setup) : ∀ n, Le (fn Z n) (fn Z (n + 1))
  | 0 => fun f as r h => by cases h
  | n + 1 => by
    intro f as r h
    rw [fn_succ] at h ⊢
    split at h
    · exact h
    · split at h
      · rename_i F hf
        split at h
        · rename_i cd hcd
          split at h
          · rename_i hok
            rw [if_pos hok]
            cases he : exec ⟨Z.P, Z.M, fn Z n⟩ (Z.H f) n cd ⟨F.ntmps, enterT 0 (Z.M f) as, enterR 0 (Z.M f) as⟩ with
            | none => rw [he] at h; cases h
            | some y => rw [exec_le (fn_le Z n) (Z.H f) (Nat.le_succ n) cd he]; rw [he] at h; exact h
          · cases h
        · cases h
      · cases h
theorem fn_mono (Z : Setup) : MonoC (fn Z) := by
  intro f as n m r hnm h
  induction m with
  | zero => have : n = 0 := by omega
            subst this; exact h
  | succ m ih =>
    by_cases hm : n = m + 1
    · subst hm; exact h
    · exact fn_le Z m f as r (ih (by omega))
theorem fn_le' (Z : Setup) {n m : Nat} (h : n ≤ m) : Le (fn Z n) (fn Z m) := fun f as r hr => fn_mono Z f as n m r h hr
/-- a function's answer -/
noncomputable def Fn (Z : Setup) : Calls0 := limC (fn Z)
noncomputable def EL (Z : Setup) : Env := ⟨Z.P, Z.M, Fn Z⟩
theorem Fn_some {Z : Setup} {f : FuncId} {as : List (V Unit)} {r : Ret} : Fn Z f as = some r ↔ ∃ n, fn Z n f as = some r := (fn_mono Z f as).lim
theorem Fn_sound (Z : Setup) (hm : Z.P.follows .mixedOrders = true) (hO : Orac Z.P Z.M Z.orac) (hF : ∀ f, Z.okF f = true → okFn Z.P Z.M Z.H f = true) : Sound Z.P Z.M (Fn Z) := by
  intro f as r h
  obtain ⟨n, hn⟩ := Fn_some.1 h
  exact fn_sound Z hm hO hF n f as r hn
section
variable (Z : Setup) (H : FnHint)
noncomputable def exL (c : Code) (σ : St Unit) : Option (St Unit × Ex) := lim fun n => exec ⟨Z.P, Z.M, fn Z n⟩ H n c σ
noncomputable def lpL (b : Code) (σ : St Unit) : Option (St Unit × Ex) := lim fun n => loopN (exec ⟨Z.P, Z.M, fn Z n⟩ H n b) (·.keep (H.loop (headId b))) n σ
theorem exM (c : Code) (σ : St Unit) : Lim (fun n => exec ⟨Z.P, Z.M, fn Z n⟩ H n c σ) (exL Z H c σ) := ⟨fun n m x hnm h => exec_le (fn_le' Z hnm) H hnm c h, rfl⟩
theorem lpM (b : Code) (σ : St Unit) : Lim (fun n => loopN (exec ⟨Z.P, Z.M, fn Z n⟩ H n b) (·.keep (H.loop (headId b))) n σ) (lpL Z H b σ) := ⟨fun n m x hnm h => loopN_le (fun σ x h => exec_le (fn_le' Z hnm) H hnm b h) hnm h, rfl⟩
/-- what is still to do, after a run's end -/
noncomputable def aft1 (f : St Unit → Option (St Unit × Ex)) : St Unit × Ex → Option (St Unit × Ex)
  | (σ, .normal) => f σ
  | r => some r
theorem exL_skip (σ) : exL Z H .skip σ = some (σ, .normal) := lim_const _
theorem exL_exit (i σ) : exL Z H (.exit i) σ = some (σ, .exit i) := lim_const _
theorem exL_ret (σ) : exL Z H .ret σ = some (σ, .ret) := lim_const _
theorem exL_plain (id ops σ) : exL Z H (.region id ops false) σ = (steps (EL Z) ops ops.toList σ).bind fun σ => match H.region id with
    | some h => (σ.keep h).map (·, .normal)
    | none => some (σ, .normal) := by
  have h := (steps_lim (P := Z.P) (M := Z.M) (fn_mono Z) ops ops.toList σ).bind (g := fun _ σ => match H.region id with
    | some h => (σ.keep h).map (·, Ex.normal)
    | none => some (σ, .normal)) (fun σ => Lim.const _)
  have h2 := h.of (g := fun n => exec ⟨Z.P, Z.M, fn Z n⟩ H n (.region id ops false) σ) (y := _) (fun n => by
    simp only [exec]
    cases steps ⟨Z.P, Z.M, fn Z n⟩ ops ops.toList σ <;> rfl) rfl
  exact h2.eq.symm
theorem exL_drawn (id ops σ) : exL Z H (.region id ops true) σ = (tree (EL Z) ops (H.region id) (H.tree id) σ).map (·, .normal) := by
  have h := (tree_lim (P := Z.P) (M := Z.M) (fn_mono Z) ops (H.region id) (H.tree id) σ).map (·, Ex.normal)
  have h2 := h.of (g := fun n => exec ⟨Z.P, Z.M, fn Z n⟩ H n (.region id ops true) σ) (fun n => by simp only [exec]) rfl
  exact h2.eq.symm
theorem exL_seq (a b σ) : exL Z H (.seq a b) σ = (exL Z H a σ).bind (aft1 (exL Z H b)) := by
  have h := (exM Z H a σ).bind (g := fun n => aft1 (exec ⟨Z.P, Z.M, fn Z n⟩ H n b)) (y := aft1 (exL Z H b)) (fun x => by
    obtain ⟨σ1, e⟩ := x
    cases e with
    | normal => exact exM Z H b σ1
    | _ => exact Lim.const _)
  have h2 := h.of (g := fun n => exec ⟨Z.P, Z.M, fn Z n⟩ H n (.seq a b) σ) (fun n => by
    simp only [exec]
    rcases exec ⟨Z.P, Z.M, fn Z n⟩ H n a σ with _ | ⟨σ1, e⟩
    · rfl
    · cases e <;> rfl) rfl
  exact h2.eq.symm
theorem exL_cond (c a b σ) : exL Z H (.cond c a b) σ = match opd σ c with
    | some (.one (.bool q)) => if q then exL Z H a σ else exL Z H b σ
    | _ => none := by
  have hnone : (∀ n, exec ⟨Z.P, Z.M, fn Z n⟩ H n (.cond c a b) σ = none) → exL Z H (.cond c a b) σ = none := by
    intro h
    unfold exL
    rw [funext h]
    exact lim_const none
  cases hc : opd σ c with
  | none => exact hnone fun n => by simp only [exec, hc]
  | some v =>
    cases v with
    | one d =>
      cases d with
      | bool q =>
        have he : ∀ n, exec ⟨Z.P, Z.M, fn Z n⟩ H n (.cond c a b) σ = if q then exec ⟨Z.P, Z.M, fn Z n⟩ H n a σ else exec ⟨Z.P, Z.M, fn Z n⟩ H n b σ := fun n => by simp only [exec, hc]
        unfold exL
        rw [funext he]
        cases q <;> rfl
      | _ => exact hnone fun n => by simp only [exec, hc]
    | _ => exact hnone fun n => by simp only [exec, hc]
def endB (id : Nat) : St Unit × Ex → Option (St Unit × Ex)
  | (σ, .normal) => (σ.keepO (H.blk id)).map (·, .normal)
  | (σ, .exit i) => if i = id then (σ.keepO (H.blk id)).map (·, .normal) else some (σ, .exit i)
  | r => some r
theorem exL_block (id b σ) : exL Z H (.block id b) σ = (exL Z H b σ).bind (endB H id) := by
  have h := (exM Z H b σ).bind (g := fun _ => endB H id) (y := endB H id) (fun x => Lim.const _)
  have h2 := h.of (g := fun n => exec ⟨Z.P, Z.M, fn Z n⟩ H n (.block id b) σ) (fun n => by
    simp only [exec]
    rcases exec ⟨Z.P, Z.M, fn Z n⟩ H n b σ with _ | ⟨σ1, e⟩
    · rfl
    · cases e <;> rfl) rfl
  exact h2.eq.symm
theorem exL_loop (b σ) : exL Z H (.loop b) σ = lpL Z H b σ := by
  unfold exL lpL
  congr 1
theorem lpL_eq (b σ) : lpL Z H b σ = (σ.keep (H.loop (headId b))).bind fun σ => (exL Z H b σ).bind (aft1 (lpL Z H b)) := by
  have hsh : ∀ σ, Lim (fun n => exec ⟨Z.P, Z.M, fn Z (n + 1)⟩ H (n + 1) b σ) (exL Z H b σ) := fun σ =>
    ⟨fun n m x hnm h => (exM Z H b σ).mono (n + 1) (m + 1) x (by omega) h, (lim_shift (exM Z H b σ).mono).symm⟩
  have hlp : ∀ σ, Lim (fun n => loopN (exec ⟨Z.P, Z.M, fn Z (n + 1)⟩ H (n + 1) b) (·.keep (H.loop (headId b))) n σ) (lpL Z H b σ) := by
    intro σ
    have hmono : Mono (fun n => loopN (exec ⟨Z.P, Z.M, fn Z (n + 1)⟩ H (n + 1) b) (·.keep (H.loop (headId b))) n σ) := fun n m x hnm h => loopN_le (fun σ x h => exec_le (fn_le' Z (by omega)) H (by omega) b h) hnm h
    refine ⟨hmono, ?_⟩
    apply opt_ext
    intro x
    rw [hmono.lim]
    unfold lpL
    rw [(lpM Z H b σ).mono.lim]
    constructor
    · rintro ⟨n, hn⟩
      exact ⟨n, loopN_le (fun σ x h => exec_le (fn_le' Z (by omega)) H (by omega) b h) (Nat.le_refl _) hn⟩
    · rintro ⟨n, hn⟩
      exact ⟨n + 1, loopN_le (fun σ x h => h) (by omega) hn⟩
  unfold lpL
  rw [← lim_shift (lpM Z H b σ).mono]
  have h := (Lim.const (σ.keep (H.loop (headId b)))).bind (g := fun n σ1 => (exec ⟨Z.P, Z.M, fn Z (n + 1)⟩ H (n + 1) b σ1).bind (aft1 (loopN (exec ⟨Z.P, Z.M, fn Z (n + 1)⟩ H (n + 1) b) (·.keep (H.loop (headId b))) n)))
    (y := fun σ1 => (exL Z H b σ1).bind (aft1 (lpL Z H b))) (fun σ1 => (hsh σ1).bind (fun x => by
      obtain ⟨σ2, e⟩ := x
      cases e with
      | normal => exact hlp σ2
      | _ => exact Lim.const _))
  have h2 := h.of (g := fun n => loopN (exec ⟨Z.P, Z.M, fn Z (n + 1)⟩ H (n + 1) b) (·.keep (H.loop (headId b))) (n + 1) σ) (fun n => by
    simp only [loopN]
    cases σ.keep (H.loop (headId b)) with
    | none => rfl
    | some σ1 =>
      simp only [Option.bind_some]
      rcases exec ⟨Z.P, Z.M, fn Z (n + 1)⟩ H (n + 1) b σ1 with _ | ⟨σ2, e⟩
      · rfl
      · cases e <;> rfl) rfl
  exact h2.eq.symm
/-- a function's answer, from its code -/
theorem Fn_eq {f : FuncId} {as : List (V Unit)} {F : Func} {c : Code} (ho : Z.orac f = none) (hf : Z.P.funcs[f]? = some F) (hc : F.body = some c) (hk : Z.okF f = true) {σ : St Unit} {e : Ex} (he : e = .normal ∨ e = .ret)
    (hx : exL Z (Z.H f) c ⟨F.ntmps, enterT 0 (Z.M f) as, enterR 0 (Z.M f) as⟩ = some (σ, e)) : Fn Z f as = leave Z.P F (Z.M f) σ := by
  cases hl : leave Z.P F (Z.M f) σ with
  | some r =>
    obtain ⟨n, hn⟩ := (exM Z (Z.H f) c _).mono.lim.1 hx
    rw [Fn_some]
    refine ⟨n + 1, ?_⟩
    rw [fn_succ]
    simp only [ho, hf, hc, hk, if_true]
    rw [hn]
    rcases he with rfl | rfl <;> exact hl
  | none =>
    cases hF : Fn Z f as with
    | none => rfl
    | some r =>
      exfalso
      obtain ⟨n, hn⟩ := Fn_some.1 hF
      obtain ⟨m, hm⟩ := (exM Z (Z.H f) c _).mono.lim.1 hx
      have h1 : fn Z (max n m + 1) f as = some r := fn_mono Z f as n (max n m + 1) r (by omega) hn
      have h2 := (exM Z (Z.H f) c _).mono m (max n m) _ (by omega) hm
      rw [fn_succ] at h1
      simp only [ho, hf, hc, hk, if_true] at h1
      rw [h2] at h1
      rcases he with rfl | rfl <;> (simp only [hl] at h1; cases h1)
/-! what is still to do, as a list -/
inductive It where | code (c : Code) | ops (id : Nat) (ops : Array Oper) (l : List Oper) | blk (id : Nat) | lp (b : Code)
def unw (id : Nat) : List It → List It
  | [] => []
  | .blk i :: r => if i = id then r else unw id r
  | _ :: r => unw id r
def hasB (j : Nat) : List It → Bool
  | [] => false
  | .blk i :: r => if i = j then true else hasB j r
  | _ :: r => hasB j r
noncomputable def keepR (id : Nat) (σ : St Unit) : Option (St Unit × Ex) := match H.region id with
  | some h => (σ.keep h).map (·, .normal)
  | none => some (σ, .normal)
noncomputable def one : It → Option (St Unit × Ex) → Option (St Unit × Ex)
  | .code c, some (σ, .normal) => exL Z H c σ
  | .ops id ops l, some (σ, .normal) => (steps (EL Z) ops l σ).bind (keepR H id)
  | .blk i, some (σ, .normal) => (σ.keepO (H.blk i)).map (·, .normal)
  | .blk i, some (σ, .exit j) => if i = j then (σ.keepO (H.blk i)).map (·, .normal) else some (σ, .exit j)
  | .lp b, some (σ, .normal) => lpL Z H b σ
  | _, x => x
noncomputable def runs : List It → Option (St Unit × Ex) → Option (St Unit × Ex)
  | [], x => x
  | i :: r, x => runs r (one Z H i x)
noncomputable def go (r : List It) (σ : St Unit) : Option (St Unit × Ex) := runs Z H r (some (σ, .normal))
noncomputable def nx (s : Option (St Unit)) (r : List It) : Option (St Unit × Ex) := match s with
  | some σ => go Z H r σ
  | none => none
noncomputable def br (v : Option (V Unit)) (a b : Code) (r : List It) (σ : St Unit) : Option (St Unit × Ex) := match v with
  | some (.one (.bool q)) => if q then go Z H (.code a :: r) σ else go Z H (.code b :: r) σ
  | _ => none
noncomputable def ext (b : Bool) (j : Nat) (r : List It) (σ : St Unit) : Option (St Unit × Ex) := if b then nx Z H (σ.keepO (H.blk j)) (unw j r) else some (σ, .exit j)
theorem one_none (i : It) : one Z H i none = none := by cases i <;> rfl
theorem one_ret (i : It) (σ) : one Z H i (some (σ, .ret)) = some (σ, .ret) := by cases i <;> rfl
theorem runs_none (r : List It) : runs Z H r none = none := by
  induction r with
  | nil => rfl
  | cons i r ih => rw [runs, one_none, ih]
theorem runs_ret (r : List It) (σ) : runs Z H r (some (σ, .ret)) = some (σ, .ret) := by
  induction r with
  | nil => rfl
  | cons i r ih => rw [runs, one_ret, ih]
theorem go_nil (σ) : go Z H [] σ = some (σ, .normal) := rfl
theorem go_skip (r σ) : go Z H (.code .skip :: r) σ = go Z H r σ := by
  unfold go
  rw [runs]
  simp only [one, exL_skip]
theorem go_ret (r σ) : go Z H (.code .ret :: r) σ = some (σ, .ret) := by
  unfold go
  rw [runs]
  simp only [one, exL_ret]
  exact runs_ret Z H r σ
theorem go_region (i ops r σ) : go Z H (.code (.region i ops false) :: r) σ = go Z H (.ops i ops ops.toList :: r) σ := by
  unfold go
  rw [runs, runs]
  simp only [one, exL_plain]
  rfl
theorem runs_norm (r : List It) (s : Option (St Unit)) : runs Z H r (s.map (·, .normal)) = nx Z H s r := by
  cases s with
  | none => exact runs_none ..
  | some σ => rfl
theorem go_blk (i r σ) : go Z H (.blk i :: r) σ = nx Z H (σ.keepO (H.blk i)) r := by
  unfold go
  rw [runs]
  simp only [one]
  exact runs_norm Z H r _
theorem go_drawn (i ops r σ) : go Z H (.code (.region i ops true) :: r) σ = nx Z H (tree (EL Z) ops (H.region i) (H.tree i) σ) r := by
  unfold go
  rw [runs]
  simp only [one, exL_drawn]
  exact runs_norm Z H r _
theorem go_ops0 (i ops r σ) : go Z H (.ops i ops [] :: r) σ = nx Z H (match H.region i with | some h => σ.keep h | none => some σ) r := by
  unfold go
  rw [runs]
  simp only [one, steps, Option.bind_some, keepR]
  cases H.region i with
  | none => rfl
  | some h => exact runs_norm Z H r _
theorem go_ops (i ops o l r σ) : go Z H (.ops i ops (o :: l) :: r) σ = nx Z H (stepO (EL Z) ops o σ) (.ops i ops l :: r) := by
  unfold go
  rw [runs]
  simp only [one, steps]
  cases stepO (EL Z) ops o σ with
  | none => exact runs_none ..
  | some σ1 => rfl
theorem runs_bind (r : List It) (f : St Unit → Option (St Unit × Ex)) (i : It) (hi : ∀ x : St Unit × Ex, one Z H i (some x) = aft1 f x) (x : Option (St Unit × Ex)) : runs Z H r (x.bind (aft1 f)) = runs Z H (i :: r) x := by
  cases x with
  | none => rw [runs, one_none]; rfl
  | some x => rw [runs, hi]; rfl
theorem go_seq (a b r σ) : go Z H (.code (.seq a b) :: r) σ = go Z H (.code a :: .code b :: r) σ := by
  unfold go
  rw [runs, runs]
  simp only [one, exL_seq]
  exact runs_bind Z H r _ (.code b) (fun x => by obtain ⟨σ, e⟩ := x; cases e <;> rfl) _
theorem go_loop (b r σ) : go Z H (.code (.loop b) :: r) σ = go Z H (.lp b :: r) σ := by
  unfold go
  rw [runs, runs]
  simp only [one, exL_loop]
theorem go_lp (b r σ) : go Z H (.lp b :: r) σ = nx Z H (σ.keep (H.loop (headId b))) (.code b :: .lp b :: r) := by
  unfold go
  rw [runs]
  simp only [one]
  rw [lpL_eq]
  cases σ.keep (H.loop (headId b)) with
  | none => exact runs_none ..
  | some σ1 =>
    simp only [Option.bind_some, nx]
    unfold go
    rw [runs]
    simp only [one]
    exact runs_bind Z H r _ (.lp b) (fun x => by obtain ⟨σ, e⟩ := x; cases e <;> rfl) _
theorem go_cond (c a b r σ) : go Z H (.code (.cond c a b) :: r) σ = br Z H (opd σ c) a b r σ := by
  unfold go
  simp only [runs, one, exL_cond]
  generalize opd σ c = v
  rcases v with _ | (c | _ | _)
  · exact runs_none ..
  · cases c with
    | bool q => cases q <;> rfl
    | _ => exact runs_none ..
  · exact runs_none ..
  · exact runs_none ..
theorem go_block (i b r σ) : go Z H (.code (.block i b) :: r) σ = go Z H (.code b :: .blk i :: r) σ := by
  unfold go
  simp only [runs, one, exL_block]
  congr 1
  rcases exL Z H b σ with _ | ⟨σ', e⟩
  · rfl
  · cases e with
    | exit j =>
      simp only [Option.bind_some, endB, one]
      by_cases h : i = j
      · rw [if_pos h, if_pos h.symm]
      · rw [if_neg h, if_neg (fun e => h e.symm)]
    | _ => rfl
theorem runs_exit (j : Nat) (σ) : ∀ r, runs Z H r (some (σ, .exit j)) = ext Z H (hasB j r) j r σ
  | [] => rfl
  | .blk i :: r => by
    rw [runs, one, hasB]
    by_cases h : i = j
    · rw [if_pos h, if_pos h, ext, if_pos rfl, unw, if_pos h, h]
      exact runs_norm Z H r _
    · rw [if_neg h, if_neg h, runs_exit j σ r]
      unfold ext
      rw [unw, if_neg h]
  | .code _ :: r => by rw [runs]; exact runs_exit j σ r
  | .ops _ _ _ :: r => by rw [runs]; exact runs_exit j σ r
  | .lp _ :: r => by rw [runs]; exact runs_exit j σ r
theorem go_exit (j r σ) : go Z H (.code (.exit j) :: r) σ = ext Z H (hasB j r) j r σ := by
  unfold go
  rw [runs]
  simp only [one, exL_exit]
  exact runs_exit Z H j σ r
theorem exL_go (c σ) : exL Z H c σ = go Z H [.code c] σ := rfl
theorem br_ (q a b r σ) : br Z H (some (.one (.bool q))) a b r σ = if q then go Z H (.code a :: r) σ else go Z H (.code b :: r) σ := rfl
theorem nx_ (r σ) : nx Z H (some σ) r = go Z H r σ := rfl
end
end Go.Mach

/- From a row's reading of an argument of any type made of whole numbers, bools, strings, structs and slices to the machine's cells. -/
namespace Go.Mach
open Go.ChangeShapes Go.WideShapes
set_option linter.unusedVariables false
set_option linter.unusedSimpArgs false
def okI (k : IntKind) (n : Int) : Prop := (Lit.int k n).wf = true
def okB (_ : Bool) : Prop := True
def okT (s : ByteArray) : Prop := s.size ≤ 140737488351232
def okL {α : Type} (B : Nat) (ok : α → Prop) (l : List α) : Prop := l.length ≤ 9223372036854775807 ∧ l.length * B ≤ 140737488351232 ∧ ∀ x ∈ l, ok x
/-- All weights of a datum are within the reach. -/
def Small {H : Type} (P : Program) (t : TypeId) (x : DataW H) : Prop := ∀ n ∈ DataW.weights P t x, n ≤ reachBytes
theorem Small.of_all {H : Type} {P : Program} {ts : List TypeId} {ds : List (DataW H)} {j : Nat} {t : TypeId} {d : DataW H} (h : (DataW.weightsEach P ts ds).all (· ≤ reachBytes) = true) (ht : ts[j]? = some t) (hd : ds[j]? = some d) : Small P t d := by
  intro n hn
  have := List.all_eq_true.1 h _ (DataW.weights_mem_each ht hd n hn)
  simpa using this
theorem weightsAll_mem {H : Type} {P : Program} {e : TypeId} : ∀ {ds : List (DataW H)} {d : DataW H}, d ∈ ds → ∀ n ∈ d.weights P e, n ∈ DataW.weightsAll P e ds
  | d0 :: ds, d, hd, n, hn => by
    simp only [DataW.weightsAll, List.mem_append]
    rcases List.mem_cons.1 hd with rfl | hd
    · exact .inl hn
    · exact .inr (weightsAll_mem hd n hn)
def Here (W : World) : Nat → Prop := fun b => b < W.heap.size
/-- cells of an argument that is only read -/
structure Cells (P : Program) (W : World) (ds : List (C Value)) : Prop where
  ro : ∀ c ∈ ds, RoOk P W (Here W) c
  no : ∀ c ∈ ds, ∀ h k e xs, c ≠ .own h k e xs
theorem Cells.app {P : Program} {W : World} {ds es : List (C Value)} (h : Cells P W ds) (k : Cells P W es) : Cells P W (ds ++ es) :=
  ⟨fun c hc => (List.mem_append.1 hc).elim (h.ro c) (k.ro c), fun c hc => (List.mem_append.1 hc).elim (h.no c) (k.no c)⟩
theorem Cells.one {P : Program} {W : World} {c : C Value} (h : RoOk P W (Here W) c) (k : ∀ h k e xs, c ≠ .own h k e xs) : Cells P W [c] :=
  ⟨fun d hd => by simp only [List.mem_cons, List.not_mem_nil, or_false] at hd; subst hd; exact h, fun d hd => by simp only [List.mem_cons, List.not_mem_nil, or_false] at hd; subst hd; exact k⟩
/-- what reads at a type is told by `en`, within its bounds -/
structure OpM (P : Program) (t : TypeId) {α : Type} (n : Nat) (en : α → List (C Unit)) (ok : α → Prop) : Prop where
  sz : P.cellsOf t = n
  op : ∀ {H : Type} {enc : TypeId × Value → H} {W : World} {base : Nat} {spare : Nat → Bool} {held : Bool} {fuel : Nat} {cs : List Value} {x : DataW H} {ps : List MemPlace},
    DataW.trod enc P W base spare held fuel t cs = some (x, ps) → Small P t x → ∃ (a : α) (ds : List (C Value)), ds.map conc = cs ∧ ds.map C.er = en a ∧ Cells P W ds ∧ cs.length = n ∧ ok a
theorem OpM.int {P : Program} {t : TypeId} {k : IntKind} (ht : P.underlying t = some (.int k)) (hc : P.cellsOf t = 1) : OpM P t 1 (fun z : Int => [C.int k z]) (okI k) := by
  refine ⟨hc, ?_⟩
  intro H enc W base spare held fuel cs x ps h _
  obtain ⟨n, rfl, _, hw⟩ := DataW.trod_int ht h
  exact ⟨n, [.int k n], rfl, by simp [er_int], Cells.one (.int k n) (by intros; simp), rfl, hw⟩
theorem OpM.bool {P : Program} {t : TypeId} (ht : P.underlying t = some .bool) (hc : P.cellsOf t = 1) : OpM P t 1 (fun b : Bool => [C.bool b]) okB := by
  refine ⟨hc, ?_⟩
  intro H enc W base spare held fuel cs x ps h _
  obtain ⟨b, rfl, _⟩ := DataW.trod_bool ht h
  exact ⟨b, [.bool b], rfl, by simp [er_bool], Cells.one (.bool b) (by intros; simp), rfl, trivial⟩
theorem OpM.string {P : Program} {t : TypeId} (ht : P.underlying t = some .string) (hc : P.cellsOf t = 1) : OpM P t 1 (fun s : ByteArray => [C.str s]) okT := by
  refine ⟨hc, ?_⟩
  intro H enc W base spare held fuel cs x ps h hs
  obtain ⟨s, rfl, hx, _⟩ := DataW.trod_string ht h
  refine ⟨s, [.str s], rfl, by simp [er_str], Cells.one (.str s) (by intros; simp), rfl, ?_⟩
  obtain ⟨rfl, _⟩ := Prod.mk.inj hx
  have := hs s.data.toList.length (by simp [DataW.weights])
  rw [Array.length_toList] at this
  exact this
theorem OpM.slice {P : Program} {t e : TypeId} {α : Type} {n : Nat} {en : α → List (C Unit)} {ok : α → Prop} {B : Nat} (ht : P.underlying t = some (.slice e)) (hc : P.cellsOf t = 1) (hB : P.bytesOf e = B) (he : OpM P e n en ok) :
    OpM P t 1 (fun l : List α => [C.ro () e (l.map en)]) (okL B ok) := by
  refine ⟨hc, ?_⟩
  intro H enc W base spare held fuel cs x ps h hs
  rcases Go.Deep.open_slice ht h with ⟨rfl, _⟩ | ⟨a, len, cap, m, n', D, Pl, rfl, hb, hl, hm, hmm, hx, hel⟩
  · refine ⟨[], [.ro (.slice none 0 0) e []], rfl, by simp [er_ro], Cells.one ?_ (by intros; simp), rfl, ?_⟩
    · exact .ro _ e [] none 0 rfl (Nat.le_refl _) (fun h => absurd h (by simp)) (by simp) (by simp) (by simp)
    · exact ⟨by simp, by simp, by simp⟩
  · obtain ⟨rfl, _⟩ := Prod.mk.inj hx
    have hlm : len ≤ m := by rw [hmm]; split <;> omega
    have small : ∀ i, i < len → Small P e (D i) := by
      intro i hi n hn
      refine hs n ?_
      simp only [DataW.weights, ht, List.mem_cons, List.mem_append]
      refine .inr (.inl (weightsAll_mem (d := D i) ?_ n hn))
      exact List.mem_map.2 ⟨i, List.mem_range.2 hi, rfl⟩
    have each : ∀ i, i < len → ∃ y : α × List (C Value), ok y.1 ∧ y.2.map C.er = en y.1 ∧ Cells P W y.2 ∧ y.2.length = P.cellsOf e ∧ ∀ (j : Nat) (u : C Value), y.2[j]? = some u → W.cell? (a.add (i * P.cellsOf e + j)) = some (conc u) := by
      intro i hi
      obtain ⟨c, h1, h2⟩ := hel i (by omega)
      obtain ⟨y, ds, e1, e2, e3, e4, hok⟩ := he.op h2 (small i hi)
      obtain ⟨_, hlen, hcell⟩ := World.cells?_some h1
      have hdl : ds.length = P.cellsOf e := by
        have := congrArg List.length e1
        rw [List.length_map] at this
        rw [this, hlen]
      refine ⟨(y, ds), hok, e2, e3, hdl, fun j u hj => ?_⟩
      have hj' : j < P.cellsOf e := by
        have := (List.getElem?_eq_some_iff.1 hj).1
        simp only at this
        omega
      have := hcell j hj'
      rw [← e1, List.getElem?_map, hj, Go.Deep.add_add] at this
      simpa using this
    have hlist : ∀ q, q ≤ len → ∃ ys : List (α × List (C Value)), ys.length = q ∧ ∀ (i : Nat) (y : α × List (C Value)), ys[i]? = some y → ok y.1 ∧ y.2.map C.er = en y.1 ∧ Cells P W y.2 ∧ y.2.length = P.cellsOf e ∧ ∀ (j : Nat) (u : C Value), y.2[j]? = some u → W.cell? (a.add (i * P.cellsOf e + j)) = some (conc u) := by
      intro q
      induction q with
      | zero => intro _; exact ⟨[], rfl, fun i y h => by simp at h⟩
      | succ q ih =>
        intro hq
        obtain ⟨ys, hy, hys⟩ := ih (by omega)
        obtain ⟨y, hK⟩ := each q (by omega)
        refine ⟨ys ++ [y], by simp [hy], fun i z hz => ?_⟩
        rcases Nat.lt_or_ge i ys.length with hi | hi
        · rw [List.getElem?_append_left hi] at hz
          exact hys i z hz
        · have hi' : i = ys.length := by
            have := (List.getElem?_eq_some_iff.1 hz).1
            simp at this
            omega
          subst hi'
          have : y = z := by simpa using hz
          subst this
          rw [hy]
          exact hK
    obtain ⟨ys, hy, hys⟩ := hlist len (Nat.le_refl _)
    have hml : len ≤ 9223372036854775807 := by simp only [maxLen] at hm; omega
    have hmem : ∀ y ∈ ys, ∃ i : Nat, ys[i]? = some y := fun y hy' => List.getElem?_of_mem hy'
    refine ⟨ys.map (·.1), [.ro (.slice (some a) len cap) e (ys.map (·.2))], rfl, ?_, Cells.one ?_ (by intros; simp), rfl, by rw [List.length_map]; omega, ?_, ?_⟩
    · simp only [List.map_cons, List.map_nil, er_ro, List.map_map, List.cons.injEq, C.ro.injEq, and_true, true_and]
      apply List.map_congr_left
      intro y hy'
      obtain ⟨i, hi⟩ := hmem y hy'
      exact (hys i y hi).2.1
    · refine .ro _ e _ (some a) cap (by rw [List.length_map, hy]) (by rw [List.length_map, hy]; omega) (fun _ => ⟨a, rfl⟩) (fun el hel => ?_) (fun i el j z hi hj => ?_) (fun i el j z hi hj => ?_)
      · obtain ⟨y, hy', rfl⟩ := List.mem_map.1 hel
        obtain ⟨i, hi⟩ := hmem y hy'
        exact (hys i y hi).2.2.2.1
      · rw [List.getElem?_map] at hi
        obtain ⟨y, hiy, rfl⟩ := Option.map_eq_some_iff.1 hi
        exact (hys i y hiy).2.2.1.ro z (List.mem_of_getElem? hj)
      · rw [List.getElem?_map] at hi
        obtain ⟨y, hiy, rfl⟩ := Option.map_eq_some_iff.1 hi
        have hce := (hys i y hiy).2.2.2.2 j z hj
        have hlt := cell_lt hce
        rw [add_blk] at hlt
        exact ⟨a, rfl, hce, hlt⟩
    · have := hs ((List.map D (List.range len)).length + (List.map (fun j => D (len + j)) (List.range (m - len))).length * 1 |> fun k => k * P.bytesOf e) (by
        simp only [DataW.weights, ht, List.mem_cons]
        exact .inl (by simp))
      have hr : reachBytes = 140737488351232 := rfl
      rw [hr] at this
      simp at this
      rw [hB] at this
      rw [List.length_map, hy]
      refine Nat.le_trans (Nat.mul_le_mul_right _ ?_) this
      omega
    · intro y hy'
      obtain ⟨z, hz, rfl⟩ := List.mem_map.1 hy'
      obtain ⟨i, hi⟩ := hmem z hz
      exact (hys i z hi).1
/-- the fields of a struct from one cell on -/
structure OpMF (P : Program) (fs : List Field) (off n : Nat) {α : Type} (en : α → List (C Unit)) (ok : α → Prop) : Prop where
  op : ∀ {H : Type} {enc : TypeId × Value → H} {W : World} {base : Nat} {spare : Nat → Bool} {held : Bool} {fuel : Nat} {cs : List Value} {xs : List (DataW H × List MemPlace)},
    cs.length = off + n → xs.length = fs.length → (∀ (i : Nat) (f : Field), fs[i]? = some f → DataW.trod enc P W base spare held fuel f.type ((cs.drop f.offset).take (P.cellsOf f.type)) = xs[i]?) →
    (∀ (i : Nat) (f : Field) x, fs[i]? = some f → xs[i]? = some x → Small P f.type x.1) → ∃ (a : α) (ds : List (C Value)), ds.map conc = cs.drop off ∧ ds.map C.er = en a ∧ Cells P W ds ∧ ok a
theorem OpMF.one {P : Program} {f : Field} {off n : Nat} {α : Type} {en : α → List (C Unit)} {ok : α → Prop} (ho : f.offset = off) (h : OpM P f.type n en ok) : OpMF P [f] off n en ok := by
  refine ⟨?_⟩
  intro H enc W base spare held fuel cs xs hl hx ht hs
  match xs, hx with
  | [y], _ =>
    have h0 := ht 0 f rfl
    rw [ho, h.sz] at h0
    have e : (cs.drop off).take n = cs.drop off := List.take_of_length_le (by rw [List.length_drop]; omega)
    rw [e] at h0
    obtain ⟨a, ds, e1, e2, e3, _, e5⟩ := h.op (x := y.1) (ps := y.2) h0 (hs 0 f y rfl rfl)
    exact ⟨a, ds, e1, e2, e3, e5⟩
theorem OpMF.cons {P : Program} {f : Field} {fs : List Field} {off off' n m l : Nat} {α β : Type} {ea : α → List (C Unit)} {eb : β → List (C Unit)} {oka : α → Prop} {okb : β → Prop} (ho : f.offset = off) (ho' : off' = off + n) (hl' : l = n + m) (h : OpM P f.type n ea oka) (hf : OpMF P fs off' m eb okb) :
    OpMF P (f :: fs) off l (fun p : α × β => ea p.1 ++ eb p.2) (fun p => oka p.1 ∧ okb p.2) := by
  subst ho'; subst hl'
  refine ⟨?_⟩
  intro H enc W base spare held fuel cs xs hl hx ht hs
  match xs, hx with
  | y :: ys, hx =>
    have h0 := ht 0 f rfl
    rw [ho, h.sz] at h0
    obtain ⟨p, ds, e1, e2, e3, _, okp⟩ := h.op (x := y.1) (ps := y.2) h0 (hs 0 f y rfl rfl)
    obtain ⟨q, es, f1, f2, f3, okq⟩ := hf.op (cs := cs) (xs := ys) (by omega) (by simpa using hx) (fun i g hg => by simpa using ht (i + 1) g (by simpa using hg)) (fun i g x hg hx => hs (i + 1) g x (by simpa using hg) (by simpa using hx))
    refine ⟨(p, q), ds ++ es, ?_, by rw [List.map_append, e2, f2], e3.app f3, okp, okq⟩
    rw [List.map_append, e1, f1, ← List.drop_drop]
    exact List.take_append_drop _ _
theorem OpM.struct {P : Program} {t : TypeId} {fs : Array Field} {α β : Type} {n : Nat} {en : α → List (C Unit)} {ok : α → Prop} {en' : β → List (C Unit)} {okb : β → Prop} (g : α → β) (hg : ∀ a, en' (g a) = en a) (hok : ∀ a, ok a → okb (g a)) (ht : P.underlying t = some (.struct fs)) (hc : P.cellsOf t = n) (hf : OpMF P fs.toList 0 n en ok) :
    OpM P t n en' okb := by
  refine ⟨hc, ?_⟩
  intro H enc W base spare held fuel cs x ps h hs
  obtain ⟨xs, n', _, hx, hl, hlen, hf'⟩ := DataW.trod_struct ht h
  obtain ⟨rfl, _⟩ := Prod.mk.inj hx
  obtain ⟨a, ds, e1, e2, e3, oka⟩ := hf.op (cs := cs) (xs := xs) (by rw [hl, hc]; omega) (by simpa using hlen) (fun i f hi => hf' i f (by simpa using hi)) (fun i f y hi hy m hm => by
    refine hs m ?_
    simp only [DataW.weights, ht]
    exact DataW.weights_mem_each (j := i) (t := f.type) (d := y.1) (by simp [hi]) (by simp [hy]) m hm)
  rw [List.drop_zero] at e1
  exact ⟨g a, ds, e1, by rw [hg, e2], e3, by rw [hl, hc], hok a oka⟩
/-! a law, called -/
theorem Cells.ok {P : Program} {W : World} {ds : List (C Value)} (h : Cells P W ds) {c : C Value} (hc : c ∈ ds) : OkC P W (Here W) [] c ∧ plain c = true := by
  have h1 := h.ro c hc
  have h2 := h.no c hc
  cases h1 with
  | ro g e xs A cc hh hcc hA hl hr hx => exact ⟨.ro g e xs A cc hh hcc hA hl hr hx, rfl⟩
  | own g e xs hr => exact absurd rfl (h2 _ _ _ _)
  | top g hg => exact ⟨hg, rfl⟩
  | _ => exact ⟨trivial, rfl⟩
theorem enterR_ro {γ : Type} : ∀ {ms : List Mode} {vs : List (V γ)} {i : Nat}, (∀ m ∈ ms, m = .ro) → enterR i ms vs = []
  | [], vs, i, _ => by cases vs <;> rfl
  | m :: ms, [], i, h => by cases m <;> rfl
  | m :: ms, v :: vs, i, h => by
    obtain rfl := h m (List.mem_cons_self ..)
    show enterR (i + 1) ms vs = []
    exact enterR_ro (fun x hx => h x (List.mem_cons_of_mem _ hx))
/-- a law that the machine runs to true returns true, and changes nothing that lay there -/
theorem law_calls {P : Program} {M : FuncId → List Mode} {cf : Calls0} (S : Sound P M cf) {f : FuncId} {args : List (V Value)} {W : World} (hM : ∀ m ∈ M f, m = .ro) (hlen : args.length = (M f).length) (htup : ∀ v ∈ args, ∀ vs, v ≠ .tup vs) (hro : ∀ v ∈ args, Cells P W (cellsV v))
    {fin : List (Nat × List (C Unit))} (h : cf f (args.map V.er) = some ⟨[(false, [.bool true])], fin⟩) :
    Calls P f (args.map concV).toArray W fun e W' => e = .returned (.bool true) ∧ RowKit.Below W.heap.size W W' := by
  obtain ⟨_, hS⟩ := S f _ _ h
  have hG : ∀ p : Path, G (enterR 0 (M f) args) p = none := fun p => by rw [enterR_ro hM]; rfl
  have hIn : In P (fun _ _ => none) W (fun _ => False) (Here W) (M f) args := by
    refine ⟨hlen, htup, ⟨?_, ?_, ?_, ?_, ?_, ?_⟩, fun i v hv _ c hc => (hro v (List.mem_of_getElem? hv)).ok hc, fun b hb => ⟨fun h => h, hb⟩, ?_⟩
    · intro p h k e vs hp; rw [hG] at hp; cases hp
    · intro p c hp; rw [hG] at hp; cases hp
    · intro p i j h e vs c hp; rw [hG] at hp; cases hp
    · intro p h e vs hp; rw [hG] at hp; cases hp
    · intro p q h k e vs h' k' e' vs' g hp; rw [hG] at hp; cases hp
    · intro n k h K e vs _ hp; rw [hG] at hp; cases hp
    · intro p h k e vs g hp; rw [hG] at hp; cases hp
  refine (hS _ W _ _ args rfl hIn).mono fun e W' hp => ?_
  cases e with
  | panicked _ => exact hp.elim
  | outgrown => exact hp.elim
  | returned v =>
    obtain ⟨vals, fin', h1, _, rfl, Ot⟩ := hp
    refine ⟨?_, Ot.fr.os, Ot.fr.tape, Ot.fr.output, Ot.fr.size, fun k hk => Ot.fr.block k hk (fun h => h)⟩
    congr 1
    cases vals with
    | nil => cases h1
    | cons x r =>
      obtain ⟨b, cs⟩ := x
      simp only [erL, List.map_cons, List.cons.injEq, Prod.mk.injEq] at h1
      obtain ⟨⟨rfl, h2⟩, h3⟩ := h1
      cases r with
      | cons _ _ => cases h3
      | nil =>
        cases cs with
        | nil => cases h2
        | cons c s =>
          simp only [List.map_cons, List.cons.injEq] at h2
          obtain ⟨h4, h5⟩ := h2
          cases s with
          | cons _ _ => cases h5
          | nil =>
            obtain rfl := inv_bool h4
            rfl
end Go.Mach

/- Hints out of the code: what lives at a loop's head, the orders of a region. -/
namespace Go.Mach
set_option linter.unusedVariables false
def ins (t : Nat) (l : List Nat) : List Nat := if l.contains t then l else t :: l
def union : List Nat → List Nat → List Nat
  | [], l => l
  | t :: r, l => union r (ins t l)
def lvOps (ops : Array Oper) : List Oper → List Nat → List Nat
  | [], out => out
  | o :: r, out => let l := lvOps ops r out
    union (o.looksAt ops) (match o.dst with
      | some d => l.filter (· != d)
      | none => l)
def opdT : Operand → List Nat
  | .tmp t => [t]
  | _ => []
/-- what lives ahead of a piece of code; what lives at the heads of its loops -/
def lv (ret : List Nat) : Code → List Nat → List (Nat × List Nat) → List Nat × List (Nat × List Nat)
  | .region id ops d, out, _ => (lvOps ops ops.toList out, if d then [(2000000 + id, out)] else [])
  | .seq a b, out, ex => let y := lv ret b out ex
    let x := lv ret a y.1 ex
    (x.1, x.2 ++ y.2)
  | .cond c a b, out, ex => let x := lv ret a out ex
    let y := lv ret b out ex
    (union (opdT c) (union x.1 y.1), x.2 ++ y.2)
  | .block id b, out, ex => let x := lv ret b out ((id, out) :: ex)
    (x.1, (1000000 + id, out) :: x.2)
  | .loop b, out, ex => let x := lv ret b [] ex
    let y := lv ret b x.1 ex
    let z := lv ret b (union y.1 x.1) ex
    let h := union z.1 (union y.1 x.1)
    (h, (headId b, h) :: z.2)
  | .exit id, _, ex => ((find id ex).getD [], [])
  | .ret, _, _ => (ret, [])
  | _, out, _ => (out, [])
def quietNext (ops : Array Oper) (L : List Nat) : List Nat → Option Nat
  | [] => none
  | i :: r => if !L.contains i && qAt ops i && subL (aft ops i) L then some i else quietNext ops L r
def chkOf (ops : Array Oper) (L : List Nat) (i : Nat) : List Nat := let a := ancOf ops i
  L.filter fun q => qAt ops q && !a.contains q
mutual
def mkTree (ops : Array Oper) : Nat → List Nat → Tr
  | 0, _ => .done
  | n + 1, L => match quietNext ops L (List.range ops.size) with
    | some i => .take i (mkTree ops n (i :: L))
    | none => mkAlts ops n L ((List.range ops.size).filter fun i => !L.contains i && subL (aft ops i) L)
def mkAlts (ops : Array Oper) : Nat → List Nat → List Nat → Tr
  | _, _, [] => .done
  | 0, _, _ => .done
  | n + 1, L, [i] => .eff i (chkOf ops L i) (mkTree ops n (i :: L))
  | n + 1, L, i :: j :: r => .alt i (chkOf ops L i) (mkTree ops n (i :: L)) (mkAlts ops n L (j :: r))
end
def trees : Code → List (Nat × Tr)
  | .region id ops true => [(id, mkTree ops (2 * ops.size + 4) [])]
  | .seq a b => trees a ++ trees b
  | .cond _ a b => trees a ++ trees b
  | .block _ b => trees b
  | .loop b => trees b
  | _ => []
def hasAlt : Tr → Bool
  | .done => false
  | .take _ t => hasAlt t
  | .eff _ _ t => hasAlt t
  | .alt _ _ _ _ => true
def retT (F : Func) : List Nat := F.results.toList.filterMap fun
  | .tmp t => some t
  | .cell _ _ => none
def bodyOf (F : Func) : Code := match F.body with
  | some c => c
  | none => .skip
/-- the hints of a function -/
def hint (q : Bool) (ms : List Mode) (F : Func) : FnHint :=
  let ls := (lv (retT F) (bodyOf F) (retT F) []).2
  let rt := keysRw 0 ms
  let ts := trees (bodyOf F)
  ⟨fun id => let l := (find id ls).getD []
    ⟨l, rt, l⟩, fun id => if q then (if hasAlt ((find id ts).getD .done) then (find (2000000 + id) ls).map fun l => ⟨l, rt, l⟩ else none) else none, fun id => (find id ts).getD .done, fun id => (find (1000000 + id) ls).map fun l => ⟨l, rt, l⟩⟩
/-- a seat's machine: every parameter is only read, but for those that `sp` tells -/
def modes (P : Program) (sp : FuncId → Option (List Mode)) (f : FuncId) : List Mode := match sp f with
  | some ms => ms
  | none => match P.funcs[f]? with
    | some F => List.replicate F.params.size .ro
    | none => []
def hints (P : Program) (sp : FuncId → Option (List Mode)) (rg : FuncId → Bool) (f : FuncId) : FnHint := match P.funcs[f]? with
  | some F => hint (rg f) (modes P sp f) F
  | none => ⟨fun _ => ⟨[], [], []⟩, fun _ => none, fun _ => .done, fun _ => none⟩
noncomputable def mk (P : Program) (sp : FuncId → Option (List Mode)) (rg : FuncId → Bool) (orac : FuncId → Option (List (V Unit) → Option Ret)) : Setup := ⟨P, modes P sp, hints P sp rg, okFn P (modes P sp) (hints P sp rg), orac⟩
theorem mk_sound {P : Program} {sp : FuncId → Option (List Mode)} {rg : FuncId → Bool} {orac : FuncId → Option (List (V Unit) → Option Ret)} (hm : P.follows .mixedOrders = true) (hO : Orac P (modes P sp) orac) : Sound P (modes P sp) (Fn (mk P sp rg orac)) :=
  Fn_sound (mk P sp rg orac) hm hO (fun _ h => h)
def ans (P : Program) (F : Func) (ms : List Mode) : Option (St Unit × Ex) → Option Ret
  | some (σ, .normal) | some (σ, .ret) => leave P F ms σ
  | _ => none
/-- a function's answer is its code's -/
theorem Fn_ans (Z : Setup) {f : FuncId} {as : List (V Unit)} {F : Func} {r : Ret} (ho : Z.orac f = none) (hf : Z.P.funcs[f]? = some F) (hb : F.body.isSome = true) (hk : Z.okF f = true)
    (hx : ans Z.P F (Z.M f) (go Z (Z.H f) [.code (bodyOf F)] ⟨F.ntmps, enterT 0 (Z.M f) as, enterR 0 (Z.M f) as⟩) = some r) : Fn Z f as = some r := by
  obtain ⟨c, hc⟩ := Option.isSome_iff_exists.1 hb
  have hbo : bodyOf F = c := by unfold bodyOf; rw [hc]
  rw [hbo, ← exL_go] at hx
  unfold ans at hx
  split at hx
  · rename_i σ h1
    rw [Fn_eq Z ho hf hc hk (.inl rfl) h1]; exact hx
  · rename_i σ h1
    rw [Fn_eq Z ho hf hc hk (.inr rfl) h1]; exact hx
  · cases hx
def nthLoop : Nat → Code → Option Code
  | n, .seq a b => match nthLoop n a with
    | some c => some c
    | none => nthLoop n b
  | n, .cond _ a b => match nthLoop n a with
    | some c => some c
    | none => nthLoop n b
  | n, .block _ b => nthLoop n b
  | n, .loop b => if headId b = n then some b else nthLoop n b
  | _, _ => none
/-- a loop's body, by the number of its first region -/
def lpc (F : Func) (n : Nat) : Code := match nthLoop n (bodyOf F) with
  | some c => c
  | none => .skip
end Go.Mach

/- Words of the machine's runs: scalars. -/
namespace Go.Mach
set_option linter.unusedVariables false
set_option linter.unusedSimpArgs false
section
variable (P : Program) (k : IntKind) (a b : Int) (t : TypeId)
theorem i_add : scal2 P (binOp .add t) (.one (.int k a)) (.one (.int k b)) = some (.one (.int k (k.wrap (a + b)))) := by simp [scal2, val1, valC, binOp, Op.intArith, quiet, backC, pure]
theorem i_sub : scal2 P (binOp .sub t) (.one (.int k a)) (.one (.int k b)) = some (.one (.int k (k.wrap (a - b)))) := by simp [scal2, val1, valC, binOp, Op.intArith, quiet, backC, pure]
theorem i_mul : scal2 P (binOp .mul t) (.one (.int k a)) (.one (.int k b)) = some (.one (.int k (k.wrap (a * b)))) := by simp [scal2, val1, valC, binOp, Op.intArith, quiet, backC, pure]
theorem i_lss : scal2 P (binOp .lss t) (.one (.int k a)) (.one (.int k b)) = some (.one (.bool (decide (a < b)))) := by simp [scal2, val1, valC, binOp, Op.intCmp, quiet, backC, pure]
theorem i_leq : scal2 P (binOp .leq t) (.one (.int k a)) (.one (.int k b)) = some (.one (.bool (decide (a ≤ b)))) := by simp [scal2, val1, valC, binOp, Op.intCmp, quiet, backC, pure]
theorem i_gtr : scal2 P (binOp .gtr t) (.one (.int k a)) (.one (.int k b)) = some (.one (.bool (decide (b < a)))) := by simp [scal2, val1, valC, binOp, Op.intCmp, quiet, backC, pure]
theorem i_geq : scal2 P (binOp .geq t) (.one (.int k a)) (.one (.int k b)) = some (.one (.bool (decide (b ≤ a)))) := by simp [scal2, val1, valC, binOp, Op.intCmp, quiet, backC, pure]
theorem i_eql : scal2 P (binOp .eql t) (.one (.int k a)) (.one (.int k b)) = some (.one (.bool (decide (a = b)))) := by simp [scal2, val1, valC, binOp, Op.intCmp, quiet, backC, pure, BEq.beq]
theorem i_neq : scal2 P (binOp .neq t) (.one (.int k a)) (.one (.int k b)) = some (.one (.bool (!decide (a = b)))) := by simp [scal2, val1, valC, binOp, Op.intCmp, quiet, backC, pure, bne, BEq.beq]
theorem i_quo (h : b ≠ 0) : scal2 P (binOp .quo t) (.one (.int k a)) (.one (.int k b)) = some (.one (.int k (k.wrap (a.tdiv b)))) := by simp [scal2, val1, valC, binOp, Op.intDiv, quiet, backC, pure, h]
theorem i_rem (h : b ≠ 0) : scal2 P (binOp .rem t) (.one (.int k a)) (.one (.int k b)) = some (.one (.int k (a.tmod b))) := by simp [scal2, val1, valC, binOp, Op.intDiv, quiet, backC, pure, h]
end
section
variable (P : Program) (a b : ByteArray) (t : TypeId)
theorem s_eql : scal2 P (binOp .eql t) (.one (.str a)) (.one (.str b)) = some (.one (.bool (a.toList == b.toList))) := by simp [scal2, val1, valC, binOp, Op.stringOp, quiet, backC, pure]
theorem s_neq : scal2 P (binOp .neq t) (.one (.str a)) (.one (.str b)) = some (.one (.bool (a.toList != b.toList))) := by simp [scal2, val1, valC, binOp, Op.stringOp, quiet, backC, pure, bne]
theorem s_add (h : a.size + b.size ≤ 9223372036854775807) : scal2 P (binOp .add t) (.one (.str a)) (.one (.str b)) = some (.one (.str (a ++ b))) := by
  have : ¬ (9223372036854775807 : Int) < (a.size : Int) + b.size := by omega
  simp [scal2, val1, valC, binOp, Op.stringOp, quiet, backC, pure, this]
theorem s_lss : scal2 P (binOp .lss t) (.one (.str a)) (.one (.str b)) = some (.one (.bool (Op.bytesLess a.toList b.toList))) := by simp [scal2, val1, valC, binOp, Op.stringOp, quiet, backC, pure]
theorem s_geq : scal2 P (binOp .geq t) (.one (.str a)) (.one (.str b)) = some (.one (.bool (!Op.bytesLess a.toList b.toList))) := by simp [scal2, val1, valC, binOp, Op.stringOp, quiet, backC, pure]
theorem bin2_one (op : BinOp) (c : C Unit) (u : V Unit) : bin2 P op t (.one c) u = scal2 P (binOp op t) (.one c) u := rfl
theorem bin2_agg {op : BinOp} {cs ds : List (C Unit)} {x y : List Value} {q : Bool} (hx : mapO valC cs = some x) (hy : mapO valC ds = some y) (hg : P.eqGuardType P.depth t = false) (hr : ∀ w : World, (binOp op t (.agg x.toArray) (.agg y.toArray)).run P w = .ok (.bool q) w) : bin2 P op t (.agg cs) (.agg ds) = some (.one (.bool q)) := by
  have h : P.eqGuardType P.depth t = false ∧ ∃ q : Bool, ∀ w : World, (binOp op t (.agg x.toArray) (.agg y.toArray)).run P w = .ok (.bool q) w := ⟨hg, q, hr⟩
  have hq : h.2.choose = q := by
    have h1 := h.2.choose_spec default
    rw [hr default] at h1
    simp only [Result.ok.injEq, Value.bool.injEq, and_true] at h1
    exact h1.symm
  unfold bin2
  simp only [hx, hy]
  unfold aggR
  rw [dif_pos h, hq]
section
theorem b_eql (h : P.underlying t = some .bool) (x y : Bool) : scal2 P (binOp .eql t) (.one (.bool x)) (.one (.bool y)) = some (.one (.bool (x == y))) := by
  have : ∃ d, Op.maxDepth = d + 1 := ⟨9999, rfl⟩
  obtain ⟨d, hd⟩ := this
  simp [scal2, val1, valC, binOp, Op.equal, hd, Op.equalIn, underlying, program, quiet, h, pure, bind, Sem.bind, backC]
theorem b_neq (h : P.underlying t = some .bool) (x y : Bool) : scal2 P (binOp .neq t) (.one (.bool x)) (.one (.bool y)) = some (.one (.bool (x != y))) := by
  have : ∃ d, Op.maxDepth = d + 1 := ⟨9999, rfl⟩
  obtain ⟨d, hd⟩ := this
  simp [scal2, val1, valC, binOp, Op.equal, hd, Op.equalIn, underlying, program, quiet, h, pure, bind, Sem.bind, backC, bne]
end
section
variable (k : IntKind) (a b : Int)
theorem i_and : scal2 P (binOp .and t) (.one (.int k a)) (.one (.int k b)) = some (.one (.int k (k.wrap ((BitVec.ofInt k.bits a &&& BitVec.ofInt k.bits b).toNat)))) := by simp [scal2, val1, valC, binOp, Op.intBits, quiet, backC, pure]
theorem i_or : scal2 P (binOp .or t) (.one (.int k a)) (.one (.int k b)) = some (.one (.int k (k.wrap ((BitVec.ofInt k.bits a ||| BitVec.ofInt k.bits b).toNat)))) := by simp [scal2, val1, valC, binOp, Op.intBits, quiet, backC, pure]
theorem i_shr (k' : IntKind) (h : 0 ≤ b) : scal2 P (binOp .shr t) (.one (.int k a)) (.one (.int k' b)) = some (.one (.int k (a.fdiv (2 ^ min b.toNat k.bits)))) := by
  have : ¬ b < 0 := by omega
  simp [scal2, val1, valC, binOp, Op.shift, quiet, backC, pure, this]
end
theorem u_not (x : Bool) : scal1 P (Op.unary .not) (.one (.bool x)) = some (.one (.bool (!x))) := by simp [scal1, val1, valC, Op.unary, quiet, backC, pure]
end
end Go.Mach

/- Words of the machine's runs: one simp set. -/
namespace Go.Mach
set_option linter.unusedVariables false
set_option linter.unusedSimpArgs false
def leaveX (P : Program) (rs : List ResultVar) (ts : List TypeId) (ms : List Mode) (σ : St Unit) : Option Ret := match outs P ms rs ts σ with
  | some (σ, vals) => if shutR (pickL σ.rt (keysRw 0 ms)) then some ⟨vals, pickL σ.rt (keysRw 0 ms)⟩ else none
  | none => none
theorem ansN (P F ms σ) : ans P F ms (some (σ, .normal)) = leaveX P F.results.toList F.resultTypes.toList ms σ := rfl
theorem ansR (P F ms σ) : ans P F ms (some (σ, .ret)) = leaveX P F.results.toList F.resultTypes.toList ms σ := rfl
section
variable (P : Program) (sp : FuncId → Option (List Mode)) (rg : FuncId → Bool) (orac : FuncId → Option (List (V Unit) → Option Ret))
theorem mkP : (EL (mk P sp rg orac)).P = P := rfl
theorem mkM : (EL (mk P sp rg orac)).M = modes P sp := rfl
theorem mkC : (EL (mk P sp rg orac)).cf = Fn (mk P sp rg orac) := rfl
theorem mkR (f n) (h : rg f = false) : ((mk P sp rg orac).H f).region n = none := by
  show (hints P sp rg f).region n = none
  unfold hints
  split
  · unfold hint; simp [h]
  · rfl
end
end Go.Mach
