import Derived.Test.YtlnlhpgghkkhaaaGreatDoorMach1
import Derived.Laws.MakeOwn
import Derived.Great.FillDense
set_option linter.unusedVariables false
set_option linter.unusedSimpArgs false
/- make([]T, n); literals of slices. -/
namespace Go.Mach
set_option linter.unusedVariables false
set_option linter.unusedSimpArgs false
section
variable {P : Program} {hd : Nat → Nat → Option (Value × K × TypeId)} {w0 w w' : World} {O N M : Nat → Prop} {Γ Γ' Γ0 : St Value} {a a' : Act} {rt rt' : Rt} {Q : Exit → Act → World → Prop}
theorem made_flat (zs : Array Value) (n : Nat) : (madeCells zs (n * zs.size)).toList = (List.replicate n zs.toList).flatten := by
  have hl : ∀ el ∈ List.replicate n zs.toList, el.length = zs.size := fun el h => by rw [List.eq_of_mem_replicate h, Array.length_toList]
  apply List.ext_getElem?
  intro i
  by_cases hi : i < n * zs.size
  · have hs : 0 < zs.size := by rcases Nat.eq_zero_or_pos zs.size with h | h <;> simp_all
    have hd : i / zs.size < n := Nat.div_lt_of_lt_mul (by rw [Nat.mul_comm]; exact hi)
    have hm : i % zs.size < zs.size := Nat.mod_lt _ hs
    have h1 := flat_get (i := i / zs.size) (j := i % zs.size) (el := zs.toList) (u := zs[i % zs.size]) hl (by simp [hd]) (by simp [hm])
    have he : i / zs.size * zs.size + i % zs.size = i := by rw [Nat.mul_comm]; exact Nat.div_add_mod i zs.size
    rw [he] at h1
    rw [h1]
    simp [madeCells, hi, hm]
  · rw [List.getElem?_eq_none (by simp [madeCells]; omega), List.getElem?_eq_none (by rw [flat_len hl]; simp; omega)]
theorem wrap_id {n : Int} (h0 : 0 ≤ n) (h : n ≤ 281474976710656) : IntKind.i64.wrap n = n := by
  unfold IntKind.wrap
  simp only [IntKind.bits, IntKind.signed]
  have : n % (2 ^ 64 : Int) = n := by omega
  simp only [this, Bool.true_and]
  rw [if_neg]
  simp only [decide_eq_true_eq]
  omega
theorem makeSlice_run {t e : TypeId} {k k' : IntKind} {n : Int} (he : elem P t = some e) (h0 : 0 ≤ n) (hb : n * P.bytesOf e ≤ 281474976710656) (hn : n ≤ 281474976710656) {i : TypeInfo} {z : Value} (hi : P.info? e = some i) (hz : i.zero = some z) (hs : i.size = P.cellsOf e) (hzs : z.cells.size = P.cellsOf e) :
    (Instr.makeSlice t (.int k n) (.int k' n)).run P w = .ok (.slice (some ⟨w.heap.size, 0, none⟩) n.toNat n.toNat) (w.alloc (.cells (List.replicate n.toNat z.cells.toList).flatten.toArray e)) := by
  obtain ⟨hu, inf, hi', hsz, hby⟩ := elem_ok he
  rw [hi] at hi'
  obtain rfl := Option.some.inj hi'
  have hw := wrap_id h0 hn
  have hb' : ¬ ((i.bytes : Int) * n > 2 ^ 48) := by rw [hby, Int.mul_comm]; omega
  have hneg : ¬ n < 0 := by omega
  have hcells : ∀ zz : Array Value, (zz = z.cells ∨ n.toNat * i.size = 0) → ((Array.range (n.toNat * i.size)).map (zz[· % zz.size]!)) = (List.replicate n.toNat z.cells.toList).flatten.toArray := by
    intro zz hzz
    apply Array.ext'
    rcases hzz with rfl | h
    · have := made_flat z.cells n.toNat
      rw [hzs, ← hs] at this
      exact this
    · rw [h]
      have hl : ((List.replicate n.toNat z.cells.toList).flatten).length = 0 := by
        rw [flat_len (sz := P.cellsOf e) (fun el h => by rw [List.eq_of_mem_replicate h, Array.length_toList, hzs]), List.length_replicate, ← hs, h]
      simp [List.eq_nil_of_length_eq_zero hl]
  unfold Instr.makeSlice
  simp only [Sem.run_bind, Go.underlying, run_program, hu, Sem.run_pure, Result.andThen_ok, asInt, asIntOf, typeInfo, hi, hw, sizeOf, zeroValue, hz, Sem.run_ite, run_askRoom]
  simp only [hneg, hb', decide_false, Bool.or_self, Bool.false_eq_true, if_false, Int.lt_irrefl, gt_iff_lt, false_or, or_self]
  split
  · rename_i h
    simp only [Result.andThen_ok, newRow, Sem.run_bind, run_newObj, Sem.run_pure]
    rw [hcells #[] (.inr h)]
    rfl
  · simp only [Result.andThen_ok, newRow, Sem.run_bind, run_newObj, Sem.run_pure]
    rw [hcells z.cells (.inl rfl)]
    rfl
theorem blk_sl (w : World) (e : TypeId) (vs : List (List Value)) (n : Nat) (hn : vs.length = n) (hl : ∀ el ∈ vs, el.length = P.cellsOf e) (hm : n ≤ maxLen) : BlkOk P (w.alloc (.cells vs.flatten.toArray e)) (.slice (some ⟨w.heap.size, 0, none⟩) n n) e vs .sl := by
  subst hn
  refine ⟨⟨flat_len hl, .inr ⟨w.heap.size, vs.length, vs.flatten.toArray, rfl, Nat.zero_le _, heap_alloc_new w _, Nat.le_refl _, hm, by simp [flat_len hl], ?_⟩⟩, hl⟩
  rw [List.take_of_length_le (by rw [flat_len hl]; simp [flat_len hl])]
theorem makeSlice_ok (R : Rel P hd w0 O N Γ a w) {o : Oper} (hdst : ∀ t, o.dst = some t → t < Γ.nt ∧ t < 1000) {t e : TypeId} {x y : Operand} {k k' : IntKind} {n : Int} (ho : o.op = .makeSlice t x y) (hx : opd Γ.er x = some (.one (.int k n))) (hy : opd Γ.er y = some (.one (.int k' n)))
    (he : elem P t = some e) (h0 : 0 ≤ n) (hb : n * P.bytesOf e ≤ 281474976710656) (hn : n ≤ 281474976710656) {cs : List (C Unit)} (hz : zeroM P e = some cs) {σ' : St Unit} (h : made Γ.er o.dst (.own () .sl e (List.replicate n.toNat cs)) = some σ') : o.wp P a w (Done P hd w0 O N σ') Q := by
  obtain ⟨i, z, ds, hi, hzz, hs, hzs, rfl, h2, h3, h4⟩ := zeroM_ok hz
  obtain ⟨u, hu, hf, rfl⟩ := made_ok h
  obtain ⟨U, hU, hxe, _⟩ := opd_ok R hx
  obtain ⟨d, rfl, hd'⟩ := inv_one hU
  obtain rfl := inv_int hd'
  obtain ⟨U2, hU2, hye, _⟩ := opd_ok R hy
  obtain ⟨d2, rfl, hd2⟩ := inv_one hU2
  obtain rfl := inv_int hd2
  have hrun : (execOp a.eval o).run P w = .ok (.value (.slice (some ⟨w.heap.size, 0, none⟩) n.toNat n.toNat)) (w.alloc (.cells (List.replicate n.toNat (ds.map conc)).flatten.toArray e)) := by
    simp only [execOp, ho, hxe, hye, concV, conc, Sem.run_bind, makeSlice_run he h0 hb hn hi hzz hs hzs, Result.andThen_ok, Sem.run_pure, h2]
  refine wp_value hrun ?_
  obtain ⟨d1, d2⟩ := hdst u hu
  rw [hu]
  have hlen : ∀ el ∈ List.replicate n.toNat (ds.map conc), el.length = P.cellsOf e := fun el h => by rw [List.eq_of_mem_replicate h, List.length_map]; exact h3
  refine ⟨_, ?_, R.alloc (xs := List.replicate n.toNat ds) ((find_er Γ).1 hf) d1 d2 _ rfl (by rw [List.map_replicate]; exact blk_sl w e _ n.toNat (by simp) hlen (by simp only [maxLen]; omega)) (fun i el j d hi hj => ?_)⟩
  · rw [er_made, List.map_replicate]
  · have hel : el = ds := List.eq_of_mem_replicate (List.mem_of_getElem? hi)
    subst hel
    obtain ⟨b1, b2⟩ := h4 d (List.mem_of_getElem? hj)
    exact ⟨b1, fun hn => ⟨(b2 hn).1 w N Γ.rt, (b2 hn).2.1, fun _ => (b2 hn).2.2⟩⟩
/-! cells are taken into a row -/
def Subs (rt' rt : Rt) : Prop := ∀ p h k e vs, G rt' p = some (.own h k e vs) → G rt p = some (.own h k e vs)
theorem Apart.sub {g : Nat} (h : Apart rt g) (s : Subs rt' rt) : Apart rt' g := fun p h' k e vs hG => h p h' k e vs (s p h' k e vs hG)
theorem Fit.sub {d : C Value} (f : Fit P w N M rt .sl d) (s : Subs rt' rt) : Fit P w N M rt' .sl d := by
  refine ⟨⟨f.lay.own, fun r d' ht => ?_, f.lay.pln, f.lay.dis, fun r h k e vs g ht hb => ⟨(f.lay.apt r h k e vs g ht hb).1.sub s, (f.lay.apt r h k e vs g ht hb).2⟩⟩, f.sl, f.pl⟩
  obtain ⟨o1, o2⟩ := f.lay.oth r d' ht
  refine ⟨OkC_plain o1 ?_, o2⟩
  cases r with
  | nil =>
    have : d = d' := by
      unfold T at ht
      cases d <;> simp [inn, sh] at ht <;> exact ht
    subst this
    exact f.pl rfl
  | cons x r => exact f.lay.deep f.not_pt (by simp) ht
abbrev Mk (O : Nat → Prop) (w0 : World) : Nat → Prop := fun g => O g ∨ w0.heap.size ≤ g
structure Ab (P : Program) (w : World) (N M : Nat → Prop) (Γ Γ' : St Value) (es : List (C Value)) : Prop where
  sub : Subs Γ'.rt Γ.rt
  fit : ∀ e ∈ es, Fit P w N M Γ'.rt .sl e
  was : ∀ e ∈ es, ∀ r h k t vs g, T e r = some (.own h k t vs) → blk h = some g → ¬ Apart Γ.rt g
  dis : ∀ (i j : Nat) (d d' : C Value) r r' h k t vs h' k' t' vs' g, es[i]? = some d → es[j]? = some d' → T d r = some (.own h k t vs) → T d' r' = some (.own h' k' t' vs') → blk h = some g → blk h' = some g → i = j
theorem absorb_ok : ∀ {ls : List Leaf} {cs : List (C Value)} {Γ : St Value} {σ' : St Unit} {ds : List (C Unit)}, Rel P hd w0 O N Γ a w → Subs Γ.rt Γ0.rt → (∀ c ∈ cs, OkC P w N Γ0.rt c ∧ c ≠ .und) → absorb Γ.er ls (cs.map C.er) = some (σ', ds) →
    ∃ (Γ' : St Value) (es : List (C Value)), Γ'.er = σ' ∧ es.map C.er = ds ∧ es.map conc = cs.map conc ∧ Rel P hd w0 O N Γ' a w ∧ Ab P w N (Mk O w0) Γ Γ' es
  | [], [], Γ, σ', ds, R, hs, hc, h => by
    simp only [absorb, List.map_nil, Option.some.injEq, Prod.mk.injEq] at h
    obtain ⟨rfl, rfl⟩ := h
    exact ⟨Γ, [], rfl, rfl, rfl, R, ⟨fun _ _ _ _ _ h => h, by simp, by simp, by intros; simp_all⟩⟩
  | [], c :: cs, Γ, σ', ds, R, hs, hc, h => by simp [absorb] at h
  | l :: ls, [], Γ, σ', ds, R, hs, hc, h => by simp [absorb] at h
  | l :: ls, c :: cs, Γ, σ', ds, R, hs, hc, h => by
    have hcc := hc c (List.mem_cons_self ..)
    have hcs : ∀ c ∈ cs, OkC P w N Γ0.rt c ∧ c ≠ .und := fun d hd' => hc d (List.mem_cons_of_mem _ hd')
    -- a plain cell
    have hplain : plain c = true → (∀ h k e xs, c ≠ .own h k e xs) → (absorb Γ.er ls (cs.map C.er)).map (fun r => (r.1, asOwn l c.er :: r.2)) = some (σ', ds) →
        ∃ (Γ' : St Value) (es : List (C Value)), Γ'.er = σ' ∧ es.map C.er = ds ∧ es.map conc = (c :: cs).map conc ∧ Rel P hd w0 O N Γ' a w ∧ Ab P w N (Mk O w0) Γ Γ' es := by
      intro hp hno h
      obtain ⟨⟨σ2, ds2⟩, h2, h3⟩ := Option.map_eq_some_iff.1 h
      simp only [Prod.mk.injEq] at h3
      obtain ⟨rfl, rfl⟩ := h3
      obtain ⟨Γ', es, e1, e2, e3, R', A⟩ := absorb_ok R hs hcs h2
      have hb : Bare (asOwnG l c) := by
        cases l with
        | ot => exact .inl hno
        | sl e => cases c <;> first | exact .inl hno | exact .inr ⟨e, rfl⟩
      have hf : Fit P w N (Mk O w0) Γ'.rt .sl (asOwnG l c) := hb.fit (fun hn => by
        have : asOwnG l c = c := by
          cases l with
          | ot => rfl
          | sl e => cases c <;> first | rfl | exact absurd rfl (hn _ _ _ _)
        rw [this]
        exact ⟨OkC_plain hcc.1 hp, hcc.2, fun _ => hp⟩)
      refine ⟨Γ', asOwnG l c :: es, e1, by rw [List.map_cons, asOwnG_er, e2], by rw [List.map_cons, List.map_cons, asOwnG_conc, e3], R', A.sub, fun e he => ?_, fun e he r h k t vs g ht hb' => ?_, fun i j d d' r r' h k t vs h' k' t' vs' g hi hj t1 t2 b1 b2 => ?_⟩
      · rcases List.mem_cons.1 he with rfl | he
        · exact hf
        · exact A.fit e he
      · rcases List.mem_cons.1 he with rfl | he
        · obtain ⟨_, rfl, _⟩ := T_bare hb ht; cases hb'
        · exact A.was e he r h k t vs g ht hb'
      · cases i with
        | zero =>
          simp only [List.getElem?_cons_zero, Option.some.injEq] at hi
          subst hi
          obtain ⟨_, rfl, _⟩ := T_bare hb t1; cases b1
        | succ i =>
          cases j with
          | zero =>
            simp only [List.getElem?_cons_zero, Option.some.injEq] at hj
            subst hj
            obtain ⟨_, rfl, _⟩ := T_bare hb t2; cases b2
          | succ j =>
            rw [A.dis i j d d' r r' h k t vs h' k' t' vs' g (by simpa using hi) (by simpa using hj) t1 t2 b1 b2]
    cases c with
    | ref g q =>
      simp only [List.map_cons, er_ref, absorb] at h
      split at h
      · rename_i g' e xs hq
        obtain ⟨⟨σ2, ds2⟩, h2, h3⟩ := Option.map_eq_some_iff.1 h
        simp only [Prod.mk.injEq] at h3
        obtain ⟨rfl, rfl⟩ := h3
        obtain ⟨d, hd1, hd2⟩ := getP_of (rt := Γ.rt) hq
        obtain ⟨g2, ys, rfl, rfl⟩ := inv_own hd2
        obtain ⟨R1, L1, L2, hown⟩ := R.gone hd1
        have hsub1 : Subs (gone Γ q g2).rt Γ.rt := fun p h k e vs hG => (hown p h k e vs hG).2
        rw [← gone_er Γ q g2] at h2
        obtain ⟨Γ', es, e1, e2, e3, R', A⟩ := absorb_ok R1 (fun p h k e vs hG => hs p h k e vs (hsub1 p h k e vs hG)) hcs h2
        have hG : G Γ.rt q = some (.own g2 .sl e (ys.map (·.map conc))) := by unfold G; rw [hd1]; rfl
        have hhdr : g = g2 := by
          obtain ⟨k, e', vs, hG'⟩ := hcc.1
          have := hs _ _ _ _ _ hG
          rw [this] at hG'
          simp only [Option.some.injEq, Sh.own.injEq] at hG'
          exact hG'.1.symm
        subst hhdr
        have hT : ∀ r, T (.own g .sl e ys) r = G Γ.rt (q.app r) := fun r => by unfold T G; rw [getP_app hd1]
        have hf1 : Fit P w N (Mk O w0) (gone Γ q g).rt .sl (.own g .sl e ys) := ⟨L1, L2, fun _ => rfl⟩
        have hf : Fit P w N (Mk O w0) Γ'.rt .sl (.own g .sl e ys) := hf1.sub A.sub
        have hwas : ∀ r h k t vs b, T (.own g .sl e ys) r = some (.own h k t vs) → blk h = some b → ¬ Apart Γ.rt b := fun r h k t vs b ht hb hap => hap _ h k t vs (by rw [← hT]; exact ht) hb
        refine ⟨Γ', .own g .sl e ys :: es, e1, by rw [List.map_cons, er_own, e2], by rw [List.map_cons, List.map_cons, e3]; rfl, R', fun p h k e vs hG => hsub1 p h k e vs (A.sub p h k e vs hG), fun e' he => ?_, fun e' he r h k t vs b ht hb' => ?_, fun i j d d' r r' h k t vs h' k' t' vs' b hi hj t1 t2 b1 b2 => ?_⟩
        · rcases List.mem_cons.1 he with rfl | he
          · exact hf
          · exact A.fit e' he
        · rcases List.mem_cons.1 he with rfl | he
          · exact hwas r h k t vs b ht hb'
          · intro hap
            exact A.was e' he r h k t vs b ht hb' (hap.sub hsub1)
        · have hcross : ∀ (m : Nat) (x : C Value) r r' h k t vs h' k' t' vs' b, es[m]? = some x → T (.own g .sl e ys) r = some (.own h k t vs) → T x r' = some (.own h' k' t' vs') → blk h = some b → blk h' = some b → False := by
            intro m x r r' h k t vs h' k' t' vs' b hm t1 t2 b1 b2
            exact A.was x (List.mem_of_getElem? hm) r' h' k' t' vs' b t2 b2 (L1.apt r h k t vs b t1 b1).1
          cases i with
          | zero =>
            cases j with
            | zero => rfl
            | succ j =>
              simp only [List.getElem?_cons_zero, Option.some.injEq] at hi
              subst hi
              exact (hcross j d' r r' h k t vs h' k' t' vs' b (by simpa using hj) t1 t2 b1 b2).elim
          | succ i =>
            cases j with
            | zero =>
              simp only [List.getElem?_cons_zero, Option.some.injEq] at hj
              subst hj
              exact (hcross i d r' r h' k' t' vs' h k t vs b (by simpa using hi) t2 t1 b2 b1).elim
            | succ j =>
              rw [A.dis i j d d' r r' h k t vs h' k' t' vs' b (by simpa using hi) (by simpa using hj) t1 t2 b1 b2]
      · cases h
    | ptr g q i j => simp [absorb, er_ptr] at h
    | sub g q i j => simp [absorb, er_sub] at h
    | rp g xs => simp [absorb, er_rp] at h
    | und => simp [absorb, er_und] at h
    | own g k e xs => simp [absorb, er_own] at h
    | int k z => exact hplain rfl (by intros; simp) (by simpa only [List.map_cons, er_int, absorb] using h)
    | bool b => exact hplain rfl (by intros; simp) (by simpa only [List.map_cons, er_bool, absorb] using h)
    | str s => exact hplain rfl (by intros; simp) (by simpa only [List.map_cons, er_str, absorb] using h)
    | fn f => exact hplain rfl (by intros; simp) (by simpa only [List.map_cons, er_fn, absorb] using h)
    | nil => exact hplain rfl (by intros; simp) (by simpa only [List.map_cons, er_nil, absorb] using h)
    | ro g e xs => exact hplain rfl (by intros; simp) (by simpa only [List.map_cons, er_ro, absorb] using h)
    | top g => exact hplain rfl (by intros; simp) (by simpa only [List.map_cons, er_top, absorb] using h)
end
end Go.Mach

/- Literals of slices; append. -/
namespace Go.Mach
set_option linter.unusedVariables false
set_option linter.unusedSimpArgs false
section
variable {P : Program} {hd : Nat → Nat → Option (Value × K × TypeId)} {w0 w w' : World} {O N M : Nat → Prop} {Γ Γ' Γ0 : St Value} {a a' : Act} {rt rt' : Rt} {Q : Exit → Act → World → Prop}
/-- block g is owned by something in the cell -/
def Has (d : C Value) (g : Nat) : Prop := ∃ r h k e vs, T d r = some (.own h k e vs) ∧ blk h = some g
def HasR (xs : List (List (C Value))) (g : Nat) : Prop := ∃ (i : Nat) (el : List (C Value)) (j : Nat) (d : C Value), xs[i]? = some el ∧ el[j]? = some d ∧ Has d g
/-- rows that may be laid into a block -/
structure Els (P : Program) (w : World) (N M : Nat → Prop) (rt : Rt) (xs : List (List (C Value))) : Prop where
  fit : ∀ (i : Nat) (el : List (C Value)) (j : Nat) (d : C Value), xs[i]? = some el → el[j]? = some d → Fit P w N M rt .sl d
  dis : ∀ (i : Nat) (el : List (C Value)) (j : Nat) (d : C Value) (i' : Nat) (el' : List (C Value)) (j' : Nat) (d' : C Value) g, xs[i]? = some el → el[j]? = some d → xs[i']? = some el' → el'[j']? = some d' → Has d g → Has d' g → i = i' ∧ j = j'
theorem Els.app {xs ys : List (List (C Value))} (X : Els P w N M rt xs) (Y : Els P w N M rt ys) (h : ∀ g, HasR xs g → HasR ys g → False) : Els P w N M rt (xs ++ ys) := by
  have hcase : ∀ (i : Nat) (el : List (C Value)), (xs ++ ys)[i]? = some el → (i < xs.length ∧ xs[i]? = some el) ∨ (xs.length ≤ i ∧ ys[i - xs.length]? = some el) := by
    intro i el hi
    rcases Nat.lt_or_ge i xs.length with hl | hl
    · rw [List.getElem?_append_left hl] at hi; exact .inl ⟨hl, hi⟩
    · rw [List.getElem?_append_right hl] at hi; exact .inr ⟨hl, hi⟩
  refine ⟨fun i el j d hi hj => ?_, fun i el j d i' el' j' d' g hi hj hi' hj' b1 b2 => ?_⟩
  · rcases hcase i el hi with ⟨_, h1⟩ | ⟨_, h1⟩
    · exact X.fit _ el j d h1 hj
    · exact Y.fit _ el j d h1 hj
  · rcases hcase i el hi with ⟨l1, h1⟩ | ⟨l1, h1⟩ <;> rcases hcase i' el' hi' with ⟨l2, h2⟩ | ⟨l2, h2⟩
    · exact X.dis i el j d i' el' j' d' g h1 hj h2 hj' b1 b2
    · exact (h g ⟨i, el, j, d, h1, hj, b1⟩ ⟨_, el', j', d', h2, hj', b2⟩).elim
    · exact (h g ⟨i', el', j', d', h2, hj', b2⟩ ⟨_, el, j, d, h1, hj, b1⟩).elim
    · obtain ⟨e1, e2⟩ := Y.dis _ el j d _ el' j' d' g h1 hj h2 hj' b1 b2
      exact ⟨by omega, e2⟩
theorem Els.nil : Els P w N M rt [] := ⟨by intros; simp_all, by intros; simp_all⟩
theorem Els.sub {xs : List (List (C Value))} (X : Els P w N M rt xs) (s : Subs rt' rt) : Els P w N M rt' xs := ⟨fun i el j d hi hj => (X.fit i el j d hi hj).sub s, X.dis⟩
/-- another world: nothing of theirs is touched -/
theorem Fit.fr {d : C Value} (f : Fit P w N M rt .sl d) {B : Nat → Prop} (hf : Fr w B w') (hb : ∀ b, N b → ¬ B b) (hh : ∀ g, Has d g → ¬ B g) : Fit P w' N M rt .sl d := by
  refine ⟨⟨fun r h k e vs ht => ⟨(f.lay.own r h k e vs ht).1.fr hf (fun g hg => hh g ⟨r, h, k, e, vs, ht, hg⟩), (f.lay.own r h k e vs ht).2⟩, fun r d' ht => ?_, f.lay.pln, f.lay.dis, f.lay.apt⟩, f.sl, f.pl⟩
  obtain ⟨o1, o2⟩ := f.lay.oth r d' ht
  exact ⟨o1.mono hf hb (fun q g k e vs _ hG => ⟨vs, hG⟩), o2⟩
theorem Els.fr {xs : List (List (C Value))} (X : Els P w N M rt xs) {B : Nat → Prop} (hf : Fr w B w') (hb : ∀ b, N b → ¬ B b) (hh : ∀ g, HasR xs g → ¬ B g) : Els P w' N M rt xs :=
  ⟨fun i el j d hi hj => (X.fit i el j d hi hj).fr hf hb (fun g hg => hh g ⟨i, el, j, d, hi, hj, hg⟩), X.dis⟩
/-- rows in a block -/
theorem Els.lay {xs : List (List (C Value))} (X : Els P w N M rt xs) {h : Value} {e : TypeId} (hB : BlkOk P w h e (xs.map (·.map conc)) .sl) (hA : ∀ g, blk h = some g → Apart rt g ∧ M g) (hx : ∀ g, HasR xs g → blk h ≠ some g) : Lay P w N M rt (.own h .sl e xs) :=
  lay_block hB hA X.fit (fun i el j d r h' k' e' vs g hi hj ht hb => hx g ⟨i, el, j, d, hi, hj, r, h', k', e', vs, ht, hb⟩)
    (fun i el j d i' el' j' d' r r' h1 k1 e1 v1 h2 k2 e2 v2 g hi hj hi' hj' t1 t2 b1 b2 => X.dis i el j d i' el' j' d' g hi hj hi' hj' ⟨r, h1, k1, e1, v1, t1, b1⟩ ⟨r', h2, k2, e2, v2, t2, b2⟩)
theorem T_in {h : Value} {k : K} {e : TypeId} {xs : List (List (C Value))} {i j : Nat} {el : List (C Value)} {d : C Value} (hi : xs[i]? = some el) (hj : el[j]? = some d) (r : Steps) : T (.own h k e xs) ((i, j) :: r) = T d r := by
  unfold T
  simp only [inn, hi, hj, Option.bind_some]
/-- a block's rows, by themselves -/
theorem Lay.els {h : Value} {e : TypeId} {xs : List (List (C Value))} (L : Lay P w N M rt (.own h .sl e xs)) (hs : ∀ r h' k e' vs, T (.own h .sl e xs) r = some (.own h' k e' vs) → k = .sl) : Els P w N M rt xs ∧ ∀ g, HasR xs g → blk h ≠ some g ∧ Apart rt g ∧ M g := by
  refine ⟨⟨fun i el j d hi hj => ⟨⟨fun r h' k' e' vs ht => ?_, fun r d' ht => ?_, fun r i' j' h' e' vs d' t1 t2 => ?_, fun r r' h1 k1 e1 v1 h2 k2 e2 v2 g t1 t2 b1 b2 => ?_, fun r h' k' e' vs g ht hb => ?_⟩, fun r h' k' e' vs ht => ?_, fun _ => ?_⟩, fun i el j d i' el' j' d' g hi hj hi' hj' b1 b2 => ?_⟩, fun g hg => ?_⟩
  · rw [← T_in (h := h) (k := .sl) (e := e) hi hj] at ht
    obtain ⟨o1, o2⟩ := L.own _ _ _ _ _ ht
    exact ⟨o1, fun hk => by have := o2 hk; cases this⟩
  · rw [← T_in (h := h) (k := .sl) (e := e) hi hj] at ht
    exact L.oth _ _ ht
  · rw [← T_in (h := h) (k := .sl) (e := e) hi hj] at t1
    rw [← T_in (h := h) (k := .sl) (e := e) hi hj] at t2
    exact L.pln _ i' j' _ _ _ d' t1 t2
  · rw [← T_in (h := h) (k := .sl) (e := e) hi hj] at t1
    rw [← T_in (h := h) (k := .sl) (e := e) hi hj] at t2
    have := L.dis _ _ _ _ _ _ _ _ _ _ g t1 t2 b1 b2
    simpa using this
  · rw [← T_in (h := h) (k := .sl) (e := e) hi hj] at ht
    exact L.apt _ _ _ _ _ g ht hb
  · rw [← T_in (h := h) (k := .sl) (e := e) hi hj] at ht
    exact hs _ _ _ _ _ ht
  · have h0 := T_in (h := h) (k := .sl) (e := e) hi hj []
    cases hd' : d with
    | own g k2 e2 ys => rfl
    | _ =>
      refine L.pln [] i j h e (xs.map (·.map conc)) _ rfl ?_
      rw [List.nil_append, h0, hd']
      rfl
  · obtain ⟨r, h1, k1, e1, v1, t1, c1⟩ := b1
    obtain ⟨r', h2, k2, e2, v2, t2, c2⟩ := b2
    rw [← T_in (h := h) (k := .sl) (e := e) hi hj] at t1
    rw [← T_in (h := h) (k := .sl) (e := e) hi' hj'] at t2
    have := L.dis _ _ _ _ _ _ _ _ _ _ g t1 t2 c1 c2
    simp only [List.cons.injEq, Prod.mk.injEq] at this
    exact this.1
  · obtain ⟨i, el, j, d, hi, hj, r, h1, k1, e1, v1, t1, c1⟩ := hg
    rw [← T_in (h := h) (k := .sl) (e := e) hi hj] at t1
    refine ⟨fun hb => ?_, L.apt _ _ _ _ _ g t1 c1⟩
    have := L.dis [] _ _ _ _ _ _ _ _ _ g rfl t1 hb c1
    cases this
theorem Ab.els {es : List (C Value)} (A : Ab P w N M Γ Γ' es) : Els P w N M Γ'.rt [es] := by
  have h0 : ∀ (i : Nat) (el : List (C Value)), [es][i]? = some el → i = 0 ∧ el = es := by
    intro i el hi
    cases i with
    | zero => simp at hi; exact ⟨rfl, hi.symm⟩
    | succ i => simp at hi
  refine ⟨fun i el j d hi hj => ?_, fun i el j d i' el' j' d' g hi hj hi' hj' b1 b2 => ?_⟩
  · obtain ⟨_, rfl⟩ := h0 i el hi
    exact A.fit d (List.mem_of_getElem? hj)
  · obtain ⟨rfl, rfl⟩ := h0 i el hi
    obtain ⟨rfl, rfl⟩ := h0 i' el' hi'
    obtain ⟨r, h1, k1, e1, v1, t1, c1⟩ := b1
    obtain ⟨r', h2, k2, e2, v2, t2, c2⟩ := b2
    exact ⟨rfl, A.dis j j' d d' r r' _ _ _ _ _ _ _ _ g hj hj' t1 t2 c1 c2⟩
/-- the parts of a literal -/
theorem elems_ok {e : TypeId} : ∀ {ps : List (Nat × Operand)} {i : Nat} {Γ : St Value} {σ' : St Unit} {xs : List (List (C Unit))}, Rel P hd w0 O N Γ a w → elems P e ps i Γ.er = some (σ', xs) →
    ∃ (Γ' : St Value) (ys : List (List (C Value))), Γ'.er = σ' ∧ ys.map (·.map C.er) = xs ∧ Rel P hd w0 O N Γ' a w ∧ Γ'.nt = Γ.nt ∧ Subs Γ'.rt Γ.rt ∧ Els P w N (Mk O w0) Γ'.rt ys ∧ (∀ g, HasR ys g → ¬ Apart Γ.rt g) ∧ (∀ el ∈ ys, el.length = P.cellsOf e) ∧
      ps.map (fun x => (x.1, a.eval x.2)) = ((ps.map fun x => a.eval x.2).zipIdx i).map (fun x => (x.2, x.1)) ∧ (ps.map fun x => (a.eval x.2).cells.toList) = ys.map (·.map conc)
  | [], i, Γ, σ', xs, R, h => by
    simp only [elems, Option.some.injEq, Prod.mk.injEq] at h
    obtain ⟨rfl, rfl⟩ := h
    exact ⟨Γ, [], rfl, rfl, R, rfl, fun _ _ _ _ _ h => h, Els.nil, by rintro g ⟨i, el, j, d, hi, _⟩; simp at hi, by simp, rfl, rfl⟩
  | (k, x) :: r, i, Γ, σ', xs, R, h => by
    simp only [elems] at h
    split at h
    · rename_i hk
      subst hk
      split at h
      · rename_i v hv
        split at h
        · rename_i ls hl
          split at h
          · rename_i ds hds
            split at h
            · rename_i σ2 cs hab
              obtain ⟨⟨σ3, xs2⟩, h2, h3⟩ := Option.map_eq_some_iff.1 h
              simp only [Prod.mk.injEq] at h3
              obtain ⟨rfl, rfl⟩ := h3
              obtain ⟨U, rfl, hev, hU⟩ := opd_ok R hv
              have hcells := dat_cells R.hp hds hU
              obtain ⟨rfl, _, hnu⟩ := dat_ok hds
              obtain ⟨Γ1, es, e1, e2, e3, R1, A⟩ := absorb_ok (Γ0 := Γ) R (fun _ _ _ _ _ h => h) (fun c hc => ⟨hU c hc, hnu c hc⟩) hab
              rw [← e1] at h2
              obtain ⟨Γ', ys, f1, f2, R', f3, f4, f5, f6, f7, f8, f9⟩ := elems_ok R1 h2
              have hnt : Γ1.nt = Γ.nt := by
                rw [← R1.sz, R.sz]
              have hes : es.length = P.cellsOf e := by
                have h1 := congrArg List.length e2
                rw [List.length_map] at h1
                rw [h1]
                have : ∀ {ls : List Leaf} {cs : List (C Unit)} {σ σ' : St Unit} {ds : List (C Unit)}, absorb σ ls cs = some (σ', ds) → ds.length = ls.length := by
                  intro ls
                  induction ls with
                  | nil => intro cs σ σ' ds h; cases cs <;> simp [absorb] at h; obtain ⟨_, rfl⟩ := h; rfl
                  | cons l ls ih =>
                    intro cs σ σ' ds h
                    cases cs with
                    | nil => simp [absorb] at h
                    | cons c cs =>
                      cases c <;> simp only [absorb] at h <;> first
                        | cases h
                        | (obtain ⟨⟨s, q⟩, hq, hr⟩ := Option.map_eq_some_iff.1 h; simp only [Prod.mk.injEq] at hr; obtain ⟨_, rfl⟩ := hr; simp [ih hq])
                        | (split at h
                           · obtain ⟨⟨s, q⟩, hq, hr⟩ := Option.map_eq_some_iff.1 h; simp only [Prod.mk.injEq] at hr; obtain ⟨_, rfl⟩ := hr; simp [ih hq]
                           · cases h)
                rw [this hab, leafsB_ok hl]
              refine ⟨Γ', es :: ys, f1, by rw [List.map_cons, e2, f2], R', f3.trans hnt, fun p h k e vs hG => A.sub _ _ _ _ _ (f4 p h k e vs hG), ?_, ?_, ?_, ?_, ?_⟩
              · refine Els.app (xs := [es]) (A.els.sub f4) f5 (fun g g1 g2 => ?_)
                obtain ⟨i', el, j, d, hi, hj, hh⟩ := g1
                refine f6 g g2 ?_
                obtain ⟨r', h1, k1, t1, v1, q1, q2⟩ := hh
                exact ((A.els.fit i' el j d hi hj).lay.apt _ _ _ _ _ g q1 q2).1
              · rintro g ⟨i', el, j, d, hi, hj, hh⟩ hap
                cases i' with
                | zero =>
                  simp only [List.getElem?_cons_zero, Option.some.injEq] at hi
                  subst hi
                  obtain ⟨r', h1, k1, t1, v1, q1, q2⟩ := hh
                  exact A.was d (List.mem_of_getElem? hj) _ _ _ _ _ g q1 q2 hap
                | succ i' =>
                  exact f6 g ⟨i', el, j, d, by simpa using hi, hj, hh⟩ (hap.sub A.sub)
              · intro el hel
                rcases List.mem_cons.1 hel with rfl | hel
                · exact hes
                · exact f7 el hel
              · simp only [List.map_cons, List.zipIdx_cons]
                rw [f8]
              · simp only [List.map_cons]
                rw [f9, hev, hcells, e3]
            · cases h
          · cases h
        · cases h
      · cases h
    · cases h
theorem flatMap_flat {α β : Type} (f : α → List β) : ∀ {l : List α} {ys : List (List β)}, l.map f = ys → l.flatMap f = ys.flatten := by
  rintro l ys rfl
  rw [List.flatMap_def]
theorem buildSlice_run {t e : TypeId} {n : Nat} {ps : Array (Nat × Operand)} {vss : List (List Value)} (he : elem P t = some e) {zs : List (C Unit)} (hz : zeroB P e = some zs) (hn : n = ps.size) (h24 : n * P.cellsOf e ≤ 16777216) (hc : ¬ P.cellsOf e = 0)
    (hp : ps.toList.map (fun x => (x.1, a.eval x.2)) = ((ps.toList.map fun x => a.eval x.2).zipIdx 0).map (fun x => (x.2, x.1))) (hv : (ps.toList.map fun x => (a.eval x.2).cells.toList) = vss) (hl : ∀ vs ∈ vss, vs.length = P.cellsOf e) :
    (Instr.buildSlice t n (ps.map fun (i, x) => (i, a.eval x))).run P w = .ok (.slice (some ⟨w.heap.size, 0, none⟩) n n) (w.alloc (.cells vss.flatten.toArray e)) := by
  obtain ⟨hu, inf, hi, hsz, _⟩ := elem_ok he
  obtain ⟨i, z, hi', hzz, _, _⟩ := zeroB_ok hz
  rw [hi] at hi'
  obtain rfl := Option.some.inj hi'
  have hps : (ps.map fun (i, x) => (i, a.eval x)).toList = ps.toList.map fun x => (x.1, a.eval x.2) := by simp
  have hsizes : ∀ v ∈ ps.toList.map (fun x => a.eval x.2), v.cells.size = inf.size := by
    intro v hm
    obtain ⟨x, hx, rfl⟩ := List.mem_map.1 hm
    have := hl (a.eval x.2).cells.toList (by rw [← hv]; exact List.mem_map.2 ⟨x, hx, rfl⟩)
    rw [hsz, ← this, Array.length_toList]
  have hfill : ∀ cells : Array Value, cells.size = n * inf.size → Instr.fill (fun i => some (i * inf.size, inf.size)) cells ((ps.map fun (i, x) => (i, a.eval x)).toList) = some vss.flatten.toArray := by
    intro cells hcs
    rw [hps, hp, Go.Great.fill_whole (by omega) _ cells hsizes (by simp; rw [hcs, hn])]
    rw [flatMap_flat (fun v : Value => v.cells.toList) (l := ps.toList.map fun x => a.eval x.2) (ys := vss) (by rw [← hv, List.map_map]; rfl)]
  unfold Instr.buildSlice
  simp only [Sem.run_bind, Go.underlying, run_program, hu, Sem.run_pure, Result.andThen_ok, sizeOf, typeInfo, hi]
  rw [if_neg (by rw [hsz]; omega)]
  simp only [Sem.run_bind, Sem.run_pure, Result.andThen_ok, zeroValue, typeInfo, run_program, hi, hzz, Sem.run_ite]
  split
  · rw [hfill _ (by simp)]
    simp [newRow]
  · rw [hfill _ (by simp)]
    simp [newRow]
theorem buildSlice_ok (R : Rel P hd w0 O N Γ a w) {o : Oper} (hdst : ∀ t, o.dst = some t → t < Γ.nt ∧ t < 1000) {t e : TypeId} {n : Nat} {ps : Array (Nat × Operand)} (ho : o.op = .buildSlice t n ps) (he : elem P t = some e) {zs : List (C Unit)} (hz : zeroB P e = some zs) (hn : n = ps.size) (h24 : n * P.cellsOf e ≤ 16777216) (hc : ¬ P.cellsOf e = 0)
    {σ2 : St Unit} {xs : List (List (C Unit))} (hel : elems P e ps.toList 0 Γ.er = some (σ2, xs)) {σ' : St Unit} (h : made σ2 o.dst (.own () .sl e xs) = some σ') : o.wp P a w (Done P hd w0 O N σ') Q := by
  obtain ⟨Γ', ys, rfl, rfl, R', hnt, hsub, E, hap, hlen, hp, hv⟩ := elems_ok R hel
  obtain ⟨u, hu, hf, rfl⟩ := made_ok h
  have hlv : ∀ vs ∈ ys.map (·.map conc), vs.length = P.cellsOf e := by
    intro vs hm
    obtain ⟨el, h1, rfl⟩ := List.mem_map.1 hm
    rw [List.length_map]; exact hlen el h1
  have hyn : (ys.map (·.map conc)).length = n := by
    rw [← hv, List.length_map, hn]; simp
  have hrun : (execOp a.eval o).run P w = .ok (.value (.slice (some ⟨w.heap.size, 0, none⟩) n n)) (w.alloc (.cells (ys.map (·.map conc)).flatten.toArray e)) := by
    simp only [execOp, ho, Sem.run_bind, buildSlice_run he hz hn h24 hc hp hv hlv, Result.andThen_ok, Sem.run_pure]
  refine wp_value hrun ?_
  obtain ⟨d1, d2⟩ := hdst u hu
  rw [hu]
  have hn1 : n ≤ 16777216 := Nat.le_trans (Nat.le_mul_of_pos_right n (by omega)) h24
  have hfr := Fr.alloc w (.cells (ys.map (·.map conc)).flatten.toArray e) (fun _ => False)
  have E' := E.fr hfr (fun _ _ h => h) (fun _ _ h => h)
  refine ⟨_, ?_, R'.made ((find_er Γ').1 hf) (by rw [hnt]; exact d1) d2 hfr (fun _ h => h.elim) (fun _ h => h.elim) (E'.lay (blk_sl w e _ n hyn hlv (by simp only [maxLen]; omega)) (fun g hg => ?_) (fun g hg hb => ?_))⟩
  · rw [er_made]
  · simp only [blk, Option.some.injEq] at hg
    subst hg
    exact apart_new R'
  · simp only [blk, Option.some.injEq] at hb
    subst hb
    obtain ⟨i, el, j, d, hi, hj, r, h1, k1, e1, v1, t1, c1⟩ := hg
    have := ((E.fit i el j d hi hj).lay.own _ _ _ _ _ t1).1.lt c1
    omega
end
end Go.Mach

/- append. -/
namespace Go.Mach
set_option linter.unusedVariables false
set_option linter.unusedSimpArgs false
def deownG : C Value → C Value
  | .own h _ _ _ => .top h
  | c => c
theorem deownG_er (c : C Value) : (deownG c).er = deown c.er := by cases c <;> simp [deownG, deown, er_int, er_bool, er_str, er_fn, er_nil, er_own, er_und, er_ro, er_rp, er_ref, er_ptr, er_sub, er_top]
theorem deownG_conc (c : C Value) : conc (deownG c) = conc c := by cases c <;> rfl
section
variable {P : Program} {hd : Nat → Nat → Option (Value × K × TypeId)} {w0 w w' : World} {O N M : Nat → Prop} {Γ Γ' Γ0 Γ1 : St Value} {a a' : Act} {rt rt' : Rt} {Q : Exit → Act → World → Prop}
theorem append_run {t e ty : TypeId} {v : Value} {n m c : Nat} {xs us : List Value} {A : Option Addr} (he : elem P t = some e) {zs : List (C Unit)} (hz : zeroB P e = some zs) (hc : ¬ P.cellsOf e = 0) (hown : w.ownsRow 0 e (P.cellsOf e) v n xs)
    (hl : us.length = m * P.cellsOf e) (hr : ∀ (j : Nat) (u : Value), us[j]? = some u → ∃ ad, A = some ad ∧ w.cell? (ad.add j) = some u) (h1 : ∀ u ∈ us, u.oneCell' = true) (hb : (n + m) * P.bytesOf e ≤ 140737488355328) (hn : n + m ≤ 140737488355328) :
    ∃ v' w', (Builtin.append_ #[t, t] ty #[v, .slice A m c]).run P w = .ok v' w' ∧ w'.ownsRow 0 e (P.cellsOf e) v' (n + m) (xs ++ us) ∧ w.grownBy w' v.ownBlock ∧ (v'.ownBlock = v.ownBlock ∨ v'.ownBlock = some w.heap.size) := by
  obtain ⟨hu, inf, hi, hsz, hby⟩ := elem_ok he
  obtain ⟨i, z, hi', hzz, hmz, hlz⟩ := zeroB_ok hz
  rw [hi] at hi'
  obtain rfl := Option.some.inj hi'
  have hzs : z.cells.size = P.cellsOf e := by
    have h2 : zs.length = z.cells.toList.length := mapO_len hmz
    have h3 : z.cells.toList.length = z.cells.size := Array.length_toList
    omega
  cases A with
  | some ad =>
    obtain ⟨v', w', r1, r2, r3, _, r5⟩ := run_append_own_at (P := P) w 0 t ty e inf z (P.cellsOf e) (P.bytesOf e) hu hi hzz hsz hby hzs (by omega) v n xs hown ad m c us hl (fun j u hj => by
      obtain ⟨ad', h1, h2⟩ := hr j u hj
      simp only [Option.some.injEq] at h1
      subst h1
      exact h2) h1 (by simp only [maxLen]; omega) hb (Nat.zero_le _)
    exact ⟨v', w', r1, r2, r3, r5⟩
  | none =>
    have h0 : us = [] := by
      cases us with
      | nil => rfl
      | cons u us => obtain ⟨ad, h, _⟩ := hr 0 u rfl; cases h
    subst h0
    have hm : m = 0 := by
      simp only [List.length_nil] at hl
      rcases Nat.mul_eq_zero.1 hl.symm with h | h
      · exact h
      · exact absurd h hc
    subst hm
    refine ⟨v, w, ?_, by simpa using hown, ⟨rfl, rfl, rfl, Nat.le_refl _, fun _ _ _ => rfl⟩, .inl rfl⟩
    rcases hown.2 with ⟨rfl, rfl⟩ | ⟨g, cap, cur, rfl, _, _, hnc, _⟩
    · simp [Builtin.append_, run_underlying hu, sizeOf, typeInfo, hi, Builtin.lenOf, Builtin.firstCells]
    · simp [Builtin.append_, run_underlying hu, sizeOf, typeInfo, hi, Builtin.lenOf, Builtin.firstCells, hnc, storeCells]
theorem ownBlock_blk {v : Value} {e : TypeId} {n sz : Nat} {xs : List Value} (h : w.ownsRow 0 e sz v n xs) : v.ownBlock = blk v := by
  rcases h.2 with ⟨rfl, _⟩ | ⟨g, cap, cur, rfl, _⟩ <;> rfl
/-- the row that grows, taken out of the forest -/
theorem grown_ok (R : Rel P hd w0 O N Γ a w) {e : TypeId} {U : V Value} (hU : ∀ c ∈ cellsV U, OkC P w N Γ.rt c) {σ1 : St Unit} {xs : List (List (C Unit))} (h : grown P Γ.er e U.er = some (σ1, xs)) :
    ∃ (Γ1 : St Value) (ys : List (List (C Value))), Γ1.er = σ1 ∧ ys.map (·.map C.er) = xs ∧ Rel P hd w0 O N Γ1 a w ∧ Γ1.nt = Γ.nt ∧ Subs Γ1.rt Γ.rt ∧ BlkOk P w (concV U) e (ys.map (·.map conc)) .sl ∧ Els P w N (Mk O w0) Γ1.rt ys ∧
      (∀ g, HasR ys g → blk (concV U) ≠ some g ∧ Apart Γ1.rt g) ∧ (∀ g, blk (concV U) = some g → Apart Γ1.rt g ∧ Mk O w0 g) := by
  unfold grown at h
  split at h
  · rename_i g q hc
    obtain ⟨d, rfl, hd'⟩ := inv_one hc
    obtain ⟨g', rfl⟩ := inv_ref hd'
    split at h
    · rename_i e' xs' hr
      obtain ⟨h2, ys, hp, rfl, hG⟩ := rowAt_ok hr
      obtain ⟨k', e2, vs', hG'⟩ := hU _ (List.mem_singleton.2 rfl)
      rw [hG] at hG'
      simp only [Option.some.injEq, Sh.own.injEq] at hG'
      obtain ⟨rfl, rfl, rfl, rfl⟩ := hG'
      split at h
      · rename_i he
        subst he
        simp only [Option.some.injEq, Prod.mk.injEq] at h
        obtain ⟨rfl, rfl⟩ := h
        obtain ⟨R1, L1, L2, hown⟩ := R.gone hp
        obtain ⟨E, hE⟩ := L1.els L2
        refine ⟨gone Γ q h2, ys, gone_er Γ q h2, rfl, R1, rfl, fun p h k e vs hG => (hown p h k e vs hG).2, R.hp.own _ _ _ _ _ hG, E, fun g hg => ⟨(hE g hg).1, (hE g hg).2.1⟩, fun g hb => L1.apt [] _ _ _ _ g rfl hb⟩
      · cases h
    · cases h
  · rename_i hc
    obtain ⟨d, rfl, hd'⟩ := inv_one hc
    obtain rfl := inv_nil hd'
    simp only [Option.some.injEq, Prod.mk.injEq] at h
    obtain ⟨rfl, rfl⟩ := h
    refine ⟨Γ, [], rfl, rfl, R, rfl, fun _ _ _ _ _ h => h, ⟨⟨by simp, .inl ⟨rfl, rfl⟩⟩, by simp⟩, Els.nil, ?_, fun g hb => by cases hb⟩
    rintro g ⟨i, el, j, d, hi, _⟩
    simp at hi
  · cases h
theorem deown_els {ys : List (List (C Value))} (h : ∀ (i : Nat) (el : List (C Value)) (j : Nat) (d : C Value), ys[i]? = some el → el[j]? = some d → (deownG d ≠ .und ∧ plain (deownG d) = true ∧ ∀ rt : Rt, OkC P w N rt (deownG d))) :
    Els P w N M rt (ys.map (·.map deownG)) ∧ ∀ g, ¬ HasR (ys.map (·.map deownG)) g := by
  have hget : ∀ (i : Nat) (el : List (C Value)) (j : Nat) (d : C Value), (ys.map (·.map deownG))[i]? = some el → el[j]? = some d → (∀ h k e xs, d ≠ .own h k e xs) ∧ d ≠ .und ∧ plain d = true ∧ ∀ rt : Rt, OkC P w N rt d := by
    intro i el j d hi hj
    rw [List.getElem?_map] at hi
    obtain ⟨el', hi', rfl⟩ := Option.map_eq_some_iff.1 hi
    rw [List.getElem?_map] at hj
    obtain ⟨d', hj', rfl⟩ := Option.map_eq_some_iff.1 hj
    refine ⟨?_, h i el' j d' hi' hj'⟩
    cases d' <;> simp [deownG]
  have hno : ∀ (i : Nat) (el : List (C Value)) (j : Nat) (d : C Value) g, (ys.map (·.map deownG))[i]? = some el → el[j]? = some d → ¬ Has d g := by
    rintro i el j d g hi hj ⟨r, h', k, e, vs, ht, hb⟩
    rw [T_noOwn (hget i el j d hi hj).1] at ht
    split at ht <;> simp at ht
  refine ⟨⟨fun i el j d hi hj => ?_, fun i el j d i' el' j' d' g hi hj hi' hj' b1 b2 => (hno i el j d g hi hj b1).elim⟩, ?_⟩
  · obtain ⟨h1, h2, h3, h4⟩ := hget i el j d hi hj
    exact Bare.fit (.inl h1) (fun _ => ⟨h4 rt, h2, fun _ => h3⟩)
  · rintro g ⟨i, el, j, d, hi, hj, hh⟩
    exact hno i el j d g hi hj hh
theorem deown_map (ys : List (List (C Value))) : (ys.map (·.map deownG)).map (·.map conc) = ys.map (·.map conc) := by
  rw [List.map_map]
  apply List.map_congr_left
  intro el _
  simp only [Function.comp, List.map_map]
  apply List.map_congr_left
  intro c _
  exact deownG_conc c
theorem deown_er (ys : List (List (C Value))) : (ys.map (·.map deownG)).map (·.map C.er) = (ys.map (·.map C.er)).map (·.map deown) := by
  simp only [List.map_map]
  apply List.map_congr_left
  intro el _
  simp only [Function.comp, List.map_map]
  apply List.map_congr_left
  intro c _
  exact deownG_er c
/-- what is appended -/
theorem news_ok (R : Rel P hd w0 O N Γ1 a w) {e : TypeId} {U : V Value} (hs : Subs Γ1.rt Γ.rt) (hU : ∀ c ∈ cellsV U, OkC P w N Γ.rt c) {σ2 : St Unit} {xs : List (List (C Unit))} (h : news Γ1.er e U.er = some (σ2, xs)) :
    ∃ (Γ2 : St Value) (ys : List (List (C Value))), Γ2.er = σ2 ∧ ys.map (·.map C.er) = xs ∧ Rel P hd w0 O N Γ2 a w ∧ Γ2.nt = Γ1.nt ∧ Subs Γ2.rt Γ1.rt ∧ Els P w N (Mk O w0) Γ2.rt ys ∧ (∀ g, HasR ys g → ¬ Apart Γ1.rt g) ∧ (∀ el ∈ ys.map (·.map conc), el.length = P.cellsOf e) ∧
      ∃ A c, concV U = .slice A ys.length c ∧ (∀ (j : Nat) (u : Value), (ys.map (·.map conc)).flatten[j]? = some u → ∃ ad, A = some ad ∧ w.cell? (ad.add j) = some u) ∧ ∀ u ∈ (ys.map (·.map conc)).flatten, u.oneCell' = true := by
  unfold news at h
  split at h
  · rename_i g q hc
    obtain ⟨d, rfl, hd'⟩ := inv_one hc
    obtain ⟨g', rfl⟩ := inv_ref hd'
    split at h
    · rename_i e' xs' hr
      obtain ⟨h2, ys, hp, rfl, hG⟩ := rowAt_ok hr
      obtain ⟨k', e2, vs', hG'⟩ := hU _ (List.mem_singleton.2 rfl)
      rw [hs _ _ _ _ _ hG] at hG'
      simp only [Option.some.injEq, Sh.own.injEq] at hG'
      obtain ⟨rfl, rfl, rfl, rfl⟩ := hG'
      have hB := R.hp.own _ _ _ _ _ hG
      have hone : ∀ u ∈ (ys.map (·.map conc)).flatten, u.oneCell' = true := by
        intro u hu
        obtain ⟨vs, h1, h3⟩ := List.mem_flatten.1 hu
        obtain ⟨el, h4, rfl⟩ := List.mem_map.1 h1
        obtain ⟨c, h5, rfl⟩ := List.mem_map.1 h3
        obtain ⟨i, hi, rfl⟩ := List.getElem_of_mem h4
        obtain ⟨j, hj, rfl⟩ := List.getElem_of_mem h5
        have hcell := getP_ext hp (List.getElem?_eq_getElem hi) (List.getElem?_eq_getElem hj)
        obtain ⟨o1, o2⟩ := view_ok (Γ := Γ1) R.hp hcell
        have := one_cell (Γ := Γ1) R.hp o1 o2
        rwa [viewC_conc] at this
      have hreads : ∃ A c, h2 = .slice A ys.length c ∧ (∀ (j : Nat) (u : Value), (ys.map (·.map conc)).flatten[j]? = some u → ∃ ad, A = some ad ∧ w.cell? (ad.add j) = some u) := by
        rcases hB.1.2 with ⟨rfl, h0⟩ | ⟨g, cap, cur, rfl, _⟩
        · refine ⟨none, 0, ?_, fun j u hj => ?_⟩
          · simp at h0; subst h0; rfl
          · simp at h0; subst h0; simp at hj
        · refine ⟨_, cap, by rw [List.length_map], fun j u hj => ⟨_, rfl, hB.1.cells (g := g) rfl j u hj⟩⟩
      obtain ⟨A, c, hA, hrd⟩ := hreads
      split at h
      · rename_i he
        subst he
        split at h
        · rename_i hfresh
          simp only [Option.some.injEq, Prod.mk.injEq] at h
          obtain ⟨rfl, rfl⟩ := h
          obtain ⟨R1, L1, L2, hown⟩ := R.gone hp
          obtain ⟨E, hE⟩ := L1.els L2
          refine ⟨gone Γ1 q h2, ys, gone_er Γ1 q h2, rfl, R1, rfl, fun p h k e vs hG => (hown p h k e vs hG).2, E, fun g hg hap => ?_, hB.2, A, c, hA, hrd, hone⟩
          obtain ⟨i, el, j, d, hi, hj, r, h1, k1, e1, v1, t1, c1⟩ := hg
          rw [← T_in (h := h2) (k := .sl) (e := e') hi hj] at t1
          refine hap (q.app ((i, j) :: r)) h1 k1 e1 v1 ?_ c1
          unfold G
          rw [getP_app hp]
          exact t1
        · simp only [Option.some.injEq, Prod.mk.injEq] at h
          obtain ⟨rfl, rfl⟩ := h
          obtain ⟨E, hE⟩ := deown_els (P := P) (w := w) (N := N) (M := Mk O w0) (rt := Γ1.rt) (ys := ys) (fun i el j d hi hj => by
            have hcell := getP_ext hp hi hj
            have hpl := pln_at R.hp hG hcell
            obtain ⟨o1, o2⟩ := view_ok (Γ := Γ1) R.hp hcell
            cases d with
            | own g k e3 xs =>
              have hh := one_cell (Γ := Γ1) R.hp o1 o2
              exact ⟨by simp [deownG], rfl, fun rt => hh⟩
            | _ => exact ⟨o2, hpl, fun rt => OkC_plain (rt := Γ1.rt) o1 hpl⟩)
          exact ⟨Γ1, ys.map (·.map deownG), rfl, deown_er ys, R, rfl, fun _ _ _ _ _ h => h, E, fun g hg => (hE g hg).elim, by rw [deown_map]; exact hB.2, A, c, by rw [List.length_map]; exact hA, by rw [deown_map]; exact hrd, by rw [deown_map]; exact hone⟩
      · cases h
    · cases h
  · rename_i g e' xs' hc
    obtain ⟨d, rfl, hd'⟩ := inv_one hc
    obtain ⟨g', ys, rfl, rfl⟩ := inv_ro hd'
    split at h
    · rename_i he
      subst he
      simp only [Option.some.injEq, Prod.mk.injEq] at h
      obtain ⟨rfl, rfl⟩ := h
      have hR := hU _ (List.mem_singleton.2 rfl)
      cases hR with
      | ro _ _ _ A c hh hc' hA hl hr hx =>
        subst hh
        obtain ⟨E, hE⟩ := deown_els (P := P) (w := w) (N := N) (M := Mk O w0) (rt := Γ1.rt) (ys := ys) (fun i el j d hi hj => by
          have hro := hr i el j d hi hj
          cases hro with
          | own h e3 xs3 hr3 => exact ⟨by simp [deownG], rfl, fun rt => RoOk.one (c := .ro h e3 xs3) hr3⟩
          | ro h e3 xs3 A3 c3 a1 a2 a3 a4 a5 a6 => exact ⟨by simp [deownG], rfl, fun rt => .ro h e3 xs3 A3 c3 a1 a2 a3 a4 a5 a6⟩
          | top h h1 => exact ⟨by simp [deownG], rfl, fun rt => h1⟩
          | _ => exact ⟨by simp [deownG], rfl, fun rt => trivial⟩)
        have hlen : ∀ el ∈ ys.map (·.map conc), el.length = P.cellsOf e' := by
          intro el hm
          obtain ⟨x, hx1, rfl⟩ := List.mem_map.1 hm
          rw [List.length_map]; exact hl x hx1
        refine ⟨Γ1, ys.map (·.map deownG), rfl, deown_er ys, R, rfl, fun _ _ _ _ _ h => h, E, fun g hg => (hE g hg).elim, by rw [deown_map]; exact hlen, A, c, by rw [List.length_map]; rfl, ?_, ?_⟩
        · rw [deown_map]
          intro j u hj
          have hjl := (List.getElem?_eq_some_iff.1 hj).1
          rw [flat_len hlen, List.length_map] at hjl
          have hsz : 0 < P.cellsOf e' := by
            rcases Nat.eq_zero_or_pos (P.cellsOf e') with h | h
            · rw [h] at hjl; omega
            · exact h
          have hd2 : j / P.cellsOf e' < ys.length := Nat.div_lt_of_lt_mul (by rw [Nat.mul_comm]; exact hjl)
          have hm2 : j % P.cellsOf e' < P.cellsOf e' := Nat.mod_lt _ hsz
          have he : j / P.cellsOf e' * P.cellsOf e' + j % P.cellsOf e' = j := by rw [Nat.mul_comm]; exact Nat.div_add_mod j _
          have hel := hl ys[j / P.cellsOf e'] (List.getElem_mem hd2)
          have hcell := List.getElem?_eq_getElem (l := ys[j / P.cellsOf e']) (i := j % P.cellsOf e') (by rw [hel]; exact hm2)
          obtain ⟨ad, h1, h3, _⟩ := hx _ _ _ _ (List.getElem?_eq_getElem hd2) hcell
          refine ⟨ad, h1, ?_⟩
          rw [he] at h3
          rw [h3]
          have hf := flat_get (i := j / P.cellsOf e') (j := j % P.cellsOf e') (el := ys[j / P.cellsOf e'].map conc) (u := conc ys[j / P.cellsOf e'][j % P.cellsOf e']) hlen (by simp [hd2]) (by simp [hel, hm2])
          rw [he, hj] at hf
          exact hf.symm
        · rw [deown_map]
          intro u hu
          obtain ⟨vs, h1, h3⟩ := List.mem_flatten.1 hu
          obtain ⟨el, h4, rfl⟩ := List.mem_map.1 h1
          obtain ⟨c, h5, rfl⟩ := List.mem_map.1 h3
          obtain ⟨i, hi, rfl⟩ := List.getElem_of_mem h4
          obtain ⟨j, hj, rfl⟩ := List.getElem_of_mem h5
          exact (hr _ _ _ _ (List.getElem?_eq_getElem hi) (List.getElem?_eq_getElem hj)).one
    · cases h
  · rename_i g q a' n' hc
    obtain ⟨d, rfl, hd'⟩ := inv_one hc
    obtain ⟨g', rfl⟩ := inv_sub hd'
    split at h
    · rename_i e' xs' hr
      obtain ⟨h2, ys, hp, rfl, hG⟩ := rowAt_ok hr
      obtain ⟨h3, k', e2, vs', b, o, cap, hG', hb, rfl, hcap, ho⟩ := hU _ (List.mem_singleton.2 rfl)
      rw [hs _ _ _ _ _ hG] at hG'
      simp only [Option.some.injEq, Sh.own.injEq] at hG'
      obtain ⟨rfl, rfl, rfl, rfl⟩ := hG'
      have hB := R.hp.own _ _ _ _ _ hG
      split at h
      · rename_i he
        subst he
        split at h
        · rename_i hle
          rw [List.length_map] at hle
          simp only [Option.some.injEq, Prod.mk.injEq] at h
          obtain ⟨rfl, rfl⟩ := h
          obtain ⟨zs, hz⟩ : ∃ zs, zs = (ys.take (a' + n')).drop a' := ⟨_, rfl⟩
          have hlen : zs.length = n' := by rw [hz]; simp; omega
          have hget : ∀ (i : Nat) (el : List (C Value)), zs[i]? = some el → ys[a' + i]? = some el := fun i el hi => by
            rw [hz, List.getElem?_drop, List.getElem?_take] at hi
            split at hi
            · exact hi
            · cases hi
          have hone : ∀ u ∈ (zs.map (·.map conc)).flatten, u.oneCell' = true := by
            intro u hu
            obtain ⟨vs, h1, h3⟩ := List.mem_flatten.1 hu
            obtain ⟨el, h4, rfl⟩ := List.mem_map.1 h1
            obtain ⟨c, h5, rfl⟩ := List.mem_map.1 h3
            obtain ⟨i, hi, rfl⟩ := List.getElem_of_mem h4
            obtain ⟨j, hj, rfl⟩ := List.getElem_of_mem h5
            have hcell := getP_ext hp (hget _ _ (List.getElem?_eq_getElem hi)) (List.getElem?_eq_getElem hj)
            obtain ⟨o1, o2⟩ := view_ok (Γ := Γ1) R.hp hcell
            have := one_cell (Γ := Γ1) R.hp o1 o2
            rwa [viewC_conc] at this
          have hlen2 : ∀ el ∈ zs.map (·.map conc), el.length = P.cellsOf e' := by
            intro el hm
            refine hB.2 el ?_
            rw [hz] at hm
            obtain ⟨x, hx1, rfl⟩ := List.mem_map.1 hm
            exact List.mem_map.2 ⟨x, List.mem_of_mem_take (List.mem_of_mem_drop hx1), rfl⟩
          obtain ⟨E, hE⟩ := deown_els (P := P) (w := w) (N := N) (M := Mk O w0) (rt := Γ1.rt) (ys := zs) (fun i el j d hi hj => by
            have hcell := getP_ext hp (hget _ _ hi) hj
            have hpl := pln_at R.hp hG hcell
            obtain ⟨o1, o2⟩ := view_ok (Γ := Γ1) R.hp hcell
            cases d with
            | own g k e3 xs =>
              have hh := one_cell (Γ := Γ1) R.hp o1 o2
              exact ⟨by simp [deownG], rfl, fun rt => hh⟩
            | _ => exact ⟨o2, hpl, fun rt => OkC_plain (rt := Γ1.rt) o1 hpl⟩)
          refine ⟨Γ1, zs.map (·.map deownG), rfl, ?_, R, rfl, fun _ _ _ _ _ h => h, E, fun g hg => (hE g hg).elim, by rw [deown_map]; exact hlen2, some ⟨b, o, none⟩, cap, by rw [List.length_map, hlen]; rfl, ?_, ?_⟩
          · rw [deown_er, hz, List.map_drop, List.map_take]
          · rw [deown_map]
            intro j u hj
            have hjl := (List.getElem?_eq_some_iff.1 hj).1
            rw [flat_len hlen2, List.length_map, hlen] at hjl
            have hsz : 0 < P.cellsOf e' := by
              rcases Nat.eq_zero_or_pos (P.cellsOf e') with h | h
              · rw [h] at hjl; omega
              · exact h
            have hd2 : j / P.cellsOf e' < zs.length := by rw [hlen]; exact Nat.div_lt_of_lt_mul (by rw [Nat.mul_comm]; exact hjl)
            have hm2 : j % P.cellsOf e' < P.cellsOf e' := Nat.mod_lt _ hsz
            have he : j / P.cellsOf e' * P.cellsOf e' + j % P.cellsOf e' = j := by rw [Nat.mul_comm]; exact Nat.div_add_mod j _
            have hel : (zs[j / P.cellsOf e']).length = P.cellsOf e' := by
              have := hlen2 _ (List.mem_map.2 ⟨zs[j / P.cellsOf e'], List.getElem_mem hd2, rfl⟩)
              rwa [List.length_map] at this
            have hcell := List.getElem?_eq_getElem (l := zs[j / P.cellsOf e']) (i := j % P.cellsOf e') (by rw [hel]; exact hm2)
            have hf := flat_get (i := j / P.cellsOf e') (j := j % P.cellsOf e') (el := zs[j / P.cellsOf e'].map conc) (u := conc zs[j / P.cellsOf e'][j % P.cellsOf e']) hlen2 (by simp [hd2]) (by simp [hel, hm2])
            rw [he, hj] at hf
            simp only [Option.some.injEq] at hf
            have hy : (ys.map (·.map conc))[a' + j / P.cellsOf e']? = some (zs[j / P.cellsOf e'].map conc) := by
              rw [List.getElem?_map, hget _ _ (List.getElem?_eq_getElem hd2)]; rfl
            obtain ⟨b', q1, _, _, q4, _⟩ := hB.at hy (j := j % P.cellsOf e') (u := u) (by rw [List.getElem?_map, hcell, hf]; rfl)
            rw [hb] at q1
            obtain rfl := Option.some.inj q1
            refine ⟨_, rfl, ?_⟩
            have hn : 0 < n' := Nat.lt_of_le_of_lt (Nat.zero_le _) (show j / P.cellsOf e' < n' by rw [← hlen]; exact hd2)
            rw [add_pl, ho hn]
            have : a' * P.cellsOf e' + j = (a' + j / P.cellsOf e') * P.cellsOf e' + j % P.cellsOf e' := by rw [Nat.add_mul]; omega
            rw [this]
            exact q4
          · rw [deown_map]; exact hone
        · cases h
      · cases h
    · cases h
  · rename_i hc
    obtain ⟨d, rfl, hd'⟩ := inv_one hc
    obtain rfl := inv_nil hd'
    simp only [Option.some.injEq, Prod.mk.injEq] at h
    obtain ⟨rfl, rfl⟩ := h
    refine ⟨Γ1, [], rfl, rfl, R, rfl, fun _ _ _ _ _ h => h, Els.nil, ?_, by simp, none, 0, rfl, by simp, by simp⟩
    rintro g ⟨i, el, j, d, hi, _⟩
    simp at hi
  · cases h
theorem append_ok (R : Rel P hd w0 O N Γ a w) {o : Oper} (hdst : ∀ t, o.dst = some t → t < Γ.nt ∧ t < 1000) {t t' : TypeId} {x y : Operand} (ho : o.op = .call { callee := .builtin .append, args := #[x, y], argTypes := #[t, t'] }) {v u : V Unit} (hx : opd Γ.er x = some v) (hy : opd Γ.er y = some u)
    {σ' : St Unit} (h : append P Γ.er o.dst t t' v u = some σ') : o.wp P a w (Done P hd w0 O N σ') Q := by
  obtain ⟨U, rfl, hxe, hU⟩ := opd_ok R hx
  obtain ⟨U2, rfl, hye, hU2⟩ := opd_ok R hy
  unfold append at h
  split at h
  · rename_i e he
    split at h
    · rename_i zs hz
      split at h
      · cases h
      · rename_i hcond
        have hc0 : ¬ P.cellsOf e = 0 := fun hh => hcond (.inl hh)
        have htt : t' = t := Classical.byContradiction fun hh => hcond (.inr hh)
        subst htt
        split at h
        · rename_i σ1 xs hg
          split at h
          · rename_i σ2 ys hn
            split at h
            · rename_i hb
              obtain ⟨hb, hb2⟩ := hb
              obtain ⟨Γ1, X, rfl, rfl, R1, nt1, s1, B1, E1, i1, i2⟩ := grown_ok R hU hg
              obtain ⟨Γ2, Y, rfl, rfl, R2, nt2, s2, E2, j1, hlY, A, c, hhdr, hrd, hone⟩ := news_ok R1 s1 hU2 hn
              obtain ⟨z, hz', hf, rfl⟩ := made_ok h
              rw [List.length_map, List.length_map] at hb hb2
              obtain ⟨v', w', hrun, hown, hgr, hat⟩ := append_run (t := t') (ty := o.type) (c := c) he hz hc0 B1.1 (us := (Y.map (·.map conc)).flatten) (m := Y.length) (A := A) (by rw [flat_len hlY, List.length_map]) hrd hone (by rw [List.length_map]; exact hb) (by rw [List.length_map]; exact hb2)
              have hrun2 : (execOp a.eval o).run P w = .ok (.value v') w' := by
                simp only [execOp, ho, resolve, invoke, builtin, List.map_toArray, List.map_cons, List.map_nil, hxe, hye, Sem.run_bind, Sem.run_pure, Result.andThen_ok, hhdr, hrun]
              refine wp_value hrun2 ?_
              obtain ⟨d1, d2⟩ := hdst z hz'
              rw [hz']
              have hvb := ownBlock_blk B1.1
              have hfr := Fr.grown hgr
              have hMB : ∀ b, (concV U).ownBlock = some b → Mk O w0 b := fun b hb => (i2 b (by rw [← hvb]; exact hb)).2
              have hNB : ∀ b, N b → ¬ (concV U).ownBlock = some b := fun b hb hk => (hMB b hk).elim (R.nn b hb).1 (fun hh => absurd (R.nn b hb).2 (Nat.not_lt.2 hh))
              have E1' : Els P w' N (Mk O w0) Γ2.rt X := (E1.sub s2).fr hfr hNB (fun g hg hk => (i1 g hg).1 (by rw [← hvb]; exact hk))
              have E2' : Els P w' N (Mk O w0) Γ2.rt Y := E2.fr hfr hNB (fun g hg hk => j1 g hg (i2 g (by rw [← hvb]; exact hk)).1)
              have EE := E1'.app E2' (fun g g1 g2 => j1 g g2 (i1 g g1).2)
              have hlX := B1.2
              have hB' : BlkOk P w' v' e ((X ++ Y).map (·.map conc)) .sl := by
                refine ⟨?_, ?_⟩
                · rw [List.map_append, List.flatten_append, List.length_append, List.length_map, List.length_map]
                  rw [List.length_map] at hown
                  exact hown
                · intro el hel
                  rw [List.map_append, List.mem_append] at hel
                  exact hel.elim (hlX el) (hlY el)
              have hvb' := ownBlock_blk hB'.1
              refine ⟨_, ?_, R2.made ((find_er Γ2).1 hf) (by rw [nt2, nt1]; exact d1) d2 hfr (fun b hb => hMB b hb) (fun b hb => (i2 b (by rw [← hvb]; exact hb)).1.sub s2) (EE.lay hB' (fun g hg => ?_) (fun g hg hb => ?_))⟩
              · rw [er_made]; simp only [List.map_append]
              · rw [← hvb'] at hg
                rcases hat with hat | hat
                · rw [hat, hvb] at hg
                  exact ⟨(i2 g hg).1.sub s2, (i2 g hg).2⟩
                · rw [hat] at hg
                  simp only [Option.some.injEq] at hg
                  subst hg
                  exact apart_new R2
              · rw [← hvb'] at hb
                have hlt : g < w.heap.size ∧ blk (concV U) ≠ some g := by
                  obtain ⟨i, el, j, d, hi, hj, hh⟩ := hg
                  have hcase : HasR X g ∨ HasR Y g := by
                    rcases Nat.lt_or_ge i X.length with hl | hl
                    · rw [List.getElem?_append_left hl] at hi; exact .inl ⟨i, el, j, d, hi, hj, hh⟩
                    · rw [List.getElem?_append_right hl] at hi; exact .inr ⟨_, el, j, d, hi, hj, hh⟩
                  rcases hcase with hX | hY
                  · refine ⟨?_, (i1 g hX).1⟩
                    obtain ⟨i, el, j, d, hi, hj, r, h1, k1, e1, v1, t1, c1⟩ := hX
                    exact ((E1.fit i el j d hi hj).lay.own _ _ _ _ _ t1).1.lt c1
                  · refine ⟨?_, fun hk => j1 g hY (i2 g hk).1⟩
                    obtain ⟨i, el, j, d, hi, hj, r, h1, k1, e1, v1, t1, c1⟩ := hY
                    exact ((E2.fit i el j d hi hj).lay.own _ _ _ _ _ t1).1.lt c1
                rcases hat with hat | hat
                · rw [hat, hvb] at hb; exact hlt.2 hb
                · rw [hat] at hb
                  simp only [Option.some.injEq] at hb
                  omega
            · cases h
          · cases h
        · cases h
    · cases h
  · cases h
end
end Go.Mach

/- Stores. -/
namespace Go.Mach
set_option linter.unusedVariables false
set_option linter.unusedSimpArgs false
section
variable {P : Program} {hd : Nat → Nat → Option (Value × K × TypeId)} {w0 w w' : World} {O N M : Nat → Prop} {Γ Γ' Γ0 Γ1 : St Value} {a a' : Act} {rt rt' : Rt} {Q : Exit → Act → World → Prop}
theorem setCell_same {g o : Nat} {v : Value} (h : w.cell? ⟨g, o, none⟩ = some v) : w.setCell ⟨g, o, none⟩ v = w := by
  unfold World.setCell
  cases w with
  | mk heap tape drawn os output =>
    simp only [World.mk.injEq, and_true, true_and]
    unfold World.cell? at h
    apply Array.ext_getElem?
    intro k
    rw [Array.getElem?_modify]
    split
    · rename_i hk
      simp only at hk h
      subst hk
      cases hh : heap[g]? with
      | none => rfl
      | some ob =>
        rw [hh] at h
        cases ob with
        | cells c e fr =>
          simp only [Option.isSome_none, Bool.false_eq_true, if_false] at h ⊢
          simp only [Option.map_eq_map, Option.map_some]
          congr 2
          apply Array.ext_getElem?
          intro m
          rw [Array.getElem?_setIfInBounds]
          split
          · rename_i hm; subst hm
            obtain ⟨h1, h2⟩ := Array.getElem?_eq_some_iff.1 h
            simp [h1, h2]
          · rfl
        | _ => cases h
    · rfl
/-- a value's cell that may have lost what it names -/
def OkW (P : Program) (w : World) (N : Nat → Prop) (rt : Rt) : C Value → Prop
  | .ref h q => (∀ h' k e vs, G rt q = some (.own h' k e vs) → h' = h) ∧ h.oneCell' = true
  | .ptr h _ _ _ | .sub h _ _ _ | .rp h _ => h.oneCell' = true
  | c => OkC P w N rt c ∧ plain c = true
theorem OkW.of {c : C Value} (H : Hp P hd N w rt) (h : OkC P w N rt c) (hu : c ≠ .und) : OkW P w N rt c := by
  cases c with
  | ref g q =>
    have h' := h
    obtain ⟨k, e, vs, hG⟩ := h
    refine ⟨fun h2 k2 e2 vs2 hG2 => ?_, one_cell (Γ := ⟨0, [], rt⟩) H h' (by simp)⟩
    rw [hG] at hG2
    simp only [Option.some.injEq, Sh.own.injEq] at hG2
    exact hG2.1.symm
  | ptr => exact one_cell (Γ := ⟨0, [], rt⟩) H h (by simp)
  | sub => exact one_cell (Γ := ⟨0, [], rt⟩) H h (by simp)
  | rp => exact one_cell (Γ := ⟨0, [], rt⟩) H h (by simp)
  | und => exact absurd rfl hu
  | own => exact h.elim
  | _ => exact ⟨h, rfl⟩
theorem parent {p : Path} {i j : Nat} {c0 : C Value} (h : getP rt (p.ext i j) = some c0) : ∃ h' k e vs el, G rt p = some (.own h' k e vs) ∧ vs[i]? = some el ∧ el[j]? = some (conc c0) := by
  obtain ⟨_, _, m3⟩ := G_mod (fun c => c) h
  obtain ⟨h', k, e, vs, el, h1, h2, h3, _⟩ := m3 p i j rfl
  exact ⟨h', k, e, vs, el, h1, h2, h3⟩
/-- owned beside a place: as before -/
def Beside (P : Path) (rt' rt : Rt) : Prop := ∀ x h k e vs, G rt' x = some (.own h k e vs) → (∀ r, x ≠ P.app r) → ∃ vs0, G rt x = some (.own h k e vs0)
structure Put (P : Program) (hd : Nat → Nat → Option (Value × K × TypeId)) (w0 : World) (O N : Nat → Prop) (a : Act) (w : World) (rt : Rt) (p : Path) (i j : Nat) (h : Value) (k : K) (e : TypeId) (v : Value) (σ : St Unit) (g : Nat) (Γ' : St Value) : Prop where
  er : Γ'.er = σ
  blk : blk h = some g
  cell : ∃ u, w.cell? ⟨g, i * P.cellsOf e + j, none⟩ = some u
  fz : w.frozen? ⟨g, i * P.cellsOf e + j, none⟩ = false
  one : v.oneCell' = true
  rel : Rel P hd w0 O N Γ' a (w.setCell ⟨g, i * P.cellsOf e + j, none⟩ v)
  row : ∃ vs, G Γ'.rt p = some (.own h k e vs)
  bes : Beside (p.ext i j) Γ'.rt rt
/-- over a cell -/
theorem over_ok (R : Rel P hd w0 O N Γ a w) {p : Path} {i j : Nat} {h : Value} {k : K} {e : TypeId} {vs : List (List Value)} (hG : G Γ.rt p = some (.own h k e vs)) {c : C Value} (L : Lay P w N (Mk O w0) Γ.rt c) (hone : (conc c).oneCell' = true) (hpl : k = .sl → plain c = true) (hk : ∀ h e xs, c ≠ .own h .pt e xs)
    (haw : away (p.ext i j) c) {σ' : St Unit} (ho : overC Γ.er (p.ext i j) c.er = some σ') : ∃ g Γ', Put P hd w0 O N a w Γ.rt p i j h k e (conc c) σ' g Γ' := by
  unfold overC at ho
  split at ho
  · rename_i g' k' e' xs' hc0
    simp only [Option.some.injEq] at ho
    obtain ⟨c0, h0, hc0e⟩ := getP_of (rt := Γ.rt) hc0
    obtain ⟨g2, ys, rfl, rfl⟩ := inv_own hc0e
    -- its aliases are lost first
    have R1 := R.kill (under (p.ext i j))
    have F1 := R.kill_free (p.ext i j)
    have hG1 : G (Γ.kill (under (p.ext i j))).rt p = some (.own h k e vs) := (G_map_own (killC_lossy _).mild R.hp).2 hG
    have hkl : k' = .sl := by
      cases k' with
      | sl => rfl
      | pt =>
        have := R.hp.pts _ _ _ _ (show G Γ.rt (p.ext i j) = some (.own g2 .pt e' (ys.map (·.map conc))) by unfold G; rw [h0]; rfl)
        simp [Path.ext] at this
    subst hkl
    have h1 : getP (Γ.kill (under (p.ext i j))).rt (p.ext i j) = some (.own g2 .sl e' ys) := getP_mapRt_plain (killC_lossy _).mild R.hp h0 rfl (by intros; simp)
    obtain ⟨h', k2, e2, vs2, el, hp1, hi, hj⟩ := parent h1
    rw [hG1] at hp1
    simp only [Option.some.injEq, Sh.own.injEq] at hp1
    obtain ⟨rfl, rfl, rfl, rfl⟩ := hp1
    obtain ⟨g, hb, _, _, _, _⟩ := (R1.hp.own _ _ _ _ _ hG1).at hi hj
    have L1 : Lay P w N (Mk O w0) (Γ.kill (under (p.ext i j))).rt c := by
      refine ⟨L.own, fun r d ht => ?_, L.pln, L.dis, fun r h k e vs g ht hb => ⟨fun q h2 k2 e2 vs2 hq => (L.apt r h k e vs g ht hb).1 q h2 k2 e2 vs2 ((G_map_own (killC_lossy _).mild R.hp).1 hq), (L.apt r h k e vs g ht hb).2⟩⟩
      obtain ⟨o1, o2⟩ := L.oth r d ht
      exact ⟨o1.mono (Fr.refl w (fun _ => False)) (fun _ _ h => h) (fun q g k e vs _ hq => ⟨vs, (G_map_own (killC_lossy _).mild R.hp).2 hq⟩), o2⟩
    obtain ⟨s1, s2, s3⟩ := R1.set hG1 hb h1 L1 hone hpl hk (.inr F1) haw
    obtain ⟨m1, m2, m3⟩ := G_mod (fun _ => c) h1
    obtain ⟨h', k2, e2, vs2, el2, hp1, _, _, hp2⟩ := m3 p i j rfl
    rw [hG1] at hp1
    simp only [Option.some.injEq, Sh.own.injEq] at hp1
    obtain ⟨rfl, rfl, rfl, rfl⟩ := hp1
    refine ⟨g, _, ⟨?_, hb, ⟨_, s1⟩, s2, hone, s3, ⟨_, hp2⟩, ?_⟩⟩
    · rw [← ho]
      unfold setC
      have hke := kill_er (under (p.ext i j)) Γ
      rw [← hke]
      simp only [St.er, St.mk.injEq, true_and]
      exact modP_er _ _ (fun d => rfl) _ _
    · intro x h3 k3 e3 vs3 hx hne
      by_cases hxp : x = p
      · subst hxp
        have hx' : G (modP (fun _ => c) (Γ.kill (under (x.ext i j))).rt (x.ext i j)) x = some (.own h3 k3 e3 vs3) := hx
        rw [hp2] at hx'
        simp only [Option.some.injEq, Sh.own.injEq] at hx'
        obtain ⟨rfl, rfl, rfl, _⟩ := hx'
        exact ⟨_, hG⟩
      · have hx' : G (modP (fun _ => c) (Γ.kill (under (p.ext i j))).rt (p.ext i j)) x = some (.own h3 k3 e3 vs3) := hx
        rw [m2 x hne (.inl fun i' j' he => hxp ?_)] at hx'
        · exact ⟨vs3, (G_map_own (killC_lossy _).mild R.hp).1 hx'⟩
        · unfold Path.ext at he
          simp only [Path.mk.injEq] at he
          obtain ⟨e1, e2, e3⟩ := he
          have e4 := List.append_inj_left' e3 rfl
          cases x; cases p
          simp only at e1 e2 e4
          subst e1; subst e2; subst e4; rfl
  · rename_i c0e hno hc0
    simp only [Option.some.injEq] at ho
    obtain ⟨c0, h0, hc0e⟩ := getP_of (rt := Γ.rt) hc0
    have hnoo : ∀ h k e xs, c0 ≠ .own h k e xs := by
      rintro h k e xs rfl
      rw [er_own] at hc0e
      exact hno _ _ _ _ hc0e.symm
    obtain ⟨h', k2, e2, vs2, el, hp1, hi, hj⟩ := parent h0
    rw [hG] at hp1
    simp only [Option.some.injEq, Sh.own.injEq] at hp1
    obtain ⟨rfl, rfl, rfl, rfl⟩ := hp1
    obtain ⟨g, hb, _, _, _, _⟩ := (R.hp.own _ _ _ _ _ hG).at hi hj
    obtain ⟨s1, s2, s3⟩ := R.set hG hb h0 L hone hpl hk (.inl hnoo) haw
    obtain ⟨m1, m2, m3⟩ := G_mod (fun _ => c) h0
    obtain ⟨h', k2, e2, vs2, el2, hp1, _, _, hp2⟩ := m3 p i j rfl
    rw [hG] at hp1
    simp only [Option.some.injEq, Sh.own.injEq] at hp1
    obtain ⟨rfl, rfl, rfl, rfl⟩ := hp1
    refine ⟨g, _, ⟨?_, hb, ⟨_, s1⟩, s2, hone, s3, ⟨_, hp2⟩, ?_⟩⟩
    · rw [← ho]
      unfold setC
      simp only [St.er, St.mk.injEq, true_and]
      exact modP_er _ _ (fun d => rfl) _ _
    · intro x h3 k3 e3 vs3 hx hne
      by_cases hxp : x = p
      · subst hxp
        have hx' : G (modP (fun _ => c) Γ.rt (x.ext i j)) x = some (.own h3 k3 e3 vs3) := hx
        rw [hp2] at hx'
        simp only [Option.some.injEq, Sh.own.injEq] at hx'
        obtain ⟨rfl, rfl, rfl, _⟩ := hx'
        exact ⟨_, hG⟩
      · have hx' : G (modP (fun _ => c) Γ.rt (p.ext i j)) x = some (.own h3 k3 e3 vs3) := hx
        rw [m2 x hne (.inl fun i' j' he => hxp ?_)] at hx'
        · exact ⟨vs3, hx'⟩
        · unfold Path.ext at he
          simp only [Path.mk.injEq] at he
          obtain ⟨e1, e2, e3⟩ := he
          have e4 := List.append_inj_left' e3 rfl
          cases x; cases p
          simp only at e1 e2 e4
          subst e1; subst e2; subst e4; rfl
  · cases ho
theorem under_false {p q : Path} (h : under p q = false) : ∀ r, q ≠ p.app r := by
  rintro r rfl
  rw [under_app] at h
  cases h
/-- one cell -/
theorem putC_ok (R : Rel P hd w0 O N Γ a w) {p : Path} {i j : Nat} {h : Value} {k : K} {e : TypeId} {vs : List (List Value)} (hG : G Γ.rt p = some (.own h k e vs)) {al : Bool} (hal : al = true → k = .pt) {lf : Leaf} {c : C Value} (hW : OkW P w N Γ.rt c) {σ' : St Unit}
    (ho : putC al Γ.er (p.ext i j) lf c.er = some σ') : ∃ g Γ', Put P hd w0 O N a w Γ.rt p i j h k e (conc c) σ' g Γ' := by
  have hplain : ∀ d : C Value, d.er = (asOwn lf c.er) → conc d = conc c → Bare d → ((∀ h k e xs, d ≠ .own h k e xs) → OkC P w N Γ.rt d ∧ d ≠ .und ∧ plain d = true) → (conc c).oneCell' = true → overC Γ.er (p.ext i j) d.er = some σ' → ∃ g Γ', Put P hd w0 O N a w Γ.rt p i j h k e (conc c) σ' g Γ' := by
    intro d he hc hb hd' hone ho
    have hf : Fit P w N (Mk O w0) Γ.rt .sl d := hb.fit (fun hn => ⟨(hd' hn).1, (hd' hn).2.1, fun _ => (hd' hn).2.2⟩)
    rw [← hc]
    refine over_ok R hG hf.lay (by rw [hc]; exact hone) (fun _ => hf.pl rfl) hf.not_pt ?_ ho
    intro r hr
    have := hf.pl rfl
    cases d <;> first | exact hr | cases this
  cases c with
  | ref g q =>
    obtain ⟨hW1, hW2⟩ := hW
    simp only [er_ref, putC] at ho
    split at ho
    · rename_i g' k' e' xs' hq
      obtain ⟨d, hd1, hd2⟩ := getP_of (rt := Γ.rt) hq
      obtain ⟨g2, ys, rfl, rfl⟩ := inv_own hd2
      have hGq : G Γ.rt q = some (.own g2 k' e' (ys.map (·.map conc))) := by unfold G; rw [hd1]; rfl
      obtain rfl := hW1 _ _ _ _ hGq
      split at ho
      · rename_i hqp
        subst hqp
        simp only [Option.some.injEq] at ho
        obtain ⟨h', k2, e2, vs2, el, hp1, hi, hj⟩ := parent hd1
        rw [hG] at hp1
        simp only [Option.some.injEq, Sh.own.injEq] at hp1
        obtain ⟨rfl, rfl, rfl, rfl⟩ := hp1
        obtain ⟨b, hb, _, _, hcell, hfz⟩ := (R.hp.own _ _ _ _ _ hG).at hi hj
        refine ⟨b, Γ, ⟨ho, hb, ⟨_, hcell⟩, hfz, hW2, ?_, ⟨_, hG⟩, fun x h k e vs hx _ => ⟨vs, hx⟩⟩⟩
        have hcell' : w.cell? ⟨b, i * P.cellsOf e + j, none⟩ = some (conc (.ref g2 (p.ext i j))) := hcell
        rw [setCell_same hcell']
        exact R
      · split at ho
        · rename_i hcond
          split at ho
          · cases ho
          · rename_i hu
            have hu : under (p.ext i j) q = false := by simpa using hu
            have hk := hal hcond.1
            refine over_ok R hG (c := .ref g2 q) (Lay.noOwn (by intros; simp) ⟨_, _, _, hGq⟩ (by simp)) hW2 (fun hk' => by rw [hk] at hk'; cases hk') (by intros; simp) (fun r hr => under_false hu r hr) (by rw [er_ref]; exact ho)
        · split at ho
          · rename_i hk'
            subst hk'
            obtain ⟨R1, L1, L2, hown⟩ := R.gone hd1
            rw [← gone_er Γ q g2] at ho
            -- the row is still there
            have hex : ∃ c0, getP (gone Γ q g2).rt (p.ext i j) = some c0 := by
              unfold overC at ho
              cases hh : getP (gone Γ q g2).er.rt (p.ext i j) with
              | none => rw [hh] at ho; cases ho
              | some x =>
                obtain ⟨d, hd3, _⟩ := getP_of (rt := (gone Γ q g2).rt) hh
                exact ⟨d, hd3⟩
            obtain ⟨c0, hc0⟩ := hex
            obtain ⟨h', k2, e2, vs2, el, hp1, hi, hj⟩ := parent hc0
            have hp2 := (hown _ _ _ _ _ hp1).2
            rw [hG] at hp2
            simp only [Option.some.injEq, Sh.own.injEq] at hp2
            obtain ⟨rfl, rfl, rfl, rfl⟩ := hp2
            have he' : (C.own g2 .sl e' ys).er = .own g' .sl e' (ys.map (·.map C.er)) := by rw [er_own]
            obtain ⟨b, Γ', PP⟩ := over_ok R1 hp1 (c := .own g2 .sl e' ys) L1 hW2 (fun _ => rfl) (by intros; simp) (fun r hr => hr) (by rw [he']; exact ho)
            refine ⟨b, Γ', ⟨PP.er, PP.blk, PP.cell, PP.fz, PP.one, PP.rel, PP.row, fun x h k e vs hx hne => ?_⟩⟩
            obtain ⟨v0, hv⟩ := PP.bes x h k e vs hx hne
            exact ⟨v0, (hown _ _ _ _ _ hv).2⟩
          · cases ho
    · cases ho
  | ptr g q i' j' => simp [putC, er_ptr] at ho
  | sub g q i' j' => simp [putC, er_sub] at ho
  | rp g xs => simp [putC, er_rp] at ho
  | und => simp [putC, er_und] at ho
  | own g k' e' xs => simp [putC, er_own] at ho
  | nil =>
    simp only [er_nil, putC] at ho
    cases lf with
    | ot => exact hplain .nil (by rw [er_nil]; rfl) rfl (.inl (by intros; simp)) (fun _ => ⟨trivial, by simp, rfl⟩) rfl (by rw [er_nil]; exact ho)
    | sl e' => exact hplain (.own (.slice none 0 0) .sl e' []) (by rw [er_nil, er_own]; rfl) rfl (.inr ⟨e', rfl⟩) (fun hn => absurd rfl (hn _ _ _ _)) rfl (by rw [er_own]; exact ho)
  | int k' z => exact hplain (.int k' z) (by rw [er_int]; cases lf <;> rfl) rfl (.inl (by intros; simp)) (fun _ => ⟨trivial, by simp, rfl⟩) rfl (by simpa only [er_int, putC] using ho)
  | bool b => exact hplain (.bool b) (by rw [er_bool]; cases lf <;> rfl) rfl (.inl (by intros; simp)) (fun _ => ⟨trivial, by simp, rfl⟩) rfl (by simpa only [er_bool, putC] using ho)
  | str s => exact hplain (.str s) (by rw [er_str]; cases lf <;> rfl) rfl (.inl (by intros; simp)) (fun _ => ⟨trivial, by simp, rfl⟩) rfl (by simpa only [er_str, putC] using ho)
  | fn f => exact hplain (.fn f) (by rw [er_fn]; cases lf <;> rfl) rfl (.inl (by intros; simp)) (fun _ => ⟨trivial, by simp, rfl⟩) rfl (by simpa only [er_fn, putC] using ho)
  | ro g e' xs => exact hplain (.ro g e' xs) (by rw [er_ro]; cases lf <;> rfl) rfl (.inl (by intros; simp)) (fun _ => ⟨hW.1, by simp, rfl⟩) (RoOk.one (c := .ro g e' xs) hW.1) (by simpa only [er_ro, putC] using ho)
  | top g => exact hplain (.top g) (by rw [er_top]; cases lf <;> rfl) rfl (.inl (by intros; simp)) (fun _ => ⟨hW.1, by simp, rfl⟩) hW.1 (by simpa only [er_top, putC] using ho)
theorem OkW.next {P' : Path} {rt' : Rt} {w' : World} {B : Nat → Prop} {c : C Value} (h : OkW P w N rt c) (hf : Fr w B w') (hb : ∀ b, N b → ¬ B b) (bs : Beside P' rt' rt) : OkW P w' N rt' (killC (under P') c) := by
  cases c with
  | ref g q =>
    simp only [killC]
    split
    · exact ⟨h.2, rfl⟩
    · rename_i hu
      refine ⟨fun h' k e vs hG => ?_, h.2⟩
      obtain ⟨v0, hv⟩ := bs q h' k e vs hG (under_false (by simpa using hu))
      exact h.1 _ _ _ _ hv
  | ptr g q i j =>
    simp only [killC]
    split
    · exact ⟨h, rfl⟩
    · exact h
  | sub g q i j =>
    simp only [killC]
    split
    · exact ⟨h, rfl⟩
    · exact h
  | rp g xs => exact h
  | own g k e xs => exact h.1.elim
  | und => cases h.2
  | ro g e xs => exact ⟨RoOk.fr hf hb (fun _ h => fun _ => h) h.1, rfl⟩
  | top g => exact ⟨h.1, rfl⟩
  | _ => exact ⟨trivial, rfl⟩
theorem kill_list (bad : Path → Bool) (cs : List (C Value)) : (cs.map (killC bad)).map C.er = (cs.map C.er).map (killC bad) := by
  rw [List.map_map, List.map_map]
  apply List.map_congr_left
  intro c _
  exact killC_er bad c
theorem putCs_ok {al : Bool} {p : Path} {i : Nat} {h : Value} {k : K} {e : TypeId} (hal : al = true → k = .pt) {g B0 : Nat} (hb : blk h = some g) : ∀ {ls : List Leaf} {cs : List (C Value)} {Γ : St Value} {w : World} {j m : Nat} {σ' : St Unit}, Rel P hd w0 O N Γ a w → (∃ vs, G Γ.rt p = some (.own h k e vs)) → (∀ c ∈ cs, OkW P w N Γ.rt c) →
    i * P.cellsOf e + j = B0 + m → putCs al Γ.er p i j ls (cs.map C.er) = some σ' → ∃ (Γ' : St Value) (w' : World), Γ'.er = σ' ∧ (storeCells ⟨g, B0, none⟩ (cs.map conc) m).run P w = .ok () w' ∧ Rel P hd w0 O N Γ' a w'
  | [], [], Γ, w, j, m, σ', R, hG, hW, hj, h => by
    simp only [putCs, List.map_nil, Option.some.injEq] at h
    exact ⟨Γ, w, h, rfl, R⟩
  | [], c :: cs, Γ, w, j, m, σ', R, hG, hW, hj, h => by simp [putCs] at h
  | l :: ls, [], Γ, w, j, m, σ', R, hG, hW, hj, h => by simp [putCs] at h
  | l :: ls, c :: cs, Γ, w, j, m, σ', R, hG, hW, hj, h => by
    obtain ⟨vs, hG⟩ := hG
    simp only [putCs, List.map_cons] at h
    split at h
    · rename_i σ1 h1
      obtain ⟨g', Γ1, PP⟩ := putC_ok R hG hal (hW c (List.mem_cons_self ..)) h1
      have hgg := PP.blk
      rw [hb] at hgg
      simp only [Option.some.injEq] at hgg
      subst hgg
      rw [← PP.er, ← kill_list] at h
      have hfr := Fr.setCell w ⟨g, i * P.cellsOf e + j, none⟩ (conc c)
      have hMg : Mk O w0 g := R.inO _ _ _ _ _ g hG hb
      have hW' : ∀ d ∈ cs.map (killC (under (p.ext i j))), OkW P (w.setCell ⟨g, i * P.cellsOf e + j, none⟩ (conc c)) N Γ1.rt d := by
        intro d hd'
        obtain ⟨d0, hd0, rfl⟩ := List.mem_map.1 hd'
        refine (hW d0 (List.mem_cons_of_mem _ hd0)).next hfr (fun b hnb hk => ?_) PP.bes
        have : b = g := hk
        subst this
        exact hMg.elim (R.nn b hnb).1 (fun hh => absurd (R.nn b hnb).2 (Nat.not_lt.2 hh))
      have hj' : i * P.cellsOf e + (j + 1) = B0 + (m + 1) := by omega
      obtain ⟨Γ', w', e1, e2, e3⟩ := putCs_ok hal hb PP.rel PP.row hW' hj' h
      refine ⟨Γ', w', e1, ?_, e3⟩
      obtain ⟨u, hu⟩ := PP.cell
      have hconc : (cs.map (killC (under (p.ext i j)))).map conc = cs.map conc := by
        rw [List.map_map]
        apply List.map_congr_left
        intro d _
        exact (killC_lossy _).mild.conc d
      rw [hconc] at e2
      simp only [List.map_cons, storeCells, Sem.run_bind]
      rw [run_store P w _ _ _ PP.one, add_pl, ← hj, hu]
      simp only [PP.fz, Bool.false_eq_true, if_false, Result.andThen_ok]
      exact e2
    · cases h
theorem store_ok (R : Rel P hd w0 O N Γ a w) {o : Oper} {t : TypeId} {x y : Operand} (ho : o.op = .store t x y) (hdst : o.dst = none) {v u : V Unit} (hx : opd Γ.er x = some v) (hy : opd Γ.er y = some u) {σ' : St Unit} (h : store P Γ.er t u v = some σ') :
    o.wp P a w (Done P hd w0 O N σ') Q := by
  obtain ⟨U, rfl, hxe, hU⟩ := opd_ok R hx
  obtain ⟨U2, rfl, hye, hU2⟩ := opd_ok R hy
  have main : ∀ (p : Path) (i j : Nat) (b : Nat) (h' : Value) k e vs, G Γ.rt p = some (.own h' k e vs) → blk h' = some b → storeAt P Γ.er t p i j U2.er = some σ' → a.eval x = .pointer (some ⟨b, i * P.cellsOf e + j, none⟩) → o.wp P a w (Done P hd w0 O N σ') Q := by
    intro p i j b h' k e vs hG hb hs hxv
    unfold storeAt at hs
    split at hs
    · rename_i k' e' xs hr
      obtain ⟨h2, ys, hp, rfl, hG2⟩ := rowAt_ok hr
      rw [hG] at hG2
      simp only [Option.some.injEq, Sh.own.injEq] at hG2
      obtain ⟨rfl, rfl, rfl, rfl⟩ := hG2
      have hal2 : isPt k = true → k = .pt := by cases k <;> simp [isPt]
      split at hs
      · rename_i ls hl
        split at hs
        · rename_i cs hcs
          have hcells := dat_cells R.hp hcs hU2
          obtain ⟨rfl, _, hnu⟩ := dat_ok hcs
          obtain ⟨Γ', w', e1, e2, e3⟩ := putCs_ok (P := P) (al := isPt k) (p := p) (i := i) (h := h') (k := k) (e := e) hal2 hb (B0 := i * P.cellsOf e + j) (m := 0) R ⟨_, hG⟩ (fun c hc => OkW.of R.hp (hU2 c hc) (hnu c hc)) (by omega) hs
          have hlen : (concV U2).cells.size = P.cellsOf t := by
            have hpl : ∀ {al : Bool} {ls : List Leaf} {cs : List (C Unit)} {σ σ' : St Unit} {p : Path} {i j : Nat}, putCs al σ p i j ls cs = some σ' → ls.length = cs.length := by
              intro al ls
              induction ls with
              | nil => intro cs σ σ' p i j h; cases cs <;> simp [putCs] at h ⊢
              | cons l ls ih =>
                intro cs σ σ' p i j h
                cases cs with
                | nil => simp [putCs] at h
                | cons c cs =>
                  simp only [putCs] at h
                  split at h
                  · have := ih h
                    simp only [List.length_map] at this
                    simp [this]
                  · cases h
            have h1 := hpl hs
            rw [← Array.length_toList, hcells, List.length_map, ← leafsB_ok hl, h1, List.length_map]
          have hinf : ∃ inf, P.info? t = some inf ∧ inf.size = P.cellsOf t := by
            cases hq : P.info? t with
            | some inf => exact ⟨inf, rfl, by unfold Program.cellsOf; rw [hq]; rfl⟩
            | none =>
              exfalso
              -- a type that is not told has no leaf of its own kind
              have hll := leafsB_ok hl
              unfold leafsB at hl
              split at hl
              · rename_i hl0
                have hz : P.cellsOf t = 0 := by unfold Program.cellsOf; rw [hq]; rfl
                rw [hz] at hl0
                unfold leafs at hl0
                have hun : P.underlying t = none := by unfold Program.underlying; rw [hq]
                rw [hun] at hl0
                simp at hl0
              · cases hl
          obtain ⟨inf, hinf, hsz⟩ := hinf
          have hrun : (execOp a.eval o).run P w = .ok .skip w' := by
            simp only [execOp, ho, hxv, hye, Instr.storeAt, Instr.sureAddr, storeVar, Sem.run_bind, Sem.run_pure, Result.andThen_ok, sizeOf, typeInfo, run_program, hinf, hlen, hsz, hcells]
            rw [if_neg (by simp)]
            simp only [Sem.run_pure, Result.andThen_ok, e2]
          refine wp_skip' hrun ?_
          rw [hdst]
          exact ⟨Γ', e1, e3⟩
        · cases hs
      · cases hs
    · cases hs
  unfold store at h
  split at h
  · rename_i g p i j hc
    obtain ⟨d, rfl, hd'⟩ := inv_one hc
    obtain ⟨g', rfl⟩ := inv_ptr hd'
    obtain ⟨h', k, e, vs, b, hG, hb, rfl⟩ := hU _ (List.mem_singleton.2 rfl)
    exact main p i j b h' k e vs hG hb h hxe
  · rename_i g p hc
    obtain ⟨d, rfl, hd'⟩ := inv_one hc
    obtain ⟨g', rfl⟩ := inv_ref hd'
    split at h
    · rename_i e xs hr
      obtain ⟨h2, ys, hp, rfl, hG⟩ := rowAt_ok hr
      obtain ⟨k', e2, vs', hG'⟩ := hU _ (List.mem_singleton.2 rfl)
      rw [hG] at hG'
      simp only [Option.some.injEq, Sh.own.injEq] at hG'
      obtain ⟨rfl, rfl, rfl, rfl⟩ := hG'
      obtain ⟨b, el, rfl, _, _, _⟩ := R.hp.own _ _ _ _ _ hG
      exact main p 0 0 b _ _ e _ hG rfl h (by simpa [concV, conc] using hxe)
    · cases h
  · cases h
end
end Go.Mach

/- Behind a call: the rows that were lent lie again where they lay. -/
namespace Go.Mach
set_option linter.unusedVariables false
set_option linter.unusedSimpArgs false
section
variable {P : Program} {hd : Nat → Nat → Option (Value × K × TypeId)} {w0 w w' : World} {O N M : Nat → Prop} {Γ Γ' Γ0 Γ1 : St Value} {a a' : Act} {rt rt' : Rt} {Q : Exit → Act → World → Prop}
/-- neither lies under the other -/
def Sep (p q : Path) : Prop := (∀ r, p ≠ q.app r) ∧ ∀ r, q ≠ p.app r
theorem app_app {p q : Path} {r r' : Steps} (h : p.app r = q.app r') : (∃ s, p = q.app s) ∨ ∃ s, q = p.app s := by
  obtain ⟨n, k, s⟩ := p
  obtain ⟨n', k', s'⟩ := q
  simp only [Path.app, Path.mk.injEq] at h
  obtain ⟨rfl, rfl, h⟩ := h
  rcases List.append_eq_append_iff.1 h with ⟨t, h1, _⟩ | ⟨t, h1, _⟩
  · exact .inr ⟨t, by simp [Path.app, h1]⟩
  · exact .inl ⟨t, by simp [Path.app, h1]⟩
theorem Sep.under {p q : Path} (h : Sep p q) (r : Steps) : ∀ r', p.app r ≠ q.app r' := fun r' he => (app_app he).elim (fun ⟨s, hs⟩ => h.1 s hs) (fun ⟨s, hs⟩ => h.2 s hs)
theorem app_nil (p : Path) : p.app [] = p := by simp [Path.app]
theorem G_get {p : Path} {h k e vs} (hG : G rt p = some (.own h k e vs)) : ∃ xs, getP rt p = some (.own h k e xs) ∧ vs = xs.map (·.map conc) := by
  unfold G at hG
  obtain ⟨c, hc, hs⟩ := Option.map_eq_some_iff.1 hG
  cases c <;> simp [sh] at hs
  obtain ⟨rfl, rfl, rfl, rfl⟩ := hs
  exact ⟨_, hc, rfl⟩
theorem setL_G : ∀ {L : List (Path × C Value)} {rt : Rt}, (∀ x ∈ L, ∃ k e vs, G rt x.1 = some (.own (conc x.2) k e vs)) → L.Pairwise (fun x y => Sep x.1 y.1) →
    (∀ p, (∀ x ∈ L, ∀ r, p ≠ x.1.app r) → G (setL L rt) p = G rt p) ∧ ∀ x ∈ L, ∀ r, G (setL L rt) (x.1.app r) = T x.2 r
  | [], rt, _, _ => ⟨fun p _ => rfl, fun x hx => by cases hx⟩
  | (q, c) :: L, rt, h, hp => by
    obtain ⟨k, e, vs, hq⟩ := h _ (List.mem_cons_self ..)
    obtain ⟨xs, hc0, _⟩ := G_get hq
    obtain ⟨m1, m2, _⟩ := G_mod (fun _ => c) hc0
    have hp' := List.pairwise_cons.1 hp
    have hold : ∀ p, (∀ r, p ≠ q.app r) → G (modP (fun _ => c) rt q) p = G rt p := fun p hne => m2 p hne (.inr rfl)
    obtain ⟨i1, i2⟩ := setL_G (L := L) (rt := modP (fun _ => c) rt q) (fun x hx => by
      obtain ⟨k, e, vs, hx'⟩ := h x (List.mem_cons_of_mem _ hx)
      exact ⟨k, e, vs, by rw [hold _ (hp'.1 x hx).2]; exact hx'⟩) hp'.2
    refine ⟨fun p hne => ?_, fun x hx r => ?_⟩
    · simp only [setL]
      rw [i1 p (fun x hx => hne x (List.mem_cons_of_mem _ hx)), hold p (hne _ (List.mem_cons_self ..))]
    · simp only [setL]
      rcases List.mem_cons.1 hx with rfl | hx
      · rw [i1 _ (fun x hx r' => (hp'.1 x hx).under r r')]
        exact m1 r
      · exact i2 x hx r
theorem lost_false : ∀ {L : List (Path × C Value)} {q : Path}, lost L q = false → ∀ x ∈ L, (∀ r, q ≠ x.1.app r) ∨ (q = x.1 ∧ ∃ h k e xs, x.2 = .own h k e xs)
  | [], q, _, x, hx => by cases hx
  | (p, c) :: L, q, h, x, hx => by
    have hb : ∀ {p : Path}, underB p q = false → ∀ r, q = p.app r → r = [] := by
      rintro p hb r rfl
      cases r with
      | nil => rfl
      | cons y r =>
        unfold underB at hb
        rw [if_pos (by simp [Path.app]), under_app] at hb
        cases hb
    rcases List.mem_cons.1 hx with rfl | hx'
    · cases c with
      | own h' k e xs =>
        simp only [lost] at h
        split at h
        · cases h
        · rename_i hu
          have hu : underB p q = false := by simpa using hu
          rcases Classical.em (∃ r, q = p.app r) with ⟨r, hr⟩ | hn
          · have := hb hu r hr
            subst this
            exact .inr ⟨by rw [hr]; simp [Path.app], h', k, e, xs, rfl⟩
          · exact .inl fun r hr => hn ⟨r, hr⟩
      | _ =>
        refine .inl ?_
        simp only [lost] at h
        split at h
        · cases h
        · rename_i hu
          exact under_false (by simpa using hu)
    · refine lost_false (L := L) ?_ x hx'
      cases c <;> simp only [lost] at h <;> split at h <;> first | cases h | exact h
theorem killC_refd {bad : Path → Bool} {c : C Value} {q : Path} (h : refd (killC bad c) q) : bad q = false := by
  cases c <;> simp only [killC] at h
  case ref g p =>
    split at h
    · exact h.elim
    · rename_i hb
      have : p = q := h
      subst this
      simpa using hb
  case ptr g p i j =>
    split at h
    · exact h.elim
    · rename_i hb
      have : p = q := h
      subst this
      simpa using hb
  case sub g p i j =>
    split at h
    · exact h.elim
    · rename_i hb
      have : p = q := h
      subst this
      simpa using hb
  all_goals exact h.elim
/-- the trees that come back -/
structure Trees (P : Program) (w' : World) (N B : Nat → Prop) (w : World) (L : List (Path × C Value)) : Prop where
  own : ∀ x ∈ L, ∀ r h k e vs, T x.2 r = some (.own h k e vs) → BlkOk P w' h e vs k ∧ (k = .pt → r = []) ∧ ∀ g, blk h = some g → B g ∨ w.heap.size ≤ g
  oth : ∀ x ∈ L, ∀ r d, T x.2 r = some (.oth d) → OkC P w' N [] d ∧ plain d = true
  dis : ∀ x ∈ L, ∀ y ∈ L, ∀ r h k e vs r' h' k' e' vs' g, T x.2 r = some (.own h k e vs) → T y.2 r' = some (.own h' k' e' vs') → blk h = some g → blk h' = some g → x.1.app r = y.1.app r'
theorem plain_und {c : C Value} (h : plain c = true) : c ≠ .und := by rintro rfl; cases h
theorem ext_under {p q : Path} {i j : Nat} {r : Steps} (h : p.ext i j = q.app r) : p.ext i j = q ∨ ∃ r', p = q.app r' := by
  cases hr : r with
  | nil => subst hr; exact .inl (by rw [h]; simp [Path.app])
  | cons x t =>
    obtain ⟨r0, y, hr0⟩ : ∃ r0 y, r = r0 ++ [y] := ⟨r.dropLast, r.getLast (by rw [hr]; simp), (List.dropLast_concat_getLast (by rw [hr]; simp)).symm⟩
    refine .inr ⟨r0, ?_⟩
    obtain ⟨n, k, s⟩ := p
    obtain ⟨n', k', s'⟩ := q
    simp only [Path.ext, Path.app, Path.mk.injEq] at h ⊢
    obtain ⟨rfl, rfl, h⟩ := h
    rw [hr0, ← List.append_assoc] at h
    exact ⟨rfl, rfl, List.append_inj_left' h rfl⟩
theorem Rel.back (R : Rel P hd w0 O N Γ a w) {L : List (Path × C Value)} {B : Nat → Prop} (f : Fr w B w')
    (hB : ∀ g, B g → ∃ x ∈ L, ∃ r h k e vs, G Γ.rt (x.1.app r) = some (.own h k e vs) ∧ blk h = some g)
    (hap : L.Pairwise (fun x y => Sep x.1 y.1))
    (hh : ∀ x ∈ L, ∃ k e vs, G Γ.rt x.1 = some (.own (conc x.2) k e vs) ∧ ∀ h' k' e' xs, x.2 = .own h' k' e' xs → k' = k ∧ e' = e)
    (Tr : Trees P w' N B w L) :
    Rel P hd w0 O N { Γ.kill (lost L) with rt := setL L (Γ.kill (lost L)).rt } a w' ∧
    (∀ p h k e vs, G (setL L (Γ.kill (lost L)).rt) p = some (.own h k e vs) → (∃ x ∈ L, ∃ r, p = x.1.app r ∧ T x.2 r = some (.own h k e vs)) ∨ (G Γ.rt p = some (.own h k e vs) ∧ ∀ x ∈ L, ∀ r, p ≠ x.1.app r)) ∧
    ∀ x ∈ L, ∀ r, G (setL L (Γ.kill (lost L)).rt) (x.1.app r) = T x.2 r := by
  have R1 := R.kill (lost L)
  have hown1 : ∀ p h k e vs, G (Γ.kill (lost L)).rt p = some (.own h k e vs) ↔ G Γ.rt p = some (.own h k e vs) := fun p h k e vs => G_map_own (killC_lossy _).mild R.hp
  obtain ⟨F1, F2⟩ := setL_G (L := L) (rt := (Γ.kill (lost L)).rt) (fun x hx => by
    obtain ⟨k, e, vs, hG, _⟩ := hh x hx
    exact ⟨k, e, vs, (hown1 _ _ _ _ _).2 hG⟩) hap
  have hcase : ∀ p, (∃ x ∈ L, ∃ r, p = x.1.app r) ∨ ((∀ x ∈ L, ∀ r, p ≠ x.1.app r) ∧ G (setL L (Γ.kill (lost L)).rt) p = G (Γ.kill (lost L)).rt p) := fun p => by
    rcases Classical.em (∃ x ∈ L, ∃ r, p = x.1.app r) with h | h
    · exact .inl h
    · have h' : ∀ x ∈ L, ∀ r, p ≠ x.1.app r := fun x hx r he => h ⟨x, hx, r, he⟩
      exact .inr ⟨h', F1 p h'⟩
  have hown : ∀ p h k e vs, G (setL L (Γ.kill (lost L)).rt) p = some (.own h k e vs) → (∃ x ∈ L, ∃ r, p = x.1.app r ∧ T x.2 r = some (.own h k e vs)) ∨ (G Γ.rt p = some (.own h k e vs) ∧ ∀ x ∈ L, ∀ r, p ≠ x.1.app r) := by
    intro p h k e vs hG
    rcases hcase p with ⟨x, hx, r, rfl⟩ | ⟨h1, h2⟩
    · rw [F2 x hx] at hG; exact .inl ⟨x, hx, r, rfl, hG⟩
    · rw [h2] at hG; exact .inr ⟨(hown1 _ _ _ _ _).1 hG, h1⟩
  have hBo : ∀ g, B g → O g ∨ w0.heap.size ≤ g := fun g hg => by
    obtain ⟨x, _, r, h, k, e, vs, hG, hb⟩ := hB g hg
    exact R.inO _ _ _ _ _ g hG hb
  have hNB : ∀ b, N b → ¬ B b := fun b hb hk => (hBo b hk).elim (R.nn b hb).1 (fun h => absurd (R.nn b hb).2 (Nat.not_lt.2 h))
  have hkeep : ∀ d, OkC P w N (Γ.kill (lost L)).rt d → (∀ q, refd d q → lost L q = false) → OkC P w' N (setL L (Γ.kill (lost L)).rt) d := by
    intro d hd' hl
    refine hd'.mono f hNB (fun q g k e vs hr hG => ?_)
    have hq := lost_false (hl q hr)
    rcases hcase q with ⟨x, hx, r, rfl⟩ | ⟨h1, h2⟩
    · rcases hq x hx with h3 | ⟨h3, h', k', e', xs', h4⟩
      · exact absurd rfl (h3 r)
      · obtain ⟨k0, e0, vs0, hG0, hke⟩ := hh x hx
        obtain ⟨rfl, rfl⟩ := hke _ _ _ _ h4
        have : r = [] := app_inj (p := x.1) (by rw [h3, app_nil])
        subst this
        rw [F2 x hx]
        rw [app_nil] at hG
        have hG0' := (hown1 _ _ _ _ _).2 hG0
        rw [hG0'] at hG
        simp only [Option.some.injEq, Sh.own.injEq] at hG
        obtain ⟨rfl, rfl, rfl, rfl⟩ := hG
        rw [h4]
        exact ⟨xs'.map (·.map conc), by simp [T, inn, sh, conc]⟩
    · exact ⟨vs, by rw [h2]; exact hG⟩
  have hrefR : ∀ q c, G (Γ.kill (lost L)).rt q = some (.oth c) → ∀ p, refd c p → lost L p = false := by
    intro q c hG p hp
    have hG : G (mapRt (killC (lost L)) Γ.rt) q = some (.oth c) := hG
    rw [G_mapRt (killC_lossy _).mild R.hp] at hG
    obtain ⟨s, hs, he⟩ := Option.map_eq_some_iff.1 hG
    cases s with
    | own _ _ _ _ => cases he
    | oth d =>
      simp only [mapS, Sh.oth.injEq] at he
      subst he
      exact killC_refd hp
  have hrefT : ∀ t v, find t (Γ.kill (lost L)).tm = some v → ∀ c ∈ cellsV v, ∀ p, refd c p → lost L p = false := by
    intro t v hv c hc p hp
    have : find t (Γ.tm.map fun x => (x.1, mapV (killC (lost L)) x.2)) = some v := hv
    rw [find_map] at this
    obtain ⟨u, hu, rfl⟩ := Option.map_eq_some_iff.1 this
    rw [cellsV_map] at hc
    obtain ⟨d, _, rfl⟩ := List.mem_map.1 hc
    exact killC_refd hp
  refine ⟨⟨⟨?_, ?_, ?_, ?_, ?_, ?_⟩, R.nn, R.fr.trans f hBo, ?_, R.dfr, R.sz, ?_⟩, hown, F2⟩
  · intro p h k e vs hG
    rcases hown p h k e vs hG with ⟨x, hx, r, rfl, hT⟩ | ⟨h1, h2⟩
    · exact (Tr.own x hx r h k e vs hT).1
    · refine (R.hp.own _ _ _ _ _ h1).fr f (fun g hg hk => ?_)
      obtain ⟨x, hx, r, h', k', e', vs', hG', hb'⟩ := hB g hk
      exact h2 x hx r (R.hp.dis _ _ _ _ _ _ _ _ _ _ g h1 hG' hg hb')
  · intro p c hG
    rcases hcase p with ⟨x, hx, r, rfl⟩ | ⟨h1, h2⟩
    · have hG' : G (setL L (Γ.kill (lost L)).rt) (x.1.app r) = some (.oth c) := hG
      rw [F2 x hx] at hG'
      obtain ⟨o1, o2⟩ := Tr.oth x hx r c hG'
      exact ⟨OkC_plain o1 o2, plain_und o2⟩
    · have hG' : G (setL L (Γ.kill (lost L)).rt) p = some (.oth c) := hG
      rw [h2] at hG'
      obtain ⟨o1, o2⟩ := R1.hp.oth p c hG'
      exact ⟨hkeep c o1 (hrefR p c hG'), o2⟩
  · intro p i j h e vs c hG hc
    rcases hown p h .sl e vs hG with ⟨x, hx, r, rfl, hT⟩ | ⟨h1, h2⟩
    · have hc' : G (setL L (Γ.kill (lost L)).rt) ((x.1.app r).ext i j) = some (.oth c) := hc
      rw [ext_app, F2 x hx] at hc'
      exact (Tr.oth x hx _ c hc').2
    · rcases hcase (p.ext i j) with ⟨x, hx, r, hr⟩ | ⟨h3, h4⟩
      · have hc' : G (setL L (Γ.kill (lost L)).rt) (p.ext i j) = some (.oth c) := hc
        rw [hr, F2 x hx] at hc'
        exact (Tr.oth x hx _ c hc').2
      · have hc' : G (setL L (Γ.kill (lost L)).rt) (p.ext i j) = some (.oth c) := hc
        rw [h4] at hc'
        exact R1.hp.pln p i j h e vs c ((hown1 _ _ _ _ _).2 h1) hc'
  · intro p h e vs hG
    rcases hown p h .pt e vs hG with ⟨x, hx, r, rfl, hT⟩ | ⟨h1, h2⟩
    · have hr := (Tr.own x hx r h .pt e vs hT).2.1 rfl
      subst hr
      obtain ⟨k, e', vs', hG', hke⟩ := hh x hx
      have hx2 : ∃ xs, x.2 = .own h .pt e xs := by
        unfold T at hT
        simp only [inn, Option.map_some, Option.some.injEq] at hT
        cases hx2 : x.2 <;> rw [hx2] at hT <;> simp [sh] at hT
        obtain ⟨rfl, rfl, rfl, _⟩ := hT
        exact ⟨_, rfl⟩
      obtain ⟨xs, hx2⟩ := hx2
      obtain ⟨rfl, rfl⟩ := hke _ _ _ _ hx2
      have := R.hp.pts _ _ _ _ hG'
      simp [Path.app, this]
    · exact R.hp.pts _ _ _ _ h1
  · intro p q h k e vs h' k' e' vs' g g1 g2 b1 b2
    have hno : ∀ p h k e vs q h' k' e' vs', (∃ x ∈ L, ∃ r, p = x.1.app r ∧ T x.2 r = some (.own h k e vs)) → (G Γ.rt q = some (.own h' k' e' vs') ∧ ∀ x ∈ L, ∀ r, q ≠ x.1.app r) → blk h = some g → blk h' = some g → False := by
      rintro p h k e vs q h' k' e' vs' ⟨x, hx, r, rfl, hT⟩ ⟨h1, h2⟩ b1 b2
      rcases (Tr.own x hx r h k e vs hT).2.2 g b1 with hb | hb
      · obtain ⟨y, hy, r', h2', k2, e2, vs2, hG', hb'⟩ := hB g hb
        exact h2 y hy r' (R.hp.dis _ _ _ _ _ _ _ _ _ _ g h1 hG' b2 hb')
      · exact absurd ((R.hp.own _ _ _ _ _ h1).lt b2) (Nat.not_lt.2 hb)
    rcases hown p h k e vs g1 with hx | h1
    · rcases hown q h' k' e' vs' g2 with hy | h2
      · obtain ⟨x, hx, r, rfl, hT⟩ := hx
        obtain ⟨y, hy, r', rfl, hT'⟩ := hy
        exact Tr.dis x hx y hy _ _ _ _ _ _ _ _ _ _ g hT hT' b1 b2
      · exact (hno _ _ _ _ _ _ _ _ _ _ hx h2 b1 b2).elim
    · rcases hown q h' k' e' vs' g2 with hy | h2
      · exact (hno _ _ _ _ _ _ _ _ _ _ hy h1 b2 b1).elim
      · exact R.hp.dis _ _ _ _ _ _ _ _ _ _ g h1.1 h2.1 b1 b2
  · intro n k h K e vs hn hG
    rcases hown _ h K e vs hG with ⟨x, hx, r, hr, hT⟩ | ⟨h1, h2⟩
    · have hr0 : r = [] := by
        have := congrArg (fun x : Path => x.s) hr
        simp only [Path.app] at this
        exact (List.append_eq_nil_iff.1 this.symm).2
      subst hr0
      have hr : (⟨n, k, []⟩ : Path) = x.1 := by rw [hr]; simp [Path.app]
      obtain ⟨k', e', vs', hG', hke⟩ := hh x hx
      have hx2 : ∃ xs, x.2 = .own h K e xs := by
        unfold T at hT
        simp only [inn, Option.map_some, Option.some.injEq] at hT
        cases hx2 : x.2 <;> rw [hx2] at hT <;> simp [sh] at hT
        obtain ⟨rfl, rfl, rfl, _⟩ := hT
        exact ⟨_, rfl⟩
      obtain ⟨xs, hx2⟩ := hx2
      obtain ⟨rfl, rfl⟩ := hke _ _ _ _ hx2
      rw [← hr, hx2] at hG'
      exact R.hp.par n k h K e vs' hn hG'
    · exact R.hp.par n k h K e vs hn h1
  · intro p h k e vs g hG hb
    rcases hown p h k e vs hG with ⟨x, hx, r, rfl, hT⟩ | ⟨h1, h2⟩
    · exact ((Tr.own x hx r h k e vs hT).2.2 g hb).elim (hBo g) (fun h => .inr (Nat.le_trans R.fr.size h))
    · exact R.inO _ _ _ _ _ g h1 hb
  · intro t v hv
    obtain ⟨t1, t2⟩ := R1.tms t v hv
    exact ⟨t1, fun c hc => hkeep c (t2 c hc) (hrefT t v hv c hc)⟩
end
end Go.Mach

/- Calls: what goes in. -/
namespace Go.Mach
set_option linter.unusedVariables false
set_option linter.unusedSimpArgs false
section
variable {P : Program} {hd hd' : Nat → Nat → Option (Value × K × TypeId)} {w0 w w' : World} {O O' N N' M : Nat → Prop} {Γ Γ' Γ0 Γ1 : St Value} {a a' : Act} {rt rt' : Rt} {Q : Exit → Act → World → Prop}
def okCall (P : Program) (f : FuncId) : Bool := match P.funcs[f]? with
  | some fn => fn.body.isSome && !(fn.name == "runtime.NumGoroutine")
  | none => false
theorem okCall_run {f : FuncId} (h : okCall P f = true) (args : Array Value) (w : World) : (callFunc f args).run P w = .ok (.enter f args) w := by
  unfold okCall at h
  split at h
  · rename_i fn hfn
    simp only [Bool.and_eq_true, Bool.not_eq_true', beq_eq_false_iff_ne, ne_eq] at h
    obtain ⟨c, hc⟩ := Option.isSome_iff_exists.1 h.1
    simp [callFunc, hfn, h.2, hc]
  · cases h
/-- what a function is handed -/
structure In (P : Program) (hd : Nat → Nat → Option (Value × K × TypeId)) (w : World) (O N : Nat → Prop) (ms : List Mode) (args : List (V Value)) : Prop where
  len : args.length = ms.length
  tup : ∀ v ∈ args, ∀ vs, v ≠ .tup vs
  hp : Hp P hd N w (enterR 0 ms args)
  ro : ∀ (i : Nat) (v : V Value), args[i]? = some v → ms[i]? = some Mode.ro → ∀ c ∈ cellsV v, OkC P w N [] c ∧ plain c = true
  nn : ∀ b, N b → ¬ O b ∧ b < w.heap.size
  inO : ∀ p h k e vs g, G (enterR 0 ms args) p = some (.own h k e vs) → blk h = some g → O g
/-- what it hands back -/
structure Outs (P : Program) (hd : Nat → Nat → Option (Value × K × TypeId)) (w w' : World) (O N : Nat → Prop) (vcs : List (C Value)) (fin : Rt) : Prop where
  hp : Hp P hd N w' ((0, vcs) :: fin)
  fr : Fr w O w'
  inO : ∀ p h k e vs g, G ((0, vcs) :: fin) p = some (.own h k e vs) → blk h = some g → O g ∨ w.heap.size ≤ g
  pln : ∀ p c, G ((0, vcs) :: fin) p = some (.oth c) → p.s ≠ [] ∨ p.n ≠ 0 → plain c = true
def concR (vals : List (Bool × List (C Value))) : Value := match vals with
  | [x] => conc1 x
  | _ => .tuple (vals.map conc1).toArray
def erL {γ : Type} (f : C Value → C γ) (vals : List (Bool × List (C Value))) : List (Bool × List (C γ)) := vals.map fun x => (x.1, x.2.map f)
def Sound (P : Program) (M : FuncId → List Mode) (cf : Calls0) : Prop := ∀ f as r, cf f as = some r → okCall P f = true ∧ ∀ hd w O N (args : List (V Value)), args.map V.er = as → In P hd w O N (M f) args →
  Calls P f (args.map concV).toArray w fun
    | .returned v, w' => ∃ (vals : List (Bool × List (C Value))) (fin : Rt), erL C.er vals = r.vals ∧ erR fin = r.fin ∧ v = concR vals ∧ Outs P hd w w' O N (vals.flatMap (·.2)) fin
    | _, _ => False
/-! what is handed -/
def argG (rt : Rt) (m : Mode) : C Value → C Value
  | .ref h q => match getP rt q with
    | some (.own g k e xs) => if m = .ro then .ro g e xs else .own g k e xs
    | _ => .ref h q
  | .sub h q a n => match getP rt q with
    | some (.own _ .sl e xs) => if m = .ro ∧ a + n ≤ xs.length then .ro h e ((xs.take (a + n)).drop a) else .sub h q a n
    | _ => .sub h q a n
  | c => c
def argsG (rt : Rt) : List Mode → List (V Value) → List (V Value)
  | m :: ms, v :: vs => mapV (argG rt m) v :: argsG rt ms vs
  | _, _ => []
/-- a cell that goes in -/
inductive Goes (rt : Rt) (m : Mode) : C Value → C Value → Prop
  | same (c) (h : plain c = true) : Goes rt m c c
  | snap (h q e xs) (hm : m = .ro) (hq : getP rt q = some (.own h .sl e xs)) : Goes rt m (.ref h q) (.ro h e xs)
  | snapS (h q a n g e xs) (hm : m = .ro) (hq : getP rt q = some (.own g .sl e xs)) (hle : a + n ≤ xs.length) : Goes rt m (.sub h q a n) (.ro h e ((xs.take (a + n)).drop a))
  | own (h q k e xs) (hm : m ≠ .ro) (hq : getP rt q = some (.own h k e xs)) (hs : k = .pt → ∀ el ∈ xs, ∀ c ∈ el, plain c = true) : Goes rt m (.ref h q) (.own h k e xs)
theorem er_plain (c : C Value) : plain c.er = plain c := by cases c <;> simp [er_int, er_bool, er_str, er_fn, er_nil, er_own, er_und, er_ro, er_rp, er_ref, er_ptr, er_sub, er_top, plain]
theorem allPl_ok : ∀ {cs : List (C Value)}, allPl (cs.map C.er) = true → ∀ c ∈ cs, plain c = true
  | [], _, c, hc => by cases hc
  | d :: r, h, c, hc => by
    simp only [List.map_cons, allPl] at h
    split at h
    · rename_i hd'
      rcases List.mem_cons.1 hc with rfl | hc
      · rw [← er_plain]; exact hd'
      · exact allPl_ok h c hc
    · cases h
theorem shut_ok {k : K} {xs : List (List (C Value))} (h : shut k (xs.map (·.map C.er)) = true) (hk : k = .pt) : ∀ el ∈ xs, ∀ c ∈ el, plain c = true := by
  subst hk
  cases xs with
  | nil => intro el hel; cases hel
  | cons el r =>
    cases r with
    | nil =>
      simp only [List.map_cons, List.map_nil, shut] at h
      intro el' hel
      simp only [List.mem_cons, List.not_mem_nil, or_false] at hel
      subst hel
      exact allPl_ok h
    | cons y r => simp [shut] at h
theorem argC_ok {m : Mode} {c : C Value} {u : C Unit} (hc : OkC P w N Γ.rt c) (h : argC Γ.er m c.er = some u) : (argG Γ.rt m c).er = u ∧ conc (argG Γ.rt m c) = conc c ∧ Goes Γ.rt m c (argG Γ.rt m c) := by
  have hsame : plain c = true → (∀ g k e xs, c ≠ .own g k e xs) → argC Γ.er m c.er = some c.er ∧ argG Γ.rt m c = c := by
    intro hp hn
    cases c <;> first | exact absurd rfl (hn _ _ _ _) | (simp [plain] at hp; done) | (cases m <;> simp [argC, snapC, ownC, argG, er_int, er_bool, er_str, er_fn, er_nil, er_own, er_und, er_ro, er_rp, er_ref, er_ptr, er_sub, er_top])
  cases c with
  | ref g q =>
    obtain ⟨k, e, vs, hG⟩ := hc
    obtain ⟨xs, hq, rfl⟩ := G_get hG
    have hq' : getP Γ.er.rt q = some (.own () k e (xs.map (·.map C.er))) := by
      show getP (erR Γ.rt) q = _
      rw [getP_er, hq]; simp [er_own]
    have hg : argG Γ.rt m (.ref g q) = if m = .ro then .ro g e xs else .own g k e xs := by simp [argG, hq]
    cases m with
    | ro =>
      simp only [argC, er_ref, snapC, hq'] at h
      cases k with
      | pt => cases h
      | sl =>
        simp only [Option.some.injEq] at h
        subst h
        rw [hg]
        simp only [if_true]
        exact ⟨er_ro _ _ _, rfl, .snap g q e xs rfl hq⟩
    | kept =>
      simp only [argC, er_ref, ownC, hq'] at h
      split at h
      · rename_i hs
        simp only [Option.some.injEq] at h
        subst h
        rw [hg]
        exact ⟨er_own _ _ _ _, rfl, .own g q k e xs (by simp) hq (shut_ok hs)⟩
      · cases h
    | gone =>
      simp only [argC, er_ref, ownC, hq'] at h
      split at h
      · rename_i hs
        simp only [Option.some.injEq] at h
        subst h
        rw [hg]
        exact ⟨er_own _ _ _ _, rfl, .own g q k e xs (by simp) hq (shut_ok hs)⟩
      · cases h
  | ptr => cases m <;> simp [argC, snapC, ownC, er_ptr] at h
  | sub g q a' n' =>
    obtain ⟨h', k, e, vs, b, o, cap, hG, _⟩ := hc
    obtain ⟨xs, hq, rfl⟩ := G_get hG
    have hq' : getP Γ.er.rt q = some (.own () k e (xs.map (·.map C.er))) := by
      show getP (erR Γ.rt) q = _
      rw [getP_er, hq]; simp [er_own]
    cases m with
    | ro =>
      simp only [argC, er_sub, snapC, hq'] at h
      cases k with
      | pt => cases h
      | sl =>
        simp only [List.length_map] at h
        split at h
        · rename_i hle
          simp only [Option.some.injEq] at h
          subst h
          have hg : argG Γ.rt .ro (.sub g q a' n') = .ro g e ((xs.take (a' + n')).drop a') := by simp [argG, hq, hle]
          rw [hg]
          exact ⟨by rw [er_ro, List.map_drop, List.map_take], rfl, .snapS g q a' n' h' e xs rfl hq hle⟩
        · cases h
    | kept => simp [argC, ownC, er_sub] at h
    | gone => simp [argC, ownC, er_sub] at h
  | rp => cases m <;> simp [argC, snapC, ownC, er_rp] at h
  | und => cases m <;> simp [argC, snapC, ownC, er_und] at h
  | own => exact hc.elim
  | _ =>
    obtain ⟨h1, h2⟩ := hsame rfl (by intros; simp)
    rw [h1] at h
    simp only [Option.some.injEq] at h
    rw [h2]
    exact ⟨h, rfl, .same _ rfl⟩
theorem mapO_cells {m : Mode} : ∀ {cs : List (C Value)} {us : List (C Unit)}, (∀ c ∈ cs, OkC P w N Γ.rt c) → mapO (argC Γ.er m) (cs.map C.er) = some us → (cs.map (argG Γ.rt m)).map C.er = us ∧ (cs.map (argG Γ.rt m)).map conc = cs.map conc ∧ ∀ c ∈ cs, Goes Γ.rt m c (argG Γ.rt m c)
  | [], us, _, h => by simp only [List.map_nil, mapO, Option.some.injEq] at h; subst h; simp
  | c :: r, us, hc, h => by
    simp only [List.map_cons, mapO] at h
    split at h
    · rename_i u hu
      obtain ⟨q, hq, rfl⟩ := Option.map_eq_some_iff.1 h
      obtain ⟨h1, h2, h3⟩ := argC_ok (hc c (List.mem_cons_self ..)) hu
      obtain ⟨i1, i2, i3⟩ := mapO_cells (fun d hd' => hc d (List.mem_cons_of_mem _ hd')) hq
      refine ⟨by simp only [List.map_cons, h1, i1], by simp only [List.map_cons, h2, i2], fun d hd' => ?_⟩
      rcases List.mem_cons.1 hd' with rfl | hd'
      · exact h3
      · exact i3 d hd'
    · cases h
theorem argV_ok {m : Mode} {U : V Value} {u : V Unit} (hU : ∀ c ∈ cellsV U, OkC P w N Γ.rt c) (h : mapVO (argC Γ.er m) U.er = some u) : (mapV (argG Γ.rt m) U).er = u ∧ concV (mapV (argG Γ.rt m) U) = concV U ∧ (∀ c ∈ cellsV U, Goes Γ.rt m c (argG Γ.rt m c)) ∧ ∀ vs, mapV (argG Γ.rt m) U ≠ .tup vs := by
  cases U with
  | one c =>
    simp only [V.er, mapVO] at h
    obtain ⟨q, hq, rfl⟩ := Option.map_eq_some_iff.1 h
    obtain ⟨h1, h2, h3⟩ := argC_ok (hU c (List.mem_singleton.2 rfl)) hq
    exact ⟨by simp only [mapV, V.er, h1], h2, fun d hd' => by rw [mem1 hd']; exact h3, by intros; simp [mapV]⟩
  | agg cs =>
    simp only [V.er, mapVO] at h
    obtain ⟨q, hq, rfl⟩ := Option.map_eq_some_iff.1 h
    obtain ⟨h1, h2, h3⟩ := mapO_cells hU hq
    simp only [cellsV] at h1 h2
    exact ⟨by simp only [mapV, V.er, h1], by simp only [mapV, concV, h2], h3, by intros; simp [mapV]⟩
  | tup vs => simp [V.er, mapVO] at h
theorem argsOf_ok : ∀ {ms : List Mode} {Us : List (V Value)} {as : List (V Unit)}, (∀ U ∈ Us, ∀ c ∈ cellsV U, OkC P w N Γ.rt c) → argsOf Γ.er ms (Us.map V.er) = some as →
    (argsG Γ.rt ms Us).map V.er = as ∧ (argsG Γ.rt ms Us).map concV = Us.map concV ∧ Us.length = ms.length ∧ (argsG Γ.rt ms Us).length = ms.length ∧
    (∀ (i : Nat) (m : Mode) (U : V Value), ms[i]? = some m → Us[i]? = some U → (argsG Γ.rt ms Us)[i]? = some (mapV (argG Γ.rt m) U) ∧ (∀ c ∈ cellsV U, Goes Γ.rt m c (argG Γ.rt m c))) ∧ ∀ v ∈ argsG Γ.rt ms Us, ∀ vs, v ≠ .tup vs
  | [], [], as, _, h => by simp only [List.map_nil, argsOf, Option.some.injEq] at h; subst h; simp [argsG]
  | [], U :: Us, as, _, h => by simp [argsOf] at h
  | m :: ms, [], as, _, h => by simp [argsOf] at h
  | m :: ms, U :: Us, as, hU, h => by
    simp only [List.map_cons, argsOf] at h
    split at h
    · rename_i u hu
      obtain ⟨q, hq, rfl⟩ := Option.map_eq_some_iff.1 h
      obtain ⟨h1, h2, h3, h4⟩ := argV_ok (hU U (List.mem_cons_self ..)) hu
      obtain ⟨i1, i2, i3, i4, i5, i6⟩ := argsOf_ok (fun V hV => hU V (List.mem_cons_of_mem _ hV)) hq
      refine ⟨by simp only [argsG, List.map_cons, h1, i1], by simp only [argsG, List.map_cons, h2, i2], by simp [i3], by simp [argsG, i4], fun i m' U' hm hU' => ?_, fun v hv => ?_⟩
      · cases i with
        | zero =>
          simp only [List.getElem?_cons_zero, Option.some.injEq] at hm hU'
          subst hm; subst hU'
          exact ⟨rfl, h3⟩
        | succ i => exact i5 i m' U' (by simpa using hm) (by simpa using hU')
      · simp only [argsG, List.mem_cons] at hv
        rcases hv with rfl | hv
        · exact h4
        · exact i6 v hv
    · cases h
/-! where it lies -/
theorem mem_cellH {γ : Type} {m : Mode} {n : Nat} {H : Home} : ∀ {cs : List (C γ)} {k : Nat}, H ∈ cellH m n k cs ↔ ∃ j g, cs[j]? = some (.ref g H.p) ∧ H.k = k + j ∧ H.n = n ∧ H.m = m
  | [], k => by simp [cellH]
  | c :: r, k => by
    have ih := mem_cellH (γ := γ) (m := m) (n := n) (H := H) (cs := r) (k := k + 1)
    have hr : (∃ j g, r[j]? = some (.ref g H.p) ∧ H.k = k + 1 + j ∧ H.n = n ∧ H.m = m) ↔ ∃ j g, (c :: r)[j + 1]? = some (.ref g H.p) ∧ H.k = k + (j + 1) ∧ H.n = n ∧ H.m = m := by
      constructor
      · rintro ⟨j, g, h1, h2, h3⟩; exact ⟨j, g, by simpa using h1, by omega, h3⟩
      · rintro ⟨j, g, h1, h2, h3⟩; exact ⟨j, g, by simpa using h1, by omega, h3⟩
    have hsplit : (∃ j g, (c :: r)[j]? = some (.ref g H.p) ∧ H.k = k + j ∧ H.n = n ∧ H.m = m) ↔ (∃ g, c = .ref g H.p ∧ H.k = k ∧ H.n = n ∧ H.m = m) ∨ ∃ j g, (c :: r)[j + 1]? = some (.ref g H.p) ∧ H.k = k + (j + 1) ∧ H.n = n ∧ H.m = m := by
      constructor
      · rintro ⟨j, g, h1, h2, h3⟩
        cases j with
        | zero => exact .inl ⟨g, by simpa using h1, by omega, h3⟩
        | succ j => exact .inr ⟨j, g, h1, h2, h3⟩
      · rintro (⟨g, h1, h2, h3⟩ | ⟨j, g, h1, h2, h3⟩)
        · exact ⟨0, g, by simp [h1], by omega, h3⟩
        · exact ⟨j + 1, g, h1, h2, h3⟩
    rw [hsplit, ← hr, ← ih]
    cases c with
    | ref g q =>
      simp only [cellH, List.mem_cons]
      constructor
      · rintro (rfl | h)
        · exact .inl ⟨g, rfl, rfl, rfl, rfl⟩
        · exact .inr h
      · rintro (⟨g', h1, h2, h3, h4⟩ | h)
        · refine .inl ?_
          simp only [C.ref.injEq] at h1
          cases H
          simp only at h1 h2 h3 h4
          simp [h1.2, h2, h3, h4]
        · exact .inr h
    | _ => simp [cellH]
theorem mem_rwH {γ : Type} {H : Home} : ∀ {ms : List Mode} {vs : List (V γ)} {i : Nat}, H ∈ rwH i ms vs ↔ ∃ j v g, ms[j]? = some H.m ∧ H.m ≠ .ro ∧ vs[j]? = some v ∧ (cellsV v)[H.k]? = some (.ref g H.p) ∧ H.n = 1000 + (i + j)
  | [], vs, i => by simp [rwH]
  | m :: ms, [], i => by cases m <;> simp [rwH]
  | m :: ms, v :: vs, i => by
    have ih := mem_rwH (γ := γ) (H := H) (ms := ms) (vs := vs) (i := i + 1)
    have hsplit : (∃ j v' g, (m :: ms)[j]? = some H.m ∧ H.m ≠ .ro ∧ (v :: vs)[j]? = some v' ∧ (cellsV v')[H.k]? = some (.ref g H.p) ∧ H.n = 1000 + (i + j)) ↔
        (m = H.m ∧ H.m ≠ .ro ∧ ∃ g, (cellsV v)[H.k]? = some (.ref g H.p) ∧ H.n = 1000 + i) ∨ ∃ j v' g, ms[j]? = some H.m ∧ H.m ≠ .ro ∧ vs[j]? = some v' ∧ (cellsV v')[H.k]? = some (.ref g H.p) ∧ H.n = 1000 + (i + 1 + j) := by
      constructor
      · rintro ⟨j, v', g, h1, h2, h3, h4, h5⟩
        cases j with
        | zero =>
          simp only [List.getElem?_cons_zero, Option.some.injEq] at h1 h3
          subst h3
          exact .inl ⟨h1, h2, g, h4, by simpa using h5⟩
        | succ j => exact .inr ⟨j, v', g, by simpa using h1, h2, by simpa using h3, h4, by omega⟩
      · rintro (⟨h1, h2, g, h4, h5⟩ | ⟨j, v', g, h1, h2, h3, h4, h5⟩)
        · exact ⟨0, v, g, by simp [h1], h2, by simp, h4, by simpa using h5⟩
        · exact ⟨j + 1, v', g, by simpa using h1, h2, by simpa using h3, h4, by omega⟩
    rw [hsplit, ← ih]
    have hcell : ∀ m', H ∈ cellH m' (1000 + i) 0 (cellsV v) ↔ ∃ g, (cellsV v)[H.k]? = some (.ref g H.p) ∧ H.n = 1000 + i ∧ H.m = m' := fun m' => by
      rw [mem_cellH]
      constructor
      · rintro ⟨j, g, h1, h2, h3, h4⟩
        rw [Nat.zero_add] at h2
        exact ⟨g, by rw [h2]; exact h1, h3, h4⟩
      · rintro ⟨g, h1, h3, h4⟩
        exact ⟨H.k, g, h1, by omega, h3, h4⟩
    cases m with
    | ro =>
      simp only [rwH]
      constructor
      · exact .inr
      · rintro (⟨h1, h2, _⟩ | h)
        · exact absurd h1.symm h2
        · exact h
    | kept =>
      simp only [rwH, List.mem_append, hcell]
      constructor
      · rintro (⟨g, h1, h2, h3⟩ | h)
        · exact .inl ⟨h3.symm, by rw [h3]; simp, g, h1, h2⟩
        · exact .inr h
      · rintro (⟨h1, h2, g, h3, h4⟩ | h)
        · exact .inl ⟨g, h3, h4, h1.symm⟩
        · exact .inr h
    | gone =>
      simp only [rwH, List.mem_append, hcell]
      constructor
      · rintro (⟨g, h1, h2, h3⟩ | h)
        · exact .inl ⟨h3.symm, by rw [h3]; simp, g, h1, h2⟩
        · exact .inr h
      · rintro (⟨h1, h2, g, h3, h4⟩ | h)
        · exact .inl ⟨g, h3, h4, h1.symm⟩
        · exact .inr h
theorem find_enterR {γ : Type} {n : Nat} {cs : List (C γ)} : ∀ {ms : List Mode} {vs : List (V γ)} {i : Nat}, find n (enterR i ms vs) = some cs → ∃ j m v, ms[j]? = some m ∧ m ≠ .ro ∧ vs[j]? = some v ∧ n = 1000 + (i + j) ∧ cs = cellsV v
  | [], vs, i, h => by simp [enterR, find] at h
  | m :: ms, [], i, h => by cases m <;> simp [enterR, find] at h
  | m :: ms, v :: vs, i, h => by
    have hrec : find n (enterR (i + 1) ms vs) = some cs → ∃ j m' v', (m :: ms)[j]? = some m' ∧ m' ≠ .ro ∧ (v :: vs)[j]? = some v' ∧ n = 1000 + (i + j) ∧ cs = cellsV v' := by
      intro h
      obtain ⟨j, m', v', h1, h2, h3, h4, h5⟩ := find_enterR h
      exact ⟨j + 1, m', v', by simpa using h1, h2, by simpa using h3, by omega, h5⟩
    have hhead : ∀ m', m = m' → m' ≠ .ro → find n ((1000 + i, cellsV v) :: enterR (i + 1) ms vs) = some cs → ∃ j m' v', (m :: ms)[j]? = some m' ∧ m' ≠ .ro ∧ (v :: vs)[j]? = some v' ∧ n = 1000 + (i + j) ∧ cs = cellsV v' := by
      rintro m' rfl hm h
      simp only [find] at h
      split at h
      · rename_i hn
        simp only [Option.some.injEq] at h
        exact ⟨0, m, v, rfl, hm, rfl, by simpa using hn, h.symm⟩
      · exact hrec h
    cases m with
    | ro => exact hrec h
    | kept => exact hhead .kept rfl (by simp) h
    | gone => exact hhead .gone rfl (by simp) h
end
end Go.Mach

/- Calls: what goes in lies as it should. -/
namespace Go.Mach
set_option linter.unusedVariables false
set_option linter.unusedSimpArgs false
section
variable {P : Program} {hd hd' : Nat → Nat → Option (Value × K × TypeId)} {w0 w w' : World} {O O' N N' M : Nat → Prop} {Γ Γ' Γ0 Γ1 : St Value} {a a' : Act} {rt rt' : Rt} {Q : Exit → Act → World → Prop}
theorem pw_mem {α : Type} {S : α → α → Prop} (hs : ∀ x y, S x y → S y x) : ∀ {l : List α}, l.Pairwise S → ∀ x ∈ l, ∀ y ∈ l, x = y ∨ S x y
  | [], _, x, hx => by cases hx
  | z :: l, h, x, hx => by
    intro y hy
    have h' := List.pairwise_cons.1 h
    rcases List.mem_cons.1 hx with hx1 | hx1 <;> rcases List.mem_cons.1 hy with hy1 | hy1
    · exact .inl (hx1.trans hy1.symm)
    · exact .inr (hx1 ▸ h'.1 y hy1)
    · exact .inr (hs _ _ (hy1 ▸ h'.1 x hx1))
    · exact pw_mem hs h'.2 x hx1 y hy1
theorem Sep.symm {p q : Path} (h : Sep p q) : Sep q p := ⟨h.2, h.1⟩
theorem apart1_ok {p : Path} : ∀ {hs : List Home}, apart1 p hs = true → ∀ q ∈ hs, Sep p q.p
  | [], _, q, hq => by cases hq
  | x :: r, h, q, hq => by
    simp only [apart1] at h
    split at h
    · cases h
    · rename_i h1
      split at h
      · cases h
      · rename_i h2
        rcases List.mem_cons.1 hq with rfl | hq
        · exact ⟨under_false (by simpa using h2), under_false (by simpa using h1)⟩
        · exact apart1_ok h q hq
theorem apartL_ok : ∀ {hs : List Home}, apartL hs = true → hs.Pairwise (fun H H' => Sep H.p H'.p)
  | [], _ => List.Pairwise.nil
  | x :: r, h => by
    simp only [apartL] at h
    split at h
    · rename_i h1
      exact List.pairwise_cons.2 ⟨apart1_ok h1, apartL_ok h⟩
    · cases h
theorem apartR_ok {ps : List Home} : ∀ {hs : List Home}, apartR ps hs = true → ∀ H ∈ hs, ∀ H' ∈ ps, Sep H.p H'.p
  | [], _, H, hH => by cases hH
  | x :: r, h, H, hH => by
    simp only [apartR] at h
    split at h
    · rename_i h1
      rcases List.mem_cons.1 hH with rfl | hH
      · exact apart1_ok h1
      · exact apartR_ok h H hH
    · cases h
theorem cellH_er {m : Mode} {n : Nat} : ∀ {k : Nat} {cs : List (C Value)}, cellH m n k (cs.map C.er) = cellH m n k cs
  | k, [] => rfl
  | k, c :: r => by
    cases c <;> simp [cellH, er_int, er_bool, er_str, er_fn, er_nil, er_own, er_und, er_ro, er_rp, er_ref, er_ptr, er_sub, er_top, cellH_er (cs := r)]
theorem rwH_er : ∀ {i : Nat} {ms : List Mode} {vs : List (V Value)}, rwH i ms (vs.map V.er) = rwH i ms vs
  | i, [], vs => by simp [rwH]
  | i, m :: ms, [] => by cases m <;> simp [rwH]
  | i, m :: ms, v :: vs => by cases m <;> simp [rwH, cellsV_er, cellH_er, rwH_er (vs := vs)]
theorem cellR_er : ∀ {cs : List (C Value)}, cellR (cs.map C.er) = cellR cs
  | [] => rfl
  | c :: r => by
    cases c <;> simp [cellR, er_int, er_bool, er_str, er_fn, er_nil, er_own, er_und, er_ro, er_rp, er_ref, er_ptr, er_sub, er_top, cellR_er (cs := r)]
theorem mem_cellR {γ : Type} {p : Path} : ∀ {cs : List (C γ)} {c : C γ}, c ∈ cs → ((∃ g, c = .ref g p) ∨ ∃ g a n, c = .sub g p a n) → ∃ H ∈ cellR cs, H.p = p
  | [], c, h, _ => by cases h
  | d :: r, c, h, hc => by
    rcases List.mem_cons.1 h with rfl | h
    · rcases hc with ⟨g, rfl⟩ | ⟨g, a, n, rfl⟩
      · exact ⟨_, List.mem_cons_self .., rfl⟩
      · exact ⟨_, List.mem_cons_self .., rfl⟩
    · obtain ⟨H, hH, hp⟩ := mem_cellR h hc
      refine ⟨H, ?_, hp⟩
      cases d <;> simp [cellR, hH]
theorem roH_er : ∀ {ms : List Mode} {vs : List (V Value)}, roH ms (vs.map V.er) = roH ms vs
  | [], vs => by simp [roH]
  | m :: ms, [] => by cases m <;> simp [roH]
  | m :: ms, v :: vs => by cases m <;> simp [roH, cellsV_er, cellR_er, roH_er (vs := vs)]
theorem mem_roH {γ : Type} {p : Path} : ∀ {ms : List Mode} {vs : List (V γ)} {j : Nat} {v : V γ} {c : C γ}, ms[j]? = some Mode.ro → vs[j]? = some v → c ∈ cellsV v → ((∃ g, c = .ref g p) ∨ ∃ g a n, c = .sub g p a n) → ∃ H ∈ roH ms vs, H.p = p
  | [], vs, j, v, c, h1, _, _, _ => by simp at h1
  | m :: ms, [], j, v, c, _, h2, _, _ => by simp at h2
  | m :: ms, u :: vs, 0, v, c, h1, h2, h3, h4 => by
    simp only [List.getElem?_cons_zero, Option.some.injEq] at h1 h2
    subst h1; subst h2
    obtain ⟨H, hH, hp⟩ := mem_cellR h3 h4
    refine ⟨H, ?_, hp⟩
    simp only [roH, List.mem_append]
    exact .inl hH
  | m :: ms, u :: vs, j + 1, v, c, h1, h2, h3, h4 => by
    obtain ⟨H, hH, hp⟩ := mem_roH (ms := ms) (vs := vs) (j := j) (by simpa using h1) (by simpa using h2) h3 h4
    refine ⟨H, ?_, hp⟩
    cases m with
    | ro => simp only [roH, List.mem_append]; exact .inr hH
    | kept => exact hH
    | gone => exact hH
theorem rwH_key {ms : List Mode} {Us : List (V Value)} {H H' : Home} (h : H ∈ rwH 0 ms Us) (h' : H' ∈ rwH 0 ms Us) (hn : H.n = H'.n) (hk : H.k = H'.k) : H = H' := by
  obtain ⟨j, v, g, a1, a2, a3, a4, a5⟩ := mem_rwH.1 h
  obtain ⟨j', v', g', b1, b2, b3, b4, b5⟩ := mem_rwH.1 h'
  have : j = j' := by omega
  subst this
  rw [a1] at b1; rw [a3] at b3
  simp only [Option.some.injEq] at b1 b3
  subst b3
  rw [← hk, a4] at b4
  simp only [Option.some.injEq, C.ref.injEq] at b4
  cases H; cases H'
  simp only at *
  simp [b4.2, hn, hk, b1]
theorem deep_plain (H : Hp P hd N w rt) {q : Path} {h k e} {xs : List (List (C Value))} (hq : getP rt q = some (.own h k e xs)) (hs : k = .pt → ∀ el ∈ xs, ∀ c ∈ el, plain c = true) {r : Steps} (hr : r ≠ []) {d : C Value} (hG : G rt (q.app r) = some (.oth d)) : plain d = true := by
  obtain ⟨r0, y, rfl⟩ : ∃ r0 y, r = r0 ++ [y] := ⟨r.dropLast, r.getLast hr, (List.dropLast_concat_getLast hr).symm⟩
  obtain ⟨i, j⟩ := y
  rw [← ext_app] at hG
  have hG0 := hG
  unfold G at hG
  rw [ext_app, getP_app hq, inn_app] at hG
  cases hi : inn (.own h k e xs) r0 with
  | none => rw [hi] at hG; cases hG
  | some c1 =>
    rw [hi] at hG
    simp only [Option.bind_some] at hG
    cases hh : inn c1 [(i, j)] with
    | none => rw [hh] at hG; cases hG
    | some c2 =>
      rw [hh] at hG
      obtain ⟨g1, k1, e1, xs1, el1, c3, rfl, x1, x2, x3⟩ := inn_cons hh
      have hG1 : G rt (q.app r0) = some (.own g1 k1 e1 (xs1.map (·.map conc))) := by unfold G; rw [getP_app hq, hi]; rfl
      cases k1 with
      | sl => exact H.pln _ i j _ _ _ d hG1 hG0
      | pt =>
        have := H.pts _ _ _ _ hG1
        simp only [Path.app, List.append_eq_nil_iff] at this
        obtain ⟨_, rfl⟩ := this
        simp only [inn, Option.some.injEq, C.own.injEq] at hi x3
        obtain ⟨rfl, rfl, rfl, rfl⟩ := hi
        subst x3
        have hp := hs rfl el1 (List.mem_of_getElem? x1) c3 (List.mem_of_getElem? x2)
        simp only [Option.map_some, Option.some.injEq] at hG
        cases c3 <;> first | (simp [sh] at hG; done) | (simp [sh] at hG; subst hG; exact hp)
theorem OkC_N {c : C Value} (h : OkC P w N rt c) (hp : plain c = true) (hn : ∀ b, N b → N' b) : OkC P w N' rt' c := by
  cases c <;> first | exact h | (cases hp; done) | exact RoOk.fr (Fr.refl w (fun _ => False)) (fun _ _ => id) (fun b hb _ => hn b hb) h
/-- where what goes in lies -/
theorem enter_G (R : Rel P hd w0 O N Γ a w) {ms : List Mode} {Us : List (V Value)} (hU : ∀ U ∈ Us, ∀ c ∈ cellsV U, OkC P w N Γ.rt c) (hlen : Us.length = ms.length)
    (hA : ∀ (i : Nat) (m : Mode) (U : V Value), ms[i]? = some m → Us[i]? = some U → (argsG Γ.rt ms Us)[i]? = some (mapV (argG Γ.rt m) U) ∧ (∀ c ∈ cellsV U, Goes Γ.rt m c (argG Γ.rt m c)))
    {p : Path} {s : Sh} (hG : G (enterR 0 ms (argsG Γ.rt ms Us)) p = some s) :
    (∃ H ∈ rwH 0 ms Us, p.n = H.n ∧ p.k = H.k ∧ G Γ.rt (H.p.app p.s) = some s ∧ (∀ d, s = .oth d → plain d = true ∧ p.s ≠ [])) ∨ (∃ c, s = .oth c ∧ p.s = [] ∧ plain c = true ∧ OkC P w N [] c) := by
  unfold G at hG
  rw [getP_inn] at hG
  obtain ⟨c, hc, rfl⟩ := Option.map_eq_some_iff.1 hG
  obtain ⟨cs, h1, hc⟩ := Option.bind_eq_some_iff.1 hc
  obtain ⟨d, h2, h3⟩ := Option.bind_eq_some_iff.1 hc
  obtain ⟨j, m, v, j1, j2, j3, j4, rfl⟩ := find_enterR h1
  have hjl : j < Us.length := by rw [hlen]; exact (List.getElem?_eq_some_iff.1 j1).1
  have hUj : Us[j]? = some Us[j] := by simp [hjl]
  obtain ⟨g1, g2⟩ := hA j m _ j1 hUj
  rw [g1] at j3
  simp only [Option.some.injEq] at j3
  subst j3
  rw [cellsV_map, List.getElem?_map] at h2
  obtain ⟨c0, hc0, rfl⟩ := Option.map_eq_some_iff.1 h2
  have hgo := g2 c0 (List.mem_of_getElem? hc0)
  have hok := hU Us[j] (List.getElem_mem hjl) c0 (List.mem_of_getElem? hc0)
  generalize hd' : argG Γ.rt m c0 = d at *
  cases hgo with
  | same _ hp =>
    have hno : ∀ h k e xs, c0 ≠ .own h k e xs := by rintro h k e xs rfl; exact hok.elim
    cases hs : p.s with
    | nil =>
      rw [hs] at h3
      simp only [inn, Option.some.injEq] at h3
      subst h3
      exact .inr ⟨c0, sh_oth hno, rfl, hp, OkC_plain hok hp⟩
    | cons x r => rw [hs, inn_noOwn hno] at h3; cases h3
  | snap h q e xs hm hq => exact absurd hm j2
  | snapS h q a' n' g e xs hm hq hle => exact absurd hm j2
  | own h q k e xs hm hq hs =>
    have hGq : G Γ.rt (q.app p.s) = some (sh c) := by unfold G; rw [getP_app hq, h3]; rfl
    refine .inl ⟨⟨q, p.n, p.k, m⟩, mem_rwH.2 ⟨j, Us[j], h, j1, hm, hUj, hc0, j4⟩, rfl, rfl, hGq, fun d hd2 => ?_⟩
    have hpn : p.s ≠ [] := by
      intro h0
      rw [h0] at h3
      simp only [inn, Option.some.injEq] at h3
      subst h3
      cases hd2
    rw [hd2] at hGq
    exact ⟨deep_plain R.hp hq hs hpn hGq, hpn⟩
/-- a row, looked at only -/
theorem sub_ok {g : Value} {e : TypeId} {xs : List (List (C Value))} {vs : List (List Value)} {b o cap a' n' : Nat} (hR : RoOk P w N' (.ro g e xs)) (hB : BlkOk P w g e vs .sl) (hb : blk g = some b) (hle : a' + n' ≤ xs.length) (hcap : n' ≤ cap) (ho : 0 < n' → o = a' * P.cellsOf e) :
    RoOk P w N' (.ro (.slice (some ⟨b, o, none⟩) n' cap) e ((xs.take (a' + n')).drop a')) := by
  have hA : ∃ l c, g = .slice (some ⟨b, 0, none⟩) l c := by
    rcases hB.1.2 with ⟨rfl, _⟩ | ⟨g', cap', cur, rfl, _⟩
    · cases hb
    · simp only [blk, Option.some.injEq] at hb
      subst hb
      exact ⟨_, _, rfl⟩
  obtain ⟨l, c, rfl⟩ := hA
  cases hR with
  | ro _ _ _ A c' hh hc hA hl hr hx =>
    simp only [Value.slice.injEq] at hh
    obtain ⟨rfl, rfl, rfl⟩ := hh
    have hlen : ((xs.take (a' + n')).drop a').length = n' := by simp; omega
    have hget : ∀ (i : Nat) (el : List (C Value)), ((xs.take (a' + n')).drop a')[i]? = some el → xs[a' + i]? = some el := fun i el hi => by
      rw [List.getElem?_drop, List.getElem?_take] at hi
      split at hi
      · exact hi
      · cases hi
    refine .ro _ _ _ (some ⟨b, o, none⟩) cap (by rw [hlen]) (by rw [hlen]; omega) (fun _ => ⟨_, rfl⟩) (fun el hm => hl el (List.mem_of_mem_take (List.mem_of_mem_drop hm))) (fun i el j z hi hj => hr _ el j z (hget i el hi) hj) (fun i el j z hi hj => ?_)
    obtain ⟨ad, h1, h2, h3⟩ := hx _ el j z (hget i el hi) hj
    have hp := (List.getElem?_eq_some_iff.1 hi).1
    rw [hlen] at hp
    simp only [Option.some.injEq] at h1
    subst h1
    refine ⟨_, rfl, ?_, h3⟩
    rw [add_pl] at h2 ⊢
    rw [ho (by omega)]
    have : a' * P.cellsOf e + (i * P.cellsOf e + j) = 0 + ((a' + i) * P.cellsOf e + j) := by rw [Nat.add_mul]; omega
    rw [this]
    exact h2
theorem snap_ok (H : Hp P hd N w rt) (hN : ∀ b, N b → N' b) : ∀ (n : Nat) {q : Path} {h e} {xs : List (List (C Value))}, SizeOf.sizeOf xs < n → getP rt q = some (.own h .sl e xs) → (∀ r h k e vs b, G rt (q.app r) = some (.own h k e vs) → blk h = some b → N' b) → RoOk P w N' (.ro h e xs)
  | 0, q, h, e, xs, hn, _, _ => by omega
  | n + 1, q, h, e, xs, hn, hq, hb => by
    have hG : G rt q = some (.own h .sl e (xs.map (·.map conc))) := by unfold G; rw [hq]; rfl
    have hB := H.own _ _ _ _ _ hG
    obtain ⟨A, c, hA, hc⟩ := hB.hdr
    rw [List.length_map] at hA hc
    refine .ro h e xs A c hA hc (fun h0 => ?_) (fun el hel => ?_) (fun i el j x hi hj => ?_) (fun i el j x hi hj => ?_)
    · have h2 := hB.1.2
      rcases h2 with ⟨_, h3⟩ | ⟨g, cap, cur, h3, _⟩
      · rw [List.length_map] at h3; omega
      · rw [hA] at h3
        simp only [Value.slice.injEq] at h3
        exact ⟨_, h3.1⟩
    · have := hB.lens (el.map conc) (List.mem_map.2 ⟨el, hel, rfl⟩)
      simpa using this
    · have hx := getP_ext hq hi hj
      have hsz : SizeOf.sizeOf x < SizeOf.sizeOf xs := by
        have h1 := List.sizeOf_lt_of_mem (List.mem_of_getElem? hi)
        have h2 := List.sizeOf_lt_of_mem (List.mem_of_getElem? hj)
        omega
      have hpl := pln_at H hG hx
      cases x with
      | own h' k' e' xs' =>
        cases k' with
        | pt =>
          have := H.pts _ _ _ _ (show G rt (q.ext i j) = some (.own h' .pt e' (xs'.map (·.map conc))) by unfold G; rw [hx]; rfl)
          simp [Path.ext] at this
        | sl =>
          have he : q.ext i j = q.app [(i, j)] := rfl
          refine .own h' e' xs' (snap_ok H hN n (q := q.ext i j) ?_ hx (fun r h k e vs b hG' hb' => ?_))
          · simp only [C.own.sizeOf_spec] at hsz
            omega
          · rw [he] at hG'
            refine hb ([(i, j)] ++ r) h k e vs b ?_ hb'
            rw [← hG']
            simp [Path.app]
      | ref => cases hpl
      | ptr => cases hpl
      | sub => cases hpl
      | rp => cases hpl
      | und => cases hpl
      | ro h' e' xs' =>
        have := (H.oth _ _ (show G rt (q.ext i j) = some (.oth (.ro h' e' xs')) by unfold G; rw [hx]; rfl)).1
        exact RoOk.fr (Fr.refl w (fun _ => False)) (fun _ _ => id) (fun b hb _ => hN b hb) this
      | top g =>
        have := (H.oth _ _ (show G rt (q.ext i j) = some (.oth (.top g)) by unfold G; rw [hx]; rfl)).1
        exact .top g this
      | int k z => exact .int k z
      | bool b => exact .bool b
      | str s => exact .str s
      | fn f => exact .fn f
      | nil => exact .nil
    · obtain ⟨g, hg, h1, _, h2, _⟩ := hB.at (i := i) (el := el.map conc) (j := j) (u := conc x) (by simp [hi]) (by simp [hj])
      obtain ⟨cap, h3, _⟩ := h1 rfl
      rw [hA] at h3
      simp only [Value.slice.injEq] at h3
      refine ⟨⟨g, 0, none⟩, h3.1, ?_, hb [] h .sl e _ g (by rw [app_nil]; exact hG) hg⟩
      rw [add_pl, Nat.zero_add]
      exact h2
def OA (rt : Rt) (ms : List Mode) (Us : List (V Value)) (g : Nat) : Prop := ∃ p h k e vs, G (enterR 0 ms (argsG rt ms Us)) p = some (.own h k e vs) ∧ blk h = some g
def NA (rt : Rt) (N : Nat → Prop) (ms : List Mode) (Us : List (V Value)) (b : Nat) : Prop := N b ∨ ∃ H ∈ roH ms Us, ∃ r h k e vs, G rt (H.p.app r) = some (.own h k e vs) ∧ blk h = some b
def hdA (rt : Rt) (ms : List Mode) (Us : List (V Value)) (n k : Nat) : Option (Value × K × TypeId) := match G (enterR 0 ms (argsG rt ms Us)) ⟨n, k, []⟩ with
  | some (.own h K e _) => some (h, K, e)
  | _ => none
theorem In.of (R : Rel P hd w0 O N Γ a w) {ms : List Mode} {Us : List (V Value)} {as : List (V Unit)} (hU : ∀ U ∈ Us, ∀ c ∈ cellsV U, OkC P w N Γ.rt c) (h : argsOf Γ.er ms (Us.map V.er) = some as)
    (ap : (rwH 0 ms Us).Pairwise (fun H H' => Sep H.p H'.p)) (apR : ∀ H ∈ roH ms Us, ∀ H' ∈ rwH 0 ms Us, Sep H.p H'.p) :
    In P (hdA Γ.rt ms Us) w (OA Γ.rt ms Us) (NA Γ.rt N ms Us) ms (argsG Γ.rt ms Us) := by
  obtain ⟨a1, a2, a3, a4, a5, a6⟩ := argsOf_ok hU h
  have E : ∀ {p : Path} {s : Sh}, G (enterR 0 ms (argsG Γ.rt ms Us)) p = some s → _ := fun hG => enter_G R hU a3 a5 hG
  have Eown : ∀ {p : Path} {h k e vs}, G (enterR 0 ms (argsG Γ.rt ms Us)) p = some (.own h k e vs) → ∃ H ∈ rwH 0 ms Us, p.n = H.n ∧ p.k = H.k ∧ G Γ.rt (H.p.app p.s) = some (.own h k e vs) := by
    intro p h k e vs hG
    rcases E hG with ⟨H, e1, e2, e3, e4, _⟩ | ⟨c, hc, _⟩
    · exact ⟨H, e1, e2, e3, e4⟩
    · cases hc
  have hNN : ∀ b, N b → NA Γ.rt N ms Us b := fun b hb => .inl hb
  refine ⟨a4, a6, ⟨?_, ?_, ?_, ?_, ?_, ?_⟩, ?_, ?_, fun p h k e vs g hG hb => ⟨p, h, k, e, vs, hG, hb⟩⟩
  · intro p h k e vs hG
    obtain ⟨H, _, _, _, h4⟩ := Eown hG
    exact R.hp.own _ _ _ _ _ h4
  · intro p c hG
    rcases E hG with ⟨H, _, _, _, h4, h5⟩ | ⟨c', hc, _, hp, hok⟩
    · obtain ⟨hp, _⟩ := h5 c rfl
      exact ⟨OkC_N (R.hp.oth _ _ h4).1 hp hNN, plain_und hp⟩
    · simp only [Sh.oth.injEq] at hc
      subst hc
      exact ⟨OkC_N hok hp hNN, plain_und hp⟩
  · intro p i j h e vs c hG hc
    rcases E hc with ⟨H, _, _, _, h4, h5⟩ | ⟨c', hc', hs, _⟩
    · exact (h5 c rfl).1
    · simp [Path.ext] at hs
  · intro p h e vs hG
    obtain ⟨H, _, _, _, h4⟩ := Eown hG
    have := R.hp.pts _ _ _ _ h4
    simp only [Path.app, List.append_eq_nil_iff] at this
    exact this.2
  · intro p q h k e vs h' k' e' vs' g g1 g2 b1 b2
    obtain ⟨H, hH, n1, k1, h4⟩ := Eown g1
    obtain ⟨H', hH', n2, k2, h4'⟩ := Eown g2
    have he := R.hp.dis _ _ _ _ _ _ _ _ _ _ g h4 h4' b1 b2
    rcases pw_mem (fun _ _ h => Sep.symm h) ap H hH H' hH' with rfl | hs
    · have := app_inj he
      cases p; cases q
      simp only at n1 n2 k1 k2 this
      subst n1; subst n2; subst k1; subst k2; subst this
      rfl
    · exact absurd he (hs.under _ _)
  · intro n k h K e vs _ hG
    unfold hdA
    rw [hG]
  · intro i v hv hm c hc
    have hil : i < Us.length := by rw [a3, ← a4]; exact (List.getElem?_eq_some_iff.1 hv).1
    have hUi : Us[i]? = some Us[i] := by simp [hil]
    obtain ⟨g1, g2⟩ := a5 i _ _ hm hUi
    rw [g1] at hv
    simp only [Option.some.injEq] at hv
    subst hv
    rw [cellsV_map] at hc
    obtain ⟨c0, hc0, rfl⟩ := List.mem_map.1 hc
    have hgo := g2 c0 hc0
    have hok := hU Us[i] (List.getElem_mem hil) c0 hc0
    generalize argG Γ.rt Mode.ro c0 = d at *
    cases hgo with
    | same _ hp => exact ⟨OkC_N hok hp hNN, hp⟩
    | own _ _ _ _ _ hm' => exact absurd rfl hm'
    | snap h q e xs hm' hq =>
      obtain ⟨H, hH, rfl⟩ := mem_roH hm hUi hc0 (.inl ⟨_, rfl⟩)
      exact ⟨snap_ok R.hp hNN _ (Nat.lt_succ_self _) hq (fun r h k e vs b hG hb => .inr ⟨H, hH, r, h, k, e, vs, hG, hb⟩), rfl⟩
    | snapS h q a' n' g e xs hm' hq hle =>
      obtain ⟨H, hH, rfl⟩ := mem_roH hm hUi hc0 (.inr ⟨_, _, _, rfl⟩)
      have hfull := snap_ok R.hp hNN _ (Nat.lt_succ_self _) hq (fun r h k e vs b hG hb => .inr ⟨H, hH, r, h, k, e, vs, hG, hb⟩)
      obtain ⟨h', k', e', vs', b, o, cap, hG', hb, rfl, hcap, ho⟩ := hok
      have hG2 : G Γ.rt H.p = some (.own g .sl e (xs.map (·.map conc))) := by unfold G; rw [hq]; rfl
      rw [hG2] at hG'
      simp only [Option.some.injEq, Sh.own.injEq] at hG'
      obtain ⟨rfl, rfl, rfl, rfl⟩ := hG'
      exact ⟨sub_ok hfull (R.hp.own _ _ _ _ _ hG2) hb hle hcap ho, rfl⟩
  · intro b hb
    have hOA : OA Γ.rt ms Us b → ∃ H ∈ rwH 0 ms Us, ∃ r h k e vs, G Γ.rt (H.p.app r) = some (.own h k e vs) ∧ blk h = some b := by
      rintro ⟨p, h, k, e, vs, hG, hb⟩
      obtain ⟨H, hH, _, _, h4⟩ := Eown hG
      exact ⟨H, hH, _, h, k, e, vs, h4, hb⟩
    rcases hb with hb | ⟨H, hH, r, h, k, e, vs, hG, hb⟩
    · refine ⟨fun ho => ?_, Nat.lt_of_lt_of_le (R.nn b hb).2 R.fr.size⟩
      obtain ⟨H, _, r, h, k, e, vs, hG, hb'⟩ := hOA ho
      exact (R.inO _ _ _ _ _ b hG hb').elim (R.nn b hb).1 (fun h => absurd (R.nn b hb).2 (Nat.not_lt.2 h))
    · refine ⟨fun ho => ?_, (R.hp.own _ _ _ _ _ hG).lt hb⟩
      obtain ⟨H', hH', r', h', k', e', vs', hG', hb'⟩ := hOA ho
      exact (apR H hH H' hH').under _ _ (R.hp.dis _ _ _ _ _ _ _ _ _ _ b hG hG' hb hb')
end
end Go.Mach

/- Calls. -/
namespace Go.Mach
set_option linter.unusedVariables false
set_option linter.unusedSimpArgs false
section
variable {P : Program} {hd hd' : Nat → Nat → Option (Value × K × TypeId)} {w0 w w' : World} {O O' N N' M : Nat → Prop} {Γ Γ' Γ0 Γ1 : St Value} {a a' : Act} {rt rt' : Rt} {Q : Exit → Act → World → Prop}
theorem G_root {t : Nat} {cs : List (C Value)} {q : Path} {s : Sh} (h : G ((t, cs) :: rt) q = some s) : (q.n = t ∧ ∃ c, cs[q.k]? = some c ∧ T c q.s = some s) ∨ (q.n ≠ t ∧ G rt q = some s) := by
  rw [G_add] at h
  split at h
  · rename_i hn
    obtain ⟨c, h1, h2⟩ := Option.bind_eq_some_iff.1 h
    exact .inl ⟨hn, c, h1, h2⟩
  · rename_i hn; exact .inr ⟨hn, h⟩
theorem G_old {t : Nat} {cs : List (C Value)} (ht : find t rt = none) {q : Path} {s : Sh} (h : G rt q = some s) : G ((t, cs) :: rt) q = some s := by
  rw [G_add, if_neg ?_]
  · exact h
  · intro hn; rw [G_none ht hn] at h; cases h
structure Root (P : Program) (w : World) (N : Nat → Prop) (rt rt' : Rt) (cs : List (C Value)) : Prop where
  own : ∀ (k : Nat) (c : C Value), cs[k]? = some c → ∀ r h K e vs, T c r = some (.own h K e vs) → BlkOk P w h e vs K ∧ (K = .pt → r = []) ∧ ∀ g, blk h = some g → Apart rt g
  oth : ∀ (k : Nat) (c : C Value), cs[k]? = some c → ∀ r d, T c r = some (.oth d) → OkC P w N rt' d ∧ d ≠ .und
  pln : ∀ (k : Nat) (c : C Value), cs[k]? = some c → ∀ r i j h e vs d, T c r = some (.own h .sl e vs) → T c (r ++ [(i, j)]) = some (.oth d) → plain d = true
  dis : ∀ (k k' : Nat) (c c' : C Value), cs[k]? = some c → cs[k']? = some c' → ∀ r h K e vs r' h' K' e' vs' g, T c r = some (.own h K e vs) → T c' r' = some (.own h' K' e' vs') → blk h = some g → blk h' = some g → k = k' ∧ r = r'
theorem Hp.root (H : Hp P hd N w rt) {t : Nat} (ht : find t rt = none) (ht1 : t < 1000) {cs : List (C Value)} (A : Root P w N rt ((t, cs) :: rt) cs) : Hp P hd N w ((t, cs) :: rt) := by
  refine ⟨?_, ?_, ?_, ?_, ?_, ?_⟩
  · intro p h k e vs hG
    rcases G_root hG with ⟨_, c, h1, h2⟩ | ⟨_, h1⟩
    · exact (A.own _ c h1 _ _ _ _ _ h2).1
    · exact H.own _ _ _ _ _ h1
  · intro p d hG
    rcases G_root hG with ⟨_, c, h1, h2⟩ | ⟨_, h1⟩
    · exact A.oth _ c h1 _ d h2
    · obtain ⟨o1, o2⟩ := H.oth _ _ h1
      exact ⟨o1.mono (Fr.refl w (fun _ => False)) (fun _ _ => id) (fun q g k e vs _ hq => ⟨vs, G_old ht hq⟩), o2⟩
  · intro p i j h e vs d hG hd'
    rcases G_root hG with ⟨hn, c, h1, h2⟩ | ⟨hn, h1⟩
    · rcases G_root hd' with ⟨_, c', h3, h4⟩ | ⟨hn', _⟩
      · have h3' : cs[p.k]? = some c' := h3
        rw [h1] at h3'
        simp only [Option.some.injEq] at h3'
        subst h3'
        exact A.pln _ c h1 _ i j _ _ _ d h2 h4
      · exact absurd hn hn'
    · rcases G_root hd' with ⟨hn', _⟩ | ⟨_, h3⟩
      · exact absurd hn' hn
      · exact H.pln _ _ _ _ _ _ d h1 h3
  · intro p h e vs hG
    rcases G_root hG with ⟨_, c, h1, h2⟩ | ⟨_, h1⟩
    · exact (A.own _ c h1 _ _ _ _ _ h2).2.1 rfl
    · exact H.pts _ _ _ _ h1
  · intro p q h k e vs h' k' e' vs' g g1 g2 b1 b2
    rcases G_root g1 with ⟨n1, c, h1, h2⟩ | ⟨n1, h1⟩
    · rcases G_root g2 with ⟨n2, c', h3, h4⟩ | ⟨n2, h3⟩
      · obtain ⟨e1, e2⟩ := A.dis _ _ c c' h1 h3 _ _ _ _ _ _ _ _ _ _ g h2 h4 b1 b2
        cases p; cases q
        simp only at n1 n2 e1 e2
        subst n1; subst n2; subst e1; subst e2; rfl
      · exact absurd b2 ((A.own _ c h1 _ _ _ _ _ h2).2.2 g b1 _ _ _ _ _ h3)
    · rcases G_root g2 with ⟨n2, c', h3, h4⟩ | ⟨n2, h3⟩
      · exact absurd b1 ((A.own _ c' h3 _ _ _ _ _ h4).2.2 g b2 _ _ _ _ _ h1)
      · exact H.dis _ _ _ _ _ _ _ _ _ _ g h1 h3 b1 b2
  · intro n k h K e vs hn hG
    rcases G_root hG with ⟨n1, _⟩ | ⟨_, h1⟩
    · simp only at n1; omega
    · exact H.par n k h K e vs hn h1
theorem Rel.root (R : Rel P hd w0 O N Γ a w) {t : Nat} (ht : find t Γ.rt = none) (ht1 : t < 1000) (htn : t < Γ.nt) {cs : List (C Value)} (A : Root P w N Γ.rt ((t, cs) :: Γ.rt) cs)
    (hO : ∀ (k : Nat) (c : C Value), cs[k]? = some c → ∀ r h K e vs g, T c r = some (.own h K e vs) → blk h = some g → O g ∨ w0.heap.size ≤ g) {V : V Value} (hV : ∀ c ∈ cellsV V, OkC P w N ((t, cs) :: Γ.rt) c) :
    Rel P hd w0 O N ⟨Γ.nt, (t, V) :: Γ.tm, (t, cs) :: Γ.rt⟩ (a.put (some t) (concV V)) w := by
  have H := R.hp.root ht ht1 A
  refine ⟨H, R.nn, R.fr, ?_, by rw [defers_put]; exact R.dfr, by rw [size_put]; exact R.sz, ?_⟩
  · intro p h k e vs g hG hb
    rcases G_root hG with ⟨_, c, h1, h2⟩ | ⟨_, h1⟩
    · exact hO _ c h1 _ _ _ _ _ g h2 hb
    · exact R.inO _ _ _ _ _ g h1 hb
  · intro u v hv
    rw [tmps_put a _ _ u (fun x hx => by rw [R.sz]; exact Option.some.inj hx ▸ htn)]
    simp only [find] at hv
    split at hv
    · rename_i hu
      simp only [Option.some.injEq] at hv
      subst hv; subst hu
      rw [if_pos rfl]
      exact ⟨rfl, hV⟩
    · rename_i hu
      rw [if_neg (fun he => hu (by injection he with he; exact he.symm))]
      obtain ⟨t1, t2⟩ := R.tms u v hv
      exact ⟨t1, fun d hd' => (t2 d hd').mono (Fr.refl w (fun _ => False)) (fun _ _ => id) (fun q g k e vs _ hq => ⟨vs, G_old ht hq⟩)⟩
/-! with headers, and without -/
theorem restC_er (h : Value) (m : Mode) (c : C Value) : (restC h m c).er = restC () m c.er := by
  cases c <;> simp only [restC, er_int, er_bool, er_str, er_fn, er_nil, er_own, er_und, er_ro, er_rp, er_ref, er_ptr, er_sub, er_top]
  split <;> simp only [er_own, er_top]
def erX (x : Path × C Value) : Path × C Unit := (x.1, x.2.er)
theorem lost_er : ∀ (L : List (Path × C Value)) (q : Path), lost (L.map erX) q = lost L q
  | [], q => rfl
  | (p, c) :: L, q => by
    cases c <;> simp [lost, erX, lost_er L q, er_int, er_bool, er_str, er_fn, er_nil, er_own, er_und, er_ro, er_rp, er_ref, er_ptr, er_sub, er_top]
theorem setL_er : ∀ (L : List (Path × C Value)) (rt : Rt), erR (setL L rt) = setL (L.map erX) (erR rt)
  | [], rt => rfl
  | (p, c) :: L, rt => by
    simp only [setL, List.map_cons, erX]
    rw [setL_er L]
    congr 1
    exact modP_er _ _ (fun d => rfl) _ _
theorem outL_ok {fin : Rt} (hdr : Home → Value) : ∀ {hs : List Home} {L : List (Path × C Unit)}, outL (erR fin) hs = some L → ∃ LG : List (Path × C Value), LG.map erX = L ∧ LG.map (·.1) = hs.map (·.p) ∧
    (∀ x ∈ LG, ∃ H ∈ hs, x.1 = H.p ∧ ∃ c, getP fin ⟨H.n, H.k, []⟩ = some c ∧ x.2 = restC (hdr H) H.m c) ∧ (∀ H ∈ hs, ∃ x ∈ LG, x.1 = H.p ∧ ∃ c, getP fin ⟨H.n, H.k, []⟩ = some c ∧ x.2 = restC (hdr H) H.m c)
  | [], L, h => by simp only [outL, Option.some.injEq] at h; subst h; exact ⟨[], rfl, rfl, by simp, by simp⟩
  | H :: r, L, h => by
    simp only [outL] at h
    split at h
    · rename_i u hu
      obtain ⟨q, hq, rfl⟩ := Option.map_eq_some_iff.1 h
      obtain ⟨c, hc, rfl⟩ := getP_of hu
      obtain ⟨LG, h1, h2, h3, h4⟩ := outL_ok hdr hq
      refine ⟨(H.p, restC (hdr H) H.m c) :: LG, by simp only [List.map_cons, h1, erX, restC_er], by simp only [List.map_cons, h2], ?_, ?_⟩
      · intro x hx
        rcases List.mem_cons.1 hx with rfl | hx
        · exact ⟨H, List.mem_cons_self .., rfl, c, hc, rfl⟩
        · obtain ⟨H', hH', hr⟩ := h3 x hx
          exact ⟨H', List.mem_cons_of_mem _ hH', hr⟩
      · intro H' hH'
        rcases List.mem_cons.1 hH' with rfl | hH'
        · exact ⟨_, List.mem_cons_self .., rfl, c, hc, rfl⟩
        · obtain ⟨x, hx, hr⟩ := h4 H' hH'
          exact ⟨x, List.mem_cons_of_mem _ hx, hr⟩
    · cases h
theorem transC_er {hs : List Home} {c : C Value} {u : C Unit} (h : transC hs c.er = some u) : ∃ d, transC hs c = some d ∧ d.er = u ∧ conc d = conc c := by
  cases c with
  | ref g q =>
    simp only [er_ref, transC] at h ⊢
    split at h
    · rename_i p hp
      simp only [Option.some.injEq] at h
      subst h
      exact ⟨_, rfl, er_ref _ _, rfl⟩
    · cases h
  | ptr => simp [transC, er_ptr] at h
  | sub => simp [transC, er_sub] at h
  | rp => simp [transC, er_rp] at h
  | und => simp [transC, er_und] at h
  | own g k e xs => rw [er_own] at h; simp only [transC, Option.some.injEq] at h; subst h; exact ⟨_, rfl, er_own _ _ _ _, rfl⟩
  | ro g e xs => rw [er_ro] at h; simp only [transC, Option.some.injEq] at h; subst h; exact ⟨_, rfl, er_ro _ _ _, rfl⟩
  | _ => simp only [er_int, er_bool, er_str, er_fn, er_nil, er_top, transC, Option.some.injEq] at h; subst h; exact ⟨_, rfl, by simp [er_int, er_bool, er_str, er_fn, er_nil, er_top], rfl⟩
theorem mapO_transC {hs : List Home} : ∀ {cs : List (C Value)} {us : List (C Unit)}, mapO (transC hs) (cs.map C.er) = some us → ∃ ds, mapO (transC hs) cs = some ds ∧ ds.map C.er = us ∧ ds.map conc = cs.map conc
  | [], us, h => by simp only [List.map_nil, mapO, Option.some.injEq] at h; subst h; exact ⟨[], rfl, rfl, rfl⟩
  | c :: r, us, h => by
    simp only [List.map_cons, mapO] at h
    split at h
    · rename_i u hu
      obtain ⟨q, hq, rfl⟩ := Option.map_eq_some_iff.1 h
      obtain ⟨d, h1, h2, h3⟩ := transC_er hu
      obtain ⟨ds, i1, i2, i3⟩ := mapO_transC hq
      exact ⟨d :: ds, by simp only [mapO, h1, i1, Option.map_some], by simp [h2, i2], by simp [h3, i3]⟩
    · cases h
theorem mapO_append {α β : Type} {f : α → Option β} : ∀ {l l' : List α} {r r' : List β}, mapO f l = some r → mapO f l' = some r' → mapO f (l ++ l') = some (r ++ r')
  | [], l', r, r', h, h' => by simp only [mapO, Option.some.injEq] at h; subst h; exact h'
  | x :: l, l', r, r', h, h' => by
    simp only [mapO] at h
    split at h
    · rename_i b hb
      obtain ⟨q, hq, rfl⟩ := Option.map_eq_some_iff.1 h
      simp only [List.cons_append, mapO, hb, mapO_append hq h', Option.map_some]
    · cases h
theorem conc1_cells {b : Bool} {cs ds : List (C Value)} (h : ds.map conc = cs.map conc) : conc1 (b, ds) = conc1 (b, cs) := by
  unfold conc1
  simp only
  split
  · rw [h]
  · cases cs with
    | nil => cases ds <;> simp at h ⊢
    | cons c r =>
      cases ds with
      | nil => simp at h
      | cons d s =>
        simp only [List.map_cons, List.cons.injEq] at h
        cases r <;> cases s <;> simp at h ⊢
        exact h
theorem transV_er {hs : List Home} : ∀ {vals : List (Bool × List (C Value))} {us : List (Bool × List (C Unit))}, transV hs (erL C.er vals) = some us → ∃ vs, erL C.er vs = us ∧ vs.map conc1 = vals.map conc1 ∧ vs.length = vals.length ∧ mapO (transC hs) (vals.flatMap (·.2)) = some (vs.flatMap (·.2))
  | [], us, h => by simp only [erL, List.map_nil, transV, Option.some.injEq] at h; subst h; exact ⟨[], rfl, rfl, rfl, rfl⟩
  | (b, cs) :: r, us, h => by
    simp only [erL, List.map_cons, transV] at h
    split at h
    · rename_i ds hds
      obtain ⟨q, hq, rfl⟩ := Option.map_eq_some_iff.1 h
      obtain ⟨es, e1, e2, e3⟩ := mapO_transC hds
      obtain ⟨vs, i1, i2, i3, i4⟩ := transV_er (vals := r) hq
      refine ⟨(b, es) :: vs, ?_, ?_, by simp [i3], ?_⟩
      · simp only [erL, List.map_cons, e2] at i1 ⊢
        rw [i1]
      · simp only [List.map_cons, i2, conc1_cells e3]
      · simp only [List.flatMap_cons]
        exact mapO_append e1 i4
    · cases h
theorem concR_map {vs vals : List (Bool × List (C Value))} (h : vs.map conc1 = vals.map conc1) : concR vs = concR vals := by
  cases vals with
  | nil => cases vs <;> simp at h ⊢
  | cons x r =>
    cases vs with
    | nil => simp at h
    | cons y s =>
      cases r <;> cases s <;> simp only [List.map_cons, List.map_nil, List.cons.injEq, and_true, reduceCtorEq, and_false] at h
      · exact h
      · unfold concR
        simp only [List.map_cons, h.1, h.2.1, h.2.2]
theorem ofVals_er {vals : List (Bool × List (C Value))} {u : V Unit} (h : ofVals (erL C.er vals) = some u) : ∃ V : V Value, V.er = u ∧ concV V = concR vals ∧ cellsV V = vals.flatMap (·.2) := by
  cases vals with
  | nil =>
    simp only [erL, List.map_nil, ofVals, Option.some.injEq] at h
    subst h
    exact ⟨.tup [], rfl, rfl, rfl⟩
  | cons x r =>
    obtain ⟨b, cs⟩ := x
    cases r with
    | nil =>
      cases b with
      | true =>
        simp only [erL, List.map_cons, List.map_nil, ofVals, Option.some.injEq] at h
        subst h
        exact ⟨.agg cs, rfl, rfl, by simp [cellsV]⟩
      | false =>
        cases cs with
        | nil => simp [erL, ofVals] at h
        | cons c s =>
          cases s with
          | nil =>
            simp only [erL, List.map_cons, List.map_nil, ofVals, Option.some.injEq] at h
            subst h
            exact ⟨.one c, rfl, rfl, by simp [cellsV]⟩
          | cons d s => simp [erL, ofVals] at h
    | cons y r =>
      have : ofVals (erL C.er ((b, cs) :: y :: r)) = some (.tup (erL C.er ((b, cs) :: y :: r))) := by simp [erL, ofVals]
      rw [this] at h
      simp only [Option.some.injEq] at h
      subst h
      exact ⟨.tup ((b, cs) :: y :: r), rfl, rfl, rfl⟩
theorem viewO_er (t : Nat) : ∀ (k : Nat) (cs : List (C Value)), (viewO t k cs).map C.er = viewO t k (cs.map C.er)
  | k, [] => rfl
  | k, c :: r => by simp [viewO, viewC_er, viewO_er t (k + 1) r]
theorem viewO_conc (t : Nat) : ∀ (k : Nat) (cs : List (C Value)), (viewO t k cs).map conc = cs.map conc
  | k, [] => rfl
  | k, c :: r => by simp [viewO, viewC_conc, viewO_conc t (k + 1) r]
theorem viewO_get (t : Nat) : ∀ (k : Nat) (cs : List (C Value)) (d : C Value), d ∈ viewO t k cs → ∃ (i : Nat) (c : C Value), cs[i]? = some c ∧ d = viewC ⟨t, k + i, []⟩ c
  | k, [], d, h => by simp [viewO] at h
  | k, c :: r, d, h => by
    simp only [viewO, List.mem_cons] at h
    rcases h with rfl | h
    · exact ⟨0, c, rfl, rfl⟩
    · obtain ⟨i, c', h1, h2⟩ := viewO_get t (k + 1) r d h
      exact ⟨i + 1, c', by simpa using h1, by rw [h2]; congr 2; omega⟩
theorem viewO_len {γ : Type} (t : Nat) : ∀ (k : Nat) (cs : List (C γ)), (viewO t k cs).length = cs.length
  | k, [] => rfl
  | k, c :: r => by simp [viewO, viewO_len t (k + 1) r]
theorem viewO_app {γ : Type} (t : Nat) : ∀ (k : Nat) (cs ds : List (C γ)), viewO t k (cs ++ ds) = viewO t k cs ++ viewO t (k + cs.length) ds
  | k, [], ds => by simp [viewO]
  | k, c :: r, ds => by
    simp only [List.cons_append, viewO, viewO_app t (k + 1) r ds, List.length_cons]
    congr 3
    omega
theorem viewT_er (t : Nat) : ∀ (k : Nat) (vals : List (Bool × List (C Value))), erL C.er (viewT t k vals) = viewT t k (erL C.er vals)
  | k, [] => rfl
  | k, (b, cs) :: r => by
    have := viewT_er t (k + cs.length) r
    simp only [erL] at this
    simp [viewT, erL, viewO_er, this]
theorem viewT_conc (t : Nat) : ∀ (k : Nat) (vals : List (Bool × List (C Value))), (viewT t k vals).map conc1 = vals.map conc1
  | k, [] => rfl
  | k, (b, cs) :: r => by simp [viewT, conc1_cells (viewO_conc t k cs), viewT_conc t (k + cs.length) r]
theorem viewT_cells (t : Nat) : ∀ (k : Nat) (vals : List (Bool × List (C Value))), (viewT t k vals).flatMap (·.2) = viewO t k (vals.flatMap (·.2))
  | k, [] => rfl
  | k, (b, cs) :: r => by simp [viewT, viewO_app, viewT_cells t (k + cs.length) r]
theorem erL_cells (vals : List (Bool × List (C Value))) : (erL C.er vals).flatMap (·.2) = (vals.flatMap (·.2)).map C.er := by
  simp [erL, List.flatMap_map, List.map_flatMap]
theorem anyOwn_er : ∀ (cs : List (C Value)), anyOwn (cs.map C.er) = anyOwn cs
  | [] => rfl
  | c :: r => by
    have : isOwn c.er = isOwn c := by cases c <;> simp [er_int, er_bool, er_str, er_fn, er_nil, er_own, er_und, er_ro, er_rp, er_ref, er_ptr, er_sub, er_top, isOwn]
    simp [anyOwn, this, anyOwn_er r]
theorem anyOwn_false : ∀ {cs : List (C Value)}, anyOwn cs = false → ∀ c ∈ cs, ∀ h k e xs, c ≠ .own h k e xs
  | [], _, c, hc => by cases hc
  | d :: r, h, c, hc => by
    simp only [anyOwn] at h
    split at h
    · cases h
    · rename_i hd'
      rcases List.mem_cons.1 hc with rfl | hc
      · rintro h k e xs rfl; exact hd' rfl
      · exact anyOwn_false h c hc
theorem mapO_get' {α β : Type} {f : α → Option β} : ∀ {l : List α} {r : List β}, mapO f l = some r → ∀ (i : Nat) (b : β), r[i]? = some b → ∃ a, l[i]? = some a ∧ f a = some b
  | [], r, h, i, b, hb => by simp only [mapO, Option.some.injEq] at h; subst h; simp at hb
  | x :: l, r, h, i, b, hb => by
    simp only [mapO] at h
    split at h
    · rename_i y hy
      obtain ⟨q, hq, rfl⟩ := Option.map_eq_some_iff.1 h
      cases i with
      | zero => simp only [List.getElem?_cons_zero, Option.some.injEq] at hb; subst hb; exact ⟨x, rfl, hy⟩
      | succ i =>
        obtain ⟨a, h1, h2⟩ := mapO_get' hq i b (by simpa using hb)
        exact ⟨a, by simpa using h1, h2⟩
    · cases h
/-! rows that are only read do not come back -/
theorem RoFree.inn : ∀ {r : Steps} {c d : C Value}, RoFree c.er → Go.Mach.inn c r = some d → RoFree d.er
  | [], c, d, h, hi => by simp only [Go.Mach.inn, Option.some.injEq] at hi; subst hi; exact h
  | (i, j) :: r, c, d, h, hi => by
    obtain ⟨g, K, e, xs, el, c1, rfl, h1, h2, h3⟩ := inn_cons hi
    rw [er_own] at h
    cases h with
    | own _ _ _ _ hx =>
      exact RoFree.inn (hx (el.map C.er) (List.mem_map.2 ⟨el, List.mem_of_getElem? h1, rfl⟩) c1.er (List.mem_map.2 ⟨c1, List.mem_of_getElem? h2, rfl⟩)) h3
theorem OkC_free {c : C Value} (h : OkC P w N' rt c) (hp : plain c = true) (hf : RoFree c.er) : OkC P w N rt' c := by
  cases c <;> first | exact h | (cases hp; done) | (rw [er_ro] at hf; cases hf)
theorem T_some {c : C Value} {r : Steps} {d : C Value} (h : T c r = some (.oth d)) : inn c r = some d := by
  unfold T at h
  obtain ⟨x, hx, hs⟩ := Option.map_eq_some_iff.1 h
  cases x <;> simp [sh] at hs <;> subst hs <;> exact hx
end
end Go.Mach

/- A call is run. -/
namespace Go.Mach
set_option linter.unusedVariables false
set_option linter.unusedSimpArgs false
section
variable {P : Program} {hd hd' : Nat → Nat → Option (Value × K × TypeId)} {w0 w w' : World} {O O' N N' : Nat → Prop} {Γ Γ' Γ0 Γ1 : St Value} {a a' : Act} {rt rt' : Rt} {Q : Exit → Act → World → Prop}
theorem opds_ok (R : Rel P hd w0 O N Γ a w) : ∀ {xs : List Operand} {vs : List (V Unit)}, mapO (opd Γ.er) xs = some vs → ∃ Us : List (V Value), Us.map V.er = vs ∧ xs.map a.eval = Us.map concV ∧ ∀ U ∈ Us, ∀ c ∈ cellsV U, OkC P w N Γ.rt c
  | [], vs, h => by simp only [mapO, Option.some.injEq] at h; subst h; exact ⟨[], rfl, rfl, by simp⟩
  | x :: r, vs, h => by
    simp only [mapO] at h
    split at h
    · rename_i u hu
      obtain ⟨q, hq, rfl⟩ := Option.map_eq_some_iff.1 h
      obtain ⟨U, rfl, h1, h2⟩ := opd_ok R hu
      obtain ⟨Us, rfl, i1, i2⟩ := opds_ok R hq
      refine ⟨U :: Us, rfl, by simp [h1, i1], fun V hV => ?_⟩
      rcases List.mem_cons.1 hV with rfl | hV
      · exact h2
      · exact i2 V hV
    · cases h
theorem homeOf_ok {n k : Nat} {p : Path} : ∀ {hs : List Home}, homeOf n k hs = some p → ∃ H ∈ hs, H.n = n ∧ H.k = k ∧ H.p = p ∧ H.m = .kept
  | [], h => by cases h
  | x :: r, h => by
    simp only [homeOf] at h
    split at h
    · rename_i hc
      split at h
      · rename_i hm
        simp only [Option.some.injEq] at h
        exact ⟨x, List.mem_cons_self .., hc.1.symm, hc.2.symm, h, hm⟩
      · cases h
    · obtain ⟨H, h1, h2⟩ := homeOf_ok h
      exact ⟨H, List.mem_cons_of_mem _ h1, h2⟩
theorem inn_own {c d : C Value} {r : Steps} (h : inn c r = some d) (hd' : ∃ g K e xs, d = .own g K e xs) : ∃ g K e xs, c = .own g K e xs := by
  cases r with
  | nil => simp only [inn, Option.some.injEq] at h; subst h; exact hd'
  | cons x r =>
    obtain ⟨i, j⟩ := x
    obtain ⟨g, K, e, xs, _, _, rfl, _⟩ := inn_cons h
    exact ⟨g, K, e, xs, rfl⟩
theorem callE_ok {M : FuncId → List Mode} {cf : Calls0} (S : Sound P M cf) (R : Rel P hd w0 O N Γ a w) {o : Oper} (hdst : ∀ t, o.dst = some t → t < Γ.nt ∧ t < 1000) {fx : Operand} {args : Array Operand} {ats : Array TypeId} (ho : o.op = .call { callee := .value fx, args := args, argTypes := ats })
    {f : FuncId} (hf : opd Γ.er fx = some (.one (.fn f))) {vs : List (V Unit)} (hvs : mapO (opd Γ.er) args.toList = some vs) {σ' : St Unit} (h : callE M cf Γ.er o.dst f vs = some σ') : o.wp P a w (Done P hd w0 O N σ') Q := by
  obtain ⟨Us, rfl, hUe, hU⟩ := opds_ok R hvs
  obtain ⟨F, hF1, hF2, _⟩ := opd_ok R hf
  obtain ⟨d, rfl, hd1⟩ := inv_one hF1
  have hd2 : d = .fn f := by cases d <;> simp [er_int, er_bool, er_str, er_fn, er_nil, er_own, er_und, er_ro, er_rp, er_ref, er_ptr, er_sub, er_top] at hd1 ⊢; exact hd1
  subst hd2
  unfold callE at h
  rw [rwH_er, roH_er] at h
  split at h
  case isFalse => cases h
  rename_i hapL
  split at h
  case isFalse => cases h
  rename_i hapR
  split at h
  case h_2 => cases h
  rename_i as has
  split at h
  case h_2 => cases h
  rename_i r hr
  split at h
  case isFalse => cases h
  rename_i hfree
  split at h
  case h_2 => cases h
  rename_i L hL
  split at h
  case h_2 => cases h
  rename_i valsE hvals
  obtain ⟨hok, hS⟩ := S f as r hr
  have ap := apartL_ok hapL
  have apR := apartR_ok hapR
  obtain ⟨a1, a2, a3, a4, a5, a6⟩ := argsOf_ok hU has
  have hIn := In.of R hU has ap apR
  have hcall := hS (hdA Γ.rt (M f) Us) w (OA Γ.rt (M f) Us) (NA Γ.rt N (M f) Us) _ a1 hIn
  have hargs : ((argsG Γ.rt (M f) Us).map concV).toArray = args.map a.eval := by
    rw [a2, ← hUe]
    apply Array.ext'
    simp
  rw [hargs] at hcall
  have hrun : (execOp a.eval o).run P w = .ok (.enter f (args.map a.eval)) w := by
    have he : a.eval fx = .func (.func f) #[] #[] := hF2
    simp only [execOp, ho, resolve, Deferred.ofValue, he, invoke]
    have : (#[] : Array Value) ++ Array.map a.eval args ++ #[] = Array.map a.eval args := by simp
    simp only [Sem.run_bind, Sem.run_pure, Result.andThen_ok, this]
    exact okCall_run hok _ w
  unfold Oper.wp
  rw [hrun, Oper.upon_enter]
  refine hcall.mono ?_
  intro e w' hpost
  cases e with
  | panicked _ => exact hpost.elim
  | outgrown => exact hpost.elim
  | returned v =>
  obtain ⟨vals, fin, hv1, hfin, rfl, Ot⟩ := hpost
  show Done P hd w0 O N σ' (a.put o.dst (concR vals)) w'
  -- whence
  have E : ∀ {p : Path} {s : Sh}, G (enterR 0 (M f) (argsG Γ.rt (M f) Us)) p = some s → _ := fun hG => enter_G R hU a3 a5 hG
  have Eown : ∀ {p : Path} {h k e vs}, G (enterR 0 (M f) (argsG Γ.rt (M f) Us)) p = some (.own h k e vs) → ∃ H ∈ rwH 0 (M f) Us, p.n = H.n ∧ p.k = H.k ∧ G Γ.rt (H.p.app p.s) = some (.own h k e vs) := by
    intro p h k e vs hG
    rcases E hG with ⟨H, e1, e2, e3, e4, _⟩ | ⟨c, hc, _⟩
    · exact ⟨H, e1, e2, e3, e4⟩
    · cases hc
  have hOA : ∀ b, OA Γ.rt (M f) Us b → ∃ H ∈ rwH 0 (M f) Us, ∃ r h k e vs, G Γ.rt (H.p.app r) = some (.own h k e vs) ∧ blk h = some b := by
    rintro b ⟨p, h, k, e, vs, hG, hb⟩
    obtain ⟨H, hH, _, _, h4⟩ := Eown hG
    exact ⟨H, hH, _, h, k, e, vs, h4, hb⟩
  have hHn : ∀ H ∈ rwH 0 (M f) Us, 1000 ≤ H.n := fun H hH => by
    obtain ⟨j, _, _, _, _, _, _, hj⟩ := mem_rwH.1 hH
    omega
  have hHG : ∀ H ∈ rwH 0 (M f) Us, ∃ g k e vs, G Γ.rt H.p = some (.own g k e vs) := fun H hH => by
    obtain ⟨j, U, g, m1, _, m2, m3, _⟩ := mem_rwH.1 hH
    have hm := hU U (List.mem_of_getElem? m2) _ (List.mem_of_getElem? m3)
    obtain ⟨k, e, vs, hG⟩ := hm
    exact ⟨g, k, e, vs, hG⟩
  -- rows that are only read
  have hcast : ∀ {c : C Value} {rt rt' : Rt}, OkC P w' (NA Γ.rt N (M f) Us) rt c → plain c = true → (FreeR r → RoFree c.er) → OkC P w' N rt' c := by
    intro c rt rt' hc hp hfr
    rcases hfree with hemp | hfree
    · refine OkC_N hc hp (fun b hb => ?_)
      rcases hb with hb | ⟨H, hH, _⟩
      · exact hb
      · rw [List.isEmpty_iff] at hemp
        rw [hemp] at hH; cases hH
    · exact OkC_free hc hp (hfr hfree)
  have hfreeF : FreeR r → ∀ {n k : Nat} {c : C Value}, getP fin ⟨n, k, []⟩ = some c → RoFree c.er := by
    intro hfr n k c hc
    rw [getP_inn] at hc
    obtain ⟨cs, h1, hc⟩ := Option.bind_eq_some_iff.1 hc
    obtain ⟨c', h2, h3⟩ := Option.bind_eq_some_iff.1 hc
    simp only [inn, Option.some.injEq] at h3
    subst h3
    refine hfr.2 _ ?_
    rw [← hfin]
    have hmem : ∀ {l : Rt}, find n l = some cs → (n, cs) ∈ l := by
      intro l
      induction l with
      | nil => intro h; cases h
      | cons x l ih =>
        intro h
        obtain ⟨k', v⟩ := x
        simp only [find] at h
        split at h
        · rename_i hk
          simp only [Option.some.injEq] at h
          subst hk; subst h
          exact List.mem_cons_self ..
        · exact List.mem_cons_of_mem _ (ih h)
    have h1' := hmem h1
    simp only [List.mem_flatMap, erR, List.mem_map]
    exact ⟨(n, cs.map C.er), ⟨(n, cs), h1', rfl⟩, List.mem_map.2 ⟨c', List.mem_of_getElem? h2, rfl⟩⟩
  have hfreeV : FreeR r → ∀ c ∈ vals.flatMap (·.2), RoFree c.er := by
    intro hfr c hc
    refine hfr.1 _ ?_
    rw [← hv1, erL_cells]
    exact List.mem_map.2 ⟨c, hc, rfl⟩
  -- the rows that come back
  rw [← hfin] at hL
  let hdr : Home → Value := fun H => match G Γ.rt H.p with
    | some (.own h _ _ _) => h
    | _ => undef
  obtain ⟨LG, hLG, hfst, hx1, hx2⟩ := outL_ok hdr hL
  have hrto : ∀ {H : Home} {c : C Value}, H ∈ rwH 0 (M f) Us → getP fin ⟨H.n, H.k, []⟩ = some c → ∀ r, G ((0, vals.flatMap (·.2)) :: fin) ⟨H.n, H.k, r⟩ = T c r := by
    intro H c hH hc r
    rw [G_add, if_neg (by have := hHn H hH; show ¬ H.n = 0; omega)]
    have : G fin ((⟨H.n, H.k, []⟩ : Path).app r) = T c r := by unfold G T; rw [getP_app hc]
    simpa [Path.app] using this
  have hown : ∀ {H : Home} {g k e xs}, H ∈ rwH 0 (M f) Us → getP fin ⟨H.n, H.k, []⟩ = some (.own g k e xs) → ∃ vs, G Γ.rt H.p = some (.own g k e vs) := by
    intro H g k e xs hH hc
    have hG := hrto hH hc []
    have hG' : G ((0, vals.flatMap (·.2)) :: fin) ⟨H.n, H.k, []⟩ = some (.own g k e (xs.map (·.map conc))) := by rw [hG]; rfl
    have hp := Ot.hp.par _ _ _ _ _ _ (hHn H hH) hG'
    unfold hdA at hp
    split at hp
    · rename_i h' k' e' vs' hGe
      simp only [Option.some.injEq, Prod.mk.injEq] at hp
      obtain ⟨rfl, rfl, rfl⟩ := hp
      obtain ⟨H', hH', n1, k1, h4⟩ := Eown hGe
      have : H' = H := rwH_key hH' hH n1.symm k1.symm
      subst this
      rw [app_nil] at h4
      exact ⟨vs', h4⟩
    · cases hp
  have hhdr : ∀ {H : Home} {g k e vs}, G Γ.rt H.p = some (.own g k e vs) → hdr H = g := by
    intro H g k e vs hG
    simp only [hdr, hG]
  have hxx : ∀ x ∈ LG, ∃ H ∈ rwH 0 (M f) Us, x.1 = H.p ∧ ∃ c, getP fin ⟨H.n, H.k, []⟩ = some c ∧ (x.2 = .top (hdr H) ∨ (x.2 = c ∧ H.m = .kept ∧ ∃ g k e xs, c = .own g k e xs)) := by
    intro x hx
    obtain ⟨H, hH, h1, c, hc, h2⟩ := hx1 x hx
    refine ⟨H, hH, h1, c, hc, ?_⟩
    rw [h2]
    cases c with
    | own g k e xs =>
      simp only [restC]
      split
      · rename_i hm; exact .inr ⟨rfl, hm, g, k, e, xs, rfl⟩
      · exact .inl rfl
    | _ => exact .inl rfl
  have hap : LG.Pairwise (fun x y => Sep x.1 y.1) := by
    have h1 : (LG.map (·.1)).Pairwise Sep := by
      rw [hfst]
      exact List.pairwise_map.2 ap
    exact List.pairwise_map.1 h1
  have hfree0 : ∀ {c : C Value}, RoFree c.er → ∀ {r d}, T c r = some (.oth d) → RoFree d.er := fun hc _ _ hT => RoFree.inn hc (T_some hT)
  have Tr : Trees P w' N (OA Γ.rt (M f) Us) w LG := by
    refine ⟨?_, ?_, ?_⟩
    · intro x hx r h k e vs hT
      obtain ⟨H, hH, h1, c, hc, h2 | ⟨h2, _⟩⟩ := hxx x hx
      · rw [h2] at hT
        cases r <;> simp [T, inn, sh] at hT
      · rw [h2, ← hrto hH hc] at hT
        refine ⟨Ot.hp.own _ _ _ _ _ hT, fun hk => ?_, fun g hg => Ot.inO _ _ _ _ _ g hT hg⟩
        subst hk
        exact Ot.hp.pts _ _ _ _ hT
    · intro x hx r d hT
      obtain ⟨H, hH, h1, c, hc, h2 | ⟨h2, hm, g, k, e, xs, rfl⟩⟩ := hxx x hx
      · rw [h2] at hT
        cases r with
        | nil =>
          simp only [T, inn, Option.map_some, sh, Option.some.injEq, Sh.oth.injEq] at hT
          subst hT
          obtain ⟨g, k, e, vs, hG⟩ := hHG H hH
          rw [hhdr hG]
          exact ⟨(R.hp.own _ _ _ _ _ hG).one, rfl⟩
        | cons y r => simp [T, inn] at hT
      · rw [h2] at hT
        have hT' := hT
        rw [← hrto hH hc] at hT
        have hp := Ot.pln _ d hT (.inr (by have := hHn H hH; show ¬ H.n = 0; omega))
        exact ⟨hcast (Ot.hp.oth _ _ hT).1 hp (fun hfr => hfree0 (hfreeF hfr hc) hT'), hp⟩
    · intro x hx y hy r h k e vs r' h' k' e' vs' g g1 g2 b1 b2
      obtain ⟨H, hH, h1, c, hc, h2 | ⟨h2, _⟩⟩ := hxx x hx
      · rw [h2] at g1; cases r <;> simp [T, inn, sh] at g1
      obtain ⟨H', hH', h1', c', hc', h2' | ⟨h2', _⟩⟩ := hxx y hy
      · rw [h2'] at g2; cases r' <;> simp [T, inn, sh] at g2
      rw [h2, ← hrto hH hc] at g1
      rw [h2', ← hrto hH' hc'] at g2
      have he := Ot.hp.dis _ _ _ _ _ _ _ _ _ _ g g1 g2 b1 b2
      simp only [Path.mk.injEq] at he
      have := rwH_key hH hH' he.1 he.2.1
      subst this
      rw [h1, h1', he.2.2]
  obtain ⟨R', Bown, F2⟩ := R.back Ot.fr (fun b hb => by
      obtain ⟨H, hH, r, h, k, e, vs, hG, hb'⟩ := hOA b hb
      obtain ⟨x, hx, h1, _⟩ := hx2 H hH
      exact ⟨x, hx, r, h, k, e, vs, by rw [h1]; exact hG, hb'⟩) hap (fun x hx => by
      obtain ⟨H, hH, h1, c, hc, h2⟩ := hxx x hx
      obtain ⟨g, k, e, vs, hG⟩ := hHG H hH
      refine ⟨k, e, vs, ?_, fun h' k' e' xs hx2 => ?_⟩
      · rw [h1]
        rcases h2 with h2 | ⟨h2, _, g', k', e', xs', rfl⟩
        · rw [h2, hhdr hG]; exact hG
        · obtain ⟨vs', hG'⟩ := hown hH hc
          rw [h2]
          rw [hG] at hG'
          simp only [Option.some.injEq, Sh.own.injEq] at hG'
          obtain ⟨rfl, rfl, rfl, rfl⟩ := hG'
          exact hG
      · rcases h2 with h2 | ⟨h2, _, g', k2, e2, xs', rfl⟩
        · rw [h2] at hx2; cases hx2
        · rw [h2] at hx2
          simp only [C.own.injEq] at hx2
          obtain ⟨rfl, rfl, rfl, rfl⟩ := hx2
          obtain ⟨vs', hG'⟩ := hown hH hc
          rw [hG] at hG'
          simp only [Option.some.injEq, Sh.own.injEq] at hG'
          exact ⟨hG'.2.1.symm, hG'.2.2.1.symm⟩) Tr
  generalize hΓ1 : ({ Γ.kill (lost LG) with rt := setL LG (Γ.kill (lost LG)).rt } : St Value) = Γ1 at R'
  have hrt1 : Γ1.rt = setL LG (Γ.kill (lost LG)).rt := by rw [← hΓ1]
  rw [← hrt1] at Bown F2
  have her1 : Γ1.er = { Γ.er.kill (lost L) with rt := setL L (Γ.er.kill (lost L)).rt } := by
    have hlost : lost L = lost LG := by funext q; rw [← hLG]; exact lost_er LG q
    have hk := kill_er (lost LG) Γ
    rw [← hΓ1, hlost, ← hk, ← hLG]
    simp only [St.er, St.mk.injEq, true_and]
    exact setL_er LG _
  rw [← her1] at h
  have hnt : Γ1.nt = Γ.nt := by rw [← hΓ1]; rfl
  -- the answer
  rw [← hv1] at hvals
  obtain ⟨vs2, hvs1, hvs2, hvs3, hvs4⟩ := transV_er hvals
  subst hvs1
  have hcR : concR vs2 = concR vals := concR_map hvs2
  -- a cell of the answer
  have hcell : ∀ (k : Nat) (d : C Value), (vs2.flatMap (·.2))[k]? = some d → ∃ c, (vals.flatMap (·.2))[k]? = some c ∧ transC (rwH 0 (M f) Us) c = some d ∧ (∀ r, G ((0, vals.flatMap (·.2)) :: fin) ⟨0, k, r⟩ = T c r) := by
    intro k d hd'
    obtain ⟨c, hc, ht⟩ := mapO_get' hvs4 k d hd'
    refine ⟨c, hc, ht, fun r => ?_⟩
    rw [G_add, if_pos rfl]
    simp [hc]
  have hrefOk : ∀ (k : Nat) (c d : C Value), (∀ r, G ((0, vals.flatMap (·.2)) :: fin) ⟨0, k, r⟩ = T c r) → transC (rwH 0 (M f) Us) c = some d → (FreeR r → RoFree c.er) → (∀ h k e xs, c ≠ .own h k e xs) → OkC P w' N Γ1.rt d ∧ d ≠ .und ∧ (∀ h k e xs, d ≠ .own h k e xs) := by
    intro k c d hG ht hfr hno
    have hoth := Ot.hp.oth ⟨0, k, []⟩ c (by rw [hG]; unfold T; simp only [inn, Option.map_some]; rw [sh_oth hno])
    cases c with
    | ref g q =>
      simp only [transC] at ht
      split at ht
      · rename_i p hp
        simp only [Option.some.injEq] at ht
        subst ht
        obtain ⟨H, hH, n1, k1, rfl, hm⟩ := homeOf_ok hp
        refine ⟨?_, by simp, by intros; simp⟩
        obtain ⟨kk, e, vs, hGq⟩ := hoth.1
        obtain ⟨x, hx, h1, c, hc, h2⟩ := hx2 H hH
        have hqq : q = ⟨H.n, H.k, q.s⟩ := by cases q; simp only at n1 k1; subst n1; subst k1; rfl
        rw [hqq, hrto hH hc] at hGq
        have hco : ∃ g K e xs, c = .own g K e xs := by
          unfold T at hGq
          obtain ⟨y, hy, hs⟩ := Option.map_eq_some_iff.1 hGq
          refine inn_own hy ?_
          cases y <;> simp [sh] at hs
          exact ⟨_, _, _, _, rfl⟩
        obtain ⟨g2, K2, e2, xs2, rfl⟩ := hco
        have hxc : x.2 = .own g2 K2 e2 xs2 := by rw [h2, hm]; simp [restC]
        refine ⟨kk, e, vs, ?_⟩
        have := F2 x hx q.s
        rw [hxc, h1] at this
        rw [← hGq, ← this]
        rfl
      · cases ht
    | ptr => cases ht
    | sub => cases ht
    | rp => cases ht
    | und => cases ht
    | own g k e xs => exact absurd rfl (hno _ _ _ _)
    | _ =>
      simp only [transC, Option.some.injEq] at ht
      subst ht
      exact ⟨hcast hoth.1 rfl hfr, by simp, by intros; simp⟩
  have hMk : ∀ g, (OA Γ.rt (M f) Us g ∨ w.heap.size ≤ g) → O g ∨ w0.heap.size ≤ g := by
    rintro g (hg | hg)
    · obtain ⟨H, _, r, h, k, e, vs, hG, hb⟩ := hOA g hg
      exact R.inO _ _ _ _ _ g hG hb
    · exact .inr (Nat.le_trans R.fr.size hg)
  unfold answer at h
  rw [erL_cells, anyOwn_er] at h
  split at h
  · rename_i hany
    split at h
    · cases h
    · rename_i t hdt
      split at h
      · rename_i hft
        obtain ⟨u, hu, rfl⟩ := Option.map_eq_some_iff.1 h
        rw [← viewT_er] at hu
        obtain ⟨V, hV1, hV2, hV3⟩ := ofVals_er hu
        have hft' : find t Γ1.rt = none := (find_er Γ1).1 hft
        obtain ⟨d1, d2⟩ := hdst t hdt
        have hA : Root P w' N Γ1.rt ((t, vs2.flatMap (·.2)) :: Γ1.rt) (vs2.flatMap (·.2)) := by
          have hcase : ∀ (k : Nat) (d : C Value), (vs2.flatMap (·.2))[k]? = some d → ((∀ r, T d r = G ((0, vals.flatMap (·.2)) :: fin) ⟨0, k, r⟩) ∧ (FreeR r → RoFree d.er) ∧ ∃ h K e xs, d = .own h K e xs) ∨ (OkC P w' N Γ1.rt d ∧ d ≠ .und ∧ ∀ h k e xs, d ≠ .own h k e xs) := by
            intro k d hd'
            obtain ⟨c, hc, ht, hG⟩ := hcell k d hd'
            have hfr : FreeR r → RoFree c.er := fun hfr => hfreeV hfr c (List.mem_of_getElem? hc)
            cases c with
            | own g K e xs =>
              simp only [transC, Option.some.injEq] at ht
              subst ht
              exact .inl ⟨fun r => (hG r).symm, hfr, g, K, e, xs, rfl⟩
            | _ => exact .inr (hrefOk k _ d hG ht hfr (by intros; simp))
          have hnT : ∀ {d : C Value} {r : Steps} {h k e vs}, (∀ h k e xs, d ≠ .own h k e xs) → T d r = some (.own h k e vs) → False := by
            intro d r h k e vs hno hT
            rw [T_noOwn hno] at hT
            split at hT <;> simp at hT
          refine ⟨?_, ?_, ?_, ?_⟩
          · intro k d hd' r h K e vs hT
            rcases hcase k d hd' with ⟨hG, _, _⟩ | ⟨_, _, hno⟩
            · rw [hG] at hT
              refine ⟨Ot.hp.own _ _ _ _ _ hT, fun hk => ?_, fun g hg p h' k' e' vs' hp hb => ?_⟩
              · subst hk; exact Ot.hp.pts _ _ _ _ hT
              · rcases Bown p h' k' e' vs' hp with ⟨x, hx, r', rfl, hT'⟩ | ⟨h1, h2⟩
                · obtain ⟨H, hH, h1, c, hc, h2 | ⟨h2, _⟩⟩ := hxx x hx
                  · rw [h2] at hT'; cases r' <;> simp [T, inn, sh] at hT'
                  · rw [h2, ← hrto hH hc] at hT'
                    have he := Ot.hp.dis _ _ _ _ _ _ _ _ _ _ g hT hT' hg hb
                    have := congrArg Path.n he
                    simp only at this
                    have := hHn H hH
                    omega
                · rcases Ot.inO _ _ _ _ _ g hT hg with hO | hO
                  · obtain ⟨H, hH, r', h3, k3, e3, vs3, hG3, hb3⟩ := hOA g hO
                    obtain ⟨x, hx, hx1', _⟩ := hx2 H hH
                    refine h2 x hx r' ?_
                    rw [hx1']
                    exact R.hp.dis _ _ _ _ _ _ _ _ _ _ g h1 hG3 hb hb3
                  · exact absurd ((R.hp.own _ _ _ _ _ h1).lt hb) (Nat.not_lt.2 hO)
            · exact (hnT hno hT).elim
          · intro k d hd' r e hT
            rcases hcase k d hd' with ⟨hG, hfr, hoo⟩ | ⟨o1, o2, hno⟩
            · have hT' := hT
              rw [hG] at hT
              have hr : r ≠ [] := by
                rintro rfl
                obtain ⟨h, K, e', xs, rfl⟩ := hoo
                simp [T, inn, sh] at hT'
              have hp := Ot.pln _ e hT (.inl hr)
              exact ⟨hcast (Ot.hp.oth _ _ hT).1 hp (fun hf => hfree0 (hfr hf) hT'), plain_und hp⟩
            · rw [T_noOwn hno] at hT
              split at hT
              · simp only [Option.some.injEq, Sh.oth.injEq] at hT
                subst hT
                exact ⟨o1.mono (Fr.refl w' (fun _ => False)) (fun _ _ => id) (fun q g k e vs _ hq => ⟨vs, G_old hft' hq⟩), o2⟩
              · cases hT
          · intro k d hd' r i j h e vs d2 hT hT2
            rcases hcase k d hd' with ⟨hG, _, _⟩ | ⟨_, _, hno⟩
            · rw [hG] at hT2
              exact Ot.pln _ _ hT2 (.inl (by simp))
            · exact (hnT hno hT).elim
          · intro k k' d d' hd' hd'' r h K e vs r' h' K' e' vs' g hT hT' b1 b2
            rcases hcase k d hd' with ⟨hG, _, _⟩ | ⟨_, _, hno⟩
            · rcases hcase k' d' hd'' with ⟨hG', _, _⟩ | ⟨_, _, hno⟩
              · rw [hG] at hT; rw [hG'] at hT'
                have he := Ot.hp.dis _ _ _ _ _ _ _ _ _ _ g hT hT' b1 b2
                simp only [Path.mk.injEq, true_and] at he
                exact he
              · exact (hnT hno hT').elim
            · exact (hnT hno hT).elim
        have hO2 : ∀ (k : Nat) (d : C Value), (vs2.flatMap (·.2))[k]? = some d → ∀ r h K e vs g, T d r = some (.own h K e vs) → blk h = some g → O g ∨ w0.heap.size ≤ g := by
          intro k d hd' r h K e vs g hT hb
          obtain ⟨c, hc, ht, hG⟩ := hcell k d hd'
          have hcd : c = d := by
            have hdo : ∃ g K e xs, d = .own g K e xs := by
              unfold T at hT
              obtain ⟨y, hy, hs⟩ := Option.map_eq_some_iff.1 hT
              refine inn_own hy ?_
              cases y <;> simp [sh] at hs
              exact ⟨_, _, _, _, rfl⟩
            obtain ⟨g', K', e', xs', rfl⟩ := hdo
            cases c <;> simp only [transC] at ht <;> first | (cases ht; done) | (split at ht <;> cases ht; done) | (simp only [Option.some.injEq] at ht; exact ht)
          subst hcd
          rw [← hG] at hT
          exact hMk g (Ot.inO _ _ _ _ _ g hT hb)
        have hdG : ∀ c ∈ cellsV V, OkC P w' N ((t, vs2.flatMap (·.2)) :: Γ1.rt) c := by
          intro c hc
          rw [hV3, viewT_cells] at hc
          obtain ⟨i, c', hc', rfl⟩ := viewO_get t 0 _ c hc
          rw [Nat.zero_add]
          cases hc2 : c' with
          | own g K e xs =>
            subst hc2
            refine ⟨K, e, xs.map (·.map conc), ?_⟩
            rw [G_add, if_pos rfl]
            simp [hc', T, inn, sh]
          | _ =>
            have hno : ∀ h k e xs, c' ≠ .own h k e xs := by rw [hc2]; intros; simp
            have := (hA.oth i c' hc' [] c' (by rw [T_noOwn hno]; simp)).1
            rw [hc2] at this
            exact this
        refine ⟨⟨Γ1.nt, (t, V) :: Γ1.tm, (t, vs2.flatMap (·.2)) :: Γ1.rt⟩, ?_, ?_⟩
        · simp only [St.er, List.map_cons, erR, hV1, erL_cells]
        · have := R'.root hft' d2 (by rw [hnt]; exact d1) hA hO2 (V := V) hdG
          rw [hV2, concR_map (viewT_conc t 0 vs2), hcR] at this
          rw [hdt]
          exact this
      · cases h
  · rename_i hany
    obtain ⟨u, hu, rfl⟩ := Option.map_eq_some_iff.1 h
    obtain ⟨V, hV1, hV2, hV3⟩ := ofVals_er hu
    have hno := anyOwn_false (by simpa using hany)
    refine ⟨Γ1.put o.dst V, by rw [put_er, hV1], ?_⟩
    rw [← hcR, ← hV2]
    refine R'.put o.dst (fun u hu => by rw [hnt]; exact (hdst u hu).1) (fun c hc => ?_)
    rw [hV3] at hc
    obtain ⟨k, hk⟩ := List.getElem?_of_mem hc
    obtain ⟨c0, hc0, ht, hG⟩ := hcell k c hk
    refine (hrefOk k c0 c hG ht (fun hfr => hfreeV hfr c0 (List.mem_of_getElem? hc0)) ?_).1
    rintro h k e xs rfl
    simp only [transC, Option.some.injEq] at ht
    exact hno c hc _ _ _ _ ht.symm
end
end Go.Mach
