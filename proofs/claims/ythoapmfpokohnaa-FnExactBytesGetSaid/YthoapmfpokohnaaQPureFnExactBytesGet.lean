/- BytesGet and its reference agree. -/
import Derived.Test.YthoapmfpokohnaaQSFnExactBytesGet
import Derived.Test.YthoapmfpokohnaaQBytes
namespace Go.Proofs.Ythoapmfpokohnaa.QPure
open Go.RowKit Go.Proofs.YthoapmfpokohnaaW.PrintWords Go.Proofs.YthoapmfpokohnaaW.PrintLast Go.Proofs.YthoapmfpokohnaaW.PrintMore Go.Proofs.Ythoapmfpokohnaa.P Go.Proofs.Ythoapmfpokohnaa.Q
def rB (v : List By) (who : Int) : By := rd_T75 v who
def liveB (s : By) : Bool := if s.f0 = true then (if (s.f3.length : Int) = 16 then (if (s.f2.length : Int) = 16 then areasOk s.f1 else false) else false) else false
def whoB (v : List By) (who : Int) : Bool := (decide (0 ≤ who) && decide (who ≤ (v.length : Int) - 1)) && liveB (rB v who)
theorem rB_mem {v : List By} {who : Int} (h0 : 0 ≤ who) (h1 : who < (v.length : Int)) : rB v who ∈ v := by
  unfold rB rd_T75
  obtain ⟨n, rfl⟩ := Int.eq_ofNat_of_zero_le h0
  have hn : n < v.length := by omega
  simp only [Int.toNat_natCast, List.getD_eq_getElem?_getD]
  rw [List.getElem?_eq_getElem hn]
  exact List.getElem_mem hn
theorem implLive (v : List By) (who : Int) (hn : v.length ≤ 1048576) (hx : ∀ x ∈ v, x.f1.length ≤ 1048576) : Ev (fun k => impl_Views_live.f k v who) (whoB v who) := by
  unfold impl_Views_live.f whoB
  rw [wrap_id (n := (v.length : Int) - 1) (by omega) (by omega)]
  simp only [in_eq, Option.bind_some]
  by_cases h : (decide (0 ≤ who) && decide (who ≤ (v.length : Int) - 1)) = true
  · rw [h, Bool.true_and]
    have h' : 0 ≤ who ∧ who ≤ (v.length : Int) - 1 := by simpa using h
    refine Ev.pos rfl (Ev.pos (by omega) (Ev.pos (by omega) ?_))
    have hm := hx _ (rB_mem (v := v) h'.1 (by omega))
    refine Ev.bind (r := liveB (rB v who)) ?_ (Ev.now _)
    show Ev (fun k => impl_BytesOf_alive.f k (rB v who).f0 (rB v who).f1 (rB v who).f2 (rB v who).f3) _
    unfold impl_BytesOf_alive.f liveB
    by_cases a : (rB v who).f0 = true
    · rw [if_pos a]
      refine Ev.pos a ?_
      by_cases b : ((rB v who).f2.length : Int) = 16
      · refine Ev.pos b ?_
        by_cases c : ((rB v who).f3.length : Int) = 16
        · rw [if_pos c, if_pos b]
          exact Ev.pos c (Ev.bind (implOk (rB v who).f1 (by omega)) (Ev.now _))
        · rw [if_neg c]
          exact Ev.neg c (Ev.now _)
      · refine Ev.neg b (Ev.pure ?_)
        split <;> first | rfl | rw [if_neg b]
    · rw [if_neg a]
      exact Ev.neg a (Ev.now _)
  · have h' : (decide (0 ≤ who) && decide (who ≤ (v.length : Int) - 1)) = false := by simpa using h
    rw [h', Bool.false_and]
    exact Ev.neg (by simp) (Ev.now _)
theorem specLive (v : List By) (who : Int) (hn : v.length ≤ 1048576) (hx : ∀ x ∈ v, x.f1.length ≤ 1048576) : Ev (fun k => spec_l4Who.f k v who) (whoB v who) := by
  unfold spec_l4Who.f whoB
  rw [wrap_id (n := (v.length : Int) - 1) (by omega) (by omega)]
  simp only [l6In_eq, Option.bind_some]
  by_cases h : (decide (0 ≤ who) && decide (who ≤ (v.length : Int) - 1)) = true
  · rw [h, Bool.true_and]
    have h' : 0 ≤ who ∧ who ≤ (v.length : Int) - 1 := by simpa using h
    refine Ev.pos rfl (Ev.pos (by omega) (Ev.pos (by omega) ?_))
    have hm := hx _ (rB_mem (v := v) h'.1 (by omega))
    show Ev (fun k => if (rB v who).f0 = true then (if ((rB v who).f3.length : Int) = 16 then (if ((rB v who).f2.length : Int) = 16 then ((spec_AreasOk.f k (rB v who).f1).bind fun t107 => (some t107)) else (some false)) else (some false)) else (some false)) _
    unfold liveB
    by_cases a : (rB v who).f0 = true
    · rw [if_pos a]
      refine Ev.pos a ?_
      by_cases c : ((rB v who).f3.length : Int) = 16
      · rw [if_pos c]
        refine Ev.pos c ?_
        by_cases b : ((rB v who).f2.length : Int) = 16
        · rw [if_pos b]
          exact Ev.pos b (Ev.bind (specOk (rB v who).f1 (by omega)) (Ev.now _))
        · rw [if_neg b]
          exact Ev.neg b (Ev.now _)
      · rw [if_neg c]
        exact Ev.neg c (Ev.now _)
    · rw [if_neg a]
      exact Ev.neg a (Ev.now _)
  · have h' : (decide (0 ≤ who) && decide (who ≤ (v.length : Int) - 1)) = false := by simpa using h
    rw [h', Bool.false_and]
    exact Ev.neg (by simp) (Ev.now _)
def strB (s : By) (page : Int) : ByteArray := rdOf ByteArray.empty s.f3 page
def getB (v : List By) (who addr : Int) : Int × Int :=
  if whoB v who = true ∧ 0 ≤ addr ∧ addr ≤ 63 then
    (if areasAt (rB v who).f1 (Int.tdiv addr 4) < 0 then (-1, 2) else if ((strB (rB v who) (Int.tdiv addr 4)).size : Int) = 4 then (wrap64 (bt (strB (rB v who) (Int.tdiv addr 4)) (Int.tmod addr 4)), 0) else (-1, 2))
  else (-1, 1)
theorem live_facts {v : List By} {who : Int} (hw : whoB v who = true) : 0 ≤ who ∧ who < (v.length : Int) ∧ ((rB v who).f3.length : Int) = 16 ∧ areasOk (rB v who).f1 = true := by
  unfold whoB at hw
  rw [Bool.and_eq_true, Bool.and_eq_true] at hw
  obtain ⟨⟨h1, h2⟩, h3⟩ := hw
  have h1 := of_decide_eq_true h1
  have h2 := of_decide_eq_true h2
  unfold liveB at h3
  split at h3
  · split at h3
    · rename_i q
      split at h3
      · exact ⟨h1, by omega, q, h3⟩
      · cases h3
    · cases h3
  · cases h3
theorem implGet_j (v : List By) (who addr : Int) (hx : ∀ x ∈ v, x.f1.length ≤ 1048576) (hw : whoB v who = true) (h0 : 0 ≤ addr) (h1 : addr ≤ 63) :
    Ev (fun k => impl_BytesGet.j0 k who addr false v) (if areasAt (rB v who).f1 (Int.tdiv addr 4) < 0 then (-1, 2) else if ((strB (rB v who) (Int.tdiv addr 4)).size : Int) = 4 then (wrap64 (bt (strB (rB v who) (Int.tdiv addr 4)) (Int.tmod addr 4)), 0) else (-1, 2)) := by
  obtain ⟨w0, w1, w2, w3⟩ := live_facts hw
  have e4 : Int.tdiv addr 4 = addr / 4 := Int.tdiv_eq_ediv_of_nonneg h0
  have e5 : Int.tmod addr 4 = addr % 4 := Int.tmod_eq_emod_of_nonneg h0
  have hp0 : 0 ≤ Int.tdiv addr 4 := by rw [e4]; omega
  have hp1 : Int.tdiv addr 4 ≤ 15 := by rw [e4]; omega
  have hm0 : 0 ≤ Int.tmod addr 4 := by rw [e5]; omega
  have hm1 : Int.tmod addr 4 < 4 := by rw [e5]; omega
  have hm := hx _ (rB_mem w0 w1)
  have hw64 : wrap64 (Int.tdiv addr 4) = Int.tdiv addr 4 := wrap_id (by omega) (by omega)
  refine Ev.step (fun k => by simp only [impl_BytesGet.j0]; rfl) (Ev.neg (by simp) (Ev.pos w0 (Ev.pos w1 ?_)))
  rw [hw64]
  generalize Int.tdiv addr 4 = page at hp0 hp1 ⊢
  generalize Int.tmod addr 4 = off at hm0 hm1 ⊢
  show Ev (fun k => (impl_BytesOf_area.f k (rB v who).f0 (rB v who).f1 (rB v who).f2 (rB v who).f3 page).bind fun t105 => (if t105 < 0 then (some ((-1), 2)) else (if 0 ≤ page then (if page < ((rB v who).f3.length : Int) then (if ((strB (rB v who) page).size : Int) = 4 then (if 0 ≤ off then (if off < ((strB (rB v who) page).size : Int) then (some (wrap64 (bt (strB (rB v who) page) off), 0)) else (none)) else (none)) else (some ((-1), 2))) else (none)) else (none)))) _
  have w15 : wrap64 (16 - 1) = 15 := (wrap_id (n := 16 - 1) (by omega) (by omega)).trans rfl
  by_cases hs : ((strB (rB v who) page).size : Int) = 4
  · have harea : Ev (fun k => impl_BytesOf_area.f k (rB v who).f0 (rB v who).f1 (rB v who).f2 (rB v who).f3 page) (areasAt (rB v who).f1 page) := by
      unfold impl_BytesOf_area.f
      rw [w2, w15]
      simp only [in_eq, Option.bind_some]
      exact Ev.pos (by simp; omega) (Ev.pos hp0 (Ev.pos (by omega) (Ev.pos hs (Ev.bind (implAt (rB v who).f1 (by omega) page) (Ev.now _)))))
    by_cases ht : areasAt (rB v who).f1 page < 0
    · exact Ev.cast (Ev.bind harea (Ev.pos ht (Ev.now _))) (by rw [if_pos ht])
    · exact Ev.cast (Ev.bind harea (Ev.neg ht (Ev.pos hp0 (Ev.pos (by omega) (Ev.pos hs (Ev.pos hm0 (Ev.pos (by omega) (Ev.now _)))))))) (by rw [if_neg ht, if_pos hs])
  · have harea : Ev (fun k => impl_BytesOf_area.f k (rB v who).f0 (rB v who).f1 (rB v who).f2 (rB v who).f3 page) (-1) := by
      unfold impl_BytesOf_area.f
      rw [w2, w15]
      simp only [in_eq, Option.bind_some]
      exact Ev.pos (by simp; omega) (Ev.pos hp0 (Ev.pos (by omega) (Ev.neg hs (Ev.now _))))
    exact Ev.cast (Ev.bind harea (Ev.pos (by decide) (Ev.now _))) (by rw [if_neg hs, ite_self])
theorem specGet_j (v : List By) (who addr : Int) (hx : ∀ x ∈ v, x.f1.length ≤ 1048576) (hw : whoB v who = true) (h0 : 0 ≤ addr) (h1 : addr ≤ 63) :
    Ev (fun k => spec_BytesGet.j0 k who addr false v) (if areasAt (rB v who).f1 (Int.tdiv addr 4) < 0 then (-1, 2) else if ((strB (rB v who) (Int.tdiv addr 4)).size : Int) = 4 then (wrap64 (bt (strB (rB v who) (Int.tdiv addr 4)) (Int.tmod addr 4)), 0) else (-1, 2)) := by
  obtain ⟨w0, w1, w2, w3⟩ := live_facts hw
  have e4 : Int.tdiv addr 4 = addr / 4 := Int.tdiv_eq_ediv_of_nonneg h0
  have e5 : Int.tmod addr 4 = addr % 4 := Int.tmod_eq_emod_of_nonneg h0
  have hp0 : 0 ≤ Int.tdiv addr 4 := by rw [e4]; omega
  have hp1 : Int.tdiv addr 4 ≤ 15 := by rw [e4]; omega
  have hm0 : 0 ≤ Int.tmod addr 4 := by rw [e5]; omega
  have hm1 : Int.tmod addr 4 < 4 := by rw [e5]; omega
  have hm := hx _ (rB_mem w0 w1)
  have hw64 : wrap64 (Int.tdiv addr 4) = Int.tdiv addr 4 := wrap_id (by omega) (by omega)
  refine Ev.step (fun k => by simp only [spec_BytesGet.j0]; rfl) (Ev.neg (by simp) (Ev.pos w0 (Ev.pos w1 ?_)))
  rw [hw64]
  generalize Int.tdiv addr 4 = page at hp0 hp1 ⊢
  generalize Int.tmod addr 4 = off at hm0 hm1 ⊢
  show Ev (fun k => (spec_l2At.f k (rB v who).f1 page).bind fun t106 => (if t106 < 0 then (some ((-1), 2)) else (if 0 ≤ page then (if page < ((rB v who).f3.length : Int) then (if ((strB (rB v who) page).size : Int) = 4 then (if 0 ≤ off then (if off < ((strB (rB v who) page).size : Int) then (some (wrap64 (bt (strB (rB v who) page) off), 0)) else (none)) else (none)) else (some ((-1), 2))) else (none)) else (none)))) _
  have hat : Ev (fun k => spec_l2At.f k (rB v who).f1 page) (areasAt (rB v who).f1 page) := by
    unfold spec_l2At.f areasAt
    rw [if_pos w3]
    exact specL2At_l page (rB v who).f1 [] (by simp; omega) (fun a ha => (vldA_mem ((areasOk_iff _).1 w3).1 a ha).1)
  by_cases ht : areasAt (rB v who).f1 page < 0
  · exact Ev.cast (Ev.bind hat (Ev.pos ht (Ev.now _))) (by rw [if_pos ht])
  · by_cases hs : ((strB (rB v who) page).size : Int) = 4
    · exact Ev.cast (Ev.bind hat (Ev.neg ht (Ev.pos hp0 (Ev.pos (by omega) (Ev.pos hs (Ev.pos hm0 (Ev.pos (by omega) (Ev.now _)))))))) (by rw [if_neg ht, if_pos hs])
    · exact Ev.cast (Ev.bind hat (Ev.neg ht (Ev.pos hp0 (Ev.pos (by omega) (Ev.neg hs (Ev.now _)))))) (by rw [if_neg ht, if_neg hs])
theorem not_in {addr : Int} (ha : ¬ (0 ≤ addr ∧ addr ≤ 63)) : (!(decide (0 ≤ addr) && decide (addr ≤ 63))) = true := by
  by_cases h : 0 ≤ addr
  · have h' : ¬ addr ≤ 63 := fun q => ha ⟨h, q⟩
    simp [h']
  · simp [h]
theorem implGet (v : List By) (who addr : Int) (hn : v.length ≤ 1048576) (hx : ∀ x ∈ v, x.f1.length ≤ 1048576) : Ev (fun k => impl_BytesGet.f k v who addr) (getB v who addr) := by
  unfold impl_BytesGet.f getB
  refine Ev.bind (implLive v who hn hx) ?_
  by_cases hw : whoB v who = true
  · refine Ev.pos hw ?_
    simp only [in_eq, Option.bind_some]
    by_cases ha : 0 ≤ addr ∧ addr ≤ 63
    · rw [if_pos ⟨hw, ha⟩]
      have e : (!(decide (0 ≤ addr) && decide (addr ≤ 63))) = false := by simp [ha.1, ha.2]
      rw [e]
      exact implGet_j v who addr hx hw ha.1 ha.2
    · rw [if_neg (fun q => ha q.2), not_in ha]
      exact Ev.step (fun k => by simp only [impl_BytesGet.j0]; rfl) (Ev.pos (by simp) (Ev.now _))
  · rw [if_neg (fun q => hw q.1)]
    exact Ev.neg hw (Ev.step (fun k => by simp only [impl_BytesGet.j0]; rfl) (Ev.pos (by simp) (Ev.now _)))
theorem specGet (v : List By) (who addr : Int) (hn : v.length ≤ 1048576) (hx : ∀ x ∈ v, x.f1.length ≤ 1048576) : Ev (fun k => spec_BytesGet.f k v who addr) (getB v who addr) := by
  unfold spec_BytesGet.f getB
  refine Ev.bind (specLive v who hn hx) ?_
  by_cases hw : whoB v who = true
  · refine Ev.pos hw ?_
    simp only [spec_l3Addr.f, l6In_eq, Option.bind_some]
    by_cases ha : 0 ≤ addr ∧ addr ≤ 63
    · rw [if_pos ⟨hw, ha⟩]
      have e : (!(decide (0 ≤ addr) && decide (addr ≤ 63))) = false := by simp [ha.1, ha.2]
      rw [e]
      exact specGet_j v who addr hx hw ha.1 ha.2
    · rw [if_neg (fun q => ha q.2), not_in ha]
      exact Ev.step (fun k => by simp only [spec_BytesGet.j0]; rfl) (Ev.pos (by simp) (Ev.now _))
  · rw [if_neg (fun q => hw q.1)]
    exact Ev.neg hw (Ev.step (fun k => by simp only [spec_BytesGet.j0]; rfl) (Ev.pos (by simp) (Ev.now _)))
theorem FnExactBytesGet : laws_FnExactBytesGet.Pure := by
  intro l who addr hl _ _
  refine Ev.rounds (r := true) ?_
  unfold laws_FnExactBytesGet.f
  obtain ⟨r, hr, hb⟩ := szViews_ev l hl.1 (fun x m => ⟨(hl.2.2 x m).2.1.1, (hl.2.2 x m).2.2.1.1, (hl.2.2 x m).2.2.2.1, fun s q => (hl.2.2 x m).2.2.2.2.2 s q⟩)
  refine Ev.bind hr ?_
  by_cases hs : r < 0
  · exact Ev.pos hs (Ev.pure rfl)
  refine Ev.neg hs ?_
  obtain ⟨b1, b2⟩ := hb hs
  have ht := toViews_ev l b1 b2
  have b3 : (l.map toBy).length ≤ 1048576 := by simp; omega
  have b4 : ∀ x ∈ l.map toBy, x.f1.length ≤ 1048576 ∧ x.f2.length ≤ 1048576 ∧ x.f3.length ≤ 1048576 := fun x m => by
    obtain ⟨y, hy, rfl⟩ := List.mem_map.1 m
    have := b2 y hy
    simp only [toBy, List.length_map]
    exact this
  refine Ev.bind ht (Ev.bind (specGet (l.map toBy) who addr b3 (fun x m => (b4 x m).1)) (Ev.bind ht (Ev.bind (implGet (l.map toBy) who addr b3 (fun x m => (b4 x m).1)) (Ev.pos rfl ?_))))
  refine Ev.step (fun k => by simp only [laws_FnExactBytesGet.j0]; rfl) (Ev.neg (by simp) ?_)
  exact Ev.bind ht (Ev.bind (eqViews_self (l.map toBy) b3 b4) (Ev.pos rfl (Ev.pure rfl)))
end Go.Proofs.Ythoapmfpokohnaa.QPure
