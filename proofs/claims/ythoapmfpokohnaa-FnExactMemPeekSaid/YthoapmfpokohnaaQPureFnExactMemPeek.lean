/- MemPeek and its reference agree. -/
import Derived.Test.YthoapmfpokohnaaQSFnExactMemPeek
import Derived.Test.YthoapmfpokohnaaQMemU
import Derived.Test.YthoapmfpokohnaaPf0
import Derived.Test.YthoapmfpokohnaaPfM7
import Derived.Test.YthoapmfpokohnaaPfM10
import Derived.Test.YthoapmfpokohnaaPflawsFnExactMemPeek
import Derived.Test.YthoapmfpokohnaaPfM3
import Derived.Test.YthoapmfpokohnaaPfM6
namespace Go.Proofs.Ythoapmfpokohnaa.QPure
open Go.RowKit Go.Proofs.YthoapmfpokohnaaW.PrintWords Go.Proofs.YthoapmfpokohnaaW.PrintLast Go.Proofs.YthoapmfpokohnaaW.PrintMore Go.Proofs.Ythoapmfpokohnaa.P Go.Proofs.Ythoapmfpokohnaa.Q
theorem zero4 (q : Nat) (h : q < 4) : (q : Int) < ((strOfNums (List.replicate 4 0)).size : Int) ∧ wrap64 (bt (strOfNums (List.replicate 4 0)) (q : Int)) = 0 := by
  match q, h with
  | 0, _ =>
    have e : bt (strOfNums (List.replicate 4 0)) ((0 : Nat) : Int) = 0 := by decide
    exact ⟨by decide, by rw [e]; exact wrap_id (by omega) (by omega)⟩
  | 1, _ =>
    have e : bt (strOfNums (List.replicate 4 0)) ((1 : Nat) : Int) = 0 := by decide
    exact ⟨by decide, by rw [e]; exact wrap_id (by omega) (by omega)⟩
  | 2, _ =>
    have e : bt (strOfNums (List.replicate 4 0)) ((2 : Nat) : Int) = 0 := by decide
    exact ⟨by decide, by rw [e]; exact wrap_id (by omega) (by omega)⟩
  | 3, _ =>
    have e : bt (strOfNums (List.replicate 4 0)) ((3 : Nat) : Int) = 0 := by decide
    exact ⟨by decide, by rw [e]; exact wrap_id (by omega) (by omega)⟩
theorem pg_size {d : List ByteArray} {r : List Int} {a : Int} (hp : pagesB d r = true) (hl : r.length = 12) (ha : hasB r a = true) : 0 ≤ a ∧ a < (d.length : Int) ∧ ((rdOf ByteArray.empty d a).size : Int) = 4 := by
  unfold hasB at ha
  simp only [Bool.and_eq_true, decide_eq_true_eq] at ha
  unfold pagesB at hp
  simp only [Bool.and_eq_true, decide_eq_true_eq, allP_iff] at hp
  obtain ⟨n, rfl⟩ := Int.eq_ofNat_of_zero_le ha.1.1
  have h := hp.2.2 n (by omega) (by omega)
  unfold pgB at h
  simp only [Bool.and_eq_true, decide_eq_true_eq] at h
  have h2 := h.2
  rw [if_neg (by omega)] at h2
  exact ⟨by omega, by omega, h2⟩
section
variable (d1 : List ByteArray) (r1 : List Int) (d2 : List ByteArray) (r2 : List Int) (l : List Sp) (c : Int)
def peekV (s : Sp) (q : Nat) : Int := if (sl s (q / 4)).f0 = 1 then wrap64 (bt (rdOf ByteArray.empty d1 (sl s (q / 4)).f1) ((q % 4 : Nat) : Int)) else if (sl s (q / 4)).f0 = 2 then wrap64 (bt (rdOf ByteArray.empty d2 (sl s (q / 4)).f1) ((q % 4 : Nat) : Int)) else 0
theorem both (a1 a2 : Int) (hr1 : r1.length ≤ 1048576) (hr2 : r2.length ≤ 1048576) (hx : ∀ j, j < l.length → (spA l j).f1.length ≤ 9223372036854775807) :
    ∃ v, Ev (fun k => spec_MemPeek.f k d1 r1 d2 r2 l c a1 a2) v ∧ Ev (fun k => impl_MemPeek.f k d1 r1 d2 r2 l c a1 a2) v := by
  have e1 := spec_ok d1 r1 d2 r2 l c hr1 hr2 hx
  have e2 := impl_ok d1 r1 d2 r2 l c hr1 hr2 hx
  unfold spec_MemPeek.f impl_MemPeek.f spec_l3Who.f impl_Mem_live.f spec_l3Addr.f
  simp only [in_eq, l6In_eq, Option.bind_some]
  cases hm : memB d1 r1 d2 r2 l c
  · rw [hm] at e1 e2
    exact ⟨(0, false), Ev.bind e1 (Ev.neg (by decide) (Ev.now _)), Ev.bind e2 (Ev.neg (by decide) (Ev.now _))⟩
  rw [hm] at e1 e2
  have hm2 := hm
  rw [← memI_memB] at hm2
  unfold memI preB at hm2
  simp only [Bool.and_eq_true, decide_eq_true_eq, allP_iff, refS] at hm2
  obtain ⟨⟨p1, p2, l1, l2, l5, _⟩, hall, _⟩ := hm2
  suffices h : ∃ v, Ev (fun k => (if (decide (0 ≤ a1) && decide (a1 ≤ wrap64 ((l.length : Int) - 1))) = true then (if 0 ≤ a1 then (if a1 < (l.length : Int) then (some (rd_T63 l a1).f0) else none) else none) else some false).bind fun t103 => (if t103 = true then (if (decide (0 ≤ a2) && decide (a2 ≤ 63)) = true then (if 0 ≤ a1 then (if a1 < (l.length : Int) then ((spec_l2At.f k ((rd_T63 l a1).f1) (wrap64 (Int.tdiv a2 4))).bind fun t106 => (if t106 < 0 then (some ((0 : Int), false)) else ((spec_l3Peek.f d1 r1 d2 r2 l c a1 a2).bind fun t107 => (some (t107, true))))) else none) else none) else some (0, false)) else some (0, false))) v ∧
      Ev (fun k => (if (decide (0 ≤ a1) && decide (a1 ≤ wrap64 ((l.length : Int) - 1))) = true then (if 0 ≤ a1 then (if a1 < (l.length : Int) then (some (rd_T63 l a1).f0) else none) else none) else some false).bind fun t103 => (if t103 = true then (if (decide (0 ≤ a2) && decide (a2 ≤ 63)) = true then (if 0 ≤ a1 then (if a1 < (l.length : Int) then ((impl_AreasAt.f k ((rd_T63 l a1).f1) (wrap64 (Int.tdiv a2 4))).bind fun t106 => (if t106 < 0 then (some ((0 : Int), false)) else ((impl_Mem_page.f d1 r1 d2 r2 l c a1 (wrap64 (Int.tdiv a2 4))).bind fun t107 => (if 0 ≤ (Int.tmod a2 4) then (if (Int.tmod a2 4) < (t107.size : Int) then (some (wrap64 (bt t107 (Int.tmod a2 4)), true)) else none) else none)))) else none) else none) else some (0, false)) else some (0, false))) v by
    obtain ⟨v, h1, h2⟩ := h
    exact ⟨v, Ev.bind e1 (Ev.pos rfl h1), Ev.bind e2 (Ev.pos rfl h2)⟩
  rw [l5, show wrap64 (((5 : Nat) : Int) - 1) = 4 by rw [wrap_id (by omega) (by omega)]; rfl]
  by_cases ha : 0 ≤ a1 ∧ a1 ≤ 4
  rotate_left
  · have hc : (decide (0 ≤ a1) && decide (a1 ≤ 4)) = false := by
      cases h : (decide (0 ≤ a1) && decide (a1 ≤ 4))
      · rfl
      · exact absurd (by simpa using h) ha
    rw [hc]
    exact ⟨(0, false), Ev.bind (Ev.neg (by decide) (Ev.now _)) (Ev.neg (by decide) (Ev.now _)), Ev.bind (Ev.neg (by decide) (Ev.now _)) (Ev.neg (by decide) (Ev.now _))⟩
  rw [show (decide (0 ≤ a1) && decide (a1 ≤ 4)) = true by simp [ha.1, ha.2]]
  obtain ⟨n, rfl⟩ := Int.eq_ofNat_of_zero_le ha.1
  have hn : n < 5 := by omega
  obtain ⟨hs, href⟩ := hall n (by omega) (by omega)
  have live : ∀ k : Nat, Ev (fun _ => if true = true then (if 0 ≤ (n : Int) then (if (n : Int) < ((5 : Nat) : Int) then (some (spA l n).f0) else none) else none) else some false) (spA l n).f0 := fun _ => Ev.pos rfl (Ev.pos (by omega) (Ev.pos (by omega) (Ev.now _)))
  have hl := live 0
  suffices h : (spA l n).f0 = true → ∃ v, Ev (fun k => (if (decide (0 ≤ a2) && decide (a2 ≤ 63)) = true then (if 0 ≤ (n : Int) then (if (n : Int) < ((5 : Nat) : Int) then ((spec_l2At.f k (spA l n).f1 (wrap64 (Int.tdiv a2 4))).bind fun t106 => (if t106 < 0 then (some ((0 : Int), false)) else ((spec_l3Peek.f d1 r1 d2 r2 l c (n : Int) a2).bind fun t107 => (some (t107, true))))) else none) else none) else some (0, false))) v ∧
      Ev (fun k => (if (decide (0 ≤ a2) && decide (a2 ≤ 63)) = true then (if 0 ≤ (n : Int) then (if (n : Int) < ((5 : Nat) : Int) then ((impl_AreasAt.f k (spA l n).f1 (wrap64 (Int.tdiv a2 4))).bind fun t106 => (if t106 < 0 then (some ((0 : Int), false)) else ((impl_Mem_page.f d1 r1 d2 r2 l c (n : Int) (wrap64 (Int.tdiv a2 4))).bind fun t107 => (if 0 ≤ (Int.tmod a2 4) then (if (Int.tmod a2 4) < (t107.size : Int) then (some (wrap64 (bt t107 (Int.tmod a2 4)), true)) else none) else none)))) else none) else none) else some (0, false))) v by
    rcases Bool.eq_false_or_eq_true (spA l n).f0 with hf | hf
    · obtain ⟨v, h1, h2⟩ := h hf
      have hl := Ev.cast hl hf
      exact ⟨v, Ev.bind hl (Ev.pos rfl h1), Ev.bind hl (Ev.pos rfl h2)⟩
    · have hl := Ev.cast hl hf
      exact ⟨(0, false), Ev.bind hl (Ev.neg (by decide) (Ev.now _)), Ev.bind hl (Ev.neg (by decide) (Ev.now _))⟩
  intro hf
  by_cases hb : 0 ≤ a2 ∧ a2 ≤ 63
  rotate_left
  · have hc : (decide (0 ≤ a2) && decide (a2 ≤ 63)) = false := by
      cases h : (decide (0 ≤ a2) && decide (a2 ≤ 63))
      · rfl
      · exact absurd (by simpa using h) hb
    rw [hc]
    exact ⟨(0, false), Ev.neg (by decide) (Ev.now _), Ev.neg (by decide) (Ev.now _)⟩
  rw [show (decide (0 ≤ a2) && decide (a2 ≤ 63)) = true by simp [hb.1, hb.2]]
  obtain ⟨q, rfl⟩ := Int.eq_ofNat_of_zero_le hb.1
  have hq : q < 64 := by omega
  have hdiv : wrap64 (Int.tdiv (q : Int) 4) = ((q / 4 : Nat) : Int) := by
    rw [Int.tdiv_eq_ediv_of_nonneg (by omega), wrap_id (by omega) (by omega)]
    omega
  have hmod : Int.tmod (q : Int) 4 = ((q % 4 : Nat) : Int) := by
    rw [Int.tmod_eq_emod_of_nonneg (by omega)]
    omega
  have ho : areasOk (spA l n).f1 = true ∧ (spA l n).f2.length = 16 := by
    unfold spB at hs
    rw [if_pos hf] at hs
    simp only [Bool.and_eq_true, decide_eq_true_eq] at hs
    exact ⟨hs.1, hs.2.1⟩
  have at1 := l2At_ev ho.1 ((q / 4 : Nat) : Int)
  have at2 := implAt (spA l n).f1 (hx n (by omega)) ((q / 4 : Nat) : Int)
  rw [areasAt_ok ho.1] at at2
  by_cases hat : atB (spA l n) (q / 4) < 0
  · rw [hdiv]
    exact ⟨(0, false), Ev.pos rfl (Ev.pos (by omega) (Ev.pos (by omega) (Ev.bind at1 (Ev.pos hat (Ev.now _))))), Ev.pos rfl (Ev.pos (by omega) (Ev.pos (by omega) (Ev.bind at2 (Ev.pos hat (Ev.now _)))))⟩
  have hr := href (q / 4) (by omega) (by omega)
  have pk : spec_l3Peek.f d1 r1 d2 r2 l c (n : Int) (q : Int) = some (peekV d1 d2 (spA l n) q) ∧ ∃ b : ByteArray, impl_Mem_page.f d1 r1 d2 r2 l c (n : Int) ((q / 4 : Nat) : Int) = some b ∧ ((q % 4 : Nat) : Int) < (b.size : Int) ∧ wrap64 (bt b ((q % 4 : Nat) : Int)) = peekV d1 d2 (spA l n) q := by
    unfold spec_l3Peek.f impl_Mem_page.f
    rw [hdiv, hmod]
    have c1 : (0 : Int) ≤ n := by omega
    have c2 : (n : Int) < (l.length : Int) := by omega
    have c3 : (0 : Int) ≤ ((q / 4 : Nat) : Int) := by omega
    have c4 : ((q / 4 : Nat) : Int) < (((rd_T63 l (n : Int)).f2).length : Int) := by
      show ((q / 4 : Nat) : Int) < ((spA l n).f2.length : Int)
      omega
    have c5 : (0 : Int) ≤ ((q % 4 : Nat) : Int) := by omega
    simp only [if_pos c1, if_pos c2, if_pos c3, if_pos c4, if_pos c5]
    have es : rd_T65 (rd_T63 l (n : Int)).f2 ((q / 4 : Nat) : Int) = sl (spA l n) (q / 4) := rfl
    rw [es]
    unfold peekV
    unfold refB at hr
    by_cases h1 : (sl (spA l n) (q / 4)).f0 = 1
    · rw [decide_eq_false (by omega), Bool.false_or, if_pos h1] at hr
      obtain ⟨g1, g2, g3⟩ := pg_size p1 l1 hr
      simp only [if_pos h1, if_pos g1, if_pos g2, if_pos (show ((q % 4 : Nat) : Int) < ((rdOf ByteArray.empty d1 (sl (spA l n) (q / 4)).f1).size : Int) by omega)]
      exact ⟨trivial, _, rfl, by omega, rfl⟩
    simp only [if_neg h1]
    by_cases h2 : (sl (spA l n) (q / 4)).f0 = 2
    · rw [decide_eq_false (by omega), Bool.false_or, if_neg h1] at hr
      obtain ⟨g1, g2, g3⟩ := pg_size p2 l2 hr
      simp only [if_pos h2, if_pos g1, if_pos g2, if_pos (show ((q % 4 : Nat) : Int) < ((rdOf ByteArray.empty d2 (sl (spA l n) (q / 4)).f1).size : Int) by omega)]
      exact ⟨trivial, _, rfl, by omega, rfl⟩
    simp only [if_neg h2]
    have hz := zero4 (q % 4) (by omega)
    exact ⟨trivial, _, rfl, hz.1, hz.2⟩
  obtain ⟨pk1, b, pk2, hsz, hv⟩ := pk
  rw [pk1, hdiv, hmod, pk2]
  refine ⟨(peekV d1 d2 (spA l n) q, true), Ev.pos rfl (Ev.pos (by omega) (Ev.pos (by omega) (Ev.bind at1 (Ev.neg hat (Ev.now _))))), Ev.pos rfl (Ev.pos (by omega) (Ev.pos (by omega) (Ev.bind at2 (Ev.neg hat ?_))))⟩
  exact Ev.bind (Ev.now _) (Ev.pos (by omega) (Ev.pos hsz (Ev.pure (by rw [hv]))))
end
theorem FnExactMemPeek : laws_FnExactMemPeek.Pure := by
  intro d1 r1 d2 r2 l c a1 a2 g1 g2 g3 g4 gl _ _ _
  refine Ev.rounds (r := true) ?_
  unfold laws_FnExactMemPeek.f
  obtain ⟨v, hv, hb⟩ := m_szMem d1 r1 d2 r2 l c g1.1 g2.1 g3.1 g4.1 (fun x m => g1.2.2 x m) (fun x m => g3.2.2 x m) gl.1 (fun x m => ⟨(gl.2.2 x m).2.1.1, (gl.2.2 x m).2.2.1⟩)
  refine Ev.bind hv ?_
  by_cases hs : v < 0
  · exact Ev.pos hs (Ev.pure rfl)
  refine Ev.neg hs ?_
  obtain ⟨b1, b2, b3, b4, b5, b6, _, _⟩ := hb hs
  have ht := m_toMem d1 r1 d2 r2 l c b1 b2 b3 b4 b5 b6
  have b7 : (l.map toSp).length ≤ 1048576 := by simp; omega
  have b8 : ∀ x ∈ l.map toSp, x.f1.length ≤ 1048576 ∧ x.f2.length ≤ 1048576 := fun x m => by
    obtain ⟨y, hy, rfl⟩ := List.mem_map.1 m
    have := b6 y hy
    simp only [toSp, List.length_map]
    exact this
  have hx : ∀ j, j < (l.map toSp).length → (spA (l.map toSp) j).f1.length ≤ 9223372036854775807 := fun j hj => by
    have := (b8 _ (spA_mem hj)).1
    omega
  obtain ⟨w, w1, w2⟩ := both d1 r1 d2 r2 (l.map toSp) c a1 a2 b2 b4 hx
  refine Ev.bind ht (Ev.bind w1 (Ev.bind ht (Ev.bind w2 (Ev.pos rfl ?_))))
  refine Ev.step (fun k => by simp only [laws_FnExactMemPeek.j0]; rfl) (Ev.neg (by simp) ?_)
  exact Ev.bind ht (Ev.bind (m_eqMem d1 r1 d2 r2 (l.map toSp) c b1 b2 b3 b4 b7 b8) (Ev.pos rfl (Ev.pure rfl)))
end Go.Proofs.Ythoapmfpokohnaa.QPure
