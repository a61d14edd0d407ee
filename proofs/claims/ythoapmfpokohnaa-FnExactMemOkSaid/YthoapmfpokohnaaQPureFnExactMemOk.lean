/- MemOk and its reference agree. -/
import Derived.Test.YthoapmfpokohnaaQSFnExactMemOk
import Derived.Test.YthoapmfpokohnaaQMemU
namespace Go.Proofs.Ythoapmfpokohnaa.QPure
open Go.RowKit Go.Proofs.YthoapmfpokohnaaW.PrintWords Go.Proofs.YthoapmfpokohnaaW.PrintLast Go.Proofs.YthoapmfpokohnaaW.PrintMore Go.Proofs.Ythoapmfpokohnaa.P Go.Proofs.Ythoapmfpokohnaa.Q
theorem FnExactMemOk : laws_FnExactMemOk.Pure := by
  intro d1 r1 d2 r2 l c g1 g2 g3 g4 gl _
  refine Ev.rounds (r := true) ?_
  unfold laws_FnExactMemOk.f
  obtain ⟨v, hv, hb⟩ := m_szMem d1 r1 d2 r2 l c g1.1 g2.1 g3.1 g4.1 (fun x m => g1.2.2 x m) (fun x m => g3.2.2 x m) gl.1 (fun x m => ⟨(gl.2.2 x m).2.1.1, (gl.2.2 x m).2.2.1⟩)
  refine Ev.bind hv ?_
  by_cases hs : v < 0
  · exact Ev.pos hs (Ev.pure rfl)
  refine Ev.neg hs ?_
  obtain ⟨b1, b2, b3, b4, b5, b6, _, _⟩ := hb hs
  have ht := m_toMem d1 r1 d2 r2 l c b1 b2 b3 b4 b5 b6
  have b7 : (l.map toSp).length ≤ 1048576 := by simp; omega
  have b8 : ∀ x ∈ l.map toSp, x.f1.length ≤ 1048576 ∧ x.f2.length ≤ 1048576 := fun x m => by
    obtain ⟨y, hy, rfl⟩ := List.mem_map.1 m
    have := b6 y hy
    simp only [toSp, List.length_map]
    exact this
  have hx : ∀ j, j < (l.map toSp).length → (spA (l.map toSp) j).f1.length ≤ 9223372036854775807 := fun j hj => by
    have := (b8 _ (spA_mem hj)).1
    omega
  exact Ev.bind ht (Ev.bind (spec_ok d1 r1 d2 r2 (l.map toSp) c b2 b4 hx) (Ev.bind ht (Ev.bind (impl_ok d1 r1 d2 r2 (l.map toSp) c b2 b4 hx) (Ev.neg (by simp) (Ev.bind ht (Ev.bind (m_eqMem d1 r1 d2 r2 (l.map toSp) c b1 b2 b3 b4 b7 b8) (Ev.pos rfl (Ev.pure rfl))))))))
end Go.Proofs.Ythoapmfpokohnaa.QPure
