/- Small functions of the reference and of the program. -/
import Derived.Test.YtlnlhpgghkkhaaaGreatDoorFsQ
open Go Go.Mach Go.Mach.Fv Go.Proofs
set_option maxRecDepth 100000
set_option linter.unusedVariables false
set_option linter.unusedSimpArgs false
namespace Go.Mach.Fv
theorem fn62 (n lo hi : Int) : Fn Z 62 [.one (.int .i64 (n)), .one (.int .i64 (lo)), .one (.int .i64 (hi))] = some ⟨[(false, [.bool (inR n lo hi)])], []⟩ := by
  refine Fn_ans Z rfl Tryz.func62 rfl K62 ?_
  rw [ZP, M62, nt62]
  have hb : bodyOf Tryz.f62 = bodyOf Tryz.f62 := rfl
  conv at hb => rhs; simp only [bodyOf, Tryz.f62]
  rw [hb]
  clear hb 
  by_cases q0 : lo ≤ n
  ·
    simp [inR, q0]
  ·
    simp [inR, q0]
theorem fn70 (n lo hi : Int) : Fn Z 70 [.one (.int .i64 (n)), .one (.int .i64 (lo)), .one (.int .i64 (hi))] = some ⟨[(false, [.bool (inR n lo hi)])], []⟩ := by
  refine Fn_ans Z rfl Tryz.func70 rfl K70 ?_
  rw [ZP, M70, nt70]
  have hb : bodyOf Tryz.f70 = bodyOf Tryz.f70 := rfl
  conv at hb => rhs; simp only [bodyOf, Tryz.f70]
  rw [hb]
  clear hb 
  by_cases q0 : lo ≤ n
  ·
    simp [inR, q0]
  ·
    simp [inR, q0]
theorem fn64 (n : Int) : Fn Z 64 [.one (.int .i64 (n))] = some ⟨[(false, [.bool (inR n 0 9)])], []⟩ := by
  refine Fn_ans Z rfl Tryz.func64 rfl K64 ?_
  rw [ZP, M64, nt64]
  have hb : bodyOf Tryz.f64 = bodyOf Tryz.f64 := rfl
  conv at hb => rhs; simp only [bodyOf, Tryz.f64]
  rw [hb]
  clear hb 
  simp [fn62]
theorem fn106 (n : Inode) : Fn Z 106 [.agg [.int .i64 n.kind, .int .i64 n.mode, .int .i64 n.owner, .int .i64 n.group, .int .i64 n.links, .int .i64 n.opens, .bool n.mark, .str n.text, .ro () 114 (row encE n.names)]] = some ⟨[(false, [.bool (plain n)])], []⟩ := by
  refine Fn_ans Z rfl Tryz.func106 rfl K106 ?_
  rw [ZP, M106, nt106]
  have hb : bodyOf Tryz.f106 = bodyOf Tryz.f106 := rfl
  conv at hb => rhs; simp only [bodyOf, Tryz.f106]
  rw [hb]
  clear hb 
  by_cases q0 : n.kind = 0
  ·
    by_cases q1 : n.mode = 0
    ·
      by_cases q2 : n.owner = 0
      ·
        by_cases q3 : n.group = 0
        ·
          by_cases q4 : n.links = 0
          ·
            by_cases q5 : n.opens = 0
            ·
              by_cases q6 : n.mark = false
              ·
                by_cases q7 : n.text.size = 0
                ·
                  simp [plain, q0, q1, q2, q3, q4, q5, q6, q7]
                ·
                  simp [plain, q0, q1, q2, q3, q4, q5, q6, q7]
              ·
                simp [plain, q0, q1, q2, q3, q4, q5, q6]
            ·
              simp [plain, q0, q1, q2, q3, q4, q5]
          ·
            simp [plain, q0, q1, q2, q3, q4]
        ·
          simp [plain, q0, q1, q2, q3]
      ·
        simp [plain, q0, q1, q2]
    ·
      simp [plain, q0, q1]
  ·
    simp [plain, q0]
theorem fn89 (n : Inode) : Fn Z 89 [.agg [.int .i64 n.kind, .int .i64 n.mode, .int .i64 n.owner, .int .i64 n.group, .int .i64 n.links, .int .i64 n.opens, .bool n.mark, .str n.text, .ro () 114 (row encE n.names)]] = some ⟨[(false, [.bool (plain n)])], []⟩ := by
  refine Fn_ans Z rfl Tryz.func89 rfl K89 ?_
  rw [ZP, M89, nt89]
  have hb : bodyOf Tryz.f89 = bodyOf Tryz.f89 := rfl
  conv at hb => rhs; simp only [bodyOf, Tryz.f89]
  rw [hb]
  clear hb 
  by_cases q0 : n.kind = 0
  ·
    by_cases q1 : n.mode = 0
    ·
      by_cases q2 : n.owner = 0
      ·
        by_cases q3 : n.group = 0
        ·
          by_cases q4 : n.links = 0
          ·
            by_cases q5 : n.opens = 0
            ·
              by_cases q6 : n.mark = false
              ·
                by_cases q7 : n.text.size = 0
                ·
                  simp [plain, q0, q1, q2, q3, q4, q5, q6, q7]
                ·
                  simp [plain, q0, q1, q2, q3, q4, q5, q6, q7]
              ·
                simp [plain, q0, q1, q2, q3, q4, q5, q6]
            ·
              simp [plain, q0, q1, q2, q3, q4, q5]
          ·
            simp [plain, q0, q1, q2, q3, q4]
        ·
          simp [plain, q0, q1, q2, q3]
      ·
        simp [plain, q0, q1, q2]
    ·
      simp [plain, q0, q1]
  ·
    simp [plain, q0]
def nodeOk (f : Fs) (id : Int) : Bool := inR id 0 (f.length - 1) && !decide ((N f id).kind = 0)
theorem fn65 (f : Fs) (hf : f.length ≤ 1048576) (id : Int) : Fn Z 65 [.agg [.ro () 62 (row (encN 114 true) f)], .one (.int .i64 (id))] = some ⟨[(false, [.bool (nodeOk f id)])], []⟩ := by
  refine Fn_ans Z rfl Tryz.func65 rfl K65 ?_
  rw [ZP, M65, nt65]
  have hb : bodyOf Tryz.f65 = bodyOf Tryz.f65 := rfl
  conv at hb => rhs; simp only [bodyOf, Tryz.f65]
  rw [hb]
  clear hb 
  have hw := wrap_in (z := (f.length : Int) - 1) (by omega) (by omega)
  by_cases h : inR id 0 (f.length - 1) = true
  · have h1 := inR_iff.1 h
    have h2 : id < f.length := by omega
    simp [nodeOk, hw, fn62, h, h1, h2]
  · simp [nodeOk, hw, fn62, h]
theorem fn71 (f : Fs) (hf : f.length ≤ 1048576) (id : Int) : Fn Z 71 [.agg [.ro () 62 (row (encN 114 true) f)], .one (.int .i64 (id))] = some ⟨[(false, [.bool (nodeOk f id)])], []⟩ := by
  refine Fn_ans Z rfl Tryz.func71 rfl K71 ?_
  rw [ZP, M71, nt71]
  have hb : bodyOf Tryz.f71 = bodyOf Tryz.f71 := rfl
  conv at hb => rhs; simp only [bodyOf, Tryz.f71]
  rw [hb]
  clear hb 
  have hw := wrap_in (z := (f.length : Int) - 1) (by omega) (by omega)
  by_cases h : inR id 0 (f.length - 1) = true
  · have h1 := inR_iff.1 h
    have h2 : id < f.length := by omega
    simp [nodeOk, hw, fn70, h, h1, h2]
  · simp [nodeOk, hw, fn70, h]
end Go.Mach.Fv
