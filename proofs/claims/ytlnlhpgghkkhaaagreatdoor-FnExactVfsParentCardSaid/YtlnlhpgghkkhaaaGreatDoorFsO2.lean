/- What the law is handed, read as file systems. -/
import Derived.Test.YtlnlhpgghkkhaaaGreatDoorFsS
set_option linter.unusedSimpArgs false
open Go Go.Mach Go.Mach.Fv Go.Proofs
set_option maxRecDepth 100000
set_option linter.unusedVariables false
namespace Go.Mach.Fv
theorem u24 : Tryz.prog.underlying 24 = some (TypeDesc.struct #[{ name := "Fss", type := 22, offset := 0, embedded := false, tag := "", pkgPath := "", byteOffset := 0 }, { name := "Mount", type := 3, offset := 1, embedded := false, tag := "", pkgPath := "", byteOffset := 24 }]) := by kernel_rfl
theorem u27 : Tryz.prog.underlying 27 = some (TypeDesc.struct #[{ name := "User", type := 3, offset := 0, embedded := false, tag := "", pkgPath := "", byteOffset := 0 }, { name := "Real", type := 3, offset := 1, embedded := false, tag := "", pkgPath := "", byteOffset := 8 }, { name := "Groups", type := 25, offset := 2, embedded := false, tag := "", pkgPath := "", byteOffset := 16 }]) := by kernel_rfl
theorem u29 : Tryz.prog.underlying 29 = some (TypeDesc.struct #[{ name := "Fs", type := 3, offset := 0, embedded := false, tag := "", pkgPath := "", byteOffset := 0 }, { name := "Id", type := 3, offset := 1, embedded := false, tag := "", pkgPath := "", byteOffset := 8 }]) := by kernel_rfl
theorem u96 : Tryz.prog.underlying 96 = some (TypeDesc.struct #[{ name := "Nodes", type := 94, offset := 0, embedded := false, tag := "", pkgPath := "", byteOffset := 0 }]) := by kernel_rfl
theorem u144 : Tryz.prog.underlying 144 = some (TypeDesc.struct #[{ name := "Kind", type := 3, offset := 0, embedded := false, tag := "", pkgPath := "", byteOffset := 0 }, { name := "Mode", type := 3, offset := 1, embedded := false, tag := "", pkgPath := "", byteOffset := 8 }, { name := "Owner", type := 3, offset := 2, embedded := false, tag := "", pkgPath := "", byteOffset := 16 }, { name := "Group", type := 3, offset := 3, embedded := false, tag := "", pkgPath := "", byteOffset := 24 }, { name := "Links", type := 3, offset := 4, embedded := false, tag := "", pkgPath := "", byteOffset := 32 }, { name := "Opens", type := 3, offset := 5, embedded := false, tag := "", pkgPath := "", byteOffset := 40 }, { name := "Mark", type := 4, offset := 6, embedded := false, tag := "", pkgPath := "", byteOffset := 48 }, { name := "Text", type := 9, offset := 7, embedded := false, tag := "", pkgPath := "", byteOffset := 56 }, { name := "Names", type := 142, offset := 8, embedded := false, tag := "", pkgPath := "", byteOffset := 72 }]) := by kernel_rfl
theorem u178 : Tryz.prog.underlying 178 = some (TypeDesc.struct #[{ name := "Name", type := 9, offset := 0, embedded := false, tag := "", pkgPath := "", byteOffset := 0 }, { name := "Id", type := 3, offset := 1, embedded := false, tag := "", pkgPath := "", byteOffset := 16 }]) := by kernel_rfl
theorem u22 : Tryz.prog.underlying 22 = some (TypeDesc.slice 96) := by kernel_rfl
theorem u94 : Tryz.prog.underlying 94 = some (TypeDesc.slice 144) := by kernel_rfl
theorem u142 : Tryz.prog.underlying 142 = some (TypeDesc.slice 178) := by kernel_rfl
theorem u25 : Tryz.prog.underlying 25 = some (TypeDesc.slice 3) := by kernel_rfl
theorem u9 : Tryz.prog.underlying 9 = some TypeDesc.string := by kernel_rfl
theorem u3 : Tryz.prog.underlying 3 = some (.int .i64) := by kernel_rfl
abbrev BG : Nat := 1000000000000000
theorem o3 : OpM Tryz.prog 3 1 (fun z : Int => [C.int .i64 z]) (Mach.okI .i64) := OpM.int u3 tC3
theorem o4 : OpM Tryz.prog 4 1 (fun z : Bool => [C.bool z]) Mach.okB := OpM.bool tBool tC4
theorem o9 : OpM Tryz.prog 9 1 (fun z : ByteArray => [C.str z]) okT := OpM.string u9 tC9
theorem o178 : OpM Tryz.prog 178 2 encE (OkE BG) := by
  have h1 := OpMF.one (P := Tryz.prog) (f := ({ name := "Id", type := 3, offset := 1, embedded := false, tag := "", pkgPath := "", byteOffset := 16 } : Field)) (off := 1) rfl o3
  have h0 := OpMF.cons (P := Tryz.prog) (f := ({ name := "Name", type := 9, offset := 0, embedded := false, tag := "", pkgPath := "", byteOffset := 0 } : Field)) (off := 0) (off' := 1) (n := 1) (m := 1) (l := 2) rfl rfl rfl o9 h1
  exact OpM.struct (fun p : ByteArray × Int => ⟨p.1, p.2⟩) (fun _ => rfl) (fun p h => by have h1 := h.1; unfold okT at h1; show p.1.size ≤ 1000000000000000; omega) u178 tC178 h0
theorem o142 : OpM Tryz.prog 142 1 (fun l : List Entry => [C.ro () 178 (row encE l)]) (okL 24 (OkE BG)) := OpM.slice u142 tC142 tB178 o178
def okN9 (p : Int × Int × Int × Int × Int × Int × Bool × ByteArray × List Entry) : Prop := okT p.2.2.2.2.2.2.2.1 ∧ okL 24 (OkE BG) p.2.2.2.2.2.2.2.2
theorem o144 : OpM Tryz.prog 144 9 (encN 178 false) (OkN BG) := by
  have h8 := OpMF.one (P := Tryz.prog) (f := ({ name := "Names", type := 142, offset := 8, embedded := false, tag := "", pkgPath := "", byteOffset := 72 } : Field)) (off := 8) rfl o142
  have h7 := OpMF.cons (P := Tryz.prog) (f := ({ name := "Text", type := 9, offset := 7, embedded := false, tag := "", pkgPath := "", byteOffset := 56 } : Field)) (off := 7) (off' := 8) (n := 1) (m := 1) (l := 2) rfl rfl rfl o9 h8
  have h6 := OpMF.cons (P := Tryz.prog) (f := ({ name := "Mark", type := 4, offset := 6, embedded := false, tag := "", pkgPath := "", byteOffset := 48 } : Field)) (off := 6) (off' := 7) (n := 1) (m := 2) (l := 3) rfl rfl rfl o4 h7
  have h5 := OpMF.cons (P := Tryz.prog) (f := ({ name := "Opens", type := 3, offset := 5, embedded := false, tag := "", pkgPath := "", byteOffset := 40 } : Field)) (off := 5) (off' := 6) (n := 1) (m := 3) (l := 4) rfl rfl rfl o3 h6
  have h4 := OpMF.cons (P := Tryz.prog) (f := ({ name := "Links", type := 3, offset := 4, embedded := false, tag := "", pkgPath := "", byteOffset := 32 } : Field)) (off := 4) (off' := 5) (n := 1) (m := 4) (l := 5) rfl rfl rfl o3 h5
  have h3 := OpMF.cons (P := Tryz.prog) (f := ({ name := "Group", type := 3, offset := 3, embedded := false, tag := "", pkgPath := "", byteOffset := 24 } : Field)) (off := 3) (off' := 4) (n := 1) (m := 5) (l := 6) rfl rfl rfl o3 h4
  have h2 := OpMF.cons (P := Tryz.prog) (f := ({ name := "Owner", type := 3, offset := 2, embedded := false, tag := "", pkgPath := "", byteOffset := 16 } : Field)) (off := 2) (off' := 3) (n := 1) (m := 6) (l := 7) rfl rfl rfl o3 h3
  have h1 := OpMF.cons (P := Tryz.prog) (f := ({ name := "Mode", type := 3, offset := 1, embedded := false, tag := "", pkgPath := "", byteOffset := 8 } : Field)) (off := 1) (off' := 2) (n := 1) (m := 7) (l := 8) rfl rfl rfl o3 h2
  have h0 := OpMF.cons (P := Tryz.prog) (f := ({ name := "Kind", type := 3, offset := 0, embedded := false, tag := "", pkgPath := "", byteOffset := 0 } : Field)) (off := 0) (off' := 1) (n := 1) (m := 8) (l := 9) rfl rfl rfl o3 h1
  exact OpM.struct (fun p : Int × Int × Int × Int × Int × Int × Bool × ByteArray × List Entry => ⟨p.1, p.2.1, p.2.2.1, p.2.2.2.1, p.2.2.2.2.1, p.2.2.2.2.2.1, p.2.2.2.2.2.2.1, p.2.2.2.2.2.2.2.1, p.2.2.2.2.2.2.2.2⟩) (fun _ => rfl)
    (fun p h => by
      obtain ⟨_, _, _, _, _, _, _, h1, h2⟩ := h
      unfold okT at h1
      obtain ⟨_, h3, h4⟩ := h2
      refine ⟨?_, ?_, fun i hi => ?_⟩
      · show p.2.2.2.2.2.2.2.1.size ≤ 1000000000000000; omega
      · show p.2.2.2.2.2.2.2.2.length ≤ 1000000000000000; omega
      · refine h4 _ ?_
        simp only [nE, List.getD_eq_getElem?_getD]
        rw [List.getElem?_eq_getElem hi]
        exact List.getElem_mem hi)
    u144 tC144 h0
theorem o94 : OpM Tryz.prog 94 1 (fun l : List Inode => [C.ro () 144 (row (encN 178 false) l)]) (okL 96 (OkN BG)) := OpM.slice u94 tC94 tB144 o144
theorem el_mem {α : Type} (d : α) (l : List α) (i : Nat) (h : i < l.length) : l.getD i d ∈ l := by
  rw [List.getD_eq_getElem?_getD, List.getElem?_eq_getElem h]
  exact List.getElem_mem h
theorem o96 : OpM Tryz.prog 96 1 (encF 144 178 false) (OkF BG) := by
  have h0 := OpMF.one (P := Tryz.prog) (f := ({ name := "Nodes", type := 94, offset := 0, embedded := false, tag := "", pkgPath := "", byteOffset := 0 } : Field)) (off := 0) rfl o94
  exact OpM.struct (fun p : List Inode => p) (fun _ => rfl) (fun p h => by
      obtain ⟨_, h3, h4⟩ := h
      exact ⟨by show p.length ≤ 1000000000000000; omega, fun i hi => h4 _ (el_mem default p _ (by simpa using hi))⟩) u96 tC96 h0
theorem o22 : OpM Tryz.prog 22 1 (fun l : List Fs => [C.ro () 96 (row (encF 144 178 false) l)]) (okL 24 (OkF BG)) := OpM.slice u22 tC22 tB96 o96
def encV (v : Vfs) : List (C Unit) := [.ro () 96 (row (encF 144 178 false) v.fss), .int .i64 v.mount]
theorem o24 : OpM Tryz.prog 24 2 encV (OkV BG) := by
  have h1 := OpMF.one (P := Tryz.prog) (f := ({ name := "Mount", type := 3, offset := 1, embedded := false, tag := "", pkgPath := "", byteOffset := 24 } : Field)) (off := 1) rfl o3
  have h0 := OpMF.cons (P := Tryz.prog) (f := ({ name := "Fss", type := 22, offset := 0, embedded := false, tag := "", pkgPath := "", byteOffset := 0 } : Field)) (off := 0) (off' := 1) (n := 1) (m := 1) (l := 2) rfl rfl rfl o22 h1
  exact OpM.struct (fun p : List Fs × Int => ⟨p.1, p.2⟩) (fun _ => rfl) (fun p h => by
      obtain ⟨⟨_, h3, h4⟩, _⟩ := h
      exact ⟨by show p.1.length ≤ 1000000000000000; omega, fun i hi => h4 _ (el_mem [] p.1 _ (by simpa using hi))⟩) u24 tC24 h0
theorem o25 : OpM Tryz.prog 25 1 (fun l : List Int => [C.ro () 3 (row encI l)]) (okL 8 (Mach.okI .i64)) := OpM.slice u25 tC25 tB3 o3
def encC (c : Cred) : List (C Unit) := [.int .i64 c.user, .int .i64 c.real, .ro () 3 (row encI c.groups)]
theorem o27 : OpM Tryz.prog 27 3 encC (fun c => c.groups.length ≤ BG) := by
  have h2 := OpMF.one (P := Tryz.prog) (f := ({ name := "Groups", type := 25, offset := 2, embedded := false, tag := "", pkgPath := "", byteOffset := 16 } : Field)) (off := 2) rfl o25
  have h1 := OpMF.cons (P := Tryz.prog) (f := ({ name := "Real", type := 3, offset := 1, embedded := false, tag := "", pkgPath := "", byteOffset := 8 } : Field)) (off := 1) (off' := 2) (n := 1) (m := 1) (l := 2) rfl rfl rfl o3 h2
  have h0 := OpMF.cons (P := Tryz.prog) (f := ({ name := "User", type := 3, offset := 0, embedded := false, tag := "", pkgPath := "", byteOffset := 0 } : Field)) (off := 0) (off' := 1) (n := 1) (m := 2) (l := 3) rfl rfl rfl o3 h1
  exact OpM.struct (fun p : Int × Int × List Int => ⟨p.1, p.2.1, p.2.2⟩) (fun _ => rfl) (fun p h => by
      obtain ⟨_, _, _, h3, _⟩ := h
      show p.2.2.length ≤ 1000000000000000; omega) u27 tC27 h0
def encP (p : Place) : List (C Unit) := [.int .i64 p.fs, .int .i64 p.id]
theorem o29 : OpM Tryz.prog 29 2 encP (fun _ => True) := by
  have h1 := OpMF.one (P := Tryz.prog) (f := ({ name := "Id", type := 3, offset := 1, embedded := false, tag := "", pkgPath := "", byteOffset := 8 } : Field)) (off := 1) rfl o3
  have h0 := OpMF.cons (P := Tryz.prog) (f := ({ name := "Fs", type := 3, offset := 0, embedded := false, tag := "", pkgPath := "", byteOffset := 0 } : Field)) (off := 0) (off' := 1) (n := 1) (m := 1) (l := 2) rfl rfl rfl o3 h1
  exact OpM.struct (fun p : Int × Int => ⟨p.1, p.2⟩) (fun _ => rfl) (fun p h => trivial) u29 tC29 h0
end Go.Mach.Fv
