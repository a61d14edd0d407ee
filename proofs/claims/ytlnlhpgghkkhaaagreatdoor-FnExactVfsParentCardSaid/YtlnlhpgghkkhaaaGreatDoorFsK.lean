/- What the kernel computes once of this program: modes, loops, types. -/
import Derived.Test.YtlnlhpgghkkhaaaGreatDoorFsO
set_option linter.unusedVariables false
set_option linter.unusedSimpArgs false
open Go Go.Mach Go.Mach.Fv Go.Proofs
set_option maxRecDepth 100000
namespace Go.Mach.Fv
def sp : FuncId → Option (List Mach.Mode) := fun _ => none
def rg : FuncId → Bool := fun f => f == 34 || f == 3 || f == 56 || f == 25 || f == 5
noncomputable def Z : Setup := mk Tryz.prog sp rg orac
theorem ZP : Z.P = Tryz.prog := rfl
theorem EP : (EL Z).P = Tryz.prog := rfl
theorem EM : (EL Z).M = Z.M := rfl
theorem EC : (EL Z).cf = Fn Z := rfl
theorem HR (f n) (h : rg f = false) : (Z.H f).region n = none := mkR _ _ _ _ _ _ h
theorem M143 : Z.M 143 = [Mode.ro, Mode.ro] := by kernel_rfl
theorem K143 : Z.okF 143 = true := by kernel_rfl
theorem rs143 : Tryz.f143.results.toList = [ResultVar.tmp 4] := by kernel_rfl
theorem ts143 : Tryz.f143.resultTypes.toList = [3] := by kernel_rfl
theorem nt143 : Tryz.f143.ntmps = 13 := by kernel_rfl
theorem M126 : Z.M 126 = [Mode.ro, Mode.ro] := by kernel_rfl
theorem K126 : Z.okF 126 = true := by kernel_rfl
theorem L126_5 : (Z.H 126).loop 5 = { tm := [5, 0, 1], rt := [], mv := [5, 0, 1] } := by kernel_rfl
theorem b126_5 : headId (lpc Tryz.f126 5) = 5 := by kernel_rfl
theorem B126_0 : (Z.H 126).blk 0 = some { tm := [1], rt := [], mv := [1] } := by kernel_rfl
theorem B126_1 : (Z.H 126).blk 1 = some { tm := [5, 0, 1], rt := [], mv := [5, 0, 1] } := by kernel_rfl
theorem rs126 : Tryz.f126.results.toList = [ResultVar.tmp 4] := by kernel_rfl
theorem ts126 : Tryz.f126.resultTypes.toList = [3] := by kernel_rfl
theorem nt126 : Tryz.f126.ntmps = 27 := by kernel_rfl
theorem M105 : Z.M 105 = [Mode.ro, Mode.ro] := by kernel_rfl
theorem K105 : Z.okF 105 = true := by kernel_rfl
theorem rs105 : Tryz.f105.results.toList = [ResultVar.tmp 4] := by kernel_rfl
theorem ts105 : Tryz.f105.resultTypes.toList = [3] := by kernel_rfl
theorem nt105 : Tryz.f105.ntmps = 19 := by kernel_rfl
theorem M83 : Z.M 83 = [Mode.ro, Mode.ro] := by kernel_rfl
theorem K83 : Z.okF 83 = true := by kernel_rfl
theorem L83_5 : (Z.H 83).loop 5 = { tm := [5, 0, 1], rt := [], mv := [5, 0, 1] } := by kernel_rfl
theorem b83_5 : headId (lpc Tryz.f83 5) = 5 := by kernel_rfl
theorem B83_0 : (Z.H 83).blk 0 = some { tm := [1], rt := [], mv := [1] } := by kernel_rfl
theorem B83_1 : (Z.H 83).blk 1 = some { tm := [5, 0, 1], rt := [], mv := [5, 0, 1] } := by kernel_rfl
theorem rs83 : Tryz.f83.results.toList = [ResultVar.tmp 4] := by kernel_rfl
theorem ts83 : Tryz.f83.resultTypes.toList = [3] := by kernel_rfl
theorem nt83 : Tryz.f83.ntmps = 27 := by kernel_rfl
theorem M59 : Z.M 59 = [Mode.ro, Mode.ro] := by kernel_rfl
theorem K59 : Z.okF 59 = true := by kernel_rfl
theorem rs59 : Tryz.f59.results.toList = [ResultVar.tmp 4] := by kernel_rfl
theorem ts59 : Tryz.f59.resultTypes.toList = [3] := by kernel_rfl
theorem nt59 : Tryz.f59.ntmps = 12 := by kernel_rfl
theorem M28 : Z.M 28 = [Mode.ro, Mode.ro] := by kernel_rfl
theorem K28 : Z.okF 28 = true := by kernel_rfl
theorem L28_5 : (Z.H 28).loop 5 = { tm := [5, 0, 1], rt := [], mv := [5, 0, 1] } := by kernel_rfl
theorem b28_5 : headId (lpc Tryz.f28 5) = 5 := by kernel_rfl
theorem B28_0 : (Z.H 28).blk 0 = some { tm := [1], rt := [], mv := [1] } := by kernel_rfl
theorem B28_1 : (Z.H 28).blk 1 = some { tm := [5, 0, 1], rt := [], mv := [5, 0, 1] } := by kernel_rfl
theorem rs28 : Tryz.f28.results.toList = [ResultVar.tmp 4] := by kernel_rfl
theorem ts28 : Tryz.f28.resultTypes.toList = [3] := by kernel_rfl
theorem nt28 : Tryz.f28.ntmps = 27 := by kernel_rfl
theorem M10 : Z.M 10 = [Mode.ro, Mode.ro] := by kernel_rfl
theorem K10 : Z.okF 10 = true := by kernel_rfl
theorem rs10 : Tryz.f10.results.toList = [ResultVar.tmp 4] := by kernel_rfl
theorem ts10 : Tryz.f10.resultTypes.toList = [3] := by kernel_rfl
theorem nt10 : Tryz.f10.ntmps = 12 := by kernel_rfl
theorem M29 : Z.M 29 = [Mode.ro, Mode.ro] := by kernel_rfl
theorem K29 : Z.okF 29 = true := by kernel_rfl
theorem rs29 : Tryz.f29.results.toList = [ResultVar.tmp 4] := by kernel_rfl
theorem ts29 : Tryz.f29.resultTypes.toList = [3] := by kernel_rfl
theorem nt29 : Tryz.f29.ntmps = 12 := by kernel_rfl
theorem M11 : Z.M 11 = [Mode.ro, Mode.ro] := by kernel_rfl
theorem K11 : Z.okF 11 = true := by kernel_rfl
theorem rs11 : Tryz.f11.results.toList = [ResultVar.tmp 4] := by kernel_rfl
theorem ts11 : Tryz.f11.resultTypes.toList = [3] := by kernel_rfl
theorem nt11 : Tryz.f11.ntmps = 12 := by kernel_rfl
theorem M62 : Z.M 62 = [Mode.ro, Mode.ro, Mode.ro] := by kernel_rfl
theorem K62 : Z.okF 62 = true := by kernel_rfl
theorem rs62 : Tryz.f62.results.toList = [ResultVar.tmp 6] := by kernel_rfl
theorem ts62 : Tryz.f62.resultTypes.toList = [4] := by kernel_rfl
theorem nt62 : Tryz.f62.ntmps = 15 := by kernel_rfl
theorem M60 : Z.M 60 = [Mode.ro] := by kernel_rfl
theorem K60 : Z.okF 60 = true := by kernel_rfl
theorem L60_2 : (Z.H 60).loop 2 = { tm := [3, 0], rt := [], mv := [3, 0] } := by kernel_rfl
theorem b60_2 : headId (lpc Tryz.f60 2) = 2 := by kernel_rfl
theorem B60_0 : (Z.H 60).blk 0 = some { tm := [0], rt := [], mv := [0] } := by kernel_rfl
theorem B60_1 : (Z.H 60).blk 1 = some { tm := [3, 0], rt := [], mv := [3, 0] } := by kernel_rfl
theorem rs60 : Tryz.f60.results.toList = [ResultVar.tmp 2] := by kernel_rfl
theorem ts60 : Tryz.f60.resultTypes.toList = [4] := by kernel_rfl
theorem nt60 : Tryz.f60.ntmps = 23 := by kernel_rfl
theorem M30 : Z.M 30 = [Mode.ro] := by kernel_rfl
theorem K30 : Z.okF 30 = true := by kernel_rfl
theorem L30_7 : (Z.H 30).loop 7 = { tm := [8, 7, 0, 6, 5], rt := [], mv := [8, 7, 0, 6, 5] } := by kernel_rfl
theorem b30_7 : headId (lpc Tryz.f30 7) = 7 := by kernel_rfl
theorem B30_0 : (Z.H 30).blk 0 = some { tm := [6, 5], rt := [], mv := [6, 5] } := by kernel_rfl
theorem B30_1 : (Z.H 30).blk 1 = some { tm := [8, 7, 0, 6, 5], rt := [], mv := [8, 7, 0, 6, 5] } := by kernel_rfl
theorem rs30 : Tryz.f30.results.toList = [ResultVar.tmp 2, ResultVar.tmp 3, ResultVar.tmp 4] := by kernel_rfl
theorem ts30 : Tryz.f30.resultTypes.toList = [4, 51, 4] := by kernel_rfl
theorem nt30 : Tryz.f30.ntmps = 67 := by kernel_rfl
theorem M64 : Z.M 64 = [Mode.ro] := by kernel_rfl
theorem K64 : Z.okF 64 = true := by kernel_rfl
theorem rs64 : Tryz.f64.results.toList = [ResultVar.tmp 2] := by kernel_rfl
theorem ts64 : Tryz.f64.resultTypes.toList = [4] := by kernel_rfl
theorem nt64 : Tryz.f64.ntmps = 5 := by kernel_rfl
theorem M106 : Z.M 106 = [Mode.ro] := by kernel_rfl
theorem K106 : Z.okF 106 = true := by kernel_rfl
theorem rs106 : Tryz.f106.results.toList = [ResultVar.tmp 2] := by kernel_rfl
theorem ts106 : Tryz.f106.resultTypes.toList = [4] := by kernel_rfl
theorem nt106 : Tryz.f106.ntmps = 47 := by kernel_rfl
theorem M84 : Z.M 84 = [Mode.ro] := by kernel_rfl
theorem K84 : Z.okF 84 = true := by kernel_rfl
theorem L84_8 : (Z.H 84).loop 8 = { tm := [3, 1], rt := [], mv := [3, 1] } := by kernel_rfl
theorem b84_8 : headId (lpc Tryz.f84 8) = 8 := by kernel_rfl
theorem B84_0 : (Z.H 84).blk 0 = some { tm := [], rt := [], mv := [] } := by kernel_rfl
theorem B84_1 : (Z.H 84).blk 1 = some { tm := [3, 1], rt := [], mv := [3, 1] } := by kernel_rfl
theorem T84_11 : (Z.H 84).tree 11 = Tr.take 0 (Tr.take 1 (Tr.eff 2 [] (Tr.take 3 (Tr.take 4 (Tr.take 5 (Tr.take 6 (Tr.eff 7 [] (Tr.take 8 (Tr.take 9 (Tr.take 10 (Tr.take 11 (Tr.take 12 (Tr.take 13 (Tr.take 14 (Tr.take 15 (Tr.take 16 (Tr.take 17 (Tr.take 18 (Tr.take 19 (Tr.take 20 (Tr.take 21 (Tr.take 22 (Tr.take 23 (Tr.take 24 (Tr.take 25 Tr.done))))))))))))))))))))))))) := by kernel_rfl
theorem rs84 : Tryz.f84.results.toList = [ResultVar.tmp 2] := by kernel_rfl
theorem ts84 : Tryz.f84.resultTypes.toList = [4] := by kernel_rfl
theorem nt84 : Tryz.f84.ntmps = 117 := by kernel_rfl
theorem M85 : Z.M 85 = [Mode.ro] := by kernel_rfl
theorem K85 : Z.okF 85 = true := by kernel_rfl
theorem L85_3 : (Z.H 85).loop 3 = { tm := [1, 5, 4], rt := [], mv := [1, 5, 4] } := by kernel_rfl
theorem b85_3 : headId (lpc Tryz.f85 3) = 3 := by kernel_rfl
theorem L85_10 : (Z.H 85).loop 10 = { tm := [7, 6, 1, 5, 4], rt := [], mv := [7, 6, 1, 5, 4] } := by kernel_rfl
theorem b85_10 : headId (lpc Tryz.f85 10) = 10 := by kernel_rfl
theorem B85_0 : (Z.H 85).blk 0 = some { tm := [4], rt := [], mv := [4] } := by kernel_rfl
theorem B85_1 : (Z.H 85).blk 1 = some { tm := [1, 5, 4], rt := [], mv := [1, 5, 4] } := by kernel_rfl
theorem B85_2 : (Z.H 85).blk 2 = some { tm := [1, 5, 4], rt := [], mv := [1, 5, 4] } := by kernel_rfl
theorem B85_3 : (Z.H 85).blk 3 = some { tm := [7, 6, 1, 5, 4], rt := [], mv := [7, 6, 1, 5, 4] } := by kernel_rfl
theorem rs85 : Tryz.f85.results.toList = [ResultVar.tmp 2, ResultVar.tmp 3] := by kernel_rfl
theorem ts85 : Tryz.f85.resultTypes.toList = [121, 4] := by kernel_rfl
theorem nt85 : Tryz.f85.ntmps = 65 := by kernel_rfl
theorem M61 : Z.M 61 = [Mode.ro] := by kernel_rfl
theorem K61 : Z.okF 61 = true := by kernel_rfl
theorem L61_5 : (Z.H 61).loop 5 = { tm := [4, 3, 1], rt := [], mv := [4, 3, 1] } := by kernel_rfl
theorem b61_5 : headId (lpc Tryz.f61 5) = 5 := by kernel_rfl
theorem L61_10 : (Z.H 61).loop 10 = { tm := [5, 4, 3, 1], rt := [], mv := [5, 4, 3, 1] } := by kernel_rfl
theorem b61_10 : headId (lpc Tryz.f61 10) = 10 := by kernel_rfl
theorem L61_17 : (Z.H 61).loop 17 = { tm := [8, 6, 3, 1, 7], rt := [], mv := [8, 6, 3, 1, 7] } := by kernel_rfl
theorem b61_17 : headId (lpc Tryz.f61 17) = 17 := by kernel_rfl
theorem B61_0 : (Z.H 61).blk 0 = some { tm := [3, 1], rt := [], mv := [3, 1] } := by kernel_rfl
theorem B61_1 : (Z.H 61).blk 1 = some { tm := [4, 3, 1], rt := [], mv := [4, 3, 1] } := by kernel_rfl
theorem B61_2 : (Z.H 61).blk 2 = some { tm := [4, 3, 1], rt := [], mv := [4, 3, 1] } := by kernel_rfl
theorem B61_3 : (Z.H 61).blk 3 = some { tm := [5, 4, 3, 1], rt := [], mv := [5, 4, 3, 1] } := by kernel_rfl
theorem B61_4 : (Z.H 61).blk 4 = some { tm := [7], rt := [], mv := [7] } := by kernel_rfl
theorem B61_5 : (Z.H 61).blk 5 = some { tm := [8, 6, 3, 1, 7], rt := [], mv := [8, 6, 3, 1, 7] } := by kernel_rfl
theorem T61_12 : (Z.H 61).tree 12 = Tr.take 0 (Tr.take 1 (Tr.take 2 (Tr.take 3 (Tr.take 4 (Tr.take 5 (Tr.take 6 (Tr.take 7 (Tr.take 8 (Tr.take 9 (Tr.take 10 (Tr.take 11 (Tr.take 12 (Tr.take 13 (Tr.take 14 (Tr.take 15 (Tr.take 16 (Tr.take 17 (Tr.take 18 (Tr.take 19 (Tr.take 20 (Tr.take 21 (Tr.take 22 (Tr.take 23 (Tr.take 24 (Tr.take 25 (Tr.eff 26 [] Tr.done)))))))))))))))))))))))))) := by kernel_rfl
theorem T61_20 : (Z.H 61).tree 20 = Tr.take 0 (Tr.take 1 (Tr.take 2 (Tr.take 3 (Tr.take 4 (Tr.take 5 (Tr.take 6 (Tr.take 7 (Tr.take 8 (Tr.take 9 (Tr.take 10 (Tr.take 11 (Tr.take 12 (Tr.take 13 (Tr.take 14 (Tr.take 15 (Tr.take 16 (Tr.take 17 (Tr.take 18 (Tr.take 19 (Tr.take 20 (Tr.take 21 (Tr.take 22 (Tr.take 23 (Tr.take 24 (Tr.take 25 (Tr.take 26 (Tr.take 27 (Tr.take 28 (Tr.take 29 (Tr.take 30 (Tr.take 31 (Tr.take 32 (Tr.take 33 (Tr.take 34 (Tr.take 35 (Tr.take 36 (Tr.take 37 (Tr.take 38 (Tr.take 39 (Tr.take 40 (Tr.take 41 (Tr.take 42 (Tr.take 43 (Tr.take 44 (Tr.take 45 (Tr.take 46 (Tr.take 47 (Tr.take 48 (Tr.take 49 (Tr.take 50 Tr.done)))))))))))))))))))))))))))))))))))))))))))))))))) := by kernel_rfl
theorem rs61 : Tryz.f61.results.toList = [ResultVar.tmp 2] := by kernel_rfl
theorem ts61 : Tryz.f61.resultTypes.toList = [4] := by kernel_rfl
theorem nt61 : Tryz.f61.ntmps = 138 := by kernel_rfl
theorem M63 : Z.M 63 = [Mode.ro] := by kernel_rfl
theorem K63 : Z.okF 63 = true := by kernel_rfl
theorem L63_3 : (Z.H 63).loop 3 = { tm := [4, 1, 3], rt := [], mv := [4, 1, 3] } := by kernel_rfl
theorem b63_3 : headId (lpc Tryz.f63 3) = 3 := by kernel_rfl
theorem B63_0 : (Z.H 63).blk 0 = some { tm := [3], rt := [], mv := [3] } := by kernel_rfl
theorem B63_1 : (Z.H 63).blk 1 = some { tm := [4, 1, 3], rt := [], mv := [4, 1, 3] } := by kernel_rfl
theorem rs63 : Tryz.f63.results.toList = [ResultVar.tmp 2] := by kernel_rfl
theorem ts63 : Tryz.f63.resultTypes.toList = [3] := by kernel_rfl
theorem nt63 : Tryz.f63.ntmps = 21 := by kernel_rfl
theorem M31 : Z.M 31 = [Mode.ro] := by kernel_rfl
theorem K31 : Z.okF 31 = true := by kernel_rfl
theorem T31_5 : (Z.H 31).tree 5 = Tr.take 0 (Tr.take 1 (Tr.take 2 (Tr.take 3 (Tr.take 4 (Tr.take 5 (Tr.take 6 (Tr.take 7 (Tr.take 8 (Tr.eff 9 [8, 7, 6, 5, 4, 3, 2, 1, 0] (Tr.eff 10 [] Tr.done)))))))))) := by kernel_rfl
theorem rs31 : Tryz.f31.results.toList = [ResultVar.tmp 2] := by kernel_rfl
theorem ts31 : Tryz.f31.resultTypes.toList = [4] := by kernel_rfl
theorem nt31 : Tryz.f31.ntmps = 61 := by kernel_rfl
theorem M32 : Z.M 32 = [Mode.ro] := by kernel_rfl
theorem K32 : Z.okF 32 = true := by kernel_rfl
theorem L32_2 : (Z.H 32).loop 2 = { tm := [3, 1], rt := [], mv := [3, 1] } := by kernel_rfl
theorem b32_2 : headId (lpc Tryz.f32 2) = 2 := by kernel_rfl
theorem B32_0 : (Z.H 32).blk 0 = some { tm := [1], rt := [], mv := [1] } := by kernel_rfl
theorem B32_1 : (Z.H 32).blk 1 = some { tm := [3, 1], rt := [], mv := [3, 1] } := by kernel_rfl
theorem T32_4 : (Z.H 32).tree 4 = Tr.take 0 (Tr.take 1 (Tr.take 2 (Tr.take 3 (Tr.take 4 (Tr.eff 5 [] (Tr.take 6 (Tr.take 7 (Tr.take 8 (Tr.take 9 (Tr.take 10 (Tr.take 11 (Tr.take 12 (Tr.take 13 (Tr.take 14 (Tr.take 15 (Tr.take 16 (Tr.take 17 (Tr.take 18 (Tr.take 19 (Tr.take 20 (Tr.take 21 (Tr.take 22 (Tr.take 23 (Tr.take 24 Tr.done)))))))))))))))))))))))) := by kernel_rfl
theorem rs32 : Tryz.f32.results.toList = [ResultVar.tmp 2] := by kernel_rfl
theorem ts32 : Tryz.f32.resultTypes.toList = [4] := by kernel_rfl
theorem nt32 : Tryz.f32.ntmps = 50 := by kernel_rfl
theorem M65 : Z.M 65 = [Mode.ro, Mode.ro] := by kernel_rfl
theorem K65 : Z.okF 65 = true := by kernel_rfl
theorem rs65 : Tryz.f65.results.toList = [ResultVar.tmp 4] := by kernel_rfl
theorem ts65 : Tryz.f65.resultTypes.toList = [4] := by kernel_rfl
theorem nt65 : Tryz.f65.ntmps = 20 := by kernel_rfl
theorem M33 : Z.M 33 = [Mode.ro, Mode.ro] := by kernel_rfl
theorem K33 : Z.okF 33 = true := by kernel_rfl
theorem T33_1 : (Z.H 33).tree 1 = Tr.take 0 (Tr.take 1 (Tr.take 2 (Tr.take 3 (Tr.take 4 (Tr.take 5 (Tr.eff 6 [] (Tr.take 7 (Tr.take 8 (Tr.take 9 (Tr.take 10 (Tr.take 11 (Tr.take 12 (Tr.take 13 (Tr.take 14 (Tr.take 15 (Tr.eff 16 [] (Tr.take 17 (Tr.eff 18 [] Tr.done)))))))))))))))))) := by kernel_rfl
theorem rs33 : Tryz.f33.results.toList = [ResultVar.tmp 4] := by kernel_rfl
theorem ts33 : Tryz.f33.resultTypes.toList = [4] := by kernel_rfl
theorem nt33 : Tryz.f33.ntmps = 23 := by kernel_rfl
theorem M48 : Z.M 48 = [Mode.ro, Mode.ro] := by kernel_rfl
theorem K48 : Z.okF 48 = true := by kernel_rfl
theorem rs48 : Tryz.f48.results.toList = [ResultVar.cell 4 32] := by kernel_rfl
theorem ts48 : Tryz.f48.resultTypes.toList = [32] := by kernel_rfl
theorem nt48 : Tryz.f48.ntmps = 22 := by kernel_rfl
theorem M49 : Z.M 49 = [Mode.ro, Mode.ro] := by kernel_rfl
theorem K49 : Z.okF 49 = true := by kernel_rfl
theorem L49_7 : (Z.H 49).loop 7 = { tm := [6, 5, 3, 4], rt := [], mv := [6, 5, 3, 4] } := by kernel_rfl
theorem b49_7 : headId (lpc Tryz.f49 7) = 7 := by kernel_rfl
theorem L49_10 : (Z.H 49).loop 10 = { tm := [7, 6, 5, 3, 4], rt := [], mv := [7, 6, 5, 3, 4] } := by kernel_rfl
theorem b49_10 : headId (lpc Tryz.f49 10) = 10 := by kernel_rfl
theorem B49_0 : (Z.H 49).blk 0 = some { tm := [3, 4], rt := [], mv := [3, 4] } := by kernel_rfl
theorem B49_1 : (Z.H 49).blk 1 = some { tm := [6, 5, 3, 4], rt := [], mv := [6, 5, 3, 4] } := by kernel_rfl
theorem B49_2 : (Z.H 49).blk 2 = some { tm := [6, 5, 3, 4], rt := [], mv := [6, 5, 3, 4] } := by kernel_rfl
theorem B49_3 : (Z.H 49).blk 3 = some { tm := [7, 6, 5, 3, 4], rt := [], mv := [7, 6, 5, 3, 4] } := by kernel_rfl
theorem T49_12 : (Z.H 49).tree 12 = Tr.take 0 (Tr.take 1 (Tr.take 2 (Tr.take 3 (Tr.take 4 (Tr.take 5 (Tr.take 6 (Tr.take 7 (Tr.take 8 (Tr.take 9 (Tr.take 10 (Tr.take 11 (Tr.take 12 Tr.done)))))))))))) := by kernel_rfl
theorem rs49 : Tryz.f49.results.toList = [ResultVar.cell 4 32] := by kernel_rfl
theorem ts49 : Tryz.f49.resultTypes.toList = [32] := by kernel_rfl
theorem nt49 : Tryz.f49.ntmps = 65 := by kernel_rfl
theorem M144 : Z.M 144 = [Mode.ro, Mode.ro] := by kernel_rfl
theorem K144 : Z.okF 144 = true := by kernel_rfl
theorem L144_2 : (Z.H 144).loop 2 = { tm := [5, 1, 0], rt := [], mv := [5, 1, 0] } := by kernel_rfl
theorem b144_2 : headId (lpc Tryz.f144 2) = 2 := by kernel_rfl
theorem B144_0 : (Z.H 144).blk 0 = some { tm := [], rt := [], mv := [] } := by kernel_rfl
theorem B144_1 : (Z.H 144).blk 1 = some { tm := [5, 1, 0], rt := [], mv := [5, 1, 0] } := by kernel_rfl
theorem rs144 : Tryz.f144.results.toList = [ResultVar.tmp 4] := by kernel_rfl
theorem ts144 : Tryz.f144.resultTypes.toList = [4] := by kernel_rfl
theorem nt144 : Tryz.f144.ntmps = 18 := by kernel_rfl
theorem M127 : Z.M 127 = [Mode.ro, Mode.ro, Mode.ro, Mode.ro, Mode.ro] := by kernel_rfl
theorem K127 : Z.okF 127 = true := by kernel_rfl
theorem B127_0 : (Z.H 127).blk 0 = some { tm := [11, 4], rt := [], mv := [11, 4] } := by kernel_rfl
theorem rs127 : Tryz.f127.results.toList = [ResultVar.tmp 10] := by kernel_rfl
theorem ts127 : Tryz.f127.resultTypes.toList = [4] := by kernel_rfl
theorem nt127 : Tryz.f127.ntmps = 49 := by kernel_rfl
theorem M107 : Z.M 107 = [Mode.ro, Mode.ro, Mode.ro, Mode.ro] := by kernel_rfl
theorem K107 : Z.okF 107 = true := by kernel_rfl
theorem rs107 : Tryz.f107.results.toList = [ResultVar.tmp 8] := by kernel_rfl
theorem ts107 : Tryz.f107.resultTypes.toList = [4] := by kernel_rfl
theorem nt107 : Tryz.f107.ntmps = 24 := by kernel_rfl
theorem M86 : Z.M 86 = [Mode.ro, Mode.ro, Mode.ro, Mode.ro] := by kernel_rfl
theorem K86 : Z.okF 86 = true := by kernel_rfl
theorem B86_0 : (Z.H 86).blk 0 = some { tm := [], rt := [], mv := [] } := by kernel_rfl
theorem rs86 : Tryz.f86.results.toList = [ResultVar.tmp 8] := by kernel_rfl
theorem ts86 : Tryz.f86.resultTypes.toList = [3] := by kernel_rfl
theorem nt86 : Tryz.f86.ntmps = 24 := by kernel_rfl
theorem M108 : Z.M 108 = [Mode.ro, Mode.ro] := by kernel_rfl
theorem K108 : Z.okF 108 = true := by kernel_rfl
theorem L108_2 : (Z.H 108).loop 2 = { tm := [5, 1, 2], rt := [], mv := [5, 1, 2] } := by kernel_rfl
theorem b108_2 : headId (lpc Tryz.f108 2) = 2 := by kernel_rfl
theorem B108_0 : (Z.H 108).blk 0 = some { tm := [], rt := [], mv := [] } := by kernel_rfl
theorem B108_1 : (Z.H 108).blk 1 = some { tm := [5, 1, 2], rt := [], mv := [5, 1, 2] } := by kernel_rfl
theorem rs108 : Tryz.f108.results.toList = [ResultVar.tmp 4] := by kernel_rfl
theorem ts108 : Tryz.f108.resultTypes.toList = [3] := by kernel_rfl
theorem nt108 : Tryz.f108.ntmps = 22 := by kernel_rfl
theorem M87 : Z.M 87 = [Mode.ro, Mode.ro, Mode.ro, Mode.ro] := by kernel_rfl
theorem K87 : Z.okF 87 = true := by kernel_rfl
theorem rs87 : Tryz.f87.results.toList = [ResultVar.tmp 8, ResultVar.tmp 9] := by kernel_rfl
theorem ts87 : Tryz.f87.resultTypes.toList = [3, 3] := by kernel_rfl
theorem nt87 : Tryz.f87.ntmps = 38 := by kernel_rfl
theorem M66 : Z.M 66 = [Mode.ro, Mode.ro, Mode.ro, Mode.ro] := by kernel_rfl
theorem K66 : Z.okF 66 = true := by kernel_rfl
theorem T66_2 : (Z.H 66).tree 2 = Tr.take 0 (Tr.take 1 (Tr.take 2 (Tr.take 3 (Tr.take 4 (Tr.take 5 (Tr.take 6 (Tr.take 7 (Tr.take 8 (Tr.eff 9 [] (Tr.eff 10 [] Tr.done)))))))))) := by kernel_rfl
theorem T66_5 : (Z.H 66).tree 5 = Tr.take 0 (Tr.take 1 (Tr.take 2 (Tr.eff 3 [0] (Tr.eff 4 [] (Tr.eff 5 [] (Tr.eff 6 [] Tr.done)))))) := by kernel_rfl
theorem T66_6 : (Z.H 66).tree 6 = Tr.take 0 (Tr.take 1 (Tr.take 2 (Tr.take 3 (Tr.take 4 (Tr.take 5 (Tr.take 6 (Tr.take 7 (Tr.take 8 (Tr.take 9 (Tr.eff 10 [] (Tr.take 11 (Tr.take 12 (Tr.take 13 (Tr.eff 14 [13] (Tr.eff 15 [] Tr.done))))))))))))))) := by kernel_rfl
theorem rs66 : Tryz.f66.results.toList = [ResultVar.cell 8 32, ResultVar.tmp 9] := by kernel_rfl
theorem ts66 : Tryz.f66.resultTypes.toList = [32, 3] := by kernel_rfl
theorem nt66 : Tryz.f66.ntmps = 58 := by kernel_rfl
theorem M34 : Z.M 34 = [Mode.ro, Mode.ro, Mode.ro, Mode.ro, Mode.ro] := by kernel_rfl
theorem K34 : Z.okF 34 = true := by kernel_rfl
theorem L34_5 : (Z.H 34).loop 5 = { tm := [12, 4, 6, 5, 7, 10], rt := [], mv := [12, 4, 6, 5, 7, 10] } := by kernel_rfl
theorem b34_5 : headId (lpc Tryz.f34 5) = 5 := by kernel_rfl
theorem B34_0 : (Z.H 34).blk 0 = some { tm := [7, 10], rt := [], mv := [7, 10] } := by kernel_rfl
theorem B34_1 : (Z.H 34).blk 1 = some { tm := [12, 4, 6, 5, 7, 10], rt := [], mv := [12, 4, 6, 5, 7, 10] } := by kernel_rfl
theorem T34_7 : (Z.H 34).tree 7 = Tr.take 0 (Tr.take 1 (Tr.take 2 (Tr.take 3 (Tr.take 4 (Tr.take 5 (Tr.take 6 (Tr.alt 7 [] (Tr.take 8 (Tr.take 9 (Tr.take 10 (Tr.eff 11 [10, 9, 8, 6, 5, 4, 3, 2, 1, 0] (Tr.eff 12 [10] (Tr.eff 13 [] Tr.done)))))) (Tr.eff 11 [6, 5, 4, 3, 2, 1, 0] (Tr.eff 7 [] (Tr.take 8 (Tr.take 9 (Tr.take 10 (Tr.eff 12 [10] (Tr.eff 13 [] Tr.done)))))))))))))) := by kernel_rfl
theorem rs34 : Tryz.f34.results.toList = [ResultVar.cell 10 32, ResultVar.tmp 11] := by kernel_rfl
theorem ts34 : Tryz.f34.resultTypes.toList = [32, 3] := by kernel_rfl
theorem nt34 : Tryz.f34.ntmps = 43 := by kernel_rfl
theorem M12 : Z.M 12 = [Mode.ro, Mode.ro, Mode.ro, Mode.ro] := by kernel_rfl
theorem K12 : Z.okF 12 = true := by kernel_rfl
theorem rs12 : Tryz.f12.results.toList = [ResultVar.cell 8 32, ResultVar.tmp 9] := by kernel_rfl
theorem ts12 : Tryz.f12.resultTypes.toList = [32, 3] := by kernel_rfl
theorem nt12 : Tryz.f12.ntmps = 46 := by kernel_rfl
theorem M145 : Z.M 145 = [Mode.ro] := by kernel_rfl
theorem K145 : Z.okF 145 = true := by kernel_rfl
theorem rs145 : Tryz.f145.results.toList = [ResultVar.cell 2 114] := by kernel_rfl
theorem ts145 : Tryz.f145.resultTypes.toList = [114] := by kernel_rfl
theorem nt145 : Tryz.f145.ntmps = 11 := by kernel_rfl
theorem M128 : Z.M 128 = [Mode.ro] := by kernel_rfl
theorem K128 : Z.okF 128 = true := by kernel_rfl
theorem L128_3 : (Z.H 128).loop 3 = { tm := [4, 0, 3], rt := [], mv := [4, 0, 3] } := by kernel_rfl
theorem b128_3 : headId (lpc Tryz.f128 3) = 3 := by kernel_rfl
theorem B128_0 : (Z.H 128).blk 0 = some { tm := [3], rt := [], mv := [3] } := by kernel_rfl
theorem B128_1 : (Z.H 128).blk 1 = some { tm := [4, 0, 3], rt := [], mv := [4, 0, 3] } := by kernel_rfl
theorem rs128 : Tryz.f128.results.toList = [ResultVar.tmp 2] := by kernel_rfl
theorem ts128 : Tryz.f128.resultTypes.toList = [60] := by kernel_rfl
theorem nt128 : Tryz.f128.ntmps = 23 := by kernel_rfl
theorem M109 : Z.M 109 = [Mode.ro] := by kernel_rfl
theorem K109 : Z.okF 109 = true := by kernel_rfl
theorem rs109 : Tryz.f109.results.toList = [ResultVar.cell 2 62] := by kernel_rfl
theorem ts109 : Tryz.f109.resultTypes.toList = [62] := by kernel_rfl
theorem nt109 : Tryz.f109.ntmps = 33 := by kernel_rfl
theorem M88 : Z.M 88 = [Mode.ro] := by kernel_rfl
theorem K88 : Z.okF 88 = true := by kernel_rfl
theorem L88_3 : (Z.H 88).loop 3 = { tm := [4, 0, 3], rt := [], mv := [4, 0, 3] } := by kernel_rfl
theorem b88_3 : headId (lpc Tryz.f88 3) = 3 := by kernel_rfl
theorem B88_0 : (Z.H 88).blk 0 = some { tm := [3], rt := [], mv := [3] } := by kernel_rfl
theorem B88_1 : (Z.H 88).blk 1 = some { tm := [4, 0, 3], rt := [], mv := [4, 0, 3] } := by kernel_rfl
theorem rs88 : Tryz.f88.results.toList = [ResultVar.tmp 2] := by kernel_rfl
theorem ts88 : Tryz.f88.resultTypes.toList = [63] := by kernel_rfl
theorem nt88 : Tryz.f88.ntmps = 23 := by kernel_rfl
theorem M67 : Z.M 67 = [Mode.ro] := by kernel_rfl
theorem K67 : Z.okF 67 = true := by kernel_rfl
theorem rs67 : Tryz.f67.results.toList = [ResultVar.cell 2 65] := by kernel_rfl
theorem ts67 : Tryz.f67.resultTypes.toList = [65] := by kernel_rfl
theorem nt67 : Tryz.f67.ntmps = 9 := by kernel_rfl
theorem M35 : Z.M 35 = [Mode.ro] := by kernel_rfl
theorem K35 : Z.okF 35 = true := by kernel_rfl
theorem L35_3 : (Z.H 35).loop 3 = { tm := [4, 0, 3], rt := [], mv := [4, 0, 3] } := by kernel_rfl
theorem b35_3 : headId (lpc Tryz.f35 3) = 3 := by kernel_rfl
theorem B35_0 : (Z.H 35).blk 0 = some { tm := [3], rt := [], mv := [3] } := by kernel_rfl
theorem B35_1 : (Z.H 35).blk 1 = some { tm := [4, 0, 3], rt := [], mv := [4, 0, 3] } := by kernel_rfl
theorem rs35 : Tryz.f35.results.toList = [ResultVar.tmp 2] := by kernel_rfl
theorem ts35 : Tryz.f35.resultTypes.toList = [35] := by kernel_rfl
theorem nt35 : Tryz.f35.ntmps = 23 := by kernel_rfl
theorem M13 : Z.M 13 = [Mode.ro] := by kernel_rfl
theorem K13 : Z.okF 13 = true := by kernel_rfl
theorem rs13 : Tryz.f13.results.toList = [ResultVar.cell 2 37] := by kernel_rfl
theorem ts13 : Tryz.f13.resultTypes.toList = [37] := by kernel_rfl
theorem nt13 : Tryz.f13.ntmps = 12 := by kernel_rfl
theorem M36 : Z.M 36 = [Mode.ro] := by kernel_rfl
theorem K36 : Z.okF 36 = true := by kernel_rfl
theorem L36_3 : (Z.H 36).loop 3 = { tm := [4, 0, 3], rt := [], mv := [4, 0, 3] } := by kernel_rfl
theorem b36_3 : headId (lpc Tryz.f36 3) = 3 := by kernel_rfl
theorem B36_0 : (Z.H 36).blk 0 = some { tm := [3], rt := [], mv := [3] } := by kernel_rfl
theorem B36_1 : (Z.H 36).blk 1 = some { tm := [4, 0, 3], rt := [], mv := [4, 0, 3] } := by kernel_rfl
theorem rs36 : Tryz.f36.results.toList = [ResultVar.tmp 2] := by kernel_rfl
theorem ts36 : Tryz.f36.resultTypes.toList = [25] := by kernel_rfl
theorem nt36 : Tryz.f36.ntmps = 22 := by kernel_rfl
theorem M14 : Z.M 14 = [Mode.ro] := by kernel_rfl
theorem K14 : Z.okF 14 = true := by kernel_rfl
theorem rs14 : Tryz.f14.results.toList = [ResultVar.cell 2 39] := by kernel_rfl
theorem ts14 : Tryz.f14.resultTypes.toList = [39] := by kernel_rfl
theorem nt14 : Tryz.f14.ntmps = 15 := by kernel_rfl
theorem M15 : Z.M 15 = [Mode.ro] := by kernel_rfl
theorem K15 : Z.okF 15 = true := by kernel_rfl
theorem rs15 : Tryz.f15.results.toList = [ResultVar.cell 2 32] := by kernel_rfl
theorem ts15 : Tryz.f15.resultTypes.toList = [32] := by kernel_rfl
theorem nt15 : Tryz.f15.ntmps = 11 := by kernel_rfl
theorem M100 : Z.M 100 = [Mode.ro, Mode.ro] := by kernel_rfl
theorem K100 : Z.okF 100 = true := by kernel_rfl
theorem rs100 : Tryz.f100.results.toList = [ResultVar.tmp 4] := by kernel_rfl
theorem ts100 : Tryz.f100.resultTypes.toList = [4] := by kernel_rfl
theorem nt100 : Tryz.f100.ntmps = 18 := by kernel_rfl
theorem M78 : Z.M 78 = [Mode.ro, Mode.ro] := by kernel_rfl
theorem K78 : Z.okF 78 = true := by kernel_rfl
theorem rs78 : Tryz.f78.results.toList = [ResultVar.tmp 4, ResultVar.tmp 5] := by kernel_rfl
theorem ts78 : Tryz.f78.resultTypes.toList = [9, 4] := by kernel_rfl
theorem nt78 : Tryz.f78.ntmps = 15 := by kernel_rfl
theorem M51 : Z.M 51 = [Mode.ro, Mode.ro] := by kernel_rfl
theorem K51 : Z.okF 51 = true := by kernel_rfl
theorem rs51 : Tryz.f51.results.toList = [ResultVar.tmp 4, ResultVar.tmp 5] := by kernel_rfl
theorem ts51 : Tryz.f51.resultTypes.toList = [9, 4] := by kernel_rfl
theorem nt51 : Tryz.f51.ntmps = 11 := by kernel_rfl
theorem M79 : Z.M 79 = [Mode.ro, Mode.ro, Mode.ro, Mode.ro] := by kernel_rfl
theorem K79 : Z.okF 79 = true := by kernel_rfl
theorem L79_11 : (Z.H 79).loop 11 = { tm := [3, 1, 2, 0, 9, 10], rt := [], mv := [3, 1, 2, 0, 9, 10] } := by kernel_rfl
theorem b79_11 : headId (lpc Tryz.f79 11) = 11 := by kernel_rfl
theorem B79_0 : (Z.H 79).blk 0 = some { tm := [0, 9, 10], rt := [], mv := [0, 9, 10] } := by kernel_rfl
theorem B79_1 : (Z.H 79).blk 1 = some { tm := [3, 1, 2, 0, 9, 10], rt := [], mv := [3, 1, 2, 0, 9, 10] } := by kernel_rfl
theorem rs79 : Tryz.f79.results.toList = [ResultVar.tmp 8] := by kernel_rfl
theorem ts79 : Tryz.f79.resultTypes.toList = [51] := by kernel_rfl
theorem nt79 : Tryz.f79.ntmps = 66 := by kernel_rfl
theorem M52 : Z.M 52 = [Mode.ro, Mode.ro] := by kernel_rfl
theorem K52 : Z.okF 52 = true := by kernel_rfl
theorem rs52 : Tryz.f52.results.toList = [ResultVar.tmp 4] := by kernel_rfl
theorem ts52 : Tryz.f52.resultTypes.toList = [51] := by kernel_rfl
theorem nt52 : Tryz.f52.ntmps = 8 := by kernel_rfl
theorem M70 : Z.M 70 = [Mode.ro, Mode.ro, Mode.ro] := by kernel_rfl
theorem K70 : Z.okF 70 = true := by kernel_rfl
theorem rs70 : Tryz.f70.results.toList = [ResultVar.tmp 6] := by kernel_rfl
theorem ts70 : Tryz.f70.resultTypes.toList = [4] := by kernel_rfl
theorem nt70 : Tryz.f70.ntmps = 15 := by kernel_rfl
theorem M82 : Z.M 82 = [Mode.ro] := by kernel_rfl
theorem K82 : Z.okF 82 = true := by kernel_rfl
theorem rs82 : Tryz.f82.results.toList = [ResultVar.tmp 2] := by kernel_rfl
theorem ts82 : Tryz.f82.resultTypes.toList = [4] := by kernel_rfl
theorem nt82 : Tryz.f82.ntmps = 9 := by kernel_rfl
theorem M55 : Z.M 55 = [Mode.ro] := by kernel_rfl
theorem K55 : Z.okF 55 = true := by kernel_rfl
theorem rs55 : Tryz.f55.results.toList = [ResultVar.tmp 2] := by kernel_rfl
theorem ts55 : Tryz.f55.resultTypes.toList = [4] := by kernel_rfl
theorem nt55 : Tryz.f55.ntmps = 11 := by kernel_rfl
theorem M54 : Z.M 54 = [Mode.ro] := by kernel_rfl
theorem K54 : Z.okF 54 = true := by kernel_rfl
theorem rs54 : Tryz.f54.results.toList = [ResultVar.tmp 2] := by kernel_rfl
theorem ts54 : Tryz.f54.resultTypes.toList = [4] := by kernel_rfl
theorem nt54 : Tryz.f54.ntmps = 10 := by kernel_rfl
theorem M80 : Z.M 80 = [Mode.ro, Mode.ro] := by kernel_rfl
theorem K80 : Z.okF 80 = true := by kernel_rfl
theorem L80_2 : (Z.H 80).loop 2 = { tm := [7, 8, 0, 1], rt := [], mv := [7, 8, 0, 1] } := by kernel_rfl
theorem b80_2 : headId (lpc Tryz.f80 2) = 2 := by kernel_rfl
theorem B80_0 : (Z.H 80).blk 0 = some { tm := [], rt := [], mv := [] } := by kernel_rfl
theorem B80_1 : (Z.H 80).blk 1 = some { tm := [8, 7, 0, 1], rt := [], mv := [8, 7, 0, 1] } := by kernel_rfl
theorem rs80 : Tryz.f80.results.toList = [ResultVar.tmp 4] := by kernel_rfl
theorem ts80 : Tryz.f80.resultTypes.toList = [3] := by kernel_rfl
theorem nt80 : Tryz.f80.ntmps = 19 := by kernel_rfl
theorem M53 : Z.M 53 = [Mode.ro, Mode.ro] := by kernel_rfl
theorem K53 : Z.okF 53 = true := by kernel_rfl
theorem rs53 : Tryz.f53.results.toList = [ResultVar.tmp 4] := by kernel_rfl
theorem ts53 : Tryz.f53.resultTypes.toList = [4] := by kernel_rfl
theorem nt53 : Tryz.f53.ntmps = 9 := by kernel_rfl
theorem M23 : Z.M 23 = [Mode.ro] := by kernel_rfl
theorem K23 : Z.okF 23 = true := by kernel_rfl
theorem rs23 : Tryz.f23.results.toList = [ResultVar.tmp 2, ResultVar.tmp 3, ResultVar.tmp 4] := by kernel_rfl
theorem ts23 : Tryz.f23.resultTypes.toList = [4, 51, 4] := by kernel_rfl
theorem nt23 : Tryz.f23.ntmps = 27 := by kernel_rfl
theorem M89 : Z.M 89 = [Mode.ro] := by kernel_rfl
theorem K89 : Z.okF 89 = true := by kernel_rfl
theorem rs89 : Tryz.f89.results.toList = [ResultVar.tmp 2] := by kernel_rfl
theorem ts89 : Tryz.f89.resultTypes.toList = [4] := by kernel_rfl
theorem nt89 : Tryz.f89.ntmps = 47 := by kernel_rfl
theorem M68 : Z.M 68 = [Mode.ro] := by kernel_rfl
theorem K68 : Z.okF 68 = true := by kernel_rfl
theorem L68_6 : (Z.H 68).loop 6 = { tm := [29, 30, 28, 1, 4, 3], rt := [], mv := [29, 30, 28, 1, 4, 3] } := by kernel_rfl
theorem b68_6 : headId (lpc Tryz.f68 6) = 6 := by kernel_rfl
theorem L68_16 : (Z.H 68).loop 16 = { tm := [106, 107, 5, 6, 105, 30, 29, 28, 1, 4, 3], rt := [], mv := [106, 107, 5, 6, 105, 30, 29, 28, 1, 4, 3] } := by kernel_rfl
theorem b68_16 : headId (lpc Tryz.f68 16) = 16 := by kernel_rfl
theorem L68_25 : (Z.H 68).loop 25 = { tm := [164, 165, 4, 3, 163], rt := [], mv := [164, 165, 4, 3, 163] } := by kernel_rfl
theorem b68_25 : headId (lpc Tryz.f68 25) = 25 := by kernel_rfl
theorem L68_36 : (Z.H 68).loop 36 = { tm := [12, 11, 165, 164, 4, 3, 163], rt := [], mv := [12, 11, 165, 164, 4, 3, 163] } := by kernel_rfl
theorem b68_36 : headId (lpc Tryz.f68 36) = 36 := by kernel_rfl
theorem B68_0 : (Z.H 68).blk 0 = some { tm := [1, 4, 3], rt := [], mv := [1, 4, 3] } := by kernel_rfl
theorem B68_1 : (Z.H 68).blk 1 = some { tm := [30, 29, 28, 1, 4, 3], rt := [], mv := [30, 29, 28, 1, 4, 3] } := by kernel_rfl
theorem B68_2 : (Z.H 68).blk 2 = some { tm := [30, 29, 28, 1, 4, 3], rt := [], mv := [30, 29, 28, 1, 4, 3] } := by kernel_rfl
theorem B68_3 : (Z.H 68).blk 3 = some { tm := [107, 106, 5, 6, 105, 30, 29, 28, 1, 4, 3], rt := [], mv := [107, 106, 5, 6, 105, 30, 29, 28, 1, 4, 3] } := by kernel_rfl
theorem B68_4 : (Z.H 68).blk 4 = some { tm := [], rt := [], mv := [] } := by kernel_rfl
theorem B68_5 : (Z.H 68).blk 5 = some { tm := [165, 164, 4, 3, 163], rt := [], mv := [165, 164, 4, 3, 163] } := by kernel_rfl
theorem B68_6 : (Z.H 68).blk 6 = some { tm := [165, 164, 4, 3, 163], rt := [], mv := [165, 164, 4, 3, 163] } := by kernel_rfl
theorem B68_7 : (Z.H 68).blk 7 = some { tm := [165, 164, 4, 3, 163], rt := [], mv := [165, 164, 4, 3, 163] } := by kernel_rfl
theorem B68_8 : (Z.H 68).blk 8 = some { tm := [12, 11, 165, 164, 4, 3, 163], rt := [], mv := [12, 11, 165, 164, 4, 3, 163] } := by kernel_rfl
theorem T68_18 : (Z.H 68).tree 18 = Tr.take 0 (Tr.take 1 (Tr.eff 2 [] (Tr.take 3 (Tr.take 4 (Tr.take 5 (Tr.take 6 (Tr.eff 7 [] (Tr.take 8 (Tr.take 9 (Tr.take 10 (Tr.take 11 (Tr.take 12 (Tr.take 13 (Tr.take 14 (Tr.take 15 (Tr.take 16 (Tr.take 17 (Tr.take 18 (Tr.take 19 (Tr.take 20 (Tr.take 21 (Tr.take 22 (Tr.take 23 (Tr.take 24 (Tr.take 25 (Tr.take 26 (Tr.take 27 (Tr.take 28 (Tr.take 29 (Tr.take 30 (Tr.take 31 (Tr.take 32 (Tr.take 33 (Tr.take 34 (Tr.take 35 Tr.done))))))))))))))))))))))))))))))))))) := by kernel_rfl
theorem T68_28 : (Z.H 68).tree 28 = Tr.take 0 (Tr.take 1 (Tr.take 2 (Tr.take 3 (Tr.take 4 (Tr.take 5 (Tr.take 6 (Tr.eff 7 [] Tr.done))))))) := by kernel_rfl
theorem rs68 : Tryz.f68.results.toList = [ResultVar.tmp 2] := by kernel_rfl
theorem ts68 : Tryz.f68.resultTypes.toList = [4] := by kernel_rfl
theorem nt68 : Tryz.f68.ntmps = 230 := by kernel_rfl
theorem M91 : Z.M 91 = [Mode.ro] := by kernel_rfl
theorem K91 : Z.okF 91 = true := by kernel_rfl
theorem rs91 : Tryz.f91.results.toList = [ResultVar.tmp 2] := by kernel_rfl
theorem ts91 : Tryz.f91.resultTypes.toList = [4] := by kernel_rfl
theorem nt91 : Tryz.f91.ntmps = 6 := by kernel_rfl
theorem M110 : Z.M 110 = [Mode.ro, Mode.ro] := by kernel_rfl
theorem K110 : Z.okF 110 = true := by kernel_rfl
theorem L110_2 : (Z.H 110).loop 2 = { tm := [7, 8, 0, 1], rt := [], mv := [7, 8, 0, 1] } := by kernel_rfl
theorem b110_2 : headId (lpc Tryz.f110 2) = 2 := by kernel_rfl
theorem B110_0 : (Z.H 110).blk 0 = some { tm := [], rt := [], mv := [] } := by kernel_rfl
theorem B110_1 : (Z.H 110).blk 1 = some { tm := [8, 7, 0, 1], rt := [], mv := [8, 7, 0, 1] } := by kernel_rfl
theorem rs110 : Tryz.f110.results.toList = [ResultVar.tmp 4] := by kernel_rfl
theorem ts110 : Tryz.f110.resultTypes.toList = [3] := by kernel_rfl
theorem nt110 : Tryz.f110.ntmps = 19 := by kernel_rfl
theorem M90 : Z.M 90 = [Mode.ro, Mode.ro] := by kernel_rfl
theorem K90 : Z.okF 90 = true := by kernel_rfl
theorem rs90 : Tryz.f90.results.toList = [ResultVar.tmp 4] := by kernel_rfl
theorem ts90 : Tryz.f90.resultTypes.toList = [4] := by kernel_rfl
theorem nt90 : Tryz.f90.ntmps = 9 := by kernel_rfl
theorem M69 : Z.M 69 = [Mode.ro] := by kernel_rfl
theorem K69 : Z.okF 69 = true := by kernel_rfl
theorem rs69 : Tryz.f69.results.toList = [ResultVar.tmp 2] := by kernel_rfl
theorem ts69 : Tryz.f69.resultTypes.toList = [4] := by kernel_rfl
theorem nt69 : Tryz.f69.ntmps = 6 := by kernel_rfl
theorem M37 : Z.M 37 = [Mode.ro] := by kernel_rfl
theorem K37 : Z.okF 37 = true := by kernel_rfl
theorem T37_5 : (Z.H 37).tree 5 = Tr.take 0 (Tr.take 1 (Tr.eff 2 [] (Tr.take 3 (Tr.take 4 (Tr.take 5 (Tr.take 6 (Tr.take 7 (Tr.take 8 (Tr.take 9 (Tr.take 10 (Tr.take 11 (Tr.take 12 (Tr.take 13 (Tr.take 14 (Tr.take 15 (Tr.take 16 (Tr.take 17 (Tr.take 18 (Tr.take 19 (Tr.take 20 (Tr.take 21 (Tr.take 22 (Tr.take 23 (Tr.take 24 (Tr.take 25 (Tr.take 26 (Tr.take 27 (Tr.take 28 (Tr.eff 29 [] Tr.done))))))))))))))))))))))))))))) := by kernel_rfl
theorem rs37 : Tryz.f37.results.toList = [ResultVar.tmp 2] := by kernel_rfl
theorem ts37 : Tryz.f37.resultTypes.toList = [4] := by kernel_rfl
theorem nt37 : Tryz.f37.ntmps = 61 := by kernel_rfl
theorem M38 : Z.M 38 = [Mode.ro] := by kernel_rfl
theorem K38 : Z.okF 38 = true := by kernel_rfl
theorem L38_2 : (Z.H 38).loop 2 = { tm := [7, 8, 6, 1], rt := [], mv := [7, 8, 6, 1] } := by kernel_rfl
theorem b38_2 : headId (lpc Tryz.f38 2) = 2 := by kernel_rfl
theorem B38_0 : (Z.H 38).blk 0 = some { tm := [1], rt := [], mv := [1] } := by kernel_rfl
theorem B38_1 : (Z.H 38).blk 1 = some { tm := [8, 7, 6, 1], rt := [], mv := [8, 7, 6, 1] } := by kernel_rfl
theorem rs38 : Tryz.f38.results.toList = [ResultVar.tmp 2] := by kernel_rfl
theorem ts38 : Tryz.f38.resultTypes.toList = [4] := by kernel_rfl
theorem nt38 : Tryz.f38.ntmps = 45 := by kernel_rfl
theorem M71 : Z.M 71 = [Mode.ro, Mode.ro] := by kernel_rfl
theorem K71 : Z.okF 71 = true := by kernel_rfl
theorem rs71 : Tryz.f71.results.toList = [ResultVar.tmp 4] := by kernel_rfl
theorem ts71 : Tryz.f71.resultTypes.toList = [4] := by kernel_rfl
theorem nt71 : Tryz.f71.ntmps = 20 := by kernel_rfl
theorem M39 : Z.M 39 = [Mode.ro, Mode.ro] := by kernel_rfl
theorem K39 : Z.okF 39 = true := by kernel_rfl
theorem T39_1 : (Z.H 39).tree 1 = Tr.take 0 (Tr.take 1 (Tr.eff 2 [] (Tr.take 3 (Tr.take 4 (Tr.take 5 (Tr.take 6 (Tr.take 7 (Tr.take 8 (Tr.take 9 (Tr.take 10 (Tr.take 11 (Tr.eff 12 [] (Tr.take 13 (Tr.eff 14 [] Tr.done)))))))))))))) := by kernel_rfl
theorem rs39 : Tryz.f39.results.toList = [ResultVar.tmp 4] := by kernel_rfl
theorem ts39 : Tryz.f39.resultTypes.toList = [4] := by kernel_rfl
theorem nt39 : Tryz.f39.ntmps = 19 := by kernel_rfl
theorem M72 : Z.M 72 = [Mode.ro, Mode.ro] := by kernel_rfl
theorem K72 : Z.okF 72 = true := by kernel_rfl
theorem rs72 : Tryz.f72.results.toList = [ResultVar.cell 4 32] := by kernel_rfl
theorem ts72 : Tryz.f72.resultTypes.toList = [32] := by kernel_rfl
theorem nt72 : Tryz.f72.ntmps = 17 := by kernel_rfl
theorem M46 : Z.M 46 = [Mode.ro, Mode.ro] := by kernel_rfl
theorem K46 : Z.okF 46 = true := by kernel_rfl
theorem T46_1 : (Z.H 46).tree 1 = Tr.take 0 (Tr.take 1 (Tr.take 2 (Tr.take 3 (Tr.take 4 (Tr.take 5 (Tr.take 6 (Tr.take 7 (Tr.take 8 (Tr.take 9 (Tr.take 10 (Tr.eff 11 [] Tr.done))))))))))) := by kernel_rfl
theorem rs46 : Tryz.f46.results.toList = [ResultVar.cell 4 62] := by kernel_rfl
theorem ts46 : Tryz.f46.resultTypes.toList = [62] := by kernel_rfl
theorem nt46 : Tryz.f46.ntmps = 16 := by kernel_rfl
theorem M47 : Z.M 47 = [Mode.ro, Mode.ro] := by kernel_rfl
theorem K47 : Z.okF 47 = true := by kernel_rfl
theorem L47_2 : (Z.H 47).loop 2 = { tm := [12, 13, 1, 11], rt := [], mv := [12, 13, 1, 11] } := by kernel_rfl
theorem b47_2 : headId (lpc Tryz.f47 2) = 2 := by kernel_rfl
theorem L47_5 : (Z.H 47).loop 5 = { tm := [20, 21, 6, 19, 13, 12, 1, 11], rt := [], mv := [20, 21, 6, 19, 13, 12, 1, 11] } := by kernel_rfl
theorem b47_5 : headId (lpc Tryz.f47 5) = 5 := by kernel_rfl
theorem B47_0 : (Z.H 47).blk 0 = some { tm := [], rt := [], mv := [] } := by kernel_rfl
theorem B47_1 : (Z.H 47).blk 1 = some { tm := [13, 12, 1, 11], rt := [], mv := [13, 12, 1, 11] } := by kernel_rfl
theorem B47_2 : (Z.H 47).blk 2 = some { tm := [13, 12, 1, 11], rt := [], mv := [13, 12, 1, 11] } := by kernel_rfl
theorem B47_3 : (Z.H 47).blk 3 = some { tm := [21, 20, 6, 19, 13, 12, 1, 11], rt := [], mv := [21, 20, 6, 19, 13, 12, 1, 11] } := by kernel_rfl
theorem T47_8 : (Z.H 47).tree 8 = Tr.take 0 (Tr.take 1 (Tr.take 2 (Tr.eff 3 [2, 1] (Tr.eff 4 [] Tr.done)))) := by kernel_rfl
theorem rs47 : Tryz.f47.results.toList = [ResultVar.tmp 4, ResultVar.tmp 5] := by kernel_rfl
theorem ts47 : Tryz.f47.resultTypes.toList = [3, 9] := by kernel_rfl
theorem nt47 : Tryz.f47.ntmps = 34 := by kernel_rfl
theorem M132 : Z.M 132 = [Mode.ro, Mode.ro] := by kernel_rfl
theorem K132 : Z.okF 132 = true := by kernel_rfl
theorem rs132 : Tryz.f132.results.toList = [ResultVar.tmp 4] := by kernel_rfl
theorem ts132 : Tryz.f132.resultTypes.toList = [3] := by kernel_rfl
theorem nt132 : Tryz.f132.ntmps = 11 := by kernel_rfl
theorem M147 : Z.M 147 = [Mode.ro, Mode.ro] := by kernel_rfl
theorem K147 : Z.okF 147 = true := by kernel_rfl
theorem L147_2 : (Z.H 147).loop 2 = { tm := [7, 8, 0, 1], rt := [], mv := [7, 8, 0, 1] } := by kernel_rfl
theorem b147_2 : headId (lpc Tryz.f147 2) = 2 := by kernel_rfl
theorem B147_0 : (Z.H 147).blk 0 = some { tm := [], rt := [], mv := [] } := by kernel_rfl
theorem B147_1 : (Z.H 147).blk 1 = some { tm := [8, 7, 0, 1], rt := [], mv := [8, 7, 0, 1] } := by kernel_rfl
theorem rs147 : Tryz.f147.results.toList = [ResultVar.tmp 4] := by kernel_rfl
theorem ts147 : Tryz.f147.resultTypes.toList = [3] := by kernel_rfl
theorem nt147 : Tryz.f147.ntmps = 19 := by kernel_rfl
theorem M133 : Z.M 133 = [Mode.ro, Mode.ro] := by kernel_rfl
theorem K133 : Z.okF 133 = true := by kernel_rfl
theorem rs133 : Tryz.f133.results.toList = [ResultVar.tmp 4] := by kernel_rfl
theorem ts133 : Tryz.f133.resultTypes.toList = [4] := by kernel_rfl
theorem nt133 : Tryz.f133.ntmps = 9 := by kernel_rfl
theorem M113 : Z.M 113 = [Mode.ro, Mode.ro, Mode.ro, Mode.ro, Mode.ro] := by kernel_rfl
theorem K113 : Z.okF 113 = true := by kernel_rfl
theorem B113_0 : (Z.H 113).blk 0 = some { tm := [11, 4], rt := [], mv := [11, 4] } := by kernel_rfl
theorem rs113 : Tryz.f113.results.toList = [ResultVar.tmp 10] := by kernel_rfl
theorem ts113 : Tryz.f113.resultTypes.toList = [4] := by kernel_rfl
theorem nt113 : Tryz.f113.ntmps = 83 := by kernel_rfl
theorem M93 : Z.M 93 = [Mode.ro, Mode.ro, Mode.ro] := by kernel_rfl
theorem K93 : Z.okF 93 = true := by kernel_rfl
theorem rs93 : Tryz.f93.results.toList = [ResultVar.tmp 6] := by kernel_rfl
theorem ts93 : Tryz.f93.resultTypes.toList = [4] := by kernel_rfl
theorem nt93 : Tryz.f93.ntmps = 16 := by kernel_rfl
theorem M111 : Z.M 111 = [Mode.ro, Mode.ro, Mode.ro] := by kernel_rfl
theorem K111 : Z.okF 111 = true := by kernel_rfl
theorem L111_4 : (Z.H 111).loop 4 = { tm := [18, 19, 3, 17], rt := [], mv := [18, 19, 3, 17] } := by kernel_rfl
theorem b111_4 : headId (lpc Tryz.f111 4) = 4 := by kernel_rfl
theorem B111_0 : (Z.H 111).blk 0 = some { tm := [], rt := [], mv := [] } := by kernel_rfl
theorem B111_1 : (Z.H 111).blk 1 = some { tm := [19, 18, 3, 17], rt := [], mv := [19, 18, 3, 17] } := by kernel_rfl
theorem rs111 : Tryz.f111.results.toList = [ResultVar.tmp 6] := by kernel_rfl
theorem ts111 : Tryz.f111.resultTypes.toList = [4] := by kernel_rfl
theorem nt111 : Tryz.f111.ntmps = 28 := by kernel_rfl
theorem M130 : Z.M 130 = [Mode.ro, Mode.ro] := by kernel_rfl
theorem K130 : Z.okF 130 = true := by kernel_rfl
theorem rs130 : Tryz.f130.results.toList = [ResultVar.tmp 4] := by kernel_rfl
theorem ts130 : Tryz.f130.resultTypes.toList = [3] := by kernel_rfl
theorem nt130 : Tryz.f130.ntmps = 9 := by kernel_rfl
theorem M129 : Z.M 129 = [Mode.ro, Mode.ro, Mode.ro] := by kernel_rfl
theorem K129 : Z.okF 129 = true := by kernel_rfl
theorem L129_3 : (Z.H 129).loop 3 = { tm := [10, 8, 2, 0, 9, 1], rt := [], mv := [10, 8, 2, 0, 9, 1] } := by kernel_rfl
theorem b129_3 : headId (lpc Tryz.f129 3) = 3 := by kernel_rfl
theorem B129_0 : (Z.H 129).blk 0 = some { tm := [8, 2, 0, 9, 1], rt := [], mv := [8, 2, 0, 9, 1] } := by kernel_rfl
theorem B129_1 : (Z.H 129).blk 1 = some { tm := [10, 8, 2, 0, 9, 1], rt := [], mv := [10, 8, 2, 0, 9, 1] } := by kernel_rfl
theorem rs129 : Tryz.f129.results.toList = [ResultVar.tmp 6, ResultVar.tmp 7] := by kernel_rfl
theorem ts129 : Tryz.f129.resultTypes.toList = [3, 4] := by kernel_rfl
theorem nt129 : Tryz.f129.ntmps = 49 := by kernel_rfl
theorem M112 : Z.M 112 = [Mode.ro, Mode.ro] := by kernel_rfl
theorem K112 : Z.okF 112 = true := by kernel_rfl
theorem rs112 : Tryz.f112.results.toList = [ResultVar.tmp 4, ResultVar.tmp 5] := by kernel_rfl
theorem ts112 : Tryz.f112.resultTypes.toList = [3, 4] := by kernel_rfl
theorem nt112 : Tryz.f112.ntmps = 12 := by kernel_rfl
theorem M92 : Z.M 92 = [Mode.ro, Mode.ro, Mode.ro, Mode.ro] := by kernel_rfl
theorem K92 : Z.okF 92 = true := by kernel_rfl
theorem rs92 : Tryz.f92.results.toList = [ResultVar.tmp 8, ResultVar.tmp 9] := by kernel_rfl
theorem ts92 : Tryz.f92.resultTypes.toList = [3, 3] := by kernel_rfl
theorem nt92 : Tryz.f92.ntmps = 50 := by kernel_rfl
theorem M73 : Z.M 73 = [Mode.ro, Mode.ro, Mode.ro, Mode.ro] := by kernel_rfl
theorem K73 : Z.okF 73 = true := by kernel_rfl
theorem T73_5 : (Z.H 73).tree 5 = Tr.take 0 (Tr.take 1 (Tr.take 2 (Tr.take 3 (Tr.take 4 (Tr.take 5 (Tr.take 6 (Tr.take 7 (Tr.take 8 (Tr.take 9 (Tr.eff 10 [] (Tr.take 11 (Tr.take 12 (Tr.take 13 (Tr.eff 14 [13] (Tr.eff 15 [] Tr.done))))))))))))))) := by kernel_rfl
theorem T73_16 : (Z.H 73).tree 16 = Tr.take 0 (Tr.take 1 (Tr.take 2 (Tr.take 3 (Tr.take 4 (Tr.take 5 (Tr.take 6 (Tr.take 7 (Tr.eff 8 [] (Tr.take 9 (Tr.take 10 (Tr.take 11 (Tr.take 12 (Tr.eff 13 [11] Tr.done))))))))))))) := by kernel_rfl
theorem rs73 : Tryz.f73.results.toList = [ResultVar.cell 8 32, ResultVar.tmp 9] := by kernel_rfl
theorem ts73 : Tryz.f73.resultTypes.toList = [32, 3] := by kernel_rfl
theorem nt73 : Tryz.f73.ntmps = 80 := by kernel_rfl
theorem M40 : Z.M 40 = [Mode.ro, Mode.ro, Mode.ro, Mode.ro, Mode.ro] := by kernel_rfl
theorem K40 : Z.okF 40 = true := by kernel_rfl
theorem L40_5 : (Z.H 40).loop 5 = { tm := [22, 23, 6, 5, 21, 7, 10], rt := [], mv := [22, 23, 6, 5, 21, 7, 10] } := by kernel_rfl
theorem b40_5 : headId (lpc Tryz.f40 5) = 5 := by kernel_rfl
theorem B40_0 : (Z.H 40).blk 0 = some { tm := [7, 10], rt := [], mv := [7, 10] } := by kernel_rfl
theorem B40_1 : (Z.H 40).blk 1 = some { tm := [23, 22, 6, 5, 21, 7, 10], rt := [], mv := [23, 22, 6, 5, 21, 7, 10] } := by kernel_rfl
theorem rs40 : Tryz.f40.results.toList = [ResultVar.cell 10 32, ResultVar.tmp 11] := by kernel_rfl
theorem ts40 : Tryz.f40.resultTypes.toList = [32, 3] := by kernel_rfl
theorem nt40 : Tryz.f40.ntmps = 42 := by kernel_rfl
theorem M16 : Z.M 16 = [Mode.ro, Mode.ro, Mode.ro, Mode.ro] := by kernel_rfl
theorem K16 : Z.okF 16 = true := by kernel_rfl
theorem rs16 : Tryz.f16.results.toList = [ResultVar.cell 8 32, ResultVar.tmp 9] := by kernel_rfl
theorem ts16 : Tryz.f16.resultTypes.toList = [32, 3] := by kernel_rfl
theorem nt16 : Tryz.f16.ntmps = 46 := by kernel_rfl
theorem M17 : Z.M 17 = [Mode.ro, Mode.ro] := by kernel_rfl
theorem K17 : Z.okF 17 = true := by kernel_rfl
theorem rs17 : Tryz.f17.results.toList = [ResultVar.tmp 4] := by kernel_rfl
theorem ts17 : Tryz.f17.resultTypes.toList = [4] := by kernel_rfl
theorem nt17 : Tryz.f17.ntmps = 15 := by kernel_rfl
theorem M148 : Z.M 148 = [Mode.ro, Mode.ro] := by kernel_rfl
theorem K148 : Z.okF 148 = true := by kernel_rfl
theorem rs148 : Tryz.f148.results.toList = [ResultVar.tmp 4] := by kernel_rfl
theorem ts148 : Tryz.f148.resultTypes.toList = [4] := by kernel_rfl
theorem nt148 : Tryz.f148.ntmps = 15 := by kernel_rfl
theorem M134 : Z.M 134 = [Mode.ro, Mode.ro] := by kernel_rfl
theorem K134 : Z.okF 134 = true := by kernel_rfl
theorem L134_4 : (Z.H 134).loop 4 = { tm := [5, 1, 0], rt := [], mv := [5, 1, 0] } := by kernel_rfl
theorem b134_4 : headId (lpc Tryz.f134 4) = 4 := by kernel_rfl
theorem B134_0 : (Z.H 134).blk 0 = some { tm := [], rt := [], mv := [] } := by kernel_rfl
theorem B134_1 : (Z.H 134).blk 1 = some { tm := [5, 1, 0], rt := [], mv := [5, 1, 0] } := by kernel_rfl
theorem T134_6 : (Z.H 134).tree 6 = Tr.take 0 (Tr.take 1 (Tr.take 2 (Tr.take 3 (Tr.take 4 (Tr.take 5 (Tr.take 6 (Tr.take 7 (Tr.eff 8 [] (Tr.take 9 Tr.done))))))))) := by kernel_rfl
theorem rs134 : Tryz.f134.results.toList = [ResultVar.tmp 4] := by kernel_rfl
theorem ts134 : Tryz.f134.resultTypes.toList = [4] := by kernel_rfl
theorem nt134 : Tryz.f134.ntmps = 27 := by kernel_rfl
theorem M114 : Z.M 114 = [Mode.ro, Mode.ro] := by kernel_rfl
theorem K114 : Z.okF 114 = true := by kernel_rfl
theorem rs114 : Tryz.f114.results.toList = [ResultVar.tmp 4] := by kernel_rfl
theorem ts114 : Tryz.f114.resultTypes.toList = [4] := by kernel_rfl
theorem nt114 : Tryz.f114.ntmps = 51 := by kernel_rfl
theorem M94 : Z.M 94 = [Mode.ro, Mode.ro] := by kernel_rfl
theorem K94 : Z.okF 94 = true := by kernel_rfl
theorem L94_4 : (Z.H 94).loop 4 = { tm := [5, 1, 0], rt := [], mv := [5, 1, 0] } := by kernel_rfl
theorem b94_4 : headId (lpc Tryz.f94 4) = 4 := by kernel_rfl
theorem B94_0 : (Z.H 94).blk 0 = some { tm := [], rt := [], mv := [] } := by kernel_rfl
theorem B94_1 : (Z.H 94).blk 1 = some { tm := [5, 1, 0], rt := [], mv := [5, 1, 0] } := by kernel_rfl
theorem T94_6 : (Z.H 94).tree 6 = Tr.take 0 (Tr.take 1 (Tr.take 2 (Tr.take 3 (Tr.take 4 (Tr.take 5 (Tr.take 6 (Tr.take 7 (Tr.eff 8 [] (Tr.take 9 Tr.done))))))))) := by kernel_rfl
theorem rs94 : Tryz.f94.results.toList = [ResultVar.tmp 4] := by kernel_rfl
theorem ts94 : Tryz.f94.resultTypes.toList = [4] := by kernel_rfl
theorem nt94 : Tryz.f94.ntmps = 27 := by kernel_rfl
theorem M74 : Z.M 74 = [Mode.ro, Mode.ro] := by kernel_rfl
theorem K74 : Z.okF 74 = true := by kernel_rfl
theorem rs74 : Tryz.f74.results.toList = [ResultVar.tmp 4] := by kernel_rfl
theorem ts74 : Tryz.f74.resultTypes.toList = [4] := by kernel_rfl
theorem nt74 : Tryz.f74.ntmps = 11 := by kernel_rfl
theorem M41 : Z.M 41 = [Mode.ro, Mode.ro] := by kernel_rfl
theorem K41 : Z.okF 41 = true := by kernel_rfl
theorem L41_4 : (Z.H 41).loop 4 = { tm := [5, 1, 0], rt := [], mv := [5, 1, 0] } := by kernel_rfl
theorem b41_4 : headId (lpc Tryz.f41 4) = 4 := by kernel_rfl
theorem B41_0 : (Z.H 41).blk 0 = some { tm := [], rt := [], mv := [] } := by kernel_rfl
theorem B41_1 : (Z.H 41).blk 1 = some { tm := [5, 1, 0], rt := [], mv := [5, 1, 0] } := by kernel_rfl
theorem T41_6 : (Z.H 41).tree 6 = Tr.take 0 (Tr.take 1 (Tr.take 2 (Tr.take 3 (Tr.take 4 (Tr.take 5 (Tr.take 6 (Tr.take 7 (Tr.eff 8 [] (Tr.take 9 Tr.done))))))))) := by kernel_rfl
theorem rs41 : Tryz.f41.results.toList = [ResultVar.tmp 4] := by kernel_rfl
theorem ts41 : Tryz.f41.resultTypes.toList = [4] := by kernel_rfl
theorem nt41 : Tryz.f41.ntmps = 27 := by kernel_rfl
theorem M18 : Z.M 18 = [Mode.ro, Mode.ro] := by kernel_rfl
theorem K18 : Z.okF 18 = true := by kernel_rfl
theorem rs18 : Tryz.f18.results.toList = [ResultVar.tmp 4] := by kernel_rfl
theorem ts18 : Tryz.f18.resultTypes.toList = [4] := by kernel_rfl
theorem nt18 : Tryz.f18.ntmps = 16 := by kernel_rfl
theorem M42 : Z.M 42 = [Mode.ro, Mode.ro] := by kernel_rfl
theorem K42 : Z.okF 42 = true := by kernel_rfl
theorem L42_4 : (Z.H 42).loop 4 = { tm := [5, 1, 0], rt := [], mv := [5, 1, 0] } := by kernel_rfl
theorem b42_4 : headId (lpc Tryz.f42 4) = 4 := by kernel_rfl
theorem B42_0 : (Z.H 42).blk 0 = some { tm := [], rt := [], mv := [] } := by kernel_rfl
theorem B42_1 : (Z.H 42).blk 1 = some { tm := [5, 1, 0], rt := [], mv := [5, 1, 0] } := by kernel_rfl
theorem T42_6 : (Z.H 42).tree 6 = Tr.take 0 (Tr.take 1 (Tr.take 2 (Tr.take 3 (Tr.take 4 (Tr.take 5 (Tr.take 6 (Tr.take 7 (Tr.take 8 Tr.done)))))))) := by kernel_rfl
theorem rs42 : Tryz.f42.results.toList = [ResultVar.tmp 4] := by kernel_rfl
theorem ts42 : Tryz.f42.resultTypes.toList = [4] := by kernel_rfl
theorem nt42 : Tryz.f42.ntmps = 26 := by kernel_rfl
theorem M19 : Z.M 19 = [Mode.ro, Mode.ro] := by kernel_rfl
theorem K19 : Z.okF 19 = true := by kernel_rfl
theorem rs19 : Tryz.f19.results.toList = [ResultVar.tmp 4] := by kernel_rfl
theorem ts19 : Tryz.f19.resultTypes.toList = [4] := by kernel_rfl
theorem nt19 : Tryz.f19.ntmps = 21 := by kernel_rfl
theorem M3 : Z.M 3 = [Mode.ro, Mode.ro, Mode.ro, Mode.ro] := by kernel_rfl
theorem K3 : Z.okF 3 = true := by kernel_rfl
theorem T3_10 : (Z.H 3).tree 10 = Tr.take 0 (Tr.take 2 (Tr.take 4 (Tr.take 6 (Tr.alt 1 [6, 4, 2] (Tr.alt 3 [6, 4] (Tr.alt 5 [6] (Tr.alt 7 [] (Tr.take 8 (Tr.take 9 (Tr.take 10 (Tr.eff 11 [10, 9, 8, 6, 4, 2, 0] (Tr.eff 12 [10] (Tr.eff 13 [] Tr.done)))))) (Tr.eff 11 [6, 4, 2, 0] (Tr.eff 7 [] (Tr.take 8 (Tr.take 9 (Tr.take 10 (Tr.eff 12 [10] (Tr.eff 13 [] Tr.done)))))))) (Tr.eff 11 [6, 4, 2, 0] (Tr.eff 5 [6] (Tr.eff 7 [] (Tr.take 8 (Tr.take 9 (Tr.take 10 (Tr.eff 12 [10] (Tr.eff 13 [] Tr.done))))))))) (Tr.eff 11 [6, 4, 2, 0] (Tr.eff 3 [6, 4] (Tr.eff 5 [6] (Tr.eff 7 [] (Tr.take 8 (Tr.take 9 (Tr.take 10 (Tr.eff 12 [10] (Tr.eff 13 [] Tr.done)))))))))) (Tr.eff 11 [6, 4, 2, 0] (Tr.eff 1 [6, 4, 2] (Tr.eff 3 [6, 4] (Tr.eff 5 [6] (Tr.eff 7 [] (Tr.take 8 (Tr.take 9 (Tr.take 10 (Tr.eff 12 [10] (Tr.eff 13 [] Tr.done)))))))))))))) := by kernel_rfl
theorem T3_13 : (Z.H 3).tree 13 = Tr.take 0 (Tr.take 1 (Tr.take 2 (Tr.take 4 (Tr.alt 3 [4, 1, 0] (Tr.alt 5 [] (Tr.take 6 (Tr.take 7 (Tr.take 8 (Tr.eff 9 [8, 7, 6, 4, 2, 1, 0] (Tr.eff 10 [8] (Tr.eff 11 [] Tr.done)))))) (Tr.eff 9 [4, 2, 1, 0] (Tr.eff 5 [] (Tr.take 6 (Tr.take 7 (Tr.take 8 (Tr.eff 10 [8] (Tr.eff 11 [] Tr.done)))))))) (Tr.eff 9 [4, 2, 1, 0] (Tr.eff 3 [4, 1, 0] (Tr.eff 5 [] (Tr.take 6 (Tr.take 7 (Tr.take 8 (Tr.eff 10 [8] (Tr.eff 11 [] Tr.done)))))))))))) := by kernel_rfl
theorem T3_16 : (Z.H 3).tree 16 = Tr.take 0 (Tr.take 1 (Tr.eff 2 [0] (Tr.eff 3 [] (Tr.take 4 Tr.done)))) := by kernel_rfl
theorem T3_18 : (Z.H 3).tree 18 = Tr.take 0 (Tr.take 1 (Tr.eff 2 [0] (Tr.eff 3 [] (Tr.take 4 Tr.done)))) := by kernel_rfl
theorem rs3 : Tryz.f3.results.toList = [ResultVar.tmp 8] := by kernel_rfl
theorem ts3 : Tryz.f3.resultTypes.toList = [4] := by kernel_rfl
theorem nt3 : Tryz.f3.ntmps = 72 := by kernel_rfl
theorem M56 : Z.M 56 = [Mode.ro, Mode.ro, Mode.ro, Mode.ro] := by kernel_rfl
theorem K56 : Z.okF 56 = true := by kernel_rfl
theorem T56_7 : (Z.H 56).tree 7 = Tr.take 0 (Tr.take 1 (Tr.take 2 (Tr.take 3 (Tr.take 4 (Tr.take 5 (Tr.take 6 (Tr.take 7 (Tr.alt 8 [] (Tr.take 9 (Tr.take 10 (Tr.take 11 (Tr.eff 12 [11, 10, 9, 7, 6, 5, 4, 3, 2, 1, 0] (Tr.eff 13 [11] (Tr.eff 14 [] Tr.done)))))) (Tr.eff 12 [7, 6, 5, 4, 3, 2, 1, 0] (Tr.eff 8 [] (Tr.take 9 (Tr.take 10 (Tr.take 11 (Tr.eff 13 [11] (Tr.eff 14 [] Tr.done))))))))))))))) := by kernel_rfl
theorem T56_8 : (Z.H 56).tree 8 = Tr.take 0 (Tr.take 1 (Tr.take 2 (Tr.take 3 (Tr.take 4 (Tr.take 5 (Tr.take 6 (Tr.take 7 (Tr.take 8 (Tr.take 9 (Tr.take 10 (Tr.take 11 (Tr.take 12 (Tr.take 13 (Tr.take 14 (Tr.take 15 (Tr.take 16 Tr.done)))))))))))))))) := by kernel_rfl
theorem T56_12 : (Z.H 56).tree 12 = Tr.take 0 (Tr.take 1 (Tr.take 2 (Tr.take 3 (Tr.take 4 (Tr.take 5 (Tr.eff 6 [5, 4, 3, 2, 1] (Tr.eff 7 [] (Tr.eff 8 [] Tr.done)))))))) := by kernel_rfl
theorem rs56 : Tryz.f56.results.toList = [ResultVar.cell 8 32, ResultVar.tmp 9, ResultVar.tmp 10] := by kernel_rfl
theorem ts56 : Tryz.f56.resultTypes.toList = [32, 9, 3] := by kernel_rfl
theorem nt56 : Tryz.f56.ntmps = 78 := by kernel_rfl
theorem M24 : Z.M 24 = [Mode.ro, Mode.ro, Mode.ro, Mode.ro] := by kernel_rfl
theorem K24 : Z.okF 24 = true := by kernel_rfl
theorem rs24 : Tryz.f24.results.toList = [ResultVar.cell 8 32, ResultVar.tmp 9, ResultVar.tmp 10] := by kernel_rfl
theorem ts24 : Tryz.f24.resultTypes.toList = [32, 9, 3] := by kernel_rfl
theorem nt24 : Tryz.f24.ntmps = 34 := by kernel_rfl
theorem M25 : Z.M 25 = [Mode.ro, Mode.ro, Mode.ro, Mode.ro] := by kernel_rfl
theorem K25 : Z.okF 25 = true := by kernel_rfl
theorem T25_7 : (Z.H 25).tree 7 = Tr.take 0 (Tr.take 1 (Tr.take 2 (Tr.take 3 (Tr.take 4 (Tr.take 5 (Tr.take 6 (Tr.alt 7 [] (Tr.take 8 (Tr.take 9 (Tr.take 10 (Tr.eff 11 [10, 9, 8, 6, 5, 4, 3, 2, 1, 0] (Tr.eff 12 [10] (Tr.eff 13 [] Tr.done)))))) (Tr.eff 11 [6, 5, 4, 3, 2, 1, 0] (Tr.eff 7 [] (Tr.take 8 (Tr.take 9 (Tr.take 10 (Tr.eff 12 [10] (Tr.eff 13 [] Tr.done)))))))))))))) := by kernel_rfl
theorem T25_12 : (Z.H 25).tree 12 = Tr.take 0 (Tr.take 1 (Tr.take 2 (Tr.take 3 (Tr.take 4 (Tr.eff 5 [4, 3, 2, 1] (Tr.eff 6 [] (Tr.eff 7 [] Tr.done))))))) := by kernel_rfl
theorem rs25 : Tryz.f25.results.toList = [ResultVar.cell 8 32, ResultVar.tmp 9, ResultVar.tmp 10] := by kernel_rfl
theorem ts25 : Tryz.f25.resultTypes.toList = [32, 9, 3] := by kernel_rfl
theorem nt25 : Tryz.f25.ntmps = 84 := by kernel_rfl
theorem M5 : Z.M 5 = [Mode.ro, Mode.ro, Mode.ro, Mode.ro] := by kernel_rfl
theorem K5 : Z.okF 5 = true := by kernel_rfl
theorem T5_10 : (Z.H 5).tree 10 = Tr.take 0 (Tr.take 2 (Tr.take 4 (Tr.take 6 (Tr.alt 1 [6, 4, 2] (Tr.alt 3 [6, 4] (Tr.alt 5 [6] (Tr.alt 7 [] (Tr.take 8 (Tr.take 9 (Tr.take 10 (Tr.take 11 (Tr.eff 12 [11, 10, 9, 8, 6, 4, 2, 0] (Tr.eff 13 [11, 10] (Tr.eff 14 [11] (Tr.eff 15 [] Tr.done)))))))) (Tr.eff 12 [6, 4, 2, 0] (Tr.eff 7 [] (Tr.take 8 (Tr.take 9 (Tr.take 10 (Tr.take 11 (Tr.eff 13 [11, 10] (Tr.eff 14 [11] (Tr.eff 15 [] Tr.done)))))))))) (Tr.eff 12 [6, 4, 2, 0] (Tr.eff 5 [6] (Tr.eff 7 [] (Tr.take 8 (Tr.take 9 (Tr.take 10 (Tr.take 11 (Tr.eff 13 [11, 10] (Tr.eff 14 [11] (Tr.eff 15 [] Tr.done))))))))))) (Tr.eff 12 [6, 4, 2, 0] (Tr.eff 3 [6, 4] (Tr.eff 5 [6] (Tr.eff 7 [] (Tr.take 8 (Tr.take 9 (Tr.take 10 (Tr.take 11 (Tr.eff 13 [11, 10] (Tr.eff 14 [11] (Tr.eff 15 [] Tr.done)))))))))))) (Tr.eff 12 [6, 4, 2, 0] (Tr.eff 1 [6, 4, 2] (Tr.eff 3 [6, 4] (Tr.eff 5 [6] (Tr.eff 7 [] (Tr.take 8 (Tr.take 9 (Tr.take 10 (Tr.take 11 (Tr.eff 13 [11, 10] (Tr.eff 14 [11] (Tr.eff 15 [] Tr.done)))))))))))))))) := by kernel_rfl
theorem T5_13 : (Z.H 5).tree 13 = Tr.take 0 (Tr.take 1 (Tr.take 2 (Tr.take 4 (Tr.alt 3 [4, 1, 0] (Tr.alt 5 [] (Tr.take 6 (Tr.take 7 (Tr.take 8 (Tr.take 9 (Tr.eff 10 [9, 8, 7, 6, 4, 2, 1, 0] (Tr.eff 11 [9, 8] (Tr.eff 12 [9] (Tr.eff 13 [] Tr.done)))))))) (Tr.eff 10 [4, 2, 1, 0] (Tr.eff 5 [] (Tr.take 6 (Tr.take 7 (Tr.take 8 (Tr.take 9 (Tr.eff 11 [9, 8] (Tr.eff 12 [9] (Tr.eff 13 [] Tr.done)))))))))) (Tr.eff 10 [4, 2, 1, 0] (Tr.eff 3 [4, 1, 0] (Tr.eff 5 [] (Tr.take 6 (Tr.take 7 (Tr.take 8 (Tr.take 9 (Tr.eff 11 [9, 8] (Tr.eff 12 [9] (Tr.eff 13 [] Tr.done)))))))))))))) := by kernel_rfl
theorem T5_16 : (Z.H 5).tree 16 = Tr.take 0 (Tr.take 1 (Tr.eff 2 [0] (Tr.eff 3 [] (Tr.take 4 Tr.done)))) := by kernel_rfl
theorem T5_18 : (Z.H 5).tree 18 = Tr.take 0 (Tr.take 1 (Tr.eff 2 [0] (Tr.eff 3 [] (Tr.take 4 Tr.done)))) := by kernel_rfl
theorem rs5 : Tryz.f5.results.toList = [ResultVar.tmp 8] := by kernel_rfl
theorem ts5 : Tryz.f5.resultTypes.toList = [4] := by kernel_rfl
theorem nt5 : Tryz.f5.ntmps = 81 := by kernel_rfl
theorem tE3 : elem Tryz.prog 3 = none := by kernel_rfl
theorem tC3 : Tryz.prog.cellsOf 3 = 1 := by kernel_rfl
theorem tB3 : Tryz.prog.bytesOf 3 = 8 := by kernel_rfl
theorem tA3 : isA Tryz.prog 3 = some false := by kernel_rfl
theorem tL3 : leafsB Tryz.prog 3 = some [Leaf.ot] := by kernel_rfl
theorem tZ3 : zeroB Tryz.prog 3 = some [C.int IntKind.i64 (0)] := by kernel_rfl
theorem tM3 : zeroM Tryz.prog 3 = some [C.int IntKind.i64 (0)] := by kernel_rfl
theorem tS3 : Mach.okS Tryz.prog 3 = false := by kernel_rfl
theorem tR3 : isStr Tryz.prog 3 = false := by kernel_rfl
theorem tU3 : isU8 Tryz.prog 3 = false := by kernel_rfl
theorem tI3 : isSl Tryz.prog 3 = false := by kernel_rfl
theorem tE4 : elem Tryz.prog 4 = none := by kernel_rfl
theorem tC4 : Tryz.prog.cellsOf 4 = 1 := by kernel_rfl
theorem tB4 : Tryz.prog.bytesOf 4 = 1 := by kernel_rfl
theorem tA4 : isA Tryz.prog 4 = some false := by kernel_rfl
theorem tL4 : leafsB Tryz.prog 4 = some [Leaf.ot] := by kernel_rfl
theorem tZ4 : zeroB Tryz.prog 4 = some [C.bool false] := by kernel_rfl
theorem tM4 : zeroM Tryz.prog 4 = some [C.bool false] := by kernel_rfl
theorem tS4 : Mach.okS Tryz.prog 4 = false := by kernel_rfl
theorem tR4 : isStr Tryz.prog 4 = false := by kernel_rfl
theorem tU4 : isU8 Tryz.prog 4 = false := by kernel_rfl
theorem tI4 : isSl Tryz.prog 4 = false := by kernel_rfl
theorem tE5 : elem Tryz.prog 5 = none := by kernel_rfl
theorem tC5 : Tryz.prog.cellsOf 5 = 1 := by kernel_rfl
theorem tB5 : Tryz.prog.bytesOf 5 = 1 := by kernel_rfl
theorem tA5 : isA Tryz.prog 5 = some false := by kernel_rfl
theorem tL5 : leafsB Tryz.prog 5 = some [Leaf.ot] := by kernel_rfl
theorem tZ5 : zeroB Tryz.prog 5 = some [C.int IntKind.u8 (0)] := by kernel_rfl
theorem tM5 : zeroM Tryz.prog 5 = some [C.int IntKind.u8 (0)] := by kernel_rfl
theorem tS5 : Mach.okS Tryz.prog 5 = false := by kernel_rfl
theorem tR5 : isStr Tryz.prog 5 = false := by kernel_rfl
theorem tU5 : isU8 Tryz.prog 5 = true := by kernel_rfl
theorem tI5 : isSl Tryz.prog 5 = false := by kernel_rfl
theorem tE9 : elem Tryz.prog 9 = none := by kernel_rfl
theorem tC9 : Tryz.prog.cellsOf 9 = 1 := by kernel_rfl
theorem tB9 : Tryz.prog.bytesOf 9 = 16 := by kernel_rfl
theorem tA9 : isA Tryz.prog 9 = some false := by kernel_rfl
theorem tL9 : leafsB Tryz.prog 9 = some [Leaf.ot] := by kernel_rfl
theorem tZ9 : zeroB Tryz.prog 9 = some [C.str ⟨#[]⟩] := by kernel_rfl
theorem tM9 : zeroM Tryz.prog 9 = some [C.str ⟨#[]⟩] := by kernel_rfl
theorem tS9 : Mach.okS Tryz.prog 9 = false := by kernel_rfl
theorem tR9 : isStr Tryz.prog 9 = true := by kernel_rfl
theorem tU9 : isU8 Tryz.prog 9 = false := by kernel_rfl
theorem tI9 : isSl Tryz.prog 9 = false := by kernel_rfl
theorem tE21 : elem Tryz.prog 21 = none := by kernel_rfl
theorem tC21 : Tryz.prog.cellsOf 21 = 1 := by kernel_rfl
theorem tB21 : Tryz.prog.bytesOf 21 = 4 := by kernel_rfl
theorem tA21 : isA Tryz.prog 21 = some false := by kernel_rfl
theorem tL21 : leafsB Tryz.prog 21 = some [Leaf.ot] := by kernel_rfl
theorem tZ21 : zeroB Tryz.prog 21 = some [C.int IntKind.i32 (0)] := by kernel_rfl
theorem tM21 : zeroM Tryz.prog 21 = some [C.int IntKind.i32 (0)] := by kernel_rfl
theorem tS21 : Mach.okS Tryz.prog 21 = false := by kernel_rfl
theorem tR21 : isStr Tryz.prog 21 = false := by kernel_rfl
theorem tU21 : isU8 Tryz.prog 21 = false := by kernel_rfl
theorem tI21 : isSl Tryz.prog 21 = false := by kernel_rfl
theorem tE22 : elem Tryz.prog 22 = some 96 := by kernel_rfl
theorem tC22 : Tryz.prog.cellsOf 22 = 1 := by kernel_rfl
theorem tB22 : Tryz.prog.bytesOf 22 = 24 := by kernel_rfl
theorem tA22 : isA Tryz.prog 22 = some false := by kernel_rfl
theorem tL22 : leafsB Tryz.prog 22 = some [Leaf.sl 96] := by kernel_rfl
theorem tZ22 : zeroB Tryz.prog 22 = some [C.nil] := by kernel_rfl
theorem tM22 : zeroM Tryz.prog 22 = some [C.own PUnit.unit K.sl 96 []] := by kernel_rfl
theorem tS22 : Mach.okS Tryz.prog 22 = false := by kernel_rfl
theorem tR22 : isStr Tryz.prog 22 = false := by kernel_rfl
theorem tU22 : isU8 Tryz.prog 22 = false := by kernel_rfl
theorem tI22 : isSl Tryz.prog 22 = true := by kernel_rfl
theorem tE24 : elem Tryz.prog 24 = none := by kernel_rfl
theorem tC24 : Tryz.prog.cellsOf 24 = 2 := by kernel_rfl
theorem tB24 : Tryz.prog.bytesOf 24 = 32 := by kernel_rfl
theorem tA24 : isA Tryz.prog 24 = some true := by kernel_rfl
theorem tL24 : leafsB Tryz.prog 24 = some [Leaf.sl 96, Leaf.ot] := by kernel_rfl
theorem tZ24 : zeroB Tryz.prog 24 = some [C.nil, C.int IntKind.i64 (0)] := by kernel_rfl
theorem tM24 : zeroM Tryz.prog 24 = some [C.own PUnit.unit K.sl 96 [], C.int IntKind.i64 (0)] := by kernel_rfl
theorem tS24 : Mach.okS Tryz.prog 24 = true := by kernel_rfl
theorem tR24 : isStr Tryz.prog 24 = false := by kernel_rfl
theorem tU24 : isU8 Tryz.prog 24 = false := by kernel_rfl
theorem tI24 : isSl Tryz.prog 24 = false := by kernel_rfl
theorem tF24_0 : fieldAt Tryz.prog 24 0 = some (0, 22) := by kernel_rfl
theorem tF24_1 : fieldAt Tryz.prog 24 1 = some (1, 3) := by kernel_rfl
theorem tE25 : elem Tryz.prog 25 = some 3 := by kernel_rfl
theorem tC25 : Tryz.prog.cellsOf 25 = 1 := by kernel_rfl
theorem tB25 : Tryz.prog.bytesOf 25 = 24 := by kernel_rfl
theorem tA25 : isA Tryz.prog 25 = some false := by kernel_rfl
theorem tL25 : leafsB Tryz.prog 25 = some [Leaf.sl 3] := by kernel_rfl
theorem tZ25 : zeroB Tryz.prog 25 = some [C.nil] := by kernel_rfl
theorem tM25 : zeroM Tryz.prog 25 = some [C.own PUnit.unit K.sl 3 []] := by kernel_rfl
theorem tS25 : Mach.okS Tryz.prog 25 = false := by kernel_rfl
theorem tR25 : isStr Tryz.prog 25 = false := by kernel_rfl
theorem tU25 : isU8 Tryz.prog 25 = false := by kernel_rfl
theorem tI25 : isSl Tryz.prog 25 = true := by kernel_rfl
theorem tE27 : elem Tryz.prog 27 = none := by kernel_rfl
theorem tC27 : Tryz.prog.cellsOf 27 = 3 := by kernel_rfl
theorem tB27 : Tryz.prog.bytesOf 27 = 40 := by kernel_rfl
theorem tA27 : isA Tryz.prog 27 = some true := by kernel_rfl
theorem tL27 : leafsB Tryz.prog 27 = some [Leaf.ot, Leaf.ot, Leaf.sl 3] := by kernel_rfl
theorem tZ27 : zeroB Tryz.prog 27 = some [C.int IntKind.i64 (0), C.int IntKind.i64 (0), C.nil] := by kernel_rfl
theorem tM27 : zeroM Tryz.prog 27 = some [C.int IntKind.i64 (0), C.int IntKind.i64 (0), C.own PUnit.unit K.sl 3 []] := by kernel_rfl
theorem tS27 : Mach.okS Tryz.prog 27 = true := by kernel_rfl
theorem tR27 : isStr Tryz.prog 27 = false := by kernel_rfl
theorem tU27 : isU8 Tryz.prog 27 = false := by kernel_rfl
theorem tI27 : isSl Tryz.prog 27 = false := by kernel_rfl
theorem tF27_0 : fieldAt Tryz.prog 27 0 = some (0, 3) := by kernel_rfl
theorem tF27_1 : fieldAt Tryz.prog 27 1 = some (1, 3) := by kernel_rfl
theorem tF27_2 : fieldAt Tryz.prog 27 2 = some (2, 25) := by kernel_rfl
theorem tE29 : elem Tryz.prog 29 = none := by kernel_rfl
theorem tC29 : Tryz.prog.cellsOf 29 = 2 := by kernel_rfl
theorem tB29 : Tryz.prog.bytesOf 29 = 16 := by kernel_rfl
theorem tA29 : isA Tryz.prog 29 = some true := by kernel_rfl
theorem tL29 : leafsB Tryz.prog 29 = some [Leaf.ot, Leaf.ot] := by kernel_rfl
theorem tZ29 : zeroB Tryz.prog 29 = some [C.int IntKind.i64 (0), C.int IntKind.i64 (0)] := by kernel_rfl
theorem tM29 : zeroM Tryz.prog 29 = some [C.int IntKind.i64 (0), C.int IntKind.i64 (0)] := by kernel_rfl
theorem tS29 : Mach.okS Tryz.prog 29 = true := by kernel_rfl
theorem tR29 : isStr Tryz.prog 29 = false := by kernel_rfl
theorem tU29 : isU8 Tryz.prog 29 = false := by kernel_rfl
theorem tI29 : isSl Tryz.prog 29 = false := by kernel_rfl
theorem tF29_0 : fieldAt Tryz.prog 29 0 = some (0, 3) := by kernel_rfl
theorem tF29_1 : fieldAt Tryz.prog 29 1 = some (1, 3) := by kernel_rfl
theorem tE32 : elem Tryz.prog 32 = none := by kernel_rfl
theorem tC32 : Tryz.prog.cellsOf 32 = 2 := by kernel_rfl
theorem tB32 : Tryz.prog.bytesOf 32 = 16 := by kernel_rfl
theorem tA32 : isA Tryz.prog 32 = some true := by kernel_rfl
theorem tL32 : leafsB Tryz.prog 32 = some [Leaf.ot, Leaf.ot] := by kernel_rfl
theorem tZ32 : zeroB Tryz.prog 32 = some [C.int IntKind.i64 (0), C.int IntKind.i64 (0)] := by kernel_rfl
theorem tM32 : zeroM Tryz.prog 32 = some [C.int IntKind.i64 (0), C.int IntKind.i64 (0)] := by kernel_rfl
theorem tS32 : Mach.okS Tryz.prog 32 = true := by kernel_rfl
theorem tR32 : isStr Tryz.prog 32 = false := by kernel_rfl
theorem tU32 : isU8 Tryz.prog 32 = false := by kernel_rfl
theorem tI32 : isSl Tryz.prog 32 = false := by kernel_rfl
theorem tF32_0 : fieldAt Tryz.prog 32 0 = some (0, 3) := by kernel_rfl
theorem tF32_1 : fieldAt Tryz.prog 32 1 = some (1, 3) := by kernel_rfl
theorem tE33 : elem Tryz.prog 33 = none := by kernel_rfl
theorem tC33 : Tryz.prog.cellsOf 33 = 1 := by kernel_rfl
theorem tB33 : Tryz.prog.bytesOf 33 = 0 := by kernel_rfl
theorem tA33 : isA Tryz.prog 33 = some false := by kernel_rfl
theorem tL33 : leafsB Tryz.prog 33 = some [Leaf.ot] := by kernel_rfl
theorem tZ33 : zeroB Tryz.prog 33 = none := by kernel_rfl
theorem tM33 : zeroM Tryz.prog 33 = none := by kernel_rfl
theorem tS33 : Mach.okS Tryz.prog 33 = false := by kernel_rfl
theorem tR33 : isStr Tryz.prog 33 = false := by kernel_rfl
theorem tU33 : isU8 Tryz.prog 33 = false := by kernel_rfl
theorem tI33 : isSl Tryz.prog 33 = false := by kernel_rfl
theorem tE35 : elem Tryz.prog 35 = some 65 := by kernel_rfl
theorem tC35 : Tryz.prog.cellsOf 35 = 1 := by kernel_rfl
theorem tB35 : Tryz.prog.bytesOf 35 = 24 := by kernel_rfl
theorem tA35 : isA Tryz.prog 35 = some false := by kernel_rfl
theorem tL35 : leafsB Tryz.prog 35 = some [Leaf.sl 65] := by kernel_rfl
theorem tZ35 : zeroB Tryz.prog 35 = some [C.nil] := by kernel_rfl
theorem tM35 : zeroM Tryz.prog 35 = some [C.own PUnit.unit K.sl 65 []] := by kernel_rfl
theorem tS35 : Mach.okS Tryz.prog 35 = false := by kernel_rfl
theorem tR35 : isStr Tryz.prog 35 = false := by kernel_rfl
theorem tU35 : isU8 Tryz.prog 35 = false := by kernel_rfl
theorem tI35 : isSl Tryz.prog 35 = true := by kernel_rfl
theorem tE37 : elem Tryz.prog 37 = none := by kernel_rfl
theorem tC37 : Tryz.prog.cellsOf 37 = 2 := by kernel_rfl
theorem tB37 : Tryz.prog.bytesOf 37 = 32 := by kernel_rfl
theorem tA37 : isA Tryz.prog 37 = some true := by kernel_rfl
theorem tL37 : leafsB Tryz.prog 37 = some [Leaf.sl 65, Leaf.ot] := by kernel_rfl
theorem tZ37 : zeroB Tryz.prog 37 = some [C.nil, C.int IntKind.i64 (0)] := by kernel_rfl
theorem tM37 : zeroM Tryz.prog 37 = some [C.own PUnit.unit K.sl 65 [], C.int IntKind.i64 (0)] := by kernel_rfl
theorem tS37 : Mach.okS Tryz.prog 37 = true := by kernel_rfl
theorem tR37 : isStr Tryz.prog 37 = false := by kernel_rfl
theorem tU37 : isU8 Tryz.prog 37 = false := by kernel_rfl
theorem tI37 : isSl Tryz.prog 37 = false := by kernel_rfl
theorem tF37_0 : fieldAt Tryz.prog 37 0 = some (0, 35) := by kernel_rfl
theorem tF37_1 : fieldAt Tryz.prog 37 1 = some (1, 3) := by kernel_rfl
theorem tE39 : elem Tryz.prog 39 = none := by kernel_rfl
theorem tC39 : Tryz.prog.cellsOf 39 = 3 := by kernel_rfl
theorem tB39 : Tryz.prog.bytesOf 39 = 40 := by kernel_rfl
theorem tA39 : isA Tryz.prog 39 = some true := by kernel_rfl
theorem tL39 : leafsB Tryz.prog 39 = some [Leaf.ot, Leaf.ot, Leaf.sl 3] := by kernel_rfl
theorem tZ39 : zeroB Tryz.prog 39 = some [C.int IntKind.i64 (0), C.int IntKind.i64 (0), C.nil] := by kernel_rfl
theorem tM39 : zeroM Tryz.prog 39 = some [C.int IntKind.i64 (0), C.int IntKind.i64 (0), C.own PUnit.unit K.sl 3 []] := by kernel_rfl
theorem tS39 : Mach.okS Tryz.prog 39 = true := by kernel_rfl
theorem tR39 : isStr Tryz.prog 39 = false := by kernel_rfl
theorem tU39 : isU8 Tryz.prog 39 = false := by kernel_rfl
theorem tI39 : isSl Tryz.prog 39 = false := by kernel_rfl
theorem tF39_0 : fieldAt Tryz.prog 39 0 = some (0, 3) := by kernel_rfl
theorem tF39_1 : fieldAt Tryz.prog 39 1 = some (1, 3) := by kernel_rfl
theorem tF39_2 : fieldAt Tryz.prog 39 2 = some (2, 25) := by kernel_rfl
theorem tE46 : elem Tryz.prog 46 = some 5 := by kernel_rfl
theorem tC46 : Tryz.prog.cellsOf 46 = 1 := by kernel_rfl
theorem tB46 : Tryz.prog.bytesOf 46 = 24 := by kernel_rfl
theorem tA46 : isA Tryz.prog 46 = some false := by kernel_rfl
theorem tL46 : leafsB Tryz.prog 46 = some [Leaf.sl 5] := by kernel_rfl
theorem tZ46 : zeroB Tryz.prog 46 = some [C.nil] := by kernel_rfl
theorem tM46 : zeroM Tryz.prog 46 = some [C.own PUnit.unit K.sl 5 []] := by kernel_rfl
theorem tS46 : Mach.okS Tryz.prog 46 = false := by kernel_rfl
theorem tR46 : isStr Tryz.prog 46 = false := by kernel_rfl
theorem tU46 : isU8 Tryz.prog 46 = false := by kernel_rfl
theorem tI46 : isSl Tryz.prog 46 = true := by kernel_rfl
theorem tE51 : elem Tryz.prog 51 = some 9 := by kernel_rfl
theorem tC51 : Tryz.prog.cellsOf 51 = 1 := by kernel_rfl
theorem tB51 : Tryz.prog.bytesOf 51 = 24 := by kernel_rfl
theorem tA51 : isA Tryz.prog 51 = some false := by kernel_rfl
theorem tL51 : leafsB Tryz.prog 51 = some [Leaf.sl 9] := by kernel_rfl
theorem tZ51 : zeroB Tryz.prog 51 = some [C.nil] := by kernel_rfl
theorem tM51 : zeroM Tryz.prog 51 = some [C.own PUnit.unit K.sl 9 []] := by kernel_rfl
theorem tS51 : Mach.okS Tryz.prog 51 = false := by kernel_rfl
theorem tR51 : isStr Tryz.prog 51 = false := by kernel_rfl
theorem tU51 : isU8 Tryz.prog 51 = false := by kernel_rfl
theorem tI51 : isSl Tryz.prog 51 = true := by kernel_rfl
theorem tE60 : elem Tryz.prog 60 = some 114 := by kernel_rfl
theorem tC60 : Tryz.prog.cellsOf 60 = 1 := by kernel_rfl
theorem tB60 : Tryz.prog.bytesOf 60 = 24 := by kernel_rfl
theorem tA60 : isA Tryz.prog 60 = some false := by kernel_rfl
theorem tL60 : leafsB Tryz.prog 60 = some [Leaf.sl 114] := by kernel_rfl
theorem tZ60 : zeroB Tryz.prog 60 = some [C.nil] := by kernel_rfl
theorem tM60 : zeroM Tryz.prog 60 = some [C.own PUnit.unit K.sl 114 []] := by kernel_rfl
theorem tS60 : Mach.okS Tryz.prog 60 = false := by kernel_rfl
theorem tR60 : isStr Tryz.prog 60 = false := by kernel_rfl
theorem tU60 : isU8 Tryz.prog 60 = false := by kernel_rfl
theorem tI60 : isSl Tryz.prog 60 = true := by kernel_rfl
theorem tE62 : elem Tryz.prog 62 = none := by kernel_rfl
theorem tC62 : Tryz.prog.cellsOf 62 = 9 := by kernel_rfl
theorem tB62 : Tryz.prog.bytesOf 62 = 96 := by kernel_rfl
theorem tA62 : isA Tryz.prog 62 = some true := by kernel_rfl
theorem tL62 : leafsB Tryz.prog 62 = some [Leaf.ot, Leaf.ot, Leaf.ot, Leaf.ot, Leaf.ot, Leaf.ot, Leaf.ot, Leaf.ot, Leaf.sl 114] := by kernel_rfl
theorem tZ62 : zeroB Tryz.prog 62 = some [C.int IntKind.i64 (0), C.int IntKind.i64 (0), C.int IntKind.i64 (0), C.int IntKind.i64 (0), C.int IntKind.i64 (0), C.int IntKind.i64 (0), C.bool false, C.str ⟨#[]⟩, C.nil] := by kernel_rfl
theorem tM62 : zeroM Tryz.prog 62 = some [C.int IntKind.i64 (0), C.int IntKind.i64 (0), C.int IntKind.i64 (0), C.int IntKind.i64 (0), C.int IntKind.i64 (0), C.int IntKind.i64 (0), C.bool false, C.str ⟨#[]⟩, C.own PUnit.unit K.sl 114 []] := by kernel_rfl
theorem tS62 : Mach.okS Tryz.prog 62 = true := by kernel_rfl
theorem tR62 : isStr Tryz.prog 62 = false := by kernel_rfl
theorem tU62 : isU8 Tryz.prog 62 = false := by kernel_rfl
theorem tI62 : isSl Tryz.prog 62 = false := by kernel_rfl
theorem tF62_0 : fieldAt Tryz.prog 62 0 = some (0, 3) := by kernel_rfl
theorem tF62_1 : fieldAt Tryz.prog 62 1 = some (1, 3) := by kernel_rfl
theorem tF62_2 : fieldAt Tryz.prog 62 2 = some (2, 3) := by kernel_rfl
theorem tF62_3 : fieldAt Tryz.prog 62 3 = some (3, 3) := by kernel_rfl
theorem tF62_4 : fieldAt Tryz.prog 62 4 = some (4, 3) := by kernel_rfl
theorem tF62_5 : fieldAt Tryz.prog 62 5 = some (5, 3) := by kernel_rfl
theorem tF62_6 : fieldAt Tryz.prog 62 6 = some (6, 4) := by kernel_rfl
theorem tF62_7 : fieldAt Tryz.prog 62 7 = some (7, 9) := by kernel_rfl
theorem tF62_8 : fieldAt Tryz.prog 62 8 = some (8, 60) := by kernel_rfl
theorem tE63 : elem Tryz.prog 63 = some 62 := by kernel_rfl
theorem tC63 : Tryz.prog.cellsOf 63 = 1 := by kernel_rfl
theorem tB63 : Tryz.prog.bytesOf 63 = 24 := by kernel_rfl
theorem tA63 : isA Tryz.prog 63 = some false := by kernel_rfl
theorem tL63 : leafsB Tryz.prog 63 = some [Leaf.sl 62] := by kernel_rfl
theorem tZ63 : zeroB Tryz.prog 63 = some [C.nil] := by kernel_rfl
theorem tM63 : zeroM Tryz.prog 63 = some [C.own PUnit.unit K.sl 62 []] := by kernel_rfl
theorem tS63 : Mach.okS Tryz.prog 63 = false := by kernel_rfl
theorem tR63 : isStr Tryz.prog 63 = false := by kernel_rfl
theorem tU63 : isU8 Tryz.prog 63 = false := by kernel_rfl
theorem tI63 : isSl Tryz.prog 63 = true := by kernel_rfl
theorem tE65 : elem Tryz.prog 65 = none := by kernel_rfl
theorem tC65 : Tryz.prog.cellsOf 65 = 1 := by kernel_rfl
theorem tB65 : Tryz.prog.bytesOf 65 = 24 := by kernel_rfl
theorem tA65 : isA Tryz.prog 65 = some true := by kernel_rfl
theorem tL65 : leafsB Tryz.prog 65 = some [Leaf.sl 62] := by kernel_rfl
theorem tZ65 : zeroB Tryz.prog 65 = some [C.nil] := by kernel_rfl
theorem tM65 : zeroM Tryz.prog 65 = some [C.own PUnit.unit K.sl 62 []] := by kernel_rfl
theorem tS65 : Mach.okS Tryz.prog 65 = true := by kernel_rfl
theorem tR65 : isStr Tryz.prog 65 = false := by kernel_rfl
theorem tU65 : isU8 Tryz.prog 65 = false := by kernel_rfl
theorem tI65 : isSl Tryz.prog 65 = false := by kernel_rfl
theorem tF65_0 : fieldAt Tryz.prog 65 0 = some (0, 63) := by kernel_rfl
theorem tE94 : elem Tryz.prog 94 = some 144 := by kernel_rfl
theorem tC94 : Tryz.prog.cellsOf 94 = 1 := by kernel_rfl
theorem tB94 : Tryz.prog.bytesOf 94 = 24 := by kernel_rfl
theorem tA94 : isA Tryz.prog 94 = some false := by kernel_rfl
theorem tL94 : leafsB Tryz.prog 94 = some [Leaf.sl 144] := by kernel_rfl
theorem tZ94 : zeroB Tryz.prog 94 = some [C.nil] := by kernel_rfl
theorem tM94 : zeroM Tryz.prog 94 = some [C.own PUnit.unit K.sl 144 []] := by kernel_rfl
theorem tS94 : Mach.okS Tryz.prog 94 = false := by kernel_rfl
theorem tR94 : isStr Tryz.prog 94 = false := by kernel_rfl
theorem tU94 : isU8 Tryz.prog 94 = false := by kernel_rfl
theorem tI94 : isSl Tryz.prog 94 = true := by kernel_rfl
theorem tE96 : elem Tryz.prog 96 = none := by kernel_rfl
theorem tC96 : Tryz.prog.cellsOf 96 = 1 := by kernel_rfl
theorem tB96 : Tryz.prog.bytesOf 96 = 24 := by kernel_rfl
theorem tA96 : isA Tryz.prog 96 = some true := by kernel_rfl
theorem tL96 : leafsB Tryz.prog 96 = some [Leaf.sl 144] := by kernel_rfl
theorem tZ96 : zeroB Tryz.prog 96 = some [C.nil] := by kernel_rfl
theorem tM96 : zeroM Tryz.prog 96 = some [C.own PUnit.unit K.sl 144 []] := by kernel_rfl
theorem tS96 : Mach.okS Tryz.prog 96 = true := by kernel_rfl
theorem tR96 : isStr Tryz.prog 96 = false := by kernel_rfl
theorem tU96 : isU8 Tryz.prog 96 = false := by kernel_rfl
theorem tI96 : isSl Tryz.prog 96 = false := by kernel_rfl
theorem tF96_0 : fieldAt Tryz.prog 96 0 = some (0, 94) := by kernel_rfl
theorem tE114 : elem Tryz.prog 114 = none := by kernel_rfl
theorem tC114 : Tryz.prog.cellsOf 114 = 2 := by kernel_rfl
theorem tB114 : Tryz.prog.bytesOf 114 = 24 := by kernel_rfl
theorem tA114 : isA Tryz.prog 114 = some true := by kernel_rfl
theorem tL114 : leafsB Tryz.prog 114 = some [Leaf.ot, Leaf.ot] := by kernel_rfl
theorem tZ114 : zeroB Tryz.prog 114 = some [C.str ⟨#[]⟩, C.int IntKind.i64 (0)] := by kernel_rfl
theorem tM114 : zeroM Tryz.prog 114 = some [C.str ⟨#[]⟩, C.int IntKind.i64 (0)] := by kernel_rfl
theorem tS114 : Mach.okS Tryz.prog 114 = true := by kernel_rfl
theorem tR114 : isStr Tryz.prog 114 = false := by kernel_rfl
theorem tU114 : isU8 Tryz.prog 114 = false := by kernel_rfl
theorem tI114 : isSl Tryz.prog 114 = false := by kernel_rfl
theorem tF114_0 : fieldAt Tryz.prog 114 0 = some (0, 9) := by kernel_rfl
theorem tF114_1 : fieldAt Tryz.prog 114 1 = some (1, 3) := by kernel_rfl
theorem tE121 : elem Tryz.prog 121 = some 4 := by kernel_rfl
theorem tC121 : Tryz.prog.cellsOf 121 = 1 := by kernel_rfl
theorem tB121 : Tryz.prog.bytesOf 121 = 24 := by kernel_rfl
theorem tA121 : isA Tryz.prog 121 = some false := by kernel_rfl
theorem tL121 : leafsB Tryz.prog 121 = some [Leaf.sl 4] := by kernel_rfl
theorem tZ121 : zeroB Tryz.prog 121 = some [C.nil] := by kernel_rfl
theorem tM121 : zeroM Tryz.prog 121 = some [C.own PUnit.unit K.sl 4 []] := by kernel_rfl
theorem tS121 : Mach.okS Tryz.prog 121 = false := by kernel_rfl
theorem tR121 : isStr Tryz.prog 121 = false := by kernel_rfl
theorem tU121 : isU8 Tryz.prog 121 = false := by kernel_rfl
theorem tI121 : isSl Tryz.prog 121 = true := by kernel_rfl
theorem tE142 : elem Tryz.prog 142 = some 178 := by kernel_rfl
theorem tC142 : Tryz.prog.cellsOf 142 = 1 := by kernel_rfl
theorem tB142 : Tryz.prog.bytesOf 142 = 24 := by kernel_rfl
theorem tA142 : isA Tryz.prog 142 = some false := by kernel_rfl
theorem tL142 : leafsB Tryz.prog 142 = some [Leaf.sl 178] := by kernel_rfl
theorem tZ142 : zeroB Tryz.prog 142 = some [C.nil] := by kernel_rfl
theorem tM142 : zeroM Tryz.prog 142 = some [C.own PUnit.unit K.sl 178 []] := by kernel_rfl
theorem tS142 : Mach.okS Tryz.prog 142 = false := by kernel_rfl
theorem tR142 : isStr Tryz.prog 142 = false := by kernel_rfl
theorem tU142 : isU8 Tryz.prog 142 = false := by kernel_rfl
theorem tI142 : isSl Tryz.prog 142 = true := by kernel_rfl
theorem tE144 : elem Tryz.prog 144 = none := by kernel_rfl
theorem tC144 : Tryz.prog.cellsOf 144 = 9 := by kernel_rfl
theorem tB144 : Tryz.prog.bytesOf 144 = 96 := by kernel_rfl
theorem tA144 : isA Tryz.prog 144 = some true := by kernel_rfl
theorem tL144 : leafsB Tryz.prog 144 = some [Leaf.ot, Leaf.ot, Leaf.ot, Leaf.ot, Leaf.ot, Leaf.ot, Leaf.ot, Leaf.ot, Leaf.sl 178] := by kernel_rfl
theorem tZ144 : zeroB Tryz.prog 144 = some [C.int IntKind.i64 (0), C.int IntKind.i64 (0), C.int IntKind.i64 (0), C.int IntKind.i64 (0), C.int IntKind.i64 (0), C.int IntKind.i64 (0), C.bool false, C.str ⟨#[]⟩, C.nil] := by kernel_rfl
theorem tM144 : zeroM Tryz.prog 144 = some [C.int IntKind.i64 (0), C.int IntKind.i64 (0), C.int IntKind.i64 (0), C.int IntKind.i64 (0), C.int IntKind.i64 (0), C.int IntKind.i64 (0), C.bool false, C.str ⟨#[]⟩, C.own PUnit.unit K.sl 178 []] := by kernel_rfl
theorem tS144 : Mach.okS Tryz.prog 144 = true := by kernel_rfl
theorem tR144 : isStr Tryz.prog 144 = false := by kernel_rfl
theorem tU144 : isU8 Tryz.prog 144 = false := by kernel_rfl
theorem tI144 : isSl Tryz.prog 144 = false := by kernel_rfl
theorem tF144_0 : fieldAt Tryz.prog 144 0 = some (0, 3) := by kernel_rfl
theorem tF144_1 : fieldAt Tryz.prog 144 1 = some (1, 3) := by kernel_rfl
theorem tF144_2 : fieldAt Tryz.prog 144 2 = some (2, 3) := by kernel_rfl
theorem tF144_3 : fieldAt Tryz.prog 144 3 = some (3, 3) := by kernel_rfl
theorem tF144_4 : fieldAt Tryz.prog 144 4 = some (4, 3) := by kernel_rfl
theorem tF144_5 : fieldAt Tryz.prog 144 5 = some (5, 3) := by kernel_rfl
theorem tF144_6 : fieldAt Tryz.prog 144 6 = some (6, 4) := by kernel_rfl
theorem tF144_7 : fieldAt Tryz.prog 144 7 = some (7, 9) := by kernel_rfl
theorem tF144_8 : fieldAt Tryz.prog 144 8 = some (8, 142) := by kernel_rfl
theorem tE178 : elem Tryz.prog 178 = none := by kernel_rfl
theorem tC178 : Tryz.prog.cellsOf 178 = 2 := by kernel_rfl
theorem tB178 : Tryz.prog.bytesOf 178 = 24 := by kernel_rfl
theorem tA178 : isA Tryz.prog 178 = some true := by kernel_rfl
theorem tL178 : leafsB Tryz.prog 178 = some [Leaf.ot, Leaf.ot] := by kernel_rfl
theorem tZ178 : zeroB Tryz.prog 178 = some [C.str ⟨#[]⟩, C.int IntKind.i64 (0)] := by kernel_rfl
theorem tM178 : zeroM Tryz.prog 178 = some [C.str ⟨#[]⟩, C.int IntKind.i64 (0)] := by kernel_rfl
theorem tS178 : Mach.okS Tryz.prog 178 = true := by kernel_rfl
theorem tR178 : isStr Tryz.prog 178 = false := by kernel_rfl
theorem tU178 : isU8 Tryz.prog 178 = false := by kernel_rfl
theorem tI178 : isSl Tryz.prog 178 = false := by kernel_rfl
theorem tF178_0 : fieldAt Tryz.prog 178 0 = some (0, 9) := by kernel_rfl
theorem tF178_1 : fieldAt Tryz.prog 178 1 = some (1, 3) := by kernel_rfl
theorem tE170 : elem Tryz.prog 170 = none := by kernel_rfl
theorem tC170 : Tryz.prog.cellsOf 170 = 1 := by kernel_rfl
theorem tB170 : Tryz.prog.bytesOf 170 = 8 := by kernel_rfl
theorem tA170 : isA Tryz.prog 170 = some false := by kernel_rfl
theorem tL170 : leafsB Tryz.prog 170 = some [Leaf.ot] := by kernel_rfl
theorem tZ170 : zeroB Tryz.prog 170 = some [C.int IntKind.i64 (0)] := by kernel_rfl
theorem tM170 : zeroM Tryz.prog 170 = some [C.int IntKind.i64 (0)] := by kernel_rfl
theorem tS170 : Mach.okS Tryz.prog 170 = false := by kernel_rfl
theorem tR170 : isStr Tryz.prog 170 = false := by kernel_rfl
theorem tU170 : isU8 Tryz.prog 170 = false := by kernel_rfl
theorem tI170 : isSl Tryz.prog 170 = false := by kernel_rfl
theorem tE176 : elem Tryz.prog 176 = none := by kernel_rfl
theorem tC176 : Tryz.prog.cellsOf 176 = 1 := by kernel_rfl
theorem tB176 : Tryz.prog.bytesOf 176 = 8 := by kernel_rfl
theorem tA176 : isA Tryz.prog 176 = some false := by kernel_rfl
theorem tL176 : leafsB Tryz.prog 176 = some [Leaf.ot] := by kernel_rfl
theorem tZ176 : zeroB Tryz.prog 176 = some [C.int IntKind.u64 (0)] := by kernel_rfl
theorem tM176 : zeroM Tryz.prog 176 = some [C.int IntKind.u64 (0)] := by kernel_rfl
theorem tS176 : Mach.okS Tryz.prog 176 = false := by kernel_rfl
theorem tR176 : isStr Tryz.prog 176 = false := by kernel_rfl
theorem tU176 : isU8 Tryz.prog 176 = false := by kernel_rfl
theorem tI176 : isSl Tryz.prog 176 = false := by kernel_rfl
theorem Q34_0 : (Z.H 34).region 0 = none := by kernel_rfl
theorem Q34_1 : (Z.H 34).region 1 = none := by kernel_rfl
theorem Q34_2 : (Z.H 34).region 2 = none := by kernel_rfl
theorem Q34_3 : (Z.H 34).region 3 = none := by kernel_rfl
theorem Q34_4 : (Z.H 34).region 4 = none := by kernel_rfl
theorem Q34_5 : (Z.H 34).region 5 = none := by kernel_rfl
theorem Q34_7 : (Z.H 34).region 7 = some { tm := [14, 13, 12, 4, 6, 5, 7, 10], rt := [], mv := [14, 13, 12, 4, 6, 5, 7, 10] } := by kernel_rfl
theorem Q34_8 : (Z.H 34).region 8 = none := by kernel_rfl
theorem Q34_9 : (Z.H 34).region 9 = none := by kernel_rfl
theorem Q34_10 : (Z.H 34).region 10 = none := by kernel_rfl
theorem Q34_6 : (Z.H 34).region 6 = none := by kernel_rfl
theorem Q34_11 : (Z.H 34).region 11 = none := by kernel_rfl
theorem Q3_0 : (Z.H 3).region 0 = none := by kernel_rfl
theorem Q3_1 : (Z.H 3).region 1 = none := by kernel_rfl
theorem Q3_2 : (Z.H 3).region 2 = none := by kernel_rfl
theorem Q3_3 : (Z.H 3).region 3 = none := by kernel_rfl
theorem Q3_4 : (Z.H 3).region 4 = none := by kernel_rfl
theorem Q3_5 : (Z.H 3).region 5 = none := by kernel_rfl
theorem Q3_6 : (Z.H 3).region 6 = none := by kernel_rfl
theorem Q3_7 : (Z.H 3).region 7 = none := by kernel_rfl
theorem Q3_8 : (Z.H 3).region 8 = none := by kernel_rfl
theorem Q3_9 : (Z.H 3).region 9 = none := by kernel_rfl
theorem Q3_10 : (Z.H 3).region 10 = some { tm := [6, 3, 10, 11, 4, 5], rt := [], mv := [6, 3, 10, 11, 4, 5] } := by kernel_rfl
theorem Q3_11 : (Z.H 3).region 11 = none := by kernel_rfl
theorem Q3_12 : (Z.H 3).region 12 = none := by kernel_rfl
theorem Q3_13 : (Z.H 3).region 13 = some { tm := [14, 10, 15, 11, 12, 4, 13, 5], rt := [], mv := [14, 10, 15, 11, 12, 4, 13, 5] } := by kernel_rfl
theorem Q3_14 : (Z.H 3).region 14 = none := by kernel_rfl
theorem Q3_15 : (Z.H 3).region 15 = none := by kernel_rfl
theorem Q3_16 : (Z.H 3).region 16 = none := by kernel_rfl
theorem Q3_17 : (Z.H 3).region 17 = none := by kernel_rfl
theorem Q3_18 : (Z.H 3).region 18 = none := by kernel_rfl
theorem Q3_19 : (Z.H 3).region 19 = none := by kernel_rfl
theorem Q3_20 : (Z.H 3).region 20 = none := by kernel_rfl
theorem Q56_0 : (Z.H 56).region 0 = none := by kernel_rfl
theorem Q56_1 : (Z.H 56).region 1 = none := by kernel_rfl
theorem Q56_2 : (Z.H 56).region 2 = none := by kernel_rfl
theorem Q56_3 : (Z.H 56).region 3 = none := by kernel_rfl
theorem Q56_4 : (Z.H 56).region 4 = none := by kernel_rfl
theorem Q56_5 : (Z.H 56).region 5 = none := by kernel_rfl
theorem Q56_6 : (Z.H 56).region 6 = none := by kernel_rfl
theorem Q56_7 : (Z.H 56).region 7 = some { tm := [4, 16, 15, 12, 14, 8], rt := [], mv := [4, 16, 15, 12, 14, 8] } := by kernel_rfl
theorem Q56_8 : (Z.H 56).region 8 = none := by kernel_rfl
theorem Q56_9 : (Z.H 56).region 9 = none := by kernel_rfl
theorem Q56_10 : (Z.H 56).region 10 = none := by kernel_rfl
theorem Q56_11 : (Z.H 56).region 11 = none := by kernel_rfl
theorem Q56_12 : (Z.H 56).region 12 = none := by kernel_rfl
theorem Q25_0 : (Z.H 25).region 0 = none := by kernel_rfl
theorem Q25_1 : (Z.H 25).region 1 = none := by kernel_rfl
theorem Q25_2 : (Z.H 25).region 2 = none := by kernel_rfl
theorem Q25_3 : (Z.H 25).region 3 = none := by kernel_rfl
theorem Q25_4 : (Z.H 25).region 4 = none := by kernel_rfl
theorem Q25_5 : (Z.H 25).region 5 = none := by kernel_rfl
theorem Q25_6 : (Z.H 25).region 6 = none := by kernel_rfl
theorem Q25_7 : (Z.H 25).region 7 = some { tm := [4, 16, 15, 12, 14, 8], rt := [], mv := [4, 16, 15, 12, 14, 8] } := by kernel_rfl
theorem Q25_8 : (Z.H 25).region 8 = none := by kernel_rfl
theorem Q25_9 : (Z.H 25).region 9 = none := by kernel_rfl
theorem Q25_10 : (Z.H 25).region 10 = none := by kernel_rfl
theorem Q25_11 : (Z.H 25).region 11 = none := by kernel_rfl
theorem Q25_12 : (Z.H 25).region 12 = none := by kernel_rfl
theorem Q5_0 : (Z.H 5).region 0 = none := by kernel_rfl
theorem Q5_1 : (Z.H 5).region 1 = none := by kernel_rfl
theorem Q5_2 : (Z.H 5).region 2 = none := by kernel_rfl
theorem Q5_3 : (Z.H 5).region 3 = none := by kernel_rfl
theorem Q5_4 : (Z.H 5).region 4 = none := by kernel_rfl
theorem Q5_5 : (Z.H 5).region 5 = none := by kernel_rfl
theorem Q5_6 : (Z.H 5).region 6 = none := by kernel_rfl
theorem Q5_7 : (Z.H 5).region 7 = none := by kernel_rfl
theorem Q5_8 : (Z.H 5).region 8 = none := by kernel_rfl
theorem Q5_9 : (Z.H 5).region 9 = none := by kernel_rfl
theorem Q5_10 : (Z.H 5).region 10 = some { tm := [6, 3, 10, 11, 12, 4, 5], rt := [], mv := [6, 3, 10, 11, 12, 4, 5] } := by kernel_rfl
theorem Q5_11 : (Z.H 5).region 11 = none := by kernel_rfl
theorem Q5_12 : (Z.H 5).region 12 = none := by kernel_rfl
theorem Q5_13 : (Z.H 5).region 13 = some { tm := [15, 10, 16, 11, 17, 12, 13, 4, 14, 5], rt := [], mv := [15, 10, 16, 11, 17, 12, 13, 4, 14, 5] } := by kernel_rfl
theorem Q5_14 : (Z.H 5).region 14 = none := by kernel_rfl
theorem Q5_15 : (Z.H 5).region 15 = none := by kernel_rfl
theorem Q5_16 : (Z.H 5).region 16 = none := by kernel_rfl
theorem Q5_17 : (Z.H 5).region 17 = none := by kernel_rfl
theorem Q5_18 : (Z.H 5).region 18 = none := by kernel_rfl
theorem Q5_19 : (Z.H 5).region 19 = none := by kernel_rfl
theorem Q5_20 : (Z.H 5).region 20 = none := by kernel_rfl
end Go.Mach.Fv
