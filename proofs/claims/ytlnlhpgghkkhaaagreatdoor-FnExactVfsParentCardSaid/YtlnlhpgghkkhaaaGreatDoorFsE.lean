/- File systems as the machine's cells. -/
import Derived.Test.YtlnlhpgghkkhaaaGreatDoorFsK
open Go Go.Mach Go.Mach.Fv Go.Proofs
set_option maxRecDepth 100000
set_option linter.unusedVariables false
set_option linter.unusedSimpArgs false
namespace Go.Mach.Fv
def row {α : Type} (en : α → List (C Unit)) (xs : List α) : List (List (C Unit)) := xs.map en
def el {α : Type} [Inhabited α] (xs : List α) (i : Int) : α := xs.getD i.toNat default
def sc (q : Bool) (e : TypeId) (xs : List (List (C Unit))) : C Unit := if q then .own () .sl e xs else .ro () e xs
def encI (z : Int) : List (C Unit) := [.int .i64 z]
def encE (e : Entry) : List (C Unit) := [.str e.name, .int .i64 e.id]
def encN (te : TypeId) (q : Bool) (n : Inode) : List (C Unit) := [.int .i64 n.kind, .int .i64 n.mode, .int .i64 n.owner, .int .i64 n.group, .int .i64 n.links, .int .i64 n.opens, .bool n.mark, .str n.text, sc q te (row encE n.names)]
def encF (tn te : TypeId) (q : Bool) (f : Fs) : List (C Unit) := [sc q tn (row (encN te q) f)]
section
variable {α : Type} (en : α → List (C Unit))
theorem row_len (xs : List α) : (row en xs).length = xs.length := List.length_map ..
theorem row_get [Inhabited α] (xs : List α) (i : Int) (h0 : 0 ≤ i) (h : i < xs.length) : (row en xs)[i.toNat]? = some (en (el xs i)) := by
  have : i.toNat < xs.length := by omega
  simp [row, el, List.getElem?_eq_getElem this, List.getD_eq_getElem?_getD]
theorem row_getN [Inhabited α] (xs : List α) (i : Nat) (h : i < xs.length) : (row en xs)[i]? = some (en (el xs i)) := by
  simp [row, el, List.getElem?_eq_getElem h, List.getD_eq_getElem?_getD]
theorem row_getE [Inhabited α] (xs : List α) (i : Nat) (h : i < (row en xs).length) : (row en xs)[i] = en (el xs i) := by
  have : i < xs.length := by rwa [row_len] at h
  simp [row, el, List.getD_eq_getElem?_getD, this]
theorem row_set (xs : List α) (i : Nat) (x : α) : (row en xs).set i (en x) = row en (xs.set i x) := (List.map_set ..).symm
end
theorem sc_t (e xs) : sc true e xs = .own () .sl e xs := rfl
theorem sc_f (e xs) : sc false e xs = .ro () e xs := rfl
theorem viewR_sc (q e xs) : viewR (sc q e xs) = .ro () e xs := by cases q <;> rfl
theorem viewC_sc (p q e xs) : viewC p (sc q e xs) = if q then .ref () p else .ro () e xs := by cases q <;> rfl
theorem isOwn_sc (q e xs) : isOwn (sc q e xs) = q := by cases q <;> rfl
theorem elN (f : Fs) (i : Int) : el f i = N f i := rfl
theorem elE (n : Inode) (i : Int) : el n.names i = nE n i.toNat := rfl
theorem elF (v : Vfs) (i : Int) : el v.fss i = F v i := rfl
theorem ans_ite (P F ms) (c : Prop) [Decidable c] (a b) : ans P F ms (if c then a else b) = if c then ans P F ms a else ans P F ms b := by split <;> rfl
theorem tBool : Tryz.prog.underlying 4 = some .bool := by kernel_rfl
theorem pl_eql (a b c d : Int) : bin2 Tryz.prog .eql 32 (.agg [.int .i64 a, .int .i64 b]) (.agg [.int .i64 c, .int .i64 d]) = some (.one (.bool (a == c && b == d))) := by
  refine bin2_agg (P := Tryz.prog) (t := 32) (x := [.int .i64 a, .int .i64 b]) (y := [.int .i64 c, .int .i64 d]) (hx := rfl) (hy := rfl) (hg := by kernel_rfl) (hr := fun w => ?_)
  rw [run_eql_struct, run_equalIn_agg w 9999 32 _ _ (by kernel_rfl) (by kernel_rfl)]
  have hl : (Tryz.prog.fieldsOf 32).toList = [(Tryz.prog.fieldsOf 32)[0]!, (Tryz.prog.fieldsOf 32)[1]!] := by kernel_rfl
  have h1 : (Tryz.prog.fieldsOf 32)[0]!.type = 3 := by kernel_rfl
  have h2 : (Tryz.prog.fieldsOf 32)[1]!.type = 3 := by kernel_rfl
  have h3 : (Tryz.prog.fieldsOf 32)[0]!.offset = 0 := by kernel_rfl
  have h4 : (Tryz.prog.fieldsOf 32)[1]!.offset = 1 := by kernel_rfl
  have h5 : ((Tryz.prog.fieldsOf 32)[0]!.name == "_") = false := by kernel_rfl
  have h6 : ((Tryz.prog.fieldsOf 32)[1]!.name == "_") = false := by kernel_rfl
  have h5 := beq_eq_false_iff_ne.1 h5
  have h6 := beq_eq_false_iff_ne.1 h6
  rw [hl]
  generalize (Tryz.prog.fieldsOf 32)[0]! = f0 at *
  generalize (Tryz.prog.fieldsOf 32)[1]! = f1 at *
  have hu : Tryz.prog.underlying 3 = some (.int .i64) := by kernel_rfl
  simp [Op.eqFields, h1, h2, h3, h4, h5, h6, Go.part, isAgg, run_underlying hu, run_equalIn_int _ _ _ _ _ _ _ hu]
  by_cases e : a = c <;> by_cases e2 : b = d <;> simp [e, e2, Op.eqFields, h1, h2, h3, h4, h5, h6, Go.part, isAgg, run_underlying hu, run_equalIn_int _ _ _ _ _ _ _ hu]
theorem b_eqlT (x y : Bool) : scal2 Tryz.prog (binOp .eql 4) (.one (.bool x)) (.one (.bool y)) = some (.one (.bool (x == y))) := b_eql _ _ tBool x y
theorem b_neqT (x y : Bool) : scal2 Tryz.prog (binOp .neq 4) (.one (.bool x)) (.one (.bool y)) = some (.one (.bool (x != y))) := b_neq _ _ tBool x y
theorem tl_empty (s : ByteArray) : s.toList.isEmpty = decide (s.size = 0) := by
  rw [Lib.toList_data]
  cases s with
  | mk d => cases d with
    | mk l => cases l <;> simp [ByteArray.size]
theorem el_max {α : Type} [Inhabited α] (xs : List α) (i : Int) : el xs (max i 0) = el xs i := by
  unfold el
  have : (max i 0).toNat = i.toNat := by omega
  rw [this]
theorem N_max (f : Fs) (i : Int) : N f (max i 0) = N f i := el_max f i
theorem F_max (v : Vfs) (i : Int) : F v (max i 0) = F v i := by
  unfold F
  have : (max i 0).toNat = i.toNat := by omega
  rw [this]
theorem free1 (vs fin) : FreeR ⟨vs, fin⟩ = (FreeL (vs.flatMap (·.2)) ∧ FreeL (fin.flatMap (·.2))) := rfl
theorem free_nil : FreeL [] = True := by simp [FreeL]
theorem free_cons (c : C Unit) (r) : FreeL (c :: r) = (RoFree c ∧ FreeL r) := by simp [FreeL]
theorem free_int (k z) : RoFree (.int k z) = True := eq_true (.int k z)
theorem free_bool (b) : RoFree (.bool b) = True := eq_true (.bool b)
theorem free_str (s) : RoFree (.str s) = True := eq_true (.str s)
theorem free_c_nil : RoFree .nil = True := eq_true .nil
theorem free_own (h k e xs) : RoFree (.own h k e xs) = ∀ el ∈ xs, ∀ c ∈ el, RoFree c := propext ⟨fun h => by cases h; assumption, fun h => .own _ _ _ _ h⟩
theorem wrapA {z : Int} (h0 : 0 ≤ z) (h1 : z ≤ 9223372036854775806) : IntKind.i64.wrap (z + 1) = z + 1 := by
  simp [IntKind.wrap, IntKind.signed, IntKind.bits]
  omega
theorem wrapJ {j : Nat} (h : j ≤ 1000000000000) : IntKind.i64.wrap ((j : Int) + 1) = (j : Int) + 1 := wrapA (by omega) (by omega)
theorem wrap_in {z : Int} (h0 : -9223372036854775808 ≤ z) (h1 : z ≤ 9223372036854775807) : IntKind.i64.wrap z = z := by
  simp [IntKind.wrap, IntKind.signed, IntKind.bits]
  omega
attribute [simp] HR EP EM EC Go.Mach.St.keep Go.Mach.St.keepO Go.Mach.St.pick Go.Mach.St.kill Go.Mach.St.mapA Go.Mach.St.ren Go.Mach.pickL Go.Mach.find Go.Mach.moveR Go.Mach.rootsT Go.Mach.memb Go.Mach.mapV Go.Mach.killC Go.Mach.mapR Go.Mach.renC Go.Mach.renP Go.Mach.nx_ Go.Mach.go_seq Go.Mach.go_region Go.Mach.go_ops Go.Mach.go_ops0 Go.Mach.go_cond Go.Mach.go_block Go.Mach.go_exit Go.Mach.go_ret Go.Mach.go_nil Go.Mach.go_skip Go.Mach.go_blk Go.Mach.go_drawn Go.Mach.go_loop Go.Mach.br_ Go.Mach.unw Go.Mach.hasB Go.Mach.ext Go.Mach.wants Go.Mach.stepO Go.Mach.isQ Go.Mach.valO Go.Mach.valQ Go.Mach.opd Go.Mach.St.put Go.Mach.lenOf Go.Mach.constV Go.Mach.cellK Go.Mach.i_add Go.Mach.i_sub Go.Mach.i_mul Go.Mach.i_lss Go.Mach.i_leq Go.Mach.i_gtr Go.Mach.i_geq Go.Mach.i_eql Go.Mach.i_neq Go.Mach.s_eql Go.Mach.s_neq Go.Mach.u_not Go.Mach.tree Go.Mach.checks Go.Mach.chk1 Go.Mach.indexAddr Go.Mach.fieldAddr Go.Mach.rowAt Go.Mach.getP Go.Mach.getL Go.Mach.Path.ext Go.Mach.load Go.Mach.loadAt Go.Mach.views Go.Mach.viewC Go.Mach.pack Go.Mach.viewsR Go.Mach.viewR Go.Mach.stepE Go.Mach.made Go.Mach.store Go.Mach.storeAt Go.Mach.isPt Go.Mach.putCs Go.Mach.putC Go.Mach.overC Go.Mach.setC Go.Mach.deadC Go.Mach.modP Go.Mach.modL Go.Mach.inC Go.Mach.upd Go.Mach.cellsV Go.Mach.asOwn Go.Mach.lay Go.Mach.append Go.Mach.grown Go.Mach.news Go.Mach.elems Go.Mach.absorb Go.Mach.build Go.Mach.splice Go.Mach.part Go.Mach.dat Go.Mach.notUnd Go.Mach.allB Go.Mach.mapO Go.Mach.callE Go.Mach.apartL Go.Mach.apartR Go.Mach.apart1 Go.Mach.rwH Go.Mach.roH Go.Mach.cellH Go.Mach.cellR Go.Mach.argsOf Go.Mach.mapVO Go.Mach.argC Go.Mach.snapC Go.Mach.ownC Go.Mach.shut Go.Mach.allPl Go.Mach.plain Go.Mach.outL Go.Mach.restC Go.Mach.lost Go.Mach.setL Go.Mach.transV Go.Mach.transC Go.Mach.homeOf Go.Mach.answer Go.Mach.anyOwn Go.Mach.isOwn Go.Mach.ofVals Go.Mach.viewT Go.Mach.viewO Go.Mach.under Go.Mach.underS Go.Mach.underB Go.Mach.ansN Go.Mach.ansR Go.Mach.leaveX Go.Mach.outs Go.Mach.resV Go.Mach.outCs Go.Mach.outC Go.Mach.isAgg1 Go.Mach.keysRw Go.Mach.shutR Go.Mach.shutL Go.Mach.enterT Go.Mach.enterR Go.Mach.viewA rg bin2_one s_lss s_geq b_eqlT b_neqT pl_eql tl_empty el_max N_max F_max ans_ite row_len encE encN encF elN elE elF roH free1 free_nil free_cons free_int free_bool free_str free_c_nil free_own List.getElem?_modify_eq List.modify_modify_eq Option.map_eq_map row_getE sc_t sc_f anyOwn
attribute [simp ↓] row_get viewR_sc viewC_sc row_getN isOwn_sc
attribute [simp] M143 rs143 ts143 M126 B126_0 B126_1 rs126 ts126 M105 rs105 ts105 M83 B83_0 B83_1 rs83 ts83 M59 rs59 ts59 M28 B28_0 B28_1 rs28 ts28 M10 rs10 ts10 M29 rs29 ts29 M11 rs11 ts11 M62 rs62 ts62 M60 B60_0 B60_1 rs60 ts60 M30 B30_0 B30_1 rs30 ts30 M64 rs64 ts64 M106 rs106 ts106 M84 B84_0 B84_1 T84_11 rs84 ts84 M85 B85_0 B85_1 B85_2 B85_3 rs85 ts85 M61 B61_0 B61_1 B61_2 B61_3 B61_4 B61_5 T61_12 T61_20 rs61 ts61 M63 B63_0 B63_1 rs63 ts63 M31 T31_5 rs31 ts31 M32 B32_0 B32_1 T32_4 rs32 ts32 M65 rs65 ts65 M33 T33_1 rs33 ts33 M48 rs48 ts48 M49 B49_0 B49_1 B49_2 B49_3 T49_12 rs49 ts49 M144 B144_0 B144_1 rs144 ts144 M127 B127_0 rs127 ts127 M107 rs107 ts107 M86 B86_0 rs86 ts86 M108 B108_0 B108_1 rs108 ts108 M87 rs87 ts87 M66 T66_2 T66_5 T66_6 rs66 ts66 M34 B34_0 B34_1 T34_7 rs34 ts34 M12 rs12 ts12 M145 rs145 ts145 M128 B128_0 B128_1 rs128 ts128 M109 rs109 ts109 M88 B88_0 B88_1 rs88 ts88 M67 rs67 ts67 M35 B35_0 B35_1 rs35 ts35 M13 rs13 ts13 M36 B36_0 B36_1 rs36 ts36 M14 rs14 ts14 M15 rs15 ts15 M100 rs100 ts100 M78 rs78 ts78 M51 rs51 ts51 M79 B79_0 B79_1 rs79 ts79 M52 rs52 ts52 M70 rs70 ts70 M82 rs82 ts82 M55 rs55 ts55 M54 rs54 ts54 M80 B80_0 B80_1 rs80 ts80 M53 rs53 ts53 M23 rs23 ts23 M89 rs89 ts89 M68 B68_0 B68_1 B68_2 B68_3 B68_4 B68_5 B68_6 B68_7 B68_8 T68_18 T68_28 rs68 ts68 M91 rs91 ts91 M110 B110_0 B110_1 rs110 ts110 M90 rs90 ts90 M69 rs69 ts69 M37 T37_5 rs37 ts37 M38 B38_0 B38_1 rs38 ts38 M71 rs71 ts71 M39 T39_1 rs39 ts39 M72 rs72 ts72 M46 T46_1 rs46 ts46 M47 B47_0 B47_1 B47_2 B47_3 T47_8 rs47 ts47 M132 rs132 ts132 M147 B147_0 B147_1 rs147 ts147 M133 rs133 ts133 M113 B113_0 rs113 ts113 M93 rs93 ts93 M111 B111_0 B111_1 rs111 ts111 M130 rs130 ts130 M129 B129_0 B129_1 rs129 ts129 M112 rs112 ts112 M92 rs92 ts92 M73 T73_5 T73_16 rs73 ts73 M40 B40_0 B40_1 rs40 ts40 M16 rs16 ts16 M17 rs17 ts17 M148 rs148 ts148 M134 B134_0 B134_1 T134_6 rs134 ts134 M114 rs114 ts114 M94 B94_0 B94_1 T94_6 rs94 ts94 M74 rs74 ts74 M41 B41_0 B41_1 T41_6 rs41 ts41 M18 rs18 ts18 M42 B42_0 B42_1 T42_6 rs42 ts42 M19 rs19 ts19 M3 T3_10 T3_13 T3_16 T3_18 rs3 ts3 M56 T56_7 T56_8 T56_12 rs56 ts56 M24 rs24 ts24 M25 T25_7 T25_12 rs25 ts25 M5 T5_10 T5_13 T5_16 T5_18 rs5 ts5 tE3 tC3 tB3 tA3 tL3 tZ3 tM3 tS3 tR3 tU3 tI3 tE4 tC4 tB4 tA4 tL4 tZ4 tM4 tS4 tR4 tU4 tI4 tE5 tC5 tB5 tA5 tL5 tZ5 tM5 tS5 tR5 tU5 tI5 tE9 tC9 tB9 tA9 tL9 tZ9 tM9 tS9 tR9 tU9 tI9 tE21 tC21 tB21 tA21 tL21 tZ21 tM21 tS21 tR21 tU21 tI21 tE22 tC22 tB22 tA22 tL22 tZ22 tM22 tS22 tR22 tU22 tI22 tE24 tC24 tB24 tA24 tL24 tZ24 tM24 tS24 tR24 tU24 tI24 tF24_0 tF24_1 tE25 tC25 tB25 tA25 tL25 tZ25 tM25 tS25 tR25 tU25 tI25 tE27 tC27 tB27 tA27 tL27 tZ27 tM27 tS27 tR27 tU27 tI27 tF27_0 tF27_1 tF27_2 tE29 tC29 tB29 tA29 tL29 tZ29 tM29 tS29 tR29 tU29 tI29 tF29_0 tF29_1 tE32 tC32 tB32 tA32 tL32 tZ32 tM32 tS32 tR32 tU32 tI32 tF32_0 tF32_1 tE33 tC33 tB33 tA33 tL33 tZ33 tM33 tS33 tR33 tU33 tI33 tE35 tC35 tB35 tA35 tL35 tZ35 tM35 tS35 tR35 tU35 tI35 tE37 tC37 tB37 tA37 tL37 tZ37 tM37 tS37 tR37 tU37 tI37 tF37_0 tF37_1 tE39 tC39 tB39 tA39
attribute [simp] tL39 tZ39 tM39 tS39 tR39 tU39 tI39 tF39_0 tF39_1 tF39_2 tE46 tC46 tB46 tA46 tL46 tZ46 tM46 tS46 tR46 tU46 tI46 tE51 tC51 tB51 tA51 tL51 tZ51 tM51 tS51 tR51 tU51 tI51 tE60 tC60 tB60 tA60 tL60 tZ60 tM60 tS60 tR60 tU60 tI60 tE62 tC62 tB62 tA62 tL62 tZ62 tM62 tS62 tR62 tU62 tI62 tF62_0 tF62_1 tF62_2 tF62_3 tF62_4 tF62_5 tF62_6 tF62_7 tF62_8 tE63 tC63 tB63 tA63 tL63 tZ63 tM63 tS63 tR63 tU63 tI63 tE65 tC65 tB65 tA65 tL65 tZ65 tM65 tS65 tR65 tU65 tI65 tF65_0 tE94 tC94 tB94 tA94 tL94 tZ94 tM94 tS94 tR94 tU94 tI94 tE96 tC96 tB96 tA96 tL96 tZ96 tM96 tS96 tR96 tU96 tI96 tF96_0 tE114 tC114 tB114 tA114 tL114 tZ114 tM114 tS114 tR114 tU114 tI114 tF114_0 tF114_1 tE121 tC121 tB121 tA121 tL121 tZ121 tM121 tS121 tR121 tU121 tI121 tE142 tC142 tB142 tA142 tL142 tZ142 tM142 tS142 tR142 tU142 tI142 tE144 tC144 tB144 tA144 tL144 tZ144 tM144 tS144 tR144 tU144 tI144 tF144_0 tF144_1 tF144_2 tF144_3 tF144_4 tF144_5 tF144_6 tF144_7 tF144_8 tE178 tC178 tB178 tA178 tL178 tZ178 tM178 tS178 tR178 tU178 tI178 tF178_0 tF178_1 tE170 tC170 tB170 tA170 tL170 tZ170 tM170 tS170 tR170 tU170 tI170 tE176 tC176 tB176 tA176 tL176 tZ176 tM176 tS176 tR176 tU176 tI176 Q34_0 Q34_1 Q34_2 Q34_3 Q34_4 Q34_5 Q34_7 Q34_8 Q34_9 Q34_10 Q34_6 Q34_11 Q3_0 Q3_1 Q3_2 Q3_3 Q3_4 Q3_5 Q3_6 Q3_7 Q3_8 Q3_9 Q3_10 Q3_11 Q3_12 Q3_13 Q3_14 Q3_15 Q3_16 Q3_17 Q3_18 Q3_19 Q3_20 Q56_0 Q56_1 Q56_2 Q56_3 Q56_4 Q56_5 Q56_6 Q56_7 Q56_8 Q56_9 Q56_10 Q56_11 Q56_12 Q25_0 Q25_1 Q25_2 Q25_3 Q25_4 Q25_5 Q25_6 Q25_7 Q25_8 Q25_9 Q25_10 Q25_11 Q25_12 Q5_0 Q5_1 Q5_2 Q5_3 Q5_4 Q5_5 Q5_6 Q5_7 Q5_8 Q5_9 Q5_10 Q5_11 Q5_12 Q5_13 Q5_14 Q5_15 Q5_16 Q5_17 Q5_18 Q5_19 Q5_20
end Go.Mach.Fv
