/- Parts of the proof of the seat's statements (HFd, HTk, HTh, HTc, HSha, HPr, ShMap5, ShRow, ShRow2, ShBuf, ShBuf2, ShBit, ShBox, ShGo, ShelfT4, CodeSpec, TcB, TcE, TcR, TcR2, TcI, FdSpec, FdPow, FdDiv, FdA, FdB, FdC, FdE): lemmas about the given translation and plain laws. No condition of their own. -/
import Derived.Test.YtlmhhgemiknhdaaGreatDoorKna
import Derived.Test.YtlmhhgemiknhdaaGreatDoorProg
import Derived.Lib.BufferWrite
import Derived.Lib.SliceRun
import Derived.Laws.MakeOwn
import Derived.Laws.OwnMore
import Derived.Great.BuildSlice
import Derived.Laws.IdiomStrings
import Derived.Shelf.Strings.Builder1
import Derived.Shelf.Small.Strs
import Derived.Shelf.Small.Wraps
import Derived.Shelf.Strings.BuilderF
import Derived.Shelf.Strings.BuilderK
import Derived.Shelf.Strconv.Atoi
import Derived.Shelf.Strconv.Itoa0
import Derived.Shelf.Strconv.Itoa1
import Derived.Shelf.LaysM
import Derived.Shelf.Strconv.Itoa2
import Derived.Shelf.Strconv.Itoa3
import Derived.Shelf.Strconv.AtoiErrFast
import Derived.Shelf.Strconv.ParseIntEmpty
import Derived.Shelf.Strconv.AtoiFail
import Derived.Shelf.Strconv.Clone
import Derived.Shelf.Strconv.SyntaxError
import Derived.Shelf.LaysC
import Derived.Shelf.Strconv.ToError
import Derived.Shelf.Strconv.Lower
import Derived.Shelf.Strconv.ParseUint10
import Derived.Shelf.Strconv.ParseUint10Empty
import Derived.Shelf.Strconv.ParseUint10Any
import Derived.Shelf.Strconv.ParseInt10
import Derived.Shelf.Strconv.AtoiLong
import Derived.Shelf.Strconv.AtoiInnerAll
import Derived.Shelf.Strconv.RangeError
import Derived.Shelf.Strconv.ToErrorRange
import Derived.Shelf.Strconv.AtoiAll
import Derived.Shelf.Strconv.ErrVarAll
import Derived.Shelf.Strings.Search1
import Derived.Shelf.Strings.Prefix
import Derived.Shelf.Bits.Mul64
import Derived.Test.YtlmhhgemiknhdaaGreatDoorRows
import Derived.Lib.ItoaNum
import Derived.Lib.AtoiAllCases
import Derived.Lib.Builder
import Derived.Lib.AppendStr
import Derived.Lib.AppendIntMem
import Derived.Lib.Mul64
set_option linter.all false
set_option maxRecDepth 100000
namespace Go.Proofs
open Go.Sh Tryz
def sh_123 (a0:Value) (K:Value → World → Prop) (w:World):Prop:=
 oM prog (.binOp .geq 3 (.tmp 0) (.tmp 1) 3) 4 [a0,(.int .i64 1)] (fun v4 w=>
 gdM (gd v4 true) (pureM a0) (fun v6 w=>
 gdM (gd v4 true) (oM prog (.binOp .lss 3 (.tmp 0) (.tmp 1) 3) 4 [v6,(.int .i64 2305843009213693952)]) (fun v7 w=>
 oM prog (.pick (.tmp 0) (.tmp 1) (.tmp 2)) 4 [v4,v7,(.bool false)] (fun v8 w=>
 K v8 w) w) w) w) w
theorem sh_123_ok {a0:Value} {K:Value → World → Prop} {w:World} (h:sh_123 a0 K w):callM prog 123 #[a0] K w:=
 calls_of_code (fun _=>0) (fn:=Tryz.f123) (rs:=[.tmp 2]) Tryz.func123 rfl rfl (by kernel_rfl) (Nat.le_of_ble_eq_true rfl) (Eq.mp (by kernel_rfl) h)
def sh_124 (a0 a1:Value) (K:Value → World → Prop) (w:World):Prop:=
 oM prog (.binOp .rem 3 (.tmp 0) (.tmp 1) 3) 3 [a1,a0] (fun v8 w=>
 oM prog (.binOp .lss 3 (.tmp 0) (.tmp 1) 3) 4 [v8,(.int .i64 0)] (fun v10 w=>
 condM v10
 (oM prog (.binOp .add 3 (.tmp 0) (.tmp 1) 3) 3 [v8,a0] (fun v13 w=>
 oM prog (.convert 3 150 (.tmp 0)) 150 [v13] (fun v14 w=>
 K v14 w) w) w)
 (oM prog (.convert 3 150 (.tmp 0)) 150 [v8] (fun v16 w=>
 K v16 w) w)) w) w
theorem sh_124_ok {a0 a1:Value} {K:Value → World → Prop} {w:World} (h:sh_124 a0 a1 K w):callM prog 124 #[a0,a1] K w:=
 calls_of_code (fun _=>0) (fn:=Tryz.f124) (rs:=[.tmp 4]) Tryz.func124 rfl rfl (by kernel_rfl) (Nat.le_of_ble_eq_true rfl) (Eq.mp (by kernel_rfl) h)
def sh_182 (a0 a1:Value) (K:Value → World → Prop) (w:World):Prop:=
 oM prog (.binOp .and 150 (.tmp 0) (.tmp 1) 150) 150 [a0,(.int .u64 4294967295)] (fun v15 w=>
 oM prog (.binOp .shr 150 (.tmp 0) (.tmp 1) 191) 150 [a0,(.int .u64 32)] (fun v17 w=>
 oM prog (.binOp .and 150 (.tmp 0) (.tmp 1) 150) 150 [a1,(.int .u64 4294967295)] (fun v19 w=>
 oM prog (.binOp .shr 150 (.tmp 0) (.tmp 1) 191) 150 [a1,(.int .u64 32)] (fun v21 w=>
 oM prog (.binOp .mul 150 (.tmp 0) (.tmp 1) 150) 150 [v15,v19] (fun v24 w=>
 oM prog (.binOp .mul 150 (.tmp 0) (.tmp 1) 150) 150 [v17,v19] (fun v27 w=>
 oM prog (.binOp .shr 150 (.tmp 0) (.tmp 1) 191) 150 [v24,(.int .u64 32)] (fun v29 w=>
 oM prog (.binOp .add 150 (.tmp 0) (.tmp 1) 150) 150 [v27,v29] (fun v30 w=>
 oM prog (.binOp .and 150 (.tmp 0) (.tmp 1) 150) 150 [v30,(.int .u64 4294967295)] (fun v32 w=>
 oM prog (.binOp .shr 150 (.tmp 0) (.tmp 1) 191) 150 [v30,(.int .u64 32)] (fun v34 w=>
 oM prog (.binOp .mul 150 (.tmp 0) (.tmp 1) 150) 150 [v15,v21] (fun v38 w=>
 oM prog (.binOp .add 150 (.tmp 0) (.tmp 1) 150) 150 [v32,v38] (fun v39 w=>
 oM prog (.binOp .mul 150 (.tmp 0) (.tmp 1) 150) 150 [v17,v21] (fun v42 w=>
 oM prog (.binOp .add 150 (.tmp 0) (.tmp 1) 150) 150 [v42,v34] (fun v44 w=>
 oM prog (.binOp .shr 150 (.tmp 0) (.tmp 1) 191) 150 [v39,(.int .u64 32)] (fun v46 w=>
 oM prog (.binOp .add 150 (.tmp 0) (.tmp 1) 150) 150 [v44,v46] (fun v47 w=>
 oM prog (.binOp .mul 150 (.tmp 0) (.tmp 1) 150) 150 [a0,a1] (fun v50 w=>
 K (.tuple #[v47,v50]) w) w) w) w) w) w) w) w) w) w) w) w) w) w) w) w) w) w
theorem sh_182_ok {a0 a1:Value} {K:Value → World → Prop} {w:World} (h:sh_182 a0 a1 K w):callM prog 182 #[a0,a1] K w:=
 calls_of_code (fun _=>0) (fn:=Tryz.f182) (rs:=[.tmp 4,.tmp 5]) Tryz.func182 rfl rfl (by kernel_rfl) (Nat.le_of_ble_eq_true rfl) (Eq.mp (by kernel_rfl) h)
def sh_236 (a0:Value) (K:Value → World → Prop) (w:World):Prop:=
 joinM (fun M_1=>(oM prog (.binOp .geq 150 (.tmp 0) (.tmp 1) 150) 4 [a0,(.int .u64 4294967296)] (fun v4 w=>
 condM v4
 (oM prog (.binOp .shr 150 (.tmp 0) (.tmp 1) 191) 150 [a0,(.int .u64 32)] (fun v6 w=>
 M_1 [v6,(.int .i64 32)] w) w)
 (M_1 [a0,(.int .i64 0)] w)) w))
 (fun l_2 u_l_2 w=>(joinM (fun M_5=>(oM prog (.binOp .geq 150 (.tmp 0) (.tmp 1) 150) 4 [(l_2.getD 0 undef),(.int .u64 65536)] (fun v8 w=>
 condM v8
 (oM prog (.binOp .shr 150 (.tmp 0) (.tmp 1) 191) 150 [(l_2.getD 0 undef),(.int .u64 16)] (fun v10 w=>
 oM prog (.binOp .add 3 (.tmp 0) (.tmp 1) 3) 3 [(l_2.getD 1 undef),(.int .i64 16)] (fun v12 w=>
 M_5 [v10,v12] w) w) w)
 (M_5 [(l_2.getD 0 undef),(l_2.getD 1 undef)] w)) w))
 (fun l_6 u_l_6 w=>(joinM (fun M_10=>(oM prog (.binOp .geq 150 (.tmp 0) (.tmp 1) 150) 4 [(l_6.getD 0 undef),(.int .u64 256)] (fun v14 w=>
 condM v14
 (oM prog (.binOp .shr 150 (.tmp 0) (.tmp 1) 191) 150 [(l_6.getD 0 undef),(.int .u64 8)] (fun v16 w=>
 oM prog (.binOp .add 3 (.tmp 0) (.tmp 1) 3) 3 [(l_6.getD 1 undef),(.int .i64 8)] (fun v18 w=>
 M_10 [v16,v18] w) w) w)
 (M_10 [(l_6.getD 0 undef),(l_6.getD 1 undef)] w)) w))
 (fun l_11 u_l_11 w=>(oM prog (.convert 150 5 (.tmp 0)) 5 [(l_11.getD 0 undef)] (fun v21 w=>
 oM prog (.index 9 (.tmp 0) (.tmp 1)) 5 [(.string ⟨#[0,1,2,2,3,3,3,3,4,4,4,4,4,4,4,4,5,5,5,5,5,5,5,5,5,5,5,5,5,5,5,5,6,6,6,6,6,6,6,6,6,6,6,6,6,6,6,6,6,6,6,6,6,6,6,6,6,6,6,6,6,6,6,6,7,7,7,7,7,7,7,7,7,7,7,7,7,7,7,7,7,7,7,7,7,7,7,7,7,7,7,7,7,7,7,7,7,7,7,7,7,7,7,7,7,7,7,7,7,7,7,7,7,7,7,7,7,7,7,7,7,7,7,7,7,7,7,7,8,8,8,8,8,8,8,8,8,8,8,8,8,8,8,8,8,8,8,8,8,8,8,8,8,8,8,8,8,8,8,8,8,8,8,8,8,8,8,8,8,8,8,8,8,8,8,8,8,8,8,8,8,8,8,8,8,8,8,8,8,8,8,8,8,8,8,8,8,8,8,8,8,8,8,8,8,8,8,8,8,8,8,8,8,8,8,8,8,8,8,8,8,8,8,8,8,8,8,8,8,8,8,8,8,8,8,8,8,8,8,8,8,8,8,8,8,8,8,8,8,8,8,8,8,8,8,8]⟩),v21] (fun v22 w=>
 oM prog (.convert 5 3 (.tmp 0)) 3 [v22] (fun v23 w=>
 oM prog (.binOp .add 3 (.tmp 0) (.tmp 1) 3) 3 [(l_11.getD 1 undef),v23] (fun v24 w=>
 K v24 w) w) w) w) w))))))
theorem sh_236_ok {a0:Value} {K:Value → World → Prop} {w:World} (h:sh_236 a0 K w):callM prog 236 #[a0] K w:=
 calls_of_code (fun _=>0) (fn:=Tryz.f236) (rs:=[.tmp 2]) Tryz.func236 rfl rfl (by kernel_rfl) (Nat.le_of_ble_eq_true rfl) (Eq.mp (by kernel_rfl) h)
def sh_222 (a0:Value) (K:Value → World → Prop) (w:World):Prop:=
 callM prog 236 #[a0] (fun v4 w=>
 oM prog (.binOp .sub 3 (.tmp 0) (.tmp 1) 3) 3 [(.int .i64 64),v4] (fun v5 w=>
 K v5 w) w) w
theorem sh_222_ok {a0:Value} {K:Value → World → Prop} {w:World} (h:sh_222 a0 K w):callM prog 222 #[a0] K w:=
 calls_of_code (fun _=>0) (fn:=Tryz.f222) (rs:=[.tmp 2]) Tryz.func222 rfl rfl (by kernel_rfl) (Nat.le_of_ble_eq_true rfl) (Eq.mp (by kernel_rfl) h)
def sh_208 (a0 a1 a2:Value) (K:Value → World → Prop) (w:World):Prop:=
 joinM (fun M_1=>(oM prog (.binOp .eql 150 (.tmp 0) (.const (.int .u64 0)) 150) 4 [a2] (fun v20 w=>
 condM v20
 (oM prog (.load 215 (.tmp 0)) 215 [(.pointer (some ⟨0,0,none⟩))] (fun v21 w=>
 oM prog (.panic (.tmp 0)) 0 [v21] (fun _ w=>
 M_1 [] w) w) w)
 (M_1 [] w)) w))
 (fun l_2 u_l_2 w=>(joinM (fun M_5=>(oM prog (.binOp .leq 150 (.tmp 0) (.tmp 1) 150) 4 [a2,a0] (fun v24 w=>
 condM v24
 (oM prog (.load 215 (.tmp 0)) 215 [(.pointer (some ⟨1,0,none⟩))] (fun v25 w=>
 oM prog (.panic (.tmp 0)) 0 [v25] (fun _ w=>
 M_5 [] w) w) w)
 (M_5 [] w)) w))
 (fun l_6 u_l_6 w=>(oM prog (.binOp .eql 150 (.tmp 0) (.const (.int .u64 0)) 150) 4 [a0] (fun v27 w=>
 condM v27
 (quietM w (fun C_10=>(oQ prog (.binOp .quo 150 (.tmp 0) (.tmp 1) 150) 150 [a1,a2] C_10 (fun v30=>
 oQ prog (.binOp .rem 150 (.tmp 0) (.tmp 1) 150) 150 [a1,a2] C_10 (fun v33=>
 ∀ w,C_10 w → (K (.tuple #[v30,v33]) w))))))
 (callM prog 222 #[a2] (fun v35 w=>
 oM prog (.convert 3 191 (.tmp 0)) 191 [v35] (fun v36 w=>
 oM prog (.binOp .shl 150 (.tmp 0) (.tmp 1) 191) 150 [a2,v36] (fun v39 w=>
 oM prog (.binOp .shr 150 (.tmp 0) (.tmp 1) 191) 150 [v39,(.int .u64 32)] (fun v41 w=>
 oM prog (.binOp .and 150 (.tmp 0) (.tmp 1) 150) 150 [v39,(.int .u64 4294967295)] (fun v43 w=>
 oM prog (.binOp .shl 150 (.tmp 0) (.tmp 1) 191) 150 [a0,v36] (fun v46 w=>
 oM prog (.binOp .sub 191 (.tmp 0) (.tmp 1) 191) 191 [(.int .u64 64),v36] (fun v49 w=>
 oM prog (.binOp .shr 150 (.tmp 0) (.tmp 1) 191) 150 [a1,v49] (fun v50 w=>
 oM prog (.binOp .or 150 (.tmp 0) (.tmp 1) 150) 150 [v46,v50] (fun v51 w=>
 oM prog (.binOp .shl 150 (.tmp 0) (.tmp 1) 191) 150 [a1,v36] (fun v54 w=>
 oM prog (.binOp .shr 150 (.tmp 0) (.tmp 1) 191) 150 [v54,(.int .u64 32)] (fun v56 w=>
 oM prog (.binOp .and 150 (.tmp 0) (.tmp 1) 150) 150 [v54,(.int .u64 4294967295)] (fun v58 w=>
 oM prog (.binOp .quo 150 (.tmp 0) (.tmp 1) 150) 150 [v51,v41] (fun v61 w=>
 oM prog (.binOp .mul 150 (.tmp 0) (.tmp 1) 150) 150 [v61,v41] (fun v65 w=>
 oM prog (.binOp .sub 150 (.tmp 0) (.tmp 1) 150) 150 [v51,v65] (fun v66 w=>
 joinM (fun M_28=>(loopM [v61,v66] w (fun J_30 m_31 l_32 u_l_32 w0_l_32=>(fun w=>(
 oM prog (.binOp .geq 150 (.tmp 0) (.tmp 1) 150) 4 [(l_32.getD 0 undef),(.int .u64 4294967296)] (fun v68 w=>
 gdM (gd v68 false) (pureM (l_32.getD 0 undef)) (fun v70 w=>
 gdM (gd v68 false) (pureM v43) (fun v71 w=>
 gdM (gd v68 false) (oM prog (.binOp .mul 150 (.tmp 0) (.tmp 1) 150) 150 [v70,v71]) (fun v72 w=>
 gdM (gd v68 false) (pureM (l_32.getD 1 undef)) (fun v73 w=>
 gdM (gd v68 false) (oM prog (.binOp .mul 150 (.tmp 0) (.tmp 1) 150) 150 [(.int .u64 4294967296),v73]) (fun v74 w=>
 gdM (gd v68 false) (pureM v56) (fun v75 w=>
 gdM (gd v68 false) (oM prog (.binOp .add 150 (.tmp 0) (.tmp 1) 150) 150 [v74,v75]) (fun v76 w=>
 gdM (gd v68 false) (oM prog (.binOp .gtr 150 (.tmp 0) (.tmp 1) 150) 4 [v72,v76]) (fun v77 w=>
 oM prog (.pick (.tmp 0) (.tmp 1) (.tmp 2)) 4 [v68,(.bool true),v77] (fun v78 w=>
 condM v78
 (oM prog (.binOp .sub 150 (.tmp 0) (.tmp 1) 150) 150 [(l_32.getD 0 undef),(.int .u64 1)] (fun v80 w=>
 oM prog (.binOp .add 150 (.tmp 0) (.tmp 1) 150) 150 [(l_32.getD 1 undef),v41] (fun v83 w=>
 oM prog (.binOp .geq 150 (.tmp 0) (.tmp 1) 150) 4 [v83,(.int .u64 4294967296)] (fun v85 w=>
 condM v85
 (M_28 [v80,v83] w)
 (J_30 [v80,v83] w ∧ m_31 [v80,v83] w < m_31 l_32 w0_l_32)) w) w) w)
 (M_28 [(l_32.getD 0 undef),(l_32.getD 1 undef)] w)) w) w) w) w) w) w) w) w) w) w)) w0_l_32)))
 (fun l_29 u_l_29 w=>(oM prog (.binOp .mul 150 (.tmp 0) (.tmp 1) 150) 150 [v51,(.int .u64 4294967296)] (fun v87 w=>
 oM prog (.binOp .add 150 (.tmp 0) (.tmp 1) 150) 150 [v87,v56] (fun v89 w=>
 oM prog (.binOp .mul 150 (.tmp 0) (.tmp 1) 150) 150 [(l_29.getD 0 undef),v39] (fun v92 w=>
 oM prog (.binOp .sub 150 (.tmp 0) (.tmp 1) 150) 150 [v89,v92] (fun v93 w=>
 oM prog (.binOp .quo 150 (.tmp 0) (.tmp 1) 150) 150 [v93,v41] (fun v96 w=>
 oM prog (.binOp .mul 150 (.tmp 0) (.tmp 1) 150) 150 [v96,v41] (fun v100 w=>
 oM prog (.binOp .sub 150 (.tmp 0) (.tmp 1) 150) 150 [v93,v100] (fun v101 w=>
 joinM (fun M_53=>(loopM [v96,v101] w (fun J_55 m_56 l_57 u_l_57 w0_l_57=>(fun w=>(
 oM prog (.binOp .geq 150 (.tmp 0) (.tmp 1) 150) 4 [(l_57.getD 0 undef),(.int .u64 4294967296)] (fun v103 w=>
 gdM (gd v103 false) (pureM (l_57.getD 0 undef)) (fun v105 w=>
 gdM (gd v103 false) (pureM v43) (fun v106 w=>
 gdM (gd v103 false) (oM prog (.binOp .mul 150 (.tmp 0) (.tmp 1) 150) 150 [v105,v106]) (fun v107 w=>
 gdM (gd v103 false) (pureM (l_57.getD 1 undef)) (fun v108 w=>
 gdM (gd v103 false) (oM prog (.binOp .mul 150 (.tmp 0) (.tmp 1) 150) 150 [(.int .u64 4294967296),v108]) (fun v109 w=>
 gdM (gd v103 false) (pureM v58) (fun v110 w=>
 gdM (gd v103 false) (oM prog (.binOp .add 150 (.tmp 0) (.tmp 1) 150) 150 [v109,v110]) (fun v111 w=>
 gdM (gd v103 false) (oM prog (.binOp .gtr 150 (.tmp 0) (.tmp 1) 150) 4 [v107,v111]) (fun v112 w=>
 oM prog (.pick (.tmp 0) (.tmp 1) (.tmp 2)) 4 [v103,(.bool true),v112] (fun v113 w=>
 condM v113
 (oM prog (.binOp .sub 150 (.tmp 0) (.tmp 1) 150) 150 [(l_57.getD 0 undef),(.int .u64 1)] (fun v115 w=>
 oM prog (.binOp .add 150 (.tmp 0) (.tmp 1) 150) 150 [(l_57.getD 1 undef),v41] (fun v118 w=>
 oM prog (.binOp .geq 150 (.tmp 0) (.tmp 1) 150) 4 [v118,(.int .u64 4294967296)] (fun v120 w=>
 condM v120
 (M_53 [v115,v118] w)
 (J_55 [v115,v118] w ∧ m_56 [v115,v118] w < m_56 l_57 w0_l_57)) w) w) w)
 (M_53 [(l_57.getD 0 undef),(l_57.getD 1 undef)] w)) w) w) w) w) w) w) w) w) w) w)) w0_l_57)))
 (fun l_54 u_l_54 w=>(oM prog (.binOp .mul 150 (.tmp 0) (.tmp 1) 150) 150 [(l_29.getD 0 undef),(.int .u64 4294967296)] (fun v122 w=>
 oM prog (.binOp .add 150 (.tmp 0) (.tmp 1) 150) 150 [v122,(l_54.getD 0 undef)] (fun v124 w=>
 oM prog (.binOp .mul 150 (.tmp 0) (.tmp 1) 150) 150 [v93,(.int .u64 4294967296)] (fun v126 w=>
 oM prog (.binOp .add 150 (.tmp 0) (.tmp 1) 150) 150 [v126,v58] (fun v128 w=>
 oM prog (.binOp .mul 150 (.tmp 0) (.tmp 1) 150) 150 [(l_54.getD 0 undef),v39] (fun v131 w=>
 oM prog (.binOp .sub 150 (.tmp 0) (.tmp 1) 150) 150 [v128,v131] (fun v132 w=>
 oM prog (.binOp .shr 150 (.tmp 0) (.tmp 1) 191) 150 [v132,v36] (fun v134 w=>
 K (.tuple #[v124,v134]) w) w) w) w) w) w) w) w))) w) w) w) w) w) w) w))) w) w) w) w) w) w) w) w) w) w) w) w) w) w) w)) w))))
theorem sh_208_ok {a0 a1 a2:Value} {K:Value → World → Prop} {w:World} (h:sh_208 a0 a1 a2 K w):callM prog 208 #[a0,a1,a2] K w:=
 calls_of_code (fun _=>0) (fn:=Tryz.f208) (rs:=[.tmp 6,.tmp 7]) Tryz.func208 rfl rfl (by kernel_rfl) (Nat.le_of_ble_eq_true rfl) (Eq.mp (by kernel_rfl) h)
def sh_183 (a0 a1 a2:Value) (K:Value → World → Prop) (w:World):Prop:=
 oM prog (.binOp .rem 150 (.tmp 0) (.tmp 1) 150) 150 [a0,a2] (fun v12 w=>
 callM prog 208 #[v12,a1,a2] (fun v15 w=>
 oM prog (.extract (.tmp 0) 0) 150 [v15] (fun v16 w=>
 oM prog (.extract (.tmp 0) 1) 150 [v15] (fun v17 w=>
 K v17 w) w) w) w) w
theorem sh_183_ok {a0 a1 a2:Value} {K:Value → World → Prop} {w:World} (h:sh_183 a0 a1 a2 K w):callM prog 183 #[a0,a1,a2] K w:=
 calls_of_code (fun _=>0) (fn:=Tryz.f183) (rs:=[.tmp 6]) Tryz.func183 rfl rfl (by kernel_rfl) (Nat.le_of_ble_eq_true rfl) (Eq.mp (by kernel_rfl) h)
def sh_125 (a0 a1 a2:Value) (K:Value → World → Prop) (w:World):Prop:=
 callM prog 182 #[a1,a2] (fun v12 w=>
 oM prog (.extract (.tmp 0) 0) 150 [v12] (fun v13 w=>
 oM prog (.extract (.tmp 0) 1) 150 [v12] (fun v14 w=>
 oM prog (.convert 3 150 (.tmp 0)) 150 [a0] (fun v18 w=>
 callM prog 183 #[v13,v14,v18] (fun v19 w=>
 K v19 w) w) w) w) w) w
theorem sh_125_ok {a0 a1 a2:Value} {K:Value → World → Prop} {w:World} (h:sh_125 a0 a1 a2 K w):callM prog 125 #[a0,a1,a2] K w:=
 calls_of_code (fun _=>0) (fn:=Tryz.f125) (rs:=[.tmp 6]) Tryz.func125 rfl rfl (by kernel_rfl) (Nat.le_of_ble_eq_true rfl) (Eq.mp (by kernel_rfl) h)
def sh_129 (a0 a1 a2:Value) (K:Value → World → Prop) (w:World):Prop:=
 oM prog (.convert 3 150 (.tmp 0)) 150 [a0] (fun v9 w=>
 oM prog (.binOp .rem 150 (.tmp 0) (.tmp 1) 150) 150 [(.int .u64 1),v9] (fun v10 w=>
 loopM [v10,a1,a2] w (fun J_3 m_4 l_5 u_l_5 w0_l_5=>(fun w=>(
 oM prog (.binOp .gtr 150 (.tmp 0) (.tmp 1) 150) 4 [(l_5.getD 2 undef),(.int .u64 0)] (fun v12 w=>
 condM v12
 (joinM (fun M_7=>(oM prog (.binOp .and 150 (.tmp 0) (.tmp 1) 150) 150 [(l_5.getD 2 undef),(.int .u64 1)] (fun v16 w=>
 oM prog (.binOp .eql 150 (.tmp 0) (.const (.int .u64 1)) 150) 4 [v16] (fun v17 w=>
 condM v17
 (callM prog 125 #[a0,(l_5.getD 0 undef),(l_5.getD 1 undef)] (fun v21 w=>
 M_7 [v21] w) w)
 (M_7 [(l_5.getD 0 undef)] w)) w) w))
 (fun l_8 u_l_8 w=>(callM prog 125 #[a0,(l_5.getD 1 undef),(l_5.getD 1 undef)] (fun v25 w=>
 oM prog (.binOp .shr 150 (.tmp 0) (.tmp 1) 191) 150 [(l_5.getD 2 undef),(.int .u64 1)] (fun v14 w=>
 J_3 [(l_8.getD 0 undef),v25,v14] w ∧ m_4 [(l_8.getD 0 undef),v25,v14] w < m_4 l_5 w0_l_5) w) w)))
 (K (l_5.getD 0 undef) w)) w)) w0_l_5)) w) w
theorem sh_129_ok {a0 a1 a2:Value} {K:Value → World → Prop} {w:World} (h:sh_129 a0 a1 a2 K w):callM prog 129 #[a0,a1,a2] K w:=
 calls_of_code (fun _=>0) (fn:=Tryz.f129) (rs:=[.tmp 6]) Tryz.func129 rfl rfl (by kernel_rfl) (Nat.le_of_ble_eq_true rfl) (Eq.mp (by kernel_rfl) h)
def sh_42 (a0 a1 a2:Value) (K:Value → World → Prop) (w:World):Prop:=
 callM prog 123 #[a0] (fun v8 w=>
 oM prog (.unOp .not 4 (.tmp 0)) 4 [v8] (fun v9 w=>
 condM v9
 (K (.int .i64 0) w)
 (callM prog 124 #[a0,a1] (fun v12 w=>
 callM prog 124 #[a0,a2] (fun v15 w=>
 oM prog (.binOp .add 150 (.tmp 0) (.tmp 1) 150) 150 [v12,v15] (fun v16 w=>
 oM prog (.convert 3 150 (.tmp 0)) 150 [a0] (fun v18 w=>
 oM prog (.binOp .rem 150 (.tmp 0) (.tmp 1) 150) 150 [v16,v18] (fun v19 w=>
 oM prog (.convert 150 3 (.tmp 0)) 3 [v19] (fun v20 w=>
 K v20 w) w) w) w) w) w) w)) w) w
theorem sh_42_ok {a0 a1 a2:Value} {K:Value → World → Prop} {w:World} (h:sh_42 a0 a1 a2 K w):callM prog 42 #[a0,a1,a2] K w:=
 calls_of_code (fun _=>0) (fn:=Tryz.f42) (rs:=[.tmp 6]) Tryz.func42 rfl rfl (by kernel_rfl) (Nat.le_of_ble_eq_true rfl) (Eq.mp (by kernel_rfl) h)
def sh_48 (a0 a1 a2:Value) (K:Value → World → Prop) (w:World):Prop:=
 callM prog 123 #[a0] (fun v8 w=>
 oM prog (.unOp .not 4 (.tmp 0)) 4 [v8] (fun v9 w=>
 condM v9
 (K (.int .i64 0) w)
 (callM prog 124 #[a0,a1] (fun v12 w=>
 oM prog (.convert 3 150 (.tmp 0)) 150 [a0] (fun v14 w=>
 oM prog (.binOp .add 150 (.tmp 0) (.tmp 1) 150) 150 [v12,v14] (fun v15 w=>
 callM prog 124 #[a0,a2] (fun v18 w=>
 oM prog (.binOp .sub 150 (.tmp 0) (.tmp 1) 150) 150 [v15,v18] (fun v19 w=>
 oM prog (.convert 3 150 (.tmp 0)) 150 [a0] (fun v21 w=>
 oM prog (.binOp .rem 150 (.tmp 0) (.tmp 1) 150) 150 [v19,v21] (fun v22 w=>
 oM prog (.convert 150 3 (.tmp 0)) 3 [v22] (fun v23 w=>
 K v23 w) w) w) w) w) w) w) w) w)) w) w
theorem sh_48_ok {a0 a1 a2:Value} {K:Value → World → Prop} {w:World} (h:sh_48 a0 a1 a2 K w):callM prog 48 #[a0,a1,a2] K w:=
 calls_of_code (fun _=>0) (fn:=Tryz.f48) (rs:=[.tmp 6]) Tryz.func48 rfl rfl (by kernel_rfl) (Nat.le_of_ble_eq_true rfl) (Eq.mp (by kernel_rfl) h)
def sh_43 (a0 a1 a2:Value) (K:Value → World → Prop) (w:World):Prop:=
 callM prog 123 #[a0] (fun v8 w=>
 oM prog (.unOp .not 4 (.tmp 0)) 4 [v8] (fun v9 w=>
 condM v9
 (K (.int .i64 0) w)
 (callM prog 124 #[a0,a1] (fun v13 w=>
 callM prog 124 #[a0,a2] (fun v16 w=>
 callM prog 125 #[a0,v13,v16] (fun v17 w=>
 oM prog (.convert 150 3 (.tmp 0)) 3 [v17] (fun v18 w=>
 K v18 w) w) w) w) w)) w) w
theorem sh_43_ok {a0 a1 a2:Value} {K:Value → World → Prop} {w:World} (h:sh_43 a0 a1 a2 K w):callM prog 43 #[a0,a1,a2] K w:=
 calls_of_code (fun _=>0) (fn:=Tryz.f43) (rs:=[.tmp 6]) Tryz.func43 rfl rfl (by kernel_rfl) (Nat.le_of_ble_eq_true rfl) (Eq.mp (by kernel_rfl) h)
def sh_143 (a0 a1:Value) (K:Value → World → Prop) (w:World):Prop:=
 callM prog 123 #[a0] (fun v12 w=>
 oM prog (.unOp .not 4 (.tmp 0)) 4 [v12] (fun v13 w=>
 condM v13
 (K (.tuple #[(.int .i64 0),(.bool false)]) w)
 (callM prog 124 #[a0,a1] (fun v17 w=>
 oM prog (.convert 150 3 (.tmp 0)) 3 [v17] (fun v18 w=>
 loopM [undef,a0,v18,(.int .i64 0),(.int .i64 1)] w (fun J_5 m_6 l_7 u_l_7 w0_l_7=>(fun w=>(
 oM prog (.binOp .neq 3 (.tmp 0) (.const (.int .i64 0)) 3) 4 [(l_7.getD 2 undef)] (fun v20 w=>
 condM v20
 (oM prog (.binOp .quo 3 (.tmp 0) (.tmp 1) 3) 3 [(l_7.getD 1 undef),(l_7.getD 2 undef)] (fun v23 w=>
 oM prog (.binOp .mul 3 (.tmp 0) (.tmp 1) 3) 3 [v23,(l_7.getD 2 undef)] (fun v28 w=>
 oM prog (.binOp .sub 3 (.tmp 0) (.tmp 1) 3) 3 [(l_7.getD 1 undef),v28] (fun v29 w=>
 callM prog 43 #[a0,v23,(l_7.getD 4 undef)] (fun v36 w=>
 callM prog 48 #[a0,(l_7.getD 3 undef),v36] (fun v37 w=>
 J_5 [v23,(l_7.getD 2 undef),v29,(l_7.getD 4 undef),v37] w ∧ m_6 [v23,(l_7.getD 2 undef),v29,(l_7.getD 4 undef),v37] w < m_6 l_7 w0_l_7) w) w) w) w) w)
 (oM prog (.binOp .neq 3 (.tmp 0) (.const (.int .i64 1)) 3) 4 [(l_7.getD 1 undef)] (fun v39 w=>
 condM v39
 (K (.tuple #[(.int .i64 0),(.bool false)]) w)
 (oM prog (.binOp .rem 3 (.tmp 0) (.tmp 1) 3) 3 [(l_7.getD 3 undef),a0] (fun v42 w=>
 K (.tuple #[v42,(.bool true)]) w) w)) w)) w)) w0_l_7)) w) w)) w) w
theorem sh_143_ok {a0 a1:Value} {K:Value → World → Prop} {w:World} (h:sh_143 a0 a1 K w):callM prog 143 #[a0,a1] K w:=
 calls_of_code (fun _=>0) (fn:=Tryz.f143) (rs:=[.tmp 4,.tmp 5]) Tryz.func143 rfl rfl (by kernel_rfl) (Nat.le_of_ble_eq_true rfl) (Eq.mp (by kernel_rfl) h)
def sh_170 (a0 a1 a2:Value) (K:Value → World → Prop) (w:World):Prop:=
 callM prog 123 #[a0] (fun v11 w=>
 oM prog (.unOp .not 4 (.tmp 0)) 4 [v11] (fun v12 w=>
 condM v12
 (K (.int .i64 0) w)
 (oM prog (.binOp .geq 3 (.tmp 0) (.tmp 1) 3) 4 [a2,(.int .i64 0)] (fun v15 w=>
 condM v15
 (callM prog 124 #[a0,a1] (fun v19 w=>
 oM prog (.convert 3 150 (.tmp 0)) 150 [a2] (fun v21 w=>
 callM prog 129 #[a0,v19,v21] (fun v22 w=>
 oM prog (.convert 150 3 (.tmp 0)) 3 [v22] (fun v23 w=>
 K v23 w) w) w) w) w)
 (callM prog 143 #[a0,a1] (fun v27 w=>
 oM prog (.extract (.tmp 0) 0) 3 [v27] (fun v28 w=>
 oM prog (.extract (.tmp 0) 1) 4 [v27] (fun v29 w=>
 oM prog (.unOp .not 4 (.tmp 0)) 4 [v29] (fun v31 w=>
 condM v31
 (K (.int .i64 0) w)
 (oM prog (.convert 3 150 (.tmp 0)) 150 [v28] (fun v34 w=>
 oM prog (.convert 3 150 (.tmp 0)) 150 [a2] (fun v36 w=>
 oM prog (.unOp .neg 150 (.tmp 0)) 150 [v36] (fun v37 w=>
 callM prog 129 #[a0,v34,v37] (fun v38 w=>
 oM prog (.convert 150 3 (.tmp 0)) 3 [v38] (fun v39 w=>
 K v39 w) w) w) w) w) w)) w) w) w) w)) w)) w) w
theorem sh_170_ok {a0 a1 a2:Value} {K:Value → World → Prop} {w:World} (h:sh_170 a0 a1 a2 K w):callM prog 170 #[a0,a1,a2] K w:=
 calls_of_code (fun _=>0) (fn:=Tryz.f170) (rs:=[.tmp 6]) Tryz.func170 rfl rfl (by kernel_rfl) (Nat.le_of_ble_eq_true rfl) (Eq.mp (by kernel_rfl) h)
def sh_220 (a0:Value) (K:Value → World → Prop) (w:World):Prop:=
 oM prog (.binOp .eql 150 (.tmp 0) (.const (.int .u64 0)) 150) 4 [a0] (fun v4 w=>
 condM v4
 (K (.int .i64 64) w)
 (oM prog (.unOp .neg 150 (.tmp 0)) 150 [a0] (fun v7 w=>
 oM prog (.binOp .and 150 (.tmp 0) (.tmp 1) 150) 150 [a0,v7] (fun v8 w=>
 oM prog (.binOp .mul 150 (.tmp 0) (.tmp 1) 150) 150 [v8,(.int .u64 285870213051353865)] (fun v9 w=>
 oM prog (.binOp .shr 150 (.tmp 0) (.tmp 1) 191) 150 [v9,(.int .u64 58)] (fun v10 w=>
 oM prog (.indexAddr 244 (.tmp 0) (.tmp 1)) 0 [(.pointer (some ⟨2,0,none⟩)),v10] (fun v11 w=>
 oM prog (.load 5 (.tmp 0)) 5 [v11] (fun v12 w=>
 oM prog (.convert 5 3 (.tmp 0)) 3 [v12] (fun v13 w=>
 K v13 w) w) w) w) w) w) w) w)) w
theorem sh_220_ok {a0:Value} {K:Value → World → Prop} {w:World} (h:sh_220 a0 K w):callM prog 220 #[a0] K w:=
 calls_of_code (fun _=>0) (fn:=Tryz.f220) (rs:=[.tmp 2]) Tryz.func220 rfl rfl (by kernel_rfl) (Nat.le_of_ble_eq_true rfl) (Eq.mp (by kernel_rfl) h)
def sh_202 (a0 a1:Value) (K:Value → World → Prop) (w:World):Prop:=
 oM prog (.binOp .sub 3 (.tmp 0) (.tmp 1) 3) 3 [a0,(.int .i64 1)] (fun v8 w=>
 oM prog (.convert 3 150 (.tmp 0)) 150 [v8] (fun v9 w=>
 callM prog 220 #[v9] (fun v10 w=>
 oM prog (.binOp .sub 3 (.tmp 0) (.tmp 1) 3) 3 [a0,(.int .i64 1)] (fun v14 w=>
 oM prog (.convert 3 150 (.tmp 0)) 150 [v14] (fun v15 w=>
 oM prog (.binOp .shr 150 (.tmp 0) (.tmp 1) 3) 150 [v15,v10] (fun v17 w=>
 callM prog 129 #[a0,a1,v17] (fun v18 w=>
 oM prog (.binOp .eql 150 (.tmp 0) (.const (.int .u64 1)) 150) 4 [v18] (fun v20 w=>
 condM v20
 (K (.bool false) w)
 (loopM [(.bool false),v18,(.int .i64 0)] w (fun J_9 m_10 l_11 u_l_11 w0_l_11=>(fun w=>(
 oM prog (.binOp .lss 3 (.tmp 0) (.tmp 1) 3) 4 [(l_11.getD 2 undef),v10] (fun v23 w=>
 condM v23
 (oM prog (.binOp .sub 3 (.tmp 0) (.tmp 1) 3) 3 [a0,(.int .i64 1)] (fun v26 w=>
 oM prog (.convert 3 150 (.tmp 0)) 150 [v26] (fun v27 w=>
 oM prog (.binOp .eql 150 (.tmp 0) (.tmp 1) 150) 4 [(l_11.getD 1 undef),v27] (fun v28 w=>
 condM v28
 (K (.bool false) w)
 (callM prog 125 #[a0,(l_11.getD 1 undef),(l_11.getD 1 undef)] (fun v32 w=>
 oM prog (.binOp .add 3 (.tmp 0) (.tmp 1) 3) 3 [(l_11.getD 2 undef),(.int .i64 1)] (fun v33 w=>
 J_9 [(l_11.getD 0 undef),v32,v33] w ∧ m_10 [(l_11.getD 0 undef),v32,v33] w < m_10 l_11 w0_l_11) w) w)) w) w) w)
 (K (.bool true) w)) w)) w0_l_11))) w) w) w) w) w) w) w) w
theorem sh_202_ok {a0 a1:Value} {K:Value → World → Prop} {w:World} (h:sh_202 a0 a1 K w):callM prog 202 #[a0,a1] K w:=
 calls_of_code (fun _=>0) (fn:=Tryz.f202) (rs:=[.tmp 4]) Tryz.func202 rfl rfl (by kernel_rfl) (Nat.le_of_ble_eq_true rfl) (Eq.mp (by kernel_rfl) h)
def sh_169 (a0:Value) (K:Value → World → Prop) (w:World):Prop:=
 oM prog (.binOp .lss 3 (.tmp 0) (.tmp 1) 3) 4 [a0,(.int .i64 2)] (fun v9 w=>
 gdM (gd v9 false) (pureM a0) (fun v11 w=>
 gdM (gd v9 false) (oM prog (.binOp .geq 3 (.tmp 0) (.tmp 1) 3) 4 [v11,(.int .i64 2305843009213693952)]) (fun v12 w=>
 oM prog (.pick (.tmp 0) (.tmp 1) (.tmp 2)) 4 [v9,(.bool true),v12] (fun v13 w=>
 condM v13
 (K (.bool false) w)
 (oM prog (.build 208 #[(0,(.tmp 0)),(1,(.tmp 1)),(2,(.tmp 2)),(3,(.tmp 3)),(4,(.tmp 4)),(5,(.tmp 5)),(6,(.tmp 6)),(7,(.tmp 7)),(8,(.tmp 8)),(9,(.tmp 9)),(10,(.tmp 10)),(11,(.tmp 11))]) 208 [(.int .i64 2),(.int .i64 3),(.int .i64 5),(.int .i64 7),(.int .i64 11),(.int .i64 13),(.int .i64 17),(.int .i64 19),(.int .i64 23),(.int .i64 29),(.int .i64 31),(.int .i64 37)] (fun v14 w=>
 oM prog (.alloc 208) 0 [] (fun v3 w=>
 oM prog (.store 208 (.tmp 0) (.tmp 1)) 0 [v3,v14] (fun _ w=>
 oM prog (.load 208 (.tmp 0)) 208 [v3] (fun v15 w=>
 loopM [undef,(.bool false),(.int .i64 0)] w (fun J_8 m_9 l_10 u_l_10 w0_l_10=>(fun w=>(
 oM prog (.binOp .lss 3 (.tmp 0) (.tmp 1) 3) 0 [(l_10.getD 2 undef),(.int .i64 12)] (fun v17 w=>
 condM v17
 (oM prog (.index 208 (.tmp 0) (.tmp 1)) 3 [v15,(l_10.getD 2 undef)] (fun v18 w=>
 oM prog (.binOp .rem 3 (.tmp 0) (.tmp 1) 3) 3 [a0,v18] (fun v21 w=>
 oM prog (.binOp .eql 3 (.tmp 0) (.const (.int .i64 0)) 3) 4 [v21] (fun v22 w=>
 condM v22
 (oM prog (.binOp .eql 3 (.tmp 0) (.tmp 1) 3) 4 [a0,v18] (fun v25 w=>
 K v25 w) w)
 (oM prog (.binOp .add 3 (.tmp 0) (.tmp 1) 3) 3 [(l_10.getD 2 undef),(.int .i64 1)] (fun v26 w=>
 J_8 [v18,(l_10.getD 1 undef),v26] w ∧ m_9 [v18,(l_10.getD 1 undef),v26] w < m_9 l_10 w0_l_10) w)) w) w) w)
 (oM prog (.load 208 (.tmp 0)) 208 [v3] (fun v27 w=>
 loopM [undef,(l_10.getD 1 undef),(.int .i64 0)] w (fun J_18 m_19 l_20 u_l_20 w0_l_20=>(fun w=>(
 oM prog (.binOp .lss 3 (.tmp 0) (.tmp 1) 3) 0 [(l_20.getD 2 undef),(.int .i64 12)] (fun v29 w=>
 condM v29
 (oM prog (.index 208 (.tmp 0) (.tmp 1)) 3 [v27,(l_20.getD 2 undef)] (fun v30 w=>
 oM prog (.convert 3 150 (.tmp 0)) 150 [v30] (fun v33 w=>
 callM prog 202 #[a0,v33] (fun v34 w=>
 condM v34
 (K (.bool false) w)
 (oM prog (.binOp .add 3 (.tmp 0) (.tmp 1) 3) 3 [(l_20.getD 2 undef),(.int .i64 1)] (fun v35 w=>
 J_18 [v30,(l_20.getD 1 undef),v35] w ∧ m_19 [v30,(l_20.getD 1 undef),v35] w < m_19 l_20 w0_l_20) w)) w) w) w)
 (K (.bool true) w)) w)) w0_l_20)) w)) w)) w0_l_10)) w) w) w) w)) w) w) w) w
theorem sh_169_ok {a0:Value} {K:Value → World → Prop} {w:World} (h:sh_169 a0 K w):callM prog 169 #[a0] K w:=
 calls_of_code (fun _=>0) (fn:=Tryz.f169) (rs:=[.tmp 2]) Tryz.func169 rfl rfl (by kernel_rfl) (Nat.le_of_ble_eq_true rfl) (Eq.mp (by kernel_rfl) h)
def sh_107 (a0:Value) (K:Value → World → Prop) (w:World):Prop:=
 oM prog (.box 23 (.tmp 0)) 0 [a0] (fun v1 w=>
 oM prog (.fieldAddr 23 (.tmp 0) 1) 0 [v1] (fun v3 w=>
 oM prog (.load 3 (.tmp 0)) 3 [v3] (fun v4 w=>
 oM prog (.binOp .lss 3 (.tmp 0) (.tmp 1) 3) 4 [v4,(.int .i64 5)] (fun v5 w=>
 gdM (gd v5 false) (oM prog (.fieldAddr 23 (.tmp 0) 1) 0 [v1]) (fun v7 w=>
 gdM (gd v5 false) (oM prog (.load 3 (.tmp 0)) 3 [v7]) (fun v8 w=>
 gdM (gd v5 false) (oM prog (.binOp .geq 3 (.tmp 0) (.tmp 1) 3) 4 [v8,(.int .i64 1152921504606846976)]) (fun v9 w=>
 oM prog (.pick (.tmp 0) (.tmp 1) (.tmp 2)) 4 [v5,(.bool true),v9] (fun v10 w=>
 gdM (gd v10 false) (oM prog (.fieldAddr 23 (.tmp 0) 0) 0 [v1]) (fun v12 w=>
 gdM (gd v10 false) (oM prog (.load 3 (.tmp 0)) 3 [v12]) (fun v13 w=>
 gdM (gd v10 false) (oM prog (.fieldAddr 23 (.tmp 0) 1) 0 [v1]) (fun v14 w=>
 gdM (gd v10 false) (oM prog (.load 3 (.tmp 0)) 3 [v14]) (fun v15 w=>
 gdM (gd v10 false) (oM prog (.binOp .mul 3 (.tmp 0) (.tmp 1) 3) 3 [(.int .i64 2),v15]) (fun v16 w=>
 gdM (gd v10 false) (oM prog (.binOp .add 3 (.tmp 0) (.tmp 1) 3) 3 [v16,(.int .i64 1)]) (fun v17 w=>
 gdM (gd v10 false) (oM prog (.binOp .neq 3 (.tmp 0) (.tmp 1) 3) 4 [v13,v17]) (fun v18 w=>
 oM prog (.pick (.tmp 0) (.tmp 1) (.tmp 2)) 4 [v10,(.bool true),v18] (fun v19 w=>
 gdM (gd v19 false) (oM prog (.fieldAddr 23 (.tmp 0) 2) 0 [v1]) (fun v21 w=>
 gdM (gd v19 false) (oM prog (.load 3 (.tmp 0)) 3 [v21]) (fun v22 w=>
 gdM (gd v19 false) (oM prog (.binOp .lss 3 (.tmp 0) (.tmp 1) 3) 4 [v22,(.int .i64 2)]) (fun v23 w=>
 oM prog (.pick (.tmp 0) (.tmp 1) (.tmp 2)) 4 [v19,(.bool true),v23] (fun v24 w=>
 gdM (gd v24 false) (oM prog (.fieldAddr 23 (.tmp 0) 2) 0 [v1]) (fun v26 w=>
 gdM (gd v24 false) (oM prog (.load 3 (.tmp 0)) 3 [v26]) (fun v27 w=>
 gdM (gd v24 false) (oM prog (.fieldAddr 23 (.tmp 0) 0) 0 [v1]) (fun v28 w=>
 gdM (gd v24 false) (oM prog (.load 3 (.tmp 0)) 3 [v28]) (fun v29 w=>
 gdM (gd v24 false) (oM prog (.binOp .geq 3 (.tmp 0) (.tmp 1) 3) 4 [v27,v29]) (fun v30 w=>
 oM prog (.pick (.tmp 0) (.tmp 1) (.tmp 2)) 4 [v24,(.bool true),v30] (fun v31 w=>
 condM v31
 (K (.bool false) w)
 (oM prog (.fieldAddr 23 (.tmp 0) 1) 0 [v1] (fun v32 w=>
 oM prog (.load 3 (.tmp 0)) 3 [v32] (fun v33 w=>
 callM prog 169 #[v33] (fun v34 w=>
 gdM (gd v34 true) (oM prog (.fieldAddr 23 (.tmp 0) 0) 0 [v1]) (fun v36 w=>
 gdM (gd v34 true) (oM prog (.load 3 (.tmp 0)) 3 [v36]) (fun v37 w=>
 gdM (gd v34 true) (callM prog 169 #[v37]) (fun v38 w=>
 oM prog (.pick (.tmp 0) (.tmp 1) (.tmp 2)) 4 [v34,v38,(.bool false)] (fun v39 w=>
 gdM (gd v39 true) (oM prog (.fieldAddr 23 (.tmp 0) 0) 0 [v1]) (fun v41 w=>
 gdM (gd v39 true) (oM prog (.load 3 (.tmp 0)) 3 [v41]) (fun v42 w=>
 gdM (gd v39 true) (oM prog (.fieldAddr 23 (.tmp 0) 2) 0 [v1]) (fun v43 w=>
 gdM (gd v39 true) (oM prog (.load 3 (.tmp 0)) 3 [v43]) (fun v44 w=>
 gdM (gd v39 true) (oM prog (.fieldAddr 23 (.tmp 0) 1) 0 [v1]) (fun v45 w=>
 gdM (gd v39 true) (oM prog (.load 3 (.tmp 0)) 3 [v45]) (fun v46 w=>
 gdM (gd v39 true) (callM prog 170 #[v42,v44,v46]) (fun v47 w=>
 gdM (gd v39 true) (oM prog (.binOp .eql 3 (.tmp 0) (.const (.int .i64 1)) 3) 4 [v47]) (fun v48 w=>
 oM prog (.pick (.tmp 0) (.tmp 1) (.tmp 2)) 4 [v39,v48,(.bool false)] (fun v49 w=>
 K v49 w) w) w) w) w) w) w) w) w) w) w) w) w) w) w) w) w)) w) w) w) w) w) w) w) w) w) w) w) w) w) w) w) w) w) w) w) w) w) w) w) w) w) w
theorem sh_107_ok {a0:Value} {K:Value → World → Prop} {w:World} (h:sh_107 a0 K w):callM prog 107 #[a0] K w:=
 calls_of_code (fun _=>0) (fn:=Tryz.f107) (rs:=[.tmp 2]) Tryz.func107 rfl rfl (by kernel_rfl) (Nat.le_of_ble_eq_true rfl) (Eq.mp (by kernel_rfl) h)
def sh_109 (a0 a1:Value) (K:Value → World → Prop) (w:World):Prop:=
 oM prog (.box 23 (.tmp 0)) 0 [a0] (fun v2 w=>
 oM prog (.binOp .geq 3 (.tmp 0) (.tmp 1) 3) 4 [a1,(.int .i64 1)] (fun v6 w=>
 gdM (gd v6 true) (pureM a1) (fun v8 w=>
 gdM (gd v6 true) (oM prog (.fieldAddr 23 (.tmp 0) 0) 0 [v2]) (fun v9 w=>
 gdM (gd v6 true) (oM prog (.load 3 (.tmp 0)) 3 [v9]) (fun v10 w=>
 gdM (gd v6 true) (oM prog (.binOp .lss 3 (.tmp 0) (.tmp 1) 3) 4 [v8,v10]) (fun v11 w=>
 oM prog (.pick (.tmp 0) (.tmp 1) (.tmp 2)) 4 [v6,v11,(.bool false)] (fun v12 w=>
 gdM (gd v12 true) (oM prog (.load 23 (.tmp 0)) 23 [v2]) (fun v14 w=>
 gdM (gd v12 true) (callM prog 107 #[v14]) (fun v15 w=>
 oM prog (.pick (.tmp 0) (.tmp 1) (.tmp 2)) 4 [v12,v15,(.bool false)] (fun v16 w=>
 gdM (gd v16 true) (oM prog (.fieldAddr 23 (.tmp 0) 0) 0 [v2]) (fun v18 w=>
 gdM (gd v16 true) (oM prog (.load 3 (.tmp 0)) 3 [v18]) (fun v19 w=>
 gdM (gd v16 true) (pureM a1) (fun v20 w=>
 gdM (gd v16 true) (oM prog (.fieldAddr 23 (.tmp 0) 1) 0 [v2]) (fun v21 w=>
 gdM (gd v16 true) (oM prog (.load 3 (.tmp 0)) 3 [v21]) (fun v22 w=>
 gdM (gd v16 true) (callM prog 170 #[v19,v20,v22]) (fun v23 w=>
 gdM (gd v16 true) (oM prog (.binOp .eql 3 (.tmp 0) (.const (.int .i64 1)) 3) 4 [v23]) (fun v24 w=>
 oM prog (.pick (.tmp 0) (.tmp 1) (.tmp 2)) 4 [v16,v24,(.bool false)] (fun v25 w=>
 K v25 w) w) w) w) w) w) w) w) w) w) w) w) w) w) w) w) w) w) w
theorem sh_109_ok {a0 a1:Value} {K:Value → World → Prop} {w:World} (h:sh_109 a0 a1 K w):callM prog 109 #[a0,a1] K w:=
 calls_of_code (fun _=>0) (fn:=Tryz.f109) (rs:=[.tmp 4]) Tryz.func109 rfl rfl (by kernel_rfl) (Nat.le_of_ble_eq_true rfl) (Eq.mp (by kernel_rfl) h)
def sh_46 (a0 a1 a2:Value) (K:Value → World → Prop) (w:World):Prop:=
 oM prog (.box 23 (.tmp 0)) 0 [a0] (fun v3 w=>
 oM prog (.fieldAddr 23 (.tmp 0) 0) 0 [v3] (fun v7 w=>
 oM prog (.load 3 (.tmp 0)) 3 [v7] (fun v8 w=>
 callM prog 123 #[v8] (fun v9 w=>
 oM prog (.unOp .not 4 (.tmp 0)) 4 [v9] (fun v10 w=>
 gdM (gd v10 false) (oM prog (.fieldAddr 23 (.tmp 0) 1) 0 [v3]) (fun v12 w=>
 gdM (gd v10 false) (oM prog (.load 3 (.tmp 0)) 3 [v12]) (fun v13 w=>
 gdM (gd v10 false) (callM prog 123 #[v13]) (fun v14 w=>
 gdM (gd v10 false) (oM prog (.unOp .not 4 (.tmp 0)) 4 [v14]) (fun v15 w=>
 oM prog (.pick (.tmp 0) (.tmp 1) (.tmp 2)) 4 [v10,(.bool true),v15] (fun v16 w=>
 condM v16
 (K (.int .i64 0) w)
 (quietM w (fun C_11=>(oQ prog (.fieldAddr 23 (.tmp 0) 0) 0 [v3] C_11 (fun v17=>
 oQ prog (.load 3 (.tmp 0)) 3 [v17] C_11 (fun v18=>
 oQ prog (.fieldAddr 23 (.tmp 0) 0) 0 [v3] C_11 (fun v19=>
 oQ prog (.load 3 (.tmp 0)) 3 [v19] C_11 (fun v20=>
 callQ prog 124 #[v20,a1] C_11 (fun v22=>
 oQ prog (.fieldAddr 23 (.tmp 0) 1) 0 [v3] C_11 (fun v23=>
 oQ prog (.load 3 (.tmp 0)) 3 [v23] C_11 (fun v24=>
 callQ prog 124 #[v24,a2] C_11 (fun v26=>
 callQ prog 129 #[v18,v22,v26] C_11 (fun v27=>
 oQ prog (.convert 150 3 (.tmp 0)) 3 [v27] C_11 (fun v28=>
 ∀ w,C_11 w → (K v28 w))))))))))))))) w) w) w) w) w) w) w) w) w) w
theorem sh_46_ok {a0 a1 a2:Value} {K:Value → World → Prop} {w:World} (h:sh_46 a0 a1 a2 K w):callM prog 46 #[a0,a1,a2] K w:=
 calls_of_code (fun _=>0) (fn:=Tryz.f46) (rs:=[.tmp 6]) Tryz.func46 rfl rfl (by kernel_rfl) (Nat.le_of_ble_eq_true rfl) (Eq.mp (by kernel_rfl) h)
def sh_178 (a0 a1 a2:Value) (K:Value → World → Prop) (w:World):Prop:=
 oM prog (.box 23 (.tmp 0)) 0 [a0] (fun v3 w=>
 oM prog (.fieldAddr 23 (.tmp 0) 1) 0 [v3] (fun v7 w=>
 oM prog (.load 3 (.tmp 0)) 3 [v7] (fun v8 w=>
 callM prog 123 #[v8] (fun v9 w=>
 oM prog (.unOp .not 4 (.tmp 0)) 4 [v9] (fun v10 w=>
 condM v10
 (K (.int .i64 0) w)
 (oM prog (.fieldAddr 23 (.tmp 0) 0) 0 [v3] (fun v11 w=>
 oM prog (.load 3 (.tmp 0)) 3 [v11] (fun v12 w=>
 callM prog 43 #[v12,a1,a2] (fun v15 w=>
 K v15 w) w) w) w)) w) w) w) w) w
theorem sh_178_ok {a0 a1 a2:Value} {K:Value → World → Prop} {w:World} (h:sh_178 a0 a1 a2 K w):callM prog 178 #[a0,a1,a2] K w:=
 calls_of_code (fun _=>0) (fn:=Tryz.f178) (rs:=[.tmp 6]) Tryz.func178 rfl rfl (by kernel_rfl) (Nat.le_of_ble_eq_true rfl) (Eq.mp (by kernel_rfl) h)
def sh_126 (a0 a1 a2:Value) (K:Value → World → Prop) (w:World):Prop:=
 oM prog (.box 23 (.tmp 0)) 0 [a0] (fun v3 w=>
 oM prog (.fieldAddr 23 (.tmp 0) 0) 0 [v3] (fun v11 w=>
 oM prog (.load 3 (.tmp 0)) 3 [v11] (fun v12 w=>
 callM prog 123 #[v12] (fun v13 w=>
 oM prog (.unOp .not 4 (.tmp 0)) 4 [v13] (fun v14 w=>
 gdM (gd v14 false) (oM prog (.fieldAddr 23 (.tmp 0) 1) 0 [v3]) (fun v16 w=>
 gdM (gd v14 false) (oM prog (.load 3 (.tmp 0)) 3 [v16]) (fun v17 w=>
 gdM (gd v14 false) (callM prog 123 #[v17]) (fun v18 w=>
 gdM (gd v14 false) (oM prog (.unOp .not 4 (.tmp 0)) 4 [v18]) (fun v19 w=>
 oM prog (.pick (.tmp 0) (.tmp 1) (.tmp 2)) 4 [v14,(.bool true),v19] (fun v20 w=>
 gdM (gd v20 false) (pureM a1) (fun v22 w=>
 gdM (gd v20 false) (oM prog (.call (Go.Call.mk (.builtin .len) #[(.tmp 0)] #[24])) 3 [v22]) (fun v23 w=>
 gdM (gd v20 false) (pureM a2) (fun v24 w=>
 gdM (gd v20 false) (oM prog (.call (Go.Call.mk (.builtin .len) #[(.tmp 0)] #[24])) 3 [v24]) (fun v25 w=>
 gdM (gd v20 false) (oM prog (.binOp .neq 3 (.tmp 0) (.tmp 1) 3) 4 [v23,v25]) (fun v26 w=>
 oM prog (.pick (.tmp 0) (.tmp 1) (.tmp 2)) 4 [v20,(.bool true),v26] (fun v27 w=>
 condM v27
 (K (.tuple #[(.int .i64 0),(.bool false)]) w)
 (oM prog (.fieldAddr 23 (.tmp 0) 0) 0 [v3] (fun v28 w=>
 oM prog (.load 3 (.tmp 0)) 3 [v28] (fun v29 w=>
 oM prog (.binOp .rem 3 (.tmp 0) (.tmp 1) 3) 3 [(.int .i64 1),v29] (fun v30 w=>
 oM prog (.call (Go.Call.mk (.builtin .len) #[(.tmp 0)] #[24])) 3 [a1] (fun v32 w=>
 loopM [undef,undef,v30,(.int .i64 0)] w (fun J_21 m_22 l_23 u_l_23 w0_l_23=>(fun w=>(
 oM prog (.binOp .lss 3 (.tmp 0) (.tmp 1) 3) 0 [(l_23.getD 3 undef),v32] (fun v34 w=>
 condM v34
 (oM prog (.indexAddr 24 (.tmp 0) (.tmp 1)) 0 [a1,(l_23.getD 3 undef)] (fun v36 w=>
 oM prog (.load 3 (.tmp 0)) 3 [v36] (fun v37 w=>
 quietM w (fun C_27=>(oQ prog (.fieldAddr 23 (.tmp 0) 0) 0 [v3] C_27 (fun v38=>
 oQ prog (.load 3 (.tmp 0)) 3 [v38] C_27 (fun v39=>
 oQ prog (.load 23 (.tmp 0)) 23 [v3] C_27 (fun v41=>
 oQ prog (.indexAddr 24 (.tmp 0) (.tmp 1)) 0 [a2,(l_23.getD 3 undef)] C_27 (fun v45=>
 oQ prog (.load 3 (.tmp 0)) 3 [v45] C_27 (fun v46=>
 callQ prog 46 #[v41,v37,v46] C_27 (fun v47=>
 callQ prog 43 #[v39,(l_23.getD 2 undef),v47] C_27 (fun v48=>
 ∀ w,C_27 w → (oM prog (.binOp .add 3 (.tmp 0) (.tmp 1) 3) 3 [(l_23.getD 3 undef),(.int .i64 1)] (fun v49 w=>
 J_21 [(l_23.getD 3 undef),v37,v48,v49] w ∧ m_22 [(l_23.getD 3 undef),v37,v48,v49] w < m_22 l_23 w0_l_23) w))))))))))) w) w)
 (K (.tuple #[(l_23.getD 2 undef),(.bool true)]) w)) w)) w0_l_23)) w) w) w) w)) w) w) w) w) w) w) w) w) w) w) w) w) w) w) w) w
theorem sh_126_ok {a0 a1 a2:Value} {K:Value → World → Prop} {w:World} (h:sh_126 a0 a1 a2 K w):callM prog 126 #[a0,a1,a2] K w:=
 calls_of_code (fun _=>0) (fn:=Tryz.f126) (rs:=[.tmp 6,.tmp 7]) Tryz.func126 rfl rfl (by kernel_rfl) (Nat.le_of_ble_eq_true rfl) (Eq.mp (by kernel_rfl) h)
def sh_121 (a0 a1 a2:Value) (K:Value → World → Prop) (w:World):Prop:=
 oM prog (.box 23 (.tmp 0)) 0 [a0] (fun v3 w=>
 quietM w (fun C_2=>(oQ prog (.load 23 (.tmp 0)) 23 [v3] C_2 (fun v7=>
 oQ prog (.fieldAddr 23 (.tmp 0) 0) 0 [v3] C_2 (fun v9=>
 oQ prog (.load 3 (.tmp 0)) 3 [v9] C_2 (fun v10=>
 callQ prog 170 #[v10,a2,(.int .i64 (-1))] C_2 (fun v12=>
 callQ prog 178 #[v7,a1,v12] C_2 (fun v13=>
 ∀ w,C_2 w → (K v13 w))))))))) w
theorem sh_121_ok {a0 a1 a2:Value} {K:Value → World → Prop} {w:World} (h:sh_121 a0 a1 a2 K w):callM prog 121 #[a0,a1,a2] K w:=
 calls_of_code (fun _=>0) (fn:=Tryz.f121) (rs:=[.tmp 6]) Tryz.func121 rfl rfl (by kernel_rfl) (Nat.le_of_ble_eq_true rfl) (Eq.mp (by kernel_rfl) h)
end Go.Proofs
namespace Go.Proofs
open Go.Sh Tryz
def sh_186 (a0 a1:Value) (K:Value → World → Prop) (w:World):Prop:=
 oM prog (.call (Go.Call.mk (.builtin .len) #[(.tmp 0)] #[24])) 3 [a0] (fun v7 w=>
 loopM [undef,(.int .i64 0),(.int .i64 0)] w (fun J_2 m_3 l_4 u_l_4 w0_l_4=>(fun w=>(
 oM prog (.binOp .lss 3 (.tmp 0) (.tmp 1) 3) 0 [(l_4.getD 2 undef),v7] (fun v9 w=>
 condM v9
 (oM prog (.indexAddr 24 (.tmp 0) (.tmp 1)) 0 [a0,(l_4.getD 2 undef)] (fun v14 w=>
 oM prog (.load 3 (.tmp 0)) 3 [v14] (fun v15 w=>
 oM prog (.call (Go.Call.mk (.value (.tmp 0)) #[(.tmp 1)] #[3])) 4 [a1,v15] (fun v16 w=>
 condM v16
 (K (l_4.getD 2 undef) w)
 (oM prog (.binOp .add 3 (.tmp 0) (.tmp 1) 3) 3 [(l_4.getD 2 undef),(.int .i64 1)] (fun v18 w=>
 J_2 [(l_4.getD 2 undef),(l_4.getD 1 undef),v18] w ∧ m_3 [(l_4.getD 2 undef),(l_4.getD 1 undef),v18] w < m_3 l_4 w0_l_4) w)) w) w) w)
 (K (.int .i64 (-1)) w)) w)) w0_l_4)) w
theorem sh_186_ok {a0 a1:Value} {K:Value → World → Prop} {w:World} (h:sh_186 a0 a1 K w):callM prog 186 #[a0,a1] K w:=
 calls_of_code (fun _=>0) (fn:=Tryz.f186) (rs:=[.tmp 4]) Tryz.func186 rfl rfl (by kernel_rfl) (Nat.le_of_ble_eq_true rfl) (Eq.mp (by kernel_rfl) h)
def sh_136 (a0 a1:Value) (K:Value → World → Prop) (w:World):Prop:=
 callM prog 186 #[a0,a1] (fun v7 w=>
 oM prog (.binOp .geq 3 (.tmp 0) (.tmp 1) 3) 4 [v7,(.int .i64 0)] (fun v8 w=>
 K v8 w) w) w
theorem sh_136_ok {a0 a1:Value} {K:Value → World → Prop} {w:World} (h:sh_136 a0 a1 K w):callM prog 136 #[a0,a1] K w:=
 calls_of_code (fun _=>0) (fn:=Tryz.f136) (rs:=[.tmp 4]) Tryz.func136 rfl rfl (by kernel_rfl) (Nat.le_of_ble_eq_true rfl) (Eq.mp (by kernel_rfl) h)
def sh_21 (a0:Value) (K:Value → World → Prop) (w:World):Prop:=
 oM prog (.box 26 (.tmp 0)) 0 [a0] (fun v1 w=>
 oM prog (.fieldAddr 26 (.tmp 0) 0) 0 [v1] (fun v6 w=>
 oM prog (.load 23 (.tmp 0)) 23 [v6] (fun v7 w=>
 callM prog 107 #[v7] (fun v8 w=>
 oM prog (.unOp .not 4 (.tmp 0)) 4 [v8] (fun v9 w=>
 gdM (gd v9 false) (oM prog (.fieldAddr 26 (.tmp 0) 1) 0 [v1]) (fun v11 w=>
 gdM (gd v9 false) (oM prog (.load 24 (.tmp 0)) 24 [v11]) (fun v12 w=>
 gdM (gd v9 false) (oM prog (.call (Go.Call.mk (.builtin .len) #[(.tmp 0)] #[24])) 3 [v12]) (fun v13 w=>
 gdM (gd v9 false) (oM prog (.binOp .lss 3 (.tmp 0) (.tmp 1) 3) 4 [v13,(.int .i64 2)]) (fun v14 w=>
 oM prog (.pick (.tmp 0) (.tmp 1) (.tmp 2)) 4 [v9,(.bool true),v14] (fun v15 w=>
 gdM (gd v15 false) (oM prog (.fieldAddr 26 (.tmp 0) 1) 0 [v1]) (fun v17 w=>
 gdM (gd v15 false) (oM prog (.load 24 (.tmp 0)) 24 [v17]) (fun v18 w=>
 gdM (gd v15 false) (oM prog (.call (Go.Call.mk (.builtin .len) #[(.tmp 0)] #[24])) 3 [v18]) (fun v19 w=>
 gdM (gd v15 false) (oM prog (.binOp .gtr 3 (.tmp 0) (.tmp 1) 3) 4 [v19,(.int .i64 7)]) (fun v20 w=>
 oM prog (.pick (.tmp 0) (.tmp 1) (.tmp 2)) 4 [v15,(.bool true),v20] (fun v21 w=>
 condM v21
 (K (.bool false) w)
 (oM prog (.makeFunc (Go.Fn.func 108) #[] #[(.tmp 0)]) 141 [v1] (fun v22 w=>
 oM prog (.fieldAddr 26 (.tmp 0) 1) 0 [v1] (fun v23 w=>
 oM prog (.load 24 (.tmp 0)) 24 [v23] (fun v24 w=>
 oM prog (.call (Go.Call.mk (.builtin .len) #[(.tmp 0)] #[24])) 3 [v24] (fun v25 w=>
 loopM [undef,(.bool false),(.int .i64 0)] w (fun J_20 m_21 l_22 u_l_22 w0_l_22=>(fun w=>(
 oM prog (.binOp .lss 3 (.tmp 0) (.tmp 1) 3) 0 [(l_22.getD 2 undef),v25] (fun v27 w=>
 condM v27
 (oM prog (.indexAddr 24 (.tmp 0) (.tmp 1)) 0 [v24,(l_22.getD 2 undef)] (fun v28 w=>
 oM prog (.load 3 (.tmp 0)) 3 [v28] (fun v29 w=>
 oM prog (.call (Go.Call.mk (.value (.tmp 0)) #[(.tmp 1)] #[3])) 4 [v22,v29] (fun v32 w=>
 oM prog (.unOp .not 4 (.tmp 0)) 4 [v32] (fun v33 w=>
 condM v33
 (K (.bool false) w)
 (oM prog (.binOp .add 3 (.tmp 0) (.tmp 1) 3) 3 [(l_22.getD 2 undef),(.int .i64 1)] (fun v34 w=>
 J_20 [v29,(l_22.getD 1 undef),v34] w ∧ m_21 [v29,(l_22.getD 1 undef),v34] w < m_21 l_22 w0_l_22) w)) w) w) w) w)
 (oM prog (.fieldAddr 26 (.tmp 0) 2) 0 [v1] (fun v36 w=>
 oM prog (.load 3 (.tmp 0)) 3 [v36] (fun v37 w=>
 oM prog (.call (Go.Call.mk (.value (.tmp 0)) #[(.tmp 1)] #[3])) 4 [v22,v37] (fun v38 w=>
 K v38 w) w) w) w)) w)) w0_l_22)) w) w) w) w)) w) w) w) w) w) w) w) w) w) w) w) w) w) w) w
theorem sh_21_ok {a0:Value} {K:Value → World → Prop} {w:World} (h:sh_21 a0 K w):callM prog 21 #[a0] K w:=
 calls_of_code (fun _=>0) (fn:=Tryz.f21) (rs:=[.tmp 2]) Tryz.func21 rfl rfl (by kernel_rfl) (Nat.le_of_ble_eq_true rfl) (Eq.mp (by kernel_rfl) h)
def sh_108 (a0 a1:Value) (K:Value → World → Prop) (w:World):Prop:=
 oM prog (.binOp .neq 3 (.tmp 0) (.const (.int .i64 1)) 3) 4 [a0] (fun v5 w=>
 gdM (gd v5 true) (oM prog (.fieldAddr 26 (.tmp 0) 0) 0 [a1]) (fun v7 w=>
 gdM (gd v5 true) (oM prog (.load 23 (.tmp 0)) 23 [v7]) (fun v8 w=>
 gdM (gd v5 true) (pureM a0) (fun v9 w=>
 gdM (gd v5 true) (callM prog 109 #[v8,v9]) (fun v10 w=>
 oM prog (.pick (.tmp 0) (.tmp 1) (.tmp 2)) 4 [v5,v10,(.bool false)] (fun v11 w=>
 K v11 w) w) w) w) w) w) w
theorem sh_108_ok {a0 a1:Value} {K:Value → World → Prop} {w:World} (h:sh_108 a0 a1 K w):callM prog 108 #[a0,a1] K w:=
 calls_of_code (fun _=>0) (fn:=Tryz.f108) (rs:=[.tmp 3]) Tryz.func108 rfl rfl (by kernel_rfl) (Nat.le_of_ble_eq_true rfl) (Eq.mp (by kernel_rfl) h)
def sh_96 (a0:Value) (K:Value → World → Prop) (w:World):Prop:=
 oM prog (.binOp .eql 24 (.tmp 0) (.const (.slice none 0 0)) 24) 4 [a0] (fun v4 w=>
 condM v4
 (K (.slice none 0 0) w)
 (oM prog (.buildSlice 24 0 #[]) 24 [] (fun v5 w=>
 oM prog (.call (Go.Call.mk (.builtin .append) #[(.tmp 0),(.tmp 1)] #[24,24])) 24 [v5,a0] (fun v7 w=>
 K v7 w) w) w)) w
theorem sh_96_ok {a0:Value} {K:Value → World → Prop} {w:World} (h:sh_96 a0 K w):callM prog 96 #[a0] K w:=
 calls_of_code (fun _=>0) (fn:=Tryz.f96) (rs:=[.tmp 2]) Tryz.func96 rfl rfl (by kernel_rfl) (Nat.le_of_ble_eq_true rfl) (Eq.mp (by kernel_rfl) h)
end Go.Proofs
namespace Go.Proofs
open Go.Sh Tryz
def sh_127 (a0 a1:Value) (K:Value → World → Prop) (w:World):Prop:=
 oM prog (.box 26 (.tmp 0)) 0 [a0] (fun v2 w=>
 oM prog (.binOp .geq 3 (.tmp 0) (.tmp 1) 3) 4 [a1,(.int .i64 0)] (fun v6 w=>
 gdM (gd v6 true) (pureM a1) (fun v8 w=>
 gdM (gd v6 true) (oM prog (.fieldAddr 26 (.tmp 0) 0) 0 [v2]) (fun v9 w=>
 gdM (gd v6 true) (oM prog (.fieldAddr 23 (.tmp 0) 1) 0 [v9]) (fun v10 w=>
 gdM (gd v6 true) (oM prog (.load 3 (.tmp 0)) 3 [v10]) (fun v11 w=>
 gdM (gd v6 true) (oM prog (.binOp .lss 3 (.tmp 0) (.tmp 1) 3) 4 [v8,v11]) (fun v12 w=>
 oM prog (.pick (.tmp 0) (.tmp 1) (.tmp 2)) 4 [v6,v12,(.bool false)] (fun v13 w=>
 K v13 w) w) w) w) w) w) w) w) w
theorem sh_127_ok {a0 a1:Value} {K:Value → World → Prop} {w:World} (h:sh_127 a0 a1 K w):callM prog 127 #[a0,a1] K w:=
 calls_of_code (fun _=>0) (fn:=Tryz.f127) (rs:=[.tmp 4]) Tryz.func127 rfl rfl (by kernel_rfl) (Nat.le_of_ble_eq_true rfl) (Eq.mp (by kernel_rfl) h)
def sh_140 (a0 a1 a2:Value) (K:Value → World → Prop) (w:World):Prop:=
 oM prog (.box 26 (.tmp 0)) 0 [a0] (fun v3 w=>
 oM prog (.call (Go.Call.mk (.builtin .len) #[(.tmp 0)] #[24])) 3 [a1] (fun v8 w=>
 oM prog (.binOp .eql 3 (.tmp 0) (.tmp 1) 3) 4 [v8,a2] (fun v10 w=>
 gdM (gd v10 true) (pureM a1) (fun v12 w=>
 gdM (gd v10 true) (oM prog (.makeFunc (Go.Fn.func 187) #[] #[(.tmp 0)]) 141 [v3]) (fun v13 w=>
 gdM (gd v10 true) (callM prog 136 #[v12,v13]) (fun v14 w=>
 gdM (gd v10 true) (oM prog (.unOp .not 4 (.tmp 0)) 4 [v14]) (fun v15 w=>
 oM prog (.pick (.tmp 0) (.tmp 1) (.tmp 2)) 4 [v10,v15,(.bool false)] (fun v16 w=>
 K v16 w) w) w) w) w) w) w) w) w
theorem sh_140_ok {a0 a1 a2:Value} {K:Value → World → Prop} {w:World} (h:sh_140 a0 a1 a2 K w):callM prog 140 #[a0,a1,a2] K w:=
 calls_of_code (fun _=>0) (fn:=Tryz.f140) (rs:=[.tmp 6]) Tryz.func140 rfl rfl (by kernel_rfl) (Nat.le_of_ble_eq_true rfl) (Eq.mp (by kernel_rfl) h)
def sh_187 (a0 a1:Value) (K:Value → World → Prop) (w:World):Prop:=
 oM prog (.load 26 (.tmp 0)) 26 [a1] (fun v4 w=>
 callM prog 127 #[v4,a0] (fun v6 w=>
 oM prog (.unOp .not 4 (.tmp 0)) 4 [v6] (fun v7 w=>
 K v7 w) w) w) w
theorem sh_187_ok {a0 a1:Value} {K:Value → World → Prop} {w:World} (h:sh_187 a0 a1 K w):callM prog 187 #[a0,a1] K w:=
 calls_of_code (fun _=>0) (fn:=Tryz.f187) (rs:=[.tmp 3]) Tryz.func187 rfl rfl (by kernel_rfl) (Nat.le_of_ble_eq_true rfl) (Eq.mp (by kernel_rfl) h)
def sh_112 (a0 a1:Value) (K:Value → World → Prop) (w:World):Prop:=
 oM prog (.box 26 (.tmp 0)) 0 [a0] (fun v2 w=>
 oM prog (.box 69 (.tmp 0)) 0 [a1] (fun v3 w=>
 oM prog (.fieldAddr 69 (.tmp 0) 0) 0 [v3] (fun v9 w=>
 oM prog (.load 3 (.tmp 0)) 3 [v9] (fun v10 w=>
 oM prog (.binOp .lss 3 (.tmp 0) (.tmp 1) 3) 4 [v10,(.int .i64 0)] (fun v11 w=>
 gdM (gd v11 false) (oM prog (.fieldAddr 69 (.tmp 0) 0) 0 [v3]) (fun v13 w=>
 gdM (gd v11 false) (oM prog (.load 3 (.tmp 0)) 3 [v13]) (fun v14 w=>
 gdM (gd v11 false) (oM prog (.binOp .gtr 3 (.tmp 0) (.tmp 1) 3) 4 [v14,(.int .i64 120)]) (fun v15 w=>
 oM prog (.pick (.tmp 0) (.tmp 1) (.tmp 2)) 4 [v11,(.bool true),v15] (fun v16 w=>
 gdM (gd v16 false) (oM prog (.fieldAddr 69 (.tmp 0) 1) 0 [v3]) (fun v18 w=>
 gdM (gd v16 false) (oM prog (.load 67 (.tmp 0)) 67 [v18]) (fun v19 w=>
 gdM (gd v16 false) (oM prog (.call (Go.Call.mk (.builtin .len) #[(.tmp 0)] #[67])) 3 [v19]) (fun v20 w=>
 gdM (gd v16 false) (oM prog (.binOp .lss 3 (.tmp 0) (.tmp 1) 3) 4 [v20,(.int .i64 1)]) (fun v21 w=>
 oM prog (.pick (.tmp 0) (.tmp 1) (.tmp 2)) 4 [v16,(.bool true),v21] (fun v22 w=>
 gdM (gd v22 false) (oM prog (.fieldAddr 69 (.tmp 0) 1) 0 [v3]) (fun v24 w=>
 gdM (gd v22 false) (oM prog (.load 67 (.tmp 0)) 67 [v24]) (fun v25 w=>
 gdM (gd v22 false) (oM prog (.call (Go.Call.mk (.builtin .len) #[(.tmp 0)] #[67])) 3 [v25]) (fun v26 w=>
 gdM (gd v22 false) (oM prog (.binOp .gtr 3 (.tmp 0) (.tmp 1) 3) 4 [v26,(.int .i64 60)]) (fun v27 w=>
 oM prog (.pick (.tmp 0) (.tmp 1) (.tmp 2)) 4 [v22,(.bool true),v27] (fun v28 w=>
 condM v28
 (K (.bool false) w)
 (oM prog (.fieldAddr 69 (.tmp 0) 1) 0 [v3] (fun v29 w=>
 oM prog (.load 67 (.tmp 0)) 67 [v29] (fun v30 w=>
 oM prog (.call (Go.Call.mk (.builtin .len) #[(.tmp 0)] #[67])) 3 [v30] (fun v31 w=>
 loopM [(.bool false),(.int .i64 0)] w (fun J_23 m_24 l_25 u_l_25 w0_l_25=>(fun w=>(
 oM prog (.binOp .lss 3 (.tmp 0) (.tmp 1) 3) 0 [(l_25.getD 1 undef),v31] (fun v33 w=>
 condM v33
 (oM prog (.indexAddr 67 (.tmp 0) (.tmp 1)) 0 [v30,(l_25.getD 1 undef)] (fun v34 w=>
 oM prog (.load 144 (.tmp 0)) 144 [v34] (fun v35 w=>
 oM prog (.alloc 144) 0 [] (fun v6 w=>
 oM prog (.store 144 (.tmp 0) (.tmp 1)) 0 [v6,v35] (fun _ w=>
 oM prog (.fieldAddr 26 (.tmp 0) 0) 0 [v2] (fun v36 w=>
 oM prog (.load 23 (.tmp 0)) 23 [v36] (fun v37 w=>
 oM prog (.fieldAddr 144 (.tmp 0) 0) 0 [v6] (fun v38 w=>
 oM prog (.load 3 (.tmp 0)) 3 [v38] (fun v39 w=>
 callM prog 109 #[v37,v39] (fun v40 w=>
 oM prog (.unOp .not 4 (.tmp 0)) 4 [v40] (fun v41 w=>
 gdM (gd v41 false) (oM prog (.fieldAddr 144 (.tmp 0) 1) 0 [v6]) (fun v43 w=>
 gdM (gd v41 false) (oM prog (.load 142 (.tmp 0)) 142 [v43]) (fun v44 w=>
 gdM (gd v41 false) (oM prog (.call (Go.Call.mk (.builtin .len) #[(.tmp 0)] #[142])) 3 [v44]) (fun v45 w=>
 gdM (gd v41 false) (oM prog (.binOp .gtr 3 (.tmp 0) (.tmp 1) 3) 4 [v45,(.int .i64 80)]) (fun v46 w=>
 oM prog (.pick (.tmp 0) (.tmp 1) (.tmp 2)) 4 [v41,(.bool true),v46] (fun v47 w=>
 condM v47
 (K (.bool false) w)
 (oM prog (.fieldAddr 144 (.tmp 0) 1) 0 [v6] (fun v48 w=>
 oM prog (.load 142 (.tmp 0)) 142 [v48] (fun v49 w=>
 oM prog (.call (Go.Call.mk (.builtin .len) #[(.tmp 0)] #[142])) 3 [v49] (fun v50 w=>
 loopM [(l_25.getD 0 undef),(.int .i64 0)] w (fun J_44 m_45 l_46 u_l_46 w0_l_46=>(fun w=>(
 oM prog (.binOp .lss 3 (.tmp 0) (.tmp 1) 3) 0 [(l_46.getD 1 undef),v50] (fun v52 w=>
 condM v52
 (oM prog (.indexAddr 142 (.tmp 0) (.tmp 1)) 0 [v49,(l_46.getD 1 undef)] (fun v53 w=>
 oM prog (.load 146 (.tmp 0)) 146 [v53] (fun v54 w=>
 oM prog (.alloc 146) 0 [] (fun v8 w=>
 oM prog (.store 146 (.tmp 0) (.tmp 1)) 0 [v8,v54] (fun _ w=>
 oM prog (.fieldAddr 146 (.tmp 0) 0) 0 [v8] (fun v55 w=>
 oM prog (.load 3 (.tmp 0)) 3 [v55] (fun v56 w=>
 oM prog (.binOp .lss 3 (.tmp 0) (.tmp 1) 3) 4 [v56,(.int .i64 0)] (fun v57 w=>
 gdM (gd v57 false) (oM prog (.fieldAddr 146 (.tmp 0) 0) 0 [v8]) (fun v59 w=>
 gdM (gd v57 false) (oM prog (.load 3 (.tmp 0)) 3 [v59]) (fun v60 w=>
 gdM (gd v57 false) (oM prog (.fieldAddr 69 (.tmp 0) 0) 0 [v3]) (fun v61 w=>
 gdM (gd v57 false) (oM prog (.load 3 (.tmp 0)) 3 [v61]) (fun v62 w=>
 gdM (gd v57 false) (oM prog (.binOp .geq 3 (.tmp 0) (.tmp 1) 3) 4 [v60,v62]) (fun v63 w=>
 oM prog (.pick (.tmp 0) (.tmp 1) (.tmp 2)) 4 [v57,(.bool true),v63] (fun v64 w=>
 gdM (gd v64 false) (oM prog (.fieldAddr 26 (.tmp 0) 0) 0 [v2]) (fun v66 w=>
 gdM (gd v64 false) (oM prog (.load 23 (.tmp 0)) 23 [v66]) (fun v67 w=>
 gdM (gd v64 false) (oM prog (.fieldAddr 146 (.tmp 0) 1) 0 [v8]) (fun v68 w=>
 gdM (gd v64 false) (oM prog (.load 3 (.tmp 0)) 3 [v68]) (fun v69 w=>
 gdM (gd v64 false) (callM prog 109 #[v67,v69]) (fun v70 w=>
 gdM (gd v64 false) (oM prog (.unOp .not 4 (.tmp 0)) 4 [v70]) (fun v71 w=>
 oM prog (.pick (.tmp 0) (.tmp 1) (.tmp 2)) 4 [v64,(.bool true),v71] (fun v72 w=>
 condM v72
 (K (.bool false) w)
 (oM prog (.binOp .add 3 (.tmp 0) (.tmp 1) 3) 3 [(l_46.getD 1 undef),(.int .i64 1)] (fun v73 w=>
 J_44 [(l_46.getD 0 undef),v73] w ∧ m_45 [(l_46.getD 0 undef),v73] w < m_45 l_46 w0_l_46) w)) w) w) w) w) w) w) w) w) w) w) w) w) w) w) w) w) w) w) w) w)
 (oM prog (.binOp .add 3 (.tmp 0) (.tmp 1) 3) 3 [(l_25.getD 1 undef),(.int .i64 1)] (fun v74 w=>
 J_23 [(l_46.getD 0 undef),v74] w ∧ m_24 [(l_46.getD 0 undef),v74] w < m_24 l_25 w0_l_25) w)) w)) w0_l_46)) w) w) w)) w) w) w) w) w) w) w) w) w) w) w) w) w) w) w)
 (K (.bool true) w)) w)) w0_l_25)) w) w) w)) w) w) w) w) w) w) w) w) w) w) w) w) w) w) w) w) w) w) w
theorem sh_112_ok {a0 a1:Value} {K:Value → World → Prop} {w:World} (h:sh_112 a0 a1 K w):callM prog 112 #[a0,a1] K w:=
 calls_of_code (fun _=>0) (fn:=Tryz.f112) (rs:=[.tmp 4]) Tryz.func112 rfl rfl (by kernel_rfl) (Nat.le_of_ble_eq_true rfl) (Eq.mp (by kernel_rfl) h)
def sh_181 (a0 a1 a2:Value) (K:Value → World → Prop) (w:World):Prop:=
 oM prog (.box 26 (.tmp 0)) 0 [a0] (fun v3 w=>
 oM prog (.box 144 (.tmp 0)) 0 [a1] (fun v4 w=>
 oM prog (.fieldAddr 144 (.tmp 0) 1) 0 [v4] (fun v13 w=>
 oM prog (.load 142 (.tmp 0)) 142 [v13] (fun v14 w=>
 oM prog (.call (Go.Call.mk (.builtin .len) #[(.tmp 0)] #[142])) 3 [v14] (fun v15 w=>
 loopM [(.slice none 0 0),(.slice none 0 0),(.int .i64 0)] w (fun J_6 m_7 l_8 u_l_8 w0_l_8=>(fun w=>(
 oM prog (.binOp .lss 3 (.tmp 0) (.tmp 1) 3) 0 [(l_8.getD 2 undef),v15] (fun v17 w=>
 condM v17
 (oM prog (.indexAddr 142 (.tmp 0) (.tmp 1)) 0 [v14,(l_8.getD 2 undef)] (fun v18 w=>
 oM prog (.load 146 (.tmp 0)) 146 [v18] (fun v19 w=>
 oM prog (.alloc 146) 0 [] (fun v10 w=>
 oM prog (.store 146 (.tmp 0) (.tmp 1)) 0 [v10,v19] (fun _ w=>
 heldM w (fun C_13 w=>(pureH (l_8.getD 0 undef) C_13 (fun v20=>
 oH prog (.fieldAddr 146 (.tmp 0) 1) 0 [v10] C_13 (fun v21=>
 oH prog (.load 3 (.tmp 0)) 3 [v21] C_13 (fun v22=>
 pureH (l_8.getD 1 undef) C_13 (fun v25=>
 pureH a2 C_13 (fun v26=>
 oH prog (.fieldAddr 146 (.tmp 0) 0) 0 [v10] C_13 (fun v27=>
 oH prog (.load 3 (.tmp 0)) 3 [v27] C_13 (fun v28=>
 oH prog (.indexAddr 24 (.tmp 0) (.tmp 1)) 0 [v26,v28] C_13 (fun v29=>
 oH prog (.load 3 (.tmp 0)) 3 [v29] C_13 (fun v30=>
 (oM prog (.buildSlice 24 1 #[(0,(.tmp 0))]) 24 [v22] (fun v23 w=>C_13 w ∧ (
 (oM prog (.call (Go.Call.mk (.builtin .append) #[(.tmp 0),(.tmp 1)] #[24,24])) 24 [v20,v23] (fun v24 w=>C_13 w ∧ (
 oM prog (.buildSlice 24 1 #[(0,(.tmp 0))]) 24 [v30] (fun v31 w=>C_13 w ∧ (
 oM prog (.call (Go.Call.mk (.builtin .append) #[(.tmp 0),(.tmp 1)] #[24,24])) 24 [v25,v31] (fun v32 w=>C_13 w ∧ (
 C_13 w ∧ (C_13 w ∧ (oM prog (.binOp .add 3 (.tmp 0) (.tmp 1) 3) 3 [(l_8.getD 2 undef),(.int .i64 1)] (fun v33 w=>
 J_6 [v24,v32,v33] w ∧ m_7 [v24,v32,v33] w < m_7 l_8 w0_l_8) w)))) w)) w)) w) ∧
 (oM prog (.buildSlice 24 1 #[(0,(.tmp 0))]) 24 [v30] (fun v31 w=>C_13 w ∧ (
 oM prog (.call (Go.Call.mk (.builtin .append) #[(.tmp 0),(.tmp 1)] #[24,24])) 24 [v20,v23] (fun v24 w=>C_13 w ∧ (
 oM prog (.call (Go.Call.mk (.builtin .append) #[(.tmp 0),(.tmp 1)] #[24,24])) 24 [v25,v31] (fun v32 w=>C_13 w ∧ (
 C_13 w ∧ (C_13 w ∧ (oM prog (.binOp .add 3 (.tmp 0) (.tmp 1) 3) 3 [(l_8.getD 2 undef),(.int .i64 1)] (fun v33 w=>
 J_6 [v24,v32,v33] w ∧ m_7 [v24,v32,v33] w < m_7 l_8 w0_l_8) w)))) w)) w)) w))) w) ∧
 (oM prog (.buildSlice 24 1 #[(0,(.tmp 0))]) 24 [v30] (fun v31 w=>C_13 w ∧ (
 oM prog (.buildSlice 24 1 #[(0,(.tmp 0))]) 24 [v22] (fun v23 w=>C_13 w ∧ (
 oM prog (.call (Go.Call.mk (.builtin .append) #[(.tmp 0),(.tmp 1)] #[24,24])) 24 [v20,v23] (fun v24 w=>C_13 w ∧ (
 oM prog (.call (Go.Call.mk (.builtin .append) #[(.tmp 0),(.tmp 1)] #[24,24])) 24 [v25,v31] (fun v32 w=>C_13 w ∧ (
 C_13 w ∧ (C_13 w ∧ (oM prog (.binOp .add 3 (.tmp 0) (.tmp 1) 3) 3 [(l_8.getD 2 undef),(.int .i64 1)] (fun v33 w=>
 J_6 [v24,v32,v33] w ∧ m_7 [v24,v32,v33] w < m_7 l_8 w0_l_8) w)))) w)) w)) w)) w))))))))))))) w) w) w) w)
 (oM prog (.fieldAddr 26 (.tmp 0) 0) 0 [v3] (fun v35 w=>
 oM prog (.load 23 (.tmp 0)) 23 [v35] (fun v36 w=>
 callM prog 126 #[v36,(l_8.getD 0 undef),(l_8.getD 1 undef)] (fun v39 w=>
 oM prog (.extract (.tmp 0) 0) 3 [v39] (fun v40 w=>
 oM prog (.extract (.tmp 0) 1) 4 [v39] (fun v41 w=>
 K v40 w) w) w) w) w) w)) w)) w0_l_8)) w) w) w) w) w
theorem sh_181_ok {a0 a1 a2:Value} {K:Value → World → Prop} {w:World} (h:sh_181 a0 a1 a2 K w):callM prog 181 #[a0,a1,a2] K w:=
 calls_of_code (fun _=>.tree (.look 0 (.look 1 (.look 2 (.look 5 (.look 6 (.look 7 (.look 8 (.look 9 (.look 10 (.alt 3 (.alt 4 (.only 11 (.only 12 (.only 13 (.only 14 (.done))))) (.only 11 (.only 4 (.only 12 (.only 13 (.only 14 (.done))))))) (.only 11 (.only 3 (.only 4 (.only 12 (.only 13 (.only 14 (.done)))))))))))))))))) (fn:=Tryz.f181) (rs:=[.tmp 6]) Tryz.func181 rfl rfl (by kernel_rfl) (Nat.le_of_ble_eq_true rfl) (Eq.mp (by kernel_rfl) h)
def sh_207 (a0 a1:Value) (K:Value → World → Prop) (w:World):Prop:=
 oM prog (.call (Go.Call.mk (.builtin .len) #[(.tmp 0)] #[67])) 3 [a0] (fun v7 w=>
 loopM [undef,(.int .i64 0),(.int .i64 0)] w (fun J_2 m_3 l_4 u_l_4 w0_l_4=>(fun w=>(
 oM prog (.binOp .lss 3 (.tmp 0) (.tmp 1) 3) 0 [(l_4.getD 2 undef),v7] (fun v9 w=>
 condM v9
 (oM prog (.indexAddr 67 (.tmp 0) (.tmp 1)) 0 [a0,(l_4.getD 2 undef)] (fun v14 w=>
 oM prog (.load 144 (.tmp 0)) 144 [v14] (fun v15 w=>
 oM prog (.call (Go.Call.mk (.value (.tmp 0)) #[(.tmp 1)] #[144])) 4 [a1,v15] (fun v16 w=>
 condM v16
 (K (l_4.getD 2 undef) w)
 (oM prog (.binOp .add 3 (.tmp 0) (.tmp 1) 3) 3 [(l_4.getD 2 undef),(.int .i64 1)] (fun v18 w=>
 J_2 [(l_4.getD 2 undef),(l_4.getD 1 undef),v18] w ∧ m_3 [(l_4.getD 2 undef),(l_4.getD 1 undef),v18] w < m_3 l_4 w0_l_4) w)) w) w) w)
 (K (.int .i64 (-1)) w)) w)) w0_l_4)) w
theorem sh_207_ok {a0 a1:Value} {K:Value → World → Prop} {w:World} (h:sh_207 a0 a1 K w):callM prog 207 #[a0,a1] K w:=
 calls_of_code (fun _=>0) (fn:=Tryz.f207) (rs:=[.tmp 4]) Tryz.func207 rfl rfl (by kernel_rfl) (Nat.le_of_ble_eq_true rfl) (Eq.mp (by kernel_rfl) h)
def sh_179 (a0 a1:Value) (K:Value → World → Prop) (w:World):Prop:=
 callM prog 207 #[a0,a1] (fun v7 w=>
 oM prog (.binOp .geq 3 (.tmp 0) (.tmp 1) 3) 4 [v7,(.int .i64 0)] (fun v8 w=>
 K v8 w) w) w
theorem sh_179_ok {a0 a1:Value} {K:Value → World → Prop} {w:World} (h:sh_179 a0 a1 K w):callM prog 179 #[a0,a1] K w:=
 calls_of_code (fun _=>0) (fn:=Tryz.f179) (rs:=[.tmp 4]) Tryz.func179 rfl rfl (by kernel_rfl) (Nat.le_of_ble_eq_true rfl) (Eq.mp (by kernel_rfl) h)
def sh_122 (a0 a1 a2:Value) (K:Value → World → Prop) (w:World):Prop:=
 oM prog (.box 26 (.tmp 0)) 0 [a0] (fun v3 w=>
 oM prog (.box 69 (.tmp 0)) 0 [a1] (fun v4 w=>
 oM prog (.box 24 (.tmp 0)) 0 [a2] (fun v5 w=>
 oM prog (.load 26 (.tmp 0)) 26 [v3] (fun v7 w=>
 oM prog (.load 24 (.tmp 0)) 24 [v5] (fun v8 w=>
 oM prog (.fieldAddr 69 (.tmp 0) 0) 0 [v4] (fun v9 w=>
 oM prog (.load 3 (.tmp 0)) 3 [v9] (fun v10 w=>
 callM prog 140 #[v7,v8,v10] (fun v11 w=>
 oM prog (.unOp .not 4 (.tmp 0)) 4 [v11] (fun v12 w=>
 condM v12
 (K (.bool false) w)
 (oM prog (.fieldAddr 69 (.tmp 0) 1) 0 [v4] (fun v13 w=>
 oM prog (.load 67 (.tmp 0)) 67 [v13] (fun v14 w=>
 oM prog (.makeFunc (Go.Fn.func 180) #[] #[(.tmp 0),(.tmp 1)]) 187 [v3,v5] (fun v15 w=>
 callM prog 179 #[v14,v15] (fun v16 w=>
 oM prog (.unOp .not 4 (.tmp 0)) 4 [v16] (fun v17 w=>
 K v17 w) w) w) w) w) w)) w) w) w) w) w) w) w) w) w
theorem sh_122_ok {a0 a1 a2:Value} {K:Value → World → Prop} {w:World} (h:sh_122 a0 a1 a2 K w):callM prog 122 #[a0,a1,a2] K w:=
 calls_of_code (fun _=>0) (fn:=Tryz.f122) (rs:=[.tmp 6]) Tryz.func122 rfl rfl (by kernel_rfl) (Nat.le_of_ble_eq_true rfl) (Eq.mp (by kernel_rfl) h)
def sh_180 (a0 a1 a2:Value) (K:Value → World → Prop) (w:World):Prop:=
 oM prog (.box 144 (.tmp 0)) 0 [a0] (fun v3 w=>
 heldM w (fun C_2 w=>(((true:Bool) = true) ∧ (oH prog (.load 26 (.tmp 0)) 26 [a1] C_2 (fun v5=>
 oH prog (.load 144 (.tmp 0)) 144 [v3] C_2 (fun v6=>
 oH prog (.load 24 (.tmp 0)) 24 [a2] C_2 (fun v7=>
 oH prog (.fieldAddr 144 (.tmp 0) 0) 0 [v3] C_2 (fun v9=>
 oH prog (.load 3 (.tmp 0)) 3 [v9] C_2 (fun v10=>
 ∃ S_8:World → World → Prop,∃ R_9:Value → World → Prop,(∀ v w w_1,S_8 w w_1 → R_9 v w → R_9 v w_1) ∧
 (∀ w,C_2 w → (callM prog 181 #[v5,v6,v7] (fun v w_1=>C_2 w_1 ∧ S_8 w w_1 ∧ R_9 v w_1) w)) ∧
 (∀ w,C_2 w → ∀ v8,R_9 v8 w → (
 oM prog (.binOp .neq 3 (.tmp 0) (.tmp 1) 3) 4 [v8,v10] (fun v11 w=>
 K v11 w) w))))))))))) w
theorem sh_180_ok {a0 a1 a2:Value} {K:Value → World → Prop} {w:World} (h:sh_180 a0 a1 a2 K w):callM prog 180 #[a0,a1,a2] K w:=
 calls_of_code (fun _=>.free [0,1,2,4,5] [3] [6,7]) (fn:=Tryz.f180) (rs:=[.tmp 4]) Tryz.func180 rfl rfl (by kernel_rfl) (Nat.le_of_ble_eq_true rfl) (Eq.mp (by kernel_rfl) h)
def sh_41 (a0 a1 a2:Value) (K:Value → World → Prop) (w:World):Prop:=
 oM prog (.box 26 (.tmp 0)) 0 [a0] (fun v3 w=>
 oM prog (.box 69 (.tmp 0)) 0 [a1] (fun v4 w=>
 oM prog (.load 26 (.tmp 0)) 26 [v3] (fun v7 w=>
 callM prog 21 #[v7] (fun v8 w=>
 gdM (gd v8 true) (oM prog (.load 26 (.tmp 0)) 26 [v3]) (fun v10 w=>
 gdM (gd v8 true) (oM prog (.load 69 (.tmp 0)) 69 [v4]) (fun v11 w=>
 gdM (gd v8 true) (callM prog 112 #[v10,v11]) (fun v12 w=>
 oM prog (.pick (.tmp 0) (.tmp 1) (.tmp 2)) 4 [v8,v12,(.bool false)] (fun v13 w=>
 gdM (gd v13 true) (oM prog (.load 26 (.tmp 0)) 26 [v3]) (fun v15 w=>
 gdM (gd v13 true) (oM prog (.load 69 (.tmp 0)) 69 [v4]) (fun v16 w=>
 gdM (gd v13 true) (pureM a2) (fun v17 w=>
 gdM (gd v13 true) (callM prog 122 #[v15,v16,v17]) (fun v18 w=>
 oM prog (.pick (.tmp 0) (.tmp 1) (.tmp 2)) 4 [v13,v18,(.bool false)] (fun v19 w=>
 K v19 w) w) w) w) w) w) w) w) w) w) w) w) w) w
theorem sh_41_ok {a0 a1 a2:Value} {K:Value → World → Prop} {w:World} (h:sh_41 a0 a1 a2 K w):callM prog 41 #[a0,a1,a2] K w:=
 calls_of_code (fun _=>0) (fn:=Tryz.f41) (rs:=[.tmp 6]) Tryz.func41 rfl rfl (by kernel_rfl) (Nat.le_of_ble_eq_true rfl) (Eq.mp (by kernel_rfl) h)
end Go.Proofs
namespace Go.Proofs
open Go.Sh Tryz
def sh_221 (a0:Value) (K:Value → World → Prop) (w:World):Prop:=
 oM prog (.nilCheck (.tmp 0)) 0 [a0] (fun v3 w=>
 oM prog (.fieldAddr 213 (.tmp 0) 0) 0 [v3] (fun v4 w=>
 oM prog (.load 211 (.tmp 0)) 211 [v4] (fun v5 w=>
 oM prog (.binOp .eql 211 (.tmp 0) (.const (.pointer none)) 211) 4 [v5] (fun v6 w=>
 condM v6
 (oM prog (.convert 211 245 (.tmp 0)) 245 [a0] (fun v9 w=>
 extM prog 235 #[v9] (fun v10 w=>
 oM prog (.convert 245 211 (.tmp 0)) 211 [v10] (fun v11 w=>
 oM prog (.nilCheck (.tmp 0)) 0 [a0] (fun v12 w=>
 oM prog (.fieldAddr 213 (.tmp 0) 0) 0 [v12] (fun v13 w=>
 oM prog (.store 211 (.tmp 0) (.tmp 1)) 0 [v13,v11] (fun _ w=>
 K (.tuple #[]) w) w) w) w) w) w) w)
 (oM prog (.nilCheck (.tmp 0)) 0 [a0] (fun v15 w=>
 oM prog (.fieldAddr 213 (.tmp 0) 0) 0 [v15] (fun v16 w=>
 oM prog (.load 211 (.tmp 0)) 211 [v16] (fun v17 w=>
 oM prog (.binOp .neq 211 (.tmp 0) (.tmp 1) 211) 4 [v17,a0] (fun v19 w=>
 condM v19
 (False)
 (K (.tuple #[]) w)) w) w) w) w)) w) w) w) w
theorem sh_221_ok {a0:Value} {K:Value → World → Prop} {w:World} (h:sh_221 a0 K w):callM prog 221 #[a0] K w:=
 calls_of_code (fun _=>0) (fn:=Tryz.f221) (rs:=[]) Tryz.func221 rfl rfl (by kernel_rfl) (Nat.le_of_ble_eq_true rfl) (Eq.mp (by kernel_rfl) h)
def sh_205 (a0 a1:Value) (K:Value → World → Prop) (w:World):Prop:=
 callM prog 221 #[a0] (fun v7 w=>
 oM prog (.nilCheck (.tmp 0)) 0 [a0] (fun v10 w=>
 oM prog (.fieldAddr 213 (.tmp 0) 1) 0 [v10] (fun v11 w=>
 oM prog (.load 202 (.tmp 0)) 202 [v11] (fun v12 w=>
 oM prog (.call (Go.Call.mk (.builtin .append) #[(.tmp 0),(.tmp 1)] #[202,9])) 202 [v12,a1] (fun v14 w=>
 oM prog (.nilCheck (.tmp 0)) 0 [a0] (fun v15 w=>
 oM prog (.fieldAddr 213 (.tmp 0) 1) 0 [v15] (fun v16 w=>
 oM prog (.store 202 (.tmp 0) (.tmp 1)) 0 [v16,v14] (fun _ w=>
 oM prog (.call (Go.Call.mk (.builtin .len) #[(.tmp 0)] #[9])) 3 [a1] (fun v18 w=>
 K (.tuple #[v18,.nilIface]) w) w) w) w) w) w) w) w) w) w
theorem sh_205_ok {a0 a1:Value} {K:Value → World → Prop} {w:World} (h:sh_205 a0 a1 K w):callM prog 205 #[a0,a1] K w:=
 calls_of_code (fun _=>0) (fn:=Tryz.f205) (rs:=[.tmp 4,.tmp 5]) Tryz.func205 rfl rfl (by kernel_rfl) (Nat.le_of_ble_eq_true rfl) (Eq.mp (by kernel_rfl) h)
def sh_175 (a0:Value) (K:Value → World → Prop) (w:World):Prop:=
 callM prog 196 #[a0] (fun v4 w=>
 oM prog (.binOp .add 9 (.tmp 0) (.tmp 1) 9) 9 [v4,(.string ⟨#[59]⟩)] (fun v5 w=>
 K v5 w) w) w
theorem sh_175_ok {a0:Value} {K:Value → World → Prop} {w:World} (h:sh_175 a0 K w):callM prog 175 #[a0] K w:=
 calls_of_code (fun _=>0) (fn:=Tryz.f175) (rs:=[.tmp 2]) Tryz.func175 rfl rfl (by kernel_rfl) (Nat.le_of_ble_eq_true rfl) (Eq.mp (by kernel_rfl) h)
def sh_174 (a0 a1:Value) (K:Value → World → Prop) (w:World):Prop:=
 oM prog (.alloc 213) 0 [] (fun v5 w=>
 oM prog (.call (Go.Call.mk (.builtin .len) #[(.tmp 0)] #[24])) 3 [a0] (fun v9 w=>
 callM prog 196 #[v9] (fun v10 w=>
 oM prog (.binOp .add 9 (.tmp 0) (.tmp 1) 9) 9 [v10,(.string ⟨#[91]⟩)] (fun v11 w=>
 callM prog 205 #[v5,v11] (fun v12 w=>
 oM prog (.call (Go.Call.mk (.builtin .len) #[(.tmp 0)] #[24])) 3 [a0] (fun v14 w=>
 loopM [undef,(.int .i64 0)] w (fun J_7 m_8 l_9 u_l_9 w0_l_9=>(fun w=>(
 oM prog (.binOp .lss 3 (.tmp 0) (.tmp 1) 3) 0 [(l_9.getD 1 undef),v14] (fun v16 w=>
 condM v16
 (oM prog (.indexAddr 24 (.tmp 0) (.tmp 1)) 0 [a0,(l_9.getD 1 undef)] (fun v17 w=>
 oM prog (.load 3 (.tmp 0)) 3 [v17] (fun v18 w=>
 oM prog (.call (Go.Call.mk (.value (.tmp 0)) #[(.tmp 1)] #[3])) 9 [a1,v18] (fun v21 w=>
 callM prog 205 #[v5,v21] (fun v22 w=>
 oM prog (.binOp .add 3 (.tmp 0) (.tmp 1) 3) 3 [(l_9.getD 1 undef),(.int .i64 1)] (fun v23 w=>
 J_7 [v18,v23] w ∧ m_8 [v18,v23] w < m_8 l_9 w0_l_9) w) w) w) w) w)
 (callM prog 206 #[v5] (fun v24 w=>
 oM prog (.binOp .add 9 (.tmp 0) (.tmp 1) 9) 9 [v24,(.string ⟨#[93]⟩)] (fun v25 w=>
 K v25 w) w) w)) w)) w0_l_9)) w) w) w) w) w) w
theorem sh_174_ok {a0 a1:Value} {K:Value → World → Prop} {w:World} (h:sh_174 a0 a1 K w):callM prog 174 #[a0,a1] K w:=
 calls_of_code (fun _=>0) (fn:=Tryz.f174) (rs:=[.tmp 4]) Tryz.func174 rfl rfl (by kernel_rfl) (Nat.le_of_ble_eq_true rfl) (Eq.mp (by kernel_rfl) h)
def sh_114 (a0:Value) (K:Value → World → Prop) (w:World):Prop:=
 callM prog 174 #[a0,(.func (.func 175) #[] #[])] (fun v4 w=>
 K v4 w) w
theorem sh_114_ok {a0:Value} {K:Value → World → Prop} {w:World} (h:sh_114 a0 K w):callM prog 114 #[a0] K w:=
 calls_of_code (fun _=>0) (fn:=Tryz.f114) (rs:=[.tmp 2]) Tryz.func114 rfl rfl (by kernel_rfl) (Nat.le_of_ble_eq_true rfl) (Eq.mp (by kernel_rfl) h)
def sh_184 (a0 a1:Value) (K:Value → World → Prop) (w:World):Prop:=
 callM prog 209 #[a0,(.int .u8 91),(.int .i64 0)] (fun v8 w=>
 loopM [(.slice none 0 0),v8] w (fun J_2 m_3 l_4 u_l_4 w0_l_4=>(fun w=>(
 oM prog (.binOp .gtr 3 (.tmp 0) (.tmp 1) 3) 4 [(l_4.getD 1 undef),(.int .i64 0)] (fun v10 w=>
 gdM (gd v10 true) (pureM a0) (fun v12 w=>
 gdM (gd v10 true) (oM prog (.nilCheck (.tmp 0)) 0 [v12]) (fun v13 w=>
 gdM (gd v10 true) (oM prog (.fieldAddr 193 (.tmp 0) 1) 0 [v13]) (fun v14 w=>
 gdM (gd v10 true) (oM prog (.load 4 (.tmp 0)) 4 [v14]) (fun v15 w=>
 gdM (gd v10 true) (oM prog (.unOp .not 4 (.tmp 0)) 4 [v15]) (fun v16 w=>
 oM prog (.pick (.tmp 0) (.tmp 1) (.tmp 2)) 4 [v10,v16,(.bool false)] (fun v17 w=>
 condM v17
 (oM prog (.call (Go.Call.mk (.value (.tmp 0)) #[] #[])) 3 [a1] (fun v22 w=>
 oM prog (.buildSlice 24 1 #[(0,(.tmp 0))]) 24 [v22] (fun v23 w=>
 oM prog (.call (Go.Call.mk (.builtin .append) #[(.tmp 0),(.tmp 1)] #[24,24])) 24 [(l_4.getD 0 undef),v23] (fun v24 w=>
 oM prog (.binOp .sub 3 (.tmp 0) (.tmp 1) 3) 3 [(l_4.getD 1 undef),(.int .i64 1)] (fun v19 w=>
 J_2 [v24,v19] w ∧ m_3 [v24,v19] w < m_3 l_4 w0_l_4) w) w) w) w)
 (callM prog 210 #[a0,(.string ⟨#[93]⟩)] (fun v26 w=>
 oM prog (.nilCheck (.tmp 0)) 0 [a0] (fun v28 w=>
 oM prog (.fieldAddr 193 (.tmp 0) 1) 0 [v28] (fun v29 w=>
 oM prog (.load 4 (.tmp 0)) 4 [v29] (fun v30 w=>
 condM v30
 (K (.slice none 0 0) w)
 (K (l_4.getD 0 undef) w)) w) w) w) w)) w) w) w) w) w) w) w)) w0_l_4)) w
theorem sh_184_ok {a0 a1:Value} {K:Value → World → Prop} {w:World} (h:sh_184 a0 a1 K w):callM prog 184 #[a0,a1] K w:=
 calls_of_code (fun _=>0) (fn:=Tryz.f184) (rs:=[.tmp 4]) Tryz.func184 rfl rfl (by kernel_rfl) (Nat.le_of_ble_eq_true rfl) (Eq.mp (by kernel_rfl) h)
def sh_131 (a0:Value) (K:Value → World → Prop) (w:World):Prop:=
 oM prog (.makeFunc (Go.Fn.func 185) #[(.tmp 0)] #[]) 161 [a0] (fun v5 w=>
 callM prog 184 #[a0,v5] (fun v6 w=>
 K v6 w) w) w
theorem sh_131_ok {a0:Value} {K:Value → World → Prop} {w:World} (h:sh_131 a0 K w):callM prog 131 #[a0] K w:=
 calls_of_code (fun _=>0) (fn:=Tryz.f131) (rs:=[.tmp 2]) Tryz.func131 rfl rfl (by kernel_rfl) (Nat.le_of_ble_eq_true rfl) (Eq.mp (by kernel_rfl) h)
def sh_130 (a0:Value) (K:Value → World → Prop) (w:World):Prop:=
 oM prog (.build 193 #[(0,(.tmp 0))]) 193 [a0] (fun v4 w=>
 oM prog (.box 193 (.tmp 0)) 155 [v4] (fun v5 w=>
 K v5 w) w) w
theorem sh_130_ok {a0:Value} {K:Value → World → Prop} {w:World} (h:sh_130 a0 K w):callM prog 130 #[a0] K w:=
 calls_of_code (fun _=>0) (fn:=Tryz.f130) (rs:=[.tmp 2]) Tryz.func130 rfl rfl (by kernel_rfl) (Nat.le_of_ble_eq_true rfl) (Eq.mp (by kernel_rfl) h)
def sh_132 (a0:Value) (K:Value → World → Prop) (w:World):Prop:=
 oM prog (.nilCheck (.tmp 0)) 0 [a0] (fun v4 w=>
 oM prog (.fieldAddr 193 (.tmp 0) 1) 0 [v4] (fun v5 w=>
 oM prog (.load 4 (.tmp 0)) 4 [v5] (fun v6 w=>
 oM prog (.unOp .not 4 (.tmp 0)) 4 [v6] (fun v7 w=>
 gdM (gd v7 true) (pureM a0) (fun v9 w=>
 gdM (gd v7 true) (oM prog (.nilCheck (.tmp 0)) 0 [v9]) (fun v10 w=>
 gdM (gd v7 true) (oM prog (.fieldAddr 193 (.tmp 0) 0) 0 [v10]) (fun v11 w=>
 gdM (gd v7 true) (oM prog (.load 9 (.tmp 0)) 9 [v11]) (fun v12 w=>
 gdM (gd v7 true) (oM prog (.binOp .eql 9 (.tmp 0) (.const (.string ⟨#[]⟩)) 9) 4 [v12]) (fun v13 w=>
 oM prog (.pick (.tmp 0) (.tmp 1) (.tmp 2)) 4 [v7,v13,(.bool false)] (fun v14 w=>
 K v14 w) w) w) w) w) w) w) w) w) w) w
theorem sh_132_ok {a0:Value} {K:Value → World → Prop} {w:World} (h:sh_132 a0 K w):callM prog 132 #[a0] K w:=
 calls_of_code (fun _=>0) (fn:=Tryz.f132) (rs:=[.tmp 2]) Tryz.func132 rfl rfl (by kernel_rfl) (Nat.le_of_ble_eq_true rfl) (Eq.mp (by kernel_rfl) h)
def sh_185 (a0:Value) (K:Value → World → Prop) (w:World):Prop:=
 callM prog 209 #[a0,(.int .u8 59),(.int .i64 (-9223372036854775808))] (fun v4 w=>
 K v4 w) w
theorem sh_185_ok {a0:Value} {K:Value → World → Prop} {w:World} (h:sh_185 a0 K w):callM prog 185 #[a0] K w:=
 calls_of_code (fun _=>0) (fn:=Tryz.f185) (rs:=[.tmp 2]) Tryz.func185 rfl rfl (by kernel_rfl) (Nat.le_of_ble_eq_true rfl) (Eq.mp (by kernel_rfl) h)
def sh_209 (a0 a1 a2:Value) (K:Value → World → Prop) (w:World):Prop:=
 quietM w (fun C_1=>(oQ prog (.nilCheck (.tmp 0)) 0 [a0] C_1 (fun v12=>
 oQ prog (.fieldAddr 193 (.tmp 0) 0) 0 [v12] C_1 (fun v13=>
 oQ prog (.load 9 (.tmp 0)) 9 [v13] C_1 (fun v14=>
 oQ prog (.nilCheck (.tmp 0)) 0 [a0] C_1 (fun v16=>
 oQ prog (.fieldAddr 193 (.tmp 0) 0) 0 [v16] C_1 (fun v17=>
 oQ prog (.load 9 (.tmp 0)) 9 [v17] C_1 (fun v18=>
 oQ prog (.call (Go.Call.mk (.builtin .len) #[(.tmp 0)] #[9])) 3 [v18] C_1 (fun v19=>
 oQ prog (.call (Go.Call.mk (.builtin .min) #[(.tmp 0),(.tmp 1)] #[3,3])) 3 [v19,(.int .i64 21)] C_1 (fun v20=>
 oQ prog (.slice 9 (.tmp 0) none (some (.tmp 1)) none) 9 [v14,v20] C_1 (fun v21=>
 ∀ w,C_1 w → (callM prog 223 #[v21,a1] (fun v24 w=>
 oM prog (.binOp .lss 3 (.tmp 0) (.tmp 1) 3) 4 [v24,(.int .i64 0)] (fun v26 w=>
 condM v26
 (callM prog 224 #[a0] (fun v28 w=>
 K (.int .i64 0) w) w)
 (oM prog (.slice 9 (.tmp 0) none (some (.tmp 1)) none) 9 [v21,v24] (fun v32 w=>
 callM prog 225 #[v32] (fun v33 w=>
 oM prog (.extract (.tmp 0) 0) 3 [v33] (fun v34 w=>
 oM prog (.extract (.tmp 0) 1) 215 [v33] (fun v35 w=>
 quietM w (fun C_18=>(oQ prog (.binOp .neq 215 (.tmp 0) (.const .nilIface) 215) 4 [v35] C_18 (fun v37=>
 gdQ (gd v37 false) (pureQ v34) C_18 (fun v39=>
 gdQ (gd v37 false) (callQ prog 196 #[v39]) C_18 (fun v40=>
 gdQ (gd v37 false) (pureQ v21) C_18 (fun v41=>
 gdQ (gd v37 false) (pureQ v24) C_18 (fun v42=>
 gdQ (gd v37 false) (oQ prog (.slice 9 (.tmp 0) none (some (.tmp 1)) none) 9 [v41,v42]) C_18 (fun v43=>
 gdQ (gd v37 false) (oQ prog (.binOp .neq 9 (.tmp 0) (.tmp 1) 9) 4 [v40,v43]) C_18 (fun v44=>
 oQ prog (.pick (.tmp 0) (.tmp 1) (.tmp 2)) 4 [v37,(.bool true),v44] C_18 (fun v45=>
 gdQ (gd v45 false) (pureQ v34) C_18 (fun v47=>
 gdQ (gd v45 false) (pureQ a2) C_18 (fun v48=>
 gdQ (gd v45 false) (oQ prog (.binOp .lss 3 (.tmp 0) (.tmp 1) 3) 4 [v47,v48]) C_18 (fun v49=>
 oQ prog (.pick (.tmp 0) (.tmp 1) (.tmp 2)) 4 [v45,(.bool true),v49] C_18 (fun v50=>
 ∀ w,C_18 w → (condM v50
 (callM prog 224 #[a0] (fun v52 w=>
 K (.int .i64 0) w) w)
 (oM prog (.nilCheck (.tmp 0)) 0 [a0] (fun v55 w=>
 oM prog (.fieldAddr 193 (.tmp 0) 0) 0 [v55] (fun v56 w=>
 oM prog (.load 9 (.tmp 0)) 9 [v56] (fun v57 w=>
 oM prog (.binOp .add 3 (.tmp 0) (.tmp 1) 3) 3 [v24,(.int .i64 1)] (fun v59 w=>
 oM prog (.slice 9 (.tmp 0) (some (.tmp 1)) none none) 9 [v57,v59] (fun v60 w=>
 oM prog (.nilCheck (.tmp 0)) 0 [a0] (fun v61 w=>
 oM prog (.fieldAddr 193 (.tmp 0) 0) 0 [v61] (fun v62 w=>
 oM prog (.store 9 (.tmp 0) (.tmp 1)) 0 [v62,v60] (fun _ w=>
 K v34 w) w) w) w) w) w) w) w) w))))))))))))))))) w) w) w) w)) w) w))))))))))))
theorem sh_209_ok {a0 a1 a2:Value} {K:Value → World → Prop} {w:World} (h:sh_209 a0 a1 a2 K w):callM prog 209 #[a0,a1,a2] K w:=
 calls_of_code (fun _=>0) (fn:=Tryz.f209) (rs:=[.tmp 6]) Tryz.func209 rfl rfl (by kernel_rfl) (Nat.le_of_ble_eq_true rfl) (Eq.mp (by kernel_rfl) h)
def sh_210 (a0 a1:Value) (K:Value → World → Prop) (w:World):Prop:=
 oM prog (.nilCheck (.tmp 0)) 0 [a0] (fun v8 w=>
 oM prog (.fieldAddr 193 (.tmp 0) 0) 0 [v8] (fun v9 w=>
 oM prog (.load 9 (.tmp 0)) 9 [v9] (fun v10 w=>
 callM prog 226 #[v10,a1] (fun v12 w=>
 oM prog (.extract (.tmp 0) 0) 9 [v12] (fun v13 w=>
 oM prog (.extract (.tmp 0) 1) 4 [v12] (fun v14 w=>
 oM prog (.nilCheck (.tmp 0)) 0 [a0] (fun v17 w=>
 oM prog (.fieldAddr 193 (.tmp 0) 0) 0 [v17] (fun v18 w=>
 oM prog (.store 9 (.tmp 0) (.tmp 1)) 0 [v18,v13] (fun _ w=>
 oM prog (.unOp .not 4 (.tmp 0)) 4 [v14] (fun v20 w=>
 condM v20
 (callM prog 224 #[a0] (fun v22 w=>
 K (.tuple #[]) w) w)
 (K (.tuple #[]) w)) w) w) w) w) w) w) w) w) w) w
theorem sh_210_ok {a0 a1:Value} {K:Value → World → Prop} {w:World} (h:sh_210 a0 a1 K w):callM prog 210 #[a0,a1] K w:=
 calls_of_code (fun _=>0) (fn:=Tryz.f210) (rs:=[]) Tryz.func210 rfl rfl (by kernel_rfl) (Nat.le_of_ble_eq_true rfl) (Eq.mp (by kernel_rfl) h)
def sh_224 (a0:Value) (K:Value → World → Prop) (w:World):Prop:=
 oM prog (.nilCheck (.tmp 0)) 0 [a0] (fun v4 w=>
 oM prog (.fieldAddr 193 (.tmp 0) 0) 0 [v4] (fun v5 w=>
 oM prog (.store 9 (.tmp 0) (.tmp 1)) 0 [v5,(.string ⟨#[]⟩)] (fun _ w=>
 oM prog (.nilCheck (.tmp 0)) 0 [a0] (fun v6 w=>
 oM prog (.fieldAddr 193 (.tmp 0) 1) 0 [v6] (fun v7 w=>
 oM prog (.store 4 (.tmp 0) (.tmp 1)) 0 [v7,(.bool true)] (fun _ w=>
 K (.tuple #[]) w) w) w) w) w) w) w
theorem sh_224_ok {a0:Value} {K:Value → World → Prop} {w:World} (h:sh_224 a0 K w):callM prog 224 #[a0] K w:=
 calls_of_code (fun _=>0) (fn:=Tryz.f224) (rs:=[]) Tryz.func224 rfl rfl (by kernel_rfl) (Nat.le_of_ble_eq_true rfl) (Eq.mp (by kernel_rfl) h)
def sh_160 (a0:Value) (K:Value → World → Prop) (w:World):Prop:=
 oM prog (.call (Go.Call.mk (.builtin .len) #[(.tmp 0)] #[9])) 3 [a0] (fun v4 w=>
 callM prog 196 #[v4] (fun v5 w=>
 oM prog (.binOp .add 9 (.tmp 0) (.tmp 1) 9) 9 [v5,(.string ⟨#[58]⟩)] (fun v6 w=>
 oM prog (.binOp .add 9 (.tmp 0) (.tmp 1) 9) 9 [v6,a0] (fun v8 w=>
 oM prog (.binOp .add 9 (.tmp 0) (.tmp 1) 9) 9 [v8,(.string ⟨#[44]⟩)] (fun v9 w=>
 K v9 w) w) w) w) w) w
theorem sh_160_ok {a0:Value} {K:Value → World → Prop} {w:World} (h:sh_160 a0 K w):callM prog 160 #[a0] K w:=
 calls_of_code (fun _=>0) (fn:=Tryz.f160) (rs:=[.tmp 2]) Tryz.func160 rfl rfl (by kernel_rfl) (Nat.le_of_ble_eq_true rfl) (Eq.mp (by kernel_rfl) h)
end Go.Proofs
namespace Go.Proofs
open Go.Sh Tryz
def sh_195 (a0:Value) (K:Value → World → Prop) (w:World):Prop:=
 oM prog (.convert 9 202 (.tmp 0)) 202 [a0] (fun v10 w=>
 oM prog (.buildSlice 202 1 #[(0,(.tmp 0))]) 202 [(.int .u8 128)] (fun v11 w=>
 oM prog (.call (Go.Call.mk (.builtin .append) #[(.tmp 0),(.tmp 1)] #[202,202])) 202 [v10,v11] (fun v12 w=>
 loopM [v12] w (fun J_4 m_5 l_6 u_l_6 w0_l_6=>(fun w=>(
 oM prog (.call (Go.Call.mk (.builtin .len) #[(.tmp 0)] #[202])) 3 [(l_6.getD 0 undef)] (fun v14 w=>
 oM prog (.binOp .rem 3 (.tmp 0) (.tmp 1) 3) 3 [v14,(.int .i64 64)] (fun v15 w=>
 oM prog (.binOp .neq 3 (.tmp 0) (.const (.int .i64 56)) 3) 4 [v15] (fun v16 w=>
 condM v16
 (oM prog (.buildSlice 202 1 #[(0,(.tmp 0))]) 202 [(.int .u8 0)] (fun v18 w=>
 oM prog (.call (Go.Call.mk (.builtin .append) #[(.tmp 0),(.tmp 1)] #[202,202])) 202 [(l_6.getD 0 undef),v18] (fun v19 w=>
 J_4 [v19] w ∧ m_5 [v19] w < m_5 l_6 w0_l_6) w) w)
 (loopM [(l_6.getD 0 undef),(.int .i64 56)] w (fun J_12 m_13 l_14 u_l_14 w0_l_14=>(fun w=>(
 oM prog (.binOp .geq 3 (.tmp 0) (.tmp 1) 3) 4 [(l_14.getD 1 undef),(.int .i64 0)] (fun v21 w=>
 condM v21
 (oM prog (.call (Go.Call.mk (.builtin .len) #[(.tmp 0)] #[9])) 3 [a0] (fun v26 w=>
 oM prog (.convert 3 150 (.tmp 0)) 150 [v26] (fun v27 w=>
 oM prog (.binOp .mul 150 (.tmp 0) (.tmp 1) 150) 150 [(.int .u64 8),v27] (fun v28 w=>
 oM prog (.binOp .shr 150 (.tmp 0) (.tmp 1) 3) 150 [v28,(l_14.getD 1 undef)] (fun v30 w=>
 oM prog (.convert 150 5 (.tmp 0)) 5 [v30] (fun v31 w=>
 oM prog (.buildSlice 202 1 #[(0,(.tmp 0))]) 202 [v31] (fun v32 w=>
 oM prog (.call (Go.Call.mk (.builtin .append) #[(.tmp 0),(.tmp 1)] #[202,202])) 202 [(l_14.getD 0 undef),v32] (fun v33 w=>
 oM prog (.binOp .sub 3 (.tmp 0) (.tmp 1) 3) 3 [(l_14.getD 1 undef),(.int .i64 8)] (fun v23 w=>
 J_12 [v33,v23] w ∧ m_13 [v33,v23] w < m_13 l_14 w0_l_14) w) w) w) w) w) w) w) w)
 (callM prog 213 #[] (fun v34 w=>
 oM prog (.alloc 225) 0 [] (fun v5 w=>
 oM prog (.store 225 (.tmp 0) (.tmp 1)) 0 [v5,v34] (fun _ w=>
 loopM [(l_14.getD 0 undef)] w (fun J_26 m_27 l_28 u_l_28 w0_l_28=>(fun w=>(
 oM prog (.call (Go.Call.mk (.builtin .len) #[(.tmp 0)] #[202])) 3 [(l_28.getD 0 undef)] (fun v36 w=>
 oM prog (.binOp .gtr 3 (.tmp 0) (.tmp 1) 3) 4 [v36,(.int .i64 0)] (fun v37 w=>
 condM v37
 (heldM w (fun C_31 w=>(((true:Bool) = true) ∧ (oH prog (.load 225 (.tmp 0)) 225 [v5] C_31 (fun v40=>
 pureH (l_28.getD 0 undef) C_31 (fun v41=>
 oH prog (.slice 202 (.tmp 0) none (some (.tmp 1)) none) 202 [v41,(.int .i64 64)] C_31 (fun v42=>
 ∃ S_35:World → World → Prop,∀ w,C_31 w → (
 callM prog 214 #[v40,v42] (fun v43 w=>
 oM prog (.store 225 (.tmp 0) (.tmp 1)) 0 [v5,v43] (fun _ w=>
 oM prog (.slice 202 (.tmp 0) (some (.tmp 1)) none none) 202 [(l_28.getD 0 undef),(.int .i64 64)] (fun v39 w=>
 J_26 [v39] w ∧ m_27 [v39] w < m_27 l_28 w0_l_28) w) w) w))))))))
 (oM prog (.load 225 (.tmp 0)) 225 [v5] (fun v44 w=>
 loopM [undef,(.slice none 0 0),(.int .i64 0)] w (fun J_39 m_40 l_41 u_l_41 w0_l_41=>(fun w=>(
 oM prog (.binOp .lss 3 (.tmp 0) (.tmp 1) 3) 0 [(l_41.getD 2 undef),(.int .i64 8)] (fun v46 w=>
 condM v46
 (oM prog (.index 225 (.tmp 0) (.tmp 1)) 223 [v44,(l_41.getD 2 undef)] (fun v47 w=>
 oM prog (.binOp .shr 223 (.tmp 0) (.tmp 1) 191) 223 [v47,(.int .u64 24)] (fun v50 w=>
 oM prog (.convert 223 5 (.tmp 0)) 5 [v50] (fun v51 w=>
 oM prog (.binOp .shr 223 (.tmp 0) (.tmp 1) 191) 223 [v47,(.int .u64 16)] (fun v53 w=>
 oM prog (.convert 223 5 (.tmp 0)) 5 [v53] (fun v54 w=>
 oM prog (.binOp .shr 223 (.tmp 0) (.tmp 1) 191) 223 [v47,(.int .u64 8)] (fun v56 w=>
 oM prog (.convert 223 5 (.tmp 0)) 5 [v56] (fun v57 w=>
 oM prog (.convert 223 5 (.tmp 0)) 5 [v47] (fun v59 w=>
 oM prog (.buildSlice 202 4 #[(0,(.tmp 0)),(1,(.tmp 1)),(2,(.tmp 2)),(3,(.tmp 3))]) 202 [v51,v54,v57,v59] (fun v60 w=>
 oM prog (.call (Go.Call.mk (.builtin .append) #[(.tmp 0),(.tmp 1)] #[202,202])) 202 [(l_41.getD 1 undef),v60] (fun v61 w=>
 oM prog (.binOp .add 3 (.tmp 0) (.tmp 1) 3) 3 [(l_41.getD 2 undef),(.int .i64 1)] (fun v62 w=>
 J_39 [v47,v61,v62] w ∧ m_40 [v47,v61,v62] w < m_40 l_41 w0_l_41) w) w) w) w) w) w) w) w) w) w) w)
 (oM prog (.convert 202 9 (.tmp 0)) 9 [(l_41.getD 1 undef)] (fun v64 w=>
 K v64 w) w)) w)) w0_l_41)) w)) w) w)) w0_l_28)) w) w) w)) w)) w0_l_14))) w) w) w)) w0_l_6)) w) w) w
theorem sh_195_ok {a0:Value} {K:Value → World → Prop} {w:World} (h:sh_195 a0 K w):callM prog 195 #[a0] K w:=
 calls_of_code (fun _=>.free [0,1,2] [] [3,4]) (fn:=Tryz.f195) (rs:=[.tmp 2]) Tryz.func195 rfl rfl (by kernel_rfl) (Nat.le_of_ble_eq_true rfl) (Eq.mp (by kernel_rfl) h)
def sh_213 (K:Value → World → Prop) (w:World):Prop:=
 oM prog (.alloc 225) 0 [] (fun v0 w=>
 oM prog (.build 225 #[(0,(.tmp 0)),(1,(.tmp 1)),(2,(.tmp 2)),(3,(.tmp 3)),(4,(.tmp 4)),(5,(.tmp 5)),(6,(.tmp 6)),(7,(.tmp 7))]) 225 [(.int .u32 1779033703),(.int .u32 3144134277),(.int .u32 1013904242),(.int .u32 2773480762),(.int .u32 1359893119),(.int .u32 2600822924),(.int .u32 528734635),(.int .u32 1541459225)] (fun v1 w=>
 oM prog (.store 225 (.tmp 0) (.tmp 1)) 0 [v0,v1] (fun _ w=>
 ∃ r_3,(do loadVar 225 (← asAddr v0):Sem Value).run prog w = .ok r_3 w ∧ K r_3 w) w) w) w
theorem sh_213_ok {K:Value → World → Prop} {w:World} (h:sh_213 K w):callM prog 213 #[] K w:=
 calls_of_code (fun _=>0) (fn:=Tryz.f213) (rs:=[.cell 0 225]) Tryz.func213 rfl rfl (by kernel_rfl) (Nat.le_of_ble_eq_true rfl) (Eq.mp (by kernel_rfl) h)
def sh_214 (a0 a1:Value) (K:Value → World → Prop) (w:World):Prop:=
 oM prog (.box 225 (.tmp 0)) 0 [a0] (fun v2 w=>
 oM prog (.alloc 225) 0 [] (fun v4 w=>
 callM prog 228 #[a1] (fun v15 w=>
 callM prog 229 #[] (fun v16 w=>
 oM prog (.alloc 238) 0 [] (fun v5 w=>
 oM prog (.alloc 238) 0 [] (fun v6 w=>
 oM prog (.store 238 (.tmp 0) (.tmp 1)) 0 [v5,v15] (fun _ w=>
 oM prog (.store 238 (.tmp 0) (.tmp 1)) 0 [v6,v16] (fun _ w=>
 oM prog (.load 225 (.tmp 0)) 225 [v2] (fun v17 w=>
 oM prog (.alloc 225) 0 [] (fun v7 w=>
 oM prog (.store 225 (.tmp 0) (.tmp 1)) 0 [v7,v17] (fun _ w=>
 loopM [undef,undef,undef,undef,undef,(.int .i64 0)] w (fun J_9 m_10 l_11 u_l_11 w0_l_11=>(fun w=>(
 oM prog (.binOp .lss 3 (.tmp 0) (.tmp 1) 3) 0 [(l_11.getD 5 undef),(.int .i64 64)] (fun v19 w=>
 condM v19
 (quietM w (fun C_13=>(oQ prog (.indexAddr 225 (.tmp 0) (.tmp 1)) 0 [v7,(.int .i64 4)] C_13 (fun v21=>
 oQ prog (.load 223 (.tmp 0)) 223 [v21] C_13 (fun v22=>
 callQ prog 230 #[v22,(.int .i64 (-6))] C_13 (fun v23=>
 oQ prog (.indexAddr 225 (.tmp 0) (.tmp 1)) 0 [v7,(.int .i64 4)] C_13 (fun v24=>
 oQ prog (.load 223 (.tmp 0)) 223 [v24] C_13 (fun v25=>
 callQ prog 230 #[v25,(.int .i64 (-11))] C_13 (fun v26=>
 oQ prog (.binOp .xor 223 (.tmp 0) (.tmp 1) 223) 223 [v23,v26] C_13 (fun v27=>
 oQ prog (.indexAddr 225 (.tmp 0) (.tmp 1)) 0 [v7,(.int .i64 4)] C_13 (fun v28=>
 oQ prog (.load 223 (.tmp 0)) 223 [v28] C_13 (fun v29=>
 callQ prog 230 #[v29,(.int .i64 (-25))] C_13 (fun v30=>
 oQ prog (.binOp .xor 223 (.tmp 0) (.tmp 1) 223) 223 [v27,v30] C_13 (fun v31=>
 ∀ w,C_13 w → (quietM w (fun C_25=>(oQ prog (.indexAddr 225 (.tmp 0) (.tmp 1)) 0 [v7,(.int .i64 7)] C_25 (fun v32=>
 oQ prog (.load 223 (.tmp 0)) 223 [v32] C_25 (fun v33=>
 oQ prog (.binOp .add 223 (.tmp 0) (.tmp 1) 223) 223 [v33,v31] C_25 (fun v35=>
 oQ prog (.indexAddr 225 (.tmp 0) (.tmp 1)) 0 [v7,(.int .i64 6)] C_25 (fun v36=>
 oQ prog (.load 223 (.tmp 0)) 223 [v36] C_25 (fun v37=>
 oQ prog (.indexAddr 225 (.tmp 0) (.tmp 1)) 0 [v7,(.int .i64 4)] C_25 (fun v38=>
 oQ prog (.load 223 (.tmp 0)) 223 [v38] C_25 (fun v39=>
 oQ prog (.indexAddr 225 (.tmp 0) (.tmp 1)) 0 [v7,(.int .i64 5)] C_25 (fun v40=>
 oQ prog (.load 223 (.tmp 0)) 223 [v40] C_25 (fun v41=>
 oQ prog (.indexAddr 225 (.tmp 0) (.tmp 1)) 0 [v7,(.int .i64 6)] C_25 (fun v42=>
 oQ prog (.load 223 (.tmp 0)) 223 [v42] C_25 (fun v43=>
 oQ prog (.binOp .xor 223 (.tmp 0) (.tmp 1) 223) 223 [v41,v43] C_25 (fun v44=>
 oQ prog (.binOp .and 223 (.tmp 0) (.tmp 1) 223) 223 [v39,v44] C_25 (fun v45=>
 oQ prog (.binOp .xor 223 (.tmp 0) (.tmp 1) 223) 223 [v37,v45] C_25 (fun v46=>
 oQ prog (.binOp .add 223 (.tmp 0) (.tmp 1) 223) 223 [v35,v46] C_25 (fun v47=>
 oQ prog (.indexAddr 238 (.tmp 0) (.tmp 1)) 0 [v6,(l_11.getD 5 undef)] C_25 (fun v49=>
 oQ prog (.load 223 (.tmp 0)) 223 [v49] C_25 (fun v50=>
 oQ prog (.binOp .add 223 (.tmp 0) (.tmp 1) 223) 223 [v47,v50] C_25 (fun v51=>
 oQ prog (.indexAddr 238 (.tmp 0) (.tmp 1)) 0 [v5,(l_11.getD 5 undef)] C_25 (fun v53=>
 oQ prog (.load 223 (.tmp 0)) 223 [v53] C_25 (fun v54=>
 oQ prog (.binOp .add 223 (.tmp 0) (.tmp 1) 223) 223 [v51,v54] C_25 (fun v55=>
 ∀ w,C_25 w → (quietM w (fun C_47=>(oQ prog (.indexAddr 225 (.tmp 0) (.tmp 1)) 0 [v7,(.int .i64 0)] C_47 (fun v56=>
 oQ prog (.load 223 (.tmp 0)) 223 [v56] C_47 (fun v57=>
 callQ prog 230 #[v57,(.int .i64 (-2))] C_47 (fun v58=>
 oQ prog (.indexAddr 225 (.tmp 0) (.tmp 1)) 0 [v7,(.int .i64 0)] C_47 (fun v59=>
 oQ prog (.load 223 (.tmp 0)) 223 [v59] C_47 (fun v60=>
 callQ prog 230 #[v60,(.int .i64 (-13))] C_47 (fun v61=>
 oQ prog (.binOp .xor 223 (.tmp 0) (.tmp 1) 223) 223 [v58,v61] C_47 (fun v62=>
 oQ prog (.indexAddr 225 (.tmp 0) (.tmp 1)) 0 [v7,(.int .i64 0)] C_47 (fun v63=>
 oQ prog (.load 223 (.tmp 0)) 223 [v63] C_47 (fun v64=>
 callQ prog 230 #[v64,(.int .i64 (-22))] C_47 (fun v65=>
 oQ prog (.binOp .xor 223 (.tmp 0) (.tmp 1) 223) 223 [v62,v65] C_47 (fun v66=>
 ∀ w,C_47 w → (oM prog (.indexAddr 225 (.tmp 0) (.tmp 1)) 0 [v7,(.int .i64 0)] (fun v67 w=>
 oM prog (.load 223 (.tmp 0)) 223 [v67] (fun v68 w=>
 oM prog (.indexAddr 225 (.tmp 0) (.tmp 1)) 0 [v7,(.int .i64 1)] (fun v69 w=>
 oM prog (.load 223 (.tmp 0)) 223 [v69] (fun v70 w=>
 oM prog (.binOp .and 223 (.tmp 0) (.tmp 1) 223) 223 [v68,v70] (fun v71 w=>
 oM prog (.indexAddr 225 (.tmp 0) (.tmp 1)) 0 [v7,(.int .i64 2)] (fun v72 w=>
 oM prog (.load 223 (.tmp 0)) 223 [v72] (fun v73 w=>
 oM prog (.indexAddr 225 (.tmp 0) (.tmp 1)) 0 [v7,(.int .i64 0)] (fun v74 w=>
 oM prog (.load 223 (.tmp 0)) 223 [v74] (fun v75 w=>
 oM prog (.indexAddr 225 (.tmp 0) (.tmp 1)) 0 [v7,(.int .i64 1)] (fun v76 w=>
 oM prog (.load 223 (.tmp 0)) 223 [v76] (fun v77 w=>
 oM prog (.binOp .or 223 (.tmp 0) (.tmp 1) 223) 223 [v75,v77] (fun v78 w=>
 oM prog (.binOp .and 223 (.tmp 0) (.tmp 1) 223) 223 [v73,v78] (fun v79 w=>
 oM prog (.binOp .or 223 (.tmp 0) (.tmp 1) 223) 223 [v71,v79] (fun v80 w=>
 oM prog (.binOp .add 223 (.tmp 0) (.tmp 1) 223) 223 [v55,v66] (fun v83 w=>
 oM prog (.binOp .add 223 (.tmp 0) (.tmp 1) 223) 223 [v83,v80] (fun v85 w=>
 oM prog (.indexAddr 225 (.tmp 0) (.tmp 1)) 0 [v7,(.int .i64 0)] (fun v86 w=>
 oM prog (.load 223 (.tmp 0)) 223 [v86] (fun v87 w=>
 oM prog (.indexAddr 225 (.tmp 0) (.tmp 1)) 0 [v7,(.int .i64 1)] (fun v88 w=>
 oM prog (.load 223 (.tmp 0)) 223 [v88] (fun v89 w=>
 oM prog (.indexAddr 225 (.tmp 0) (.tmp 1)) 0 [v7,(.int .i64 2)] (fun v90 w=>
 oM prog (.load 223 (.tmp 0)) 223 [v90] (fun v91 w=>
 oM prog (.indexAddr 225 (.tmp 0) (.tmp 1)) 0 [v7,(.int .i64 3)] (fun v92 w=>
 oM prog (.load 223 (.tmp 0)) 223 [v92] (fun v93 w=>
 oM prog (.binOp .add 223 (.tmp 0) (.tmp 1) 223) 223 [v93,v55] (fun v95 w=>
 oM prog (.indexAddr 225 (.tmp 0) (.tmp 1)) 0 [v7,(.int .i64 4)] (fun v96 w=>
 oM prog (.load 223 (.tmp 0)) 223 [v96] (fun v97 w=>
 oM prog (.indexAddr 225 (.tmp 0) (.tmp 1)) 0 [v7,(.int .i64 5)] (fun v98 w=>
 oM prog (.load 223 (.tmp 0)) 223 [v98] (fun v99 w=>
 oM prog (.indexAddr 225 (.tmp 0) (.tmp 1)) 0 [v7,(.int .i64 6)] (fun v100 w=>
 oM prog (.load 223 (.tmp 0)) 223 [v100] (fun v101 w=>
 oM prog (.build 225 #[(0,(.tmp 0)),(1,(.tmp 1)),(2,(.tmp 2)),(3,(.tmp 3)),(4,(.tmp 4)),(5,(.tmp 5)),(6,(.tmp 6)),(7,(.tmp 7))]) 225 [v85,v87,v89,v91,v95,v97,v99,v101] (fun v102 w=>
 oM prog (.store 225 (.tmp 0) (.tmp 1)) 0 [v7,v102] (fun _ w=>
 oM prog (.binOp .add 3 (.tmp 0) (.tmp 1) 3) 3 [(l_11.getD 5 undef),(.int .i64 1)] (fun v103 w=>
 J_9 [(l_11.getD 5 undef),v31,v55,v66,v80,v103] w ∧ m_10 [(l_11.getD 5 undef),v31,v55,v66,v80,v103] w < m_10 l_11 w0_l_11) w) w) w) w) w) w) w) w) w) w) w) w) w) w) w) w) w) w) w) w) w) w) w) w) w) w) w) w) w) w) w) w) w) w)))))))))))))))))))))))))))))))))))))))))))))))))))))
 (loopM [undef,(.int .i64 0)] w (fun J_92 m_93 l_94 u_l_94 w0_l_94=>(fun w=>(
 oM prog (.binOp .lss 3 (.tmp 0) (.tmp 1) 3) 0 [(l_94.getD 1 undef),(.int .i64 8)] (fun v105 w=>
 condM v105
 (heldM w (fun C_96 w=>(((true:Bool) = true) ∧ (pureH (l_94.getD 1 undef) C_96 (fun v107=>
 oH prog (.indexAddr 225 (.tmp 0) (.tmp 1)) 0 [v7,v107] C_96 (fun v108=>
 oH prog (.load 223 (.tmp 0)) 223 [v108] C_96 (fun v109=>
 pureH (l_94.getD 1 undef) C_96 (fun v110=>
 oH prog (.indexAddr 225 (.tmp 0) (.tmp 1)) 0 [v2,v110] C_96 (fun v111=>
 oH prog (.load 223 (.tmp 0)) 223 [v111] C_96 (fun v112=>
 oH prog (.binOp .add 223 (.tmp 0) (.tmp 1) 223) 223 [v109,v112] C_96 (fun v113=>
 oH prog (.indexAddr 225 (.tmp 0) (.tmp 1)) 0 [v7,v107] C_96 (fun v114=>
 ∃ S_105:World → World → Prop,∀ w,C_96 w → (
 oM prog (.store 223 (.tmp 0) (.tmp 1)) 0 [v114,v113] (fun _ w=>
 oM prog (.binOp .add 3 (.tmp 0) (.tmp 1) 3) 3 [(l_94.getD 1 undef),(.int .i64 1)] (fun v115 w=>
 J_92 [(l_94.getD 1 undef),v115] w ∧ m_93 [(l_94.getD 1 undef),v115] w < m_93 l_94 w0_l_94) w) w)))))))))))))
 (oM prog (.load 225 (.tmp 0)) 225 [v7] (fun v116 w=>
 oM prog (.store 225 (.tmp 0) (.tmp 1)) 0 [v4,v116] (fun _ w=>
 ∃ r_108,(do loadVar 225 (← asAddr v4):Sem Value).run prog w = .ok r_108 w ∧ K r_108 w) w) w)) w)) w0_l_94))) w)) w0_l_11)) w) w) w) w) w) w) w) w) w) w) w
theorem sh_214_ok {a0 a1:Value} {K:Value → World → Prop} {w:World} (h:sh_214 a0 a1 K w):callM prog 214 #[a0,a1] K w:=
 calls_of_code (fun i=>bif Nat.beq i 15 then .free [0,1,2,3,4,5,6,7] [] [8] else 0) (fn:=Tryz.f214) (rs:=[.cell 4 225]) Tryz.func214 rfl rfl (by kernel_rfl) (Nat.le_of_ble_eq_true rfl) (Eq.mp (by kernel_rfl) h)
def sh_228 (a0:Value) (K:Value → World → Prop) (w:World):Prop:=
 oM prog (.alloc 238) 0 [] (fun v2 w=>
 loopM [undef,undef,undef,undef,undef,(.int .i64 0)] w (fun J_2 m_3 l_4 u_l_4 w0_l_4=>(fun w=>(
 oM prog (.binOp .lss 3 (.tmp 0) (.tmp 1) 3) 0 [(l_4.getD 5 undef),(.int .i64 64)] (fun v9 w=>
 condM v9
 (joinM (fun M_6=>(oM prog (.binOp .lss 3 (.tmp 0) (.tmp 1) 3) 4 [(l_4.getD 5 undef),(.int .i64 16)] (fun v12 w=>
 condM v12
 (heldM w (fun C_9 w=>(pureH (l_4.getD 5 undef) C_9 (fun v13=>
 pureH a0 C_9 (fun v14=>
 pureH (l_4.getD 5 undef) C_9 (fun v15=>
 oH prog (.binOp .mul 3 (.tmp 0) (.tmp 1) 3) 3 [(.int .i64 4),v15] C_9 (fun v16=>
 oH prog (.indexAddr 202 (.tmp 0) (.tmp 1)) 0 [v14,v16] C_9 (fun v17=>
 oH prog (.load 5 (.tmp 0)) 5 [v17] C_9 (fun v18=>
 oH prog (.convert 5 223 (.tmp 0)) 223 [v18] C_9 (fun v19=>
 oH prog (.binOp .shl 223 (.tmp 0) (.tmp 1) 191) 223 [v19,(.int .u64 24)] C_9 (fun v20=>
 pureH a0 C_9 (fun v21=>
 pureH (l_4.getD 5 undef) C_9 (fun v22=>
 oH prog (.binOp .mul 3 (.tmp 0) (.tmp 1) 3) 3 [(.int .i64 4),v22] C_9 (fun v23=>
 oH prog (.binOp .add 3 (.tmp 0) (.tmp 1) 3) 3 [v23,(.int .i64 1)] C_9 (fun v24=>
 oH prog (.indexAddr 202 (.tmp 0) (.tmp 1)) 0 [v21,v24] C_9 (fun v25=>
 oH prog (.load 5 (.tmp 0)) 5 [v25] C_9 (fun v26=>
 oH prog (.convert 5 223 (.tmp 0)) 223 [v26] C_9 (fun v27=>
 oH prog (.binOp .shl 223 (.tmp 0) (.tmp 1) 191) 223 [v27,(.int .u64 16)] C_9 (fun v28=>
 oH prog (.binOp .or 223 (.tmp 0) (.tmp 1) 223) 223 [v20,v28] C_9 (fun v29=>
 pureH a0 C_9 (fun v30=>
 pureH (l_4.getD 5 undef) C_9 (fun v31=>
 oH prog (.binOp .mul 3 (.tmp 0) (.tmp 1) 3) 3 [(.int .i64 4),v31] C_9 (fun v32=>
 oH prog (.binOp .add 3 (.tmp 0) (.tmp 1) 3) 3 [v32,(.int .i64 2)] C_9 (fun v33=>
 oH prog (.indexAddr 202 (.tmp 0) (.tmp 1)) 0 [v30,v33] C_9 (fun v34=>
 oH prog (.load 5 (.tmp 0)) 5 [v34] C_9 (fun v35=>
 oH prog (.convert 5 223 (.tmp 0)) 223 [v35] C_9 (fun v36=>
 oH prog (.binOp .shl 223 (.tmp 0) (.tmp 1) 191) 223 [v36,(.int .u64 8)] C_9 (fun v37=>
 oH prog (.binOp .or 223 (.tmp 0) (.tmp 1) 223) 223 [v29,v37] C_9 (fun v38=>
 pureH a0 C_9 (fun v39=>
 pureH (l_4.getD 5 undef) C_9 (fun v40=>
 oH prog (.binOp .mul 3 (.tmp 0) (.tmp 1) 3) 3 [(.int .i64 4),v40] C_9 (fun v41=>
 oH prog (.binOp .add 3 (.tmp 0) (.tmp 1) 3) 3 [v41,(.int .i64 3)] C_9 (fun v42=>
 oH prog (.indexAddr 202 (.tmp 0) (.tmp 1)) 0 [v39,v42] C_9 (fun v43=>
 oH prog (.load 5 (.tmp 0)) 5 [v43] C_9 (fun v44=>
 oH prog (.convert 5 223 (.tmp 0)) 223 [v44] C_9 (fun v45=>
 oH prog (.binOp .or 223 (.tmp 0) (.tmp 1) 223) 223 [v38,v45] C_9 (fun v46=>
 oH prog (.indexAddr 238 (.tmp 0) (.tmp 1)) 0 [v2,v13] C_9 (fun v47=>
 oM prog (.store 223 (.tmp 0) (.tmp 1)) 0 [v47,v46] (fun _ w=>C_9 w ∧ (
 M_6 [(l_4.getD 5 undef),(l_4.getD 1 undef),(l_4.getD 2 undef),(l_4.getD 3 undef),(l_4.getD 4 undef)] w)) w))))))))))))))))))))))))))))))))))))))
 (quietM w (fun C_45=>(oQ prog (.binOp .sub 3 (.tmp 0) (.tmp 1) 3) 3 [(l_4.getD 5 undef),(.int .i64 15)] C_45 (fun v49=>
 oQ prog (.indexAddr 238 (.tmp 0) (.tmp 1)) 0 [v2,v49] C_45 (fun v50=>
 oQ prog (.load 223 (.tmp 0)) 223 [v50] C_45 (fun v51=>
 oQ prog (.binOp .sub 3 (.tmp 0) (.tmp 1) 3) 3 [(l_4.getD 5 undef),(.int .i64 2)] C_45 (fun v53=>
 oQ prog (.indexAddr 238 (.tmp 0) (.tmp 1)) 0 [v2,v53] C_45 (fun v54=>
 oQ prog (.load 223 (.tmp 0)) 223 [v54] C_45 (fun v55=>
 ∀ w,C_45 w → (callM prog 230 #[v51,(.int .i64 (-7))] (fun v57 w=>
 callM prog 230 #[v51,(.int .i64 (-18))] (fun v59 w=>
 oM prog (.binOp .xor 223 (.tmp 0) (.tmp 1) 223) 223 [v57,v59] (fun v60 w=>
 oM prog (.binOp .shr 223 (.tmp 0) (.tmp 1) 191) 223 [v51,(.int .u64 3)] (fun v62 w=>
 oM prog (.binOp .xor 223 (.tmp 0) (.tmp 1) 223) 223 [v60,v62] (fun v63 w=>
 callM prog 230 #[v55,(.int .i64 (-17))] (fun v65 w=>
 callM prog 230 #[v55,(.int .i64 (-19))] (fun v67 w=>
 oM prog (.binOp .xor 223 (.tmp 0) (.tmp 1) 223) 223 [v65,v67] (fun v68 w=>
 oM prog (.binOp .shr 223 (.tmp 0) (.tmp 1) 191) 223 [v55,(.int .u64 10)] (fun v70 w=>
 oM prog (.binOp .xor 223 (.tmp 0) (.tmp 1) 223) 223 [v68,v70] (fun v71 w=>
 heldM w (fun C_62 w=>(pureH (l_4.getD 5 undef) C_62 (fun v72=>
 pureH (l_4.getD 5 undef) C_62 (fun v73=>
 oH prog (.binOp .sub 3 (.tmp 0) (.tmp 1) 3) 3 [v73,(.int .i64 16)] C_62 (fun v74=>
 oH prog (.indexAddr 238 (.tmp 0) (.tmp 1)) 0 [v2,v74] C_62 (fun v75=>
 oH prog (.load 223 (.tmp 0)) 223 [v75] C_62 (fun v76=>
 pureH v63 C_62 (fun v77=>
 oH prog (.binOp .add 223 (.tmp 0) (.tmp 1) 223) 223 [v76,v77] C_62 (fun v78=>
 pureH (l_4.getD 5 undef) C_62 (fun v79=>
 oH prog (.binOp .sub 3 (.tmp 0) (.tmp 1) 3) 3 [v79,(.int .i64 7)] C_62 (fun v80=>
 oH prog (.indexAddr 238 (.tmp 0) (.tmp 1)) 0 [v2,v80] C_62 (fun v81=>
 oH prog (.load 223 (.tmp 0)) 223 [v81] C_62 (fun v82=>
 oH prog (.binOp .add 223 (.tmp 0) (.tmp 1) 223) 223 [v78,v82] C_62 (fun v83=>
 pureH v71 C_62 (fun v84=>
 oH prog (.binOp .add 223 (.tmp 0) (.tmp 1) 223) 223 [v83,v84] C_62 (fun v85=>
 oH prog (.indexAddr 238 (.tmp 0) (.tmp 1)) 0 [v2,v72] C_62 (fun v86=>
 oM prog (.store 223 (.tmp 0) (.tmp 1)) 0 [v86,v85] (fun _ w=>C_62 w ∧ (
 M_6 [(l_4.getD 5 undef),v51,v55,v63,v71] w)) w)))))))))))))))))) w) w) w) w) w) w) w) w) w) w))))))))))) w))
 (fun l_7 u_l_7 w=>(oM prog (.binOp .add 3 (.tmp 0) (.tmp 1) 3) 3 [(l_4.getD 5 undef),(.int .i64 1)] (fun v87 w=>
 J_2 [(l_7.getD 0 undef),(l_7.getD 1 undef),(l_7.getD 2 undef),(l_7.getD 3 undef),(l_7.getD 4 undef),v87] w ∧ m_3 [(l_7.getD 0 undef),(l_7.getD 1 undef),(l_7.getD 2 undef),(l_7.getD 3 undef),(l_7.getD 4 undef),v87] w < m_3 l_4 w0_l_4) w)))
 (oM prog (.load 238 (.tmp 0)) 238 [v2] (fun v88 w=>
 oM prog (.store 238 (.tmp 0) (.tmp 1)) 0 [v2,v88] (fun _ w=>
 ∃ r_80,(do loadVar 238 (← asAddr v2):Sem Value).run prog w = .ok r_80 w ∧ K r_80 w) w) w)) w)) w0_l_4)) w
theorem sh_228_ok {a0:Value} {K:Value → World → Prop} {w:World} (h:sh_228 a0 K w):callM prog 228 #[a0] K w:=
 calls_of_code (fun i=>bif Nat.beq i 5 then .tree (.look 0 (.look 1 (.look 2 (.look 3 (.look 4 (.look 5 (.look 6 (.look 7 (.look 8 (.look 9 (.look 10 (.look 11 (.look 12 (.look 13 (.look 14 (.look 15 (.look 16 (.look 17 (.look 18 (.look 19 (.look 20 (.look 21 (.look 22 (.look 23 (.look 24 (.look 25 (.look 26 (.look 27 (.look 28 (.look 29 (.look 30 (.look 31 (.look 32 (.look 33 (.look 34 (.only 35 (.done))))))))))))))))))))))))))))))))))))) else bif Nat.beq i 9 then 2 else 0) (fn:=Tryz.f228) (rs:=[.cell 2 238]) Tryz.func228 rfl rfl (by kernel_rfl) (Nat.le_of_ble_eq_true rfl) (Eq.mp (by kernel_rfl) h)
def sh_229 (K:Value → World → Prop) (w:World):Prop:=
 oM prog (.alloc 238) 0 [] (fun v0 w=>
 oM prog (.build 238 #[(0,(.tmp 0)),(1,(.tmp 1)),(2,(.tmp 2)),(3,(.tmp 3)),(4,(.tmp 4)),(5,(.tmp 5)),(6,(.tmp 6)),(7,(.tmp 7)),(8,(.tmp 8)),(9,(.tmp 9)),(10,(.tmp 10)),(11,(.tmp 11)),(12,(.tmp 12)),(13,(.tmp 13)),(14,(.tmp 14)),(15,(.tmp 15)),(16,(.tmp 16)),(17,(.tmp 17)),(18,(.tmp 18)),(19,(.tmp 19)),(20,(.tmp 20)),(21,(.tmp 21)),(22,(.tmp 22)),(23,(.tmp 23)),(24,(.tmp 24)),(25,(.tmp 25)),(26,(.tmp 26)),(27,(.tmp 27)),(28,(.tmp 28)),(29,(.tmp 29)),(30,(.tmp 30)),(31,(.tmp 31)),(32,(.tmp 32)),(33,(.tmp 33)),(34,(.tmp 34)),(35,(.tmp 35)),(36,(.tmp 36)),(37,(.tmp 37)),(38,(.tmp 38)),(39,(.tmp 39)),(40,(.tmp 40)),(41,(.tmp 41)),(42,(.tmp 42)),(43,(.tmp 43)),(44,(.tmp 44)),(45,(.tmp 45)),(46,(.tmp 46)),(47,(.tmp 47)),(48,(.tmp 48)),(49,(.tmp 49)),(50,(.tmp 50)),(51,(.tmp 51)),(52,(.tmp 52)),(53,(.tmp 53)),(54,(.tmp 54)),(55,(.tmp 55)),(56,(.tmp 56)),(57,(.tmp 57)),(58,(.tmp 58)),(59,(.tmp 59)),(60,(.tmp 60)),(61,(.tmp 61)),(62,(.tmp 62)),(63,(.tmp 63))]) 238 [(.int .u32 1116352408),(.int .u32 1899447441),(.int .u32 3049323471),(.int .u32 3921009573),(.int .u32 961987163),(.int .u32 1508970993),(.int .u32 2453635748),(.int .u32 2870763221),(.int .u32 3624381080),(.int .u32 310598401),(.int .u32 607225278),(.int .u32 1426881987),(.int .u32 1925078388),(.int .u32 2162078206),(.int .u32 2614888103),(.int .u32 3248222580),(.int .u32 3835390401),(.int .u32 4022224774),(.int .u32 264347078),(.int .u32 604807628),(.int .u32 770255983),(.int .u32 1249150122),(.int .u32 1555081692),(.int .u32 1996064986),(.int .u32 2554220882),(.int .u32 2821834349),(.int .u32 2952996808),(.int .u32 3210313671),(.int .u32 3336571891),(.int .u32 3584528711),(.int .u32 113926993),(.int .u32 338241895),(.int .u32 666307205),(.int .u32 773529912),(.int .u32 1294757372),(.int .u32 1396182291),(.int .u32 1695183700),(.int .u32 1986661051),(.int .u32 2177026350),(.int .u32 2456956037),(.int .u32 2730485921),(.int .u32 2820302411),(.int .u32 3259730800),(.int .u32 3345764771),(.int .u32 3516065817),(.int .u32 3600352804),(.int .u32 4094571909),(.int .u32 275423344),(.int .u32 430227734),(.int .u32 506948616),(.int .u32 659060556),(.int .u32 883997877),(.int .u32 958139571),(.int .u32 1322822218),(.int .u32 1537002063),(.int .u32 1747873779),(.int .u32 1955562222),(.int .u32 2024104815),(.int .u32 2227730452),(.int .u32 2361852424),(.int .u32 2428436474),(.int .u32 2756734187),(.int .u32 3204031479),(.int .u32 3329325298)] (fun v1 w=>
 oM prog (.store 238 (.tmp 0) (.tmp 1)) 0 [v0,v1] (fun _ w=>
 ∃ r_3,(do loadVar 238 (← asAddr v0):Sem Value).run prog w = .ok r_3 w ∧ K r_3 w) w) w) w
theorem sh_229_ok {K:Value → World → Prop} {w:World} (h:sh_229 K w):callM prog 229 #[] K w:=
 calls_of_code (fun _=>0) (fn:=Tryz.f229) (rs:=[.cell 0 238]) Tryz.func229 rfl rfl (by kernel_rfl) (Nat.le_of_ble_eq_true rfl) (Eq.mp (by kernel_rfl) h)
def sh_230 (a0 a1:Value) (K:Value → World → Prop) (w:World):Prop:=
 oM prog (.convert 3 191 (.tmp 0)) 191 [a1] (fun v7 w=>
 oM prog (.binOp .and 191 (.tmp 0) (.tmp 1) 191) 191 [v7,(.int .u64 31)] (fun v8 w=>
 oM prog (.binOp .shl 223 (.tmp 0) (.tmp 1) 191) 223 [a0,v8] (fun v11 w=>
 oM prog (.binOp .sub 191 (.tmp 0) (.tmp 1) 191) 191 [(.int .u64 32),v8] (fun v14 w=>
 oM prog (.binOp .shr 223 (.tmp 0) (.tmp 1) 191) 223 [a0,v14] (fun v15 w=>
 oM prog (.binOp .or 223 (.tmp 0) (.tmp 1) 223) 223 [v11,v15] (fun v16 w=>
 K v16 w) w) w) w) w) w) w
theorem sh_230_ok {a0 a1:Value} {K:Value → World → Prop} {w:World} (h:sh_230 a0 a1 K w):callM prog 230 #[a0,a1] K w:=
 calls_of_code (fun _=>0) (fn:=Tryz.f230) (rs:=[.tmp 4]) Tryz.func230 rfl rfl (by kernel_rfl) (Nat.le_of_ble_eq_true rfl) (Eq.mp (by kernel_rfl) h)
def sh_159 (a0 a1:Value) (K:Value → World → Prop) (w:World):Prop:=
 callM prog 123 #[a1] (fun v9 w=>
 oM prog (.unOp .not 4 (.tmp 0)) 4 [v9] (fun v10 w=>
 condM v10
 (K (.int .i64 0) w)
 (callM prog 195 #[a0] (fun v12 w=>
 oM prog (.convert 9 202 (.tmp 0)) 202 [v12] (fun v13 w=>
 oM prog (.call (Go.Call.mk (.builtin .len) #[(.tmp 0)] #[202])) 3 [v13] (fun v14 w=>
 loopM [undef,(.int .i64 0),(.int .i64 0)] w (fun J_6 m_7 l_8 u_l_8 w0_l_8=>(fun w=>(
 oM prog (.binOp .lss 3 (.tmp 0) (.tmp 1) 3) 0 [(l_8.getD 2 undef),v14] (fun v16 w=>
 condM v16
 (oM prog (.indexAddr 202 (.tmp 0) (.tmp 1)) 0 [v13,(l_8.getD 2 undef)] (fun v17 w=>
 oM prog (.load 5 (.tmp 0)) 5 [v17] (fun v18 w=>
 callM prog 43 #[a1,(l_8.getD 1 undef),(.int .i64 256)] (fun v22 w=>
 oM prog (.convert 5 3 (.tmp 0)) 3 [v18] (fun v24 w=>
 callM prog 42 #[a1,v22,v24] (fun v25 w=>
 oM prog (.binOp .add 3 (.tmp 0) (.tmp 1) 3) 3 [(l_8.getD 2 undef),(.int .i64 1)] (fun v26 w=>
 J_6 [v18,v25,v26] w ∧ m_7 [v18,v25,v26] w < m_7 l_8 w0_l_8) w) w) w) w) w) w)
 (K (l_8.getD 1 undef) w)) w)) w0_l_8)) w) w) w)) w) w
theorem sh_159_ok {a0 a1:Value} {K:Value → World → Prop} {w:World} (h:sh_159 a0 a1 K w):callM prog 159 #[a0,a1] K w:=
 calls_of_code (fun _=>0) (fn:=Tryz.f159) (rs:=[.tmp 4]) Tryz.func159 rfl rfl (by kernel_rfl) (Nat.le_of_ble_eq_true rfl) (Eq.mp (by kernel_rfl) h)
end Go.Proofs
namespace Go.Proofs
open Go.Sh Tryz
def sh_23 (a0 a1:Value) (K:Value → World → Prop) (w:World):Prop:=
 oM prog (.box 26 (.tmp 0)) 0 [a0] (fun v2 w=>
 oM prog (.alloc 4) 0 [] (fun v4 w=>
 oM prog (.load 26 (.tmp 0)) 26 [v2] (fun v10 w=>
 callM prog 21 #[v10] (fun v11 w=>
 oM prog (.unOp .not 4 (.tmp 0)) 4 [v11] (fun v12 w=>
 gdM (gd v12 false) (pureM a1) (fun v14 w=>
 gdM (gd v12 false) (oM prog (.call (Go.Call.mk (.builtin .len) #[(.tmp 0)] #[27])) 3 [v14]) (fun v15 w=>
 gdM (gd v12 false) (oM prog (.binOp .lss 3 (.tmp 0) (.tmp 1) 3) 4 [v15,(.int .i64 1)]) (fun v16 w=>
 oM prog (.pick (.tmp 0) (.tmp 1) (.tmp 2)) 4 [v12,(.bool true),v16] (fun v17 w=>
 gdM (gd v17 false) (pureM a1) (fun v19 w=>
 gdM (gd v17 false) (oM prog (.call (Go.Call.mk (.builtin .len) #[(.tmp 0)] #[27])) 3 [v19]) (fun v20 w=>
 gdM (gd v17 false) (oM prog (.binOp .gtr 3 (.tmp 0) (.tmp 1) 3) 4 [v20,(.int .i64 300)]) (fun v21 w=>
 oM prog (.pick (.tmp 0) (.tmp 1) (.tmp 2)) 4 [v17,(.bool true),v21] (fun v22 w=>
 condM v22
 (oM prog (.store 4 (.tmp 0) (.tmp 1)) 0 [v4,(.bool false)] (fun _ w=>
 ∃ r_14,(do loadVar 4 (← asAddr v4):Sem Value).run prog w = .ok r_14 w ∧ K r_14 w) w)
 (oM prog (.call (Go.Call.mk (.builtin .len) #[(.tmp 0)] #[27])) 3 [a1] (fun v24 w=>
 loopM [undef,(.int .i64 0)] w (fun J_16 m_17 l_18 u_l_18 w0_l_18=>(fun w=>(
 oM prog (.binOp .lss 3 (.tmp 0) (.tmp 1) 3) 0 [(l_18.getD 1 undef),v24] (fun v26 w=>
 condM v26
 (oM prog (.indexAddr 27 (.tmp 0) (.tmp 1)) 0 [a1,(l_18.getD 1 undef)] (fun v27 w=>
 oM prog (.load 65 (.tmp 0)) 65 [v27] (fun v28 w=>
 oM prog (.alloc 65) 0 [] (fun v6 w=>
 oM prog (.store 65 (.tmp 0) (.tmp 1)) 0 [v6,v28] (fun _ w=>
 oM prog (.fieldAddr 65 (.tmp 0) 1) 0 [v6] (fun v29 w=>
 oM prog (.load 63 (.tmp 0)) 63 [v29] (fun v30 w=>
 oM prog (.call (Go.Call.mk (.builtin .len) #[(.tmp 0)] #[63])) 3 [v30] (fun v31 w=>
 oM prog (.binOp .lss 3 (.tmp 0) (.tmp 1) 3) 4 [v31,(.int .i64 1)] (fun v33 w=>
 gdM (gd v33 false) (pureM v31) (fun v35 w=>
 gdM (gd v33 false) (oM prog (.binOp .gtr 3 (.tmp 0) (.tmp 1) 3) 4 [v35,(.int .i64 16)]) (fun v36 w=>
 oM prog (.pick (.tmp 0) (.tmp 1) (.tmp 2)) 4 [v33,(.bool true),v36] (fun v37 w=>
 gdM (gd v37 false) (pureM v31) (fun v39 w=>
 gdM (gd v37 false) (oM prog (.fieldAddr 26 (.tmp 0) 0) 0 [v2]) (fun v40 w=>
 gdM (gd v37 false) (oM prog (.fieldAddr 23 (.tmp 0) 1) 0 [v40]) (fun v41 w=>
 gdM (gd v37 false) (oM prog (.load 3 (.tmp 0)) 3 [v41]) (fun v42 w=>
 gdM (gd v37 false) (oM prog (.binOp .geq 3 (.tmp 0) (.tmp 1) 3) 4 [v39,v42]) (fun v43 w=>
 oM prog (.pick (.tmp 0) (.tmp 1) (.tmp 2)) 4 [v37,(.bool true),v43] (fun v44 w=>
 gdM (gd v44 false) (oM prog (.fieldAddr 65 (.tmp 0) 0) 0 [v6]) (fun v46 w=>
 gdM (gd v44 false) (oM prog (.load 3 (.tmp 0)) 3 [v46]) (fun v47 w=>
 gdM (gd v44 false) (oM prog (.binOp .lss 3 (.tmp 0) (.tmp 1) 3) 4 [v47,(.int .i64 1)]) (fun v48 w=>
 oM prog (.pick (.tmp 0) (.tmp 1) (.tmp 2)) 4 [v44,(.bool true),v48] (fun v49 w=>
 gdM (gd v49 false) (oM prog (.fieldAddr 65 (.tmp 0) 0) 0 [v6]) (fun v51 w=>
 gdM (gd v49 false) (oM prog (.load 3 (.tmp 0)) 3 [v51]) (fun v52 w=>
 gdM (gd v49 false) (pureM v31) (fun v53 w=>
 gdM (gd v49 false) (oM prog (.binOp .gtr 3 (.tmp 0) (.tmp 1) 3) 4 [v52,v53]) (fun v54 w=>
 oM prog (.pick (.tmp 0) (.tmp 1) (.tmp 2)) 4 [v49,(.bool true),v54] (fun v55 w=>
 condM v55
 (oM prog (.store 4 (.tmp 0) (.tmp 1)) 0 [v4,(.bool false)] (fun _ w=>
 ∃ r_45,(do loadVar 4 (← asAddr v4):Sem Value).run prog w = .ok r_45 w ∧ K r_45 w) w)
 (oM prog (.binOp .add 3 (.tmp 0) (.tmp 1) 3) 3 [(l_18.getD 1 undef),(.int .i64 1)] (fun v56 w=>
 J_16 [v31,v56] w ∧ m_17 [v31,v56] w < m_17 l_18 w0_l_18) w)) w) w) w) w) w) w) w) w) w) w) w) w) w) w) w) w) w) w) w) w) w) w) w) w) w) w)
 (callM prog 93 #[a1] (fun v58 w=>
 rangeM prog v58 2 w
 (fun vs_48 k_50 w=>(oM prog (.alloc 69) 0 [] (fun v9 w=>
 oM prog (.store 69 (.tmp 0) (.tmp 1)) 0 [v9,(vs_48.getD 1 undef)] (fun _ w=>
 k_50 [v9] w) w) w))
 (fun vs_48 l_49 u_l_49 kn_51 kr_52 w=>(oM prog (.load 26 (.tmp 0)) 26 [v2] (fun v61 w=>
 oM prog (.load 69 (.tmp 0)) 69 [(l_49.getD 0 undef)] (fun v62 w=>
 callM prog 112 #[v61,v62] (fun v63 w=>
 oM prog (.unOp .not 4 (.tmp 0)) 4 [v63] (fun v64 w=>
 condM v64
 (oM prog (.store 4 (.tmp 0) (.tmp 1)) 0 [v4,(.bool false)] (fun _ w=>
 kr_52 w) w)
 (kn_51 w)) w) w) w) w))
 (fun D_53 w=>(oM prog (.store 4 (.tmp 0) (.tmp 1)) 0 [v4,(.bool true)] (fun _ w=>
 w.heap[D_53]? = some (.deferred (some [])) ∧ ∃ r_59,(do loadVar 4 (← asAddr v4):Sem Value).run prog (w.putObj D_53 (.deferred none)) = .ok r_59 (w.putObj D_53 (.deferred none)) ∧ K r_59 (w.putObj D_53 (.deferred none))) w))
 (fun D_53 w=>(w.heap[D_53]? = some (.deferred (some [])) ∧ ∃ r_60,(do loadVar 4 (← asAddr v4):Sem Value).run prog (w.putObj D_53 (.deferred none)) = .ok r_60 (w.putObj D_53 (.deferred none)) ∧ K r_60 (w.putObj D_53 (.deferred none))))) w)) w)) w0_l_18)) w)) w) w) w) w) w) w) w) w) w) w) w) w) w
theorem sh_23_ok {a0 a1:Value} {K:Value → World → Prop} {w:World} (h:sh_23 a0 a1 K w):callM prog 23 #[a0,a1] K w:=
 callsF_of_code (fun _=>0) (fn:=Tryz.f23) (rs:=[.cell 4 4]) Tryz.func23 rfl rfl (by kernel_rfl) (Nat.le_of_ble_eq_true rfl) (Eq.mp (by kernel_rfl) h)
def sh_93 (a0:Value) (K:Value → World → Prop) (w:World):Prop:=
 oM prog (.box 27 (.tmp 0)) 0 [a0] (fun v1 w=>
 oM prog (.makeFunc (Go.Fn.func 158) #[] #[(.tmp 0)]) 123 [v1] (fun v3 w=>
 K v3 w) w) w
theorem sh_93_ok {a0:Value} {K:Value → World → Prop} {w:World} (h:sh_93 a0 K w):callM prog 93 #[a0] K w:=
 calls_of_code (fun _=>0) (fn:=Tryz.f93) (rs:=[.tmp 2]) Tryz.func93 rfl rfl (by kernel_rfl) (Nat.le_of_ble_eq_true rfl) (Eq.mp (by kernel_rfl) h)
def sh_158 (a0 a1:Value) (K:Value → World → Prop) (w:World):Prop:=
 oM prog (.load 27 (.tmp 0)) 27 [a1] (fun v7 w=>
 oM prog (.call (Go.Call.mk (.builtin .len) #[(.tmp 0)] #[27])) 3 [v7] (fun v8 w=>
 loopM [undef,undef,(.int .i64 0)] w (fun J_3 m_4 l_5 u_l_5 w0_l_5=>(fun w=>(
 oM prog (.binOp .lss 3 (.tmp 0) (.tmp 1) 3) 0 [(l_5.getD 2 undef),v8] (fun v10 w=>
 condM v10
 (oM prog (.indexAddr 27 (.tmp 0) (.tmp 1)) 0 [v7,(l_5.getD 2 undef)] (fun v12 w=>
 oM prog (.load 65 (.tmp 0)) 65 [v12] (fun v13 w=>
 oM prog (.alloc 65) 0 [] (fun v4 w=>
 oM prog (.store 65 (.tmp 0) (.tmp 1)) 0 [v4,v13] (fun _ w=>
 oM prog (.fieldAddr 65 (.tmp 0) 1) 0 [v4] (fun v14 w=>
 oM prog (.load 63 (.tmp 0)) 63 [v14] (fun v15 w=>
 oM prog (.call (Go.Call.mk (.builtin .len) #[(.tmp 0)] #[63])) 3 [v15] (fun v16 w=>
 loopM [(l_5.getD 1 undef),(.int .i64 0)] w (fun J_13 m_14 l_15 u_l_15 w0_l_15=>(fun w=>(
 oM prog (.binOp .lss 3 (.tmp 0) (.tmp 1) 3) 0 [(l_15.getD 1 undef),v16] (fun v18 w=>
 condM v18
 (oM prog (.indexAddr 63 (.tmp 0) (.tmp 1)) 0 [v15,(l_15.getD 1 undef)] (fun v20 w=>
 oM prog (.load 69 (.tmp 0)) 69 [v20] (fun v21 w=>
 oM prog (.alloc 69) 0 [] (fun v6 w=>
 oM prog (.store 69 (.tmp 0) (.tmp 1)) 0 [v6,v21] (fun _ w=>
 oM prog (.build 127 #[(0,(.tmp 0)),(1,(.tmp 1))]) 127 [(l_5.getD 2 undef),(l_15.getD 1 undef)] (fun v25 w=>
 oM prog (.load 69 (.tmp 0)) 69 [v6] (fun v26 w=>
 yieldM prog a0 [v25,v26] (fun v27 w=>
 oM prog (.unOp .not 4 (.tmp 0)) 4 [v27] (fun v28 w=>
 condM v28
 (K (.tuple #[]) w)
 (oM prog (.binOp .add 3 (.tmp 0) (.tmp 1) 3) 3 [(l_15.getD 1 undef),(.int .i64 1)] (fun v29 w=>
 J_13 [(l_15.getD 1 undef),v29] w ∧ m_14 [(l_15.getD 1 undef),v29] w < m_14 l_15 w0_l_15) w)) w) w) w) w) w) w) w) w)
 (oM prog (.binOp .add 3 (.tmp 0) (.tmp 1) 3) 3 [(l_5.getD 2 undef),(.int .i64 1)] (fun v30 w=>
 J_3 [(l_5.getD 2 undef),(l_15.getD 0 undef),v30] w ∧ m_4 [(l_5.getD 2 undef),(l_15.getD 0 undef),v30] w < m_4 l_5 w0_l_5) w)) w)) w0_l_15)) w) w) w) w) w) w) w)
 (K (.tuple #[]) w)) w)) w0_l_5)) w) w
theorem sh_158_eq (a0 a1:Value) (K:Value → World → Prop) (w:World):sh_158 a0 a1 K w = codeY prog 31 (Tryz.f158.body.getD .skip) (slotsAt [a0,a1]) (retK prog [] K) w:=by kernel_rfl
theorem sh_158_ok {m:Nat} {a0 a1:Value} {K:Value → World → Prop} {w:World} (h:sh_158 a0 a1 K w):CallsIn Fence.wide (9 + m) prog 158 #[a0,a1] w (fun e w=>∃ v,e = .returned v ∧ K v w):=
 callsY_of_code (fn:=Tryz.f158) (rs:=[]) Tryz.func158 rfl rfl (by kernel_rfl) (Nat.le_of_ble_eq_true rfl) ((sh_158_eq a0 a1 K w).mp h)
end Go.Proofs
namespace Go.Sh
open Go Go.RowKit
section
variable {P:Program} {K:Value → World → Prop} {w:World}
@[go_sem] theorem oM_lookup (t T:TypeId) (x i:Value):oM P (.lookup t (.tmp 0) (.tmp 1) false) T [x,i] K w = rM ((Instr.lookup t x i false).run P w) K:=rM_of rfl
@[go_sem] theorem oM_mapUpdate (t T:TypeId) (m k x:Value):oM P (.mapUpdate t (.tmp 0) (.tmp 1) (.tmp 2)) T [m,k,x] K w = uM ((Instr.mapUpdate t m k x).run P w) K:=by
 rw [oM_unit (S:=Instr.mapUpdate t m k x) rfl]
@[go_sem] theorem oM_mapEntry (t T:TypeId) (m k:Value):oM P (.mapEntry t (.tmp 0) (.tmp 1)) T [m,k] K w = rM ((Instr.mapEntry t m k).run P w) K:=rM_of rfl
@[go_sem] theorem oM_entryStore (t T:TypeId) (m s x:Value):oM P (.entryStore t (.tmp 0) (.tmp 1) (.tmp 2)) T [m,s,x] K w = uM ((Instr.entryStore t m s x).run P w) K:=by
 rw [oM_unit (S:=Instr.entryStore t m s x) rfl]
@[go_sem] theorem oM_makeMap (t T:TypeId):oM P (.makeMap t none) T [] K w = K (.map (some w.heap.size)) (w.alloc (.map #[] 0)):=by
 rw [rM_of (S:=Instr.makeMap t none) rfl,run_makeMap]
 rfl
@[go_sem] theorem oM_range (t T:TypeId) (x:Value):oM P (.range t (.tmp 0)) T [x] K w = rM ((Instr.range t x).run P w) K:=rM_of rfl
@[go_sem] theorem oM_next (T:TypeId) (s:Bool) (x:Value):oM P (.next (.tmp 0) s) T [x] K w = rM ((Instr.next x s T).run P w) K:=rM_of rfl
@[go_sem] theorem oM_entry (T:TypeId) (x:Value):oM P (.entry (.tmp 0)) T [x] K w = rM ((Instr.entry x).run P w) K:=rM_of rfl
@[go_sem] theorem oM_delete (T:TypeId) (ts:Array TypeId) (x y:Value):oM P (.call { callee:=.builtin .delete,args:=#[.tmp 0,.tmp 1],argTypes:=ts }) T [x,y] K w = rM ((Builtin.delete_ ts T #[x,y]).run P w) K:=
 rM_of (by simp [xop,execOp,evalL,evE,resolve,invoke,builtin])
@[go_sem] theorem oM_clear (T:TypeId) (ts:Array TypeId) (x:Value):oM P (.call { callee:=.builtin .clear,args:=#[.tmp 0],argTypes:=ts }) T [x] K w = rM ((Builtin.clear_ ts T #[x]).run P w) K:=
 rM_of (by simp [xop,execOp,evalL,evE,resolve,invoke,builtin])
@[go_sem] theorem oM_copy (T:TypeId) (ts:Array TypeId) (x y:Value):oM P (.call { callee:=.builtin .copy,args:=#[.tmp 0,.tmp 1],argTypes:=ts }) T [x,y] K w = rM ((Builtin.copy_ ts T #[x,y]).run P w) K:=
 rM_of (by simp [xop,execOp,evalL,evE,resolve,invoke,builtin])
theorem oM_append (T:TypeId) (ts:Array TypeId) (x y:Value):oM P (.call { callee:=.builtin .append,args:=#[.tmp 0,.tmp 1],argTypes:=ts }) T [x,y] K w = rM ((Builtin.append_ ts T #[x,y]).run P w) K:=
 rM_of (by simp [xop,execOp,evalL,evE,resolve,invoke,builtin])
@[go_sem] theorem oM_makeSlice (t T:TypeId) (x y:Value):oM P (.makeSlice t (.tmp 0) (.tmp 1)) T [x,y] K w = rM ((Instr.makeSlice t x y).run P w) K:=rM_of rfl
@[go_sem] theorem oM_typeAssert (t u T:TypeId) (x:Value):oM P (.typeAssert (.tmp 0) t u false) T [x] K w = rM ((Instr.typeAssert x t u false).run P w) K:=rM_of rfl
@[go_sem] theorem oM_makeInterface (t T:TypeId) (x:Value):oM P (.makeInterface t (.tmp 0)) T [x] K w = rM ((Instr.makeInterface t x).run P w) K:=rM_of rfl
@[go_sem] theorem oM_buildSlice0 (T t:Nat) (n:Nat):oM P (.buildSlice t n #[]) T [] K w = rM ((Instr.buildSlice t n #[]).run P w) K:=rM_of (by simp [xop,execOp,evalL,evE])
theorem oM_sliceFrom (t T:TypeId) (x i:Value):oM P (.slice t (.tmp 0) (some (.tmp 1)) none none) T [x,i] K w = rM ((Instr.sliceAt t x (some i) none none).run P w) K:=rM_of rfl
theorem oM_sliceTo (t T:TypeId) (x i:Value):oM P (.slice t (.tmp 0) none (some (.tmp 1)) none) T [x,i] K w = rM ((Instr.sliceAt t x none (some i) none).run P w) K:=rM_of rfl
theorem low_bits (n:Nat) (hn:n < 60) (x:Int):IntKind.i64.wrap ((BitVec.ofInt 64 x &&& BitVec.ofInt 64 (2 ^ n - 1)).toNat:Int) = x % 2 ^ n:=by
 have hp:(0:Int) < 2 ^ n:=Int.pow_pos (by omega)
 have hp':(2:Nat) ^ n ≤ 2 ^ 59:=Nat.pow_le_pow_right (by omega) (by omega)
 have hpc:((2:Int) ^ n) = ((2 ^ n:Nat):Int):=by simp
 have hb:(BitVec.ofInt 64 (2 ^ n - 1)).toNat = 2 ^ n - 1:=by
  rw [BitVec.toNat_ofInt,hpc]
  omega
 have ha:(BitVec.ofInt 64 x).toNat = (x % 2 ^ 64).toNat:=by rw [BitVec.toNat_ofInt]; rfl
 rw [BitVec.toNat_and,hb,ha,Nat.and_two_pow_sub_one_eq_mod]
 have hdv:((2:Int) ^ n) ∣ 2 ^ 64:=⟨2 ^ (64 - n),by rw [← Int.pow_add]; congr 1; omega⟩
 have h1:(((x % 2 ^ 64).toNat % 2 ^ n:Nat):Int) = x % 2 ^ n:=by
  rw [Int.natCast_emod,Int.toNat_of_nonneg (Int.emod_nonneg _ (by omega)),← hpc,Int.emod_emod_of_dvd _ hdv]
 rw [h1]
 have h2:=Int.emod_nonneg x (b:=2 ^ n) (by omega)
 have h3:=Int.emod_lt_of_pos x hp
 exact wrapI64 _ (by omega) (by omega)
theorem oM_low (n:Nat) (hn:n < 60) (t t' T:TypeId) (x m:Int) (hm:m = 2 ^ n - 1):oM P (.binOp .and t (.tmp 0) (.tmp 1) t') T [.int .i64 x,.int .i64 m] K w = K (.int .i64 (x % 2 ^ n)) w:=by
 subst hm
 rw [← low_bits n hn x]
 exact oM_of_run rfl
@[go_sem] theorem oM_and1 (t t' T:TypeId) (x:Int):oM P (.binOp .and t (.tmp 0) (.tmp 1) t') T [.int .i64 x,.int .i64 1] K w = K (.int .i64 (x % 2)) w:=oM_low 1 (by omega) t t' T x 1 rfl
@[go_sem] theorem oM_and3 (t t' T:TypeId) (x:Int):oM P (.binOp .and t (.tmp 0) (.tmp 1) t') T [.int .i64 x,.int .i64 3] K w = K (.int .i64 (x % 4)) w:=oM_low 2 (by omega) t t' T x 3 rfl
@[go_sem] theorem oM_and7 (t t' T:TypeId) (x:Int):oM P (.binOp .and t (.tmp 0) (.tmp 1) t') T [.int .i64 x,.int .i64 7] K w = K (.int .i64 (x % 8)) w:=oM_low 3 (by omega) t t' T x 7 rfl
end
end Go.Sh
namespace Go.Sh
open Go Go.RowKit
section
variable {w:World} {B:Nat} {e:TypeId} {sz:Nat} {v:Value} {n:Nat} {xs:List Value}
theorem owns_cells (h:w.ownsRow B e sz v n xs) (hn:0 < n):∃ g cap cur,v = .slice (some ⟨g,0,none⟩) n cap ∧ g < w.heap.size ∧ B ≤ g ∧ w.heap[g]? = some (.cells cur e (0,0)) ∧ cur.size = cap * sz ∧ n ≤ cap ∧ ∀ (k:Nat) (x:Value),xs[k]? = some x → w.cell? ⟨g,k,none⟩ = some x:=by
 rcases h.2 with ⟨_,h0⟩ | ⟨g,cap,cur,hv,hb,hg,hc,hm,hs,ht⟩
 ·omega
 ·refine ⟨g,cap,cur,hv,(Array.getElem?_eq_some_iff.1 hg).1,hb,hg,hs,hc,fun k x hk=>?_⟩
  have hlt:k < n * sz:=by have:=(List.getElem?_eq_some_iff.1 hk).1; rw [h.1] at this; exact this
  rw [← ht,List.getElem?_take_of_lt hlt] at hk
  unfold World.cell?
  rw [hg]
  simpa using hk
theorem owns_own (h:w.ownsRow B e sz v n xs) {i:Nat} (hi:v.ownBlock = some i):i < w.heap.size ∧ B ≤ i ∧ ∃ cur,w.heap[i]? = some (.cells cur e (0,0)):=by
 rcases h.2 with ⟨rfl,h0⟩ | ⟨g,cap,cur,rfl,hb,hg,hc,hm,hs,ht⟩
 ·cases hi
 ·cases hi
  exact ⟨(Array.getElem?_eq_some_iff.1 hg).1,hb,cur,hg⟩
theorem owns_keep {w':World} (h:w.ownsRow B e sz v n xs) (hk:∀ i,v.ownBlock = some i → w'.heap[i]? = w.heap[i]?):w'.ownsRow B e sz v n xs:=by
 refine ⟨h.1,?_⟩
 rcases h.2 with h0 | ⟨g,cap,cur,rfl,hb,hg,hr⟩
 ·exact .inl h0
 ·exact .inr ⟨g,cap,cur,rfl,hb,by rw [hk g rfl]; exact hg,hr⟩
theorem owns_len (h:w.ownsRow B e sz v n xs):∃ a c,v = .slice a n c:=by
 rcases h.2 with ⟨rfl,rfl⟩ | ⟨g,cap,cur,rfl,_⟩
 ·exact ⟨none,0,rfl⟩
 ·exact ⟨_,cap,rfl⟩
end
def flat {α:Type} (mk:α → List Value) (l:List α):List Value:=l.flatMap mk
section
variable {α:Type} {mk:α → List Value} {sz:Nat}
theorem flat_cons (x:α) (l:List α):flat mk (x :: l) = mk x ++ flat mk l:=rfl
theorem flat_append (l m:List α):flat mk (l ++ m) = flat mk l ++ flat mk m:=by simp [flat]
theorem flat_snoc (l:List α) (x:α):flat mk (l ++ [x]) = flat mk l ++ mk x:=by simp [flat]
theorem flat_length (hm:∀ x,(mk x).length = sz) (l:List α):(flat mk l).length = l.length * sz:=by
 induction l with
 | nil=>simp [flat]
 | cons x l ih=>rw [flat_cons,List.length_append,hm,ih,List.length_cons,Nat.succ_mul,Nat.add_comm]
theorem flat_at (hm:∀ x,(mk x).length = sz) (l:List α) (i j:Nat) {x:α} (hi:l[i]? = some x) (hj:j < sz):(flat mk l)[i * sz + j]? = (mk x)[j]?:=by
 induction l generalizing i with
 | nil=>simp at hi
 | cons y l ih=>
  rw [flat_cons]
  cases i with
  | zero=>
   simp only [List.getElem?_cons_zero,Option.some.injEq] at hi
   subst hi
   rw [Nat.zero_mul,Nat.zero_add,List.getElem?_append_left (by rw [hm]; exact hj)]
  | succ i=>
   simp only [List.getElem?_cons_succ] at hi
   rw [Nat.succ_mul,List.getElem?_append_right (by rw [hm]; omega),hm,← ih i hi]
   congr 1
   omega
end
structure Fr (S:Nat → Prop) (w w':World):Prop where
 os:w'.os = w.os
 tape:w'.tape = w.tape
 output:w'.output = w.output
 size:w.heap.size ≤ w'.heap.size
 block:∀ i,i < w.heap.size → ¬ S i → w'.heap[i]? = w.heap[i]?
section
variable {S S':Nat → Prop} {w w1 w2:World}
theorem Fr.refl (S:Nat → Prop) (w:World):Fr S w w:=⟨rfl,rfl,rfl,Nat.le_refl _,fun _ _ _=>rfl⟩
theorem Fr.trans (h:Fr S w w1) (k:Fr S' w1 w2) (hs:∀ i,S' i → S i ∨ w.heap.size ≤ i):Fr S w w2:=
 ⟨k.os.trans h.os,k.tape.trans h.tape,k.output.trans h.output,Nat.le_trans h.size k.size,fun i hi hn=>(k.block i (Nat.lt_of_lt_of_le hi h.size) (fun hx=>(hs i hx).elim hn (by omega))).trans (h.block i hi hn)⟩
theorem Fr.by (h:Fr S w w1) {b:Option Nat} (k:w1.grownBy w2 b) (hs:∀ i,b = some i → S i ∨ w.heap.size ≤ i):Fr S w w2:=
 ⟨k.os.trans h.os,k.tape.trans h.tape,k.output.trans h.output,Nat.le_trans h.size k.size,fun i hi hn=>(k.block i (Nat.lt_of_lt_of_le hi h.size) (fun hx=>(hs i hx.symm).elim hn (by omega))).trans (h.block i hi hn)⟩
theorem Fr.none_by (h:Fr S w w1) (k:w1.grownBy w2 none):Fr S w w2:=h.by k (fun _ h=>by cases h)
theorem Fr.alloc (h:Fr S w w1) (o:Obj):Fr S w (w1.alloc o):=h.none_by (World.grownBy_alloc w1 o none)
theorem Fr.drew (h:Fr S w w1):Fr S w { w1 with drawn:=w1.drawn + 1 }:=⟨h.os,h.tape,h.output,h.size,h.block⟩
theorem Fr.mono (h:Fr S w w1) (hs:∀ i,i < w.heap.size → S i → S' i):Fr S' w w1:=⟨h.os,h.tape,h.output,h.size,fun i hi hn=>h.block i hi (fun hx=>hn (hs i hi hx))⟩
theorem setCell_heap_ne (w:World) (a:Addr) (u:Value) (i:Nat) (h:i ≠ a.block):(w.setCell a u).heap[i]? = w.heap[i]?:=by
 simp only [World.setCell,Array.getElem?_modify]
 rw [if_neg (Ne.symm h)]
theorem grown_setCell (w:World) (a:Addr) (u:Value):w.grownBy (w.setCell a u) (some a.block):=
 ⟨rfl,rfl,rfl,by simp [World.setCell],fun i _ hi=>setCell_heap_ne w a u i (fun e=>hi (by rw [e]))⟩
theorem Fr.set (h:Fr S w w1) (a:Addr) (u:Value) (hs:S a.block ∨ w.heap.size ≤ a.block):Fr S w (w1.setCell a u):=h.by (grown_setCell w1 a u) (fun i e=>by cases e; exact hs)
end
theorem cell_of_block {w:World} {b:Nat} {cs:Array Value} {T:TypeId} {f:Nat × Nat} (h:w.heap[b]? = some (.cells cs T f)) (i:Nat):w.cell? ⟨b,i,none⟩ = cs[i]?:=by
 simp [World.cell?,h]
theorem block_set {w:World} {b i:Nat} {cs:Array Value} {T:TypeId} {f:Nat × Nat} (h:w.heap[b]? = some (.cells cs T f)) (u:Value):(w.setCell ⟨b,i,none⟩ u).heap[b]? = some (.cells (cs.setIfInBounds i u) T f):=by
 simp [World.setCell,Array.getElem?_modify,h]
end Go.Sh
namespace Go.Sh
open Go Go.RowKit
section
variable {P:Program} {w:World} {K:Value → World → Prop}
theorem owns_base {B C:Nat} {e:TypeId} {sz:Nat} {v:Value} {n:Nat} {xs:List Value} (h:w.ownsRow B e sz v n xs) (hc:C ≤ B):w.ownsRow C e sz v n xs:=
 ⟨h.1,h.2.imp id (fun ⟨g,cap,cur,a,b,r⟩=>⟨g,cap,cur,a,Nat.le_trans hc b,r⟩)⟩
theorem run_append_more (t ty e:TypeId) (i:TypeInfo) (z:Value) (size bytes:Nat) (ht:P.underlying t = some (.slice e)) (hi:P.info? e = some i) (hz:i.zero = some z)
  (hsize:i.size = size) (hby:i.bytes = bytes) (hzs:z.cells.size = size) (hsz:0 < size)
  (v:Value) (n:Nat) (xs:List Value) (hown:w.ownsRow 0 e size v n xs)
  (a:Addr) (m c:Nat) (news:List Value) (hl:news.length = m * size) (hnews:∀ j u,news[j]? = some u → w.cell? (a.add j) = some u) (h1:∀ u ∈ news,u.oneCell' = true)
  (h63:n + m ≤ maxLen) (hbytes:(n + m) * bytes ≤ 140737488355328) :
  ∃ v' w',(Builtin.append_ #[t,t] ty #[v,.slice (some a) m c]).run P w = .ok v' w' ∧ w'.ownsRow 0 e size v' (n + m) (xs ++ news) ∧ w.grownBy w' v.ownBlock ∧
   (∀ i,v'.ownBlock = some i → v.ownBlock = some i ∨ w.heap.size ≤ i):=by
 rcases hown.2 with ⟨hv,hn⟩ | ⟨g,cap,cur,hv,hb,hg,hnc,hm,hcs,htk⟩
 ·have h':w.ownsRow w.heap.size e size v n xs:=⟨hown.1,.inl ⟨hv,hn⟩⟩
  obtain ⟨v',w',hr,ho,hgr,_⟩:=run_append_own (P:=P) (w:=w) w.heap.size t ty e i z size bytes ht hi hz hsize hby hzs hsz v n xs h' a m c news hl hnews h1 h63 hbytes (Nat.le_refl _)
  exact ⟨v',w',hr,owns_base ho (Nat.zero_le _),hgr,fun j hj=>.inr (owns_own ho hj).2.1⟩
 ·by_cases hroom:n + m ≤ cap
  ·subst hv
   obtain ⟨w',hr,ho,hgr⟩:=run_append_fits (P:=P) (w:=w) 0 t ty e i size ht hi hsize g n cap xs hown a m c news hl hnews h1 hroom
   exact ⟨_,w',hr,ho,hgr,fun j hj=>.inl hj⟩
  ·obtain ⟨v',w',hr,ho,hgr,_⟩:=run_append_own (P:=P) (w:=w) 0 t ty e i z size bytes ht hi hz hsize hby hzs hsz v n xs hown a m c news hl hnews h1 h63 hbytes (Nat.zero_le _)
   subst hsize
   subst hv
   have holds:∀ j u,xs[j]? = some u → w.cell? ((⟨g,0,none⟩:Addr).add j) = some u:=hown.cells (g:=g) rfl
   have hr2:=run_append_grow (P:=P) (w:=w) t ty e i z ht hi hz ⟨g,0,none⟩ n cap xs hown.1 holds a m c news hl hnews (by omega) (by simp only [maxLen] at h63; omega) (growslice_fits (by omega) (by rw [hby]; exact hbytes))
   rw [hr] at hr2
   cases hr2
   exact ⟨_,_,hr,ho,hgr,fun j hj=>by cases hj; exact .inr (Nat.le_refl _)⟩
theorem append_at (t T e:TypeId) (i:TypeInfo) (z:Value) (size bytes:Nat) (ht:P.underlying t = some (.slice e)) (hi:P.info? e = some i) (hz:i.zero = some z)
  (hsize:i.size = size) (hby:i.bytes = bytes) (hzs:z.cells.size = size) (hsz:0 < size)
  {v:Value} {n:Nat} {xs:List Value} (hown:w.ownsRow 0 e size v n xs)
  {ad:Option Addr} {m c:Nat} (news:List Value) (hl:news.length = m * size) (had:ad = none → m = 0 ∧ c = 0) (hnews:∀ a,ad = some a → ∀ j u,news[j]? = some u → w.cell? (a.add j) = some u) (h1:∀ u ∈ news,u.oneCell' = true)
  (h63:n + m ≤ maxLen) (hbytes:(n + m) * bytes ≤ 140737488355328)
  (k:∀ v' w',w'.ownsRow 0 e size v' (n + m) (xs ++ news) → w.grownBy w' v.ownBlock → (∀ i,v'.ownBlock = some i → v.ownBlock = some i ∨ w.heap.size ≤ i) → K v' w') :
  oM P (.call { callee:=.builtin .append,args:=#[.tmp 0,.tmp 1],argTypes:=#[t,t] }) T [v,.slice ad m c] K w:=by
 rw [oM_append]
 cases ad with
 | some a=>
  obtain ⟨v',w',hr,h2,h3,h4⟩:=run_append_more (P:=P) (w:=w) t T e i z size bytes ht hi hz hsize hby hzs hsz v n xs hown a m c news hl (hnews a rfl) h1 h63 hbytes
  rw [hr]
  exact k v' w' h2 h3 h4
 | none=>
  obtain ⟨rfl,rfl⟩:=had rfl
  have hn:news = []:=List.eq_nil_of_length_eq_zero (by simpa using hl)
  subst hn
  rw [run_append_owned_none (P:=P) (w:=w) 0 t T e i size ht hi v n xs hown]
  refine k v w ?_ ⟨rfl,rfl,rfl,Nat.le_refl _,fun _ _ _=>rfl⟩ (fun i h=>.inl h)
  simpa using hown
end
def RowR {α:Type} (mk:α → List Value) (sz:Nat) (w:World) (v:Value) (l:List α):Prop:=
 ∃ ad c,v = .slice ad l.length c ∧ (ad = none → l.length = 0 ∧ c = 0) ∧ (l = [] ∨ ∃ b o,ad = some ⟨b,o,none⟩ ∧ b < w.heap.size ∧ ∀ (k:Nat) (x:Value),(flat mk l)[k]? = some x → w.cell? ⟨b,o + k,none⟩ = some x)
section
variable {α:Type} {mk:α → List Value} {sz:Nat} {w w':World} {v:Value} {l:List α}
theorem RowR.of_owns {B:Nat} {e:TypeId} (h:w.ownsRow B e sz v l.length (flat mk l)):RowR mk sz w v l:=by
 rcases h.2 with ⟨rfl,h0⟩ | ⟨g,cap,cur,rfl,hb,hg,hn,hm,hcs,ht⟩
 ·exact ⟨none,0,by rw [h0],fun _=>⟨h0,rfl⟩,.inl (List.eq_nil_of_length_eq_zero h0)⟩
 ·refine ⟨_,cap,rfl,by simp,?_⟩
  by_cases h0:l = []
  ·exact .inl h0
  ·obtain ⟨g',cap',cur',hv,hlt,_,_,_,_,hc⟩:=owns_cells h (List.length_pos_iff.2 h0)
   cases hv
   exact .inr ⟨g,0,rfl,hlt,fun k x hk=>by rw [Nat.zero_add]; exact hc k x hk⟩
def Value.inBlock:Value → Option Nat
 | .slice (some a) _ _=>some a.block
 | _=>none
theorem RowR.keep (h:RowR mk sz w v l) (hs:w.heap.size ≤ w'.heap.size) (hk:∀ i,Value.inBlock v = some i → i < w.heap.size → w'.heap[i]? = w.heap[i]?):RowR mk sz w' v l:=by
 obtain ⟨ad,c,rfl,h0,h⟩:=h
 refine ⟨ad,c,rfl,h0,h.imp id ?_⟩
 rintro ⟨b,o,rfl,hlt,hc⟩
 refine ⟨b,o,rfl,Nat.lt_of_lt_of_le hlt hs,fun k x hx=>?_⟩
 have:=hc k x hx
 unfold World.cell? at this ⊢
 rw [hk b rfl hlt]
 exact this
end
theorem add_none (b o k:Nat):(⟨b,o,none⟩:Addr).add k = ⟨b,o + k,none⟩:=by
 unfold Addr.add
 split
 ·rename_i h0; rw [h0]; simp
 ·rfl
theorem clone_at {P:Program} {α:Type} {mk:α → List Value} {w:World} {K:Value → World → Prop} (t T e:TypeId) (i:TypeInfo) (z:Value) (size bytes:Nat) (ht:P.underlying t = some (.slice e)) (hi:P.info? e = some i) (hz:i.zero = some z)
  (hsize:i.size = size) (hby:i.bytes = bytes) (hzs:z.cells.size = size) (hsz:0 < size) (hm:∀ x,(mk x).length = size) (h1:∀ x,∀ u ∈ mk x,u.oneCell' = true)
  {v u:Value} {l:List α} (hr:RowR mk size w v l) (hu:w.ownsRow 0 e size u 0 []) {B:Nat} (hB:B ≤ w.heap.size) (hf:∀ i,u.ownBlock = some i → B ≤ i) (hll:l.length ≤ 4611686018427387904) (hb:l.length * bytes ≤ 140737488355328)
  (k:∀ v' w',w'.ownsRow 0 e size v' l.length (flat mk l) → w.grownBy w' u.ownBlock → (∀ i,v'.ownBlock = some i → B ≤ i) → K v' w') :
  oM P (.call { callee:=.builtin .append,args:=#[.tmp 0,.tmp 1],argTypes:=#[t,t] }) T [u,v] K w:=by
 obtain ⟨ad,c,rfl,h0,hc⟩:=hr
 refine append_at t T e i z size bytes ht hi hz hsize hby hzs hsz hu (flat mk l) (flat_length hm l) h0 ?_ ?_ (by simp only [maxLen]; omega) (by rw [Nat.zero_add]; exact hb) ?_
 ·rintro a rfl j x hj
  rcases hc with rfl | ⟨b,o,hbo,hlt,hc⟩
  ·simp [flat] at hj
  ·cases hbo
   rw [add_none]; exact hc j x hj
 ·intro x hx
  unfold flat at hx
  obtain ⟨y,_,hy⟩:=List.mem_flatMap.1 hx
  exact h1 y x hy
 ·intro v' w' ho hg hv
  rw [Nat.zero_add] at ho
  exact k v' w' ho hg (fun i hi=>(hv i hi).elim (hf i) (Nat.le_trans hB))
end Go.Sh
namespace Go.Sh
open Go Go.RowKit
theorem alloc_size (w:World) (o:Obj):(w.alloc o).heap.size = w.heap.size + 1:=by
 show (w.heap.push o).size = _
 simp
theorem grown_setRow (w:World) (g:Nat) (cs:Array Value):w.grownBy (w.setRow g cs) (some g):=
 ⟨rfl,rfl,rfl,by simp [World.setRow],fun i _ hi=>setRow_other w g i cs (fun e=>hi (by rw [e]))⟩
section
variable {P:Program} {w:World} {K:Value → World → Prop}
theorem sliceTo_at {t T:TypeId} {a:Option Addr} {n c:Nat} {sz:Nat} (ht:P.underlying t = some (.slice (P.elem t))) (hs:∀ w,(sizeOf (P.elem t)).run P w = .ok sz w) (i:Nat) (hi:i ≤ c) (k:K (.slice a i c) w) :
  oM P (.slice t (.tmp 0) none (some (.tmp 1)) none) T [.slice a n c,.int .i64 i] K w:=by
 rw [oM_sliceTo,run_sliceAt_slice w t _ _ _ _ ht,run_slice_h w t _ n c ht .i64 i (by omega) (by omega),hs]
 have e:a.map (fun x=>x.add (0 * sz)) = a:=by
  cases a with
  | none=>rfl
  | some a=>simp [Addr.add]
 simp only [Result.andThen_ok,sliced,Int.toNat_natCast,Nat.sub_zero,e,ite_self]
 exact k
end
end Go.Sh
namespace Go.Sh
open Go Go.RowKit
def BufM (w:World) (e:TypeId) (v:Value) (l:List UInt8):Prop:=
 ∃ g cap cur fz,v = .slice (some ⟨g,0,none⟩) l.length cap ∧ w.heap[g]? = some (.cells cur e fz) ∧ (∀ i,i < cur.size → ¬ (fz.1 ≤ i ∧ i < fz.2)) ∧ cur.size = cap ∧ l.length ≤ cap ∧ ∀ j (h:j < l.length),cur[j]? = some (.int .u8 (l[j].toNat:Int))
section
variable {P:Program} {w w':World} {e:TypeId} {v:Value} {l:List UInt8} {K:Value → World → Prop}
theorem BufM.shape (h:BufM w e v l):∃ g c,v = .slice (some ⟨g,0,none⟩) l.length c ∧ g < w.heap.size:=by
 obtain ⟨g,cap,cur,fz,rfl,hg,_⟩:=h
 exact ⟨g,cap,rfl,(Array.getElem?_eq_some_iff.1 hg).1⟩
theorem BufM.keep (h:BufM w e v l) (hk:∀ i,v.ownBlock = some i → w'.heap[i]? = w.heap[i]?):BufM w' e v l:=by
 obtain ⟨g,cap,cur,fz,rfl,hg,r⟩:=h
 exact ⟨g,cap,cur,fz,rfl,by rw [hk g rfl]; exact hg,r⟩
theorem ofStr_at {s d T:TypeId} (hs:P.underlying s = some .string) (hd:P.underlying d = some (.slice e)) (he:P.underlying e = some (.int .u8)) (l:List UInt8)
  (k:∀ v w',BufM w' e v l → w.grownBy w' none → v.ownBlock = some w.heap.size → w.heap.size < w'.heap.size → K v w'):oM P (.convert s d (.tmp 0)) T [.string ⟨l.toArray⟩] K w:=by
 have hr:=run_bytes_of_string (P:=P) w s d e ⟨l.toArray⟩ hs hd he
 rw [rM_of (S:=convert s d (.string ⟨l.toArray⟩)) rfl,hr]
 have hge:l.length ≤ grownCap w (⟨l.toArray⟩:ByteArray).size 0 e:=grownCap_ge w l.length 0 e
 generalize grownCap w (⟨l.toArray⟩:ByteArray).size 0 e = C at *
 have hsz:(bytesRow ⟨l.toArray⟩ C).size = C:=by
  simp only [bytesRow,Array.size_append,Array.size_map,List.size_toArray,Array.size_replicate,ByteArray.size]
  omega
 rw [hsz]
 refine k _ _ ⟨w.heap.size,C,bytesRow ⟨l.toArray⟩ C,(C,C + 1),rfl,heap_alloc_new w.drew _,fun i hi=>by rw [hsz] at hi; simp only; omega,hsz,hge,fun j hj=>?_⟩ ⟨rfl,rfl,rfl,by simp,fun i hi _=>heap_alloc_old w.drew _ hi⟩ rfl (by simp)
 unfold bytesRow
 rw [Array.getElem?_append_left (by simpa using hj)]
 simp [hj]
theorem pushB_at {t T:TypeId} {i:TypeInfo} {x:UInt8} {a:Addr} {c:Nat} (ht:P.underlying t = some (.slice e)) (hi:P.info? e = some i) (hz:i.zero = some (.int .u8 0)) (hs:i.size = 1) (hb:i.bytes = 1) (h:BufM w e v l) (ha:w.cell? a = some (.int .u8 (x.toNat:Int))) (hl:l.length + 1 ≤ 1099511627776)
  (k:∀ v' w',BufM w' e v' (l ++ [x]) → w.grownBy w' v.ownBlock → (v'.ownBlock = v.ownBlock ∨ ∃ g,v'.ownBlock = some g ∧ w.heap.size ≤ g) → K v' w') :
  oM P (.call { callee:=.builtin .append,args:=#[.tmp 0,.tmp 1],argTypes:=#[t,t] }) T [v,.slice (some a) 1 c] K w:=by
 obtain ⟨g,cap,cur,fz,rfl,hg,hfz,hcs,hlc,hcell⟩:=h
 rw [oM_append]
 have hnews:∀ j u,([Value.int .u8 (x.toNat:Int)]:List Value)[j]? = some u → w.cell? (a.add j) = some u:=by
  intro j u hj
  match j,hj with
  | 0,hj=>
   simp only [List.getElem?_cons_zero,Option.some.injEq] at hj
   subst hj
   have:a.add 0 = a:=by simp [Addr.add]
   rw [this]; exact ha
 by_cases hroom:l.length + 1 ≤ cap
 ·have hr:=run_append_room_cells (P:=P) (w:=w) t T e i ht hi g 0 l.length cap a 1 c [.int .u8 (x.toNat:Int)] (by rw [hs]; rfl) hnews (by simp [Value.oneCell']) hroom (by
   intro j hj
   simp only [List.length_cons,List.length_nil] at hj
   rw [cell_of_block hg]
   simp [hs]
   omega) (by
   intro j hj
   simp only [List.length_cons,List.length_nil] at hj
   unfold World.frozen?
   rw [hg]
   have:=hfz (0 + l.length * i.size + j) (by rw [hs]; omega)
   simp only [Bool.and_eq_false_iff,decide_eq_false_iff_not]
   omega)
  rw [hr,hs,Nat.zero_add,Nat.mul_one]
  refine k _ (w.setCell ⟨g,l.length,none⟩ (.int .u8 (x.toNat:Int))) ⟨g,cap,cur.setIfInBounds l.length (.int .u8 (x.toNat:Int)),fz,by rw [List.length_append]; rfl,block_set hg _,by simpa using hfz,by simpa using hcs,by simpa using hroom,fun j hj=>?_⟩ (grown_setCell w ⟨g,l.length,none⟩ _) (.inl rfl)
  rw [List.length_append,List.length_cons,List.length_nil] at hj
  by_cases hjl:j < l.length
  ·rw [Array.getElem?_setIfInBounds_ne (by omega),hcell j hjl,List.getElem_append_left hjl]
  ·obtain rfl:j = l.length:=by omega
   rw [Array.getElem?_setIfInBounds_self_of_lt (by omega)]
   simp
 ·have hholds:∀ j u,(Lib.byteCells l)[j]? = some u → w.cell? ((⟨g,0,none⟩:Addr).add j) = some u:=by
   intro j u hj
   rw [add_none,Nat.zero_add,cell_of_block hg]
   have hjl:j < l.length:=by have:=(List.getElem?_eq_some_iff.1 hj).1; simpa [Lib.byteCells] using this
   rw [hcell j hjl,← hj]
   simp [Lib.byteCells,hjl]
  obtain ⟨v',w',hr,ho,hgr⟩:=run_append_arg_grows (P:=P) (w:=w) t T e i (.int .u8 0) 1 1 ht hi hz hs hb rfl (by omega) ⟨g,0,none⟩ l.length cap (Lib.byteCells l) (by simp [Lib.byteCells]) hholds a 1 c [.int .u8 (x.toNat:Int)] rfl hnews (by omega) (by simp only [maxLen]; omega) (by omega)
  rw [hr]
  rcases ho.2 with ⟨_,h0⟩ | ⟨g',cap',cur',rfl,hb',hg',hnc,hcm,hcs',htk⟩
  ·omega
  ·refine k _ w' ⟨g',cap',cur',(0,0),by rw [List.length_append]; rfl,hg',fun i _=>by omega,by omega,by rw [List.length_append]; exact hnc,fun j hj=>?_⟩ ⟨hgr.os,hgr.tape,hgr.output,hgr.size,fun i hi _=>hgr.block i hi (by simp)⟩ (.inr ⟨g',rfl,hb'⟩)
   have e1:cur'.toList.take (l.length + 1) = Lib.byteCells (l ++ [x]):=by
    rw [Nat.mul_one] at htk
    rw [htk]
    simp [Lib.byteCells]
   have e2:=congrArg (fun q=>q[j]?) e1
   rw [List.length_append,List.length_cons,List.length_nil] at hj
   simp only [List.getElem?_take_of_lt hj,Array.getElem?_toList] at e2
   rw [e2]
   have hj':j < (l ++ [x]).length:=by simpa using hj
   simp only [Lib.byteCells,List.getElem?_map,List.getElem?_eq_getElem hj',Option.map_some]
theorem BufM.set (h:BufM w e v l) {j:Nat} (hj:j < l.length) (x:UInt8):∃ g c,v = .slice (some ⟨g,0,none⟩) l.length c ∧ w.frozen? ⟨g,j,none⟩ = false ∧ (w.cell? ⟨g,j,none⟩).isSome = true ∧ BufM (w.setCell ⟨g,j,none⟩ (.int .u8 (x.toNat:Int))) e v (l.set j x):=by
 obtain ⟨g,cap,cur,fz,rfl,hg,hfz,hcs,hlc,hcell⟩:=h
 refine ⟨g,cap,rfl,?_,?_,⟨g,cap,cur.setIfInBounds j (.int .u8 (x.toNat:Int)),fz,by rw [List.length_set],block_set hg _,by simpa using hfz,by simpa using hcs,by simpa using hlc,fun k hk=>?_⟩⟩
 ·unfold World.frozen?
  rw [hg]
  have:=hfz j (by omega)
  simp only [Bool.and_eq_false_iff,decide_eq_false_iff_not]
  omega
 ·rw [cell_of_block hg,hcell j hj]; rfl
 ·rw [List.length_set] at hk
  by_cases hkj:k = j
  ·subst hkj
   rw [Array.getElem?_setIfInBounds_self_of_lt (by omega)]
   simp
  ·rw [Array.getElem?_setIfInBounds_ne (Ne.symm hkj),hcell k hk,List.getElem_set_ne (Ne.symm hkj)]
theorem BufM.cell (h:BufM w e v l) {j:Nat} (hj:j < l.length):∃ g c,v = .slice (some ⟨g,0,none⟩) l.length c ∧ w.cell? ⟨g,j,none⟩ = some (.int .u8 (l[j].toNat:Int)):=by
 obtain ⟨g,cap,cur,fz,rfl,hg,hfz,hcs,hlc,hcell⟩:=h
 exact ⟨g,cap,rfl,by rw [cell_of_block hg]; exact hcell j hj⟩
end
end Go.Sh
namespace Go.Sh
open Go Go.RowKit
section
variable {P:Program} {K:Value → World → Prop} {w:World}
@[go_sem] theorem oM_shr64 (t t' T:TypeId) (yk:IntKind) (x y:Int) (h0:0 ≤ y) (h1:y ≤ 64):oM P (.binOp .shr t (.tmp 0) (.tmp 1) t') T [.int .u64 x,.int yk y] = pureM (.int .u64 (x / 2 ^ y.toNat)):=by
 funext K w
 simp [oM,opM,xop,execOp,evalL,evE,binOp]
 rfl
@[go_sem] theorem oM_shl64 (t t' T:TypeId) (yk:IntKind) (x y:Int) (h0:0 ≤ y) (h1:y ≤ 64):oM P (.binOp .shl t (.tmp 0) (.tmp 1) t') T [.int .u64 x,.int yk y] = pureM (.int .u64 (x * 2 ^ y.toNat % 18446744073709551616)):=by
 funext K w
 simp [oM,opM,xop,execOp,evalL,evE,binOp]
 rfl
@[go_sem] theorem oM_shr32 (t t' T:TypeId) (yk:IntKind) (x y:Int) (h0:0 ≤ y) (h1:y ≤ 32):oM P (.binOp .shr t (.tmp 0) (.tmp 1) t') T [.int .u32 x,.int yk y] = pureM (.int .u32 (x / 2 ^ y.toNat)):=by
 funext K w
 simp [oM,opM,xop,execOp,evalL,evE,binOp]
 rfl
@[go_sem] theorem oM_shl32 (t t' T:TypeId) (yk:IntKind) (x y:Int) (h0:0 ≤ y) (h1:y ≤ 32):oM P (.binOp .shl t (.tmp 0) (.tmp 1) t') T [.int .u32 x,.int yk y] = pureM (.int .u32 (x * 2 ^ y.toNat % 4294967296)):=by
 funext K w
 simp [oM,opM,xop,execOp,evalL,evE,binOp]
 rfl
@[go_sem] theorem oM_and64 (t t' T:TypeId) (x y:Int):oM P (.binOp .and t (.tmp 0) (.tmp 1) t') T [.int .u64 x,.int .u64 y] = pureM (.int .u64 (bits .and .u64 x y)):=by
 funext K w
 simp [oM,opM,xop,execOp,evalL,evE,binOp,go_sem]
@[go_sem] theorem oM_or64 (t t' T:TypeId) (x y:Int):oM P (.binOp .or t (.tmp 0) (.tmp 1) t') T [.int .u64 x,.int .u64 y] = pureM (.int .u64 (bits .or .u64 x y)):=by
 funext K w
 simp [oM,opM,xop,execOp,evalL,evE,binOp,go_sem]
end
theorem bits_and64 (x y:Int) (hx:0 ≤ x ∧ x < 18446744073709551616) (hy:0 ≤ y ∧ y < 18446744073709551616):bits .and .u64 x y = ((x.toNat &&& y.toNat:Nat):Int):=by
 obtain ⟨a,rfl⟩:=Int.eq_ofNat_of_zero_le hx.1
 obtain ⟨b,rfl⟩:=Int.eq_ofNat_of_zero_le hy.1
 have ha:a < 2 ^ 64:=by omega
 have hb:b < 2 ^ 64:=by omega
 simp only [bits,Int.toNat_natCast]
 rw [BitVec.ofInt_natCast,BitVec.ofInt_natCast,BitVec.toNat_and]
 simp only [BitVec.toNat_ofNat]
 rw [show IntKind.u64.bits = 64 from rfl,Nat.mod_eq_of_lt ha,Nat.mod_eq_of_lt hb]
 have:a &&& b ≤ a:=Nat.and_le_left
 exact wrapU64 _ (by omega) (by omega)
theorem bits_or64 (x y:Int) (hx:0 ≤ x ∧ x < 18446744073709551616) (hy:0 ≤ y ∧ y < 18446744073709551616):bits .or .u64 x y = ((x.toNat ||| y.toNat:Nat):Int):=by
 obtain ⟨a,rfl⟩:=Int.eq_ofNat_of_zero_le hx.1
 obtain ⟨b,rfl⟩:=Int.eq_ofNat_of_zero_le hy.1
 have ha:a < 2 ^ 64:=by omega
 have hb:b < 2 ^ 64:=by omega
 simp only [bits,Int.toNat_natCast]
 rw [BitVec.ofInt_natCast,BitVec.ofInt_natCast,BitVec.toNat_or]
 simp only [BitVec.toNat_ofNat]
 rw [show IntKind.u64.bits = 64 from rfl,Nat.mod_eq_of_lt ha,Nat.mod_eq_of_lt hb]
 have:=Nat.or_lt_two_pow ha hb
 exact wrapU64 _ (by omega) (by omega)
theorem mask64 (n:Nat) (x m:Int) (hn:n ≤ 64) (hm:m = 2 ^ n - 1) (hx:0 ≤ x ∧ x < 18446744073709551616):bits .and .u64 x m = x % 2 ^ n:=by
 have hp:(0:Int) < 2 ^ n:=Int.pow_pos (by omega)
 have hp':(2:Nat) ^ n ≤ 2 ^ 64:=Nat.pow_le_pow_right (by omega) hn
 have hpc:((2:Int) ^ n) = ((2 ^ n:Nat):Int):=by simp
 rw [bits_and64 x m hx (by rw [hm,hpc]; omega)]
 have:m.toNat = 2 ^ n - 1:=by rw [hm,hpc]; omega
 rw [this,Nat.and_two_pow_sub_one_eq_mod,Int.natCast_emod,Int.toNat_of_nonneg hx.1,hpc]
theorem or_add64 (s:Nat) (x y:Int) (hs:s ≤ 64) (hx:0 ≤ x) (hy:0 ≤ y ∧ y < 2 ^ s) (h:x * 2 ^ s < 18446744073709551616):bits .or .u64 (x * 2 ^ s) y = x * 2 ^ s + y:=by
 obtain ⟨a,rfl⟩:=Int.eq_ofNat_of_zero_le hx
 obtain ⟨b,rfl⟩:=Int.eq_ofNat_of_zero_le hy.1
 have hpc:((2:Int) ^ s) = ((2 ^ s:Nat):Int):=by simp
 rw [hpc] at hy h ⊢
 have hp':(2:Nat) ^ s ≤ 2 ^ 64:=Nat.pow_le_pow_right (by omega) hs
 have hb:b < 2 ^ s:=by omega
 have e:((a:Int) * ((2 ^ s:Nat):Int)) = ((2 ^ s * a:Nat):Int):=by rw [Int.natCast_mul]; exact Int.mul_comm _ _
 rw [e] at h ⊢
 rw [bits_or64 _ _ (by omega) (by omega),Int.toNat_natCast,Int.toNat_natCast,← Nat.two_pow_add_eq_or_of_lt hb]
 simp
end Go.Sh
namespace Go.Sh
open Go Go.RowKit
abbrev Next (w w':World):Prop:=Below w.heap.size w w'
theorem _root_.Go.RowKit.Below.on {a b c:World} (h:Below a.heap.size a b) (k:Below b.heap.size b c):Below a.heap.size a c:=h.trans (k.mono h.size)
theorem _root_.Go.RowKit.Below.drawn {B:Nat} {w:World}:Below B w { w with drawn:=w.drawn + 1 }:=⟨rfl,rfl,rfl,Nat.le_refl _,fun _ _=>rfl⟩
def BoxIs (w:World) (g:Nat) (cs:List Value):Prop:=∀ w',Below w.heap.size w w' → ∀ (i:Nat) (v:Value),cs[i]? = some v → w'.cell? ⟨g,i,none⟩ = some v
theorem BoxIs.next {w w':World} {g:Nat} {cs:List Value} (h:BoxIs w g cs) (hb:Below w.heap.size w w'):BoxIs w' g cs:=
 fun w2 h2=>h w2 (Below.on hb h2)
theorem box_in {P:Program} {w:World} {K:Value → World → Prop} {T T':TypeId} {x:Value} {cs:List Value} (hx:x.cells = cs.toArray)
  (k:∀ g W,Below w.heap.size w W → w.heap.size ≤ g → BoxIs W g cs → K (.pointer (some ⟨g,0,none⟩)) W):oM P (.box T (.tmp 0)) T' [x] K w:=by
 rw [oM_box]
 have e:(Instr.box T x).run P w = .ok (.pointer (some ⟨w.heap.size,0,none⟩)) (w.alloc (.cells cs.toArray T)):=by
  rw [← hx]; rfl
 rw [e]
 refine k _ _ ((Below.refl _ w).alloc (Nat.le_refl _) _) (Nat.le_refl _) (fun w' hb i v hi=>?_)
 have hlt:w.heap.size < (w.alloc (.cells cs.toArray T)).heap.size:=by simp
 rw [hb.cell hlt]
 have:=World.cell?_alloc_at (w:=w) cs.toArray T w.heap.size i rfl
 rw [this]
 simpa using hi
def I64 (n:Int):Prop:=-9223372036854775808 ≤ n ∧ n < 9223372036854775808
def intC (n:Int):List Value:=[.int .i64 n]
structure Ints (w:World) (v:Value) (l:List Int):Prop where
 row:RowR intC 1 w v l
 rng:∀ n ∈ l,I64 n
 len:l.length ≤ 9223372036854775807
theorem Ints.next {w w':World} {v:Value} {l:List Int} (h:Ints w v l) (hb:Below w.heap.size w w'):Ints w' v l:=
 ⟨h.row.keep hb.size (fun i _ hi=>hb.block i hi),h.rng,h.len⟩
theorem Ints.nil (w:World):Ints w (.slice none 0 0) []:=⟨⟨none,0,rfl,fun _=>⟨rfl,rfl⟩,.inl rfl⟩,by simp,by simp⟩
theorem Ints.isSlice {w:World} {v:Value} {l:List Int} (h:Ints w v l):∃ ad c,v = .slice ad l.length c:=by
 obtain ⟨⟨ad,c,hv,_⟩,_⟩:=h; exact ⟨ad,c,hv⟩
theorem flat_int (l:List Int):flat intC l = l.map (fun n=>Value.int .i64 n):=by
 induction l with
 | nil=>rfl
 | cons a l ih=>rw [flat_cons,ih]; rfl
theorem Ints.at {w:World} {ad:Option Addr} {n c:Nat} {l:List Int} (h:Ints w (.slice ad n c) l) {i:Nat} (hi:i < l.length) :
  ∃ b o,ad = some ⟨b,o,none⟩ ∧ b < w.heap.size ∧ (∀ w',Below w.heap.size w w' → w'.cell? ⟨b,o + i,none⟩ = some (.int .i64 l[i])) ∧ I64 l[i] ∧ n = l.length:=by
 obtain ⟨⟨ad',c',hv,h0,hc⟩,hr,_⟩:=h
 cases hv
 rcases hc with rfl | ⟨b,o,rfl,hlt,hc⟩
 ·simp at hi
 ·refine ⟨b,o,rfl,hlt,fun w' hb=>?_,hr _ (List.getElem_mem hi),rfl⟩
  rw [hb.cell hlt]
  exact hc i _ (by rw [flat_int]; simp [hi])
theorem Ints.of_owns {w:World} {B:Nat} {e:TypeId} {v:Value} {l:List Int} (h:w.ownsRow B e 1 v l.length (flat intC l)) (hr:∀ n ∈ l,I64 n) (hl:l.length ≤ 9223372036854775807):Ints w v l:=
 ⟨RowR.of_owns h,hr,hl⟩
@[go_sem] theorem oM_makeFunc2 {P:Program} {K:Value → World → Prop} {w:World} (fn:Fn) (T:TypeId) (x y:Value):oM P (.makeFunc fn #[] #[.tmp 0,.tmp 1]) T [x,y] K w = K (.func fn #[] #[x,y]) w:=oM_of_run (by simp [xop,execOp,evalL,evE,Instr.makeFunc])
@[go_sem] theorem oM_makeFunc01 {P:Program} {K:Value → World → Prop} {w:World} (fn:Fn) (T:TypeId) (x:Value):oM P (.makeFunc fn #[] #[.tmp 0]) T [x] K w = K (.func fn #[] #[x]) w:=oM_of_run (by simp [xop,execOp,evalL,evE,Instr.makeFunc])
end Go.Sh
namespace Go.Sh
open Go
section
variable {P:Program} {K:Value → World → Prop} {w:World} {A B:Prop} {p:Prop} [Decidable p] {b c:Bool} {m:(Value → World → Prop) → World → Prop} {T:TypeId} {x y v:Value} {C:World → Prop} {KQ:Value → Prop}
theorem idGd {g:Bool} (h:gdM g m K w):gdM g m K w:=h
theorem idGdD {q:Prop} {d:Decidable q} (h:gdM (gd (.bool (@decide q d)) c) m K w):gdM (gd (.bool (@decide q d)) c) m K w:=h
theorem idGdN {q:Prop} {d:Decidable q} (h:gdM (gd (.bool (!@decide q d)) c) m K w):gdM (gd (.bool (!@decide q d)) c) m K w:=h
theorem idPick (h:oM P (.pick (.tmp 0) (.tmp 1) (.tmp 2)) T [v,x,y] K w):oM P (.pick (.tmp 0) (.tmp 1) (.tmp 2)) T [v,x,y] K w:=h
theorem idCond (h:condM v A B):condM v A B:=h
theorem idO {o:Op} {l:List Value} (h:oM P o T l K w):oM P o T l K w:=h
theorem idOQ {o:Op} {l:List Value} (h:oQ P o T l C KQ):oQ P o T l C KQ:=h
theorem idGdQ {g:Bool} {n:(World → Prop) → (Value → Prop) → Prop} (h:gdQ g n C KQ):gdQ g n C KQ:=h
theorem zF (k:m K w) (h:p:=by first|assumption|omega):gdM (gd (.bool (decide p)) true) m K w:=gdt_pos h k
theorem zG (k:K undef w) (h:¬p:=by first|assumption|omega):gdM (gd (.bool (decide p)) true) m K w:=gdt_neg h k
theorem zI (k:m K w) (h:¬p:=by first|assumption|omega):gdM (gd (.bool (decide p)) false) m K w:=gdf_pos h k
theorem zJ (k:K undef w) (h:p:=by first|assumption|omega):gdM (gd (.bool (decide p)) false) m K w:=gdf_neg h k
theorem zL (k:m K w) (h:¬p:=by first|assumption|omega):gdM (gd (.bool (!decide p)) true) m K w:=gdtn_pos h k
theorem zM (k:K undef w) (h:p:=by first|assumption|omega):gdM (gd (.bool (!decide p)) true) m K w:=gdtn_neg h k
theorem zO (k:m K w) (h:p:=by first|assumption|omega):gdM (gd (.bool (!decide p)) false) m K w:=gdfn_pos h k
theorem zP (k:K undef w) (h:¬p:=by first|assumption|omega):gdM (gd (.bool (!decide p)) false) m K w:=gdfn_neg h k
theorem zS (k:K undef w) (h:b = true:=by assumption):gdM (gd (.bool (!b)) true) m K w:=gdtbn_neg h k
theorem zV (k:m K w) (h:b = true:=by assumption):gdM (gd (.bool b) true) m K w:=gdtb_pos h k
theorem zW (k:K undef w) (h:b = false:=by assumption):gdM (gd (.bool b) true) m K w:=gdtb_neg h k
theorem zA (k:m K w):gdM (gd (.bool true) true) m K w:=gdtT k
theorem zB (k:K undef w):gdM (gd (.bool false) true) m K w:=gdtF k
theorem zC (k:m K w):gdM (gd (.bool false) false) m K w:=gdfF k
theorem zD (k:K undef w):gdM (gd (.bool true) false) m K w:=gdfT k
theorem zE (k:K undef w):gdM (gd undef c) m K w:=gdu k c
theorem zH (h1:p → m K w) (h2:¬p → K undef w):gdM (gd (.bool (decide p)) true) m K w:=gdt_split h1 h2
theorem zK (h1:p → K undef w) (h2:¬p → m K w):gdM (gd (.bool (decide p)) false) m K w:=gdf_split h1 h2
theorem zQ (h1:p → m K w) (h2:¬p → K undef w):gdM (gd (.bool (!decide p)) false) m K w:=gdfn_split h1 h2
theorem zX (h1:b = true → m K w) (h2:b = false → K undef w):gdM (gd (.bool b) true) m K w:=gdtb_split h1 h2
theorem yB (k:K x w):oM P (.pick (.tmp 0) (.tmp 1) (.tmp 2)) T [.bool true,x,y] K w:=pickT k
theorem yC (k:K y w):oM P (.pick (.tmp 0) (.tmp 1) (.tmp 2)) T [.bool false,x,y] K w:=pickF k
theorem yD (k:K x w) (h:p:=by first|assumption|omega):oM P (.pick (.tmp 0) (.tmp 1) (.tmp 2)) T [.bool (decide p),x,y] K w:=pick_pos h k
theorem yE (k:K y w) (h:¬p:=by first|assumption|omega):oM P (.pick (.tmp 0) (.tmp 1) (.tmp 2)) T [.bool (decide p),x,y] K w:=pick_neg h k
theorem yF (k:K x w) (h:¬p:=by first|assumption|omega):oM P (.pick (.tmp 0) (.tmp 1) (.tmp 2)) T [.bool (!decide p),x,y] K w:=pickn_pos h k
theorem yG (k:K y w) (h:p:=by first|assumption|omega):oM P (.pick (.tmp 0) (.tmp 1) (.tmp 2)) T [.bool (!decide p),x,y] K w:=pickn_neg h k
theorem yJ (k:K x w) (h:b = true:=by assumption):oM P (.pick (.tmp 0) (.tmp 1) (.tmp 2)) T [.bool b,x,y] K w:=pickb_pos h k
theorem yK (k:K y w) (h:b = false:=by assumption):oM P (.pick (.tmp 0) (.tmp 1) (.tmp 2)) T [.bool b,x,y] K w:=pickb_neg h k
theorem yL (k:A):condM (.bool true) A B:=condT k
theorem yM (k:B):condM (.bool false) A B:=condF k
theorem yN (k:A) (h:p:=by first|assumption|omega):condM (.bool (decide p)) A B:=cond_pos h k
theorem yO (k:B) (h:¬p:=by first|assumption|omega):condM (.bool (decide p)) A B:=cond_neg h k
theorem yQ (k:A) (h:¬p:=by first|assumption|omega):condM (.bool (!decide p)) A B:=condn_pos h k
theorem yR (k:B) (h:p:=by first|assumption|omega):condM (.bool (!decide p)) A B:=condn_neg h k
theorem yP (h1:p → A) (h2:¬p → B):condM (.bool (decide p)) A B:=condM_dec h1 h2
theorem yV (h1:b = true → B) (h2:b = false → A):condM (.bool (!b)) A B:=condbn_split h1 h2
theorem wA (k:KQ x):oQ P (.pick (.tmp 0) (.tmp 1) (.tmp 2)) T [.bool true,x,y] C KQ:=pickQT k
theorem wB (k:KQ y):oQ P (.pick (.tmp 0) (.tmp 1) (.tmp 2)) T [.bool false,x,y] C KQ:=pickQF k
theorem wE (k:KQ x) (h:¬p:=by first|assumption|omega):oQ P (.pick (.tmp 0) (.tmp 1) (.tmp 2)) T [.bool (!decide p),x,y] C KQ:=pickQn_pos h k
theorem wF (k:KQ y) (h:p:=by first|assumption|omega):oQ P (.pick (.tmp 0) (.tmp 1) (.tmp 2)) T [.bool (!decide p),x,y] C KQ:=pickQn_neg h k
end
end Go.Sh
namespace Go.Proofs
abbrev tabName:String:=(YtlmhhgemiknhdaaGreatDoor.Rows.proofTellsRow.laid.map (fun x=>x.1)).getD 2 default
open Go.Shelf
def Tryz.lays169_ren:Go.Shelf.Ren:=⟨fun | 169=>206 | n=>n,fun | 70=>211 | 9=>9 | 0=>0 | 72=>213 | 37=>202 | 127=>234 | 3=>3 | 5=>5 | n=>n,fun | n=>n⟩
theorem Tryz.lays169:Go.Proofs.Lays.n169 Tryz.prog Tryz.lays169_ren:={
 mixed:=by kernel_rfl
 f169:=Tryz.func206.trans (congrArg some (by kernel_rfl))
 t0:=Tryz.underlying0
 a0:=Tryz.isAgg0
 z0:=Tryz.sizeOf0
 v0:=Tryz.zeroValue0
 t3:=Tryz.underlying3
 a3:=Tryz.isAgg3
 z3:=Tryz.sizeOf3
 v3:=Tryz.zeroValue3
 t9:=Tryz.underlying9
 a9:=Tryz.isAgg9
 z9:=Tryz.sizeOf9
 v9:=Tryz.zeroValue9
 t37:=Tryz.underlying202
 a37:=Tryz.isAgg202
 z37:=Tryz.sizeOf202
 v37:=Tryz.zeroValue202
 t70:=Tryz.underlying211
 a70:=Tryz.isAgg211
 z70:=Tryz.sizeOf211
 v70:=Tryz.zeroValue211
 t72:=Tryz.underlying213
 a72:=Tryz.isAgg213
 z72:=Tryz.sizeOf213
 v72:=Tryz.zeroValue213
 t127:=Tryz.underlying234
 a127:=Tryz.isAgg234
 z127:=Tryz.sizeOf234
 v127:=Tryz.zeroValue234 }
theorem Tryz.Builder_Extra_169:Builder.Extra Tryz.prog Tryz.lays169_ren:={
 sizeBuilder:=by kernel_rfl
 liesBuilder:=by kernel_rfl
 t5:=Tryz.underlying5
 a5:=Tryz.isAgg5
 z5:=Tryz.sizeOf5
 v5:=Tryz.zeroValue5
 infoByte:=by kernel_rfl
 cellsByte:=by kernel_rfl
 sizeByte:=by kernel_rfl
 neB5:=by decide }
open Go.RowKit in
theorem Tryz.Builder_String_any (B b:Nat) (l:List UInt8) (w:World) (h:Lib.IsBuilder 213 5 B b (Lib.byteCells l) w) (hBw:B ≤ w.heap.size) :
  Calls Tryz.prog 206 #[.pointer (some ⟨b,0,none⟩)] w fun e w'=>e = .returned (.string ⟨l.toArray⟩) ∧ Below B w w':=Any.Builder_String_any Tryz.lays169 Tryz.Builder_Extra_169 B b l w h hBw
def Tryz.lays137_ren:Go.Shelf.Ren:=⟨fun | 137=>223 | 217=>237 | 266=>245 | n=>n,fun | 9=>9 | 5=>5 | 3=>3 | n=>n,fun | n=>n⟩
theorem Tryz.lays137:Go.Proofs.Lays.n137 Tryz.prog Tryz.lays137_ren:={
 mixed:=by kernel_rfl
 f137:=Tryz.func223.trans (congrArg some (by kernel_rfl))
 f217:=Tryz.func237.trans (congrArg some (by kernel_rfl))
 f266:=Tryz.func245.trans (congrArg some (by kernel_rfl))
 t3:=Tryz.underlying3
 a3:=Tryz.isAgg3
 z3:=Tryz.sizeOf3
 v3:=Tryz.zeroValue3
 t5:=Tryz.underlying5
 a5:=Tryz.isAgg5
 z5:=Tryz.sizeOf5
 v5:=Tryz.zeroValue5
 t9:=Tryz.underlying9
 a9:=Tryz.isAgg9
 z9:=Tryz.sizeOf9
 v9:=Tryz.zeroValue9 }
open Go.RowKit in
theorem Tryz.strings_IndexByte (s:ByteArray) (c:Int) (w:World) :
  Calls Tryz.prog 223 #[.string s,.int .u8 c] w fun e w'=>e = .returned (.int .i64 (Lib.indexByte s.data.toList c.toNat.toUInt8)) ∧ w' = w:=Any.strings_IndexByte Tryz.lays137 s c w
def Tryz.lays103_ren:Go.Shelf.Ren:=⟨fun | 103=>226 | 210=>240 | 206=>251 | n=>n,fun | 9=>9 | 4=>4 | 24=>81 | 3=>3 | n=>n,fun | n=>n⟩
theorem Tryz.lays103:Go.Proofs.Lays.n103 Tryz.prog Tryz.lays103_ren:={
 mixed:=by kernel_rfl
 f103:=Tryz.func226.trans (congrArg some (by kernel_rfl))
 f206:=Tryz.func251.trans (congrArg some (by kernel_rfl))
 f210:=Tryz.func240.trans (congrArg some (by kernel_rfl))
 t3:=Tryz.underlying3
 a3:=Tryz.isAgg3
 z3:=Tryz.sizeOf3
 v3:=Tryz.zeroValue3
 t4:=Tryz.underlying4
 a4:=Tryz.isAgg4
 z4:=Tryz.sizeOf4
 v4:=Tryz.zeroValue4
 t9:=Tryz.underlying9
 a9:=Tryz.isAgg9
 z9:=Tryz.sizeOf9
 v9:=Tryz.zeroValue9
 t24:=Tryz.underlying81
 a24:=Tryz.isAgg81
 z24:=Tryz.sizeOf81
 v24:=Tryz.zeroValue81 }
open Go.RowKit in
theorem Tryz.strings_CutPrefix (s p:ByteArray) (w:World) :
  Calls Tryz.prog 226 #[.string s,.string p] w fun e w'=>e = .returned (.tuple #[.string ⟨(Lib.trimPrefix s.data.toList p.data.toList).toArray⟩,.bool (Lib.hasPrefix s.data.toList p.data.toList)]) ∧ w' = w:=Any.strings_CutPrefix Tryz.lays103 s p w
def Tryz.laysM171_ren:Go.Shelf.Ren:=⟨fun | 171=>196 | 243=>215 | 246=>231 | 283=>241 | 284=>242 | 285=>243 | 286=>244 | 129=>236 | 317=>252 | 318=>253 | 319=>254 | 320=>255 | 337=>259 | 338=>220 | n=>n,fun | 3=>3 | 9=>9 | 2=>2 | 4=>4 | 171=>248 | 0=>0 | 53=>150 | 37=>202 | 5=>5 | 173=>250 | 212=>261 | 51=>223 | 20=>20 | 213=>262 | 46=>191 | 232=>275 | 233=>244 | n=>n,fun | 17=>3 | 18=>7 | 19=>2 | n=>n⟩
theorem Tryz.laysM171:Go.Proofs.LaysM.n171 Tryz.prog Tryz.laysM171_ren:={
 mixed:=by kernel_rfl
 f129:=Tryz.func236.trans (congrArg some (by kernel_rfl))
 f171:=Tryz.func196.trans (congrArg some (by kernel_rfl))
 f243:=Tryz.func215.trans (congrArg some (by kernel_rfl))
 f246:=Tryz.func231.trans (congrArg some (by kernel_rfl))
 f283:=Tryz.func241.trans (congrArg some (by kernel_rfl))
 f284:=Tryz.func242.trans (congrArg some (by kernel_rfl))
 f285:=Tryz.func243.trans (congrArg some (by kernel_rfl))
 f286:=Tryz.func244.trans (congrArg some (by kernel_rfl))
 f317:=Tryz.func252.trans (congrArg some (by kernel_rfl))
 f318:=Tryz.func253.trans (congrArg some (by kernel_rfl))
 f319:=Tryz.func254.trans (congrArg some (by kernel_rfl))
 f320:=Tryz.func255.trans (congrArg some (by kernel_rfl))
 f337:=Tryz.func259.trans (congrArg some (by kernel_rfl))
 f338:=Tryz.func220.trans (congrArg some (by kernel_rfl))
 t0:=Tryz.underlying0
 a0:=Tryz.isAgg0
 z0:=Tryz.sizeOf0
 v0:=Tryz.zeroValue0
 t2:=Tryz.underlying2
 a2:=Tryz.isAgg2
 z2:=Tryz.sizeOf2
 v2:=Tryz.zeroValue2
 t3:=Tryz.underlying3
 a3:=Tryz.isAgg3
 z3:=Tryz.sizeOf3
 v3:=Tryz.zeroValue3
 t4:=Tryz.underlying4
 a4:=Tryz.isAgg4
 z4:=Tryz.sizeOf4
 v4:=Tryz.zeroValue4
 t5:=Tryz.underlying5
 a5:=Tryz.isAgg5
 z5:=Tryz.sizeOf5
 v5:=Tryz.zeroValue5
 t9:=Tryz.underlying9
 a9:=Tryz.isAgg9
 z9:=Tryz.sizeOf9
 v9:=Tryz.zeroValue9
 t20:=Tryz.underlying20
 a20:=Tryz.isAgg20
 z20:=Tryz.sizeOf20
 v20:=Tryz.zeroValue20
 t37:=Tryz.underlying202
 a37:=Tryz.isAgg202
 z37:=Tryz.sizeOf202
 v37:=Tryz.zeroValue202
 t46:=Tryz.underlying191
 a46:=Tryz.isAgg191
 z46:=Tryz.sizeOf191
 v46:=Tryz.zeroValue191
 t51:=Tryz.underlying223
 a51:=Tryz.isAgg223
 z51:=Tryz.sizeOf223
 v51:=Tryz.zeroValue223
 t53:=Tryz.underlying150
 a53:=Tryz.isAgg150
 z53:=Tryz.sizeOf150
 v53:=Tryz.zeroValue150
 t171:=Tryz.underlying248
 a171:=Tryz.isAgg248
 z171:=Tryz.sizeOf248
 v171:=Tryz.zeroValue248
 t173:=Tryz.underlying250
 a173:=Tryz.isAgg250
 z173:=Tryz.sizeOf250
 v173:=Tryz.zeroValue250
 t212:=Tryz.underlying261
 a212:=Tryz.isAgg261
 z212:=Tryz.sizeOf261
 v212:=Tryz.zeroValue261
 t213:=Tryz.underlying262
 a213:=Tryz.isAgg262
 z213:=Tryz.sizeOf262
 t232:=Tryz.underlying275
 a232:=Tryz.isAgg275
 z232:=Tryz.sizeOf275
 v232:=Tryz.zeroValue275
 t233:=Tryz.underlying244
 a233:=Tryz.isAgg244
 z233:=Tryz.sizeOf244
 v233:=Tryz.zeroValue244
 g17:=by kernel_rfl
 g18:=by kernel_rfl
 g19:=by kernel_rfl
 i0:=by kernel_rfl
 i2:=by kernel_rfl
 i3:=by kernel_rfl
 i4:=by kernel_rfl
 i5:=by kernel_rfl
 i9:=by kernel_rfl
 i20:=by kernel_rfl
 i37:=by kernel_rfl
 i46:=by kernel_rfl
 i51:=by kernel_rfl
 i53:=by kernel_rfl
 i171:=by kernel_rfl
 i173:=by kernel_rfl
 i212:=by kernel_rfl
 i232:=by kernel_rfl
 i233:=by kernel_rfl
 m17:=by kernel_rfl
 m18:=by kernel_rfl
 m19:=by kernel_rfl }
open Go.RowKit Go.Sort Go.Lib in
theorem Tryz.strconv_Itoa (n:Int) (h0:-9223372036854775808 ≤ n) (h1:n ≤ 9223372036854775807) (w:World) (htab:Lib.TabIs Tryz.prog w tabName .u64 Lib.pow10Tab) :
  Calls Tryz.prog 196 #[.int .i64 n] w fun e w'=>e = .returned (.string ⟨(Lib.itoa n).toArray⟩) ∧ ∃ k os,w' = grow (w.drewN k) os:=Any.strconv_Itoa Tryz.laysM171 n h0 h1 w htab
def Tryz.laysC172_ren:Go.Shelf.Ren:=⟨fun | 172=>225 | 244=>238 | 245=>239 | 247=>246 | 279=>247 | 280=>248 | 281=>249 | 282=>250 | 287=>256 | 316=>257 | 171=>196 | 205=>258 | 321=>260 | 322=>261 | 243=>215 | 246=>231 | 283=>241 | 284=>242 | 285=>243 | 286=>244 | 129=>236 | 317=>252 | 318=>253 | 319=>254 | 320=>255 | 337=>259 | 338=>220 | n=>n,fun | 9=>9 | 3=>3 | 75=>215 | 76=>216 | 4=>4 | 5=>5 | 167=>252 | 37=>202 | 0=>0 | 85=>253 | 2=>2 | 168=>255 | 53=>150 | 175=>264 | 46=>191 | 210=>267 | 127=>234 | 145=>274 | 143=>272 | 21=>21 | 171=>248 | 173=>250 | 212=>261 | 51=>223 | 20=>20 | 213=>262 | 232=>275 | 233=>244 | 80=>218 | n=>n,fun | 15=>5 | 16=>6 | 17=>3 | 18=>7 | 19=>2 | n=>n⟩
theorem Tryz.laysC172:Go.Proofs.LaysC.n172 Tryz.prog Tryz.laysC172_ren:={
 mixed:=by kernel_rfl
 f129:=Tryz.func236.trans (congrArg some (by kernel_rfl))
 f171:=Tryz.func196.trans (congrArg some (by kernel_rfl))
 f172:=Tryz.func225.trans (congrArg some (by kernel_rfl))
 f205:=Tryz.func258.trans (congrArg some (by kernel_rfl))
 f243:=Tryz.func215.trans (congrArg some (by kernel_rfl))
 f244:=Tryz.func238.trans (congrArg some (by kernel_rfl))
 f245:=Tryz.func239.trans (congrArg some (by kernel_rfl))
 f246:=Tryz.func231.trans (congrArg some (by kernel_rfl))
 f247:=Tryz.func246.trans (congrArg some (by kernel_rfl))
 f279:=Tryz.func247.trans (congrArg some (by kernel_rfl))
 f280:=Tryz.func248.trans (congrArg some (by kernel_rfl))
 f281:=Tryz.func249.trans (congrArg some (by kernel_rfl))
 f282:=Tryz.func250.trans (congrArg some (by kernel_rfl))
 f283:=Tryz.func241.trans (congrArg some (by kernel_rfl))
 f284:=Tryz.func242.trans (congrArg some (by kernel_rfl))
 f285:=Tryz.func243.trans (congrArg some (by kernel_rfl))
 f286:=Tryz.func244.trans (congrArg some (by kernel_rfl))
 f287:=Tryz.func256.trans (congrArg some (by kernel_rfl))
 f316:=Tryz.func257.trans (congrArg some (by kernel_rfl))
 f317:=Tryz.func252.trans (congrArg some (by kernel_rfl))
 f318:=Tryz.func253.trans (congrArg some (by kernel_rfl))
 f319:=Tryz.func254.trans (congrArg some (by kernel_rfl))
 f320:=Tryz.func255.trans (congrArg some (by kernel_rfl))
 f321:=Tryz.func260.trans (congrArg some (by kernel_rfl))
 f322:=Tryz.func261.trans (congrArg some (by kernel_rfl))
 f337:=Tryz.func259.trans (congrArg some (by kernel_rfl))
 f338:=Tryz.func220.trans (congrArg some (by kernel_rfl))
 t0:=Tryz.underlying0
 a0:=Tryz.isAgg0
 z0:=Tryz.sizeOf0
 v0:=Tryz.zeroValue0
 t2:=Tryz.underlying2
 a2:=Tryz.isAgg2
 z2:=Tryz.sizeOf2
 v2:=Tryz.zeroValue2
 t3:=Tryz.underlying3
 a3:=Tryz.isAgg3
 z3:=Tryz.sizeOf3
 v3:=Tryz.zeroValue3
 t4:=Tryz.underlying4
 a4:=Tryz.isAgg4
 z4:=Tryz.sizeOf4
 v4:=Tryz.zeroValue4
 t5:=Tryz.underlying5
 a5:=Tryz.isAgg5
 z5:=Tryz.sizeOf5
 v5:=Tryz.zeroValue5
 t9:=Tryz.underlying9
 a9:=Tryz.isAgg9
 z9:=Tryz.sizeOf9
 v9:=Tryz.zeroValue9
 t20:=Tryz.underlying20
 a20:=Tryz.isAgg20
 z20:=Tryz.sizeOf20
 v20:=Tryz.zeroValue20
 t21:=Tryz.underlying21
 a21:=Tryz.isAgg21
 z21:=Tryz.sizeOf21
 v21:=Tryz.zeroValue21
 t37:=Tryz.underlying202
 a37:=Tryz.isAgg202
 z37:=Tryz.sizeOf202
 v37:=Tryz.zeroValue202
 t46:=Tryz.underlying191
 a46:=Tryz.isAgg191
 z46:=Tryz.sizeOf191
 v46:=Tryz.zeroValue191
 t51:=Tryz.underlying223
 a51:=Tryz.isAgg223
 z51:=Tryz.sizeOf223
 v51:=Tryz.zeroValue223
 t53:=Tryz.underlying150
 a53:=Tryz.isAgg150
 z53:=Tryz.sizeOf150
 v53:=Tryz.zeroValue150
 t75:=Tryz.underlying215
 a75:=Tryz.isAgg215
 z75:=Tryz.sizeOf215
 v75:=Tryz.zeroValue215
 t76:=Tryz.underlying216
 a76:=Tryz.isAgg216
 z76:=Tryz.sizeOf216
 v76:=Tryz.zeroValue216
 t85:=Tryz.underlying253
 a85:=Tryz.isAgg253
 z85:=Tryz.sizeOf253
 v85:=Tryz.zeroValue253
 t127:=Tryz.underlying234
 a127:=Tryz.isAgg234
 z127:=Tryz.sizeOf234
 v127:=Tryz.zeroValue234
 t143:=Tryz.underlying272
 a143:=Tryz.isAgg272
 z143:=Tryz.sizeOf272
 v143:=Tryz.zeroValue272
 t145:=Tryz.underlying274
 a145:=Tryz.isAgg274
 z145:=Tryz.sizeOf274
 v145:=Tryz.zeroValue274
 t167:=Tryz.underlying252
 a167:=Tryz.isAgg252
 z167:=Tryz.sizeOf252
 v167:=Tryz.zeroValue252
 t168:=Tryz.underlying255
 a168:=Tryz.isAgg255
 z168:=Tryz.sizeOf255
 v168:=Tryz.zeroValue255
 t171:=Tryz.underlying248
 a171:=Tryz.isAgg248
 z171:=Tryz.sizeOf248
 v171:=Tryz.zeroValue248
 t173:=Tryz.underlying250
 a173:=Tryz.isAgg250
 z173:=Tryz.sizeOf250
 v173:=Tryz.zeroValue250
 t175:=Tryz.underlying264
 a175:=Tryz.isAgg264
 z175:=Tryz.sizeOf264
 v175:=Tryz.zeroValue264
 t210:=Tryz.underlying267
 a210:=Tryz.isAgg267
 z210:=Tryz.sizeOf267
 v210:=Tryz.zeroValue267
 t212:=Tryz.underlying261
 a212:=Tryz.isAgg261
 z212:=Tryz.sizeOf261
 v212:=Tryz.zeroValue261
 t213:=Tryz.underlying262
 a213:=Tryz.isAgg262
 z213:=Tryz.sizeOf262
 t232:=Tryz.underlying275
 a232:=Tryz.isAgg275
 z232:=Tryz.sizeOf275
 v232:=Tryz.zeroValue275
 t233:=Tryz.underlying244
 a233:=Tryz.isAgg244
 z233:=Tryz.sizeOf244
 v233:=Tryz.zeroValue244
 g15:=by kernel_rfl
 g16:=by kernel_rfl
 g17:=by kernel_rfl
 g18:=by kernel_rfl
 g19:=by kernel_rfl
 t80:=Tryz.underlying218
 a80:=Tryz.isAgg218
 z80:=Tryz.sizeOf218
 v80:=Tryz.zeroValue218
 i0:=by kernel_rfl
 i2:=by kernel_rfl
 i3:=by kernel_rfl
 i4:=by kernel_rfl
 i5:=by kernel_rfl
 i9:=by kernel_rfl
 i20:=by kernel_rfl
 i21:=by kernel_rfl
 i37:=by kernel_rfl
 i46:=by kernel_rfl
 i51:=by kernel_rfl
 i53:=by kernel_rfl
 i75:=by kernel_rfl
 i76:=by kernel_rfl
 i80:=by kernel_rfl
 i85:=by kernel_rfl
 i127:=by kernel_rfl
 i143:=by kernel_rfl
 i145:=by kernel_rfl
 i167:=by kernel_rfl
 i168:=by kernel_rfl
 i171:=by kernel_rfl
 i173:=by kernel_rfl
 i175:=by kernel_rfl
 i210:=by kernel_rfl
 i212:=by kernel_rfl
 i232:=by kernel_rfl
 i233:=by kernel_rfl
 m15:=by kernel_rfl
 m16:=by kernel_rfl
 m17:=by kernel_rfl
 m18:=by kernel_rfl
 m19:=by kernel_rfl
 c0:=by kernel_rfl
 c2:=by kernel_rfl
 c3:=by kernel_rfl
 c4:=by kernel_rfl
 c5:=by kernel_rfl
 c9:=by kernel_rfl
 c20:=by kernel_rfl
 c21:=by kernel_rfl
 c37:=by kernel_rfl
 c46:=by kernel_rfl
 c51:=by kernel_rfl
 c53:=by kernel_rfl
 c75:=by kernel_rfl
 c76:=by kernel_rfl
 c80:=by kernel_rfl
 c85:=by kernel_rfl
 c127:=by kernel_rfl
 c143:=by kernel_rfl
 c145:=by kernel_rfl
 c167:=by kernel_rfl
 c168:=by kernel_rfl
 c171:=by kernel_rfl
 c173:=by kernel_rfl
 c175:=by kernel_rfl
 c210:=by kernel_rfl
 c212:=by kernel_rfl
 c213:=by kernel_rfl
 c232:=by kernel_rfl
 c233:=by kernel_rfl }
open Go.RowKit in
theorem Tryz.strconv_Atoi_ok (s:ByteArray) (hmax:s.size ≤ 9223372036854775806) (v:Int) (h:Lib.atoiAll s.data.toList = .ok v) (w:World) :
  Calls Tryz.prog 225 #[.string s] w fun e w'=>e = .returned (.tuple #[.int .i64 v,.nilIface]) ∧ (w' = w ∨ ∃ t,w' = Lib.bytesWorld w 5 t):=Any.strconv_Atoi_ok Tryz.laysC172 s hmax v h w
open Go.RowKit in
theorem Tryz.strconv_Atoi_syntax (s:ByteArray) (hlim:s.size ≤ 281474976710656) (h:Lib.atoiAll s.data.toList = .«syntax») (ev:Value) (w:World) (hv:w.cell? ⟨5,0,none⟩ = some ev) (hev:ev = .nilIface ∨ ∃ te pe,ev = .iface te pe) :
  Calls Tryz.prog 225 #[.string s] w fun e w'=>∃ N,e = .returned (.tuple #[.int .i64 (0),.iface 255 (.pointer (some ⟨N,0,none⟩))]) ∧ w.heap.size ≤ N ∧ w'.heap[N]? = some (.cells #[.string ⟨#[65,116,111,105]⟩,.string s,ev] 267 (0,0)) ∧ Below w.heap.size w w':=Any.strconv_Atoi_syntax Tryz.laysC172 s hlim h ev w hv hev
open Go.RowKit in
theorem Tryz.strconv_Atoi_range (s:ByteArray) (hlim:s.size ≤ 281474976710656) (h:Lib.atoiAll s.data.toList = .range) (ev:Value) (w:World) (hv:w.cell? ⟨6,0,none⟩ = some ev) (hev:ev = .nilIface ∨ ∃ te pe,ev = .iface te pe) :
  Calls Tryz.prog 225 #[.string s] w fun e w'=>∃ N,e = .returned (.tuple #[.int .i64 (Lib.atoiSat s.data.toList),.iface 255 (.pointer (some ⟨N,0,none⟩))]) ∧ w.heap.size ≤ N ∧ w'.heap[N]? = some (.cells #[.string ⟨#[65,116,111,105]⟩,.string s,ev] 267 (0,0)) ∧ Below w.heap.size w w':=Any.strconv_Atoi_range Tryz.laysC172 s hlim h ev w hv hev
end Go.Proofs
namespace CodeSpec
open Go.Lib
abbrev Bytes:=List UInt8
def InR (n:Int):Prop:=-9223372036854775808 ≤ n ∧ n ≤ 9223372036854775807
def encInt (n:Int):Bytes:=itoa n ++ [59]
def encText (s:Bytes):Bytes:=itoa s.length ++ 58 :: (s ++ [44])
def encList (l:List Bytes):Bytes:=itoa l.length ++ 91 :: (l.flatten ++ [93])
def encNums (l:List Int):Bytes:=encList (l.map encInt)
def canon (l:Bytes):Option Int:=match atoiAll l with
 | .ok v=>if itoa v = l then some v else none
 | _=>none
structure Rd where
 rest:Bytes
 bad:Bool
def failed:Rd:=⟨[],true⟩
def rdNumber (r:Rd) (e:UInt8) (least:Int):Int × Rd:=
 if ((r.rest.take 21).takeWhile (· != e)).length < (r.rest.take 21).length then
  match canon ((r.rest.take 21).takeWhile (· != e)) with
  | some n=>if n < least then (0,failed) else (n,⟨r.rest.drop (((r.rest.take 21).takeWhile (· != e)).length + 1),r.bad⟩)
  | none=>(0,failed)
 else (0,failed)
def rdClose (r:Rd) (c:UInt8):Rd:=match r.rest with
 | []=>failed
 | x :: t=>if x = c then ⟨t,r.bad⟩ else failed
def rdInt (r:Rd):Int × Rd:=rdNumber r 59 (-9223372036854775808)
def itemsGo {α:Type} (one:Rd → α × Rd):Nat → Rd → List α × Rd
 | 0,r=>([],r)
 | n + 1,r=>if r.bad then ([],r) else ((one r).1 :: (itemsGo one n (one r).2).1,(itemsGo one n (one r).2).2)
def rdItems {α:Type} (one:Rd → α × Rd) (r:Rd):List α × Rd:=
 if (rdClose (itemsGo one (rdNumber r 91 0).1.toNat (rdNumber r 91 0).2).2 93).bad then ([],rdClose (itemsGo one (rdNumber r 91 0).1.toNat (rdNumber r 91 0).2).2 93)
 else ((itemsGo one (rdNumber r 91 0).1.toNat (rdNumber r 91 0).2).1,rdClose (itemsGo one (rdNumber r 91 0).1.toNat (rdNumber r 91 0).2).2 93)
def rdNums:Rd → List Int × Rd:=rdItems rdInt
theorem digit_toNat (d:Nat) (h:d < 10):(UInt8.ofNat (48 + d)).toNat = 48 + d:=by
 rw [UInt8.toNat_ofNat']; omega
theorem decDigits_digit (u:Nat):∀ c ∈ decDigits u,48 ≤ c.toNat ∧ c.toNat ≤ 57:=by
 induction u using Nat.strongRecOn with
 | ind u ih=>
  rw [decDigits]
  split
  ·rename_i h
   intro c hc
   simp only [List.mem_singleton] at hc
   subst hc
   rw [digit_toNat u h]; omega
  ·rename_i h
   intro c hc
   rcases List.mem_append.1 hc with hc | hc
   ·exact ih (u / 10) (by omega) c hc
   ·simp only [List.mem_singleton] at hc
    subst hc
    rw [digit_toNat _ (by omega)]; omega
theorem decDigits_ne (u:Nat):decDigits u ≠ []:=by
 rw [decDigits]
 split <;> simp
theorem decDigits_len (u:Nat) (k:Nat) (hk:1 ≤ k) (h:u < 10 ^ k):(decDigits u).length ≤ k:=by
 induction k generalizing u with
 | zero=>omega
 | succ k ih=>
  rw [decDigits]
  split
  ·simp
  ·rename_i h10
   have hk1:1 ≤ k:=by
    rcases Nat.eq_zero_or_pos k with rfl | h0
    ·simp at h; omega
    ·exact h0
   have:=ih (u / 10) hk1 (by rw [Nat.pow_succ] at h; omega)
   simp only [List.length_append,List.length_singleton]
   omega
theorem parse_append (l m:Bytes) (acc:Nat):parseUint10 acc (l ++ m) = match parseUint10 acc l with | .ok u=>parseUint10 u m | .range=>.range | .syntax=>.syntax:=by
 induction l generalizing acc with
 | nil=>rfl
 | cons c l ih=>
  simp only [List.cons_append,parseUint10]
  by_cases h1:48 ≤ c.toNat ∧ c.toNat ≤ 57
  ·by_cases h2:1844674407370955162 ≤ acc
   ·simp only [if_pos h1,if_pos h2]
   ·by_cases h3:18446744073709551616 ≤ acc * 10 + (c.toNat - 48)
    ·simp only [if_pos h1,if_neg h2,if_pos h3]
    ·simp only [if_pos h1,if_neg h2,if_neg h3]
     exact ih _
  ·simp only [if_neg h1]
theorem parse_dec (u:Nat) (h:u < 18446744073709551616):parseUint10 0 (decDigits u) = .ok u:=by
 induction u using Nat.strongRecOn with
 | ind u ih=>
  rw [decDigits]
  split
  ·rename_i h10
   simp only [parseUint10,digit_toNat u h10]
   rw [if_pos (by omega),if_neg (by omega),if_neg (by omega)]
   congr 1; omega
  ·rename_i h10
   rw [parse_append,ih (u / 10) (by omega) (by omega)]
   simp only [parseUint10,digit_toNat (u % 10) (by omega)]
   rw [if_pos (by omega),if_neg (by omega),if_neg (by omega)]
   congr 1; omega
theorem atoi_itoa (n:Int) (h:InR n):atoiAll (itoa n) = .ok n:=by
 obtain ⟨h1,h2⟩:=h
 unfold itoa
 split
 ·rename_i hn
  rw [atoiAll_minus]
  have hp:parseMag (decDigits n.natAbs) = .ok n.natAbs:=by
   unfold parseMag
   rw [if_neg (decDigits_ne _),parse_dec _ (by omega)]
  rw [hp]
  simp only [signed]
  rw [if_neg (by omega)]
  congr 1; omega
 ·rename_i hn
  obtain ⟨c,r,hc⟩:∃ c r,decDigits n.toNat = c :: r:=by
   cases hd:decDigits n.toNat with
   | nil=>exact absurd hd (decDigits_ne _)
   | cons c r=>exact ⟨c,r,rfl⟩
  have hcd:=decDigits_digit n.toNat c (by rw [hc]; simp)
  rw [hc,atoiAll_plain c r (by omega) (by omega),← hc]
  have hp:parseMag (decDigits n.toNat) = .ok n.toNat:=by
   unfold parseMag
   rw [if_neg (decDigits_ne _),parse_dec _ (by omega)]
  rw [hp]
  simp only [signless]
  rw [if_neg (by omega)]
  congr 1; omega
theorem canon_itoa (n:Int) (h:InR n):canon (itoa n) = some n:=by
 unfold canon
 rw [atoi_itoa n h]
 simp
theorem canon_some (l:Bytes) (n:Int) (h:canon l = some n):l = itoa n ∧ InR n:=by
 unfold canon at h
 split at h
 ·rename_i v hv
  split at h
  ·rename_i he
   cases h
   exact ⟨he.symm,atoiAll_bounds hv⟩
  ·cases h
 ·cases h
theorem itoa_len (n:Int) (h:InR n):(itoa n).length ≤ 20:=by
 obtain ⟨h1,h2⟩:=h
 unfold itoa
 split
 ·have:=decDigits_len n.natAbs 19 (by omega) (by omega)
  simp; omega
 ·have:=decDigits_len n.toNat 19 (by omega) (by omega)
  omega
theorem itoa_byte (n:Int):∀ c ∈ itoa n,c.toNat = 45 ∨ (48 ≤ c.toNat ∧ c.toNat ≤ 57):=by
 intro c hc
 unfold itoa at hc
 split at hc
 ·rcases List.mem_cons.1 hc with rfl | hc
  ·left; rfl
  ·right; exact decDigits_digit _ c hc
 ·right; exact decDigits_digit _ c hc
theorem takeWhile_num (n:Int) (hn:InR n) (e:UInt8) (he:58 ≤ e.toNat) (t:Bytes):((itoa n ++ e :: t).take 21).takeWhile (· != e) = itoa n ∧ (itoa n).length < ((itoa n ++ e :: t).take 21).length:=by
 have hl:=itoa_len n hn
 have h1:(itoa n ++ e :: t).take 21 = itoa n ++ (e :: t).take (21 - (itoa n).length):=by
  rw [List.take_append,List.take_of_length_le (by omega)]
 obtain ⟨k,hk⟩:∃ k,21 - (itoa n).length = k + 1:=⟨20 - (itoa n).length,by omega⟩
 rw [hk,List.take_succ_cons] at h1
 rw [h1]
 refine ⟨?_,by simp⟩
 rw [List.takeWhile_append_of_pos]
 ·simp
 ·intro c hc
  have:=itoa_byte n c hc
  simp only [bne_iff_ne,ne_eq]
  rintro rfl
  omega
theorem rdNumber_enc (n:Int) (hn:InR n) (e:UInt8) (he:58 ≤ e.toNat) (least:Int) (hl:least ≤ n) (t:Bytes) (b:Bool):rdNumber ⟨itoa n ++ e :: t,b⟩ e least = (n,⟨t,b⟩):=by
 obtain ⟨h1,h2⟩:=takeWhile_num n hn e he t
 unfold rdNumber
 simp only [h1]
 rw [if_pos h2,canon_itoa n hn]
 simp only
 rw [if_neg (by omega)]
 have:(itoa n ++ e :: t).drop ((itoa n).length + 1) = t:=by
  rw [← List.drop_drop,List.drop_left]; rfl
 rw [this]
theorem rdNumber_some (r:Rd) (e:UInt8) (least:Int):rdNumber r e least = (0,failed) ∨ ∃ n t,rdNumber r e least = (n,⟨t,r.bad⟩) ∧ r.rest = itoa n ++ e :: t ∧ InR n ∧ least ≤ n:=by
 unfold rdNumber
 split
 ·rename_i hlt
  split
  ·rename_i n hc
   split
   ·exact .inl rfl
   ·rename_i hle
    obtain ⟨h1,h2⟩:=canon_some _ _ hc
    refine .inr ⟨n,_,rfl,?_,h2,by omega⟩
    generalize hp:(r.rest.take 21).takeWhile (· != e) = p at *
    have hpre:r.rest.take 21 = p ++ (r.rest.take 21).drop p.length:=by
     have:=List.takeWhile_append_dropWhile (p:=(· != e)) (l:=r.rest.take 21)
     rw [hp] at this
     conv=>lhs; rw [← this]
     congr 1
     conv=>rhs; rw [← this]
     rw [List.drop_left]
    have hdw:(r.rest.take 21).dropWhile (· != e) = (r.rest.take 21).drop p.length:=by
     have:=List.takeWhile_append_dropWhile (p:=(· != e)) (l:=r.rest.take 21)
     rw [hp] at this
     conv=>rhs; rw [← this]
     rw [List.drop_left]
    have hpl:p.length < r.rest.length:=by
     have:=List.length_take_le 21 r.rest
     rw [List.length_take] at hlt
     omega
    have hhead:∃ t',(r.rest.take 21).drop p.length = e :: t':=by
     cases hd:(r.rest.take 21).drop p.length with
     | nil=>rw [List.drop_eq_nil_iff] at hd; omega
     | cons x t'=>
      rw [hd] at hdw
      have:=List.head_dropWhile_not (· != e) (l:=r.rest.take 21) (by rw [hdw]; simp)
      simp only [hdw,List.head_cons] at this
      have hx:x = e:=by simpa using this
      exact ⟨t',by rw [hx]⟩
    obtain ⟨t',ht'⟩:=hhead
    have hget:r.rest[p.length]? = some e:=by
     have h3:(r.rest.take 21)[p.length]? = some e:=by
      have:=congrArg (fun l=>l[0]?) ht'
      simpa using this
     rw [List.getElem?_take] at h3
     split at h3
     ·exact h3
     ·cases h3
    have htk:r.rest.take p.length = p:=by
     have h4:=congrArg (List.take p.length) hpre
     rw [List.take_left,List.take_take,Nat.min_eq_left (by rw [List.length_take] at hlt; omega)] at h4
     exact h4
    have hsplit:r.rest = r.rest.take p.length ++ r.rest.drop p.length:=(List.take_append_drop _ _).symm
    have hdrop:r.rest.drop p.length = e :: r.rest.drop (p.length + 1):=by
     rw [List.drop_eq_getElem_cons hpl]
     congr 1
     rw [List.getElem?_eq_getElem hpl] at hget
     simpa using hget
    rw [htk,hdrop] at hsplit
    rw [← h1]
    exact hsplit
  ·exact .inl rfl
 ·exact .inl rfl
def Rd.ok (r:Rd):Prop:=r.bad = true → r.rest = []
theorem Rd.ok_failed:failed.ok:=fun _=>rfl
theorem Rd.ok_good {t:Bytes}:Rd.ok ⟨t,false⟩:=fun h=>by cases h
theorem Rd.eq_failed {r:Rd} (h:r.ok) (hb:r.bad = true):r = failed:=by
 cases r with
 | mk rest bad=>
  have:=h hb
  simp only at hb this
  subst hb; subst this; rfl
theorem rdNumber_ok (r:Rd) (h:r.ok) (e:UInt8) (least:Int):(rdNumber r e least).2.ok:=by
 rcases rdNumber_some r e least with h1 | ⟨n,t,h1,h2,_⟩
 ·rw [h1]; exact Rd.ok_failed
 ·rw [h1]
  intro hb
  have:=h hb
  rw [this] at h2
  simp at h2
theorem rdClose_some (r:Rd) (c:UInt8):rdClose r c = failed ∨ ∃ t,r.rest = c :: t ∧ rdClose r c = ⟨t,r.bad⟩:=by
 unfold rdClose
 split
 ·exact .inl rfl
 ·rename_i x t hx
  split
  ·rename_i hc
   subst hc
   exact .inr ⟨t,hx,rfl⟩
  ·exact .inl rfl
theorem rdClose_cons (c:UInt8) (t:Bytes) (b:Bool):rdClose ⟨c :: t,b⟩ c = ⟨t,b⟩:=by simp [rdClose]
theorem rdClose_failed (c:UInt8):rdClose failed c = failed:=rfl
theorem rdInt_some (r:Rd) (hr:r.ok):rdInt r = (0,failed) ∨ ∃ n t,rdInt r = (n,⟨t,false⟩) ∧ r = ⟨encInt n ++ t,false⟩ ∧ InR n:=by
 rcases rdNumber_some r 59 (-9223372036854775808) with h1 | ⟨n,t,h1,h2,h3,h4⟩
 ·exact .inl h1
 ·rcases hb:r.bad with _ | _
  ·right
   rw [hb] at h1
   obtain ⟨rest,bad⟩:=r
   simp only at hb h2
   subst hb
   exact ⟨n,t,h1,by rw [h2]; simp [encInt],h3⟩
  ·rw [hr hb] at h2; simp at h2
theorem rdInt_enc (n:Int) (hn:InR n) (t:Bytes):rdInt ⟨encInt n ++ t,false⟩ = (n,⟨t,false⟩):=by
 have:=rdNumber_enc n hn 59 (by decide) (-9223372036854775808) hn.1 t false
 simpa [rdInt,encInt] using this
theorem itemsGo_some {α:Type} (one:Rd → α × Rd) (enc:α → Bytes) (P:α → Prop) (hone:∀ r:Rd,r.ok → (one r).2 = failed ∨ ∃ v t,one r = (v,⟨t,false⟩) ∧ r = ⟨enc v ++ t,false⟩ ∧ P v):∀ (n:Nat) (r:Rd),r.ok →
  (itemsGo one n r).2 = failed ∨ ∃ vs t,itemsGo one n r = (vs,⟨t,r.bad⟩) ∧ vs.length = n ∧ r.rest = (vs.map enc).flatten ++ t ∧ ∀ v ∈ vs,P v
 | 0,r,_=>.inr ⟨[],r.rest,rfl,rfl,by simp,by simp⟩
 | n + 1,r,hr=>by
  unfold itemsGo
  split
  ·rename_i hb
   left
   exact Rd.eq_failed hr hb
  ·rename_i hb
   have hb:r.bad = false:=by simpa using hb
   rcases hone r hr with h1 | ⟨v,t,h1,h2,h3⟩
   ·left
    rw [h1]
    have:∀ n,(itemsGo one n failed).2 = failed:=by
     intro n
     cases n with
     | zero=>rfl
     | succ n=>rfl
    exact this n
   ·rw [h1]
    have hok:Rd.ok ⟨t,false⟩:=Rd.ok_good
    rcases itemsGo_some one enc P hone n _ hok with h4 | ⟨vs,t',h4,h5,h6,h7⟩
    ·left; exact h4
    ·right
     rw [h4]
     refine ⟨v :: vs,t',by rw [hb],by simp [h5],?_,?_⟩
     ·rw [h2]
      simp only at h6
      simp [h6]
     ·intro x hx
      rcases List.mem_cons.1 hx with rfl | hx
      ·exact h3
      ·exact h7 x hx
theorem rdItems_some {α:Type} (one:Rd → α × Rd) (enc:α → Bytes) (P:α → Prop) (hone:∀ r:Rd,r.ok → (one r).2 = failed ∨ ∃ v t,one r = (v,⟨t,false⟩) ∧ r = ⟨enc v ++ t,false⟩ ∧ P v) (r:Rd) (hr:r.ok) :
  rdItems one r = ([],failed) ∨ ∃ vs t,rdItems one r = (vs,⟨t,false⟩) ∧ r = ⟨encList (vs.map enc) ++ t,false⟩ ∧ (vs.length:Int) ≤ 9223372036854775807 ∧ ∀ v ∈ vs,P v:=by
 have hf:∀ {q:Rd},q = failed → (if (rdClose q 93).bad = true then (([]:List α),rdClose q 93) else ((itemsGo one (rdNumber r 91 0).1.toNat (rdNumber r 91 0).2).1,rdClose q 93)) = ([],failed):=by
  rintro q rfl
  rw [rdClose_failed]; rfl
 rcases rdNumber_some r 91 0 with h1 | ⟨n,t,h1,h2,h3,h4⟩
 ·left
  unfold rdItems
  exact hf (by rw [h1]; rfl)
 ·rcases hb:r.bad with _ | _
  ·rw [hb] at h1
   rcases itemsGo_some one enc P hone n.toNat ⟨t,false⟩ Rd.ok_good with h5 | ⟨vs,t',h5,h6,h7,h8⟩
   ·left
    unfold rdItems
    exact hf (by rw [h1]; exact h5)
   ·unfold rdItems
    rw [h1]
    dsimp only
    rw [h5]
    dsimp only
    rcases rdClose_some ⟨t',false⟩ 93 with h9 | ⟨t'',h9,h10⟩
    ·left; rw [h9]; rfl
    ·right
     rw [h10]
     refine ⟨vs,t'',rfl,?_,by have:=h3.2; omega,h8⟩
     have hn:(vs.length:Int) = n:=by omega
     obtain ⟨rest,bad⟩:=r
     simp only at hb h2 h7 h9
     subst hb
     rw [h2,h7,h9]
     simp [encList,hn]
  ·rw [hr hb] at h2; simp at h2
theorem itemsGo_enc {α:Type} (one:Rd → α × Rd) (enc:α → Bytes) (vs:List α) (t:Bytes) (h:∀ v ∈ vs,∀ t,one ⟨enc v ++ t,false⟩ = (v,⟨t,false⟩)):itemsGo one vs.length ⟨(vs.map enc).flatten ++ t,false⟩ = (vs,⟨t,false⟩):=by
 induction vs with
 | nil=>rfl
 | cons v vs ih=>
  have h1:=h v (by simp) ((vs.map enc).flatten ++ t)
  have h2:=ih (fun x hx=>h x (by simp [hx]))
  have e:((v :: vs).map enc).flatten ++ t = enc v ++ ((vs.map enc).flatten ++ t):=by simp
  rw [e,List.length_cons]
  unfold itemsGo
  rw [if_neg (by simp),h1]
  dsimp only
  rw [h2]
theorem rdItems_enc {α:Type} (one:Rd → α × Rd) (enc:α → Bytes) (vs:List α) (t:Bytes) (hl:(vs.length:Int) ≤ 9223372036854775807) (h:∀ v ∈ vs,∀ t,one ⟨enc v ++ t,false⟩ = (v,⟨t,false⟩)):rdItems one ⟨encList (vs.map enc) ++ t,false⟩ = (vs,⟨t,false⟩):=by
 have h1:=rdNumber_enc vs.length ⟨by omega,hl⟩ 91 (by decide) 0 (by omega) ((vs.map enc).flatten ++ 93 :: t) false
 have e:encList (vs.map enc) ++ t = itoa vs.length ++ 91 :: ((vs.map enc).flatten ++ 93 :: t):=by simp [encList]
 have h2:=itemsGo_enc one enc vs (93 :: t) h
 have h3:((vs.length:Int)).toNat = vs.length:=by simp
 unfold rdItems
 rw [e,h1]
 dsimp only
 rw [h3,h2]
 dsimp only
 rw [rdClose_cons]
 rfl
theorem rdNums_enc (vs:List Int) (t:Bytes) (hl:(vs.length:Int) ≤ 9223372036854775807) (h:∀ v ∈ vs,InR v):rdNums ⟨encNums vs ++ t,false⟩ = (vs,⟨t,false⟩):=
 rdItems_enc rdInt encInt vs t hl (fun v hv t=>rdInt_enc v (h v hv) t)
theorem rdNums_some (r:Rd) (hr:r.ok):rdNums r = ([],failed) ∨ ∃ vs t,rdNums r = (vs,⟨t,false⟩) ∧ r = ⟨encNums vs ++ t,false⟩ ∧ (vs.length:Int) ≤ 9223372036854775807 ∧ ∀ v ∈ vs,InR v:=
 rdItems_some rdInt encInt InR (fun r hr=>by
  rcases rdInt_some r hr with h | ⟨n,t,h1,h2,h3⟩
  ·left; rw [h]
  ·right; exact ⟨n,t,h1,h2,h3⟩) r hr
end CodeSpec
namespace Go.Proofs.Cd
open Go Go.Sh Go.RowKit Go.Lib CodeSpec
theorem ba_extract (l:List UInt8) (i j:Nat):(⟨l.toArray⟩:ByteArray).extract i j = ⟨((l.take j).drop i).toArray⟩:=by
 apply ByteArray.ext
 rw [← Array.toList_inj,ByteArray.data_extract,Array.toList_extract,List.extract_eq_take_drop]
 simp [List.drop_take]
theorem ba_inj (a b:List UInt8):((⟨a.toArray⟩:ByteArray) = ⟨b.toArray⟩) = (a = b):=by
 simp
theorem ba_byteAt (l:List UInt8) (k:Nat):byteAt ⟨l.toArray⟩ k = l.getD k 0:=by
 simp [byteAt]
attribute [go_sem] ba_size ba_append ba_extract ba_byteAt ba_inj
theorem K_eq {K:Value → World → Prop} {w:World} {a b:Value} (h:K a w) (e:b = a):K b w:=by rw [e]; exact h
theorem call_of_calls {f:FuncId} {args:Array Value} {w:World} {v:Value} {Q:World → Prop} {K:Value → World → Prop} (h:Calls Tryz.prog f args w fun e w'=>e = .returned v ∧ Q w') (k:∀ w',Q w' → K v w'):callM Tryz.prog f args K w:=
 Calls.mono h (fun _ w' ⟨he,hq⟩=>⟨v,he,k w' hq⟩)
structure Laid (w:World):Prop where
 tab:TabIs Tryz.prog w tabName .u64 pow10Tab
 size:8 ≤ w.heap.size
structure LaidE (w:World):Prop extends Laid w where
 syn:∃ te pe,w.cell? ⟨5,0,none⟩ = some (.iface te pe)
 ran:∃ te pe,w.cell? ⟨6,0,none⟩ = some (.iface te pe)
theorem gTab:Tryz.prog.globalNamed tabName = some 3:=by kernel_rfl
theorem Laid.keep {w w':World} (h:Laid w) (hb:∀ k,k < 8 → w'.heap[k]? = w.heap[k]?) (hs:w.heap.size ≤ w'.heap.size):Laid w':=by
 refine ⟨?_,Nat.le_trans h.size hs⟩
 have h1:=h.tab
 unfold TabIs World.var? at h1 ⊢
 rw [gTab] at h1 ⊢
 simp only [Option.bind_some] at h1 ⊢
 rw [hb _ (by omega)]
 exact h1
theorem Laid.below {w w':World} (h:Laid w) {B:Nat} (hb:Below B w w') (hB:8 ≤ B):Laid w':=h.keep (fun k hk=>hb.block k (by omega)) hb.size
theorem Laid.grown {w w':World} (h:Laid w) {b:Nat} (hg:w.grownBy w' (some b)) (hb:8 ≤ b):Laid w':=h.keep (fun k hk=>hg.block k (by have:=h.size; omega) (by simp; omega)) hg.size
theorem LaidE.keep {w w':World} (h:LaidE w) (hb:∀ k,k < 8 → w'.heap[k]? = w.heap[k]?) (hs:w.heap.size ≤ w'.heap.size):LaidE w':=by
 have hc:∀ k,k < 8 → w'.cell? ⟨k,0,none⟩ = w.cell? ⟨k,0,none⟩:=fun k hk=>World.cell?_of_block (w:=w) (hb k hk)
 refine ⟨h.toLaid.keep hb hs,?_,?_⟩
 ·rw [hc _ (by omega)]; exact h.syn
 ·rw [hc _ (by omega)]; exact h.ran
theorem LaidE.below {w w':World} (h:LaidE w) {B:Nat} (hb:Below B w w') (hB:8 ≤ B):LaidE w':=h.keep (fun k hk=>hb.block k (by omega)) hb.size
theorem LaidE.grown {w w':World} (h:LaidE w) {b:Nat} (hg:w.grownBy w' (some b)) (hb:8 ≤ b):LaidE w':=h.keep (fun k hk=>hg.block k (by have:=h.toLaid.size; omega) (by simp; omega)) hg.size
theorem grown_of_below {w w':World} (h:Below w.heap.size w w') (b:Option Nat):w.grownBy w' b:=⟨h.os,h.tape,h.output,h.size,fun k hk _=>h.block k hk⟩
theorem below_of_grown {B:Nat} {w w':World} {row:Option Nat} (h:w.grownBy w' row) (hB:B ≤ w.heap.size) (hr:∀ k,row = some k → B ≤ k):Below B w w':=
 (Below.refl B w).grown h hB hr
theorem itoa_ok (n:Int) (hn:InR n) {K:Value → World → Prop} {w:World} (hl:Laid w) (k:∀ w',Below w.heap.size w w' → K (.string ⟨(itoa n).toArray⟩) w'):callM Tryz.prog 196 #[.int .i64 n] K w:=by
 refine call_of_calls (Tryz.strconv_Itoa n hn.1 hn.2 w hl.tab) ?_
 rintro w' ⟨d,os,rfl⟩
 exact k _ (below_grow _ _ (Nat.le_refl _) _ _)
theorem below_bytesWorld (w:World) (T:TypeId) (t:ByteArray):Below w.heap.size w (bytesWorld w T t):=
 ⟨rfl,rfl,rfl,by rw [bytesWorld_size]; omega,fun k hk=>bytesWorld_at_old w T t k hk⟩
theorem atoi_ok (s:List UInt8) (hs:s.length ≤ 281474976710656) {K:Value → World → Prop} {w:World} (hl:LaidE w)
  (k1:∀ n w',atoiAll s = .ok n → Below w.heap.size w w' → K (.tuple #[.int .i64 n,.nilIface]) w')
  (k2:∀ v te pe w',(∀ n,atoiAll s ≠ .ok n) → Below w.heap.size w w' → K (.tuple #[.int .i64 v,.iface te pe]) w'):callM Tryz.prog 225 #[.string ⟨s.toArray⟩] K w:=by
 cases h:atoiAll s with
 | ok n=>
  refine call_of_calls (Tryz.strconv_Atoi_ok ⟨s.toArray⟩ (by rw [ba_size]; omega) n (by rw [ba_list]; exact h) w) ?_
  rintro w' (rfl | ⟨t,rfl⟩)
  ·exact k1 n _ h (Below.refl _ _)
  ·exact k1 n _ h (below_bytesWorld _ _ _)
 | «syntax»=>
  obtain ⟨te,pe,he⟩:=hl.syn
  refine Calls.mono (Tryz.strconv_Atoi_syntax ⟨s.toArray⟩ (by rw [ba_size]; omega) (by rw [ba_list]; exact h) _ w he (.inr ⟨_,_,rfl⟩)) ?_
  rintro e w' ⟨N,rfl,_,_,hb⟩
  exact ⟨_,rfl,k2 _ _ _ _ (fun n e=>by rw [h] at e; cases e) hb⟩
 | range=>
  obtain ⟨te,pe,he⟩:=hl.ran
  refine Calls.mono (Tryz.strconv_Atoi_range ⟨s.toArray⟩ (by rw [ba_size]; omega) (by rw [ba_list]; exact h) _ w he (.inr ⟨_,_,rfl⟩)) ?_
  rintro e w' ⟨N,rfl,_,_,hb⟩
  exact ⟨_,rfl,k2 _ _ _ _ (fun n e=>by rw [h] at e; cases e) hb⟩
theorem indexByte_ok (s:List UInt8) (c:UInt8) {K:Value → World → Prop} {w:World} (h:K (.int .i64 (indexByte s c)) w):callM Tryz.prog 223 #[.string ⟨s.toArray⟩,.int .u8 c.toNat] K w:=by
 refine call_of_calls (Tryz.strings_IndexByte ⟨s.toArray⟩ c.toNat w) ?_
 rintro w' rfl
 have:((c.toNat:Int)).toNat.toUInt8 = c:=by simp
 rw [ba_list,this]
 exact h
theorem cutPrefix_ok (s p:List UInt8) {K:Value → World → Prop} {w:World} (h:K (.tuple #[.string ⟨(trimPrefix s p).toArray⟩,.bool (hasPrefix s p)]) w):callM Tryz.prog 226 #[.string ⟨s.toArray⟩,.string ⟨p.toArray⟩] K w:=by
 refine call_of_calls (Tryz.strings_CutPrefix ⟨s.toArray⟩ ⟨p.toArray⟩ w) ?_
 rintro w' rfl
 exact h
theorem infoB:Tryz.prog.info? 213 = some Tryz.t213:=by kernel_rfl
theorem sizeB:Tryz.t213.size = 2:=by kernel_rfl
theorem liesB (b:Nat):liesAt Tryz.prog Tryz.prog.depth 213 (2 / Tryz.prog.cellsOf 213) (⟨b,0,none⟩:Addr).off 213 1 = true:=by kernel_rfl
theorem runNE (x:Value) (w:World):(callFunc 235 #[x]).run Tryz.prog w = .ok (.value x) w:=by kernel_rfl
theorem extNE {x:Value} {K:Value → World → Prop} {w:World} (k:K x w):extM Tryz.prog 235 #[x] K w:=by
 unfold extM opM
 rw [runNE]
 exact k
theorem copyCheck_nil (B b:Nat) (bs:List Value) (w:World) (h:BuilderAt 213 5 B b (.pointer none) bs w) {K:Value → World → Prop}
  (k:K (.tuple #[]) (w.setCell ⟨b,0,none⟩ (.pointer (some ⟨b,0,none⟩)))):callM Tryz.prog 221 #[.pointer (some ⟨b,0,none⟩)] K w:=by
 apply sh_221_ok
 unfold sh_221
 have hc:=h.cell0
 have hf:=h.frozen0
 have hv1:(convert 211 245 (.pointer (some ⟨b,0,none⟩))).run Tryz.prog w = .ok (.pointer (some ⟨b,0,none⟩)) w:=
  run_to_unsafe (P:=Tryz.prog) (w:=w) (a:=⟨b,0,none⟩) Tryz.underlying211 Tryz.underlying245 (t:=213) (j:=Tryz.t213) infoB (by rw [sizeB]; omega) h.shape (by show (0:Nat) < 2; omega)
 have hv2:(convert 245 211 (.pointer (some ⟨b,0,none⟩))).run Tryz.prog w = .ok (.pointer (some ⟨b,0,none⟩)) w:=
  run_from_unsafe (P:=Tryz.prog) (w:=w) (a:=⟨b,0,none⟩) Tryz.underlying245 Tryz.underlying211 (u:=213) (j:=Tryz.t213) infoB h.shape (liesB b)
 repeat (any_goals (first
 | (with_reducible refine extNE ?_)
 | (with_reducible refine yL ?_)
 | ((with_reducible refine oM_gen fun Kv hK=>?_); simp [go_sem,oM_eqc,eqGuard,hc,hf,hv1,hv2]; refine hK _ _ ?_; clear hK Kv)))
 exact k
theorem copyCheck_self (B b:Nat) (bs:List Value) (w:World) (h:BuilderAt 213 5 B b (.pointer (some ⟨b,0,none⟩)) bs w) {K:Value → World → Prop}
  (k:K (.tuple #[]) w):callM Tryz.prog 221 #[.pointer (some ⟨b,0,none⟩)] K w:=by
 apply sh_221_ok
 unfold sh_221
 have hc:=h.cell0
 have hf:=h.frozen0
 have hn:=run_neq_ptr_same (P:=Tryz.prog) (w:=w) (tp:=211) (te:=213) (j:=Tryz.t213) (a:=⟨b,0,none⟩) Tryz.underlying211 infoB
 repeat (any_goals (first
 | (with_reducible refine yM ?_)
 | ((with_reducible refine oM_gen fun Kv hK=>?_); simp [go_sem,oM_eqc,oM_net,eqGuard,hc,hf,hn]; refine hK _ _ ?_; clear hK Kv)))
 exact k
theorem copyCheck_ok (B b:Nat) (bs:List Value) (w:World) (h:IsBuilder 213 5 B b bs w) {K:Value → World → Prop}
  (k:∀ w',BuilderAt 213 5 B b (.pointer (some ⟨b,0,none⟩)) bs w' → w.grownBy w' (some b) → w'.heap.size = w.heap.size → K (.tuple #[]) w'):callM Tryz.prog 221 #[.pointer (some ⟨b,0,none⟩)] K w:=by
 rcases h with h | h
 ·refine copyCheck_nil B b bs w h (k _ (h.used _) ⟨rfl,rfl,rfl,by simp [World.setCell],fun i _ hi=>Below.heap_setCell _ _ _ _ (fun e=>hi (by simp [e]))⟩ (by simp [World.setCell]))
 ·exact copyCheck_self B b bs w h (k _ h ⟨rfl,rfl,rfl,Nat.le_refl _,fun _ _ _=>rfl⟩ rfl)
theorem ownsRow_slice {w:World} {B:Nat} {e:TypeId} {sz:Nat} {v:Value} {n:Nat} {xs:List Value} (h:w.ownsRow B e sz v n xs):∃ a m c,v = .slice a m c:=by
 rcases h.2 with ⟨h,_⟩ | ⟨g,cap,cur,h,_⟩
 ·exact ⟨_,_,_,h⟩
 ·exact ⟨_,_,_,h⟩
theorem builderString_ok (B b:Nat) (l:List UInt8) (w:World) (h:IsBuilder 213 5 B b (Lib.byteCells l) w) (hBw:B ≤ w.heap.size) {K:Value → World → Prop} (k:∀ w',Below B w w' → K (.string ⟨l.toArray⟩) w'):callM Tryz.prog 206 #[.pointer (some ⟨b,0,none⟩)] K w:=
 call_of_calls (Tryz.Builder_String_any B b l w h hBw) k
theorem writeString_ok (B b:Nat) (l s:List UInt8) (w:World) (h:IsBuilder 213 5 B b (Lib.byteCells l) w) (hlen:l.length + s.length ≤ 140737488355328) (hBw:B ≤ w.heap.size) {K:Value → World → Prop}
  (k:∀ w',IsBuilder 213 5 B b (Lib.byteCells (l ++ s)) w' → Below B w w' → K (.tuple #[.int .i64 s.length,.nilIface]) w'):callM Tryz.prog 205 #[.pointer (some ⟨b,0,none⟩),.string ⟨s.toArray⟩] K w:=by
 apply sh_205_ok
 unfold sh_205
 refine copyCheck_ok B b _ w h ?_
 intro w1 h1 hg1 hs1
 obtain ⟨hB,v,hb,hown,hne⟩:=h1
 have hc1:w1.cell? ⟨b,1,none⟩ = some v:=by simp [World.cell?,hb]
 have hbl:Below B w w1:=below_of_grown hg1 hBw (fun k hk=>by cases hk; exact hB)
 have hbl5:(Lib.byteCells l).length = l.length:=by simp [Lib.byteCells]
 repeat (any_goals ((with_reducible refine oM_gen fun Kv hK=>?_); simp [go_sem,hc1]; refine hK _ _ ?_; clear hK Kv))
 obtain ⟨v',w2,hrun,ho,hg,_⟩:=run_append_own_string (P:=Tryz.prog) w1 B 202 9 202 5 Tryz.t5 Tryz.underlying202 Tryz.underlying9 (by kernel_rfl) (by kernel_rfl) (by kernel_rfl) (by kernel_rfl) v (Lib.byteCells l).length (Lib.byteCells l) hown ⟨s.toArray⟩ (by unfold maxLen; rw [ba_size]; omega) (by rw [ba_size]; omega) (by omega)
 rw [oM_value (S:=Builtin.append_ #[202,9] 202 #[v,.string ⟨s.toArray⟩]) (by simp [xop,execOp,evalL,evE,resolve,invoke,builtin]),hrun,ok_iff]
 have hb2:w2.heap[b]? = some (.cells #[.pointer (some ⟨b,0,none⟩),v] 213 (0,0)):=by
  rw [hg.block b (by have:=(Array.getElem?_eq_some_iff.1 hb).1; exact this) (fun e=>hne e.symm)]
  exact hb
 have hc2:w2.cell? ⟨b,1,none⟩ = some v:=by simp [World.cell?,hb2]
 have hf2:w2.frozen? ⟨b,1,none⟩ = false:=by simp [World.frozen?,hb2]
 have ho':w2.ownsRow B 5 1 v' (Lib.byteCells (l ++ s)).length (Lib.byteCells (l ++ s)):=by
  have e:Lib.byteCells l ++ strCells ⟨s.toArray⟩ = Lib.byteCells (l ++ s):=by simp [Lib.byteCells,strCells]
  have e2:(Lib.byteCells l).length + (⟨s.toArray⟩:ByteArray).size = (Lib.byteCells (l ++ s)).length:=by rw [ba_size]; simp [Lib.byteCells]
  rw [e,e2] at ho
  exact ho
 have hput:=BuilderAt.put (p:=.pointer (some ⟨b,0,none⟩)) hB hb2 ho' (by decide)
 have hbl2:Below B w w2:=hbl.trans (below_of_grown hg (by omega) (fun k hk=>(hown.lt k hk).1))
 obtain ⟨av,nv,cv,rfl⟩:=ownsRow_slice ho
 repeat (any_goals ((with_reducible refine oM_gen fun Kv hK=>?_); simp [go_sem,hc2,hf2]; refine hK _ _ ?_; clear hK Kv))
 exact k _ (.inr hput) (hbl2.setCell hB _)
end Go.Proofs.Cd
namespace Go.Proofs.Cd
open Go Go.Sh Go.RowKit Go.Lib CodeSpec
def intV (n:Int):Value:=.int .i64 n
def RowOf {α:Type} (mk:α → Value) (w:World) (v:Value) (l:List α):Prop:=
 ∃ ad c,v = .slice ad l.length c ∧ (l = [] ∨ ∃ b o,ad = some ⟨b,o,none⟩ ∧ b < w.heap.size ∧ ∀ (i:Nat) (h:i < l.length),w.cell? ⟨b,o + i,none⟩ = some (mk l[i]))
theorem RowOf.below {α:Type} {mk:α → Value} {w w':World} {v:Value} {l:List α} (h:RowOf mk w v l) (hb:Below w.heap.size w w'):RowOf mk w' v l:=by
 obtain ⟨ad,c,rfl,h⟩:=h
 refine ⟨ad,c,rfl,h.imp id ?_⟩
 rintro ⟨b,o,rfl,hlt,hc⟩
 exact ⟨b,o,rfl,Nat.lt_of_lt_of_le hlt hb.size,fun i hi=>by rw [hb.cell hlt]; exact hc i hi⟩
theorem RowOf.nil {α:Type} (mk:α → Value) (w:World) (ad:Option Addr) (c:Nat):RowOf mk w (.slice ad 0 c) []:=⟨ad,c,rfl,.inl rfl⟩
theorem addr_add (b o k:Nat):(⟨b,o,none⟩:Addr).add k = ⟨b,o + k,none⟩:=by
 unfold Addr.add
 split
 ·rename_i h0; rw [h0]; simp
 ·rfl
theorem RowOf.of_owns {α:Type} {mk:α → Value} {w:World} {B:Nat} {e:TypeId} {v:Value} {l:List α} (h:w.ownsRow B e 1 v l.length (l.map mk)):RowOf mk w v l:=by
 rcases h.2 with ⟨rfl,h0⟩ | ⟨g,cap,cur,rfl,hb,hg,hn,hm,hcs,ht⟩
 ·obtain rfl:l = []:=List.eq_nil_of_length_eq_zero h0
  exact RowOf.nil _ _ _ _
 ·refine ⟨_,cap,rfl,.inr ⟨g,0,rfl,(Array.getElem?_eq_some_iff.1 hg).1,fun i hi=>?_⟩⟩
  have:(l.map mk)[i]? = some (mk l[i]):=by simp [hi]
  rw [← ht,List.getElem?_take_of_lt (by omega)] at this
  unfold World.cell?
  rw [hg]
  simpa using this
theorem idx22 {b o n c k:Nat} (hk:k < n) (w:World):(Instr.indexAt 24 (.slice (some ⟨b,o,none⟩) n c) (.int .i64 k)).run Tryz.prog w = .ok (.pointer (some ⟨b,o + k,none⟩)) w:=by
 rw [run_indexAt_slice (h:=by kernel_rfl),if_pos (by omega)]
 have hs:(sizeOf (Tryz.prog.elem 24)).run Tryz.prog w = .ok 1 w:=by kernel_rfl
 rw [hs]
 simp only [Result.andThen,Int.toNat_natCast,addr_add,Nat.mul_one]
theorem encInt_len (n:Int) (h:InR n):(encInt n).length ≤ 21:=by
 have:=itoa_len n h
 simp [encInt]; omega
theorem pInt_ok (n:Int) (hn:InR n) {K:Value → World → Prop} {w:World} (hl:Laid w) (k:∀ w',Below w.heap.size w w' → K (.string ⟨(encInt n).toArray⟩) w'):callM Tryz.prog 175 #[.int .i64 n] K w:=by
 apply sh_175_ok
 unfold sh_175
 refine itoa_ok n hn hl ?_
 intro w1 hb
 have:=itoa_len n hn
 repeat (any_goals ((with_reducible refine oM_gen fun Kv hK=>?_); simp [go_sem]; refine And.intro (by omega) (hK _ _ ?_); clear hK Kv))
 exact K_eq (k _ hb) (by simp [encInt])
theorem encText_len (s:List UInt8) (hs:(s.length:Int) ≤ 9223372036854775807):(encText s).length ≤ s.length + 22:=by
 have:=itoa_len s.length ⟨by omega,hs⟩
 simp [encText]; omega
theorem flat_snoc {α:Type} (enc:α → List UInt8) (xs:List α) (k:Nat) (h:k < xs.length):((xs.take (k + 1)).map enc).flatten = ((xs.take k).map enc).flatten ++ enc xs[k]:=by
 rw [List.take_add_one,List.getElem?_eq_getElem h]
 simp only [Option.toList_some,List.map_append,List.map_cons,List.map_nil,List.flatten_append,List.flatten_cons,List.flatten_nil,List.append_nil]
theorem flat_le {α:Type} (enc:α → List UInt8) (xs:List α) (k:Nat):((xs.take k).map enc).flatten.length ≤ (xs.map enc).flatten.length:=by
 conv=>rhs; rw [← List.take_append_drop k xs]
 rw [List.map_append,List.flatten_append,List.length_append]
 omega
theorem IsBuilder.below {T e:TypeId} {B b:Nat} {bs:List Value} {w w':World} (h:IsBuilder T e B b bs w) (hb:Below w.heap.size w w'):IsBuilder T e B b bs w':=by
 have key:∀ p,BuilderAt T e B b p bs w → BuilderAt T e B b p bs w':=by
  rintro p ⟨hB,v,hh,hown,hne⟩
  have hlt:=(Array.getElem?_eq_some_iff.1 hh).1
  refine ⟨hB,v,by rw [hb.block _ hlt]; exact hh,?_,hne⟩
  exact hown.kept (grown_of_below hb none) (by
   rcases hown.2 with ⟨rfl,_⟩ | ⟨g,cap,cur,rfl,_⟩
   ·left; rfl
   ·right; simp [Value.ownBlock])
 exact h.imp (key _) (key _)
theorem encodedNum_ok (xs:List (Int)) (v:Value) {K:Value → World → Prop} {w:World} (hl:Laid w) (hrow:RowOf intV w v xs) (hx:∀ x ∈ xs,InR x) (hlen:(encList (xs.map encInt)).length < 2^40)
  (k:∀ w',Below w.heap.size w w' → K (.string ⟨(encList (xs.map encInt)).toArray⟩) w'):callM Tryz.prog 174 #[v,.func (.func 175) #[] #[]] K w:=by
 apply sh_174_ok
 unfold sh_174
 have hsz:(encList (xs.map encInt)).length = (itoa (xs.length:Nat)).length + 1 + ((xs.map encInt).flatten).length + 1:=by simp [encList]; omega
 have hxl:xs.length ≤ (xs.map encInt).flatten.length:=by
  rw [List.length_flatten]
  clear hrow hlen hsz k
  induction xs with
  | nil=>simp
  | cons x xs ih=>
   have:=ih (fun y hy=>hx y (List.mem_cons_of_mem _ hy))
   have h1:1 ≤ (encInt x).length:=by simp [encInt]; try omega
   simp only [List.length_cons,List.map_cons,List.sum_cons]
   omega
 have hin:InR (xs.length:Nat):=⟨by omega,by omega⟩
 have hil:=itoa_len _ hin
 obtain ⟨ad,c,rfl,hcell⟩:=hrow
 have hl0:Laid (w.alloc (.cells #[.pointer none,.slice none 0 0] 213)):=hl.below ((Below.refl _ _).alloc (Nat.le_refl _) _) hl.size
 repeat (any_goals ((with_reducible refine oM_gen fun Kv hK=>?_); simp [go_sem]; refine hK _ _ ?_; clear hK Kv))
 refine itoa_ok _ hin hl0 (fun w1 hb1=>?_)
 have hb1':Below w.heap.size w w1:=((Below.refl _ _).alloc (Nat.le_refl _) _).trans (hb1.mono (by simp))
 have hB1:=IsBuilder.below (fresh_isBuilder 213 5 w) hb1
 have hz1:=hb1'.size
 repeat (any_goals ((with_reducible refine oM_gen fun Kv hK=>?_); simp [go_sem]; refine And.intro (by omega) (hK _ _ ?_); clear hK Kv))
 refine writeString_ok w.heap.size _ [] _ _ hB1 (by simp; omega) (by omega) ?_
 intro w2 hB2 hb2
 have hb2':=hb1'.trans hb2
 repeat (any_goals ((with_reducible refine oM_gen fun Kv hK=>?_); simp [go_sem]; refine hK _ _ ?_; clear hK Kv))
 refine ⟨fun l w'=>∃ (x:Value) (k:Nat),l = [x,.int .i64 k] ∧ k ≤ xs.length ∧ IsBuilder 213 5 w.heap.size w.heap.size (Lib.byteCells (itoa (xs.length:Nat) ++ 91 :: ((xs.take k).map encInt).flatten)) w' ∧ Below w.heap.size w w',fun l _=>xs.length - (match l with | [_,.int _ n]=>n.toNat | _=>0),⟨_,0,rfl,by omega,by simpa using hB2,hb2'⟩,?_⟩
 rintro _ _ w3 ⟨x,j,rfl,hj,hB3,hb3⟩
 have hz3:=hb3.size
 simp only [List.getD_cons_zero,List.getD_cons_succ]
 have hfl:=flat_le encInt xs j
 by_cases hlt:j < xs.length
 ·rcases hcell with rfl | ⟨b,o,rfl,hbw,hcells⟩
  ·simp at hlt
  have hc:=hcells j hlt
  rw [← hb3.cell hbw] at hc
  simp only [intV] at hc
  have hix:=idx22 (b:=b) (o:=o) (c:=c) hlt w3
  have hl3:Laid w3:=hl.below hb3 hl.size
  have hP:=hx xs[j] (List.getElem_mem hlt)
  have hfl1:=flat_le encInt xs (j + 1)
  rw [flat_snoc _ _ _ hlt,List.length_append] at hfl1
  repeat (any_goals (first
  | (rw [oM_indexAddr,hix,rM_ok])
  | (with_reducible refine yN ?_)
  | ((with_reducible refine oM_gen fun Kv hK=>?_); simp [go_sem,hc]; refine hK _ _ ?_; clear hK Kv)))
  refine oM_callv1 (by kernel_rfl) ?_
  refine pInt_ok _ hP hl3 ?_
  intro w4 hb4
  have hz4:=hb4.size
  have hB4:IsBuilder 213 5 w.heap.size w.heap.size (Lib.byteCells (itoa (xs.length:Nat) ++ 91 :: ((xs.take j).map encInt).flatten)) w4:=IsBuilder.below hB3 hb4
  refine writeString_ok w.heap.size _ _ _ _ hB4 (by simp only [List.length_append,List.length_cons]; omega) (by omega) ?_
  intro w5 hB5 hb5
  repeat (any_goals ((with_reducible refine oM_gen fun Kv hK=>?_); simp [go_sem]; (try simp (disch:=omega) only [wrapI64,wrapU8,wrapU32,wrapU64]); refine hK _ _ ?_; clear hK Kv))
  refine ⟨⟨_,j + 1,rfl,hlt,?_,(hb3.trans (hb4.mono hz3)).trans hb5⟩,by simp; omega⟩
  rw [flat_snoc _ _ _ hlt]
  simpa using hB5
 ·obtain rfl:j = xs.length:=by omega
  rw [List.take_length] at hB3 hfl
  obtain ⟨F,hF⟩:∃ F,F = (xs.map encInt).flatten:=⟨_,rfl⟩
  rw [← hF] at hB3 hfl hsz
  repeat (any_goals (first
  | (with_reducible refine yM ?_)
  | ((with_reducible refine oM_gen fun Kv hK=>?_); simp [go_sem]; refine hK _ _ ?_; clear hK Kv)))
  refine builderString_ok _ _ _ _ hB3 (by omega) ?_
  intro w4 hb4
  repeat (any_goals ((with_reducible refine oM_gen fun Kv hK=>?_); simp [go_sem]; refine And.intro (by omega) (hK _ _ ?_); clear hK Kv))
  exact K_eq (k _ (hb3.trans hb4)) (by simp [encList,hF])
theorem pNums_ok (xs:List (Int)) (v:Value) {K:Value → World → Prop} {w:World} (hl:Laid w) (hrow:RowOf intV w v xs) (hx:∀ x ∈ xs,InR x) (hlen:(encList (xs.map encInt)).length < 2^40)
  (k:∀ w',Below w.heap.size w w' → K (.string ⟨(encList (xs.map encInt)).toArray⟩) w'):callM Tryz.prog 114 #[v] K w:=by
 apply sh_114_ok
 unfold sh_114
 skip
 exact encodedNum_ok xs v hl hrow hx hlen k
end Go.Proofs.Cd
namespace Go.Proofs.Cd
open Go Go.Sh Go.RowKit Go.Lib CodeSpec
def IsRd (w:World) (b:Nat) (r:Rd):Prop:=w.heap[b]? = some (.cells #[.string ⟨r.rest.toArray⟩,.bool r.bad] 193 (0,0))
theorem IsRd.c0 {w:World} {b:Nat} {r:Rd} (h:IsRd w b r):w.cell? ⟨b,0,none⟩ = some (.string ⟨r.rest.toArray⟩):=by
 unfold IsRd at h; simp [World.cell?,h]
theorem IsRd.c1 {w:World} {b:Nat} {r:Rd} (h:IsRd w b r):w.cell? ⟨b,1,none⟩ = some (.bool r.bad):=by
 unfold IsRd at h; simp [World.cell?,h]
theorem IsRd.fz {w:World} {b:Nat} {r:Rd} (h:IsRd w b r) (i:Nat):w.frozen? ⟨b,i,none⟩ = false:=by
 unfold IsRd at h; simp [World.frozen?,h]
theorem IsRd.lt {w:World} {b:Nat} {r:Rd} (h:IsRd w b r):b < w.heap.size:=(Array.getElem?_eq_some_iff.1 h).1
theorem heap_set {w:World} {b i:Nat} {cs:Array Value} {T:TypeId} {f:Nat × Nat} (h:w.heap[b]? = some (.cells cs T f)) (u:Value):(w.setCell ⟨b,i,none⟩ u).heap[b]? = some (.cells (cs.setIfInBounds i u) T f):=by
 simp [World.setCell,Array.getElem?_modify,h]
theorem IsRd.set0 {w:World} {b:Nat} {r:Rd} (h:IsRd w b r) (l:List UInt8):IsRd (w.setCell ⟨b,0,none⟩ (.string ⟨l.toArray⟩)) b ⟨l,r.bad⟩:=by
 unfold IsRd at h ⊢
 rw [heap_set h]; rfl
theorem IsRd.set1 {w:World} {b:Nat} {r:Rd} (h:IsRd w b r) (t:Bool):IsRd (w.setCell ⟨b,1,none⟩ (.bool t)) b ⟨r.rest,t⟩:=by
 unfold IsRd at h ⊢
 rw [heap_set h]; rfl
theorem IsRd.below {w w':World} {b:Nat} {r:Rd} (h:IsRd w b r) {B:Nat} (hb:Below B w w') (hB:b < B):IsRd w' b r:=by
 unfold IsRd at h ⊢
 rw [hb.block _ hB]; exact h
theorem IsRd.drew {w:World} {b:Nat} {r:Rd} (h:IsRd w b r):IsRd w.drew b r:=h
theorem grown_set (w:World) (b i:Nat) (u:Value):w.grownBy (w.setCell ⟨b,i,none⟩ u) (some b):=
 ⟨rfl,rfl,rfl,by simp [World.setCell],fun k _ hk=>Below.heap_setCell _ _ _ _ (fun e=>hk (by simp [e]))⟩
theorem grown_drew (w:World) (b:Option Nat):w.grownBy w.drew b:=⟨rfl,rfl,rfl,Nat.le_refl _,fun _ _ _=>rfl⟩
theorem fail_ok (b:Nat) (r:Rd) {K:Value → World → Prop} {w:World} (hr:IsRd w b r) (k:∀ w',IsRd w' b failed → w.grownBy w' (some b) → K (.tuple #[]) w'):callM Tryz.prog 224 #[.pointer (some ⟨b,0,none⟩)] K w:=by
 apply sh_224_ok
 unfold sh_224
 have h0:=hr.c0
 have f0:=hr.fz 0
 have hr1:=hr.set0 []
 have f1:=hr1.fz 1
 have h1:=hr1.c1
 repeat (any_goals ((with_reducible refine oM_gen fun Kv hK=>?_); simp [go_sem,h0,f0,h1,f1]; refine hK _ _ ?_; clear hK Kv))
 exact k _ (hr1.set1 true) (grownBy_trans (grown_set _ _ _ _) (grown_set _ _ _ _))
theorem close_ok (b:Nat) (r:Rd) (c:UInt8) {K:Value → World → Prop} {w:World} (hr:IsRd w b r) (k:∀ w',IsRd w' b (rdClose r c) → w.grownBy w' (some b) → K (.tuple #[]) w'):callM Tryz.prog 210 #[.pointer (some ⟨b,0,none⟩),.string ⟨#[c]⟩] K w:=by
 apply sh_210_ok
 unfold sh_210
 have h0:=hr.c0
 have f0:=hr.fz 0
 repeat (any_goals (first
 | (with_reducible refine cutPrefix_ok r.rest [c] ?_)
 | (with_reducible ((refine idCond ?_); refine yV (fun hg=>?_) fun hg=>?_))
 | ((with_reducible refine oM_gen fun Kv hK=>?_); simp [go_sem,h0,f0]; refine hK _ _ ?_; clear hK Kv)))
 ·skip
  obtain ⟨t,ht⟩:∃ t,r.rest = c :: t:=by
   unfold hasPrefix at hg
   rw [List.isPrefixOf_iff_prefix] at hg
   obtain ⟨t,ht⟩:=hg
   exact ⟨t,by rw [← ht]; rfl⟩
  have e:trimPrefix r.rest [c] = t:=by simp [trimPrefix,hasPrefix,ht]
  refine k _ ?_ (grown_set _ _ _ _)
  have:=hr.set0 t
  rw [e]
  have e2:rdClose r c = ⟨t,r.bad⟩:=by simp [rdClose,ht]
  rw [e2]
  exact this
 ·skip
  refine fail_ok b _ (hr.set0 _) ?_
  intro w1 hr1 hg1
  refine k w1 ?_ (grownBy_trans (grown_set _ _ _ _) hg1)
  have e2:rdClose r c = failed:=by
   rcases rdClose_some r c with h | ⟨t,h,_⟩
   ·exact h
   ·rw [h] at hg; simp [hasPrefix] at hg
  rw [e2]
  exact hr1
theorem indexByte_take (l:List UInt8) (c:UInt8):indexByte l c = if (l.takeWhile (· != c)).length < l.length then ((l.takeWhile (· != c)).length:Int) else -1:=by
 induction l with
 | nil=>rfl
 | cons x l ih=>
  unfold indexByte
  by_cases hx:x = c
  ·subst hx; simp
  ·have h1:(x == c) = false:=by simp [hx]
   have tw:(x :: l).takeWhile (· != c) = x :: l.takeWhile (· != c):=by simp [hx]
   rw [tw,List.length_cons,List.length_cons,h1,if_neg (by simp)]
   by_cases hlt:(l.takeWhile (· != c)).length < l.length
   ·rw [if_pos hlt] at ih
    have e:(indexByte l c == -1) = false:=by
     rw [ih,beq_eq_false_iff_ne]
     omega
    rw [e,if_neg (by simp),ih,if_pos (by omega)]
    omega
   ·rw [if_neg hlt] at ih
    rw [ih,if_pos (by simp),if_neg (by omega)]
theorem take_twl (l:List UInt8) (c:UInt8):l.take (l.takeWhile (· != c)).length = l.takeWhile (· != c):=by
 exact (List.prefix_iff_eq_take.1 (List.takeWhile_prefix _)).symm
set_option maxHeartbeats 1600000 in
theorem number_ok (b:Nat) (r:Rd) (e:UInt8) (least:Int) {K:Value → World → Prop} {w:World} (hl:LaidE w) (hlen:r.rest.length < 2^60) (hr:IsRd w b r) (k:∀ w',IsRd w' b (rdNumber r e least).2 → w.grownBy w' (some b) → K (.int .i64 (rdNumber r e least).1) w'):callM Tryz.prog 209 #[.pointer (some ⟨b,0,none⟩),.int .u8 e.toNat,.int .i64 least] K w:=by
 apply sh_209_ok
 unfold sh_209
 refine quietM_one ?_
 have hr1:IsRd { w with drawn:=w.drawn + 1 } b r:=hr
 have hl1:LaidE { w with drawn:=w.drawn + 1 }:=hl.keep (fun _ _=>rfl) (Nat.le_refl _)
 have hg1:w.grownBy { w with drawn:=w.drawn + 1 } (some b):=grown_drew _ _
 generalize { w with drawn:=w.drawn + 1 } = w1 at *
 have h0:=hr1.c0
 have hmin:(min (r.rest.length:Int) 21).toNat = min r.rest.length 21:=by omega
 obtain ⟨q,hq⟩:∃ q,q = r.rest.take 21:=⟨_,rfl⟩
 obtain ⟨p,hp⟩:∃ p,p = q.takeWhile (· != e):=⟨_,rfl⟩
 have htk:r.rest.take (min r.rest.length 21) = q:=by
  rw [hq,List.take_eq_take_iff]; omega
 have hix:=indexByte_take q e
 rw [← hp] at hix
 have hple:p.length ≤ q.length:=by rw [hp]; exact (List.takeWhile_prefix _).length_le
 have hpl21:q.length ≤ 21:=by rw [hq]; exact List.length_take_le ..
 have hpr:q.length ≤ r.rest.length:=by rw [hq,List.length_take]; omega
 have hnum:rdNumber r e least = if p.length < q.length then (match canon p with | some n=>if n < least then (0,failed) else (n,⟨r.rest.drop (p.length + 1),r.bad⟩) | none=>(0,failed)) else (0,failed):=by rw [hp,hq]; rfl
 have hsl:q.take p.length = p:=by rw [hp]; exact take_twl _ _
 have fin:∀ w2,Below w1.heap.size w1 w2 → rdNumber r e least = (0,failed) → callM Tryz.prog 224 #[.pointer (some ⟨b,0,none⟩)] (fun _ w=>K (.int .i64 0) w) w2:=by
  intro w2 hb2 hn
  refine fail_ok b _ (hr1.below hb2 hr1.lt) ?_
  intro w3 hr3 hg3
  have:=k w3 (by rw [hn]; exact hr3) (grownBy_trans hg1 (grownBy_trans (grown_of_below hb2 _) hg3))
  rw [hn] at this
  exact this
 clear hp hq
 repeat (any_goals (first
 | (with_reducible first|refine And.intro (Eq.refl (α:=World) _) ?_|refine forall_one ?_)
 | ((with_reducible refine idOQ ?_); first|(with_reducible refine oQ_nil ?_)|((with_reducible refine oQ_one ?_ ?_); exact ⟨_,rfl⟩))
 | ((with_reducible refine oM_gen fun Kv hK=>?_); simp [go_sem,h0,hmin,htk]; (first|refine hK _ _ ?_|refine And.intro (by omega) (hK _ _ ?_)); clear hK Kv)))
 refine indexByte_ok _ e ?_
 rw [hix]
 by_cases hlt:p.length < q.length
 ·rw [if_pos hlt] at hnum ⊢
  repeat (any_goals (first
  | (with_reducible refine yO ?_)
  | ((with_reducible refine oM_gen fun Kv hK=>?_); simp [go_sem,hsl]; (first|refine hK _ _ ?_|refine And.intro (by omega) (hK _ _ ?_)); clear hK Kv)))
  refine atoi_ok p (by omega) hl1 (fun n w2 hn hb2=>?_) (fun v te pe w2 hn hb2=>?_)
  ·have hinr:=atoiAll_bounds hn
   have hcan:canon p = if itoa n = p then some n else none:=by unfold canon; rw [hn]
   repeat (any_goals ((with_reducible refine oM_gen fun Kv hK=>?_); simp [go_sem]; refine hK _ _ ?_; clear hK Kv))
   refine ⟨fun w'=>Below w2.heap.size w2 w',⟨rfl,rfl,rfl,Nat.le_refl _,fun _ _=>rfl⟩,?_⟩
   repeat (any_goals (first
   | (with_reducible first|refine pureQ_in ?_|((refine idGdQ ?_); refine gdQ_conv fun _=>?_)|refine zC ?_)
   | ((with_reducible refine idOQ ?_); (with_reducible refine oQ_of ⟨_,rfl⟩ (fun W0 hW0=>by (refine oM_gen (fun Kv hK=>?_)); simp [go_sem,oM_nec,eqGuard]; (first | exact hK _ _ ⟨rfl,rfl⟩ | exact ⟨by omega,hK _ _ ⟨rfl,rfl⟩⟩)) ?_))))
   refine callQ_of (C:=fun w0=>Below w2.heap.size w2 w0) (v:=.string ⟨(itoa n).toArray⟩) (fun w3 hw3=>itoa_ok n hinr (hl1.toLaid.below (hb2.trans (hw3.mono hb2.size)) hl1.size) (fun w4 hb4=>⟨rfl,hw3.trans (hb4.mono hw3.size)⟩)) ?_
   repeat (any_goals (first
   | (with_reducible first|refine pureQ_in ?_|((refine idGdQ ?_); refine gdQ_conv fun _=>?_)|((refine idGd ?_); first|refine zC ?_|((refine idGdN ?_); first|refine zO ?_|refine zP ?_|refine zQ (fun hg=>?_) fun hg=>?_)))
   | ((with_reducible refine idOQ ?_); first|(with_reducible first|refine wB ?_|refine wE ?_|refine wF ?_)|(with_reducible refine oQ_of ⟨_,rfl⟩ (fun W0 hW0=>by (refine oM_gen (fun Kv hK=>?_)); simp [go_sem,hsl]; (first | exact hK _ _ ⟨rfl,rfl⟩ | exact ⟨by omega,hK _ _ ⟨rfl,rfl⟩⟩)) ?_))))
   ·rw [hcan,if_pos hg] at hnum
    intro w3 hw3
    have hb3:Below w1.heap.size w1 w3:=hb2.trans (hw3.mono hb2.size)
    have hr3:=hr1.below hb3 hr1.lt
    have h3:=hr3.c0
    have f3:=hr3.fz 0
    simp only at hnum
    by_cases hle:n < least
    ·rw [if_pos hle] at hnum
     repeat (any_goals (first
     | (with_reducible refine fin _ hb3 hnum)
     | (with_reducible refine yN ?_)))
    ·rw [if_neg hle] at hnum
     repeat (any_goals (first
     | (with_reducible refine yO ?_)
     | ((with_reducible refine oM_gen fun Kv hK=>?_); simp [go_sem,h3,f3]; (try simp (disch:=omega) only [wrapI64,wrapU8,wrapU32,wrapU64]); (first|refine hK _ _ ?_|refine And.intro (by omega) (hK _ _ ?_)); clear hK Kv)))
     have:=k _ (by rw [hnum]; exact hr3.set0 _) (grownBy_trans hg1 (grownBy_trans (grown_of_below hb3 _) (grown_set _ _ _ _)))
     rw [hnum] at this
     exact this
   ·rw [hcan,if_neg hg] at hnum
    simp only at hnum
    intro w3 hw3
    repeat (any_goals (first
    | (with_reducible refine fin _ (hb2.trans (hw3.mono hb2.size)) hnum)
    | (with_reducible refine yL ?_)))
  ·have hcan:canon p = none:=by
    unfold canon
    cases hc:atoiAll p with
    | ok n=>exact absurd hc (hn n)
    | «syntax»=>rfl
    | range=>rfl
   rw [hcan] at hnum
   simp only at hnum
   repeat (any_goals ((with_reducible refine oM_gen fun Kv hK=>?_); simp [go_sem]; refine hK _ _ ?_; clear hK Kv))
   refine quietM_one ?_
   repeat (any_goals (first
   | (with_reducible first|((refine idGdQ ?_); refine gdQ_conv fun _=>?_)|refine And.intro (Eq.refl (α:=World) _) ?_|refine forall_one ?_|refine zD ?_|refine yL ?_)
   | ((with_reducible refine idOQ ?_); first|(with_reducible refine wA ?_)|((with_reducible refine oQ_one ?_ ?_); exact ⟨_,rfl⟩))
   | ((with_reducible refine oM_gen fun Kv hK=>?_); simp [go_sem,oM_nec,eqGuard]; refine hK _ _ ?_; clear hK Kv)))
   exact fin _ hb2.drew hnum
 ·rw [if_neg hlt] at hnum ⊢
  repeat (any_goals (first
  | (with_reducible refine fin _ (Below.refl _ _) hnum)
  | (with_reducible refine yL ?_)
  | ((with_reducible refine oM_gen fun Kv hK=>?_); simp [go_sem]; refine hK _ _ ?_; clear hK Kv)))
end Go.Proofs.Cd
namespace Go.Proofs.Cd
open Go Go.Sh Go.RowKit Go.Lib CodeSpec
theorem rest_le (r:Rd) (e:UInt8) (least:Int):(rdNumber r e least).2.rest.length ≤ r.rest.length:=by
 rcases rdNumber_some r e least with h | ⟨n,t,h,h2,_⟩
 ·rw [h]; simp [failed]
 ·rw [h,h2]; simp; omega
theorem rint_ok (b:Nat) (r:Rd) {K:Value → World → Prop} {w:World} (hl:LaidE w) (hlen:r.rest.length < 2^60) (hr:IsRd w b r) (k:∀ w',IsRd w' b (rdInt r).2 → w.grownBy w' (some b) → K (.int .i64 (rdInt r).1) w'):callM Tryz.prog 185 #[.pointer (some ⟨b,0,none⟩)] K w:=by
 apply sh_185_ok
 unfold sh_185
 exact number_ok b r 59 (-9223372036854775808) hl hlen hr k
theorem open_ok (s:List UInt8) {K:Value → World → Prop} {w:World} (k:∀ w',IsRd w' w.heap.size ⟨s,false⟩ → Below w.heap.size w w' → K (.pointer (some ⟨w.heap.size,0,none⟩)) w'):callM Tryz.prog 130 #[.string ⟨s.toArray⟩] K w:=by
 apply sh_130_ok
 unfold sh_130
 repeat (any_goals ((with_reducible refine oM_gen fun Kv hK=>?_); simp [go_sem]; refine hK _ _ ?_; clear hK Kv))
 exact k _ (by unfold IsRd; exact heap_alloc_new _ _) ((Below.refl _ _).alloc (Nat.le_refl _) _)
def rdDone (r:Rd):Bool:=!r.bad && decide (r.rest = [])
theorem done_ok (b:Nat) (r:Rd) {K:Value → World → Prop} {w:World} (hr:IsRd w b r) (k:K (.bool (rdDone r)) w):callM Tryz.prog 132 #[.pointer (some ⟨b,0,none⟩)] K w:=by
 apply sh_132_ok
 unfold sh_132
 have h0:=hr.c0
 have h1:=hr.c1
 repeat (any_goals (first
 | (with_reducible first|refine pureM_in ?_|((refine idGd ?_); first|refine zV ?_|refine zW ?_|refine zX (fun hg=>?_) fun hg=>?_)|((refine idPick ?_); first|refine yJ ?_|refine yK ?_))
 | ((with_reducible refine oM_gen fun Kv hK=>?_); simp [go_sem,h0,h1]; refine hK _ _ ?_; clear hK Kv)))
 ·exact K_eq k (by unfold rdDone; rw [hg]; simp)
 ·exact K_eq k (by unfold rdDone; rw [hg]; simp)
end Go.Proofs.Cd
namespace Go.Proofs.Cd
open Go Go.Sh Go.RowKit Go.Lib CodeSpec
theorem grown_own {w w2 w3:World} {b B:Nat} {e:TypeId} {sz n:Nat} {v:Value} {xs:List Value} (h:w.grownBy w2 (some b)) (hown:w2.ownsRow B e sz v n xs) (hB:w.heap.size ≤ B) (hg:w2.grownBy w3 v.ownBlock):w.grownBy w3 (some b):=
 ⟨hg.os.trans h.os,hg.tape.trans h.tape,hg.output.trans h.output,Nat.le_trans h.size hg.size,fun i hi hne=>
  (hg.block i (Nat.lt_of_lt_of_le hi h.size) (fun e=>by have:=(hown.lt i e.symm).1; omega)).trans (h.block i hi hne)⟩
theorem IsRd.own {w2 w3:World} {b B:Nat} {e:TypeId} {sz n:Nat} {v:Value} {xs:List Value} {r:Rd} (h:IsRd w2 b r) (hown:w2.ownsRow B e sz v n xs) (hB:b < B) (hg:w2.grownBy w3 v.ownBlock):IsRd w3 b r:=by
 have hlt:=h.lt
 unfold IsRd at h ⊢
 rw [hg.block b hlt (fun e=>by have:=(hown.lt b e.symm).1; omega)]
 exact h
theorem owns_rd {w2 w3:World} {b B:Nat} {e:TypeId} {sz n:Nat} {v:Value} {xs:List Value} (hown:w2.ownsRow B e sz v n xs) (hB:b < B) (hg:w2.grownBy w3 (some b)):w3.ownsRow B e sz v n xs:=
 hown.kept hg (by
  cases ho:v.ownBlock with
  | none=>left; rfl
  | some g=>right; intro e; cases e; have:=(hown.lt b ho).1; omega)
theorem itemsGo_stop {α:Type} (one:Rd → α × Rd) (n:Nat) (r:Rd) (h:n = 0 ∨ r.bad = true):itemsGo one n r = ([],r):=by
 rcases h with rfl | h
 ·rfl
 ·cases n with
  | zero=>rfl
  | succ n=>unfold itemsGo; rw [if_pos h]
theorem itemsGo_step {α:Type} (one:Rd → α × Rd) (n:Nat) (r:Rd) (h:r.bad = false):itemsGo one (n + 1) r = ((one r).1 :: (itemsGo one n (one r).2).1,(itemsGo one n (one r).2).2):=by
 conv=>lhs; unfold itemsGo
 rw [if_neg (by simp [h])]
theorem rdNum_less (r:Rd) (hr:r.ok) (_hb:r.bad = false):(rdInt r).2 = failed ∨ (rdInt r).2.rest.length < r.rest.length ∧ (rdInt r).2.bad = false:=by
 rcases rdInt_some r hr with h | ⟨v,t,h,h2,_⟩
 ·left; rw [h]
 ·right
  rw [h,h2]
  simp [encInt]
  try omega
set_option maxHeartbeats 1600000 in
theorem itemsNum_ok (b:Nat) (r:Rd) {K:Value → World → Prop} {w:World} (hl:LaidE w) (hb6:8 ≤ b) (hlen:r.rest.length < 2^40) (hok:r.ok) (hr:IsRd w b r)
  (k:∀ v w',IsRd w' b (rdNums r).2 → w.grownBy w' (some b) → w'.ownsRow w.heap.size 3 1 v (rdNums r).1.length ((rdNums r).1.map intV) → K v w'):callM Tryz.prog 131 #[.pointer (some ⟨b,0,none⟩)] K w:=by
 apply sh_131_ok
 unfold sh_131
 repeat (any_goals ((with_reducible refine oM_gen fun Kv hK=>?_); simp [go_sem]; refine hK _ _ ?_; clear hK Kv))
 apply sh_184_ok
 unfold sh_184
 refine number_ok b r 91 0 hl (by omega) hr ?_
 intro w1 hr1 hg1
 have hle:=rest_le r 91 0
 have hok1:=rdNumber_ok r hok 91 0
 have hnum:rdNums r = if (rdClose (itemsGo rdInt (rdNumber r 91 0).1.toNat (rdNumber r 91 0).2).2 93).bad then ([],rdClose (itemsGo rdInt (rdNumber r 91 0).1.toNat (rdNumber r 91 0).2).2 93)
  else ((itemsGo rdInt (rdNumber r 91 0).1.toNat (rdNumber r 91 0).2).1,rdClose (itemsGo rdInt (rdNumber r 91 0).1.toNat (rdNumber r 91 0).2).2 93):=rfl
 have hnr:InR (rdNumber r 91 0).1:=by
  rcases rdNumber_some r 91 0 with h | ⟨n,t,h,_,h3,_⟩
  ·rw [h]; exact ⟨by simp,by simp⟩
  ·rw [h]; exact h3
 generalize (rdNumber r 91 0).2 = r1 at *
 generalize (rdNumber r 91 0).1 = n at *
 have hbw:=hr.lt
 obtain ⟨hn1,hn2⟩:=hnr
 refine ⟨fun l w'=>∃ (v:Value) (j:Int) (r':Rd) (xs:List (Int)),l = [v,.int .i64 j] ∧ -9223372036854775808 ≤ j ∧ j ≤ 9223372036854775807 ∧ IsRd w' b r' ∧ r'.ok ∧ w.grownBy w' (some b) ∧ w'.ownsRow w.heap.size 3 1 v xs.length (xs.map intV) ∧
  itemsGo rdInt n.toNat r1 = (xs ++ (itemsGo rdInt j.toNat r').1,(itemsGo rdInt j.toNat r').2) ∧ (xs.length + r'.rest.length ≤ r1.rest.length + 1) ∧ (r'.bad = false → xs.length + r'.rest.length ≤ r1.rest.length),fun l _=>(match l with | [_,.int _ n]=>n.toNat | _=>0),
  ⟨_,n,r1,[],rfl,hn1,hn2,hr1,hok1,hg1,World.ownsRow_nil _ _ _ _,by simp,(by simp only [List.length_nil]; omega),by simp⟩,?_⟩
 rintro _ _ w2 ⟨v,j,r',xs,rfl,hj1,hj2,hr2,hok2,hg2,hown,hgo,hlx,hlx2⟩
 simp only [List.getD_cons_zero,List.getD_cons_succ]
 have h2:=hr2.c1
 have hl2:=hl.grown hg2 hb6
 by_cases hrun:0 < j ∧ r'.bad = false
 ·obtain ⟨hj,hbad⟩:=hrun
  rw [hbad] at h2
  have hlx2:=hlx2 hbad
  repeat (any_goals (first
  | (with_reducible first|refine pureM_in ?_|((refine idGd ?_); ((refine idGdD ?_); refine zF ?_))|refine yD ?_|refine yL ?_)
  | ((with_reducible refine oM_gen fun Kv hK=>?_); simp [go_sem,h2]; refine hK _ _ ?_; clear hK Kv)))
  refine oM_callv0 (by kernel_rfl) ?_
  refine rint_ok b r' hl2 (by omega) hr2 ?_
  intro w3 hr3 hg3
  have hown3:=owns_rd hown hbw hg3
  have hg03:=grownBy_trans hg2 hg3
  have hz3:=hg03.size
  have hless:=rdNum_less r' hok2 hbad
  obtain ⟨j',hj'⟩:∃ j':Nat,j.toNat = j' + 1:=⟨j.toNat - 1,by omega⟩
  have hjj:(j - 1).toNat = j':=by omega
  rw [hj',itemsGo_step _ _ _ hbad] at hgo
  have hok3:(rdInt r').2.ok:=by
   rcases hless with h | ⟨_,h⟩
   ·rw [h]; exact Rd.ok_failed
   ·intro e; rw [h] at e; cases e
  have hby:(xs.length + 1) * Tryz.t3.bytes ≤ 140737488355328:=by
   have:Tryz.t3.bytes = 8:=by kernel_rfl
   rw [this]
   omega
  repeat (any_goals ((with_reducible refine oM_gen fun Kv hK=>?_); simp [go_sem]; refine hK _ _ ?_; clear hK Kv))
  refine oM_append_new (base:=w.heap.size) (n:=xs.length) (xs:=xs.map intV) (i:=Tryz.t3) (z:=.int .i64 0) (cs:=#[intV (rdInt r').1]) Tryz.underlying24 (by kernel_rfl) (by kernel_rfl) rfl rfl (by simp) (by simp [Value.oneCell',intV]) hown3 (by omega) (by unfold maxLen; omega) hby ?_
  intro v' w4 ho4 hg4
  repeat (any_goals ((with_reducible refine oM_gen fun Kv hK=>?_); simp [go_sem]; (try simp (disch:=omega) only [wrapI64,wrapU8,wrapU32,wrapU64]); refine hK _ _ ?_; clear hK Kv))
  refine ⟨⟨v',j - 1,(rdInt r').2,xs ++ [(rdInt r').1],rfl,by omega,by omega,hr3.own hown3 hbw hg4,hok3,grown_own hg03 hown3 (Nat.le_refl _) hg4,by simpa using ho4,?_,?_,?_⟩,by simp; omega⟩
  ·rw [hjj,hgo]; simp
  ·rcases hless with h | ⟨h,_⟩
   ·rw [h,List.length_append]; simp [failed]; omega
   ·rw [List.length_append]; simp; omega
  ·intro hb
   rcases hless with h | ⟨h,_⟩
   ·rw [h] at hb; cases hb
   ·rw [List.length_append]; simp; omega
 ·have hstop:=itemsGo_stop rdInt j.toNat r' (by
   cases hb:r'.bad with
   | true=>right; rfl
   | false=>left; have:¬ 0 < j:=fun h=>hrun ⟨h,hb⟩; omega)
  rw [hstop,List.append_nil] at hgo
  rw [hgo] at hnum
  have rest:callM Tryz.prog 210 #[.pointer (some ⟨b,0,none⟩),.string ⟨#[93]⟩] (fun v26_16 w=>
    oM Tryz.prog (Go.Op.nilCheck (.tmp 0)) 0 [.pointer (some ⟨b,0,none⟩)] (fun v28_17 w=>
    oM Tryz.prog (Go.Op.fieldAddr 193 (.tmp 0) 1) 0 [v28_17] (fun v29_18 w=>
    oM Tryz.prog (Go.Op.load 4 (.tmp 0)) 4 [v29_18] (fun v30_19 w=>
    condM v30_19 (K (.slice none 0 0) w) (K v w)) w) w) w) w2:=by
   refine close_ok b r' 93 hr2 ?_
   intro w3 hr3 hg3
   have h3:=hr3.c1
   have hg03:=grownBy_trans hg2 hg3
   cases hbad:(rdClose r' 93).bad with
   | true=>
    rw [hbad] at hnum h3
    rw [if_pos rfl] at hnum
    repeat (any_goals (first
    | (with_reducible refine yL ?_)
    | ((with_reducible refine oM_gen fun Kv hK=>?_); simp [go_sem,h3]; refine hK _ _ ?_; clear hK Kv)))
    exact k _ w3 (by rw [hnum]; exact hr3) hg03 (by rw [hnum]; exact World.ownsRow_nil _ _ _ _)
   | false=>
    rw [hbad] at hnum h3
    rw [if_neg (by simp)] at hnum
    repeat (any_goals (first
    | (with_reducible refine yM ?_)
    | ((with_reducible refine oM_gen fun Kv hK=>?_); simp [go_sem,h3]; refine hK _ _ ?_; clear hK Kv)))
    exact k _ w3 (by rw [hnum]; exact hr3) hg03 (by rw [hnum]; exact owns_rd hown hbw hg3)
  by_cases hj:0 < j
  ·have hbad:r'.bad = true:=by
    cases hb:r'.bad with
    | true=>rfl
    | false=>exact absurd ⟨hj,hb⟩ hrun
   rw [hbad] at h2
   repeat (any_goals (first
   | (with_reducible exact rest)
   | (with_reducible first|refine pureM_in ?_|((refine idGd ?_); ((refine idGdD ?_); refine zF ?_))|refine yD ?_|refine yM ?_)
   | ((with_reducible refine oM_gen fun Kv hK=>?_); simp [go_sem,h2]; refine hK _ _ ?_; clear hK Kv)))
  ·repeat (any_goals (first
   | (with_reducible exact rest)
   | (with_reducible first|((refine idGd ?_); ((refine idGdD ?_); refine zG ?_))|refine yE ?_|refine yM ?_)
   | ((with_reducible refine oM_gen fun Kv hK=>?_); simp [go_sem]; refine hK _ _ ?_; clear hK Kv)))
end Go.Proofs.Cd
namespace FdSpec
def okN (n:Int):Prop:=1 ≤ n ∧ n < 2305843009213693952
instance (n:Int):Decidable (okN n):=inferInstanceAs (Decidable (_ ∧ _))
def addM (n a b:Int):Int:=if okN n then (a + b) % n else 0
def subM (n a b:Int):Int:=if okN n then (a - b) % n else 0
def mulM (n a b:Int):Int:=if okN n then a * b % n else 0
def pw (n a:Int) (b:Nat):Int:=a ^ b % n
def euc (n:Int):Nat → Int → Int → Int → Int → Int × Int
 | 0,r,_,x,_=>(r,x)
 | k + 1,r,s,x,y=>if s = 0 then (r,x) else euc n k s (r % s) y (subM n x (mulM n (r / s) y))
def eucAll (n r s x y:Int):Int × Int:=euc n (s.toNat + 1) r s x y
def invM (n a:Int):Option Int:=if okN n then (if (eucAll n n (a % n) 0 1).1 = 1 then some ((eucAll n n (a % n) 0 1).2 % n) else none) else none
def powM (n a b:Int):Int:=
 if okN n then (if 0 ≤ b then pw n a b.toNat else match invM n a with | some x=>pw n x (-b).toNat | none=>0) else 0
theorem euc_zero (n:Int) (k:Nat) (r x y:Int):euc n k r 0 x y = (r,x):=by
 cases k <;> simp [euc]
theorem euc_more (n:Int) (k:Nat) (r s x y:Int) (hs:0 ≤ s) (hk:s.toNat + 1 ≤ k):euc n k r s x y = eucAll n r s x y:=by
 unfold eucAll
 induction k using Nat.strongRecOn generalizing r s x y with
 | _ k ih=>
  cases k with
  | zero=>omega
  | succ k=>
   by_cases h0:s = 0
   ·subst h0; simp [euc]
   ·have h1:=Int.emod_nonneg r h0
    have h2:=Int.emod_lt_of_pos r (b:=s) (by omega)
    have e1:euc n (k + 1) r s x y = euc n k s (r % s) y (subM n x (mulM n (r / s) y)):=by
     rw [euc,if_neg h0]
    have e2:euc n (s.toNat + 1) r s x y = euc n s.toNat s (r % s) y (subM n x (mulM n (r / s) y)):=by
     rw [euc,if_neg h0]
    rw [e1,e2]
    have h3:(r % s).toNat + 1 ≤ s.toNat:=by omega
    rw [ih k (by omega) s (r % s) _ _ h1 (by omega)]
    by_cases hks:s.toNat = k
    ·rw [hks,ih k (by omega) s (r % s) _ _ h1 (by omega)]
    ·rw [ih s.toNat (by omega) s (r % s) _ _ h1 h3]
theorem euc_step (n r s x y:Int) (hs:0 < s):eucAll n r s x y = eucAll n s (r % s) y (subM n x (mulM n (r / s) y)):=by
 have h1:=Int.emod_nonneg r (b:=s) (by omega)
 have h2:=Int.emod_lt_of_pos r (b:=s) hs
 rw [← euc_more n s.toNat s (r % s) _ _ h1 (by omega)]
 unfold eucAll
 rw [euc,if_neg (by omega)]
def tz:Nat → Nat → Nat
 | 0,_=>0
 | k + 1,m=>if m % 2 = 0 then tz k (m / 2) + 1 else 0
def mrUp (n:Int):Nat → Int → Bool
 | 0,_=>false
 | k + 1,x=>if x = n - 1 then true else mrUp n k (x * x % n)
def passes (n b:Int):Bool:=
 let k:=tz 64 (n - 1).toNat
 let x:=pw n b ((n - 1).toNat / 2 ^ k)
 if x = 1 then true else mrUp n k x
def smallP:List Int:=[2,3,5,7,11,13,17,19,23,29,31,37]
def primeM (n:Int):Bool:=
 if n < 2 ∨ 2305843009213693952 ≤ n then false
 else match smallP.find? (fun p=>decide (n % p = 0)) with
  | some p=>decide (n = p)
  | none=>smallP.all (fun p=>passes n p)
structure Grp where
 P:Int
 Q:Int
 G:Int
deriving DecidableEq
def validG (g:Grp):Bool:=
 if g.Q < 5 ∨ 1152921504606846976 ≤ g.Q ∨ g.P ≠ 2 * g.Q + 1 ∨ g.G < 2 ∨ g.P ≤ g.G then false
 else primeM g.Q && primeM g.P && decide (pw g.P g.G g.Q.toNat = 1)
def elemG (g:Grp) (x:Int):Bool:=decide (1 ≤ x) && decide (x < g.P) && validG g && decide (pw g.P x g.Q.toNat = 1)
def powerG (g:Grp) (x k:Int):Int:=if okN g.P ∧ okN g.Q then pw g.P x (k % g.Q).toNat else 0
def timesG (g:Grp) (a b:Int):Int:=if okN g.Q then mulM g.P a b else 0
def overG (g:Grp) (a b:Int):Int:=timesG g a (powM g.P b (-1))
def prodL (g:Grp):Int → List (Int × Int) → Int
 | out,[]=>out
 | out,(b,e) :: l=>prodL g (mulM g.P out (powerG g b e)) l
def prodG (g:Grp) (bases exps:List Int):Int × Bool:=
 if okN g.P ∧ okN g.Q ∧ bases.length = exps.length then (prodL g (1 % g.P) (bases.zip exps),true) else (0,false)
end FdSpec
namespace FdSpec
theorem emod_pow (a n:Int) (k:Nat):(a % n) ^ k % n = a ^ k % n:=by
 induction k with
 | zero=>rw [Int.pow_zero,Int.pow_zero]
 | succ k ih=>rw [Int.pow_succ,Int.pow_succ,Int.mul_emod,ih,Int.emod_emod_of_dvd a (Int.dvd_refl n),← Int.mul_emod]
theorem pow_half (a:Int) (b:Nat):a ^ b = (a * a) ^ (b / 2) * a ^ (b % 2):=by
 have h1:b = 2 * (b / 2) + b % 2:=(Nat.div_add_mod b 2).symm
 have h2:∀ k,a ^ (2 * k) = (a * a) ^ k:=by
  intro k
  induction k with
  | zero=>rw [Nat.mul_zero,Int.pow_zero,Int.pow_zero]
  | succ k ih=>rw [Nat.mul_succ,Int.pow_succ,Int.pow_succ,Int.pow_succ,ih,Int.mul_assoc]
 conv=>lhs; rw [h1]
 rw [Int.pow_add,h2]
theorem pw_even (n a out:Int) (b:Nat) (hb:b % 2 = 0):out * (a * a % n) ^ (b / 2) % n = out * a ^ b % n:=by
 rw [pow_half a b,hb,Int.pow_zero,Int.mul_one,Int.mul_emod,emod_pow,← Int.mul_emod]
theorem pw_odd (n a out:Int) (b:Nat) (hb:b % 2 = 1):out * a % n * (a * a % n) ^ (b / 2) % n = out * a ^ b % n:=by
 have e:a ^ (1:Nat) = a:=by rw [show (1:Nat) = 0 + 1 from rfl,Int.pow_succ,Int.pow_zero,Int.one_mul]
 rw [pow_half a b,hb,e,Int.mul_emod,Int.emod_emod_of_dvd _ (Int.dvd_refl n),emod_pow,← Int.mul_emod]
 congr 1
 rw [Int.mul_comm ((a * a) ^ (b / 2)) a,← Int.mul_assoc]
theorem pw_emod (n a:Int) (b:Nat):pw n (a % n) b = pw n a b:=emod_pow a n b
theorem pw_nonneg (n a:Int) (b:Nat) (hn:0 < n):0 ≤ pw n a b ∧ pw n a b < n:=⟨Int.emod_nonneg _ (by omega),Int.emod_lt_of_pos _ hn⟩
theorem tz_lt (k m:Nat) (hm:0 < m) (h:m < 2 ^ k):tz k m < k ∧ ∃ j,m = 2 ^ tz k m * (2 * j + 1):=by
 induction k generalizing m with
 | zero=>omega
 | succ k ih=>
  unfold tz
  split
  ·rename_i h2
   obtain ⟨h3,j,h4⟩:=ih (m / 2) (by omega) (by rw [Nat.pow_succ] at h; omega)
   refine ⟨by omega,j,?_⟩
   have h5:m = 2 * (m / 2):=by omega
   rw [Nat.pow_succ,Nat.mul_comm (2 ^ _) 2,Nat.mul_assoc,← h4]
   exact h5
  ·exact ⟨by omega,m / 2,by rw [Nat.pow_zero]; omega⟩
theorem addM_eq (n a b:Int) (hn:okN n):(a % n + b % n) % n = addM n a b:=by
 rw [addM,if_pos hn,← Int.add_emod]
theorem subM_eq (n a b:Int) (hn:okN n):(a % n + n - b % n) % n = subM n a b:=by
 rw [subM,if_pos hn,Int.sub_emod,Int.add_emod,Int.emod_self,Int.add_zero,Int.emod_emod_of_dvd _ (Int.dvd_refl n),Int.emod_emod_of_dvd _ (Int.dvd_refl n),Int.emod_emod_of_dvd _ (Int.dvd_refl n),← Int.sub_emod]
theorem mulM_eq (n a b:Int) (hn:okN n):a % n * (b % n) % n = mulM n a b:=by
 rw [mulM,if_pos hn,← Int.mul_emod]
theorem mulM_range (n a b:Int) (hn:okN n):0 ≤ mulM n a b ∧ mulM n a b < n:=by
 rw [mulM,if_pos hn]; exact ⟨Int.emod_nonneg _ (by have:=hn.1; omega),Int.emod_lt_of_pos _ (by have:=hn.1; omega)⟩
theorem subM_range (n a b:Int) (hn:okN n):0 ≤ subM n a b ∧ subM n a b < n:=by
 rw [subM,if_pos hn]; exact ⟨Int.emod_nonneg _ (by have:=hn.1; omega),Int.emod_lt_of_pos _ (by have:=hn.1; omega)⟩
theorem addM_range (n a b:Int) (hn:okN n):0 ≤ addM n a b ∧ addM n a b < n:=by
 rw [addM,if_pos hn]; exact ⟨Int.emod_nonneg _ (by have:=hn.1; omega),Int.emod_lt_of_pos _ (by have:=hn.1; omega)⟩
theorem residue_eq (n a:Int) (hn:0 < n):(if a.tmod n < 0 then a.tmod n + n else a.tmod n) = a % n:=by
 have h1:=Int.emod_nonneg a (b:=n) (by omega)
 have h2:=Int.emod_lt_of_pos a hn
 have h3:=Int.tmod_add_mul_tdiv a n
 have h4:=Int.emod_add_mul_ediv a n
 have h5:a.tmod n < n:=by have:=Int.tmod_lt_of_pos a hn; omega
 have h6:-n < a.tmod n:=by
  have:=Int.lt_tmod_of_pos a hn
  omega
 have h7:n ∣ a.tmod n - a % n:=by
  refine ⟨a / n - a.tdiv n,?_⟩
  rw [Int.mul_sub]; omega
 obtain ⟨k,hk⟩:=h7
 have hk2:k = 0 ∨ k = -1 ∨ 1 ≤ k ∨ k ≤ -2:=by omega
 rcases hk2 with rfl | rfl | hk2 | hk2
 ·simp at hk; split <;> omega
 ·rw [Int.mul_neg,Int.mul_one] at hk; split <;> omega
 ·have:=Int.mul_le_mul_of_nonneg_left hk2 (by omega:0 ≤ n); omega
 ·have:=Int.mul_le_mul_of_nonneg_left hk2 (by omega:0 ≤ n); omega
end FdSpec
namespace FdSpec
structure Digit (h l u d q r:Nat):Prop where
 sum:q * h + r = u
 up:u * 4294967296 + d < (q + 1) * (h * 4294967296 + l)
 le:q ≤ 4294967297
section
variable {h l u d q r:Nat}
theorem digit_start (hh:2147483648 ≤ h) (hh2:h < 4294967296) (hl:l < 4294967296) (hd:d < 4294967296) (hu:u < h * 4294967296 + l):Digit h l u d (u / h) (u - u / h * h):=by
 have h1:u / h * h ≤ u:=Nat.div_mul_le_self u h
 have h2:u < (u / h + 1) * h:=by rw [Nat.add_mul,Nat.one_mul]; have:=Nat.mod_lt u (show h > 0 by omega); have:=Nat.div_add_mod u h; rw [Nat.mul_comm] at this; omega
 have h3:u / h < 4294967298:=by
  rw [Nat.div_lt_iff_lt_mul (by omega)]
  omega
 refine ⟨by omega,?_,by omega⟩
 have h4:(u + 1) * 4294967296 ≤ (u / h + 1) * h * 4294967296:=Nat.mul_le_mul_right _ h2
 have h5:(u / h + 1) * (h * 4294967296 + l) = (u / h + 1) * h * 4294967296 + (u / h + 1) * l:=by rw [Nat.mul_add,Nat.mul_assoc]
 rw [h5]
 omega
theorem digit_test (D:Digit h l u d q r):(4294967296 * r + d < q * l) ↔ u * 4294967296 + d < q * (h * 4294967296 + l):=by
 have h5:q * (h * 4294967296 + l) = q * h * 4294967296 + q * l:=by rw [Nat.mul_add,Nat.mul_assoc]
 have:=D.sum
 rw [h5]
 generalize q * h = a at *
 generalize q * l = b at *
 omega
theorem digit_big (hu:u < h * 4294967296 + l) (hd:d < 4294967296) (hq:4294967296 ≤ q):u * 4294967296 + d < q * (h * 4294967296 + l):=by
 have h1:4294967296 * (h * 4294967296 + l) ≤ q * (h * 4294967296 + l):=Nat.mul_le_mul_right _ hq
 have h2:(u + 1) * 4294967296 ≤ (h * 4294967296 + l) * 4294967296:=Nat.mul_le_mul_right _ hu
 omega
theorem digit_pos (D:Digit h l u d q r) (ht:u * 4294967296 + d < q * (h * 4294967296 + l)):0 < q:=by
 rcases Nat.eq_zero_or_pos q with rfl | h
 ·simp at ht
 ·exact h
theorem digit_step (D:Digit h l u d q r) (ht:u * 4294967296 + d < q * (h * 4294967296 + l)):Digit h l u d (q - 1) (r + h):=by
 have hq:=digit_pos D ht
 have:=D.sum
 refine ⟨?_,?_,by have:=D.le; omega⟩
 ·obtain ⟨p,rfl⟩:∃ p,q = p + 1:=⟨q - 1,by omega⟩
  rw [Nat.add_mul] at this
  simp only [Nat.add_sub_cancel]
  omega
 ·rw [show q - 1 + 1 = q by omega]; exact ht
theorem digit_end (D:Digit h l u d q r) (ht:¬ u * 4294967296 + d < q * (h * 4294967296 + l)):q = (u * 4294967296 + d) / (h * 4294967296 + l):=
 (Nat.div_eq_of_lt_le (by omega) D.up).symm
theorem digit_break (D:Digit h l u d q r) (hl:l < 4294967296) (hq:q ≤ 4294967296) (hr:4294967296 ≤ r):¬ u * 4294967296 + d < q * (h * 4294967296 + l):=by
 rw [← digit_test D]
 have h1:q * l ≤ 4294967296 * 4294967295:=Nat.mul_le_mul hq (by omega)
 omega
end
theorem div_total (x y s:Nat):x * 2 ^ s % (y * 2 ^ s) / 2 ^ s = x % y:=by
 rw [Nat.mul_mod_mul_right,Nat.mul_div_cancel _ (Nat.pow_pos (by omega))]
theorem two_digits (N d y:Nat):(N * 4294967296 + d) % y = ((N % y) * 4294967296 + d) % y:=by
 have h:N * 4294967296 % y = N % y * 4294967296 % y:=by simp
 rw [Nat.add_mod,h,← Nat.add_mod]
theorem split32 (X D:Nat):(X * 4294967296 + D / 4294967296) * 4294967296 + D % 4294967296 = X * 18446744073709551616 + D:=by
 rw [Nat.add_mul,Nat.mul_assoc,Nat.add_assoc,Nat.mul_comm (D / 4294967296),Nat.div_add_mod]
theorem norm_gen (a c M y s:Nat) (h:a * 4294967296 + c = M * 2 ^ s):(a % (y * 2 ^ s) * 4294967296 + c) % (y * 2 ^ s) / 2 ^ s = M % y:=by
 have t:=two_digits a c (y * 2 ^ s)
 have u:=div_total M y s
 rw [h] at t
 rw [← t,u]
theorem norm_rest (hi lo y s X D:Nat) (hN:X * 18446744073709551616 + D = (hi * 18446744073709551616 + lo) * 2 ^ s):(((X * 4294967296 + D / 4294967296) % (y * 2 ^ s)) * 4294967296 + D % 4294967296) % (y * 2 ^ s) / 2 ^ s = (hi * 18446744073709551616 + lo) % y:=by
 rw [← split32 X D] at hN
 exact norm_gen _ _ _ y s hN
end FdSpec
namespace Go.Proofs
open Go Go.Sh Go.RowKit FdSpec
section
variable {K:Value → World → Prop} {w:World}
theorem K_eq {a b:Value} (h:K a w) (e:b = a):K b w:=e ▸ h
@[reducible] def u64V (n:Int):Value:=.int .u64 n
theorem valid_ok (n:Int) (h:K (.bool (decide (okN n))) w):callM Tryz.prog 123 #[.int .i64 n] K w:=by
 apply sh_123_ok
 unfold sh_123
 have e:decide (okN n) = (decide (1 ≤ n) && decide (n < 2305843009213693952)):=by
  by_cases h1:1 ≤ n <;> by_cases h2:n < 2305843009213693952 <;> simp [okN,h1,h2]
 rw [e] at h
 by_cases h1:1 ≤ n
 ·repeat (any_goals (first
  | (with_reducible first|refine pureM_in ?_|refine zA ?_|refine yB ?_)
  | ((with_reducible refine oM_gen fun Kv hK=>?_); simp [go_sem,h1]; refine hK _ _ ?_; clear hK Kv)))
  simpa [h1] using h
 ·repeat (any_goals (first
  | (with_reducible first|refine zB ?_|refine yC ?_)
  | ((with_reducible refine oM_gen fun Kv hK=>?_); simp [go_sem,h1]; refine hK _ _ ?_; clear hK Kv)))
  simpa [h1] using h
theorem residue_ok (n a:Int) (hn:okN n) (h:K (.int .u64 (a % n)) w):callM Tryz.prog 124 #[.int .i64 n,.int .i64 a] K w:=by
 apply sh_124_ok
 unfold sh_124
 obtain ⟨h1,h2⟩:=hn
 have e:=residue_eq n a (by omega)
 have h3:=Int.emod_nonneg a (b:=n) (by omega)
 have h4:=Int.emod_lt_of_pos a (b:=n) (by omega)
 obtain ⟨r,hr⟩:∃ r,r = a.tmod n:=⟨_,rfl⟩
 rw [← hr] at e
 repeat (any_goals (first
 | (with_reducible ((refine idCond ?_); refine yP (fun hg=>?_) fun hg=>?_))
 | ((with_reducible refine oM_gen fun Kv hK=>?_); simp [go_sem,← hr]; (try simp (disch:=omega) only [wrapI64,wrapU8,wrapU32,wrapU64]); (first|refine hK _ _ ?_|refine And.intro (by omega) (hK _ _ ?_)); clear hK Kv)))
 ·rw [if_pos (by assumption)] at e; rw [e]; exact h
 ·rw [if_neg (by assumption)] at e; rw [e]; exact h
theorem natN (x:Int) (h:0 ≤ x):∃ a:Nat,x = a:=⟨x.toNat,by omega⟩
theorem maskU (a:Nat) (ha:a < 18446744073709551616):bits .and .u64 (a:Int) 4294967295 = ((a % 4294967296:Nat):Int):=by
 rw [mask64 32 a 4294967295 (by omega) (by decide) (by omega)]; omega
theorem divU (a:Nat):(a:Int) / 4294967296 = ((a / 4294967296:Nat):Int):=by omega
theorem modU (a:Nat):(a:Int) % 4294967296 = ((a % 4294967296:Nat):Int):=by omega
theorem mulU (a b:Nat):(a:Int) * (b:Int) = ((a * b:Nat):Int):=(Int.natCast_mul a b).symm
theorem addU (a b:Nat):(a:Int) + (b:Int) = ((a + b:Nat):Int):=(Int.natCast_add a b).symm
theorem wrapU (a:Nat) (ha:a < 18446744073709551616):IntKind.u64.wrap (a:Int) = (a:Int):=wrapU64 _ (by omega) (by omega)
theorem wrapUM (a:Nat):IntKind.u64.wrap (a:Int) = ((a % 18446744073709551616:Nat):Int):=by rw [IntKind.wrap_u64]; omega
theorem mul64_ok (x y:Int) (hx:0 ≤ x ∧ x < 18446744073709551616) (hy:0 ≤ y ∧ y < 18446744073709551616) (h:K (.tuple #[.int .u64 (x * y / 18446744073709551616),.int .u64 (x * y % 18446744073709551616)]) w):callM Tryz.prog 182 #[.int .u64 x,.int .u64 y] K w:=by
 apply sh_182_ok
 unfold sh_182
 have mx:=mask64 32 x 4294967295 (by omega) (by decide) hx
 have my:=mask64 32 y 4294967295 (by omega) (by decide) hy
 obtain ⟨a,rfl⟩:=natN x hx.1
 obtain ⟨b,rfl⟩:=natN y hy.1
 repeat (any_goals ((with_reducible refine oM_gen fun Kv hK=>?_); simp [go_sem,mx,my]; refine hK _ _ ?_; clear hK Kv))
 clear mx my
 have hx:a < 18446744073709551616:=by omega
 have hy:b < 18446744073709551616:=by omega
 obtain ⟨bd,bt,bw,hhi⟩:=Lib.mul64_hi a b hx hy
 have ba:=Lib.half_mul_le (a:=a / 4294967296) (b:=b / 4294967296) (by omega) (by omega)
 have bb:=Lib.half_mul_le (a:=a / 4294967296) (b:=b % 4294967296) (by omega) (by omega)
 have bc:=Lib.half_mul_le (a:=a % 4294967296) (b:=b / 4294967296) (by omega) (by omega)
 have ba':a / 4294967296 * (b / 4294967296) < 18446744073709551616:=by omega
 have bb':a / 4294967296 * (b % 4294967296) < 18446744073709551616:=by omega
 have bc':a % 4294967296 * (b / 4294967296) < 18446744073709551616:=by omega
 have bh1:a / 4294967296 * (b / 4294967296) + (a / 4294967296 * (b % 4294967296) + a % 4294967296 * (b % 4294967296) / 4294967296) / 4294967296 < 18446744073709551616:=by omega
 have bh:a / 4294967296 * (b / 4294967296) + (a / 4294967296 * (b % 4294967296) + a % 4294967296 * (b % 4294967296) / 4294967296) / 4294967296 + ((a / 4294967296 * (b % 4294967296) + a % 4294967296 * (b % 4294967296) / 4294967296) % 4294967296 + a % 4294967296 * (b / 4294967296)) / 4294967296 < 18446744073709551616:=by omega
 simp only [modU,divU,mulU,addU,wrapU _ bd,wrapU _ bb',wrapU _ bt,maskU _ bt,wrapU _ bc',wrapU _ bw,wrapU _ ba',wrapU _ bh1,wrapU _ bh,wrapUM (a * b)]
 rw [hhi]
 exact K_eq h (by simp)
def len8:ByteArray:=⟨#[0,1,2,2,3,3,3,3,4,4,4,4,4,4,4,4,5,5,5,5,5,5,5,5,5,5,5,5,5,5,5,5,6,6,6,6,6,6,6,6,6,6,6,6,6,6,6,6,6,6,6,6,6,6,6,6,6,6,6,6,6,6,6,6,7,7,7,7,7,7,7,7,7,7,7,7,7,7,7,7,7,7,7,7,7,7,7,7,7,7,7,7,7,7,7,7,7,7,7,7,7,7,7,7,7,7,7,7,7,7,7,7,7,7,7,7,7,7,7,7,7,7,7,7,7,7,7,7,8,8,8,8,8,8,8,8,8,8,8,8,8,8,8,8,8,8,8,8,8,8,8,8,8,8,8,8,8,8,8,8,8,8,8,8,8,8,8,8,8,8,8,8,8,8,8,8,8,8,8,8,8,8,8,8,8,8,8,8,8,8,8,8,8,8,8,8,8,8,8,8,8,8,8,8,8,8,8,8,8,8,8,8,8,8,8,8,8,8,8,8,8,8,8,8,8,8,8,8,8,8,8,8,8,8,8,8,8,8,8,8,8,8,8,8,8,8,8,8,8,8,8,8,8,8,8,8]⟩
theorem len8_size:len8.size = 256:=by decide +kernel
theorem len_bits (x:Nat) (hx:x < 256):x < 2 ^ (byteAt len8 x).toNat ∧ (x ≠ 0 → 1 ≤ (byteAt len8 x).toNat ∧ 2 ^ ((byteAt len8 x).toNat - 1) ≤ x) ∧ (byteAt len8 x).toNat ≤ 8 ∧ (x = 0 → (byteAt len8 x).toNat = 0):=by
 have:∀ x,x < 256 → x < 2 ^ (byteAt len8 x).toNat ∧ (x ≠ 0 → 1 ≤ (byteAt len8 x).toNat ∧ 2 ^ ((byteAt len8 x).toNat - 1) ≤ x) ∧ (byteAt len8 x).toNat ≤ 8 ∧ (x = 0 → (byteAt len8 x).toNat = 0):=by decide +kernel
 exact this x hx
theorem oM_index_len8 (i:Int) (T:TypeId):oM Tryz.prog (.index 9 (.tmp 0) (.tmp 1)) T [.string len8,.int .u8 i] = onM (0 ≤ i ∧ i < 256) (.int .u8 (byteAt len8 i.toNat).toNat):=by
 funext K w
 rw [oM_value (S:=Instr.index 9 (.string len8) (.int .u8 i)) rfl,run_index_string (P:=Tryz.prog) (w:=w) 9 len8 .u8 i (by kernel_rfl)]
 have e:=len8_size
 by_cases hi:0 ≤ i ∧ i < len8.size
 ·rw [dif_pos hi,ok_iff,← byteAt_get]
  exact propext ⟨fun hk=>⟨⟨hi.1,by omega⟩,hk⟩,fun ⟨_,hk⟩=>hk⟩
 ·rw [dif_neg hi]
  obtain ⟨e',w',he⟩:=halts Value Tryz.prog .u8 i len8.size .index w
  rw [he,halt_iff]
  exact propext ⟨fun h=>h.elim,fun ⟨h,_⟩=>hi ⟨h.1,by omega⟩⟩
theorem stage (x k s:Nat) (h:2 ^ s ≤ x / 2 ^ k):x / 2 ^ (k + s) = x / 2 ^ k / 2 ^ s ∧ 2 ^ (k + s) ≤ x:=by
 refine ⟨by rw [Nat.pow_add,Nat.div_div_eq_div_mul],?_⟩
 rw [Nat.pow_add,Nat.mul_comm]
 exact (Nat.le_div_iff_mul_le (Nat.pow_pos (by omega))).1 h
structure BitLen (x L:Nat):Prop where
 lt:x < 2 ^ L
 ge:x ≠ 0 → 1 ≤ L ∧ 2 ^ (L - 1) ≤ x
 le:L ≤ 64
def BlM (x B m:Nat) (w:World) (l:List Value) (w':World):Prop:=w' = w ∧ ∃ k:Nat,l = [.int .u64 ((x / 2 ^ k:Nat):Int),.int .i64 (k:Int)] ∧ x / 2 ^ k < B ∧ (k = 0 ∨ 2 ^ k ≤ x) ∧ k ≤ m
theorem len64_ok (x:Nat) (hx:x < 18446744073709551616) (h:∀ L,BitLen x L → K (.int .i64 (L:Nat)) w):callM Tryz.prog 236 #[.int .u64 (x:Int)] K w:=by
 apply sh_236_ok
 unfold sh_236
 rw [show (⟨#[0,1,2,2,3,3,3,3,4,4,4,4,4,4,4,4,5,5,5,5,5,5,5,5,5,5,5,5,5,5,5,5,6,6,6,6,6,6,6,6,6,6,6,6,6,6,6,6,6,6,6,6,6,6,6,6,6,6,6,6,6,6,6,6,7,7,7,7,7,7,7,7,7,7,7,7,7,7,7,7,7,7,7,7,7,7,7,7,7,7,7,7,7,7,7,7,7,7,7,7,7,7,7,7,7,7,7,7,7,7,7,7,7,7,7,7,7,7,7,7,7,7,7,7,7,7,7,7,8,8,8,8,8,8,8,8,8,8,8,8,8,8,8,8,8,8,8,8,8,8,8,8,8,8,8,8,8,8,8,8,8,8,8,8,8,8,8,8,8,8,8,8,8,8,8,8,8,8,8,8,8,8,8,8,8,8,8,8,8,8,8,8,8,8,8,8,8,8,8,8,8,8,8,8,8,8,8,8,8,8,8,8,8,8,8,8,8,8,8,8,8,8,8,8,8,8,8,8,8,8,8,8,8,8,8,8,8,8,8,8,8,8,8,8,8,8,8,8,8,8,8,8,8,8,8,8]⟩:ByteArray) = len8 from rfl]
 refine ⟨BlM x 4294967296 32 w,?_,?_⟩
 ·repeat (any_goals (first
  | (with_reducible ((refine idCond ?_); refine yP (fun hg=>?_) fun hg=>?_))
  | ((with_reducible refine oM_gen fun Kv hK=>?_); simp [go_sem]; refine hK _ _ ?_; clear hK Kv)))
  ·exact ⟨rfl,32,by simp,by omega,by omega,by omega⟩
  ·exact ⟨rfl,0,by simp,by simp; omega,by omega,by omega⟩
 rintro _ _ w1 ⟨e1,k,rfl,h1,h2,h3⟩
 rw [e1]
 clear e1 w1
 refine ⟨BlM x 65536 48 w,?_,?_⟩
 ·have hs:=stage x k 16
  obtain ⟨y,hy⟩:∃ y,y = x / 2 ^ k:=⟨_,rfl⟩
  rw [← hy] at hs h1 ⊢
  repeat (any_goals (first
  | (with_reducible ((refine idCond ?_); refine yP (fun hg=>?_) fun hg=>?_))
  | ((with_reducible refine oM_gen fun Kv hK=>?_); simp [go_sem]; (try simp (disch:=omega) only [wrapI64,wrapU8,wrapU32,wrapU64]); refine hK _ _ ?_; clear hK Kv)))
  ·have hs:=hs (by omega)
   exact ⟨rfl,k + 16,by rw [hs.1]; simp,by rw [hs.1]; omega,.inr hs.2,by omega⟩
  ·exact ⟨rfl,k,by rw [hy]; rfl,by omega,h2,by omega⟩
 clear h1 h2 h3 k
 rintro _ _ w1 ⟨e1,k,rfl,h1,h2,h3⟩
 rw [e1]
 clear e1 w1
 refine ⟨BlM x 256 56 w,?_,?_⟩
 ·have hs:=stage x k 8
  obtain ⟨y,hy⟩:∃ y,y = x / 2 ^ k:=⟨_,rfl⟩
  rw [← hy] at hs h1 ⊢
  repeat (any_goals (first
  | (with_reducible ((refine idCond ?_); refine yP (fun hg=>?_) fun hg=>?_))
  | ((with_reducible refine oM_gen fun Kv hK=>?_); simp [go_sem]; (try simp (disch:=omega) only [wrapI64,wrapU8,wrapU32,wrapU64]); refine hK _ _ ?_; clear hK Kv)))
  ·have hs:=hs (by omega)
   exact ⟨rfl,k + 8,by rw [hs.1]; simp,by rw [hs.1]; omega,.inr hs.2,by omega⟩
  ·exact ⟨rfl,k,by rw [hy]; rfl,by omega,h2,by omega⟩
 clear h1 h2 h3 k
 rintro _ _ w1 ⟨e1,k,rfl,h1,h2,h3⟩
 rw [e1]
 clear e1 w1
 obtain ⟨l1,l2,l3,l4⟩:=len_bits (x / 2 ^ k) h1
 have hL:BitLen x (k + (byteAt len8 (x / 2 ^ k)).toNat):=by
  generalize (byteAt len8 (x / 2 ^ k)).toNat = L at *
  have hp:0 < 2 ^ k:=Nat.pow_pos (by omega)
  refine ⟨?_,?_,by omega⟩
  ·rw [Nat.pow_add,Nat.mul_comm]
   exact (Nat.div_lt_iff_lt_mul hp).1 l1
  ·intro h0
   by_cases hy:x / 2 ^ k = 0
   ·rw [Nat.div_eq_zero_iff] at hy
    rcases h2 with rfl | h2 <;> simp at hy <;> omega
   ·obtain ⟨a,b⟩:=l2 hy
    refine ⟨by omega,?_⟩
    rw [show k + L - 1 = k + (L - 1) by omega,Nat.pow_add,Nat.mul_comm]
    exact (Nat.le_div_iff_mul_le hp).1 b
 obtain ⟨y,hy⟩:∃ y,y = x / 2 ^ k:=⟨_,rfl⟩
 have hk:=h _ hL
 simp only [← hy] at hk h1 l3 ⊢
 repeat (any_goals ((with_reducible refine oM_gen fun Kv hK=>?_); simp [go_sem,oM_index_len8]; (try simp (disch:=omega) only [wrapI64,wrapU8,wrapU32,wrapU64]); (first|refine hK _ _ ?_|refine And.intro (by omega) (hK _ _ ?_)); clear hK Kv))
 exact K_eq hk (by simp)
end
end Go.Proofs
namespace Go.Proofs
open Go Go.Sh Go.RowKit FdSpec
section
variable {K:Value → World → Prop} {w:World}
def dgLoop (vh vl vd:Value) (M:List Value → World → Prop) (x:List Value) (w:World):Prop:=
 (loopM x w (fun J_30 m_31 l u_l w0_l=>(fun w=>(
 oM Tryz.prog (Go.Op.binOp Go.BinOp.geq 150 (.tmp 0) (.tmp 1) 150) 4 [(l.getD 0 undef),(.int .u64 4294967296)] (fun v68_33 w=>
 gdM (gd v68_33 false) (pureM (l.getD 0 undef)) (fun v70_34 w=>
 gdM (gd v68_33 false) (pureM vl) (fun v71_35 w=>
 gdM (gd v68_33 false) (oM Tryz.prog (Go.Op.binOp Go.BinOp.mul 150 (.tmp 0) (.tmp 1) 150) 150 [v70_34,v71_35]) (fun v72_36 w=>
 gdM (gd v68_33 false) (pureM (l.getD 1 undef)) (fun v73_37 w=>
 gdM (gd v68_33 false) (oM Tryz.prog (Go.Op.binOp Go.BinOp.mul 150 (.tmp 0) (.tmp 1) 150) 150 [(.int .u64 4294967296),v73_37]) (fun v74_38 w=>
 gdM (gd v68_33 false) (pureM vd) (fun v75_39 w=>
 gdM (gd v68_33 false) (oM Tryz.prog (Go.Op.binOp Go.BinOp.add 150 (.tmp 0) (.tmp 1) 150) 150 [v74_38,v75_39]) (fun v76_40 w=>
 gdM (gd v68_33 false) (oM Tryz.prog (Go.Op.binOp Go.BinOp.gtr 150 (.tmp 0) (.tmp 1) 150) 4 [v72_36,v76_40]) (fun v77_41 w=>
 oM Tryz.prog (Go.Op.pick (.tmp 0) (.tmp 1) (.tmp 2)) 4 [v68_33,(.bool true),v77_41] (fun v78_42 w=>
 condM v78_42
 (oM Tryz.prog (Go.Op.binOp Go.BinOp.sub 150 (.tmp 0) (.tmp 1) 150) 150 [(l.getD 0 undef),(.int .u64 1)] (fun v80_43 w=>
 oM Tryz.prog (Go.Op.binOp Go.BinOp.add 150 (.tmp 0) (.tmp 1) 150) 150 [(l.getD 1 undef),vh] (fun v83_44 w=>
 oM Tryz.prog (Go.Op.binOp Go.BinOp.geq 150 (.tmp 0) (.tmp 1) 150) 4 [v83_44,(.int .u64 4294967296)] (fun v85_45 w=>
 condM v85_45
 (M [v80_43,v83_44] w)
 (J_30 [v80_43,v83_44] w ∧ m_31 [v80_43,v83_44] w < m_31 l w0_l)) w) w) w)
 (M [(l.getD 0 undef),(l.getD 1 undef)] w)) w) w) w) w) w) w) w) w) w) w)) w0_l))
def DgJ (h l u d:Nat) (w:World) (x:List Value) (w':World):Prop:=w' = w ∧ ∃ q r:Nat,x = [.int .u64 (q:Int),.int .u64 (r:Int)] ∧ Digit h l u d q r ∧ r < 4294967296
theorem dg_ok (h l u d:Nat) (M:List Value → World → Prop) (hh:2147483648 ≤ h) (hh2:h < 4294967296) (hl:l < 4294967296) (hd:d < 4294967296) (hu:u < h * 4294967296 + l)
  (hM:∀ r:Nat,M [.int .u64 (((u * 4294967296 + d) / (h * 4294967296 + l):Nat):Int),.int .u64 (r:Int)] w):dgLoop (.int .u64 (h:Int)) (.int .u64 (l:Int)) (.int .u64 (d:Int)) M [.int .u64 ((u / h:Nat):Int),.int .u64 ((u - u / h * h:Nat):Int)] w:=by
 unfold dgLoop
 refine ⟨DgJ h l u d w,fun x _=>match x with | [.int _ q,_]=>q.toNat | _=>0,⟨rfl,_,_,rfl,digit_start hh hh2 hl hd hu,?_⟩,?_⟩
 ·have h1:=Nat.mod_lt u (show h > 0 by omega)
  have h2:=Nat.div_add_mod u h
  rw [Nat.mul_comm] at h2
  omega
 rintro _ _ w1 ⟨e1,q,r,rfl,D,hr⟩
 rw [e1]
 clear e1 w1
 have hq:=D.le
 have ht:=digit_test D
 have hbig:=fun hb:4294967296 ≤ q=>digit_big hu hd hb
 have hstep:=fun hb=>digit_step D hb
 have hpos:=fun hb=>digit_pos D hb
 have hend:=fun hb=>digit_end D hb
 have hbr:∀ hb,4294967296 ≤ r + h → q - 1 = (u * 4294967296 + d) / (h * 4294967296 + l):=fun hb hg=>digit_end (hstep hb) (digit_break (hstep hb) hl (by omega) hg)
 have hql:q < 4294967296 → q * l < 18446744073709551616:=fun hb=>by
  have:=Nat.mul_le_mul (show q ≤ 4294967295 by omega) (show l ≤ 4294967295 by omega)
  omega
 generalize (u * 4294967296 + d) / (h * 4294967296 + l) = Q at *
 generalize (u * 4294967296 + d < q * (h * 4294967296 + l)) = T at *
 have hmul:(q:Int) * (l:Int) = ((q * l:Nat):Int):=(Int.natCast_mul q l).symm
 generalize q * l = ql at *
 have fin1:(4294967296 ≤ r + h → q - 1 = Q) → 0 < q → 4294967296 ≤ r + h → M [.int .u64 ((q:Int) - 1),.int .u64 ((r:Int) + h)] w:=fun a b c=>by
  rw [show (q:Int) - 1 = ((q - 1:Nat):Int) by omega,show (r:Int) + h = ((r + h:Nat):Int) by omega,a c]; exact hM _
 have fin2:Digit h l u d (q - 1) (r + h) → 0 < q → ¬ 4294967296 ≤ r + h → DgJ h l u d w [.int .u64 ((q:Int) - 1),.int .u64 ((r:Int) + h)] w ∧ ((q:Int) - 1).toNat < (q:Int).toNat:=fun a b c=>by
  rw [show (q:Int) - 1 = ((q - 1:Nat):Int) by omega,show (r:Int) + h = ((r + h:Nat):Int) by omega]
  exact ⟨⟨rfl,_,_,rfl,a,by omega⟩,by omega⟩
 by_cases hb:4294967296 ≤ q
 ·have hT:=hbig hb
  have hst:=hstep hT
  have hps:=hpos hT
  have hbr:=hbr hT
  repeat (any_goals (first
  | (with_reducible first|((refine idGd ?_); ((refine idGdD ?_); refine zJ ?_))|refine yD ?_|((refine idCond ?_); first|refine yL ?_|refine yP (fun hg=>?_) fun hg=>?_))
  | ((with_reducible refine oM_gen fun Kv hK=>?_); simp [go_sem,hb]; (try simp (disch:=omega) only [wrapI64,wrapU8,wrapU32,wrapU64]); refine hK _ _ ?_; clear hK Kv)))
  ·exact fin1 hbr hps (by omega)
  ·exact fin2 hst hps (by omega)
 ·have hql:=hql (by omega)
  by_cases hT:T
  ·have hst:=hstep hT
   have hps:=hpos hT
   have hbr:=hbr hT
   have htt:=ht.2 hT
   repeat (any_goals (first
   | (with_reducible first|refine pureM_in ?_|((refine idGd ?_); ((refine idGdD ?_); refine zI ?_))|refine yE ?_|((refine idCond ?_); first|refine yN ?_|refine yP (fun hg=>?_) fun hg=>?_))
   | ((with_reducible refine oM_gen fun Kv hK=>?_); simp [go_sem,hb,hmul]; (try simp (disch:=omega) only [wrapI64,wrapU8,wrapU32,wrapU64]); refine hK _ _ ?_; clear hK Kv)))
   ·exact fin1 hbr hps (by omega)
   ·exact fin2 hst hps (by omega)
  ·have he:=hend hT
   have htt:¬ _:=fun h=>hT (ht.1 h)
   repeat (any_goals (first
   | (with_reducible first|refine pureM_in ?_|((refine idGd ?_); ((refine idGdD ?_); refine zI ?_))|refine yE ?_|refine yO ?_)
   | ((with_reducible refine oM_gen fun Kv hK=>?_); simp [go_sem,hb,hmul]; (try simp (disch:=omega) only [wrapI64,wrapU8,wrapU32,wrapU64]); refine hK _ _ ?_; clear hK Kv)))
   simp only [List.getD_cons_zero,List.getD_cons_succ]
   rw [he]
   exact hM _
theorem lead64_ok (x:Nat) (hx:x < 18446744073709551616) (h:∀ L,BitLen x L → K (.int .i64 (64 - (L:Int))) w):callM Tryz.prog 222 #[.int .u64 (x:Int)] K w:=by
 apply sh_222_ok
 unfold sh_222
 refine len64_ok x hx ?_
 intro L hL
 have:=hL.le
 repeat (any_goals ((with_reducible refine oM_gen fun Kv hK=>?_); simp [go_sem]; (try simp (disch:=omega) only [wrapI64,wrapU8,wrapU32,wrapU64]); refine hK _ _ ?_; clear hK Kv))
 exact h L hL
theorem norm_len (y L:Nat) (hy:0 < y) (hL:BitLen y L):9223372036854775808 ≤ y * 2 ^ (64 - L) ∧ y * 2 ^ (64 - L) < 18446744073709551616:=by
 obtain ⟨a,b⟩:=hL.ge (by omega)
 have h64:=hL.le
 have h1:2 ^ (L - 1) * 2 ^ (64 - L) = 9223372036854775808:=by
  rw [← Nat.pow_add,show L - 1 + (64 - L) = 63 by omega]
 have h2:2 ^ L * 2 ^ (64 - L) = 18446744073709551616:=by
  rw [← Nat.pow_add,show L + (64 - L) = 64 by omega]
 have hp:0 < 2 ^ (64 - L):=Nat.pow_pos (by omega)
 exact ⟨by rw [← h1]; exact Nat.mul_le_mul_right _ b,by rw [← h2]; exact (Nat.mul_lt_mul_right hp).2 hL.lt⟩
theorem norm_top (hi lo s:Nat) (hs:s ≤ 64) (hlo:lo < 18446744073709551616):(hi * 2 ^ s + lo / 2 ^ (64 - s)) * 18446744073709551616 + lo * 2 ^ s % 18446744073709551616 = (hi * 18446744073709551616 + lo) * 2 ^ s ∧ lo / 2 ^ (64 - s) < 2 ^ s:=by
 have h2:2 ^ (64 - s) * 2 ^ s = 18446744073709551616:=by rw [← Nat.pow_add,show 64 - s + s = 64 by omega]
 have hp:0 < 2 ^ s:=Nat.pow_pos (by omega)
 have hq:0 < 2 ^ (64 - s):=Nat.pow_pos (by omega)
 have h3:lo * 2 ^ s / 18446744073709551616 = lo / 2 ^ (64 - s):=by
  rw [← h2,Nat.mul_div_mul_right _ _ hp]
 have h4:=Nat.div_add_mod (lo * 2 ^ s) 18446744073709551616
 refine ⟨?_,?_⟩
 ·rw [h3] at h4
  rw [Nat.add_mul,Nat.add_mul,Nat.mul_right_comm hi,Nat.add_assoc,Nat.mul_comm (lo / _) 18446744073709551616,h4]
 ·rw [Nat.div_lt_iff_lt_mul hq,Nat.mul_comm,h2]; exact hlo
def EqW (w:World) (l:List Value) (w':World):Prop:=w' = w
def DgE (Q:Nat) (w:World) (l:List Value) (w':World):Prop:=w' = w ∧ ∃ r:Nat,l = [.int .u64 (Q:Int),.int .u64 (r:Int)]
theorem left_wrap (X d Y Q U:Nat) (hs:Q * Y + U = X * 4294967296 + d) (hU:U < 18446744073709551616):IntKind.u64.wrap (IntKind.u64.wrap (IntKind.u64.wrap ((X:Int) * 4294967296) + (d:Int)) - IntKind.u64.wrap ((Q:Int) * (Y:Int))) = (U:Int):=by
 have hm:(Q:Int) * (Y:Int) = ((Q * Y:Nat):Int):=(Int.natCast_mul Q Y).symm
 rw [hm]
 generalize Q * Y = P at *
 simp only [IntKind.wrap_u64]
 omega
theorem half_div (X h:Nat) (hX:X < 18446744073709551616) (hh:2147483648 ≤ h):∃ q p r:Nat,X / h = q ∧ q * h = p ∧ X - p = r ∧ p ≤ X ∧ q < 18446744073709551616 ∧ (X:Int).tdiv (h:Int) = (q:Int) ∧ (q:Int) * (h:Int) = (p:Int) ∧ (X:Int) - (p:Int) = (r:Int):=by
 have h1:=Nat.div_mul_le_self X h
 have h2:=Nat.div_le_self X h
 refine ⟨_,_,_,rfl,rfl,rfl,h1,by omega,?_,(Int.natCast_mul _ _).symm,by omega⟩
 rw [Int.tdiv_eq_ediv_of_nonneg (by omega)]; rfl
set_option maxHeartbeats 1000000 in
theorem div64_ok (hi lo y:Nat) (hlt:hi < y) (hy:y < 18446744073709551616) (hlo:lo < 18446744073709551616) (k:∀ (q:Int) w',Below w.heap.size w w' → K (.tuple #[.int .u64 q,.int .u64 (((hi * 18446744073709551616 + lo) % y:Nat):Int)]) w'):callM Tryz.prog 208 #[.int .u64 (hi:Int),.int .u64 (lo:Int),.int .u64 (y:Int)] K w:=by
 apply sh_208_ok
 unfold sh_208
 refine ⟨EqW w,?_,?_⟩
 ·repeat (any_goals (first
  | (with_reducible refine yO ?_)
  | ((with_reducible refine oM_gen fun Kv hK=>?_); simp [go_sem]; refine hK _ _ ?_; clear hK Kv)))
  exact rfl
 rintro _ _ w1 e1
 rw [show w1 = w from e1]
 clear e1 w1
 refine ⟨EqW w,?_,?_⟩
 ·repeat (any_goals (first
  | (with_reducible refine yO ?_)
  | ((with_reducible refine oM_gen fun Kv hK=>?_); simp [go_sem]; refine hK _ _ ?_; clear hK Kv)))
  exact rfl
 rintro _ _ w1 e1
 rw [show w1 = w from e1]
 clear e1 w1
 by_cases h0:hi = 0
 ·subst h0
  have k0:=k ((lo / y:Nat):Int) _ (Below.drew (Below.refl _ w))
  have t1:((lo:Int).tdiv (y:Int)) = ((lo / y:Nat):Int):=by rw [Int.tdiv_eq_ediv_of_nonneg (by omega)]; rfl
  have t2:((lo:Int).tmod (y:Int)) = ((lo % y:Nat):Int):=by rw [Int.tmod_eq_emod_of_nonneg (by omega)]; rfl
  have t3:=Nat.div_le_self lo y
  simp only [Nat.zero_mul,Nat.zero_add] at k0
  generalize lo / y = a at *
  generalize lo % y = b at *
  repeat (any_goals (first
  | (with_reducible refine yL ?_)
  | ((with_reducible refine oM_gen fun Kv hK=>?_); simp [go_sem,t1,t2]; refine hK _ _ ?_; clear hK Kv)))
  refine quietM_one ?_
  repeat (any_goals (first
  | (with_reducible first|refine And.intro (Eq.refl (α:=World) _) ?_|refine forall_one ?_)
  | ((with_reducible refine idOQ ?_); ((with_reducible refine oQ_one ?_ ?_); exact ⟨_,rfl⟩))
  | ((with_reducible refine oM_gen fun Kv hK=>?_); simp [go_sem,t1,t2]; (try simp (disch:=omega) only [wrapI64,wrapU8,wrapU32,wrapU64]); refine And.intro (by omega) (hK _ _ ?_); clear hK Kv)))
  exact k0
 obtain ⟨s,hs⟩:∃ s,s = 64:=⟨_,rfl⟩
 repeat (any_goals (first
 | (with_reducible refine yO ?_)
 | ((with_reducible refine oM_gen fun Kv hK=>?_); simp [go_sem]; refine hK _ _ ?_; clear hK Kv)))
 refine lead64_ok y hy ?_
 intro L hL
 clear s hs
 have hn:=norm_len y L (by omega) hL
 have hL64:=hL.le
 obtain ⟨s,hs⟩:∃ s,s = 64 - L:=⟨_,rfl⟩
 rw [← hs] at hn
 have hs64:s ≤ 64:=by omega
 obtain ⟨hN,hB⟩:=norm_top hi lo s hs64 hlo
 have hres:=norm_rest hi lo y s _ _ hN
 have hAB:hi * 2 ^ s + lo / 2 ^ (64 - s) < y * 2 ^ s:=by
  have:=Nat.mul_le_mul_right (2 ^ s) (show hi + 1 ≤ y by omega)
  rw [Nat.add_mul,Nat.one_mul] at this
  omega
 have hsub:(64:Int) - (L:Int) = (s:Int):=by omega
 have hpow:∀ a:Nat,(a:Int) * 2 ^ s = ((a * 2 ^ s:Nat):Int):=fun a=>by rw [Int.natCast_mul,Int.natCast_pow]; rfl
 have hdiv:∀ a:Nat,(a:Int) / 2 ^ (64 - s) = ((a / 2 ^ (64 - s):Nat):Int):=fun a=>by rw [Int.natCast_ediv,Int.natCast_pow]; rfl
 have hBi:((lo / 2 ^ (64 - s):Nat):Int) < 2 ^ s:=by
  have:=Int.ofNat_lt.2 hB
  rw [Int.natCast_pow] at this
  exact this
 have hor:=or_add64 s (hi:Int) ((lo / 2 ^ (64 - s):Nat):Int) hs64 (Int.natCast_nonneg _) ⟨Int.natCast_nonneg _,hBi⟩
 have hD:lo * 2 ^ s % 18446744073709551616 < 18446744073709551616:=Nat.mod_lt _ (by omega)
 have hDi:((lo * 2 ^ s:Nat):Int) % 18446744073709551616 = ((lo * 2 ^ s % 18446744073709551616:Nat):Int):=by rw [Int.natCast_emod]; rfl
 have hsub2:((64:Int) - (s:Int)).toNat = 64 - s:=by omega
 rw [hpow] at hor
 clear hN hB hBi hL
 generalize lo * 2 ^ s % 18446744073709551616 = D at *
 generalize hlo2:lo * 2 ^ s = lo2 at *
 generalize hA:hi * 2 ^ s = A at *
 generalize hB:lo / 2 ^ (64 - s) = B at *
 generalize hY:y * 2 ^ s = Y at *
 have hor:=hor (by omega)
 have hAm:(A:Int) % 18446744073709551616 = (A:Int):=by omega
 have hYm:(Y:Int) % 18446744073709551616 = (Y:Int):=by omega
 have hpa:=hpow hi
 have hpl:=hpow lo
 have hpy:=hpow y
 have hdl:=hdiv lo
 rw [hA] at hpa
 rw [hlo2] at hpl
 rw [hY] at hpy
 rw [hB] at hdl
 rw [hsub]
 obtain ⟨t,ht⟩:∃ t,t = 64 - s:=⟨_,rfl⟩
 have ht2:(64:Int) - (s:Int) = (t:Int):=by omega
 rw [← ht] at hdl
 have rl:=fun x=>oM_shl64 (P:=Tryz.prog) 150 191 150 .u64 x (s:Int) (by omega) (by omega)
 have rr:=fun x=>oM_shr64 (P:=Tryz.prog) 150 191 150 .u64 x (s:Int) (by omega) (by omega)
 have rt:=fun x=>oM_shr64 (P:=Tryz.prog) 150 191 150 .u64 x (t:Int) (by omega) (by omega)
 simp only [Int.toNat_natCast] at rl rr rt
 obtain ⟨h,hh⟩:∃ h,h = Y / 4294967296:=⟨_,rfl⟩
 obtain ⟨l,hl⟩:∃ l,l = Y % 4294967296:=⟨_,rfl⟩
 obtain ⟨d1,hd1⟩:∃ d1,d1 = D / 4294967296:=⟨_,rfl⟩
 obtain ⟨d0,hd0⟩:∃ d0,d0 = D % 4294967296:=⟨_,rfl⟩
 obtain ⟨X,hX⟩:∃ X,X = A + B:=⟨_,rfl⟩
 have hhi:(Y:Int) / 4294967296 = (h:Int):=by omega
 have hli:bits .and .u64 (Y:Int) 4294967295 = (l:Int):=by rw [maskU Y (by omega),← hl]
 have hd1i:(D:Int) / 4294967296 = (d1:Int):=by omega
 have hd0i:bits .and .u64 (D:Int) 4294967295 = (d0:Int):=by rw [maskU D (by omega),← hd0]
 have hXi:(A:Int) + (B:Int) = (X:Int):=by omega
 have hhl:h * 4294967296 + l = Y:=by omega
 rw [← hX,← hd1,← hd0] at hres
 obtain ⟨q1,p1,r1,e1,e2,e3,e4,e5,e6,e7,e8⟩:=half_div X h (by omega) (by omega)
 obtain ⟨Q,hQ⟩:∃ Q,Q = (X * 4294967296 + d1) / Y:=⟨_,rfl⟩
 obtain ⟨U,hU⟩:∃ U,U = (X * 4294967296 + d1) % Y:=⟨_,rfl⟩
 have hUY:U < Y:=by rw [hU]; exact Nat.mod_lt _ (by omega)
 have dg:=dg_ok (w:=w) h l X d1 (DgE Q w) (by omega) (by omega) (by omega) (by omega) (by omega) (fun r=>⟨rfl,r,by rw [hhl,← hQ]⟩)
 have lw:=left_wrap X d1 Y Q U (by rw [hQ,hU]; exact Nat.div_add_mod' _ _) (by omega)
 obtain ⟨q2,p2,r2,f1,f2,f3,f4,f5,f6,f7,f8⟩:=half_div U h (by omega) (by omega)
 obtain ⟨Q2,hQ2⟩:∃ Q2,Q2 = (U * 4294967296 + d0) / Y:=⟨_,rfl⟩
 obtain ⟨R,hR⟩:∃ R,R = (U * 4294967296 + d0) % Y:=⟨_,rfl⟩
 have hRY:R < Y:=by rw [hR]; exact Nat.mod_lt _ (by omega)
 have dg2:=dg_ok (w:=w) h l U d0 (DgE Q2 w) (by omega) (by omega) (by omega) (by omega) (by omega) (fun r=>⟨rfl,r,by rw [hhl,← hQ2]⟩)
 have lw2:=left_wrap U d0 Y Q2 R (by rw [hQ2,hR]; exact Nat.div_add_mod' _ _) (by omega)
 rw [← hU,← hR] at hres
 rw [e1,e2,e3] at dg
 rw [f1,f2,f3] at dg2
 have hRi:(R:Int) / 2 ^ s = ((R / 2 ^ s:Nat):Int):=by rw [Int.natCast_ediv,Int.natCast_pow]; rfl
 rw [hres] at hRi
 clear hres hR hU hQ hQ2 e1 e2 e3 f1 f2 f3 hh hl hd1 hd0 hX
 repeat (any_goals ((with_reducible refine oM_gen fun Kv hK=>?_); simp [go_sem,rl,rr,rt,ht2,hpa,hpl,hpy,hdl,hor,hAm,hYm,hDi,hXi,hhi,hli,hd1i,hd0i,e6,e7,e8]; (try simp (disch:=omega) only [wrapI64,wrapU8,wrapU32,wrapU64]); (first|refine hK _ _ ?_|refine And.intro (by omega) (hK _ _ ?_)); clear hK Kv))
 refine ⟨DgE Q w,dg,?_⟩
 rintro _ _ w1 ⟨e1,r,rfl⟩
 rw [e1]
 clear e1 w1
 repeat (any_goals ((with_reducible refine oM_gen fun Kv hK=>?_); simp [go_sem,rl,rr,rt,lw,f6,f7,f8]; (try simp (disch:=omega) only [wrapI64,wrapU8,wrapU32,wrapU64]); (first|refine hK _ _ ?_|refine And.intro (by omega) (hK _ _ ?_)); clear hK Kv))
 refine ⟨DgE Q2 w,dg2,?_⟩
 rintro _ _ w1 ⟨e1,r',rfl⟩
 rw [e1]
 clear e1 w1
 repeat (any_goals ((with_reducible refine oM_gen fun Kv hK=>?_); simp [go_sem,rl,rr,rt,lw2,hRi]; refine hK _ _ ?_; clear hK Kv))
 exact k _ _ (Below.refl _ _)
end
end Go.Proofs
namespace Go.Proofs
open Go Go.Sh Go.RowKit FdSpec
section
variable {K:Value → World → Prop} {w:World}
theorem rem64_ok (hi lo y:Nat) (hhi:hi < 18446744073709551616) (hy0:0 < y) (hy:y < 18446744073709551616) (hlo:lo < 18446744073709551616) (k:∀ w',Below w.heap.size w w' → K (.int .u64 (((hi * 18446744073709551616 + lo) % y:Nat):Int)) w'):callM Tryz.prog 183 #[.int .u64 (hi:Int),.int .u64 (lo:Int),.int .u64 (y:Int)] K w:=by
 apply sh_183_ok
 unfold sh_183
 have e1:(hi:Int).tmod (y:Int) = ((hi % y:Nat):Int):=by rw [Int.tmod_eq_emod_of_nonneg (by omega)]; rfl
 have e2:(hi % y * 18446744073709551616 + lo) % y = (hi * 18446744073709551616 + lo) % y:=by
  rw [Nat.add_mod,Nat.mul_mod,Nat.mod_mod,← Nat.mul_mod,← Nat.add_mod]
 have hlt:=Nat.mod_lt hi hy0
 rw [← e2] at k
 generalize hi % y = r at *
 repeat (any_goals ((with_reducible refine oM_gen fun Kv hK=>?_); simp [go_sem,e1]; refine And.intro (by omega) (hK _ _ ?_); clear hK Kv))
 refine div64_ok r lo y hlt hy hlo ?_
 intro q w1 hb
 repeat (any_goals ((with_reducible refine oM_gen fun Kv hK=>?_); simp [go_sem]; refine hK _ _ ?_; clear hK Kv))
 exact k _ hb
theorem product_ok (n a b:Int) (hn:okN n) (ha:0 ≤ a ∧ a < n) (hb:0 ≤ b ∧ b < n) (k:∀ w',Below w.heap.size w w' → K (.int .u64 (a * b % n)) w'):callM Tryz.prog 125 #[.int .i64 n,.int .u64 a,.int .u64 b] K w:=by
 apply sh_125_ok
 unfold sh_125
 obtain ⟨h1,h2⟩:=hn
 skip
 refine mul64_ok a b ⟨ha.1,by omega⟩ ⟨hb.1,by omega⟩ ?_
 obtain ⟨a,rfl⟩:=natN a ha.1
 obtain ⟨b,rfl⟩:=natN b hb.1
 obtain ⟨n,rfl⟩:=natN n (by omega)
 rw [mulU]
 have hab:a * b < 18446744073709551616 * 18446744073709551616:=Nat.mul_lt_mul'' (by omega) (by omega)
 have e1:((a * b:Nat):Int) / 18446744073709551616 = ((a * b / 18446744073709551616:Nat):Int):=by omega
 have e2:((a * b:Nat):Int) % 18446744073709551616 = ((a * b % 18446744073709551616:Nat):Int):=by omega
 have e3:((a * b % n:Nat):Int) = (a:Int) * (b:Int) % (n:Int):=by rw [Int.natCast_emod,Int.natCast_mul]
 rw [e1,e2]
 have h5:a * b / 18446744073709551616 * 18446744073709551616 + a * b % 18446744073709551616 = a * b:=Nat.div_add_mod' _ _
 have h3:a * b / 18446744073709551616 < 18446744073709551616:=by omega
 have h4:a * b % 18446744073709551616 < 18446744073709551616:=by omega
 rw [← e3,← h5] at k
 generalize a * b / 18446744073709551616 = hi at *
 generalize a * b % 18446744073709551616 = lo at *
 repeat (any_goals ((with_reducible refine oM_gen fun Kv hK=>?_); simp [go_sem]; (try simp (disch:=omega) only [wrapI64,wrapU8,wrapU32,wrapU64]); refine hK _ _ ?_; clear hK Kv))
 exact rem64_ok hi lo n h3 (by omega) (by omega) h4 k
end
end Go.Proofs
namespace Go.Proofs
open Go Go.Sh Go.RowKit FdSpec
section
variable {K:Value → World → Prop} {w:World}
def PwJ (n R:Int) (w:World) (l:List Value) (w':World):Prop:=Below w.heap.size w w' ∧ ∃ (out a:Int) (b:Nat),l = [.int .u64 out,.int .u64 a,.int .u64 (b:Int)] ∧ (0 ≤ out ∧ out < n) ∧ (0 ≤ a ∧ a < n) ∧ b < 18446744073709551616 ∧ out * a ^ b % n = R
def PwM (n R a:Int) (b:Nat) (w:World) (l:List Value) (w':World):Prop:=Below w.heap.size w w' ∧ ∃ out:Int,l = [.int .u64 out] ∧ (0 ≤ out ∧ out < n) ∧ out * (a * a % n) ^ (b / 2) % n = R
def pwMu (l:List Value) (_:World):Nat:=match l with | [_,_,.int _ b]=>b.toNat | _=>0
theorem pwMu_eq (x y:Value) (k:IntKind) (b:Int) (w:World):pwMu [x,y,.int k b] w = b.toNat:=rfl
theorem power_ok (n a:Int) (b:Nat) (hn:okN n) (ha:0 ≤ a ∧ a < n) (hb:b < 18446744073709551616) (k:∀ w',Below w.heap.size w w' → K (.int .u64 (pw n a b)) w'):callM Tryz.prog 129 #[.int .i64 n,.int .u64 a,.int .u64 (b:Int)] K w:=by
 apply sh_129_ok
 unfold sh_129
 have hn':=hn
 obtain ⟨h1,h2⟩:=hn
 have e1:(1:Int).tmod n = 1 % n:=Int.tmod_eq_emod_of_nonneg (by omega)
 have e2:=Int.emod_nonneg 1 (b:=n) (by omega)
 have e3:=Int.emod_lt_of_pos 1 (b:=n) (by omega)
 have e4:1 % n * a ^ b % n = pw n a b:=by
  rw [Int.mul_emod,Int.emod_emod_of_dvd _ (Int.dvd_refl n),← Int.mul_emod,Int.one_mul]; rfl
 generalize 1 % n = o at *
 repeat (any_goals ((with_reducible refine oM_gen fun Kv hK=>?_); simp [go_sem,e1]; (try simp (disch:=omega) only [wrapI64,wrapU8,wrapU32,wrapU64]); (first|refine hK _ _ ?_|refine And.intro (by omega) (hK _ _ ?_)); clear hK Kv))
 refine ⟨PwJ n (pw n a b) w,pwMu,⟨Below.refl _ _,o,a,b,rfl,⟨e2,e3⟩,ha,hb,e4⟩,?_⟩
 generalize hR:pw n a b = R at *
 clear e1 e2 e3 e4 o hb ha
 rintro _ _ w1 ⟨hb1,out,x,c,rfl,ho,hx,hc,hinv⟩
 have hz:=hb1.size
 by_cases h0:c = 0
 ·subst h0
  rw [Int.pow_zero,Int.mul_one,Int.emod_eq_of_lt ho.1 ho.2] at hinv
  repeat (any_goals (first
  | (with_reducible refine yM ?_)
  | ((with_reducible refine oM_gen fun Kv hK=>?_); simp [go_sem]; refine hK _ _ ?_; clear hK Kv)))
  rw [hinv]
  exact k _ hb1
 ·have hm:bits .and .u64 (c:Int) 1 = ((c % 2:Nat):Int):=by
   rw [mask64 1 c 1 (by omega) (by decide) (by omega)]; omega
  have hsh:(c:Int) / 2 = ((c / 2:Nat):Int):=by omega
  have h1:=pw_even n x out c
  have h3:=pw_odd n x out c
  obtain ⟨m,hm2⟩:∃ m,m = c % 2:=⟨_,rfl⟩
  rw [← hm2] at hm h1 h3
  obtain ⟨d,hd⟩:∃ d,d = c / 2:=⟨_,rfl⟩
  rw [← hd] at hsh h1 h3
  repeat (any_goals (first
  | (with_reducible refine yN ?_)
  | ((with_reducible refine oM_gen fun Kv hK=>?_); simp [go_sem]; refine hK _ _ ?_; clear hK Kv)))
  refine ⟨PwM n R x c w,?_,?_⟩
  ·repeat (any_goals (first
   | (with_reducible ((refine idCond ?_); refine yP (fun hg=>?_) fun hg=>?_))
   | ((with_reducible refine oM_gen fun Kv hK=>?_); simp [go_sem,hm]; refine hK _ _ ?_; clear hK Kv)))
   ·refine product_ok n out x hn' ho hx ?_
    intro w2 hb2
    skip
    refine ⟨hb1.trans (hb2.mono hz),_,rfl,⟨Int.emod_nonneg _ (by omega),Int.emod_lt_of_pos _ (by omega)⟩,?_⟩
    rw [← hd,h3 (by omega)]; exact hinv
   ·refine ⟨hb1,_,rfl,ho,?_⟩
    rw [← hd,h1 (by omega)]; exact hinv
  ·rintro _ _ w2 ⟨hb2,out',rfl,ho',hi'⟩
   have hz2:=hb2.size
   refine product_ok n x x hn' hx hx ?_
   intro w3 hb3
   repeat (any_goals ((with_reducible refine oM_gen fun Kv hK=>?_); simp [go_sem,hsh]; refine hK _ _ ?_; clear hK Kv))
   refine ⟨⟨hb2.trans (hb3.mono hz2),_,_,_,rfl,ho',⟨Int.emod_nonneg _ (by omega),Int.emod_lt_of_pos _ (by omega)⟩,by omega,by rw [hd]; exact hi'⟩,?_⟩
   simp only [pwMu_eq]
   omega
theorem Add_ok (n a b:Int) (h:K (.int .i64 (addM n a b)) w):callM Tryz.prog 42 #[.int .i64 n,.int .i64 a,.int .i64 b] K w:=by
 apply sh_42_ok
 unfold sh_42
 refine valid_ok n ?_
 by_cases hn:okN n
 ·have hn':=hn
  obtain ⟨h1,h2⟩:=hn'
  have ha:=Int.emod_nonneg a (b:=n) (by omega)
  have ha2:=Int.emod_lt_of_pos a (b:=n) (by omega)
  have hb:=Int.emod_nonneg b (b:=n) (by omega)
  have hb2:=Int.emod_lt_of_pos b (b:=n) (by omega)
  have e:=addM_eq n a b hn
  have e2:=addM_range n a b hn
  have e1:(a % n + b % n).tmod n = (a % n + b % n) % n:=Int.tmod_eq_emod_of_nonneg (by omega)
  rw [e] at e1
  repeat (any_goals (first
  | (with_reducible refine yM ?_)
  | ((with_reducible refine oM_gen fun Kv hK=>?_); simp [go_sem,hn]; refine hK _ _ ?_; clear hK Kv)))
  refine residue_ok n a hn ?_
  refine residue_ok n b hn ?_
  generalize a % n = x at *
  generalize b % n = y at *
  generalize addM n a b = z at *
  repeat (any_goals ((with_reducible refine oM_gen fun Kv hK=>?_); simp [go_sem,e1]; (try simp (disch:=omega) only [wrapI64,wrapU8,wrapU32,wrapU64]); (first|refine hK _ _ ?_|refine And.intro (by omega) (hK _ _ ?_)); clear hK Kv))
  exact h
 ·rw [addM,if_neg hn] at h
  repeat (any_goals (first
  | (with_reducible refine yL ?_)
  | ((with_reducible refine oM_gen fun Kv hK=>?_); simp [go_sem,hn]; refine hK _ _ ?_; clear hK Kv)))
  exact h
theorem Sub_ok (n a b:Int) (h:K (.int .i64 (subM n a b)) w):callM Tryz.prog 48 #[.int .i64 n,.int .i64 a,.int .i64 b] K w:=by
 apply sh_48_ok
 unfold sh_48
 refine valid_ok n ?_
 by_cases hn:okN n
 ·have hn':=hn
  obtain ⟨h1,h2⟩:=hn'
  have ha:=Int.emod_nonneg a (b:=n) (by omega)
  have ha2:=Int.emod_lt_of_pos a (b:=n) (by omega)
  have hb:=Int.emod_nonneg b (b:=n) (by omega)
  have hb2:=Int.emod_lt_of_pos b (b:=n) (by omega)
  have e:=subM_eq n a b hn
  have e2:=subM_range n a b hn
  have e1:(a % n + n - b % n).tmod n = (a % n + n - b % n) % n:=Int.tmod_eq_emod_of_nonneg (by omega)
  rw [e] at e1
  repeat (any_goals (first
  | (with_reducible refine yM ?_)
  | ((with_reducible refine oM_gen fun Kv hK=>?_); simp [go_sem,hn]; refine hK _ _ ?_; clear hK Kv)))
  refine residue_ok n a hn ?_
  repeat (any_goals ((with_reducible refine oM_gen fun Kv hK=>?_); simp [go_sem]; (try simp (disch:=omega) only [wrapI64,wrapU8,wrapU32,wrapU64]); refine hK _ _ ?_; clear hK Kv))
  refine residue_ok n b hn ?_
  generalize a % n = x at *
  generalize b % n = y at *
  generalize subM n a b = z at *
  repeat (any_goals ((with_reducible refine oM_gen fun Kv hK=>?_); simp [go_sem,e1]; (try simp (disch:=omega) only [wrapI64,wrapU8,wrapU32,wrapU64]); (first|refine hK _ _ ?_|refine And.intro (by omega) (hK _ _ ?_)); clear hK Kv))
  exact h
 ·rw [subM,if_neg hn] at h
  repeat (any_goals (first
  | (with_reducible refine yL ?_)
  | ((with_reducible refine oM_gen fun Kv hK=>?_); simp [go_sem,hn]; refine hK _ _ ?_; clear hK Kv)))
  exact h
theorem Mul_ok (n a b:Int) (k:∀ w',Below w.heap.size w w' → K (.int .i64 (mulM n a b)) w'):callM Tryz.prog 43 #[.int .i64 n,.int .i64 a,.int .i64 b] K w:=by
 apply sh_43_ok
 unfold sh_43
 refine valid_ok n ?_
 by_cases hn:okN n
 ·have hn':=hn
  obtain ⟨h1,h2⟩:=hn'
  have ha:=Int.emod_nonneg a (b:=n) (by omega)
  have ha2:=Int.emod_lt_of_pos a (b:=n) (by omega)
  have hb:=Int.emod_nonneg b (b:=n) (by omega)
  have hb2:=Int.emod_lt_of_pos b (b:=n) (by omega)
  have e:=mulM_eq n a b hn
  have e2:=mulM_range n a b hn
  repeat (any_goals (first
  | (with_reducible refine yM ?_)
  | ((with_reducible refine oM_gen fun Kv hK=>?_); simp [go_sem,hn]; refine hK _ _ ?_; clear hK Kv)))
  refine residue_ok n a hn ?_
  refine residue_ok n b hn ?_
  refine product_ok n _ _ hn ⟨ha,ha2⟩ ⟨hb,hb2⟩ ?_
  intro w1 hb1
  rw [e]
  have k:=k w1 hb1
  generalize mulM n a b = z at *
  repeat (any_goals ((with_reducible refine oM_gen fun Kv hK=>?_); simp [go_sem]; (try simp (disch:=omega) only [wrapI64,wrapU8,wrapU32,wrapU64]); refine hK _ _ ?_; clear hK Kv))
  exact k
 ·rw [mulM,if_neg hn] at k
  repeat (any_goals (first
  | (with_reducible refine yL ?_)
  | ((with_reducible refine oM_gen fun Kv hK=>?_); simp [go_sem,hn]; refine hK _ _ ?_; clear hK Kv)))
  exact k _ (Below.refl _ _)
end
end Go.Proofs
