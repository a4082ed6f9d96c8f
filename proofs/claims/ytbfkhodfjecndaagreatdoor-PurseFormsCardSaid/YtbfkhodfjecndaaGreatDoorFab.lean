/- Parts of the proof of the seat's statements (HFd, HTk, HPu, FdSpec, FdPow, FdDiv, FdA, FdB, FdC, FdE, FdF, FdG, FdH, FdI, FdJ, FdK, FdL, TkSpec, TkA, TkB, TkC, ShelfI, TkD, TkE, TkF, TkG, TkH, TkI, TkM, HTd, TkN, ShApp, ShGr, ShGr3, HTc, ShelfT4, CodeSpec, TcB, TcE, TcR, TcR2): lemmas about the given translation and plain laws. No condition of their own. -/
import Derived.Test.YtbfkhodfjecndaaGreatDoorFaa
import Derived.Test.YtbfkhodfjecndaaGreatDoorProg
import Derived.Lib.Mul64
import Derived.Lib.TrailingZeros
import Derived.Shelf.Spec.SlicesInsertGrow
import Derived.Deep.Upon
import Derived.Shelf.Strings.Builder1
import Derived.Shelf.Small.Bits
import Derived.Shelf.Small.Strs
import Derived.Shelf.Small.Wraps
import Derived.Shelf.Strings.BuilderF
import Derived.Shelf.Strings.BuilderK
import Derived.Shelf.Strconv.Atoi
import Derived.Shelf.Strconv.Itoa0
import Derived.Shelf.Strconv.Itoa1
import Derived.Shelf.LaysM
import Derived.Shelf.Strconv.Itoa2
import Derived.Shelf.Strconv.Itoa3
import Derived.Shelf.Strconv.AtoiErrFast
import Derived.Shelf.Strconv.ParseIntEmpty
import Derived.Shelf.Strconv.AtoiFail
import Derived.Shelf.Strconv.Clone
import Derived.Shelf.Strconv.SyntaxError
import Derived.Shelf.LaysC
import Derived.Shelf.Strconv.ToError
import Derived.Shelf.Strconv.AtoiErr
import Derived.Shelf.Strconv.ErrVar
import Derived.Shelf.Strconv.Lower
import Derived.Shelf.Strconv.ParseUint10
import Derived.Shelf.Strconv.ParseUint10Empty
import Derived.Shelf.Strconv.ParseUint10Any
import Derived.Shelf.Strconv.ParseInt10
import Derived.Shelf.Strconv.AtoiLong
import Derived.Shelf.Strconv.AtoiInnerAll
import Derived.Shelf.Strconv.RangeError
import Derived.Shelf.Strconv.ToErrorRange
import Derived.Shelf.Strconv.AtoiAll
import Derived.Shelf.Strconv.ErrVarAll
import Derived.Shelf.Strings.Search1
import Derived.Shelf.Strings.Prefix
import Derived.Shelf.Bits.Mul64
import Derived.Shelf.Slices.Reverse
import Derived.Shelf.Slices.SearchI
import Derived.Shelf.Slices.Cells
import Derived.Test.YtbfkhodfjecndaaGreatDoorRows
import Derived.Lib.ItoaNum
import Derived.Lib.AtoiAllCases
import Derived.Lib.Builder
import Derived.Lib.AppendStr
import Derived.Lib.AppendIntMem
set_option linter.all false
set_option maxRecDepth 100000
namespace Go.Proofs
open Go.Sh Tryz
variable {a0 a1 a2:Value} {K:VK} {w:World}
def f3b (a0:Value) (K:VK) (w:World):Prop:=
 kB .geq 3 4 a0 (.int .i64 1) (fun v4 w=>
 gT v4 (a0f a0) (fun v6 w=>
 gT v4 (kB .lss 3 4 v6 (.int .i64 2305843009213693952)) (fun v7=>
 kP v4 v7 (.bool false) fun v8=>
 K v8) w) w) w
theorem d4y (h:f3b a0 K w):a0a prog 148 #[a0] K w:=
 cZ (fun _=>0) func148 h
def f3c (a0 a1:Value) (K:VK) (w:World):Prop:=
 kB .rem 3 3 a1 a0 (fun v8=>
 kB .lss 3 4 v8 (.int .i64 0) fun v10=>
 kO v10 (kB .add 3 3 v8 a0 fun v13=>
 oM prog (.convert 3 197 (.tmp 0)) 197 [v13] fun v14=>
 K v14)
 (oM prog (.convert 3 197 (.tmp 0)) 197 [v8] fun v16=>
 K v16)) w
theorem d4z (h:f3c a0 a1 K w):a0a prog 151 #[a0,a1] K w:=
 cZ (fun _=>0) func151 h
def f3d (a0 a1:Value) (K:VK) (w:World):Prop:=
 kB .and 197 197 a0 (.int .u64 4294967295) (fun v15=>
 oM prog (.binOp .shr 197 (.tmp 0) (.tmp 1) 222) 197 [a0,(.int .u64 32)] fun v17=>
 kB .and 197 197 a1 (.int .u64 4294967295) fun v19=>
 oM prog (.binOp .shr 197 (.tmp 0) (.tmp 1) 222) 197 [a1,(.int .u64 32)] fun v21=>
 kB .mul 197 197 v15 v19 fun v24=>
 kB .mul 197 197 v17 v19 fun v27=>
 oM prog (.binOp .shr 197 (.tmp 0) (.tmp 1) 222) 197 [v24,(.int .u64 32)] fun v29=>
 kB .add 197 197 v27 v29 fun v30=>
 kB .and 197 197 v30 (.int .u64 4294967295) fun v32=>
 oM prog (.binOp .shr 197 (.tmp 0) (.tmp 1) 222) 197 [v30,(.int .u64 32)] fun v34=>
 kB .mul 197 197 v15 v21 fun v38=>
 kB .add 197 197 v32 v38 fun v39=>
 kB .mul 197 197 v17 v21 fun v42=>
 kB .add 197 197 v42 v34 fun v44=>
 oM prog (.binOp .shr 197 (.tmp 0) (.tmp 1) 222) 197 [v39,(.int .u64 32)] fun v46=>
 kB .add 197 197 v44 v46 fun v47=>
 kB .mul 197 197 a0 a1 fun v50=>
 K (.tuple #[v47,v50])) w
theorem d5a (h:f3d a0 a1 K w):a0a prog 257 #[a0,a1] K w:=
 cZ (fun _=>0) func257 h
def f3e (a0:Value) (K:VK) (w:World):Prop:=
 a5u (fun M_1=>(kB .geq 197 4 a0 (.int .u64 4294967296) (fun v4=>
 kO v4 (oM prog (.binOp .shr 197 (.tmp 0) (.tmp 1) 222) 197 [a0,(.int .u64 32)] fun v6=>
 M_1 [v6,(.int .i64 32)])
 (M_1 [a0,(.int .i64 0)])) w))
 fun l_2 u_l_2 w=>(a5u (fun M_5=>(kB .geq 197 4 (l_2.getD 0 undef) (.int .u64 65536) (fun v8=>
 kO v8 (oM prog (.binOp .shr 197 (.tmp 0) (.tmp 1) 222) 197 [(l_2.getD 0 undef),(.int .u64 16)] fun v10=>
 kB .add 3 3 (l_2.getD 1 undef) (.int .i64 16) fun v12=>
 M_5 [v10,v12])
 (M_5 [(l_2.getD 0 undef),(l_2.getD 1 undef)])) w))
 fun l_6 u_l_6 w=>(a5u (fun M_10=>(kB .geq 197 4 (l_6.getD 0 undef) (.int .u64 256) (fun v14=>
 kO v14 (oM prog (.binOp .shr 197 (.tmp 0) (.tmp 1) 222) 197 [(l_6.getD 0 undef),(.int .u64 8)] fun v16=>
 kB .add 3 3 (l_6.getD 1 undef) (.int .i64 8) fun v18=>
 M_10 [v16,v18])
 (M_10 [(l_6.getD 0 undef),(l_6.getD 1 undef)])) w))
 fun l_11 u_l_11 w=>(oM prog (.convert 197 5 (.tmp 0)) 5 [(l_11.getD 0 undef)] (fun v21=>
 oM prog (.index 9 (.tmp 0) (.tmp 1)) 5 [(.string ⟨#[0,1,2,2,3,3,3,3,4,4,4,4,4,4,4,4,5,5,5,5,5,5,5,5,5,5,5,5,5,5,5,5,6,6,6,6,6,6,6,6,6,6,6,6,6,6,6,6,6,6,6,6,6,6,6,6,6,6,6,6,6,6,6,6,7,7,7,7,7,7,7,7,7,7,7,7,7,7,7,7,7,7,7,7,7,7,7,7,7,7,7,7,7,7,7,7,7,7,7,7,7,7,7,7,7,7,7,7,7,7,7,7,7,7,7,7,7,7,7,7,7,7,7,7,7,7,7,7,8,8,8,8,8,8,8,8,8,8,8,8,8,8,8,8,8,8,8,8,8,8,8,8,8,8,8,8,8,8,8,8,8,8,8,8,8,8,8,8,8,8,8,8,8,8,8,8,8,8,8,8,8,8,8,8,8,8,8,8,8,8,8,8,8,8,8,8,8,8,8,8,8,8,8,8,8,8,8,8,8,8,8,8,8,8,8,8,8,8,8,8,8,8,8,8,8,8,8,8,8,8,8,8,8,8,8,8,8,8,8,8,8,8,8,8,8,8,8,8,8,8,8,8,8,8,8,8]⟩),v21] fun v22=>
 oM prog (.convert 5 3 (.tmp 0)) 3 [v22] fun v23=>
 kB .add 3 3 (l_11.getD 1 undef) v23 fun v24=>
 K v24) w)))
theorem d5b (h:f3e a0 K w):a0a prog 243 #[a0] K w:=
 cZ (fun _=>0) func243 h
def f3f (a0:Value) (K:VK) (w:World):Prop:=
 a0a prog 243 #[a0] (fun v4=>
 kB .sub 3 3 (.int .i64 64) v4 fun v5=>
 K v5) w
theorem d5c (h:f3f a0 K w):a0a prog 309 #[a0] K w:=
 cZ (fun _=>0) func309 h
def f3g (a0 a1 a2:Value) (K:VK) (w:World):Prop:=
 a5u (fun M_1=>(oM prog (.binOp .eql 197 (.tmp 0) (.const (.int .u64 0)) 197) 4 [a2] (fun v20=>
 kO v20 (kL 247 (.pointer (some ⟨5,0,none⟩)) fun v21=>
 oM prog (.panic (.tmp 0)) 0 [v21] fun _=>
 M_1 [])
 (M_1 [])) w))
 fun l_2 u_l_2 w=>(a5u (fun M_5=>(kB .leq 197 4 a2 a0 (fun v24=>
 kO v24 (kL 247 (.pointer (some ⟨6,0,none⟩)) fun v25=>
 oM prog (.panic (.tmp 0)) 0 [v25] fun _=>
 M_5 [])
 (M_5 [])) w))
 fun l_6 u_l_6 w=>(oM prog (.binOp .eql 197 (.tmp 0) (.const (.int .u64 0)) 197) 4 [a0] (fun v27 w=>
 a2c v27
 (b4r w fun C_10=>(oQ prog (.binOp .quo 197 (.tmp 0) (.tmp 1) 197) 197 [a1,a2] C_10 fun v30=>
 oQ prog (.binOp .rem 197 (.tmp 0) (.tmp 1) 197) 197 [a1,a2] C_10 fun v33=>
 ∀ w,C_10 w → (K (.tuple #[v30,v33]) w)))
 (a0a prog 309 #[a2] (fun v35=>
 oM prog (.convert 3 222 (.tmp 0)) 222 [v35] fun v36=>
 oM prog (.binOp .shl 197 (.tmp 0) (.tmp 1) 222) 197 [a2,v36] fun v39=>
 oM prog (.binOp .shr 197 (.tmp 0) (.tmp 1) 222) 197 [v39,(.int .u64 32)] fun v41=>
 kB .and 197 197 v39 (.int .u64 4294967295) fun v43=>
 oM prog (.binOp .shl 197 (.tmp 0) (.tmp 1) 222) 197 [a0,v36] fun v46=>
 kB .sub 222 222 (.int .u64 64) v36 fun v49=>
 oM prog (.binOp .shr 197 (.tmp 0) (.tmp 1) 222) 197 [a1,v49] fun v50=>
 kB .or 197 197 v46 v50 fun v51=>
 oM prog (.binOp .shl 197 (.tmp 0) (.tmp 1) 222) 197 [a1,v36] fun v54=>
 oM prog (.binOp .shr 197 (.tmp 0) (.tmp 1) 222) 197 [v54,(.int .u64 32)] fun v56=>
 kB .and 197 197 v54 (.int .u64 4294967295) fun v58=>
 kB .quo 197 197 v51 v41 fun v61=>
 kB .mul 197 197 v61 v41 fun v65=>
 kB .sub 197 197 v51 v65 fun v66 w=>
 a5u (fun M_28=>(kQ [v61,v66] (fun J_30 m_31 l_32 u_l_32 w0_l_32=>(fun w=>(
 kB .geq 197 4 (l_32.getD 0 undef) (.int .u64 4294967296) (fun v68 w=>
 gF v68 (a0f (l_32.getD 0 undef)) (fun v70 w=>
 gF v68 (a0f v43) (fun v71 w=>
 gF v68 (kB .mul 197 197 v70 v71) (fun v72 w=>
 gF v68 (a0f (l_32.getD 1 undef)) (fun v73 w=>
 gF v68 (kB .mul 197 197 (.int .u64 4294967296) v73) (fun v74 w=>
 gF v68 (a0f v56) (fun v75 w=>
 gF v68 (kB .add 197 197 v74 v75) (fun v76 w=>
 gF v68 (kB .gtr 197 4 v72 v76) (fun v77=>
 kP v68 (.bool true) v77 fun v78=>
 kO v78 (kB .sub 197 197 (l_32.getD 0 undef) (.int .u64 1) fun v80=>
 kB .add 197 197 (l_32.getD 1 undef) v41 fun v83=>
 kB .geq 197 4 v83 (.int .u64 4294967296) fun v85=>
 kO v85 (M_28 [v80,v83])
 (kJ J_30 m_31 l_32 w0_l_32 [v80,v83]))
 (M_28 [(l_32.getD 0 undef),(l_32.getD 1 undef)])) w) w) w) w) w) w) w) w) w)) w0_l_32) w))
 fun l_29 u_l_29 w=>(kB .mul 197 197 v51 (.int .u64 4294967296) (fun v87=>
 kB .add 197 197 v87 v56 fun v89=>
 kB .mul 197 197 (l_29.getD 0 undef) v39 fun v92=>
 kB .sub 197 197 v89 v92 fun v93=>
 kB .quo 197 197 v93 v41 fun v96=>
 kB .mul 197 197 v96 v41 fun v100=>
 kB .sub 197 197 v93 v100 fun v101 w=>
 a5u (fun M_53=>(kQ [v96,v101] (fun J_55 m_56 l_57 u_l_57 w0_l_57=>(fun w=>(
 kB .geq 197 4 (l_57.getD 0 undef) (.int .u64 4294967296) (fun v103 w=>
 gF v103 (a0f (l_57.getD 0 undef)) (fun v105 w=>
 gF v103 (a0f v43) (fun v106 w=>
 gF v103 (kB .mul 197 197 v105 v106) (fun v107 w=>
 gF v103 (a0f (l_57.getD 1 undef)) (fun v108 w=>
 gF v103 (kB .mul 197 197 (.int .u64 4294967296) v108) (fun v109 w=>
 gF v103 (a0f v58) (fun v110 w=>
 gF v103 (kB .add 197 197 v109 v110) (fun v111 w=>
 gF v103 (kB .gtr 197 4 v107 v111) (fun v112=>
 kP v103 (.bool true) v112 fun v113=>
 kO v113 (kB .sub 197 197 (l_57.getD 0 undef) (.int .u64 1) fun v115=>
 kB .add 197 197 (l_57.getD 1 undef) v41 fun v118=>
 kB .geq 197 4 v118 (.int .u64 4294967296) fun v120=>
 kO v120 (M_53 [v115,v118])
 (kJ J_55 m_56 l_57 w0_l_57 [v115,v118]))
 (M_53 [(l_57.getD 0 undef),(l_57.getD 1 undef)])) w) w) w) w) w) w) w) w) w)) w0_l_57) w))
 fun l_54 u_l_54 w=>(kB .mul 197 197 (l_29.getD 0 undef) (.int .u64 4294967296) (fun v122=>
 kB .add 197 197 v122 (l_54.getD 0 undef) fun v124=>
 kB .mul 197 197 v93 (.int .u64 4294967296) fun v126=>
 kB .add 197 197 v126 v58 fun v128=>
 kB .mul 197 197 (l_54.getD 0 undef) v39 fun v131=>
 kB .sub 197 197 v128 v131 fun v132=>
 oM prog (.binOp .shr 197 (.tmp 0) (.tmp 1) 222) 197 [v132,v36] fun v134=>
 K (.tuple #[v124,v134])) w)) w)) w)) w))
theorem d5d (h:f3g a0 a1 a2 K w):a0a prog 294 #[a0,a1,a2] K w:=
 cZ (fun _=>0) func294 h
def f3h (a0 a1 a2:Value) (K:VK) (w:World):Prop:=
 kB .rem 197 197 a0 a2 (fun v12=>
 a0a prog 294 #[v12,a1,a2] fun v15=>
 kE 0 197 v15 fun v16=>
 kE 1 197 v15 fun v17=>
 K v17) w
theorem d5e (h:f3h a0 a1 a2 K w):a0a prog 258 #[a0,a1,a2] K w:=
 cZ (fun _=>0) func258 h
def f3i (a0 a1 a2:Value) (K:VK) (w:World):Prop:=
 a0a prog 257 #[a1,a2] (fun v12=>
 kE 0 197 v12 fun v13=>
 kE 1 197 v12 fun v14=>
 oM prog (.convert 3 197 (.tmp 0)) 197 [a0] fun v18=>
 a0a prog 258 #[v13,v14,v18] fun v19=>
 K v19) w
theorem d5f (h:f3i a0 a1 a2 K w):a0a prog 207 #[a0,a1,a2] K w:=
 cZ (fun _=>0) func207 h
def f3j (a0 a1 a2:Value) (K:VK) (w:World):Prop:=
 oM prog (.convert 3 197 (.tmp 0)) 197 [a0] (fun v9=>
 kB .rem 197 197 (.int .u64 1) v9 fun v10=>
 kQ [v10,a1,a2] fun J_3 m_4 l_5 u_l_5 w0_l_5=>(fun w=>(
 kB .gtr 197 4 (l_5.getD 2 undef) (.int .u64 0) (fun v12 w=>
 a2c v12
 (a5u (fun M_7=>(kB .and 197 197 (l_5.getD 2 undef) (.int .u64 1) (fun v16=>
 oM prog (.binOp .eql 197 (.tmp 0) (.const (.int .u64 1)) 197) 4 [v16] fun v17=>
 kO v17 (a0a prog 207 #[a0,(l_5.getD 0 undef),(l_5.getD 1 undef)] fun v21=>
 M_7 [v21])
 (M_7 [(l_5.getD 0 undef)])) w))
 fun l_8 u_l_8 w=>(a0a prog 207 #[a0,(l_5.getD 1 undef),(l_5.getD 1 undef)] (fun v25=>
 oM prog (.binOp .shr 197 (.tmp 0) (.tmp 1) 222) 197 [(l_5.getD 2 undef),(.int .u64 1)] fun v14=>
 kJ J_3 m_4 l_5 w0_l_5 [(l_8.getD 0 undef),v25,v14]) w))
 (K (l_5.getD 0 undef) w)) w)) w0_l_5) w
theorem d5g (h:f3j a0 a1 a2 K w):a0a prog 150 #[a0,a1,a2] K w:=
 cZ (fun _=>0) func150 h
def f3k (a0 a1 a2:Value) (K:VK) (w:World):Prop:=
 a0a prog 148 #[a0] (fun v8=>
 kU v8 fun v9=>
 kO v9 (K (.int .i64 0))
 (a0a prog 151 #[a0,a1] fun v12=>
 a0a prog 151 #[a0,a2] fun v15=>
 kB .add 197 197 v12 v15 fun v16=>
 oM prog (.convert 3 197 (.tmp 0)) 197 [a0] fun v18=>
 kB .rem 197 197 v16 v18 fun v19=>
 oM prog (.convert 197 3 (.tmp 0)) 3 [v19] fun v20=>
 K v20)) w
theorem d5h (h:f3k a0 a1 a2 K w):a0a prog 281 #[a0,a1,a2] K w:=
 cZ (fun _=>0) func281 h
def f3l (a0 a1 a2:Value) (K:VK) (w:World):Prop:=
 a0a prog 148 #[a0] (fun v8=>
 kU v8 fun v9=>
 kO v9 (K (.int .i64 0))
 (a0a prog 151 #[a0,a1] fun v12=>
 oM prog (.convert 3 197 (.tmp 0)) 197 [a0] fun v14=>
 kB .add 197 197 v12 v14 fun v15=>
 a0a prog 151 #[a0,a2] fun v18=>
 kB .sub 197 197 v15 v18 fun v19=>
 oM prog (.convert 3 197 (.tmp 0)) 197 [a0] fun v21=>
 kB .rem 197 197 v19 v21 fun v22=>
 oM prog (.convert 197 3 (.tmp 0)) 3 [v22] fun v23=>
 K v23)) w
theorem d5i (h:f3l a0 a1 a2 K w):a0a prog 293 #[a0,a1,a2] K w:=
 cZ (fun _=>0) func293 h
def f3m (a0 a1 a2:Value) (K:VK) (w:World):Prop:=
 a0a prog 148 #[a0] (fun v8=>
 kU v8 fun v9=>
 kO v9 (K (.int .i64 0))
 (a0a prog 151 #[a0,a1] fun v13=>
 a0a prog 151 #[a0,a2] fun v16=>
 a0a prog 207 #[a0,v13,v16] fun v17=>
 oM prog (.convert 197 3 (.tmp 0)) 3 [v17] fun v18=>
 K v18)) w
theorem d5j (h:f3m a0 a1 a2 K w):a0a prog 149 #[a0,a1,a2] K w:=
 cZ (fun _=>0) func149 h
def f3n (a0 a1:Value) (K:VK) (w:World):Prop:=
 a0a prog 148 #[a0] (fun v12=>
 kU v12 fun v13=>
 kO v13 (K (.tuple #[(.int .i64 0),(.bool false)]))
 (a0a prog 151 #[a0,a1] fun v17=>
 oM prog (.convert 197 3 (.tmp 0)) 3 [v17] fun v18=>
 kQ [undef,a0,v18,(.int .i64 0),(.int .i64 1)] fun J_5 m_6 l_7 u_l_7 w0_l_7=>(fun w=>(
 kC .neq 3 0 4 (l_7.getD 2 undef) (fun v20=>
 kO v20 (kB .quo 3 3 (l_7.getD 1 undef) (l_7.getD 2 undef) fun v23=>
 kB .mul 3 3 v23 (l_7.getD 2 undef) fun v28=>
 kB .sub 3 3 (l_7.getD 1 undef) v28 fun v29=>
 a0a prog 149 #[a0,v23,(l_7.getD 4 undef)] fun v36=>
 a0a prog 293 #[a0,(l_7.getD 3 undef),v36] fun v37=>
 kJ J_5 m_6 l_7 w0_l_7 [v23,(l_7.getD 2 undef),v29,(l_7.getD 4 undef),v37])
 (kC .neq 3 1 4 (l_7.getD 1 undef) fun v39=>
 kO v39 (K (.tuple #[(.int .i64 0),(.bool false)]))
 (kB .rem 3 3 (l_7.getD 3 undef) a0 fun v42=>
 K (.tuple #[v42,(.bool true)])))) w)) w0_l_7)) w
theorem d5k (h:f3n a0 a1 K w):a0a prog 256 #[a0,a1] K w:=
 cZ (fun _=>0) func256 h
def f3o (a0 a1 a2:Value) (K:VK) (w:World):Prop:=
 a0a prog 148 #[a0] (fun v11=>
 kU v11 fun v12=>
 kO v12 (K (.int .i64 0))
 (kB .geq 3 4 a2 (.int .i64 0) fun v15=>
 kO v15 (a0a prog 151 #[a0,a1] fun v19=>
 oM prog (.convert 3 197 (.tmp 0)) 197 [a2] fun v21=>
 a0a prog 150 #[a0,v19,v21] fun v22=>
 oM prog (.convert 197 3 (.tmp 0)) 3 [v22] fun v23=>
 K v23)
 (a0a prog 256 #[a0,a1] fun v27=>
 kE 0 3 v27 fun v28=>
 kE 1 4 v27 fun v29=>
 kU v29 fun v31=>
 kO v31 (K (.int .i64 0))
 (oM prog (.convert 3 197 (.tmp 0)) 197 [v28] fun v34=>
 oM prog (.convert 3 197 (.tmp 0)) 197 [a2] fun v36=>
 oM prog (.unOp .neg 197 (.tmp 0)) 197 [v36] fun v37=>
 a0a prog 150 #[a0,v34,v37] fun v38=>
 oM prog (.convert 197 3 (.tmp 0)) 3 [v38] fun v39=>
 K v39)))) w
theorem d5l (h:f3o a0 a1 a2 K w):a0a prog 204 #[a0,a1,a2] K w:=
 cZ (fun _=>0) func204 h
def f3p (a0:Value) (K:VK) (w:World):Prop:=
 oM prog (.binOp .eql 197 (.tmp 0) (.const (.int .u64 0)) 197) 4 [a0] (fun v4=>
 kO v4 (K (.int .i64 64))
 (oM prog (.unOp .neg 197 (.tmp 0)) 197 [a0] fun v7=>
 kB .and 197 197 a0 v7 fun v8=>
 kB .mul 197 197 v8 (.int .u64 285870213051353865) fun v9=>
 oM prog (.binOp .shr 197 (.tmp 0) (.tmp 1) 222) 197 [v9,(.int .u64 58)] fun v10=>
 kI 332 (.pointer (some ⟨4,0,none⟩)) v10 fun v11=>
 kL 5 v11 fun v12=>
 oM prog (.convert 5 3 (.tmp 0)) 3 [v12] fun v13=>
 K v13)) w
theorem d5m (h:f3p a0 K w):a0a prog 292 #[a0] K w:=
 cZ (fun _=>0) func292 h
def f3q (a0 a1:Value) (K:VK) (w:World):Prop:=
 kB .sub 3 3 a0 (.int .i64 1) (fun v8=>
 oM prog (.convert 3 197 (.tmp 0)) 197 [v8] fun v9=>
 a0a prog 292 #[v9] fun v10=>
 kB .sub 3 3 a0 (.int .i64 1) fun v14=>
 oM prog (.convert 3 197 (.tmp 0)) 197 [v14] fun v15=>
 oM prog (.binOp .shr 197 (.tmp 0) (.tmp 1) 3) 197 [v15,v10] fun v17=>
 a0a prog 150 #[a0,a1,v17] fun v18=>
 oM prog (.binOp .eql 197 (.tmp 0) (.const (.int .u64 1)) 197) 4 [v18] fun v20=>
 kO v20 (K (.bool false))
 (kQ [(.bool false),v18,(.int .i64 0)] fun J_9 m_10 l_11 u_l_11 w0_l_11=>(fun w=>(
 kB .lss 3 4 (l_11.getD 2 undef) v10 (fun v23=>
 kO v23 (kB .sub 3 3 a0 (.int .i64 1) fun v26=>
 oM prog (.convert 3 197 (.tmp 0)) 197 [v26] fun v27=>
 kB .eql 197 4 (l_11.getD 1 undef) v27 fun v28=>
 kO v28 (K (.bool false))
 (a0a prog 207 #[a0,(l_11.getD 1 undef),(l_11.getD 1 undef)] fun v32=>
 kB .add 3 3 (l_11.getD 2 undef) (.int .i64 1) fun v33=>
 kJ J_9 m_10 l_11 w0_l_11 [(l_11.getD 0 undef),v32,v33]))
 (K (.bool true))) w)) w0_l_11)) w
theorem d5n (h:f3q a0 a1 K w):a0a prog 255 #[a0,a1] K w:=
 cZ (fun _=>0) func255 h
def f3r (a0:Value) (K:VK) (w:World):Prop:=
 kB .lss 3 4 a0 (.int .i64 2) (fun v9 w=>
 gF v9 (a0f a0) (fun v11 w=>
 gF v9 (kB .geq 3 4 v11 (.int .i64 2305843009213693952)) (fun v12=>
 kP v9 (.bool true) v12 fun v13=>
 kO v13 (K (.bool false))
 (oM prog (.build 284 #[(0,(.tmp 0)),(1,(.tmp 1)),(2,(.tmp 2)),(3,(.tmp 3)),(4,(.tmp 4)),(5,(.tmp 5)),(6,(.tmp 6)),(7,(.tmp 7)),(8,(.tmp 8)),(9,(.tmp 9)),(10,(.tmp 10)),(11,(.tmp 11))]) 284 [(.int .i64 2),(.int .i64 3),(.int .i64 5),(.int .i64 7),(.int .i64 11),(.int .i64 13),(.int .i64 17),(.int .i64 19),(.int .i64 23),(.int .i64 29),(.int .i64 31),(.int .i64 37)] fun v14=>
 kA 284 fun v3=>
 kS 284 v3 v14 fun _=>
 kL 284 v3 fun v15=>
 kQ [undef,(.bool false),(.int .i64 0)] fun J_8 m_9 l_10 u_l_10 w0_l_10=>(fun w=>(
 kB .lss 3 0 (l_10.getD 2 undef) (.int .i64 12) (fun v17=>
 kO v17 (oM prog (.index 284 (.tmp 0) (.tmp 1)) 3 [v15,(l_10.getD 2 undef)] fun v18=>
 kB .rem 3 3 a0 v18 fun v21=>
 kC .eql 3 0 4 v21 fun v22=>
 kO v22 (kB .eql 3 4 a0 v18 fun v25=>
 K v25)
 (kB .add 3 3 (l_10.getD 2 undef) (.int .i64 1) fun v26=>
 kJ J_8 m_9 l_10 w0_l_10 [v18,(l_10.getD 1 undef),v26]))
 (kL 284 v3 fun v27=>
 kQ [undef,(l_10.getD 1 undef),(.int .i64 0)] fun J_18 m_19 l_20 u_l_20 w0_l_20=>(fun w=>(
 kB .lss 3 0 (l_20.getD 2 undef) (.int .i64 12) (fun v29=>
 kO v29 (oM prog (.index 284 (.tmp 0) (.tmp 1)) 3 [v27,(l_20.getD 2 undef)] fun v30=>
 oM prog (.convert 3 197 (.tmp 0)) 197 [v30] fun v33=>
 a0a prog 255 #[a0,v33] fun v34=>
 kO v34 (K (.bool false))
 (kB .add 3 3 (l_20.getD 2 undef) (.int .i64 1) fun v35=>
 kJ J_18 m_19 l_20 w0_l_20 [v30,(l_20.getD 1 undef),v35]))
 (K (.bool true))) w)) w0_l_20)) w)) w0_l_10)) w) w) w
theorem d5o (h:f3r a0 K w):a0a prog 203 #[a0] K w:=
 cZ (fun _=>0) func203 h
def f3s (a0:Value) (K:VK) (w:World):Prop:=
 oM prog (.box 23 (.tmp 0)) 0 [a0] (fun v1=>
 kF 23 1 v1 fun v3=>
 kL 3 v3 fun v4=>
 kB .lss 3 4 v4 (.int .i64 5) fun v5 w=>
 gF v5 (kF 23 1 v1) (fun v7 w=>
 gF v5 (kL 3 v7) (fun v8 w=>
 gF v5 (kB .geq 3 4 v8 (.int .i64 1152921504606846976)) (fun v9=>
 kP v5 (.bool true) v9 fun v10 w=>
 gF v10 (kF 23 0 v1) (fun v12 w=>
 gF v10 (kL 3 v12) (fun v13 w=>
 gF v10 (kF 23 1 v1) (fun v14 w=>
 gF v10 (kL 3 v14) (fun v15 w=>
 gF v10 (kB .mul 3 3 (.int .i64 2) v15) (fun v16 w=>
 gF v10 (kB .add 3 3 v16 (.int .i64 1)) (fun v17 w=>
 gF v10 (kB .neq 3 4 v13 v17) (fun v18=>
 kP v10 (.bool true) v18 fun v19 w=>
 gF v19 (kF 23 2 v1) (fun v21 w=>
 gF v19 (kL 3 v21) (fun v22 w=>
 gF v19 (kB .lss 3 4 v22 (.int .i64 2)) (fun v23=>
 kP v19 (.bool true) v23 fun v24 w=>
 gF v24 (kF 23 2 v1) (fun v26 w=>
 gF v24 (kL 3 v26) (fun v27 w=>
 gF v24 (kF 23 0 v1) (fun v28 w=>
 gF v24 (kL 3 v28) (fun v29 w=>
 gF v24 (kB .geq 3 4 v27 v29) (fun v30=>
 kP v24 (.bool true) v30 fun v31=>
 kO v31 (K (.bool false))
 (kF 23 1 v1 fun v32=>
 kL 3 v32 fun v33=>
 a0a prog 203 #[v33] fun v34 w=>
 gT v34 (kF 23 0 v1) (fun v36 w=>
 gT v34 (kL 3 v36) (fun v37 w=>
 gT v34 (a0a prog 203 #[v37]) (fun v38=>
 kP v34 v38 (.bool false) fun v39 w=>
 gT v39 (kF 23 0 v1) (fun v41 w=>
 gT v39 (kL 3 v41) (fun v42 w=>
 gT v39 (kF 23 2 v1) (fun v43 w=>
 gT v39 (kL 3 v43) (fun v44 w=>
 gT v39 (kF 23 1 v1) (fun v45 w=>
 gT v39 (kL 3 v45) (fun v46 w=>
 gT v39 (a0a prog 204 #[v42,v44,v46]) (fun v47 w=>
 gT v39 (kC .eql 3 1 4 v47) (fun v48=>
 kP v39 v48 (.bool false) fun v49=>
 K v49) w) w) w) w) w) w) w) w) w) w) w)) w) w) w) w) w) w) w) w) w) w) w) w) w) w) w) w) w) w) w
theorem d5p (h:f3s a0 K w):a0a prog 141 #[a0] K w:=
 cZ (fun _=>0) func141 h
def f3t (a0 a1:Value) (K:VK) (w:World):Prop:=
 oM prog (.box 23 (.tmp 0)) 0 [a0] (fun v2=>
 kB .geq 3 4 a1 (.int .i64 1) fun v6 w=>
 gT v6 (a0f a1) (fun v8 w=>
 gT v6 (kF 23 0 v2) (fun v9 w=>
 gT v6 (kL 3 v9) (fun v10 w=>
 gT v6 (kB .lss 3 4 v8 v10) (fun v11=>
 kP v6 v11 (.bool false) fun v12 w=>
 gT v12 (kL 23 v2) (fun v14 w=>
 gT v12 (a0a prog 141 #[v14]) (fun v15=>
 kP v12 v15 (.bool false) fun v16 w=>
 gT v16 (kF 23 0 v2) (fun v18 w=>
 gT v16 (kL 3 v18) (fun v19 w=>
 gT v16 (a0f a1) (fun v20 w=>
 gT v16 (kF 23 1 v2) (fun v21 w=>
 gT v16 (kL 3 v21) (fun v22 w=>
 gT v16 (a0a prog 204 #[v19,v20,v22]) (fun v23 w=>
 gT v16 (kC .eql 3 1 4 v23) (fun v24=>
 kP v16 v24 (.bool false) fun v25=>
 K v25) w) w) w) w) w) w) w) w) w) w) w) w) w) w
theorem d5q (h:f3t a0 a1 K w):a0a prog 143 #[a0,a1] K w:=
 cZ (fun _=>0) func143 h
def g2m (a0 a1 a2:Value) (K:VK) (w:World):Prop:=
 oM prog (.box 23 (.tmp 0)) 0 [a0] (fun v3=>
 kF 23 0 v3 fun v7=>
 kL 3 v7 fun v8=>
 a0a prog 148 #[v8] fun v9=>
 kU v9 fun v10 w=>
 gF v10 (kF 23 1 v3) (fun v12 w=>
 gF v10 (kL 3 v12) (fun v13 w=>
 gF v10 (a0a prog 148 #[v13]) (fun v14 w=>
 gF v10 (kU v14) (fun v15=>
 kP v10 (.bool true) v15 fun v16 w=>
 a2c v16
 (K (.int .i64 0) w)
 (b4r w fun C_11=>(oQ prog (.fieldAddr 23 (.tmp 0) 0) 0 [v3] C_11 fun v17=>
 oQ prog (.load 3 (.tmp 0)) 3 [v17] C_11 fun v18=>
 oQ prog (.fieldAddr 23 (.tmp 0) 0) 0 [v3] C_11 fun v19=>
 oQ prog (.load 3 (.tmp 0)) 3 [v19] C_11 fun v20=>
 b8k prog 151 #[v20,a1] C_11 fun v22=>
 oQ prog (.fieldAddr 23 (.tmp 0) 1) 0 [v3] C_11 fun v23=>
 oQ prog (.load 3 (.tmp 0)) 3 [v23] C_11 fun v24=>
 b8k prog 151 #[v24,a2] C_11 fun v26=>
 b8k prog 150 #[v18,v22,v26] C_11 fun v27=>
 oQ prog (.convert 197 3 (.tmp 0)) 3 [v27] C_11 fun v28=>
 ∀ w,C_11 w → (K v28 w)))) w) w) w) w) w
theorem e6g (h:g2m a0 a1 a2 K w):a0a prog 73 #[a0,a1,a2] K w:=
 cZ (fun _=>0) func73 h
def g2n (a0 a1 a2:Value) (K:VK) (w:World):Prop:=
 oM prog (.box 23 (.tmp 0)) 0 [a0] (fun v3=>
 kF 23 0 v3 fun v11=>
 kL 3 v11 fun v12=>
 a0a prog 148 #[v12] fun v13=>
 kU v13 fun v14 w=>
 gF v14 (kF 23 1 v3) (fun v16 w=>
 gF v14 (kL 3 v16) (fun v17 w=>
 gF v14 (a0a prog 148 #[v17]) (fun v18 w=>
 gF v14 (kU v18) (fun v19=>
 kP v14 (.bool true) v19 fun v20 w=>
 gF v20 (a0f a1) (fun v22 w=>
 gF v20 (kN 24 v22) (fun v23 w=>
 gF v20 (a0f a2) (fun v24 w=>
 gF v20 (kN 24 v24) (fun v25 w=>
 gF v20 (kB .neq 3 4 v23 v25) (fun v26=>
 kP v20 (.bool true) v26 fun v27=>
 kO v27 (K (.tuple #[(.int .i64 0),(.bool false)]))
 (kF 23 0 v3 fun v28=>
 kL 3 v28 fun v29=>
 kB .rem 3 3 (.int .i64 1) v29 fun v30=>
 kN 24 a1 fun v32=>
 kQ [undef,undef,v30,(.int .i64 0)] fun J_21 m_22 l_23 u_l_23 w0_l_23=>(fun w=>(
 kB .lss 3 0 (l_23.getD 3 undef) v32 (fun v34=>
 kO v34 (kI 24 a1 (l_23.getD 3 undef) fun v36=>
 kL 3 v36 fun v37 w=>
 b4r w fun C_27=>(oQ prog (.fieldAddr 23 (.tmp 0) 0) 0 [v3] C_27 fun v38=>
 oQ prog (.load 3 (.tmp 0)) 3 [v38] C_27 fun v39=>
 oQ prog (.load 23 (.tmp 0)) 23 [v3] C_27 fun v41=>
 oQ prog (.indexAddr 24 (.tmp 0) (.tmp 1)) 0 [a2,(l_23.getD 3 undef)] C_27 fun v45=>
 oQ prog (.load 3 (.tmp 0)) 3 [v45] C_27 fun v46=>
 b8k prog 73 #[v41,v37,v46] C_27 fun v47=>
 b8k prog 149 #[v39,(l_23.getD 2 undef),v47] C_27 fun v48=>
 ∀ w,C_27 w → (kB .add 3 3 (l_23.getD 3 undef) (.int .i64 1) (fun v49=>
 kJ J_21 m_22 l_23 w0_l_23 [(l_23.getD 3 undef),v37,v48,v49]) w)))
 (K (.tuple #[(l_23.getD 2 undef),(.bool true)]))) w)) w0_l_23)) w) w) w) w) w) w) w) w) w) w
theorem e6h (h:g2n a0 a1 a2 K w):a0a prog 72 #[a0,a1,a2] K w:=
 cZ (fun _=>0) func72 h
variable {a0 a1 a2:Value} {K:VK} {w:World}
def f6w (a0 a1:Value) (K:VK) (w:World):Prop:=
 kC .neq 3 1 4 a0 (fun v5 w=>
 gT v5 (kF 26 0 a1) (fun v7 w=>
 gT v5 (kL 23 v7) (fun v8 w=>
 gT v5 (a0f a0) (fun v9 w=>
 gT v5 (a0a prog 143 #[v8,v9]) (fun v10=>
 kP v5 v10 (.bool false) fun v11=>
 K v11) w) w) w) w) w
theorem d8u (h:f6w a0 a1 K w):a0a prog 142 #[a0,a1] K w:=
 cZ (fun _=>0) func142 h
def g5d (a0:Value) (K:VK) (w:World):Prop:=
 oM prog (.box 26 (.tmp 0)) 0 [a0] (fun v1=>
 kF 26 0 v1 fun v6=>
 kL 23 v6 fun v7=>
 a0a prog 141 #[v7] fun v8=>
 kU v8 fun v9 w=>
 gF v9 (kF 26 1 v1) (fun v11 w=>
 gF v9 (kL 24 v11) (fun v12 w=>
 gF v9 (kN 24 v12) (fun v13 w=>
 gF v9 (kB .lss 3 4 v13 (.int .i64 2)) (fun v14=>
 kP v9 (.bool true) v14 fun v15 w=>
 gF v15 (kF 26 1 v1) (fun v17 w=>
 gF v15 (kL 24 v17) (fun v18 w=>
 gF v15 (kN 24 v18) (fun v19 w=>
 gF v15 (kB .gtr 3 4 v19 (.int .i64 7)) (fun v20=>
 kP v15 (.bool true) v20 fun v21=>
 kO v21 (K (.bool false))
 (oM prog (.makeFunc (Go.Fn.func 142) #[] #[(.tmp 0)]) 97 [v1] fun v22=>
 kF 26 1 v1 fun v23=>
 kL 24 v23 fun v24=>
 kN 24 v24 fun v25=>
 kQ [undef,(.bool false),(.int .i64 0)] fun J_20 m_21 l_22 u_l_22 w0_l_22=>(fun w=>(
 kB .lss 3 0 (l_22.getD 2 undef) v25 (fun v27=>
 kO v27 (kI 24 v24 (l_22.getD 2 undef) fun v28=>
 kL 3 v28 fun v29=>
 oM prog (.call (Go.Call.mk (.value (.tmp 0)) #[(.tmp 1)] #[3])) 4 [v22,v29] fun v32=>
 kU v32 fun v33=>
 kO v33 (K (.bool false))
 (kB .add 3 3 (l_22.getD 2 undef) (.int .i64 1) fun v34=>
 kJ J_20 m_21 l_22 w0_l_22 [v29,(l_22.getD 1 undef),v34]))
 (kF 26 2 v1 fun v36=>
 kL 3 v36 fun v37=>
 oM prog (.call (Go.Call.mk (.value (.tmp 0)) #[(.tmp 1)] #[3])) 4 [v22,v37] fun v38=>
 K v38)) w)) w0_l_22)) w) w) w) w) w) w) w) w) w
theorem e8x (h:g5d a0 K w):a0a prog 69 #[a0] K w:=
 cZ (fun _=>0) func69 h
def f6x (a0 a1:Value) (K:VK) (w:World):Prop:=
 kN 24 a0 (fun v7=>
 kQ [undef,(.int .i64 0),(.int .i64 0)] fun J_2 m_3 l_4 u_l_4 w0_l_4=>(fun w=>(
 kB .lss 3 0 (l_4.getD 2 undef) v7 (fun v9=>
 kO v9 (kI 24 a0 (l_4.getD 2 undef) fun v14=>
 kL 3 v14 fun v15=>
 oM prog (.call (Go.Call.mk (.value (.tmp 0)) #[(.tmp 1)] #[3])) 4 [a1,v15] fun v16=>
 kO v16 (K (l_4.getD 2 undef))
 (kB .add 3 3 (l_4.getD 2 undef) (.int .i64 1) fun v18=>
 kJ J_2 m_3 l_4 w0_l_4 [(l_4.getD 2 undef),(l_4.getD 1 undef),v18]))
 (K (.int .i64 (-1)))) w)) w0_l_4) w
theorem d8v (h:f6x a0 a1 K w):a0a prog 206 #[a0,a1] K w:=
 cZ (fun _=>0) func206 h
def f6y (a0 a1:Value) (K:VK) (w:World):Prop:=
 a0a prog 206 #[a0,a1] (fun v7=>
 kB .geq 3 4 v7 (.int .i64 0) fun v8=>
 K v8) w
theorem d8w (h:f6y a0 a1 K w):a0a prog 146 #[a0,a1] K w:=
 cZ (fun _=>0) func146 h
def f6z (a0 a1 a2:Value) (K:VK) (w:World):Prop:=
 kL 3 a1 (fun v6=>
 kB .lss 3 4 a0 v6 fun v7 w=>
 gF v7 (a0f a0) (fun v9 w=>
 gF v7 (kF 201 0 a2) (fun v10 w=>
 gF v7 (kF 26 0 v10) (fun v11 w=>
 gF v7 (kF 23 1 v11) (fun v12 w=>
 gF v7 (kL 3 v12) (fun v13 w=>
 gF v7 (kB .geq 3 4 v9 v13) (fun v14=>
 kP v7 (.bool true) v14 fun v15=>
 K v15) w) w) w) w) w) w) w
theorem d8x (h:f6z a0 a1 a2 K w):a0a prog 259 #[a0,a1,a2] K w:=
 cZ (fun _=>2) func259 h
def f7a (a0 a1 a2:Value) (K:VK) (w:World):Prop:=
 oM prog (.box 201 (.tmp 0)) 0 [a0] (fun v3=>
 oM prog (.box 3 (.tmp 0)) 0 [a1] fun v4=>
 oM prog (.makeFunc (Go.Fn.func 259) #[] #[(.tmp 0),(.tmp 1)]) 97 [v4,v3] fun v8=>
 a0a prog 146 #[a2,v8] fun v9=>
 kU v9 fun v10=>
 K v10) w
theorem d8y (h:f7a a0 a1 a2 K w):a0a prog 209 #[a0,a1,a2] K w:=
 cZ (fun _=>2) func209 h
def f7b (a0 a1:Value) (K:VK) (w:World):Prop:=
 kF 201 0 a1 (fun v4=>
 kF 26 0 v4 fun v5=>
 kL 23 v5 fun v6=>
 a0a prog 143 #[v6,a0] fun v8=>
 kU v8 fun v9=>
 K v9) w
theorem d8z (h:f7b a0 a1 K w):a0a prog 261 #[a0,a1] K w:=
 cZ (fun _=>2) func261 h
def f7c (a0 a1:Value) (K:VK) (w:World):Prop:=
 oM prog (.box 201 (.tmp 0)) 0 [a0] (fun v2=>
 oM prog (.makeFunc (Go.Fn.func 261) #[] #[(.tmp 0)]) 97 [v2] fun v6=>
 a0a prog 146 #[a1,v6] fun v7=>
 kU v7 fun v8=>
 K v8) w
theorem d9a (h:f7c a0 a1 K w):a0a prog 212 #[a0,a1] K w:=
 cZ (fun _=>2) func212 h
def f7d (a0 a1:Value) (K:VK) (w:World):Prop:=
 oM prog (.box 201 (.tmp 0)) 0 [a0] (fun v2=>
 kF 201 0 v2 fun v8=>
 kF 26 0 v8 fun v9=>
 kL 23 v9 fun v10=>
 kF 201 0 v2 fun v11=>
 kF 26 1 v11 fun v12=>
 kL 24 v12 fun v13=>
 a0a prog 72 #[v10,v13,a1] fun v15=>
 kE 0 3 v15 fun v16=>
 kE 1 4 v15 fun v17=>
 K v16) w
theorem d9b (h:f7d a0 a1 K w):a0a prog 210 #[a0,a1] K w:=
 cZ (fun _=>2) func210 h
def f7e (a0 a1 a2:Value) (K:VK) (w:World):Prop:=
 oM prog (.box 201 (.tmp 0)) 0 [a0] (fun v3=>
 kF 201 0 v3 fun v7=>
 kF 26 0 v7 fun v8=>
 kF 23 1 v8 fun v9=>
 kL 3 v9 fun v10=>
 a0a prog 281 #[v10,a1,a2] fun v13=>
 K v13) w
theorem d9c (h:f7e a0 a1 a2 K w):a0a prog 249 #[a0,a1,a2] K w:=
 cZ (fun _=>2) func249 h
def f7f (a0 a1 a2:Value) (K:VK) (w:World):Prop:=
 oM prog (.box 201 (.tmp 0)) 0 [a0] (fun v3=>
 kN 24 a2 fun v10=>
 kQ [undef,a1,(.int .i64 0)] fun J_3 m_4 l_5 u_l_5 w0_l_5=>(fun w=>(
 kB .lss 3 0 (l_5.getD 2 undef) v10 (fun v12=>
 kO v12 (kI 24 a2 (l_5.getD 2 undef) fun v13=>
 kL 3 v13 fun v14=>
 kF 201 0 v3 fun v15=>
 kF 26 0 v15 fun v16=>
 kF 23 1 v16 fun v17=>
 kL 3 v17 fun v18=>
 a0a prog 149 #[v18,(l_5.getD 1 undef),v14] fun v21=>
 kB .add 3 3 (l_5.getD 2 undef) (.int .i64 1) fun v22=>
 kJ J_3 m_4 l_5 w0_l_5 [v14,v21,v22])
 (K (l_5.getD 1 undef))) w)) w0_l_5) w
theorem d9d (h:f7f a0 a1 a2 K w):a0a prog 250 #[a0,a1,a2] K w:=
 cZ (fun _=>2) func250 h
def f7g (a0:Value) (K:VK) (w:World):Prop:=
 oM prog (.box 26 (.tmp 0)) 0 [a0] (fun v1=>
 kA 201 fun v2=>
 kH fun C_3 w=>(jL 26 v1 C_3 fun v4=>
 jL 26 v1 C_3 fun v6=>
 (oM prog (.build 201 #[(0,(.tmp 0))]) 201 [v4] (fun v5 w=>C_3 w ∧ (
 a0a prog 69 #[v6] (fun v7 w=>C_3 w ∧ (
 kS 201 v2 v5 (fun _ w=>C_3 w ∧ (
 C_3 w ∧ (∃ r_9,(do loadVar 201 (← asAddr v2):Sem Value).run prog w = .ok r_9 w ∧ K (.tuple #[r_9,v7]) w))) w)) w)) w) ∧
 (a0a prog 69 #[v6] (fun v7 w=>C_3 w ∧ (
 oM prog (.build 201 #[(0,(.tmp 0))]) 201 [v4] (fun v5 w=>C_3 w ∧ (
 kS 201 v2 v5 (fun _ w=>C_3 w ∧ (
 C_3 w ∧ (∃ r_13,(do loadVar 201 (← asAddr v2):Sem Value).run prog w = .ok r_13 w ∧ K (.tuple #[r_13,v7]) w))) w)) w)) w))) w
theorem d9e (h:f7g a0 K w):a0a prog 208 #[a0] K w:=
 cZ (fun _=>.tree (.look 0 (.look 2 (.alt 1 (.only 3 (.only 4 (.only 5 (.done)))) (.only 3 (.only 1 (.only 4 (.only 5 (.done))))))))) func208 h
def f7h (a0:Value) (K:VK) (w:World):Prop:=
 oM prog (.binOp .eql 24 (.tmp 0) (.const (.slice none 0 0)) 24) 4 [a0] (fun v4=>
 kO v4 (K (.slice none 0 0))
 (oM prog (.buildSlice 24 0 #[]) 24 [] fun v5=>
 oM prog (.call (Go.Call.mk (.builtin .append) #[(.tmp 0),(.tmp 1)] #[24,24])) 24 [v5,a0] fun v7=>
 K v7)) w
theorem d9f (h:f7h a0 K w):a0a prog 114 #[a0] K w:=
 cZ (fun _=>0) func114 h
def f7i (a0:Value) (K:VK) (w:World):Prop:=
 a0a prog 114 #[a0] (fun v4=>
 oM prog (.buildSlice 24 1 #[(0,(.tmp 0))]) 24 [(.int .i64 1)] fun v5=>
 a0a prog 260 #[v4,(.int .i64 0),v5] fun v6=>
 K v6) w
theorem d9g (h:f7i a0 K w):a0a prog 211 #[a0] K w:=
 cZ (fun _=>2) func211 h
def f7j (a0 a1:Value) (K:VK) (w:World):Prop:=
 oM prog (.box 26 (.tmp 0)) 0 [a0] (fun v2=>
 kA 201 fun v4=>
 kL 26 v2 fun v10=>
 a0a prog 208 #[v10] fun v11=>
 kE 0 201 v11 fun v12=>
 kE 1 4 v11 fun v13=>
 kA 201 fun v7=>
 kS 201 v7 v12 fun _=>
 kU v13 fun v15 w=>
 gF v15 (a0f a1) (fun v17 w=>
 gF v15 (kN 24 v17) (fun v18 w=>
 gF v15 (kF 26 1 v2) (fun v19 w=>
 gF v15 (kL 24 v19) (fun v20 w=>
 gF v15 (kN 24 v20) (fun v21 w=>
 gF v15 (kB .sub 3 3 v21 (.int .i64 1)) (fun v22 w=>
 gF v15 (kB .neq 3 4 v18 v22) (fun v23=>
 kP v15 (.bool true) v23 fun v24 w=>
 gF v24 (kL 201 v7) (fun v26 w=>
 gF v24 (a0f a1) (fun v27 w=>
 gF v24 (a0a prog 209 #[v26,(.int .i64 0),v27]) (fun v28 w=>
 gF v24 (kU v28) (fun v29=>
 kP v24 (.bool true) v29 fun v30 w=>
 gF v30 (a0f a1) (fun v32 w=>
 gF v30 (kI 24 v32 (.int .i64 0)) (fun v33 w=>
 gF v30 (kL 3 v33) (fun v34 w=>
 gF v30 (kC .eql 3 0 4 v34) (fun v35=>
 kP v30 (.bool true) v35 fun v36=>
 kO v36 (kL 201 v7 fun v37=>
 kS 201 v4 v37 fun _ w=>
 ∃ r_28,(do loadVar 201 (← asAddr v4):Sem Value).run prog w = .ok r_28 w ∧ K (.tuple #[r_28,(.int .i64 0),(.bool false)]) w)
 (kH fun C_29 w=>(jL 201 v7 C_29 fun v38=>
 jL 201 v7 C_29 fun v39=>
 a0g a1 C_29 fun v40=>
 a0a prog 211 #[v40] (fun v41 w=>C_29 w ∧ (
 a0a prog 210 #[v39,v41] (fun v42 w=>C_29 w ∧ (
 kS 201 v4 v38 (fun _ w=>C_29 w ∧ (
 C_29 w ∧ (C_29 w ∧ (∃ r_37,(do loadVar 201 (← asAddr v4):Sem Value).run prog w = .ok r_37 w ∧ K (.tuple #[r_37,v42,(.bool true)]) w)))) w)) w)) w))) w) w) w) w) w) w) w) w) w) w) w) w) w) w) w) w
theorem d9h (h:f7j a0 a1 K w):a0a prog 152 #[a0,a1] K w:=
 cZ (fun _=>2) func152 h
def f7k (a0 a1:Value) (K:VK) (w:World):Prop:=
 oM prog (.box 26 (.tmp 0)) 0 [a0] (fun v2=>
 kA 201 fun v4=>
 kL 26 v2 fun v11=>
 a0a prog 152 #[v11,a1] fun v13=>
 kE 0 201 v13 fun v14=>
 kE 1 3 v13 fun v15=>
 kE 2 4 v13 fun v16=>
 kA 201 fun v7=>
 kS 201 v7 v14 fun _=>
 kL 201 v7 fun v17 w=>
 gT v16 (a0f v15) (fun v21 w=>
 gT v16 (kC .neq 3 1 4 v21) (fun v22=>
 kP v16 v22 (.bool false) fun v23=>
 kS 201 v4 v17 fun _ w=>
 ∃ r_13,(do loadVar 201 (← asAddr v4):Sem Value).run prog w = .ok r_13 w ∧ K (.tuple #[r_13,v15,v23]) w) w) w) w
theorem d9i (h:f7k a0 a1 K w):a0a prog 247 #[a0,a1] K w:=
 cZ (fun _=>2) func247 h
def g5e (a0 a1:Value) (K:VK) (w:World):Prop:=
 oM prog (.box 26 (.tmp 0)) 0 [a0] (fun v2=>
 kL 26 v2 fun v9=>
 a0a prog 152 #[v9,a1] fun v11=>
 kE 0 201 v11 fun v12=>
 kE 1 3 v11 fun v13=>
 kE 2 4 v11 fun v14=>
 kA 201 fun v5=>
 kS 201 v5 v12 fun _=>
 K v13) w
theorem e8y (h:g5e a0 a1 K w):a0a prog 74 #[a0,a1] K w:=
 cZ (fun _=>2) func74 h
def f7l (a0 a1:Value) (K:VK) (w:World):Prop:=
 oM prog (.box 201 (.tmp 0)) 0 [a0] (fun v2=>
 oM prog (.box 29 (.tmp 0)) 0 [a1] fun v3=>
 kL 201 v2 fun v5=>
 kF 29 0 v3 fun v6=>
 kL 3 v6 fun v7=>
 kF 29 1 v3 fun v8=>
 kL 3 v8 fun v9=>
 oM prog (.buildSlice 24 2 #[(0,(.tmp 0)),(1,(.tmp 1))]) 24 [v7,v9] fun v10=>
 a0a prog 209 #[v5,(.int .i64 1),v10] fun v11 w=>
 gT v11 (kL 201 v2) (fun v13 w=>
 gT v11 (kF 29 2 v3) (fun v14 w=>
 gT v11 (kL 3 v14) (fun v15 w=>
 gT v11 (oM prog (.buildSlice 24 1 #[(0,(.tmp 0))]) 24 [v15]) (fun v16 w=>
 gT v11 (a0a prog 209 #[v13,(.int .i64 0),v16]) (fun v17=>
 kP v11 v17 (.bool false) fun v18 w=>
 gT v18 (kF 29 3 v3) (fun v20 w=>
 gT v18 (kL 24 v20) (fun v21 w=>
 gT v18 (kN 24 v21) (fun v22 w=>
 gT v18 (kF 201 0 v2) (fun v23 w=>
 gT v18 (kF 26 1 v23) (fun v24 w=>
 gT v18 (kL 24 v24) (fun v25 w=>
 gT v18 (kN 24 v25) (fun v26 w=>
 gT v18 (kB .eql 3 4 v22 v26) (fun v27=>
 kP v18 v27 (.bool false) fun v28 w=>
 gT v28 (kL 201 v2) (fun v30 w=>
 gT v28 (kF 29 3 v3) (fun v31 w=>
 gT v28 (kL 24 v31) (fun v32 w=>
 gT v28 (a0a prog 209 #[v30,(.int .i64 0),v32]) (fun v33=>
 kP v28 v33 (.bool false) fun v34=>
 K v34) w) w) w) w) w) w) w) w) w) w) w) w) w) w) w) w) w) w
theorem d9j (h:f7l a0 a1 K w):a0a prog 248 #[a0,a1] K w:=
 cZ (fun _=>2) func248 h
def f7m (a0 a1:Value) (K:VK) (w:World):Prop:=
 oM prog (.box 26 (.tmp 0)) 0 [a0] (fun v2=>
 oM prog (.box 31 (.tmp 0)) 0 [a1] fun v3=>
 kA 201 fun v4=>
 kL 26 v2 fun v9=>
 a0a prog 208 #[v9] fun v10=>
 kE 0 201 v10 fun v11=>
 kE 1 4 v10 fun v12=>
 kA 201 fun v6=>
 kS 201 v6 v11 fun _=>
 kH fun C_9 w=>(jL 201 v6 C_9 fun v13=>
 a0g v12 C_9 fun v14=>
 a0g v14 C_9 fun v15=>
 jT v15 (jF 31 0 v3) C_9 fun v16=>
 jT v15 (jL 3 v16) C_9 fun v17=>
 jT v15 (jC .neq 3 1 4 v17) C_9 fun v18=>
 jP v15 v18 (.bool false) C_9 fun v19=>
 a0g v19 C_9 fun v20=>
 jT v20 (jL 201 v6) C_9 fun v21=>
 jT v20 (jF 31 0 v3) C_9 fun v22=>
 jT v20 (jL 3 v22) C_9 fun v23=>
 jT v20 (jF 31 1 v3) C_9 fun v24=>
 jT v20 (jL 3 v24) C_9 fun v25=>
 jT v20 (jF 31 2 v3) C_9 fun v26=>
 jT v20 (jL 3 v26) C_9 fun v27=>
 jT v20 (jF 31 3 v3) C_9 fun v28=>
 jT v20 (jL 3 v28) C_9 fun v29=>
 jT v20 (jF 31 4 v3) C_9 fun v30=>
 jT v20 (jL 3 v30) C_9 fun v31=>
 gT v20 (oM prog (.buildSlice 24 5 #[(0,(.tmp 0)),(1,(.tmp 1)),(2,(.tmp 2)),(3,(.tmp 3)),(4,(.tmp 4))]) 24 [v23,v25,v27,v29,v31]) (fun v32 w=>C_9 w ∧ (
 gT v20 (a0a prog 212 #[v21,v32]) (fun v33 w=>C_9 w ∧ (
 jP v20 v33 (.bool false) C_9 fun v34=>
 a0g v34 C_9 fun v35=>
 jT v35 (jL 201 v6) C_9 fun v36=>
 jT v35 (jF 31 5 v3) C_9 fun v37=>
 jT v35 (jL 3 v37) C_9 fun v38=>
 gT v35 (oM prog (.buildSlice 24 1 #[(0,(.tmp 0))]) 24 [v38]) (fun v39 w=>C_9 w ∧ (
 gT v35 (a0a prog 209 #[v36,(.int .i64 0),v39]) (fun v40 w=>C_9 w ∧ (
 jP v35 v40 (.bool false) C_9 fun v41=>
 kS 201 v4 v13 (fun _ w=>C_9 w ∧ (
 C_9 w ∧ (∃ r_40,(do loadVar 201 (← asAddr v4):Sem Value).run prog w = .ok r_40 w ∧ K (.tuple #[r_40,v41]) w))) w)) w)) w)) w)) w)) w
theorem d9k (h:f7m a0 a1 K w):a0a prog 153 #[a0,a1] K w:=
 cZ (fun _=>.tree (.look 0 (.look 1 (.look 2 (.look 3 (.look 4 (.look 5 (.look 6 (.look 7 (.look 8 (.look 9 (.look 10 (.look 11 (.look 12 (.look 13 (.look 14 (.look 15 (.look 16 (.look 17 (.look 18 (.only 19 (.only 20 (.look 21 (.look 22 (.look 23 (.look 24 (.look 25 (.only 26 (.only 27 (.look 28 (.only 29 (.only 30 (.done))))))))))))))))))))))))))))))))) func153 h
def g5f (a0 a1:Value) (K:VK) (w:World):Prop:=
 oM prog (.box 26 (.tmp 0)) 0 [a0] (fun v2=>
 oM prog (.box 31 (.tmp 0)) 0 [a1] fun v3=>
 kL 26 v2 fun v8=>
 kL 31 v3 fun v9=>
 a0a prog 153 #[v8,v9] fun v10=>
 kE 0 201 v10 fun v11=>
 kE 1 4 v10 fun v12=>
 kA 201 fun v5=>
 kS 201 v5 v11 fun _=>
 K v12) w
theorem e8z (h:g5f a0 a1 K w):a0a prog 75 #[a0,a1] K w:=
 cZ (fun _=>2) func75 h
variable {a0 a1 a2:Value} {K:VK} {w:World}
def g2t (a0 a1 a2:Value) (K:VK) (w:World):Prop:=
 kB .geq 3 4 a0 a1 (fun v9 w=>
 gT v9 (a0f a0) (fun v11 w=>
 gT v9 (a0f a2) (fun v12 w=>
 gT v9 (kB .leq 3 4 v11 v12) (fun v13=>
 kP v9 v13 (.bool false) fun v14=>
 K v14) w) w) w) w
theorem e6n (h:g2t a0 a1 a2 K w):a0a prog 49 #[a0,a1,a2] K w:=
 cZ (fun _=>0) func49 h
def g2u (a0:Value) (K:VK) (w:World):Prop:=
 a0a prog 49 #[a0,(.int .i64 0),(.int .i64 2147483648)] (fun v4=>
 K v4) w
theorem e6o (h:g2u a0 K w):a0a prog 50 #[a0] K w:=
 cZ (fun _=>0) func50 h
def h1i (a0:Value) (K:VK) (w:World):Prop:=
 oM prog (.box 40 (.tmp 0)) 0 [a0] (fun v1=>
 kF 40 0 v1 fun v3=>
 kL 3 v3 fun v4=>
 a0a prog 49 #[v4,(.int .i64 1),(.int .i64 4096)] fun v5 w=>
 gT v5 (kF 40 1 v1) (fun v7 w=>
 gT v5 (kL 3 v7) (fun v8 w=>
 gT v5 (a0a prog 50 #[v8]) (fun v9=>
 kP v5 v9 (.bool false) fun v10 w=>
 gT v10 (kF 40 2 v1) (fun v12 w=>
 gT v10 (kL 3 v12) (fun v13 w=>
 gT v10 (a0a prog 49 #[v13,(.int .i64 (-1)),(.int .i64 23)]) (fun v14=>
 kP v10 v14 (.bool false) fun v15=>
 K v15) w) w) w) w) w) w) w
theorem f9a (h:h1i a0 K w):a0a prog 8 #[a0] K w:=
 cZ (fun _=>0) func8 h
def g2v (a0 a1:Value) (K:VK) (w:World):Prop:=
 oM prog (.box 40 (.tmp 0)) 0 [a0] (fun v2=>
 kL 40 v2 fun v6=>
 a0a prog 8 #[v6] fun v7=>
 kU v7 fun v8 w=>
 gF v8 (a0f a1) (fun v10 w=>
 gF v8 (a0a prog 50 #[v10]) (fun v11 w=>
 gF v8 (kU v11) (fun v12=>
 kP v8 (.bool true) v12 fun v13=>
 kO v13 (K (.int .i64 (-1)))
 (kF 40 1 v2 fun v15=>
 kL 3 v15 fun v16=>
 kC .eql 3 0 4 v16 fun v17=>
 kO v17 (K (.int .i64 0))
 (kF 40 1 v2 fun v19=>
 kL 3 v19 fun v20=>
 kB .quo 3 3 a1 v20 fun v21=>
 K v21))) w) w) w) w
theorem e6p (h:g2v a0 a1 K w):a0a prog 10 #[a0,a1] K w:=
 cZ (fun _=>0) func10 h
def g2w (a0 a1:Value) (K:VK) (w:World):Prop:=
 oM prog (.box 40 (.tmp 0)) 0 [a0] (fun v2=>
 kL 40 v2 fun v5=>
 a0a prog 8 #[v5] fun v6=>
 kU v6 fun v7 w=>
 gF v7 (a0f a1) (fun v9 w=>
 gF v7 (a0a prog 50 #[v9]) (fun v10 w=>
 gF v7 (kU v10) (fun v11=>
 kP v7 (.bool true) v11 fun v12 w=>
 gF v12 (a0f a1) (fun v14 w=>
 gF v12 (kF 40 1 v2) (fun v15 w=>
 gF v12 (kL 3 v15) (fun v16 w=>
 gF v12 (kB .mul 3 3 v14 v16) (fun v17 w=>
 gF v12 (a0a prog 50 #[v17]) (fun v18 w=>
 gF v12 (kU v18) (fun v19=>
 kP v12 (.bool true) v19 fun v20=>
 kO v20 (K (.int .i64 (-1)))
 (kF 40 1 v2 fun v22=>
 kL 3 v22 fun v23=>
 kB .mul 3 3 a1 v23 fun v24=>
 K v24)) w) w) w) w) w) w) w) w) w) w
theorem e6q (h:g2w a0 a1 K w):a0a prog 12 #[a0,a1] K w:=
 cZ (fun _=>0) func12 h
def f4o (a0 a1:Value) (K:VK) (w:World):Prop:=
 oM prog (.box 31 (.tmp 0)) 0 [a0] (fun v2=>
 oM prog (.box 31 (.tmp 0)) 0 [a1] fun v3=>
 kL 31 v2 fun v5=>
 kL 31 v3 fun v6=>
 kB .eql 31 4 v5 v6 fun v7=>
 K v7) w
theorem d6l (h:f4o a0 a1 K w):a0a prog 191 #[a0,a1] K w:=
 cZ (fun _=>0) func191 h
def g2x (a0 a1:Value) (K:VK) (w:World):Prop:=
 oM prog (.box 3 (.tmp 0)) 0 [a0] (fun v2=>
 oM prog (.makeFunc (Go.Fn.func 147) #[] #[(.tmp 0)]) 97 [v2] fun v6=>
 a0a prog 146 #[a1,v6] fun v7=>
 kU v7 fun v8=>
 K v8) w
theorem e6r (h:g2x a0 a1 K w):a0a prog 71 #[a0,a1] K w:=
 cZ (fun _=>0) func71 h
def f4p (a0 a1:Value) (K:VK) (w:World):Prop:=
 kB .lss 3 4 a0 (.int .i64 0) (fun v5 w=>
 gF v5 (a0f a0) (fun v7 w=>
 gF v5 (kL 3 a1) (fun v8 w=>
 gF v5 (kB .geq 3 4 v7 v8) (fun v9=>
 kP v5 (.bool true) v9 fun v10=>
 K v10) w) w) w) w
theorem d6m (h:f4p a0 a1 K w):a0a prog 147 #[a0,a1] K w:=
 cZ (fun _=>0) func147 h
def f4q (a0 a1:Value) (K:VK) (w:World):Prop:=
 a0a prog 205 #[a0,a1] (fun v7=>
 kB .geq 3 4 v7 (.int .i64 0) fun v8=>
 K v8) w
theorem d6n (h:f4q a0 a1 K w):a0a prog 144 #[a0,a1] K w:=
 cZ (fun _=>0) func144 h
def f4r (a0 a1:Value) (K:VK) (w:World):Prop:=
 kN 32 a0 (fun v7=>
 kQ [undef,(.int .i64 0),(.int .i64 0)] fun J_2 m_3 l_4 u_l_4 w0_l_4=>(fun w=>(
 kB .lss 3 0 (l_4.getD 2 undef) v7 (fun v9=>
 kO v9 (kI 32 a0 (l_4.getD 2 undef) fun v14=>
 kL 95 v14 fun v15=>
 oM prog (.call (Go.Call.mk (.value (.tmp 0)) #[(.tmp 1)] #[95])) 4 [a1,v15] fun v16=>
 kO v16 (K (l_4.getD 2 undef))
 (kB .add 3 3 (l_4.getD 2 undef) (.int .i64 1) fun v18=>
 kJ J_2 m_3 l_4 w0_l_4 [(l_4.getD 2 undef),(l_4.getD 1 undef),v18]))
 (K (.int .i64 (-1)))) w)) w0_l_4) w
theorem d6o (h:f4r a0 a1 K w):a0a prog 205 #[a0,a1] K w:=
 cZ (fun _=>0) func205 h
def g2y (a0:Value) (K:VK) (w:World):Prop:=
 kN 32 a0 (fun v4=>
 kB .leq 3 4 v4 (.int .i64 4) fun v5 w=>
 gT v5 (a0f a0) (fun v7 w=>
 gT v5 (a0a prog 144 #[v7,(.func (.func 145) #[] #[])]) (fun v8 w=>
 gT v5 (kU v8) (fun v9=>
 kP v5 v9 (.bool false) fun v10=>
 K v10) w) w) w) w
theorem e6s (h:g2y a0 K w):a0a prog 70 #[a0] K w:=
 cZ (fun _=>0) func70 h
def f4s (a0:Value) (K:VK) (w:World):Prop:=
 oM prog (.box 95 (.tmp 0)) 0 [a0] (fun v1=>
 kF 95 2 v1 fun v3=>
 kL 9 v3 fun v4=>
 kN 9 v4 fun v5=>
 kB .gtr 3 4 v5 (.int .i64 200) fun v6 w=>
 gF v6 (kF 95 1 v1) (fun v8 w=>
 gF v6 (kF 84 1 v8) (fun v9 w=>
 gF v6 (kL 24 v9) (fun v10 w=>
 gF v6 (kN 24 v10) (fun v11 w=>
 gF v6 (kB .gtr 3 4 v11 (.int .i64 7)) (fun v12=>
 kP v6 (.bool true) v12 fun v13=>
 K v13) w) w) w) w) w) w
theorem d6p (h:f4s a0 K w):a0a prog 145 #[a0] K w:=
 cZ (fun _=>0) func145 h
def f4t (a0 a1:Value) (K:VK) (w:World):Prop:=
 a0a prog 180 #[a0,a1] (fun v7=>
 kB .geq 3 4 v7 (.int .i64 0) fun v8=>
 K v8) w
theorem d6q (h:f4t a0 a1 K w):a0a prog 111 #[a0,a1] K w:=
 cZ (fun _=>0) func111 h
def f4u (a0 a1:Value) (K:VK) (w:World):Prop:=
 kN 27 a0 (fun v7=>
 kQ [undef,(.int .i64 0),(.int .i64 0)] fun J_2 m_3 l_4 u_l_4 w0_l_4=>(fun w=>(
 kB .lss 3 0 (l_4.getD 2 undef) v7 (fun v9=>
 kO v9 (kI 27 a0 (l_4.getD 2 undef) fun v14=>
 kL 40 v14 fun v15=>
 oM prog (.call (Go.Call.mk (.value (.tmp 0)) #[(.tmp 1)] #[40])) 4 [a1,v15] fun v16=>
 kO v16 (K (l_4.getD 2 undef))
 (kB .add 3 3 (l_4.getD 2 undef) (.int .i64 1) fun v18=>
 kJ J_2 m_3 l_4 w0_l_4 [(l_4.getD 2 undef),(l_4.getD 1 undef),v18]))
 (K (.int .i64 (-1)))) w)) w0_l_4) w
theorem d6r (h:f4u a0 a1 K w):a0a prog 180 #[a0,a1] K w:=
 cZ (fun _=>0) func180 h
def f4v (a0 a1:Value) (K:VK) (w:World):Prop:=
 a0a prog 195 #[a0,a1] (fun v7=>
 kB .geq 3 4 v7 (.int .i64 0) fun v8=>
 K v8) w
theorem d6s (h:f4v a0 a1 K w):a0a prog 189 #[a0,a1] K w:=
 cZ (fun _=>0) func189 h
def f4w (a0 a1:Value) (K:VK) (w:World):Prop:=
 kN 90 a0 (fun v7=>
 kQ [undef,(.int .i64 0),(.int .i64 0)] fun J_2 m_3 l_4 u_l_4 w0_l_4=>(fun w=>(
 kB .lss 3 0 (l_4.getD 2 undef) v7 (fun v9=>
 kO v9 (kI 90 a0 (l_4.getD 2 undef) fun v14=>
 kL 93 v14 fun v15=>
 oM prog (.call (Go.Call.mk (.value (.tmp 0)) #[(.tmp 1)] #[93])) 4 [a1,v15] fun v16=>
 kO v16 (K (l_4.getD 2 undef))
 (kB .add 3 3 (l_4.getD 2 undef) (.int .i64 1) fun v18=>
 kJ J_2 m_3 l_4 w0_l_4 [(l_4.getD 2 undef),(l_4.getD 1 undef),v18]))
 (K (.int .i64 (-1)))) w)) w0_l_4) w
theorem d6t (h:f4w a0 a1 K w):a0a prog 195 #[a0,a1] K w:=
 cZ (fun _=>0) func195 h
end Go.Proofs
namespace FdSpec
def okN (n:Int):Prop:=1 ≤ n ∧ n < 2305843009213693952
instance (n:Int):Decidable (okN n):=inferInstanceAs (Decidable (_ ∧ _))
def d4x (n a b:Int):Int:=if okN n then (a + b) % n else 0
def d1t (n a b:Int):Int:=if okN n then (a - b) % n else 0
def b8f (n a b:Int):Int:=if okN n then a * b % n else 0
def pw (n a:Int) (b:Nat):Int:=a ^ b % n
def euc (n:Int):Nat → Int → Int → Int → Int → Int × Int
 | 0,r,_,x,_=>(r,x)
 | k + 1,r,s,x,y=>if s = 0 then (r,x) else euc n k s (r % s) y (d1t n x (b8f n (r / s) y))
def b0m (n r s x y:Int):Int × Int:=euc n (s.toNat + 1) r s x y
def f8y (n a:Int):Option Int:=if okN n then (if (b0m n n (a % n) 0 1).1 = 1 then some ((b0m n n (a % n) 0 1).2 % n) else none) else none
def g1r (n a b:Int):Int:=
 if okN n then (if 0 ≤ b then pw n a b.toNat else match f8y n a with | some x=>pw n x (-b).toNat | none=>0) else 0
theorem e6d (n:Int) (k:Nat) (r x y:Int):euc n k r 0 x y = (r,x):=by
 cases k <;> simp [euc]
theorem e6e (n:Int) (k:Nat) (r s x y:Int) (hs:0 ≤ s) (hk:s.toNat + 1 ≤ k):euc n k r s x y = b0m n r s x y:=by
 unfold b0m
 induction k using Nat.strongRecOn generalizing r s x y with
 | _ k ih=>
  cases k with
  | zero=>omega
  | succ k=>
   by_cases h0:s = 0
   ·subst h0; simp [euc]
   ·have h1:=Int.emod_nonneg r h0
    have h2:=Int.emod_lt_of_pos r (b:=s) (by omega)
    have e1:euc n (k + 1) r s x y = euc n k s (r % s) y (d1t n x (b8f n (r / s) y)):=by
     rw [euc,if_neg h0]
    have e2:euc n (s.toNat + 1) r s x y = euc n s.toNat s (r % s) y (d1t n x (b8f n (r / s) y)):=by
     rw [euc,if_neg h0]
    rw [e1,e2]
    have h3:(r % s).toNat + 1 ≤ s.toNat:=by omega
    rw [ih k (by omega) s (r % s) _ _ h1 (by omega)]
    by_cases hks:s.toNat = k
    ·rw [hks,ih k (by omega) s (r % s) _ _ h1 (by omega)]
    ·rw [ih s.toNat (by omega) s (r % s) _ _ h1 h3]
theorem e6f (n r s x y:Int) (hs:0 < s):b0m n r s x y = b0m n s (r % s) y (d1t n x (b8f n (r / s) y)):=by
 have h1:=Int.emod_nonneg r (b:=s) (by omega)
 have h2:=Int.emod_lt_of_pos r (b:=s) hs
 rw [← e6e n s.toNat s (r % s) _ _ h1 (by omega)]
 unfold b0m
 rw [euc,if_neg (by omega)]
def tz:Nat → Nat → Nat
 | 0,_=>0
 | k + 1,m=>if m % 2 = 0 then tz k (m / 2) + 1 else 0
def d1u (n:Int):Nat → Int → Bool
 | 0,_=>false
 | k + 1,x=>if x = n - 1 then true else d1u n k (x * x % n)
def b1q (n b:Int):Bool:=
 let k:=tz 64 (n - 1).toNat
 let x:=pw n b ((n - 1).toNat / 2 ^ k)
 if x = 1 then true else d1u n k x
def smallP:List Int:=[2,3,5,7,11,13,17,19,23,29,31,37]
def a8r (n:Int):Bool:=
 if n < 2 ∨ 2305843009213693952 ≤ n then false
 else match smallP.find? (fun p=>decide (n % p = 0)) with
  | some p=>decide (n = p)
  | none=>smallP.all (fun p=>b1q n p)
structure Grp where
 P:Int
 Q:Int
 G:Int
deriving DecidableEq
def a2m (g:Grp):Bool:=
 if g.Q < 5 ∨ 1152921504606846976 ≤ g.Q ∨ g.P ≠ 2 * g.Q + 1 ∨ g.G < 2 ∨ g.P ≤ g.G then false
 else a8r g.Q && a8r g.P && decide (pw g.P g.G g.Q.toNat = 1)
def a9d (g:Grp) (x:Int):Bool:=decide (1 ≤ x) && decide (x < g.P) && a2m g && decide (pw g.P x g.Q.toNat = 1)
def a6i (g:Grp) (x k:Int):Int:=if okN g.P ∧ okN g.Q then pw g.P x (k % g.Q).toNat else 0
def b3s (g:Grp):Int → List (Int × Int) → Int
 | out,[]=>out
 | out,(b,e) :: l=>b3s g (b8f g.P out (a6i g b e)) l
def a5t (g:Grp) (bases exps:List Int):Int × Bool:=
 if okN g.P ∧ okN g.Q ∧ bases.length = exps.length then (b3s g (1 % g.P) (bases.zip exps),true) else (0,false)
end FdSpec
namespace FdSpec
theorem c0m (a n:Int) (k:Nat):(a % n) ^ k % n = a ^ k % n:=by
 induction k with
 | zero=>rw [Int.pow_zero,Int.pow_zero]
 | succ k ih=>rw [Int.pow_succ,Int.pow_succ,Int.mul_emod,ih,Int.emod_emod_of_dvd a (Int.dvd_refl n),← Int.mul_emod]
theorem c9p (a:Int) (b:Nat):a ^ b = (a * a) ^ (b / 2) * a ^ (b % 2):=by
 have h1:b = 2 * (b / 2) + b % 2:=(Nat.div_add_mod b 2).symm
 have h2:∀ k,a ^ (2 * k) = (a * a) ^ k:=by
  intro k
  induction k with
  | zero=>rw [Nat.mul_zero,Int.pow_zero,Int.pow_zero]
  | succ k ih=>rw [Nat.mul_succ,Int.pow_succ,Int.pow_succ,Int.pow_succ,ih,Int.mul_assoc]
 conv=>lhs; rw [h1]
 rw [Int.pow_add,h2]
theorem d4v (n a out:Int) (b:Nat) (hb:b % 2 = 0):out * (a * a % n) ^ (b / 2) % n = out * a ^ b % n:=by
 rw [c9p a b,hb,Int.pow_zero,Int.mul_one,Int.mul_emod,c0m,← Int.mul_emod]
theorem f3a (n a out:Int) (b:Nat) (hb:b % 2 = 1):out * a % n * (a * a % n) ^ (b / 2) % n = out * a ^ b % n:=by
 have e:a ^ (1:Nat) = a:=by rw [show (1:Nat) = 0 + 1 from rfl,Int.pow_succ,Int.pow_zero,Int.one_mul]
 rw [c9p a b,hb,e,Int.mul_emod,Int.emod_emod_of_dvd _ (Int.dvd_refl n),c0m,← Int.mul_emod]
 congr 1
 rw [Int.mul_comm ((a * a) ^ (b / 2)) a,← Int.mul_assoc]
theorem c7a (n a:Int) (b:Nat):pw n (a % n) b = pw n a b:=c0m a n b
theorem b0l (n a:Int) (b:Nat) (hn:0 < n):0 ≤ pw n a b ∧ pw n a b < n:=⟨Int.emod_nonneg _ (by omega),Int.emod_lt_of_pos _ hn⟩
theorem g2l (k m:Nat) (hm:0 < m) (h:m < 2 ^ k):tz k m < k ∧ ∃ j,m = 2 ^ tz k m * (2 * j + 1):=by
 induction k generalizing m with
 | zero=>omega
 | succ k ih=>
  unfold tz
  split
  ·rename_i h2
   obtain ⟨h3,j,h4⟩:=ih (m / 2) (by omega) (by rw [Nat.pow_succ] at h; omega)
   refine ⟨by omega,j,?_⟩
   have h5:m = 2 * (m / 2):=by omega
   rw [Nat.pow_succ,Nat.mul_comm (2 ^ _) 2,Nat.mul_assoc,← h4]
   exact h5
  ·exact ⟨by omega,m / 2,by rw [Nat.pow_zero]; omega⟩
theorem f8w (n a b:Int) (hn:okN n):(a % n + b % n) % n = d4x n a b:=by
 rw [d4x,if_pos hn,← Int.add_emod]
theorem f8x (n a b:Int) (hn:okN n):(a % n + n - b % n) % n = d1t n a b:=by
 rw [d1t,if_pos hn,Int.sub_emod,Int.add_emod,Int.emod_self,Int.add_zero,Int.emod_emod_of_dvd _ (Int.dvd_refl n),Int.emod_emod_of_dvd _ (Int.dvd_refl n),Int.emod_emod_of_dvd _ (Int.dvd_refl n),← Int.sub_emod]
theorem d4w (n a b:Int) (hn:okN n):a % n * (b % n) % n = b8f n a b:=by
 rw [b8f,if_pos hn,← Int.mul_emod]
theorem b9b (n a b:Int) (hn:okN n):0 ≤ b8f n a b ∧ b8f n a b < n:=by
 rw [b8f,if_pos hn]; exact ⟨Int.emod_nonneg _ (by have:=hn.1; omega),Int.emod_lt_of_pos _ (by have:=hn.1; omega)⟩
theorem b9c (n a b:Int) (hn:okN n):0 ≤ d1t n a b ∧ d1t n a b < n:=by
 rw [d1t,if_pos hn]; exact ⟨Int.emod_nonneg _ (by have:=hn.1; omega),Int.emod_lt_of_pos _ (by have:=hn.1; omega)⟩
theorem b9d (n a b:Int) (hn:okN n):0 ≤ d4x n a b ∧ d4x n a b < n:=by
 rw [d4x,if_pos hn]; exact ⟨Int.emod_nonneg _ (by have:=hn.1; omega),Int.emod_lt_of_pos _ (by have:=hn.1; omega)⟩
theorem b9e (n a:Int) (hn:0 < n):(if a.tmod n < 0 then a.tmod n + n else a.tmod n) = a % n:=by
 have h1:=Int.emod_nonneg a (b:=n) (by omega)
 have h2:=Int.emod_lt_of_pos a hn
 have h3:=Int.tmod_add_mul_tdiv a n
 have h4:=Int.emod_add_mul_ediv a n
 have h5:a.tmod n < n:=by have:=Int.tmod_lt_of_pos a hn; omega
 have h6:-n < a.tmod n:=by
  have:=Int.lt_tmod_of_pos a hn
  omega
 have h7:n ∣ a.tmod n - a % n:=by
  refine ⟨a / n - a.tdiv n,?_⟩
  rw [Int.mul_sub]; omega
 obtain ⟨k,hk⟩:=h7
 have hk2:k = 0 ∨ k = -1 ∨ 1 ≤ k ∨ k ≤ -2:=by omega
 rcases hk2 with rfl | rfl | hk2 | hk2
 ·simp at hk; split <;> omega
 ·rw [Int.mul_neg,Int.mul_one] at hk; split <;> omega
 ·have:=Int.mul_le_mul_of_nonneg_left hk2 (by omega:0 ≤ n); omega
 ·have:=Int.mul_le_mul_of_nonneg_left hk2 (by omega:0 ≤ n); omega
end FdSpec
namespace FdSpec
structure Digit (h l u d q r:Nat):Prop where
 sum:q * h + r = u
 up:u * 4294967296 + d < (q + 1) * (h * 4294967296 + l)
 le:q ≤ 4294967297
section
variable {h l u d q r:Nat}
theorem c6w (hh:2147483648 ≤ h) (hh2:h < 4294967296) (hl:l < 4294967296) (hd:d < 4294967296) (hu:u < h * 4294967296 + l):Digit h l u d (u / h) (u - u / h * h):=by
 have h1:u / h * h ≤ u:=Nat.div_mul_le_self u h
 have h2:u < (u / h + 1) * h:=by rw [Nat.add_mul,Nat.one_mul]; have:=Nat.mod_lt u (show h > 0 by omega); have:=Nat.div_add_mod u h; rw [Nat.mul_comm] at this; omega
 have h3:u / h < 4294967298:=by
  rw [Nat.div_lt_iff_lt_mul (by omega)]
  omega
 refine ⟨by omega,?_,by omega⟩
 have h4:(u + 1) * 4294967296 ≤ (u / h + 1) * h * 4294967296:=Nat.mul_le_mul_right _ h2
 have h5:(u / h + 1) * (h * 4294967296 + l) = (u / h + 1) * h * 4294967296 + (u / h + 1) * l:=by rw [Nat.mul_add,Nat.mul_assoc]
 rw [h5]
 omega
theorem b8w (D:Digit h l u d q r):(4294967296 * r + d < q * l) ↔ u * 4294967296 + d < q * (h * 4294967296 + l):=by
 have h5:q * (h * 4294967296 + l) = q * h * 4294967296 + q * l:=by rw [Nat.mul_add,Nat.mul_assoc]
 have:=D.sum
 rw [h5]
 generalize q * h = a at *
 generalize q * l = b at *
 omega
theorem d4o (hu:u < h * 4294967296 + l) (hd:d < 4294967296) (hq:4294967296 ≤ q):u * 4294967296 + d < q * (h * 4294967296 + l):=by
 have h1:4294967296 * (h * 4294967296 + l) ≤ q * (h * 4294967296 + l):=Nat.mul_le_mul_right _ hq
 have h2:(u + 1) * 4294967296 ≤ (h * 4294967296 + l) * 4294967296:=Nat.mul_le_mul_right _ hu
 omega
theorem c3a (D:Digit h l u d q r) (ht:u * 4294967296 + d < q * (h * 4294967296 + l)):0 < q:=by
 rcases Nat.eq_zero_or_pos q with rfl | h
 ·simp at ht
 ·exact h
theorem d1q (D:Digit h l u d q r) (ht:u * 4294967296 + d < q * (h * 4294967296 + l)):Digit h l u d (q - 1) (r + h):=by
 have hq:=c3a D ht
 have:=D.sum
 refine ⟨?_,?_,by have:=D.le; omega⟩
 ·obtain ⟨p,rfl⟩:∃ p,q = p + 1:=⟨q - 1,by omega⟩
  rw [Nat.add_mul] at this
  simp only [Nat.add_sub_cancel]
  omega
 ·rw [show q - 1 + 1 = q by omega]; exact ht
theorem c3b (D:Digit h l u d q r) (ht:¬ u * 4294967296 + d < q * (h * 4294967296 + l)):q = (u * 4294967296 + d) / (h * 4294967296 + l):=
 (Nat.div_eq_of_lt_le (by omega) D.up).symm
theorem c6x (D:Digit h l u d q r) (hl:l < 4294967296) (hq:q ≤ 4294967296) (hr:4294967296 ≤ r):¬ u * 4294967296 + d < q * (h * 4294967296 + l):=by
 rw [← b8w D]
 have h1:q * l ≤ 4294967296 * 4294967295:=Nat.mul_le_mul hq (by omega)
 omega
end
theorem d4p (x y s:Nat):x * 2 ^ s % (y * 2 ^ s) / 2 ^ s = x % y:=by
 rw [Nat.mul_mod_mul_right,Nat.mul_div_cancel _ (Nat.pow_pos (by omega))]
theorem d1r (N d y:Nat):(N * 4294967296 + d) % y = ((N % y) * 4294967296 + d) % y:=by
 have h:N * 4294967296 % y = N % y * 4294967296 % y:=by simp
 rw [Nat.add_mod,h,← Nat.add_mod]
theorem f8p (X D:Nat):(X * 4294967296 + D / 4294967296) * 4294967296 + D % 4294967296 = X * 18446744073709551616 + D:=by
 rw [Nat.add_mul,Nat.mul_assoc,Nat.add_assoc,Nat.mul_comm (D / 4294967296),Nat.div_add_mod]
theorem e6a (a c M y s:Nat) (h:a * 4294967296 + c = M * 2 ^ s):(a % (y * 2 ^ s) * 4294967296 + c) % (y * 2 ^ s) / 2 ^ s = M % y:=by
 have t:=d1r a c (y * 2 ^ s)
 have u:=d4p M y s
 rw [h] at t
 rw [← t,u]
theorem d4q (hi lo y s X D:Nat) (hN:X * 18446744073709551616 + D = (hi * 18446744073709551616 + lo) * 2 ^ s):(((X * 4294967296 + D / 4294967296) % (y * 2 ^ s)) * 4294967296 + D % 4294967296) % (y * 2 ^ s) / 2 ^ s = (hi * 18446744073709551616 + lo) % y:=by
 rw [← f8p X D] at hN
 exact e6a _ _ _ y s hN
end FdSpec
namespace Go.Proofs
open Go Go.Sh Go.RowKit FdSpec
section
variable {K:VK} {w:World}
theorem K_eq {a b:Value} (h:K a w) (e:b = a):K b w:=e ▸ h
theorem a5i (n:Int) (h:K (.bool (decide (okN n))) w):a0a Tryz.prog 148 #[.int .i64 n] K w:=by
 apply d4y
 unfold f3b
 have e:decide (okN n) = (decide (1 ≤ n) && decide (n < 2305843009213693952)):=by
  by_cases h1:1 ≤ n <;> by_cases h2:n < 2305843009213693952 <;> simp [okN,h1,h2]
 rw [e] at h
 by_cases h1:1 ≤ n
 ·refine Xa @h1 ?_
  simpa [h1] using h
 ·refine Xa @h1 ?_
  simpa [h1] using h
theorem a3s (n a:Int) (hn:okN n) (h:K (.int .u64 (a % n)) w):a0a Tryz.prog 151 #[.int .i64 n,.int .i64 a] K w:=by
 apply d4z
 unfold f3c
 obtain ⟨h1,h2⟩:=hn
 have e:=b9e n a (by omega)
 have h3:=Int.emod_nonneg a (b:=n) (by omega)
 have h4:=Int.emod_lt_of_pos a (b:=n) (by omega)
 obtain ⟨r,hr⟩:∃ r,r = a.tmod n:=⟨_,rfl⟩
 rw [← hr] at e
 repeat (any_goals (first
 | (with_reducible ((refine a1n ?_); refine yP (fun hg=>?_) fun hg=>?_))
 | ((with_reducible refine oG fun X Y=>?_); simp [go_sem,← hr]; (try simp (disch:=omega) only [a0u,a2y,a1r]); (first|refine Y _ _ ?_|refine And.intro (by omega) (Y _ _ ?_)); clear Y X)))
 ·rw [if_pos (by assumption)] at e; rw [e]; exact h
 ·rw [if_neg (by assumption)] at e; rw [e]; exact h
theorem c6v (x:Int) (h:0 ≤ x):∃ a:Nat,x = a:=⟨x.toNat,by omega⟩
theorem f8o (a:Nat) (ha:a < 18446744073709551616):bits .and .u64 (a:Int) 4294967295 = ((a % 4294967296:Nat):Int):=by
 rw [d0u 32 a 4294967295 (by omega) (by decide) (by omega)]; omega
theorem h2l (a:Nat):(a:Int) / 4294967296 = ((a / 4294967296:Nat):Int):=by omega
theorem h2n (a:Nat):(a:Int) % 4294967296 = ((a % 4294967296:Nat):Int):=by omega
theorem h1c (a b:Nat):(a:Int) * (b:Int) = ((a * b:Nat):Int):=(Int.natCast_mul a b).symm
theorem h2o (a b:Nat):(a:Int) + (b:Int) = ((a + b:Nat):Int):=(Int.natCast_add a b).symm
theorem c2y (a:Nat) (ha:a < 18446744073709551616):IntKind.u64.wrap (a:Int) = (a:Int):=a1r _ (by omega) (by omega)
theorem g2e (a:Nat):IntKind.u64.wrap (a:Int) = ((a % 18446744073709551616:Nat):Int):=by rw [IntKind.wrap_u64]; omega
theorem e5t (x y:Int) (hx:0 ≤ x ∧ x < 18446744073709551616) (hy:0 ≤ y ∧ y < 18446744073709551616) (h:K (.tuple #[.int .u64 (x * y / 18446744073709551616),.int .u64 (x * y % 18446744073709551616)]) w):a0a Tryz.prog 257 #[.int .u64 x,.int .u64 y] K w:=by
 apply d5a
 unfold f3d
 have mx:=d0u 32 x 4294967295 (by omega) (by decide) hx
 have my:=d0u 32 y 4294967295 (by omega) (by decide) hy
 obtain ⟨a,rfl⟩:=c6v x hx.1
 obtain ⟨b,rfl⟩:=c6v y hy.1
 refine Xa (An2 @mx @my) ?_
 clear mx my
 have hx:a < 18446744073709551616:=by omega
 have hy:b < 18446744073709551616:=by omega
 obtain ⟨bd,bt,bw,hhi⟩:=Lib.mul64_hi a b hx hy
 have ba:=Lib.half_mul_le (a:=a / 4294967296) (b:=b / 4294967296) (by omega) (by omega)
 have bb:=Lib.half_mul_le (a:=a / 4294967296) (b:=b % 4294967296) (by omega) (by omega)
 have bc:=Lib.half_mul_le (a:=a % 4294967296) (b:=b / 4294967296) (by omega) (by omega)
 have ba':a / 4294967296 * (b / 4294967296) < 18446744073709551616:=by omega
 have bb':a / 4294967296 * (b % 4294967296) < 18446744073709551616:=by omega
 have bc':a % 4294967296 * (b / 4294967296) < 18446744073709551616:=by omega
 have bh1:a / 4294967296 * (b / 4294967296) + (a / 4294967296 * (b % 4294967296) + a % 4294967296 * (b % 4294967296) / 4294967296) / 4294967296 < 18446744073709551616:=by omega
 have bh:a / 4294967296 * (b / 4294967296) + (a / 4294967296 * (b % 4294967296) + a % 4294967296 * (b % 4294967296) / 4294967296) / 4294967296 + ((a / 4294967296 * (b % 4294967296) + a % 4294967296 * (b % 4294967296) / 4294967296) % 4294967296 + a % 4294967296 * (b / 4294967296)) / 4294967296 < 18446744073709551616:=by omega
 simp only [h2n,h2l,h1c,h2o,c2y _ bd,c2y _ bb',c2y _ bt,f8o _ bt,c2y _ bc',c2y _ bw,c2y _ ba',c2y _ bh1,c2y _ bh,g2e (a * b)]
 rw [hhi]
 exact K_eq h (by simp)
def len8:ByteArray:=⟨#[0,1,2,2,3,3,3,3,4,4,4,4,4,4,4,4,5,5,5,5,5,5,5,5,5,5,5,5,5,5,5,5,6,6,6,6,6,6,6,6,6,6,6,6,6,6,6,6,6,6,6,6,6,6,6,6,6,6,6,6,6,6,6,6,7,7,7,7,7,7,7,7,7,7,7,7,7,7,7,7,7,7,7,7,7,7,7,7,7,7,7,7,7,7,7,7,7,7,7,7,7,7,7,7,7,7,7,7,7,7,7,7,7,7,7,7,7,7,7,7,7,7,7,7,7,7,7,7,8,8,8,8,8,8,8,8,8,8,8,8,8,8,8,8,8,8,8,8,8,8,8,8,8,8,8,8,8,8,8,8,8,8,8,8,8,8,8,8,8,8,8,8,8,8,8,8,8,8,8,8,8,8,8,8,8,8,8,8,8,8,8,8,8,8,8,8,8,8,8,8,8,8,8,8,8,8,8,8,8,8,8,8,8,8,8,8,8,8,8,8,8,8,8,8,8,8,8,8,8,8,8,8,8,8,8,8,8,8,8,8,8,8,8,8,8,8,8,8,8,8,8,8,8,8,8,8]⟩
theorem d4m:len8.size = 256:=by decide +kernel
theorem e5u (x:Nat) (hx:x < 256):x < 2 ^ (a5v len8 x).toNat ∧ (x ≠ 0 → 1 ≤ (a5v len8 x).toNat ∧ 2 ^ ((a5v len8 x).toNat - 1) ≤ x) ∧ (a5v len8 x).toNat ≤ 8 ∧ (x = 0 → (a5v len8 x).toNat = 0):=by
 have:∀ x,x < 256 → x < 2 ^ (a5v len8 x).toNat ∧ (x ≠ 0 → 1 ≤ (a5v len8 x).toNat ∧ 2 ^ ((a5v len8 x).toNat - 1) ≤ x) ∧ (a5v len8 x).toNat ≤ 8 ∧ (x = 0 → (a5v len8 x).toNat = 0):=by decide +kernel
 exact this x hx
theorem c0l (i:Int) (T:TypeId):oM Tryz.prog (.index 9 (.tmp 0) (.tmp 1)) T [.string len8,.int .u8 i] = onM (0 ≤ i ∧ i < 256) (.int .u8 (a5v len8 i.toNat).toNat):=by
 funext K w
 rw [a1h (S:=Instr.index 9 (.string len8) (.int .u8 i)) rfl,run_index_string (P:=Tryz.prog) (w:=w) 9 len8 .u8 i (by kernel_rfl)]
 have e:=d4m
 by_cases hi:0 ≤ i ∧ i < len8.size
 ·rw [dif_pos hi,a3p,← b4g]
  exact propext ⟨fun hk=>⟨⟨hi.1,by omega⟩,hk⟩,fun ⟨_,hk⟩=>hk⟩
 ·rw [dif_neg hi]
  obtain ⟨e',w',he⟩:=c5a Value Tryz.prog .u8 i len8.size .index w
  rw [he,a2f]
  exact propext ⟨fun h=>h.elim,fun ⟨h,_⟩=>hi ⟨h.1,by omega⟩⟩
theorem stage (x k s:Nat) (h:2 ^ s ≤ x / 2 ^ k):x / 2 ^ (k + s) = x / 2 ^ k / 2 ^ s ∧ 2 ^ (k + s) ≤ x:=by
 refine ⟨by rw [Nat.pow_add,Nat.div_div_eq_div_mul],?_⟩
 rw [Nat.pow_add,Nat.mul_comm]
 exact (Nat.le_div_iff_mul_le (Nat.pow_pos (by omega))).1 h
structure BitLen (x L:Nat):Prop where
 lt:x < 2 ^ L
 ge:x ≠ 0 → 1 ≤ L ∧ 2 ^ (L - 1) ≤ x
 le:L ≤ 64
def BlM (x B m:Nat) (w:World) (l:List Value) (w':World):Prop:=w' = w ∧ ∃ k:Nat,l = [.int .u64 ((x / 2 ^ k:Nat):Int),.int .i64 (k:Int)] ∧ x / 2 ^ k < B ∧ (k = 0 ∨ 2 ^ k ≤ x) ∧ k ≤ m
theorem e5v (x:Nat) (hx:x < 18446744073709551616) (h:∀ L,BitLen x L → K (.int .i64 (L:Nat)) w):a0a Tryz.prog 243 #[.int .u64 (x:Int)] K w:=by
 apply d5b
 unfold f3e
 rw [show (⟨#[0,1,2,2,3,3,3,3,4,4,4,4,4,4,4,4,5,5,5,5,5,5,5,5,5,5,5,5,5,5,5,5,6,6,6,6,6,6,6,6,6,6,6,6,6,6,6,6,6,6,6,6,6,6,6,6,6,6,6,6,6,6,6,6,7,7,7,7,7,7,7,7,7,7,7,7,7,7,7,7,7,7,7,7,7,7,7,7,7,7,7,7,7,7,7,7,7,7,7,7,7,7,7,7,7,7,7,7,7,7,7,7,7,7,7,7,7,7,7,7,7,7,7,7,7,7,7,7,8,8,8,8,8,8,8,8,8,8,8,8,8,8,8,8,8,8,8,8,8,8,8,8,8,8,8,8,8,8,8,8,8,8,8,8,8,8,8,8,8,8,8,8,8,8,8,8,8,8,8,8,8,8,8,8,8,8,8,8,8,8,8,8,8,8,8,8,8,8,8,8,8,8,8,8,8,8,8,8,8,8,8,8,8,8,8,8,8,8,8,8,8,8,8,8,8,8,8,8,8,8,8,8,8,8,8,8,8,8,8,8,8,8,8,8,8,8,8,8,8,8,8,8,8,8,8,8]⟩:ByteArray) = len8 from rfl]
 refine ⟨BlM x 4294967296 32 w,?_,?_⟩
 ·repeat (any_goals (first
  | (with_reducible ((refine a1n ?_); refine yP (fun hg=>?_) fun hg=>?_))
  | ((with_reducible refine oG fun X Y=>?_); simp [go_sem]; apply Y; clear Y X)))
  ·exact ⟨rfl,32,by simp,by omega,by omega,by omega⟩
  ·exact ⟨rfl,0,by simp,by simp; omega,by omega,by omega⟩
 rintro _ _ w1 ⟨e1,k,rfl,h1,h2,h3⟩
 rw [e1]
 clear e1 w1
 refine ⟨BlM x 65536 48 w,?_,?_⟩
 ·have hs:=stage x k 16
  obtain ⟨y,hy⟩:∃ y,y = x / 2 ^ k:=⟨_,rfl⟩
  rw [← hy] at hs h1 ⊢
  repeat (any_goals (first
  | (with_reducible ((refine a1n ?_); refine yP (fun hg=>?_) fun hg=>?_))
  | ((with_reducible refine oG fun X Y=>?_); simp [go_sem]; (try simp (disch:=omega) only [a0u,a2y,a1r]); apply Y; clear Y X)))
  ·have hs:=hs (by omega)
   exact ⟨rfl,k + 16,by rw [hs.1]; simp,by rw [hs.1]; omega,.inr hs.2,by omega⟩
  ·exact ⟨rfl,k,by rw [hy]; rfl,by omega,h2,by omega⟩
 clear h1 h2 h3 k
 rintro _ _ w1 ⟨e1,k,rfl,h1,h2,h3⟩
 rw [e1]
 clear e1 w1
 refine ⟨BlM x 256 56 w,?_,?_⟩
 ·have hs:=stage x k 8
  obtain ⟨y,hy⟩:∃ y,y = x / 2 ^ k:=⟨_,rfl⟩
  rw [← hy] at hs h1 ⊢
  repeat (any_goals (first
  | (with_reducible ((refine a1n ?_); refine yP (fun hg=>?_) fun hg=>?_))
  | ((with_reducible refine oG fun X Y=>?_); simp [go_sem]; (try simp (disch:=omega) only [a0u,a2y,a1r]); apply Y; clear Y X)))
  ·have hs:=hs (by omega)
   exact ⟨rfl,k + 8,by rw [hs.1]; simp,by rw [hs.1]; omega,.inr hs.2,by omega⟩
  ·exact ⟨rfl,k,by rw [hy]; rfl,by omega,h2,by omega⟩
 clear h1 h2 h3 k
 rintro _ _ w1 ⟨e1,k,rfl,h1,h2,h3⟩
 rw [e1]
 clear e1 w1
 obtain ⟨l1,l2,l3,l4⟩:=e5u (x / 2 ^ k) h1
 have hL:BitLen x (k + (a5v len8 (x / 2 ^ k)).toNat):=by
  generalize (a5v len8 (x / 2 ^ k)).toNat = L at *
  have hp:0 < 2 ^ k:=Nat.pow_pos (by omega)
  refine ⟨?_,?_,by omega⟩
  ·rw [Nat.pow_add,Nat.mul_comm]
   exact (Nat.div_lt_iff_lt_mul hp).1 l1
  ·intro h0
   by_cases hy:x / 2 ^ k = 0
   ·rw [Nat.div_eq_zero_iff] at hy
    rcases h2 with rfl | h2 <;> simp at hy <;> omega
   ·obtain ⟨a,b⟩:=l2 hy
    refine ⟨by omega,?_⟩
    rw [show k + L - 1 = k + (L - 1) by omega,Nat.pow_add,Nat.mul_comm]
    exact (Nat.le_div_iff_mul_le hp).1 b
 obtain ⟨y,hy⟩:∃ y,y = x / 2 ^ k:=⟨_,rfl⟩
 have hk:=h _ hL
 simp only [← hy] at hk h1 l3 ⊢
 refine Xa @c0l ?_
 exact K_eq hk (by simp)
def f2y (vh vl vd:Value) (M:List Value → World → Prop) (x:List Value) (w:World):Prop:=
 (e1w x w (fun J_30 m_31 l u_l w0_l=>(fun w=>(
 oM Tryz.prog (Go.Op.binOp Go.BinOp.geq 197 (.tmp 0) (.tmp 1) 197) 4 [(l.getD 0 undef),(.int .u64 4294967296)] (fun v68_33 w=>
 gdM (gd v68_33 false) (a0f (l.getD 0 undef)) (fun v70_34 w=>
 gdM (gd v68_33 false) (a0f vl) (fun v71_35 w=>
 gdM (gd v68_33 false) (oM Tryz.prog (Go.Op.binOp Go.BinOp.mul 197 (.tmp 0) (.tmp 1) 197) 197 [v70_34,v71_35]) (fun v72_36 w=>
 gdM (gd v68_33 false) (a0f (l.getD 1 undef)) (fun v73_37 w=>
 gdM (gd v68_33 false) (oM Tryz.prog (Go.Op.binOp Go.BinOp.mul 197 (.tmp 0) (.tmp 1) 197) 197 [(.int .u64 4294967296),v73_37]) (fun v74_38 w=>
 gdM (gd v68_33 false) (a0f vd) (fun v75_39 w=>
 gdM (gd v68_33 false) (oM Tryz.prog (Go.Op.binOp Go.BinOp.add 197 (.tmp 0) (.tmp 1) 197) 197 [v74_38,v75_39]) (fun v76_40 w=>
 gdM (gd v68_33 false) (oM Tryz.prog (Go.Op.binOp Go.BinOp.gtr 197 (.tmp 0) (.tmp 1) 197) 4 [v72_36,v76_40]) (fun v77_41 w=>
 oM Tryz.prog (Go.Op.pick (.tmp 0) (.tmp 1) (.tmp 2)) 4 [v68_33,(.bool true),v77_41] (fun v78_42 w=>
 a2c v78_42
 (oM Tryz.prog (Go.Op.binOp Go.BinOp.sub 197 (.tmp 0) (.tmp 1) 197) 197 [(l.getD 0 undef),(.int .u64 1)] (fun v80_43 w=>
 oM Tryz.prog (Go.Op.binOp Go.BinOp.add 197 (.tmp 0) (.tmp 1) 197) 197 [(l.getD 1 undef),vh] (fun v83_44 w=>
 oM Tryz.prog (Go.Op.binOp Go.BinOp.geq 197 (.tmp 0) (.tmp 1) 197) 4 [v83_44,(.int .u64 4294967296)] (fun v85_45 w=>
 a2c v85_45
 (M [v80_43,v83_44] w)
 (J_30 [v80_43,v83_44] w ∧ m_31 [v80_43,v83_44] w < m_31 l w0_l)) w) w) w)
 (M [(l.getD 0 undef),(l.getD 1 undef)] w)) w) w) w) w) w) w) w) w) w) w)) w0_l))
def DgJ (h l u d:Nat) (w:World) (x:List Value) (w':World):Prop:=w' = w ∧ ∃ q r:Nat,x = [.int .u64 (q:Int),.int .u64 (r:Int)] ∧ Digit h l u d q r ∧ r < 4294967296
theorem g2f (h l u d:Nat) (M:List Value → World → Prop) (hh:2147483648 ≤ h) (hh2:h < 4294967296) (hl:l < 4294967296) (hd:d < 4294967296) (hu:u < h * 4294967296 + l)
  (hM:∀ r:Nat,M [.int .u64 (((u * 4294967296 + d) / (h * 4294967296 + l):Nat):Int),.int .u64 (r:Int)] w):f2y (.int .u64 (h:Int)) (.int .u64 (l:Int)) (.int .u64 (d:Int)) M [.int .u64 ((u / h:Nat):Int),.int .u64 ((u - u / h * h:Nat):Int)] w:=by
 unfold f2y
 refine ⟨DgJ h l u d w,fun x _=>match x with | [.int _ q,_]=>q.toNat | _=>0,⟨rfl,_,_,rfl,c6w hh hh2 hl hd hu,?_⟩,?_⟩
 ·have h1:=Nat.mod_lt u (show h > 0 by omega)
  have h2:=Nat.div_add_mod u h
  rw [Nat.mul_comm] at h2
  omega
 rintro _ _ w1 ⟨e1,q,r,rfl,D,hr⟩
 rw [e1]
 clear e1 w1
 have hq:=D.le
 have ht:=b8w D
 have hbig:=fun hb:4294967296 ≤ q=>d4o hu hd hb
 have hstep:=fun hb=>d1q D hb
 have hpos:=fun hb=>c3a D hb
 have hend:=fun hb=>c3b D hb
 have hbr:∀ hb,4294967296 ≤ r + h → q - 1 = (u * 4294967296 + d) / (h * 4294967296 + l):=fun hb hg=>c3b (hstep hb) (c6x (hstep hb) hl (by omega) hg)
 have hql:q < 4294967296 → q * l < 18446744073709551616:=fun hb=>by
  have:=Nat.mul_le_mul (show q ≤ 4294967295 by omega) (show l ≤ 4294967295 by omega)
  omega
 generalize (u * 4294967296 + d) / (h * 4294967296 + l) = Q at *
 generalize (u * 4294967296 + d < q * (h * 4294967296 + l)) = T at *
 have hmul:(q:Int) * (l:Int) = ((q * l:Nat):Int):=(Int.natCast_mul q l).symm
 generalize q * l = ql at *
 have fin1:(4294967296 ≤ r + h → q - 1 = Q) → 0 < q → 4294967296 ≤ r + h → M [.int .u64 ((q:Int) - 1),.int .u64 ((r:Int) + h)] w:=fun a b c=>by
  rw [show (q:Int) - 1 = ((q - 1:Nat):Int) by omega,show (r:Int) + h = ((r + h:Nat):Int) by omega,a c]; exact hM _
 have fin2:Digit h l u d (q - 1) (r + h) → 0 < q → ¬ 4294967296 ≤ r + h → DgJ h l u d w [.int .u64 ((q:Int) - 1),.int .u64 ((r:Int) + h)] w ∧ ((q:Int) - 1).toNat < (q:Int).toNat:=fun a b c=>by
  rw [show (q:Int) - 1 = ((q - 1:Nat):Int) by omega,show (r:Int) + h = ((r + h:Nat):Int) by omega]
  exact ⟨⟨rfl,_,_,rfl,a,by omega⟩,by omega⟩
 by_cases hb:4294967296 ≤ q
 ·have hT:=hbig hb
  have hst:=hstep hT
  have hps:=hpos hT
  have hbr:=hbr hT
  repeat (any_goals (first
  | (with_reducible first|((refine a9c ?_); ((refine a6c ?_); refine zJ ?_))|refine yD ?_|((refine a1n ?_); first|refine yL ?_|refine yP (fun hg=>?_) fun hg=>?_))
  | ((with_reducible refine oG fun Kv hK=>?_); simp [go_sem,hb]; (try simp (disch:=omega) only [a0u,a2y,a1r]); apply hK; clear hK Kv)))
  ·exact fin1 hbr hps (by omega)
  ·exact fin2 hst hps (by omega)
 ·have hql:=hql (by omega)
  by_cases hT:T
  ·have hst:=hstep hT
   have hps:=hpos hT
   have hbr:=hbr hT
   have htt:=ht.2 hT
   repeat (any_goals (first
   | (with_reducible first|refine a0v ?_|((refine a9c ?_); ((refine a6c ?_); refine zI ?_))|refine yE ?_|((refine a1n ?_); first|refine yN ?_|refine yP (fun hg=>?_) fun hg=>?_))
   | ((with_reducible refine oG fun Kv hK=>?_); simp [go_sem,hb,hmul]; (try simp (disch:=omega) only [a0u,a2y,a1r]); apply hK; clear hK Kv)))
   ·exact fin1 hbr hps (by omega)
   ·exact fin2 hst hps (by omega)
  ·have he:=hend hT
   have htt:¬ _:=fun h=>hT (ht.1 h)
   refine Xg (An2 @hb @hmul) ?_
   simp only [List.getD_cons_zero,List.getD_cons_succ]
   rw [he]
   exact hM _
theorem d4n (x:Nat) (hx:x < 18446744073709551616) (h:∀ L,BitLen x L → K (.int .i64 (64 - (L:Int))) w):a0a Tryz.prog 309 #[.int .u64 (x:Int)] K w:=by
 apply d5c
 unfold f3f
 refine e5v x hx ?_
 intro L hL
 have:=hL.le
 refine Xc0 ?_
 exact h L hL
theorem e5w (y L:Nat) (hy:0 < y) (hL:BitLen y L):9223372036854775808 ≤ y * 2 ^ (64 - L) ∧ y * 2 ^ (64 - L) < 18446744073709551616:=by
 obtain ⟨a,b⟩:=hL.ge (by omega)
 have h64:=hL.le
 have h1:2 ^ (L - 1) * 2 ^ (64 - L) = 9223372036854775808:=by
  rw [← Nat.pow_add,show L - 1 + (64 - L) = 63 by omega]
 have h2:2 ^ L * 2 ^ (64 - L) = 18446744073709551616:=by
  rw [← Nat.pow_add,show L + (64 - L) = 64 by omega]
 have hp:0 < 2 ^ (64 - L):=Nat.pow_pos (by omega)
 exact ⟨by rw [← h1]; exact Nat.mul_le_mul_right _ b,by rw [← h2]; exact (Nat.mul_lt_mul_right hp).2 hL.lt⟩
theorem e5x (hi lo s:Nat) (hs:s ≤ 64) (hlo:lo < 18446744073709551616):(hi * 2 ^ s + lo / 2 ^ (64 - s)) * 18446744073709551616 + lo * 2 ^ s % 18446744073709551616 = (hi * 18446744073709551616 + lo) * 2 ^ s ∧ lo / 2 ^ (64 - s) < 2 ^ s:=by
 have h2:2 ^ (64 - s) * 2 ^ s = 18446744073709551616:=by rw [← Nat.pow_add,show 64 - s + s = 64 by omega]
 have hp:0 < 2 ^ s:=Nat.pow_pos (by omega)
 have hq:0 < 2 ^ (64 - s):=Nat.pow_pos (by omega)
 have h3:lo * 2 ^ s / 18446744073709551616 = lo / 2 ^ (64 - s):=by
  rw [← h2,Nat.mul_div_mul_right _ _ hp]
 have h4:=Nat.div_add_mod (lo * 2 ^ s) 18446744073709551616
 refine ⟨?_,?_⟩
 ·rw [h3] at h4
  rw [Nat.add_mul,Nat.add_mul,Nat.mul_right_comm hi,Nat.add_assoc,Nat.mul_comm (lo / _) 18446744073709551616,h4]
 ·rw [Nat.div_lt_iff_lt_mul hq,Nat.mul_comm,h2]; exact hlo
def EqW (w:World) (l:List Value) (w':World):Prop:=w' = w
def DgE (Q:Nat) (w:World) (l:List Value) (w':World):Prop:=w' = w ∧ ∃ r:Nat,l = [.int .u64 (Q:Int),.int .u64 (r:Int)]
theorem c2z (X d Y Q U:Nat) (hs:Q * Y + U = X * 4294967296 + d) (hU:U < 18446744073709551616):IntKind.u64.wrap (IntKind.u64.wrap (IntKind.u64.wrap ((X:Int) * 4294967296) + (d:Int)) - IntKind.u64.wrap ((Q:Int) * (Y:Int))) = (U:Int):=by
 have hm:(Q:Int) * (Y:Int) = ((Q * Y:Nat):Int):=(Int.natCast_mul Q Y).symm
 rw [hm]
 generalize Q * Y = P at *
 simp only [IntKind.wrap_u64]
 omega
theorem c9k (X h:Nat) (hX:X < 18446744073709551616) (hh:2147483648 ≤ h):∃ q p r:Nat,X / h = q ∧ q * h = p ∧ X - p = r ∧ p ≤ X ∧ q < 18446744073709551616 ∧ (X:Int).tdiv (h:Int) = (q:Int) ∧ (q:Int) * (h:Int) = (p:Int) ∧ (X:Int) - (p:Int) = (r:Int):=by
 have h1:=Nat.div_mul_le_self X h
 have h2:=Nat.div_le_self X h
 refine ⟨_,_,_,rfl,rfl,rfl,h1,by omega,?_,(Int.natCast_mul _ _).symm,by omega⟩
 rw [Int.tdiv_eq_ediv_of_nonneg (by omega)]; rfl
set_option maxHeartbeats 1000000 in
theorem e5y (hi lo y:Nat) (hlt:hi < y) (hy:y < 18446744073709551616) (hlo:lo < 18446744073709551616) (k:∀ (q:Int) w',Bw w w' → K (.tuple #[.int .u64 q,.int .u64 (((hi * 18446744073709551616 + lo) % y:Nat):Int)]) w'):a0a Tryz.prog 294 #[.int .u64 (hi:Int),.int .u64 (lo:Int),.int .u64 (y:Int)] K w:=by
 apply d5d
 unfold f3g
 refine ⟨EqW w,?_,?_⟩
 ·refine Xc0 ?_
  exact rfl
 rintro _ _ w1 e1
 rw [show w1 = w from e1]
 clear e1 w1
 refine ⟨EqW w,?_,?_⟩
 ·refine Xc0 ?_
  exact rfl
 rintro _ _ w1 e1
 rw [show w1 = w from e1]
 clear e1 w1
 by_cases h0:hi = 0
 ·subst h0
  have k0:=k ((lo / y:Nat):Int) _ (Below.drew (Below.refl _ w))
  have t1:((lo:Int).tdiv (y:Int)) = ((lo / y:Nat):Int):=by rw [Int.tdiv_eq_ediv_of_nonneg (by omega)]; rfl
  have t2:((lo:Int).tmod (y:Int)) = ((lo % y:Nat):Int):=by rw [Int.tmod_eq_emod_of_nonneg (by omega)]; rfl
  have t3:=Nat.div_le_self lo y
  simp only [Nat.zero_mul,Nat.zero_add] at k0
  generalize lo / y = a at *
  generalize lo % y = b at *
  refine Xg (An2 @t1 @t2) ?_
  refine b4i ?_
  refine Xg (An2 @t1 @t2) ?_
  exact k0
 obtain ⟨s,hs⟩:∃ s,s = 64:=⟨_,rfl⟩
 refine Xc0 ?_
 refine d4n y hy ?_
 intro L hL
 clear s hs
 have hn:=e5w y L (by omega) hL
 have hL64:=hL.le
 obtain ⟨s,hs⟩:∃ s,s = 64 - L:=⟨_,rfl⟩
 rw [← hs] at hn
 have hs64:s ≤ 64:=by omega
 obtain ⟨hN,hB⟩:=e5x hi lo s hs64 hlo
 have hres:=d4q hi lo y s _ _ hN
 have hAB:hi * 2 ^ s + lo / 2 ^ (64 - s) < y * 2 ^ s:=by
  have:=Nat.mul_le_mul_right (2 ^ s) (show hi + 1 ≤ y by omega)
  rw [Nat.add_mul,Nat.one_mul] at this
  omega
 have hsub:(64:Int) - (L:Int) = (s:Int):=by omega
 have hpow:∀ a:Nat,(a:Int) * 2 ^ s = ((a * 2 ^ s:Nat):Int):=fun a=>by rw [Int.natCast_mul,Int.natCast_pow]; rfl
 have hdiv:∀ a:Nat,(a:Int) / 2 ^ (64 - s) = ((a / 2 ^ (64 - s):Nat):Int):=fun a=>by rw [Int.natCast_ediv,Int.natCast_pow]; rfl
 have hBi:((lo / 2 ^ (64 - s):Nat):Int) < 2 ^ s:=by
  have:=Int.ofNat_lt.2 hB
  rw [Int.natCast_pow] at this
  exact this
 have hor:=f0u s (hi:Int) ((lo / 2 ^ (64 - s):Nat):Int) hs64 (Int.natCast_nonneg _) ⟨Int.natCast_nonneg _,hBi⟩
 have hD:lo * 2 ^ s % 18446744073709551616 < 18446744073709551616:=Nat.mod_lt _ (by omega)
 have hDi:((lo * 2 ^ s:Nat):Int) % 18446744073709551616 = ((lo * 2 ^ s % 18446744073709551616:Nat):Int):=by rw [Int.natCast_emod]; rfl
 have hsub2:((64:Int) - (s:Int)).toNat = 64 - s:=by omega
 rw [hpow] at hor
 clear hN hB hBi hL
 generalize lo * 2 ^ s % 18446744073709551616 = D at *
 generalize hlo2:lo * 2 ^ s = lo2 at *
 generalize hA:hi * 2 ^ s = A at *
 generalize hB:lo / 2 ^ (64 - s) = B at *
 generalize hY:y * 2 ^ s = Y at *
 have hor:=hor (by omega)
 have hAm:(A:Int) % 18446744073709551616 = (A:Int):=by omega
 have hYm:(Y:Int) % 18446744073709551616 = (Y:Int):=by omega
 have hpa:=hpow hi
 have hpl:=hpow lo
 have hpy:=hpow y
 have hdl:=hdiv lo
 rw [hA] at hpa
 rw [hlo2] at hpl
 rw [hY] at hpy
 rw [hB] at hdl
 rw [hsub]
 obtain ⟨t,ht⟩:∃ t,t = 64 - s:=⟨_,rfl⟩
 have ht2:(64:Int) - (s:Int) = (t:Int):=by omega
 rw [← ht] at hdl
 have rl:=fun x=>f0t (P:=Tryz.prog) 197 222 197 .u64 x (s:Int) (by omega) (by omega)
 have rr:=fun x=>c1h (P:=Tryz.prog) 197 222 197 .u64 x (s:Int) (by omega) (by omega)
 have rt:=fun x=>c1h (P:=Tryz.prog) 197 222 197 .u64 x (t:Int) (by omega) (by omega)
 simp only [Int.toNat_natCast] at rl rr rt
 obtain ⟨h,hh⟩:∃ h,h = Y / 4294967296:=⟨_,rfl⟩
 obtain ⟨l,hl⟩:∃ l,l = Y % 4294967296:=⟨_,rfl⟩
 obtain ⟨d1,hd1⟩:∃ d1,d1 = D / 4294967296:=⟨_,rfl⟩
 obtain ⟨d0,hd0⟩:∃ d0,d0 = D % 4294967296:=⟨_,rfl⟩
 obtain ⟨X,hX⟩:∃ X,X = A + B:=⟨_,rfl⟩
 have hhi:(Y:Int) / 4294967296 = (h:Int):=by omega
 have hli:bits .and .u64 (Y:Int) 4294967295 = (l:Int):=by rw [f8o Y (by omega),← hl]
 have hd1i:(D:Int) / 4294967296 = (d1:Int):=by omega
 have hd0i:bits .and .u64 (D:Int) 4294967295 = (d0:Int):=by rw [f8o D (by omega),← hd0]
 have hXi:(A:Int) + (B:Int) = (X:Int):=by omega
 have hhl:h * 4294967296 + l = Y:=by omega
 rw [← hX,← hd1,← hd0] at hres
 obtain ⟨q1,p1,r1,e1,e2,e3,e4,e5,e6,e7,e8⟩:=c9k X h (by omega) (by omega)
 obtain ⟨Q,hQ⟩:∃ Q,Q = (X * 4294967296 + d1) / Y:=⟨_,rfl⟩
 obtain ⟨U,hU⟩:∃ U,U = (X * 4294967296 + d1) % Y:=⟨_,rfl⟩
 have hUY:U < Y:=by rw [hU]; exact Nat.mod_lt _ (by omega)
 have dg:=g2f (w:=w) h l X d1 (DgE Q w) (by omega) (by omega) (by omega) (by omega) (by omega) (fun r=>⟨rfl,r,by rw [hhl,← hQ]⟩)
 have lw:=c2z X d1 Y Q U (by rw [hQ,hU]; exact Nat.div_add_mod' _ _) (by omega)
 obtain ⟨q2,p2,r2,f1,f2,f3,f4,f5,f6,f7,f8⟩:=c9k U h (by omega) (by omega)
 obtain ⟨Q2,hQ2⟩:∃ Q2,Q2 = (U * 4294967296 + d0) / Y:=⟨_,rfl⟩
 obtain ⟨R,hR⟩:∃ R,R = (U * 4294967296 + d0) % Y:=⟨_,rfl⟩
 have hRY:R < Y:=by rw [hR]; exact Nat.mod_lt _ (by omega)
 have dg2:=g2f (w:=w) h l U d0 (DgE Q2 w) (by omega) (by omega) (by omega) (by omega) (by omega) (fun r=>⟨rfl,r,by rw [hhl,← hQ2]⟩)
 have lw2:=c2z U d0 Y Q2 R (by rw [hQ2,hR]; exact Nat.div_add_mod' _ _) (by omega)
 rw [← hU,← hR] at hres
 rw [e1,e2,e3] at dg
 rw [f1,f2,f3] at dg2
 have hRi:(R:Int) / 2 ^ s = ((R / 2 ^ s:Nat):Int):=by rw [Int.natCast_ediv,Int.natCast_pow]; rfl
 rw [hres] at hRi
 clear hres hR hU hQ hQ2 e1 e2 e3 f1 f2 f3 hh hl hd1 hd0 hX
 refine Xg (h3e @rl @rr @rt @ht2 @hpa @hpl @hpy @hdl @hor @hAm @hYm @hDi @hXi @hhi @hli @hd1i @hd0i @e6 @e7 @e8) ?_
 refine ⟨DgE Q w,dg,?_⟩
 rintro _ _ w1 ⟨e1,r,rfl⟩
 rw [e1]
 clear e1 w1
 refine Xg (An7 @rl @rr @rt @lw @f6 @f7 @f8) ?_
 refine ⟨DgE Q2 w,dg2,?_⟩
 rintro _ _ w1 ⟨e1,r',rfl⟩
 rw [e1]
 clear e1 w1
 refine Xg (An5 @rl @rr @rt @lw2 @hRi) ?_
 exact k _ _ (bR)
theorem e5z (hi lo y:Nat) (hhi:hi < 18446744073709551616) (hy0:0 < y) (hy:y < 18446744073709551616) (hlo:lo < 18446744073709551616) (k:∀ w',Bw w w' → K (.int .u64 (((hi * 18446744073709551616 + lo) % y:Nat):Int)) w'):a0a Tryz.prog 258 #[.int .u64 (hi:Int),.int .u64 (lo:Int),.int .u64 (y:Int)] K w:=by
 apply d5e
 unfold f3h
 have e1:(hi:Int).tmod (y:Int) = ((hi % y:Nat):Int):=by rw [Int.tmod_eq_emod_of_nonneg (by omega)]; rfl
 have e2:(hi % y * 18446744073709551616 + lo) % y = (hi * 18446744073709551616 + lo) % y:=by
  rw [Nat.add_mod,Nat.mul_mod,Nat.mod_mod,← Nat.mul_mod,← Nat.add_mod]
 have hlt:=Nat.mod_lt hi hy0
 rw [← e2] at k
 generalize hi % y = r at *
 refine Xa @e1 ?_
 refine e5y r lo y hlt hy hlo ?_
 intro q w1 hb
 refine Xa0 ?_
 exact k _ hb
theorem b1e (n a b:Int) (hn:okN n) (ha:0 ≤ a ∧ a < n) (hb:0 ≤ b ∧ b < n) (k:∀ w',Bw w w' → K (.int .u64 (a * b % n)) w'):a0a Tryz.prog 207 #[.int .i64 n,.int .u64 a,.int .u64 b] K w:=by
 apply d5f
 unfold f3i
 obtain ⟨h1,h2⟩:=hn
 refine Xa0 ?_
 refine e5t a b ⟨ha.1,by omega⟩ ⟨hb.1,by omega⟩ ?_
 obtain ⟨a,rfl⟩:=c6v a ha.1
 obtain ⟨b,rfl⟩:=c6v b hb.1
 obtain ⟨n,rfl⟩:=c6v n (by omega)
 rw [h1c]
 have hab:a * b < 18446744073709551616 * 18446744073709551616:=Nat.mul_lt_mul'' (by omega) (by omega)
 have e1:((a * b:Nat):Int) / 18446744073709551616 = ((a * b / 18446744073709551616:Nat):Int):=by omega
 have e2:((a * b:Nat):Int) % 18446744073709551616 = ((a * b % 18446744073709551616:Nat):Int):=by omega
 have e3:((a * b % n:Nat):Int) = (a:Int) * (b:Int) % (n:Int):=by rw [Int.natCast_emod,Int.natCast_mul]
 rw [e1,e2]
 have h5:a * b / 18446744073709551616 * 18446744073709551616 + a * b % 18446744073709551616 = a * b:=Nat.div_add_mod' _ _
 have h3:a * b / 18446744073709551616 < 18446744073709551616:=by omega
 have h4:a * b % 18446744073709551616 < 18446744073709551616:=by omega
 rw [← e3,← h5] at k
 generalize a * b / 18446744073709551616 = hi at *
 generalize a * b % 18446744073709551616 = lo at *
 refine Xa0 ?_
 exact e5z hi lo n h3 (by omega) (by omega) h4 k
def PwJ (n R:Int) (w:World) (l:List Value) (w':World):Prop:=Bw w w' ∧ ∃ (out a:Int) (b:Nat),l = [.int .u64 out,.int .u64 a,.int .u64 (b:Int)] ∧ (0 ≤ out ∧ out < n) ∧ (0 ≤ a ∧ a < n) ∧ b < 18446744073709551616 ∧ out * a ^ b % n = R
def PwM (n R a:Int) (b:Nat) (w:World) (l:List Value) (w':World):Prop:=Bw w w' ∧ ∃ out:Int,l = [.int .u64 out] ∧ (0 ≤ out ∧ out < n) ∧ out * (a * a % n) ^ (b / 2) % n = R
def h1d (l:List Value) (_:World):Nat:=match l with | [_,_,.int _ b]=>b.toNat | _=>0
theorem f8q (x y:Value) (k:IntKind) (b:Int) (w:World):h1d [x,y,.int k b] w = b.toNat:=rfl
theorem b5i (n a:Int) (b:Nat) (hn:okN n) (ha:0 ≤ a ∧ a < n) (hb:b < 18446744073709551616) (k:∀ w',Bw w w' → K (.int .u64 (pw n a b)) w'):a0a Tryz.prog 150 #[.int .i64 n,.int .u64 a,.int .u64 (b:Int)] K w:=by
 apply d5g
 unfold f3j
 have hn':=hn
 obtain ⟨h1,h2⟩:=hn
 have e1:(1:Int).tmod n = 1 % n:=Int.tmod_eq_emod_of_nonneg (by omega)
 have e2:=Int.emod_nonneg 1 (b:=n) (by omega)
 have e3:=Int.emod_lt_of_pos 1 (b:=n) (by omega)
 have e4:1 % n * a ^ b % n = pw n a b:=by
  rw [Int.mul_emod,Int.emod_emod_of_dvd _ (Int.dvd_refl n),← Int.mul_emod,Int.one_mul]; rfl
 generalize 1 % n = o at *
 refine Xa @e1 ?_
 refine ⟨PwJ n (pw n a b) w,h1d,⟨bR,o,a,b,rfl,⟨e2,e3⟩,ha,hb,e4⟩,?_⟩
 generalize hR:pw n a b = R at *
 clear e1 e2 e3 e4 o hb ha
 rintro _ _ w1 ⟨hb1,out,x,c,rfl,ho,hx,hc,hinv⟩
 have hz:=hb1.size
 by_cases h0:c = 0
 ·subst h0
  rw [Int.pow_zero,Int.mul_one,Int.emod_eq_of_lt ho.1 ho.2] at hinv
  refine Xa0 ?_
  rw [hinv]
  exact k _ hb1
 ·have hm:bits .and .u64 (c:Int) 1 = ((c % 2:Nat):Int):=by
   rw [d0u 1 c 1 (by omega) (by decide) (by omega)]; omega
  have hsh:(c:Int) / 2 = ((c / 2:Nat):Int):=by omega
  have h1:=d4v n x out c
  have h3:=f3a n x out c
  obtain ⟨m,hm2⟩:∃ m,m = c % 2:=⟨_,rfl⟩
  rw [← hm2] at hm h1 h3
  obtain ⟨d,hd⟩:∃ d,d = c / 2:=⟨_,rfl⟩
  rw [← hd] at hsh h1 h3
  refine Xa0 ?_
  refine ⟨PwM n R x c w,?_,?_⟩
  ·repeat (any_goals (first
   | (with_reducible ((refine a1n ?_); refine yP (fun hg=>?_) fun hg=>?_))
   | ((with_reducible refine oG fun X Y=>?_); simp [go_sem,hm]; apply Y; clear Y X)))
   ·refine b1e n out x hn' ho hx ?_
    intro w2 hb2
    skip
    refine ⟨hb1.trans (hb2.mono hz),_,rfl,⟨Int.emod_nonneg _ (by omega),Int.emod_lt_of_pos _ (by omega)⟩,?_⟩
    rw [← hd,h3 (by omega)]; exact hinv
   ·refine ⟨hb1,_,rfl,ho,?_⟩
    rw [← hd,h1 (by omega)]; exact hinv
  ·rintro _ _ w2 ⟨hb2,out',rfl,ho',hi'⟩
   have hz2:=hb2.size
   refine b1e n x x hn' hx hx ?_
   intro w3 hb3
   refine Xa @hsh ?_
   refine ⟨⟨hb2.trans (hb3.mono hz2),_,_,_,rfl,ho',⟨Int.emod_nonneg _ (by omega),Int.emod_lt_of_pos _ (by omega)⟩,by omega,by rw [hd]; exact hi'⟩,?_⟩
   simp only [f8q]
   omega
theorem g2g (n a b:Int) (h:K (.int .i64 (d4x n a b)) w):a0a Tryz.prog 281 #[.int .i64 n,.int .i64 a,.int .i64 b] K w:=by
 apply d5h
 unfold f3k
 refine a5i n ?_
 by_cases hn:okN n
 ·have hn':=hn
  obtain ⟨h1,h2⟩:=hn'
  have ha:=Int.emod_nonneg a (b:=n) (by omega)
  have ha2:=Int.emod_lt_of_pos a (b:=n) (by omega)
  have hb:=Int.emod_nonneg b (b:=n) (by omega)
  have hb2:=Int.emod_lt_of_pos b (b:=n) (by omega)
  have e:=f8w n a b hn
  have e2:=b9d n a b hn
  have e1:(a % n + b % n).tmod n = (a % n + b % n) % n:=Int.tmod_eq_emod_of_nonneg (by omega)
  rw [e] at e1
  refine Xa @hn ?_
  refine a3s n a hn ?_
  refine a3s n b hn ?_
  generalize a % n = x at *
  generalize b % n = y at *
  generalize d4x n a b = z at *
  refine Xa @e1 ?_
  exact h
 ·rw [d4x,if_neg hn] at h
  refine Xa @hn ?_
  exact h
theorem g2h (n a b:Int) (h:K (.int .i64 (d1t n a b)) w):a0a Tryz.prog 293 #[.int .i64 n,.int .i64 a,.int .i64 b] K w:=by
 apply d5i
 unfold f3l
 refine a5i n ?_
 by_cases hn:okN n
 ·have hn':=hn
  obtain ⟨h1,h2⟩:=hn'
  have ha:=Int.emod_nonneg a (b:=n) (by omega)
  have ha2:=Int.emod_lt_of_pos a (b:=n) (by omega)
  have hb:=Int.emod_nonneg b (b:=n) (by omega)
  have hb2:=Int.emod_lt_of_pos b (b:=n) (by omega)
  have e:=f8x n a b hn
  have e2:=b9c n a b hn
  have e1:(a % n + n - b % n).tmod n = (a % n + n - b % n) % n:=Int.tmod_eq_emod_of_nonneg (by omega)
  rw [e] at e1
  refine Xa @hn ?_
  refine a3s n a hn ?_
  refine Xa0 ?_
  refine a3s n b hn ?_
  generalize a % n = x at *
  generalize b % n = y at *
  generalize d1t n a b = z at *
  refine Xa @e1 ?_
  exact h
 ·rw [d1t,if_neg hn] at h
  refine Xa @hn ?_
  exact h
theorem d4r (n a b:Int) (k:∀ w',Bw w w' → K (.int .i64 (b8f n a b)) w'):a0a Tryz.prog 149 #[.int .i64 n,.int .i64 a,.int .i64 b] K w:=by
 apply d5j
 unfold f3m
 refine a5i n ?_
 by_cases hn:okN n
 ·have hn':=hn
  obtain ⟨h1,h2⟩:=hn'
  have ha:=Int.emod_nonneg a (b:=n) (by omega)
  have ha2:=Int.emod_lt_of_pos a (b:=n) (by omega)
  have hb:=Int.emod_nonneg b (b:=n) (by omega)
  have hb2:=Int.emod_lt_of_pos b (b:=n) (by omega)
  have e:=d4w n a b hn
  have e2:=b9b n a b hn
  refine Xa @hn ?_
  refine a3s n a hn ?_
  refine a3s n b hn ?_
  refine b1e n _ _ hn ⟨ha,ha2⟩ ⟨hb,hb2⟩ ?_
  intro w1 hb1
  rw [e]
  have k:=k w1 hb1
  generalize b8f n a b = z at *
  refine Xa0 ?_
  exact k
 ·rw [b8f,if_neg hn] at k
  refine Xa @hn ?_
  exact k _ (bR)
def InJ (n:Int) (E:Int × Int) (w:World) (l:List Value) (w':World):Prop:=Bw w w' ∧ ∃ (v:Value) (r s x y:Int),l = [v,.int .i64 r,.int .i64 s,.int .i64 x,.int .i64 y] ∧ (0 ≤ s ∧ s < n) ∧ (0 ≤ r ∧ r ≤ n) ∧ (0 ≤ x ∧ x < 2305843009213693952) ∧ (0 ≤ y ∧ y < 2305843009213693952) ∧ b0m n r s x y = E
def h1f (l:List Value) (_:World):Nat:=match l with | [_,_,.int _ s,_,_]=>s.toNat | _=>0
theorem f8r (v r x y:Value) (k:IntKind) (s:Int) (w:World):h1f [v,r,.int k s,x,y] w = s.toNat:=rfl
theorem c6y (n r x y:Int):b0m n r 0 x y = (r,x):=e6d n _ r x y
theorem g2i (n a:Int) (k:∀ w',Bw w w' → K (.tuple #[.int .i64 ((f8y n a).getD 0),.bool (f8y n a).isSome]) w'):a0a Tryz.prog 256 #[.int .i64 n,.int .i64 a] K w:=by
 apply d5k
 unfold f3n
 refine a5i n ?_
 by_cases hn:okN n
 ·have hn':=hn
  obtain ⟨h1,h2⟩:=hn'
  have ha:=Int.emod_nonneg a (b:=n) (by omega)
  have ha2:=Int.emod_lt_of_pos a (b:=n) (by omega)
  have kk:∀ r x w',(r,x) = b0m n n (a % n) 0 1 → Bw w w' → K (.tuple #[.int .i64 (if r = 1 then x % n else 0),.bool (decide (r = 1))]) w':=fun r x w' e hb=>by
   have k:=k w' hb
   unfold f8y at k
   rw [if_pos hn,← e] at k
   by_cases hr:r = 1
   ·simpa [hr] using k
   ·simpa [hr] using k
  clear k
  refine Xa @hn ?_
  refine a3s n a hn ?_
  generalize a % n = s0 at *
  generalize hE:b0m n n s0 0 1 = E at *
  refine Xa0 ?_
  refine ⟨InJ n E w,h1f,⟨bR,_,n,s0,0,1,rfl,⟨ha,ha2⟩,⟨by omega,by omega⟩,⟨by omega,by omega⟩,⟨by omega,by omega⟩,hE⟩,?_⟩
  clear hE ha ha2 s0
  rintro _ _ w1 ⟨hb1,v,r,s,x,y,rfl,hs,hr,hx,hy,he⟩
  have hz:=hb1.size
  by_cases h0:s = 0
  ·subst h0
   rw [c6y] at he
   have kk:=kk r x w1 he hb1
   have e1:x.tmod n = x % n:=Int.tmod_eq_emod_of_nonneg hx.1
   by_cases hr1:r = 1
   ·simp only [hr1] at kk
    refine Xa (An2 @hr1 @e1) ?_
    simpa using kk
   ·simp only [hr1] at kk
    refine Xa @hr1 ?_
    simpa using kk
  ·rw [e6f n r s x y (by omega)] at he
   have q1:r.tdiv s = r / s:=Int.tdiv_eq_ediv_of_nonneg hr.1
   have q2:=Int.emod_add_mul_ediv r s
   have q3:=Int.emod_nonneg r (b:=s) (by omega)
   have q4:=Int.emod_lt_of_pos r (b:=s) (by omega)
   have q5:0 ≤ r / s:=Int.ediv_nonneg hr.1 hs.1
   have q6:r / s ≤ r:=Int.ediv_le_self _ hr.1
   have q7:r / s * s = r - r % s:=by rw [Int.mul_comm]; omega
   have m1:=b9b n (r / s) y hn
   have m2:=b9c n x (b8f n (r / s) y) hn
   generalize r % s = t at *
   generalize r / s = q at *
   clear q2
   have q8:r - (r - t) = t:=by omega
   refine Xa (An3 @q1 @q7 @q8) ?_
   refine d4r n q y (fun w2 hb2=>?_)
   refine g2h n x _ ?_
   generalize d1t n x (b8f n q y) = z at *
   refine Xa0 ?_
   refine ⟨⟨hb1.trans (hb2.mono hz),_,s,t,y,z,rfl,⟨q3,by omega⟩,⟨hs.1,by omega⟩,hy,⟨m2.1,by omega⟩,he⟩,?_⟩
   simp only [f8r]
   omega
 ·have k:=k _ (bR)
  unfold f8y at k
  rw [if_neg hn] at k
  refine Xa @hn ?_
  exact k
theorem f2z (n a b:Int) (hbr:-9223372036854775808 ≤ b ∧ b < 9223372036854775808) (k:∀ w',Bw w w' → K (.int .i64 (g1r n a b)) w'):a0a Tryz.prog 204 #[.int .i64 n,.int .i64 a,.int .i64 b] K w:=by
 apply d5l
 unfold f3o
 refine a5i n ?_
 unfold g1r at k
 by_cases hn:okN n
 ·have hn':=hn
  obtain ⟨h1,h2⟩:=hn'
  rw [if_pos hn] at k
  by_cases h0:0 ≤ b
  ·rw [if_pos h0] at k
   have ha:=Int.emod_nonneg a (b:=n) (by omega)
   have ha2:=Int.emod_lt_of_pos a (b:=n) (by omega)
   obtain ⟨c,rfl⟩:=c6v b h0
   rw [Int.toNat_natCast,← c7a] at k
   refine Xa @hn ?_
   refine a3s n a hn ?_
   generalize a % n = x at *
   refine Xa0 ?_
   refine b5i n x c hn ⟨ha,ha2⟩ (by omega) (fun w1 hb1=>?_)
   have hr:=b0l n x c (by omega)
   have k:=k w1 hb1
   generalize pw n x c = z at *
   refine Xa0 ?_
   exact k
  ·rw [if_neg h0] at k
   refine Xa @hn ?_
   refine g2i n a (fun w1 hb1=>?_)
   have hz:=hb1.size
   cases hi:f8y n a with
   | none=>
    rw [hi] at k
    have k:=k w1 hb1
    refine Xa0 ?_
    exact k
   | some x=>
    rw [hi] at k
    have hx:0 ≤ x ∧ x < n:=by
     unfold f8y at hi
     rw [if_pos hn] at hi
     split at hi
     ·cases hi; exact ⟨Int.emod_nonneg _ (by omega),Int.emod_lt_of_pos _ (by omega)⟩
     ·cases hi
    obtain ⟨c,hc⟩:=c6v (-b) (by omega)
    rw [hc,Int.toNat_natCast] at k
    have hw:IntKind.u64.wrap (-(IntKind.u64.wrap b)) = (c:Int):=by
     simp only [IntKind.wrap_u64]; omega
    have hw2:b % 18446744073709551616 = b + 18446744073709551616:=by omega
    simp only [Option.getD_some,Option.isSome_some]
    refine Xa @hw ?_
    refine b5i n x c hn hx (by omega) (fun w2 hb2=>?_)
    have hr:=b0l n x c (by omega)
    have k:K (.int .i64 (pw n x c)) w2:=k w2 (hb1.trans (hb2.mono hz))
    generalize pw n x c = z at *
    refine Xa0 ?_
    exact k
 ·rw [if_neg hn] at k
  refine Xa @hn ?_
  exact k _ (bR)
def DbT (w:World):Prop:=4 < w.heap.size ∧ ∀ j,j < 64 → w.cell? ⟨4,j,none⟩ = some (.int .u8 (Lib.deBruijn64tab.getD j 0:Nat))
theorem DbT.below {w w':World} {B:Nat} (h:DbT w) (hb:Below B w w') (hB:w.heap.size ≤ B):DbT w':=
 ⟨lL h.1 hb.size,fun j hj=>by rw [hb.cell (show 4 < B from lL h.1 hB)]; exact h.2 j hj⟩
theorem g2j (k m:Nat):tz k m = Lib.ctzFrom k m:=by
 induction k generalizing m with
 | zero=>rfl
 | succ k ih=>
  unfold tz Lib.ctzFrom
  rw [ih]
  by_cases h:m % 2 = 0
  ·rw [if_pos h,if_neg (by omega),Nat.add_comm]
  ·rw [if_neg h,if_pos (by omega)]
theorem g2k (q:Nat):IntKind.u64.wrap ((q:Int) * 285870213051353865) / 288230376151711744 = ((q * 285870213051353865 % 18446744073709551616 / 288230376151711744:Nat):Int):=by
 rw [IntKind.wrap_u64]; omega
theorem f8s {j:Nat} (hj:j < 64) (w:World):(Instr.indexAt 332 (.pointer (some ⟨4,0,none⟩)) (.int .u64 j)).run Tryz.prog w = .ok (.pointer (some ⟨4,j,none⟩)) w:=by
 rw [run_indexAt_array (h:=by kernel_rfl)]
 have hs:(sizeOf (Tryz.prog.elem 332)).run Tryz.prog w = .ok 1 w:=by kernel_rfl
 have hl:Tryz.prog.arrayLen 332 = 64:=by kernel_rfl
 rw [hl,if_pos (by omega),hs]
 simp only [Result.andThen,Int.toNat_natCast,a4n,Nat.zero_add,Nat.mul_one]
theorem f8t (x:Nat) (hx0:0 < x) (hx:x < 18446744073709551616) (hT:DbT w) (h:K (.int .i64 (tz 64 x:Nat)) w):a0a Tryz.prog 292 #[.int .u64 (x:Int)] K w:=by
 apply d5m
 unfold f3p
 obtain ⟨hlow,hk⟩:=Lib.lowest_bit 64 x (by omega) (by omega)
 obtain ⟨hi,htab⟩:=Lib.deBruijn64_at _ hk
 have e0:Lib.ctz 64 x = tz 64 x:=by rw [g2j,Lib.ctz,if_neg (by omega)]
 rw [e0] at hlow htab hi
 have e1:IntKind.u64.wrap (-(x:Int)) = ((18446744073709551616 - x:Nat):Int):=by rw [IntKind.wrap_u64]; omega
 have e2:bits .and .u64 (x:Int) ((18446744073709551616 - x:Nat):Int) = ((2 ^ tz 64 x:Nat):Int):=by
  rw [b9u _ _ (by omega) (by omega),Int.toNat_natCast,Int.toNat_natCast]
  exact congrArg _ hlow
 have e3:=g2k (2 ^ tz 64 x)
 have hc:=hT.2 _ hi
 rw [htab] at hc
 have hix:=f8s hi w
 generalize 2 ^ tz 64 x * 285870213051353865 % 18446744073709551616 / 288230376151711744 = j at *
 generalize (2 ^ tz 64 x:Nat) = q at *
 have hk2:tz 64 x < 64:=by rw [← e0]; exact hk
 generalize tz 64 x = t at *
 repeat (any_goals (first
 | (rw [kI,a2b,hix,c8l])
 | (with_reducible refine yO ?_)
 | ((with_reducible refine oG fun X Y=>?_); simp [go_sem,e1,e2,e3,hc]; (try simp (disch:=omega) only [a0u,a2y,a1r]); apply Y; clear Y X)))
 exact h
def WiJ (n:Int) (k:Nat) (R:Bool) (w:World) (l:List Value) (w':World):Prop:=Bw w w' ∧ ∃ (v:Value) (x:Int) (i:Nat),l = [v,.int .u64 x,.int .i64 (i:Int)] ∧ i ≤ k ∧ (0 ≤ x ∧ x < n) ∧ d1u n (k - i) x = R
def g8i (k:Nat) (l:List Value) (_:World):Nat:=match l with | [_,_,.int _ i]=>k - i.toNat | _=>0
theorem d4s (k:Nat) (x y:Value) (q:IntKind) (i:Int) (w:World):g8i k [x,y,.int q i] w = k - i.toNat:=rfl
theorem d1s (n b:Int) (hn:okN n) (h2:2 ≤ n) (hb:0 ≤ b ∧ b < n) (hT:DbT w) (k:∀ w',Bw w w' → K (.bool (!b1q n b)) w'):a0a Tryz.prog 255 #[.int .i64 n,.int .u64 b] K w:=by
 apply d5n
 unfold f3q
 have hn':=hn
 obtain ⟨h1,h3⟩:=hn'
 obtain ⟨m,hm⟩:=c6v (n - 1) (by omega)
 have hm2:(n - 1).toNat = m:=by omega
 have ht:=g2l 64 m (by omega) (by omega)
 obtain ⟨t,htt⟩:∃ t,t = tz 64 m:=⟨_,rfl⟩
 have ht64:t < 64:=by rw [htt]; exact ht.1
 clear ht
 have hsh:((m:Int)) / 2 ^ t = ((m / 2 ^ t:Nat):Int):=by rw [Int.natCast_ediv,Int.natCast_pow]; rfl
 have hdl:=Nat.div_le_self m (2 ^ t)
 have rr:=fun x=>c1h (P:=Tryz.prog) 197 3 197 .i64 x (t:Int) (by omega) (by omega)
 simp only [Int.toNat_natCast] at rr
 refine Xa @hm ?_
 refine f8t m (by omega) (by omega) hT ?_
 rw [← htt]
 obtain ⟨d,hd⟩:∃ d,d = m / 2 ^ t:=⟨_,rfl⟩
 rw [← hd] at hsh hdl
 have k:∀ w',Bw w w' → K (.bool (!(if pw n b d = 1 then true else d1u n t (pw n b d)))) w':=by
  rw [hd,htt,← hm2]; exact k
 have hp:=b0l n b d (by omega)
 refine Xa (An3 @hm @rr @hsh) ?_
 refine b5i n b d hn hb (by omega) (fun w1 hb1=>?_)
 generalize pw n b d = x at *
 have hz:=hb1.size
 by_cases hx1:x = 1
 ·have k:K (.bool false) w1:=by
   have k:=k w1 hb1
   rw [if_pos hx1] at k
   exact k
  rw [hx1]
  clear rr hsh hdl
  refine Xa0 ?_
  exact k
 ·have k:∀ w',Bw w w' → K (.bool (!d1u n t x)) w':=fun w' hb=>by
   have k:=k w' hb
   rw [if_neg hx1] at k
   exact k
  clear rr hsh hdl
  refine Xa @hx1 ?_
  refine ⟨WiJ n t (d1u n t x) w,g8i t,⟨hb1,_,x,0,rfl,by omega,hp,rfl⟩,?_⟩
  generalize d1u n t x = R at *
  clear hp hx1 hb1 hz w1
  rintro _ _ w1 ⟨hb1,v,y,i,rfl,hi,hx,hR⟩
  have hz:=hb1.size
  by_cases hit:i = t
  ·subst hit
   rw [Nat.sub_self] at hR
   have hR2:R = false:=by rw [← hR]; rfl
   subst hR2
   refine Xa0 ?_
   exact k _ hb1
  ·obtain ⟨j,hj⟩:∃ j,t - i = j + 1:=⟨t - i - 1,by omega⟩
   rw [hj] at hR
   unfold d1u at hR
   by_cases hxn:y = n - 1
   ·rw [if_pos hxn] at hR
    subst hR
    have k:=k _ hb1
    rw [hm] at hxn
    refine Xa (An2 @hm @hxn) ?_
    simpa using k
   ·rw [if_neg hxn] at hR
    rw [hm] at hxn
    refine Xa (An2 @hm @hxn) ?_
    refine b1e n y y hn hx hx (fun w2 hb2=>?_)
    refine Xa0 ?_
    refine ⟨⟨hb1.trans (hb2.mono hz),_,_,i + 1,rfl,by omega,⟨Int.emod_nonneg _ (by omega),Int.emod_lt_of_pos _ (by omega)⟩,?_⟩,?_⟩
    ·rw [show t - (i + 1) = j by omega]; exact hR
    ·simp only [d4s]; omega
def smallV:Array Value:=#[.int .i64 2,.int .i64 3,.int .i64 5,.int .i64 7,.int .i64 11,.int .i64 13,.int .i64 17,.int .i64 19,.int .i64 23,.int .i64 29,.int .i64 31,.int .i64 37]
def PrJ (n:Int) (W:World) (l:List Value) (w':World):Prop:=w' = W ∧ ∃ (v u:Value) (i:Nat),l = [v,u,.int .i64 (i:Int)] ∧ i ≤ 12 ∧ smallP.find? (fun p=>decide (n % p = 0)) = (smallP.drop i).find? (fun p=>decide (n % p = 0))
def h2p (n:Int) (W:World) (l:List Value) (w':World):Prop:=Bw W w' ∧ ∃ (v u:Value) (i:Nat),l = [v,u,.int .i64 (i:Int)] ∧ i ≤ 12 ∧ smallP.all (fun p=>b1q n p) = (smallP.drop i).all (fun p=>b1q n p)
def g8j (l:List Value) (_:World):Nat:=match l with | [_,_,.int _ i]=>12 - i.toNat | _=>0
theorem d4t (x y:Value) (q:IntKind) (i:Int) (w:World):g8j [x,y,.int q i] w = 12 - i.toNat:=rfl
theorem c9l (i:Nat) (hi:i < 12):∃ p,(∀ w,(Instr.index 284 (.agg smallV) (.int .i64 (i:Int))).run Tryz.prog w = .ok (.int .i64 p) w) ∧ smallP.drop i = p :: smallP.drop (i + 1) ∧ 2 ≤ p ∧ p ≤ 37:=by
 rcases i with _ | _ | _ | _ | _ | _ | _ | _ | _ | _ | _ | _ | i
 ·exact ⟨2,fun w=>by kernel_rfl,rfl,by decide,by decide⟩
 ·exact ⟨3,fun w=>by kernel_rfl,rfl,by decide,by decide⟩
 ·exact ⟨5,fun w=>by kernel_rfl,rfl,by decide,by decide⟩
 ·exact ⟨7,fun w=>by kernel_rfl,rfl,by decide,by decide⟩
 ·exact ⟨11,fun w=>by kernel_rfl,rfl,by decide,by decide⟩
 ·exact ⟨13,fun w=>by kernel_rfl,rfl,by decide,by decide⟩
 ·exact ⟨17,fun w=>by kernel_rfl,rfl,by decide,by decide⟩
 ·exact ⟨19,fun w=>by kernel_rfl,rfl,by decide,by decide⟩
 ·exact ⟨23,fun w=>by kernel_rfl,rfl,by decide,by decide⟩
 ·exact ⟨29,fun w=>by kernel_rfl,rfl,by decide,by decide⟩
 ·exact ⟨31,fun w=>by kernel_rfl,rfl,by decide,by decide⟩
 ·exact ⟨37,fun w=>by kernel_rfl,rfl,by decide,by decide⟩
 ·omega
theorem c6z:oM Tryz.prog (Go.Op.build 284 #[(0,(.tmp 0)),(1,(.tmp 1)),(2,(.tmp 2)),(3,(.tmp 3)),(4,(.tmp 4)),(5,(.tmp 5)),(6,(.tmp 6)),(7,(.tmp 7)),(8,(.tmp 8)),(9,(.tmp 9)),(10,(.tmp 10)),(11,(.tmp 11))]) 284 smallV.toList = a0f (.agg smallV):=by
 funext K w
 kernel_rfl
theorem c9m (n:Int) (hT:DbT w) (k:∀ w',Bw w w' → K (.bool (a8r n)) w'):a0a Tryz.prog 203 #[.int .i64 n] K w:=by
 apply d5o
 unfold f3r
 unfold a8r at k
 by_cases h1:n < 2
 ·rw [if_pos (.inl h1)] at k
  refine Xa @h1 ?_
  exact k _ (bR)
 by_cases h2:2305843009213693952 ≤ n
 ·rw [if_pos (.inr h2)] at k
  refine Xa (An2 @h1 @h2) ?_
  exact k _ (bR)
 rw [if_neg (by omega)] at k
 have hn:okN n:=⟨by omega,by omega⟩
 refine Xa (An2 @h1 @h2) ?_
 have bs:=c6z
 unfold smallV at bs
 simp only at bs
 refine Xa @bs ?_
 clear bs
 have hbW:Below w.heap.size w (w.alloc (Obj.cells #[.int .i64 2,.int .i64 3,.int .i64 5,.int .i64 7,.int .i64 11,.int .i64 13,.int .i64 17,.int .i64 19,.int .i64 23,.int .i64 29,.int .i64 31,.int .i64 37] 284)):=(bR).alloc (rL) _
 have hTW:DbT (w.alloc (Obj.cells #[.int .i64 2,.int .i64 3,.int .i64 5,.int .i64 7,.int .i64 11,.int .i64 13,.int .i64 17,.int .i64 19,.int .i64 23,.int .i64 29,.int .i64 31,.int .i64 37] 284)):=hT.below hbW (rL)
 refine ⟨PrJ n (w.alloc (Obj.cells #[.int .i64 2,.int .i64 3,.int .i64 5,.int .i64 7,.int .i64 11,.int .i64 13,.int .i64 17,.int .i64 19,.int .i64 23,.int .i64 29,.int .i64 31,.int .i64 37] 284)),g8j,⟨rfl,_,_,0,rfl,by omega,rfl⟩,?_⟩
 rintro _ _ w1 ⟨e1,v,u,i,rfl,hi,hf⟩
 rw [e1]
 clear e1 w1
 by_cases h12:i = 12
 ·subst h12
  rw [show smallP.drop 12 = [] from rfl,List.find?_nil] at hf
  rw [hf] at k
  simp only at k
  have hnd:=List.find?_eq_none.1 hf
  have hbig:37 < n:=by
   have g:∀ p ∈ smallP,¬ n % p = 0:=fun p hp=>by simpa using hnd p hp
   have hs:∀ m:Nat,m < 38 → 2 ≤ m → ∃ p ∈ smallP,(m:Int) % p = 0:=by decide +kernel
   obtain ⟨m,rfl⟩:=c6v n (by omega)
   by_cases hm:m < 38
   ·obtain ⟨p,hp,hp0⟩:=hs m hm (by omega)
    exact absurd hp0 (g p hp)
   ·omega
  clear hnd hf
  refine Xa0 ?_
  refine ⟨h2p n (w.alloc (Obj.cells #[.int .i64 2,.int .i64 3,.int .i64 5,.int .i64 7,.int .i64 11,.int .i64 13,.int .i64 17,.int .i64 19,.int .i64 23,.int .i64 29,.int .i64 31,.int .i64 37] 284)),g8j,⟨bR,_,_,0,rfl,by omega,rfl⟩,?_⟩
  rintro _ _ w2 ⟨hb2,v2,u2,i,rfl,hi2,hall⟩
  have hb3:=hbW.trans (hb2.mono (by simp))
  have hT2:DbT w2:=hTW.below hb2 (rL)
  by_cases hi12:i = 12
  ·subst hi12
   rw [show smallP.drop 12 = [] from rfl,List.all_nil] at hall
   rw [hall] at k
   refine Xa0 ?_
   exact k _ hb3
  ·obtain ⟨p,hix,hdr,hp2,hp37⟩:=c9l i (by omega)
   unfold smallV at hix
   rw [hdr,List.all_cons] at hall
   have hz2:=hb2.size
   refine Xa @hix ?_
   refine d1s n p hn (by omega) ⟨by omega,by omega⟩ hT2 (fun w3 hb4=>?_)
   cases hps:b1q n p with
   | false=>
    rw [hps,bF] at hall
    rw [hall] at k
    simp only [Bool.not_false]
    refine Xa0 ?_
    exact k _ (hb3.trans (hb4.mono hb3.size))
   | true=>
    rw [hps,bT] at hall
    simp only [Bool.not_true]
    refine Xa0 ?_
    refine ⟨⟨hb2.trans (hb4.mono hz2),_,_,i + 1,rfl,by omega,hall⟩,?_⟩
    simp only [d4t]; omega
 ·obtain ⟨p,hix,hdr,hp2,hp37⟩:=c9l i (by omega)
  unfold smallV at hix
  rw [hdr] at hf
  have er:n.tmod p = n % p:=Int.tmod_eq_emod_of_nonneg (by omega)
  by_cases hd:n % p = 0
  ·rw [List.find?_cons_of_pos (by simpa using hd)] at hf
   rw [hf] at k
   have k:=k _ hbW
   simp only at k
   refine Xa (An3 @hix @er @hd) ?_
   exact k
  ·rw [List.find?_cons_of_neg (by simpa using hd)] at hf
   refine Xa (An3 @hix @er @hd) ?_
   refine ⟨⟨rfl,_,_,i + 1,rfl,by omega,hf⟩,?_⟩
   simp only [d4t]; omega
@[reducible] def d4u (g:Grp):Value:=.agg #[.int .i64 g.P,.int .i64 g.Q,.int .i64 g.G]
def e6b (g:Grp):Prop:=I64 g.P ∧ I64 g.Q ∧ I64 g.G
theorem b8x {g:Grp} (h:g.Q < 5 ∨ 1152921504606846976 ≤ g.Q ∨ g.P ≠ 2 * g.Q + 1 ∨ g.G < 2 ∨ g.P ≤ g.G):a2m g = false:=by
 unfold a2m; rw [if_pos h]
theorem b8y {g:Grp} (h:¬ (g.Q < 5 ∨ 1152921504606846976 ≤ g.Q ∨ g.P ≠ 2 * g.Q + 1 ∨ g.G < 2 ∨ g.P ≤ g.G)):a2m g = (a8r g.Q && a8r g.P && decide (pw g.P g.G g.Q.toNat = 1)):=by
 unfold a2m; rw [if_neg h]
theorem b5y {T T':TypeId} (g:Grp) (k:∀ b W,Bw w W → w.heap.size ≤ b → (∀ w',Bw W w' → w'.cell? ⟨b,0,none⟩ = some (.int .i64 g.P)) → (∀ w',Bw W w' → w'.cell? ⟨b,1,none⟩ = some (.int .i64 g.Q)) → (∀ w',Bw W w' → w'.cell? ⟨b,2,none⟩ = some (.int .i64 g.G)) → K (.pointer (some ⟨b,0,none⟩)) W):oM Tryz.prog (.box T (.tmp 0)) T' [d4u g] K w:=
 f7u (cs:=[.int .i64 g.P,.int .i64 g.Q,.int .i64 g.G]) rfl fun b W h1 h2 hB=>k b W h1 h2 (fun w' h=>hB w' h 0 _ rfl) (fun w' h=>hB w' h 1 _ rfl) (fun w' h=>hB w' h 2 _ rfl)
set_option maxHeartbeats 2000000 in
theorem b2m (g:Grp) (hg:e6b g) (hT:DbT w) (k:∀ w',Bw w w' → K (.bool (a2m g)) w'):a0a Tryz.prog 141 #[d4u g] K w:=by
 apply d5p
 unfold f3s
 refine b5y g fun b W hW hb c0 c1 c2=>?_
 have n1:=b8x (g:=g)
 have n2:=b8y (g:=g)
 obtain ⟨P,Q,G⟩:=g
 obtain ⟨hP,hQ,hG⟩:=hg
 unfold I64 at hP hQ hG
 simp only at hP hQ hG n1 n2 c0 c1 c2
 have hr:=Below.refl W.heap.size W
 have hTW:DbT W:=hT.below hW (rL)
 have k1:∀ w',a2m ⟨P,Q,G⟩ = false → Bw W w' → K (.bool false) w':=fun w' e hb=>by rw [e] at k; exact k w' (hW.on hb)
 have k2:∀ w' v,a2m ⟨P,Q,G⟩ = v → Bw W w' → K (.bool v) w':=fun w' v e hb=>by rw [e] at k; exact k w' (hW.on hb)
 clear k
 repeat (any_goals (first
 | (with_reducible first|((refine a9c ?_); first|refine zD ?_|((refine a6c ?_); first|refine zI ?_|refine zJ ?_|refine zK (fun hg=>?_) fun hg=>?_)|((refine c4p ?_); first|refine zO ?_|refine zP ?_|refine zQ (fun hg=>?_) fun hg=>?_))|((refine a2x ?_); first|refine yB ?_|refine yD ?_|refine yE ?_|refine yF ?_|refine yG ?_)|((refine a1n ?_); first|refine yL ?_|refine yP (fun hg=>?_) fun hg=>?_))
 | ((with_reducible refine oG fun X Y=>?_); simp [go_sem,c0,c1,c2,hr]; (try simp (disch:=omega) only [a0u,a2y,a1r]); apply Y; clear Y X)))
 all_goals try exact k1 _ (n1 (by omega)) hr
 refine c9m Q hTW (fun w1 h1=>?_)
 have n2:=n2 (by omega)
 cases hq:a8r Q with
 | false=>
  have n2:a2m ⟨P,Q,G⟩ = false:=by rw [n2,hq]; rfl
  refine Xa0 ?_
  exact k1 _ n2 h1
 | true=>
  rw [hq,bT] at n2
  refine Xa (An2 @c0 @h1) ?_
  refine c9m P (hTW.below h1 (rL)) (fun w2 h2=>?_)
  have h2:=h1.on h2
  cases hp:a8r P with
  | false=>
   have n2:a2m ⟨P,Q,G⟩ = false:=by rw [n2,hp]; rfl
   refine Xa0 ?_
   exact k1 _ n2 h2
  | true=>
   rw [hp,bT] at n2
   refine Xa (An4 @c0 @c1 @c2 @h2) ?_
   refine f2z P G Q hQ (fun w3 h3=>?_)
   have e:g1r P G Q = pw P G Q.toNat:=by unfold g1r; rw [if_pos (by unfold okN; omega),if_pos (by omega)]
   rw [e]
   generalize pw P G Q.toNat = z at *
   have h3:=h2.on h3
   refine Xa0 ?_
   exact k2 _ _ n2 h3
theorem b8z (g:Grp) (x:Int) (hgr:e6b g) (hT:DbT w) (k:∀ w',Bw w w' → K (.bool (a9d g x)) w'):a0a Tryz.prog 143 #[d4u g,.int .i64 x] K w:=by
 apply d5q
 unfold f3t
 refine b5y g fun b W hW hb c0 c1 c2=>?_
 have hr:=Below.refl W.heap.size W
 have hTW:DbT W:=hT.below hW (rL)
 have k2:∀ w' v,a9d g x = v → Bw W w' → K (.bool v) w':=fun w' v e hb=>by rw [← e]; exact k w' (hW.on hb)
 have e0:a9d g x = (decide (1 ≤ x) && decide (x < g.P) && a2m g && decide (pw g.P x g.Q.toNat = 1)):=rfl
 clear k
 repeat (any_goals (first
 | (with_reducible first|refine a0v ?_|((refine a9c ?_); first|refine zB ?_|((refine a6c ?_); first|refine zF ?_|refine zG ?_|refine zH (fun hg=>?_) fun hg=>?_))|((refine a2x ?_); first|refine yC ?_|refine yD ?_|refine yE ?_))
 | ((with_reducible refine oG fun X Y=>?_); simp [go_sem,c0,c1,c2,hr]; apply Y; clear Y X)))
 ·refine b2m g hgr hTW (fun w1 h1=>?_)
  cases hv:a2m g with
  | false=>
   refine Xa0 ?_
   exact k2 _ _ (by rw [e0,hv]; simp) h1
  | true=>
   have hv2:=hv
   unfold a2m at hv2
   split at hv2
   ·cases hv2
   rename_i hn
   repeat (any_goals (first
   | (with_reducible first|refine a0v ?_|refine zA ?_|refine yD ?_)
   | ((with_reducible refine oG fun X Y=>?_); simp [go_sem,c0,c1,h1]; apply Y; clear Y X)))
   refine f2z g.P x g.Q hgr.2.1 (fun w3 h3=>?_)
   have e:g1r g.P x g.Q = pw g.P x g.Q.toNat:=by unfold g1r; rw [if_pos (by unfold okN; omega),if_pos (by omega)]
   rw [e]
   have e1:a9d g x = decide (pw g.P x g.Q.toNat = 1):=by rw [e0,hv]; simp; omega
   generalize pw g.P x g.Q.toNat = z at *
   repeat (any_goals (first
   | (with_reducible first|refine zA ?_|refine yB ?_)
   | ((with_reducible refine oG fun X Y=>?_); simp [go_sem]; apply Y; clear Y X)))
   exact k2 _ _ e1 (h1.on h3)
 ·exact k2 _ _ (by rw [e0]; simp; omega) hr
 ·exact k2 _ _ (by rw [e0]; simp; omega) hr
theorem c9n (g:Grp) (x n:Int) (k:∀ w',Bw w w' → K (.int .i64 (a6i g x n)) w'):a0a Tryz.prog 73 #[d4u g,.int .i64 x,.int .i64 n] K w:=by
 apply e6g
 unfold g2m
 refine b5y g fun b W hW hb c0 c1 c2=>?_
 have hr:=Below.refl W.heap.size W
 have k2:∀ w' v,a6i g x n = v → Bw W w' → K (.int .i64 v) w':=fun w' v e hb=>by rw [← e]; exact k w' (hW.on hb)
 clear k
 refine Xa (An4 @c0 @c1 @c2 @hr) ?_
 refine a5i g.P ?_
 by_cases hp:okN g.P
 ·by_cases hq:okN g.Q
  ·refine Xa (An4 @c0 @c1 @c2 @hr) ?_
   refine a5i g.Q ?_
   refine Xa (An4 @c0 @c1 @c2 @hr) ?_
   refine ⟨Below W.heap.size W,.drawn,?_⟩
   have hp':=hp
   have hq':=hq
   obtain ⟨h1,h2⟩:=hp'
   obtain ⟨h3,h4⟩:=hq'
   have a1:=Int.emod_nonneg x (b:=g.P) (by omega)
   have a2:=Int.emod_lt_of_pos x (b:=g.P) (by omega)
   have a3:=Int.emod_nonneg n (b:=g.Q) (by omega)
   have a4:=Int.emod_lt_of_pos n (b:=g.Q) (by omega)
   have e0:a6i g x n = pw g.P (x % g.P) (n % g.Q).toNat:=by unfold a6i; rw [if_pos ⟨hp,hq⟩,c7a]
   obtain ⟨m,hm⟩:=c6v (n % g.Q) a3
   rw [hm,Int.toNat_natCast] at e0
   have hr:=b0l g.P (x % g.P) m (by omega)
   refine Xc (fun W0 hW0=>An3 (c0 _ hW0) (c1 _ hW0) (c2 _ hW0)) ?_
   refine a8i (fun W0 hW0=>a3s g.P x hp ⟨rfl,hW0⟩) ?_
   refine Xc (fun W0 hW0=>An3 (c0 _ hW0) (c1 _ hW0) (c2 _ hW0)) ?_
   refine a8i (fun W0 hW0=>a3s g.Q n hq ⟨rfl,hW0⟩) ?_
   rw [hm]
   refine a8i (fun W0 hW0=>b5i g.P (x % g.P) m hp ⟨a1,a2⟩ (by omega) (fun w' hw'=>⟨rfl,hW0.on hw'⟩)) ?_
   generalize pw g.P (x % g.P) m = z at *
   have e3:IntKind.i64.wrap z = z:=a0u z (by omega) (by omega)
   refine Xg @e3 ?_
   intro w' hw'
   exact k2 _ _ e0 hw'
  ·have e0:a6i g x n = 0:=by unfold a6i; rw [if_neg (fun h=>hq h.2)]
   refine Xa (An4 @c0 @c1 @c2 @hr) ?_
   refine a5i g.Q ?_
   refine Xa (An4 @c0 @c1 @c2 @hr) ?_
   exact k2 _ _ e0 hr
 ·have e0:a6i g x n = 0:=by unfold a6i; rw [if_neg (fun h=>hp h.1)]
  refine Xa (An4 @c0 @c1 @c2 @hr) ?_
  exact k2 _ _ e0 hr
def PdJ (g:Grp) (R:Int) (ps:List (Int × Int)) (W:World) (l:List Value) (w':World):Prop:=Bw W w' ∧ ∃ (v u:Value) (o:Int) (i:Nat),l = [v,u,.int .i64 o,.int .i64 (i:Int)] ∧ i ≤ ps.length ∧ b3s g o (ps.drop i) = R
def h1g (n:Nat) (l:List Value) (_:World):Nat:=match l with | [_,_,_,.int _ i]=>n - i.toNat | _=>0
theorem f8v (n:Nat) (x y z:Value) (q:IntKind) (i:Int) (w:World):h1g n [x,y,z,.int q i] w = n - i.toNat:=rfl
theorem c9o (a b:List Int) (i:Nat) (h1:i < a.length) (h2:i < b.length):(a.zip b).drop i = (a[i],b[i]) :: (a.zip b).drop (i + 1):=by
 rw [List.drop_eq_getElem_cons (by rw [List.length_zip]; omega),List.getElem_zip]
@[go_sem] theorem e6c (T:TypeId) (b o n c:Nat) (x:Int):oM Tryz.prog (.indexAddr 24 (.tmp 0) (.tmp 1)) T [.slice (some ⟨b,o,none⟩) n c,.int .i64 x] = onM (0 ≤ x ∧ x < n) (.pointer (some ⟨b,o + x.toNat,none⟩)):=by
 funext K w
 rw [a2b,run_indexAt_slice (h:=by kernel_rfl)]
 have hs:(sizeOf (Tryz.prog.elem 24)).run Tryz.prog w = .ok 1 w:=by kernel_rfl
 by_cases hi:0 ≤ x ∧ x < n
 ·rw [if_pos hi,hs]
  simp only [Result.andThen,a4n,Nat.mul_one,c8l]
  exact propext ⟨fun h=>⟨hi,h⟩,fun h=>h.2⟩
 ·rw [if_neg hi]
  obtain ⟨e',w',he⟩:=c5a Value Tryz.prog .i64 x n .index w
  rw [he]
  exact propext ⟨fun h=>h.elim,fun h=>hi h.1⟩
theorem b9a (g:Grp) {bv ev:Value} {bs es:List Int} (hbs:Ints w bv bs) (hes:Ints w ev es) (k:∀ w',Bw w w' → K (.tuple #[.int .i64 (a5t g bs es).1,.bool (a5t g bs es).2]) w'):a0a Tryz.prog 72 #[d4u g,bv,ev] K w:=by
 apply e6h
 unfold g2n
 refine b5y g fun b W hW hb c0 c1 c2=>?_
 have hr:=Below.refl W.heap.size W
 have k2:∀ w' v,a5t g bs es = v → Bw W w' → K (.tuple #[.int .i64 v.1,.bool v.2]) w':=fun w' v e hb=>by rw [← e]; exact k w' (hW.on hb)
 clear k
 obtain ⟨bad,bc,rfl⟩:=hbs.isSlice
 obtain ⟨ead,ec,rfl⟩:=hes.isSlice
 have hbs:=hbs.next hW
 have hes:=hes.next hW
 have l1:=hbs.len
 have l2:=hes.len
 refine Xa (An4 @c0 @c1 @c2 @hr) ?_
 refine a5i g.P ?_
 by_cases hp:okN g.P
 ·by_cases hq:okN g.Q
  ·refine Xa (An4 @c0 @c1 @c2 @hr) ?_
   refine a5i g.Q ?_
   by_cases hl:bs.length = es.length
   ·have e1:(1:Int).tmod g.P = 1 % g.P:=Int.tmod_eq_emod_of_nonneg (by omega)
    have hp0:=hp.1
    have e0:a5t g bs es = (b3s g (1 % g.P) (bs.zip es),true):=by unfold a5t; rw [if_pos ⟨hp,hq,hl⟩]
    have hzl:(bs.zip es).length = bs.length:=by rw [List.length_zip]; omega
    refine Xa (An6 @c0 @c1 @c2 @hr @hl @e1) ?_
    refine ⟨PdJ g (b3s g (1 % g.P) (bs.zip es)) (bs.zip es) W,h1g es.length,⟨hr,_,_,_,0,rfl,by omega,rfl⟩,?_⟩
    generalize b3s g (1 % g.P) (bs.zip es) = R at *
    rintro _ _ w1 ⟨h1,v,u,o,i,rfl,hi,he⟩
    rw [hzl] at hi
    by_cases hin:i = es.length
    ·rw [List.drop_of_length_le (by omega)] at he
     unfold b3s at he
     refine Xa0 ?_
     rw [he]
     exact k2 _ _ e0 h1
    ·rw [c9o bs es i (by omega) (by omega)] at he
     unfold b3s at he
     obtain ⟨b1,o1,rfl,hb1,ca,ra,_⟩:=hbs.at (i:=i) (by omega)
     obtain ⟨b2,o2,rfl,hb2,cb,rb,_⟩:=hes.at (i:=i) (by omega)
     refine Xa (An3 (ca _ h1) @c0 @h1) ?_
     refine ⟨Below W.heap.size W,h1.trans .drawn,?_⟩
     refine Xc (fun W0 hW0=>An4 (c0 _ hW0) (c1 _ hW0) (c2 _ hW0) (cb _ hW0)) ?_
     refine a8i (fun W0 hW0=>c9n g _ _ (fun w' hw'=>⟨rfl,hW0.on hw'⟩)) ?_
     refine a8i (fun W0 hW0=>d4r _ _ _ (fun w' hw'=>⟨rfl,hW0.on hw'⟩)) ?_
     intro w2 h2
     refine Xa0 ?_
     refine ⟨⟨h2,_,_,_,i + 1,rfl,by rw [hzl]; omega,he⟩,?_⟩
     simp only [f8v]; omega
   ·have e0:a5t g bs es = (0,false):=by unfold a5t; rw [if_neg (fun h=>hl h.2.2)]
    have hl':¬ (bs.length:Int) = es.length:=by omega
    refine Xa (An5 @c0 @c1 @c2 @hr @hl') ?_
    exact k2 _ _ e0 hr
  ·have e0:a5t g bs es = (0,false):=by unfold a5t; rw [if_neg (fun h=>hq h.2.1)]
   refine Xa (An4 @c0 @c1 @c2 @hr) ?_
   refine a5i g.Q ?_
   refine Xa (An4 @c0 @c1 @c2 @hr) ?_
   exact k2 _ _ e0 hr
 ·have e0:a5t g bs es = (0,false):=by unfold a5t; rw [if_neg (fun h=>hp h.1)]
  refine Xa (An4 @c0 @c1 @c2 @hr) ?_
  exact k2 _ _ e0 hr
end
end Go.Proofs
namespace TkSpec
open FdSpec
structure Stp where
 g:Grp
 bases:List Int
 blind:Int
deriving DecidableEq
structure Bld where
 s:Int
 u:Int
 v:Int
 ys:List Int
deriving DecidableEq
structure Tkt where
 mark:Int
 first:Int
 z:Int
 a:Int
 b:Int
 r:Int
deriving DecidableEq
structure Spd where
 dare:Int
 answers:List Int
deriving DecidableEq
def a3x (g:Grp) (x:Int):Bool:=!decide (x = 1) && a9d g x
def a1u (s:Stp):Bool:=a2m s.g && decide (2 ≤ s.bases.length) && decide (s.bases.length ≤ 7) && s.bases.all (a3x s.g) && a3x s.g s.blind
def a5h (s:Stp) (least:Int) (l:List Int):Bool:=l.all fun n=>decide (least ≤ n) && decide (n < s.g.Q)
def a9a (s:Stp) (l:List Int):Bool:=l.all (a9d s.g)
def g2b (s:Stp) (first:Int) (l:List Int):Int:=l.foldl (fun a x=>b8f s.g.Q a x) first
def e3v (s:Stp) (a b:Int):Int:=d4x s.g.Q a b
def b3l (attrs:List Int):List Int:=1 :: attrs
def a7f (s:Stp) (attrs:List Int):Int × Bool:=
 if a1u s && decide (attrs.length + 1 = s.bases.length) && a5h s 0 attrs && !decide (attrs.headD 0 = 0) then ((a5t s.g s.bases (b3l attrs)).1,true) else (0,false)
def a9y (s:Stp) (attrs:List Int):Int × Bool:=((a7f s attrs).1,(a7f s attrs).2 && !decide ((a7f s attrs).1 = 1))
def a9z (s:Stp) (b:Bld):Bool:=a5h s 1 [b.s,b.u] && a5h s 0 [b.v] && decide (b.ys.length = s.bases.length) && a5h s 0 b.ys
def e5n (s:Stp) (attrs:List Int) (b:Bld) (dare:Int):Spd × Bool:=
 if (a9y s attrs).2 && a9z s b && a5h s 1 [dare] then (⟨dare,((b3l attrs).zip b.ys).map fun p=>e3v s p.2 (g2b s dare [b.s,p.1])⟩,true) else (⟨0,[]⟩,false)
def a6f (s:Stp) (t:Tkt):Bool:=a1u s && !decide (t.mark = 1) && a9a s [t.mark,t.first,t.z,t.a,t.b] && a5h s 0 [t.r]
end TkSpec
namespace Go.Proofs
open Go Go.Sh Go.RowKit FdSpec TkSpec
section
variable {K:VK} {w:World}
@[reducible] def b0d (s:Stp) (v:Value):Value:=.agg #[.int .i64 s.g.P,.int .i64 s.g.Q,.int .i64 s.g.G,v,.int .i64 s.blind]
@[reducible] def a9w (s:Stp) (v:Value):List Value:=[.int .i64 s.g.P,.int .i64 s.g.Q,.int .i64 s.g.G,v,.int .i64 s.blind]
structure SetR (w:World) (s:Stp) (v:Value):Prop where
 grp:e6b s.g
 ints:Ints w v s.bases
 blind:I64 s.blind
 db:DbT w
theorem DbT.next {w w':World} (h:DbT w) (hb:Bw w w'):DbT w':=h.below hb (rL)
theorem SetR.next {w w':World} {s:Stp} {v:Value} (h:SetR w s v) (hb:Bw w w'):SetR w' s v:=⟨h.grp,h.ints.next hb,h.blind,h.db.next hb⟩
theorem d1f (g:Grp) (x:Int) {b:Nat} (hg:e6b g) (hT:DbT w) (h0:w.cell? ⟨b,0,none⟩ = some (.int .i64 g.P)) (h1:w.cell? ⟨b,1,none⟩ = some (.int .i64 g.Q)) (h2:w.cell? ⟨b,2,none⟩ = some (.int .i64 g.G))
  (k:∀ w',Bw w w' → K (.bool (a3x g x)) w'):a0a Tryz.prog 142 #[.int .i64 x,.pointer (some ⟨b,0,none⟩)] K w:=by
 apply d8u
 unfold f6w
 unfold a3x at k
 by_cases hx:x = 1
 ·have k:=k w (bR)
  refine Xa (An3 @h0 @h1 @h2) ?_
  simpa [hx] using k
 ·refine Xa (An3 @h0 @h1 @h2) ?_
  refine b8z g x hg hT (fun w' hw=>?_)
  have k:=k w' hw
  refine Xa0 ?_
  simpa [hx] using k
def VsJ (s:Stp) (L:List (Addr × Value)) (R:Bool) (w0:World) (l:List Value) (w':World):Prop:=Kn w0 L w' ∧ ∃ (v u:Value) (i:Nat),l = [v,u,.int .i64 (i:Int)] ∧ i ≤ s.bases.length ∧ (s.bases.drop i).all (a3x s.g) = R
def f2f (n:Nat) (l:List Value) (_:World):Nat:=match l with | [_,_,.int _ i]=>n - i.toNat | _=>0
theorem b2d (n:Nat) (x y:Value) (q:IntKind) (i:Int) (w:World):f2f n [x,y,.int q i] w = n - i.toNat:=rfl
theorem a7e (s:Stp) {v:Value} (hs:SetR w s v) (k:∀ w',Bw w w' → K (.bool (a1u s)) w'):a0a Tryz.prog 69 #[b0d s v] K w:=by
 apply e8x
 unfold g5d
 obtain ⟨ad,c,rfl⟩:=hs.ints.isSlice
 refine a1b (cs:=a9w s (.slice ad s.bases.length c)) rfl (.start w) fun b W hk hb1 hb=>?_
 have k2:∀ w' r,a1u s = r → Bw w w' → K (.bool r) w':=fun w' r e hb=>by rw [← e]; exact k w' hb
 have e0:a1u s = (a2m s.g && decide (2 ≤ s.bases.length) && decide (s.bases.length ≤ 7) && s.bases.all (a3x s.g) && a3x s.g s.blind):=rfl
 have hl:=hs.ints.len
 clear k
 refine Xa hk.cells ?_
 refine b2m s.g hs.grp (hs.db.next hk.below) (fun w1 h1=>?_)
 have hk:=hk.next h1
 clear h1 hb1
 cases hv:a2m s.g with
 | false=>
  refine Xa0 ?_
  exact k2 _ _ (by rw [e0,hv]; simp) hk.below
 | true=>
  repeat (any_goals (first
  | (with_reducible first|((refine a9c ?_); first|refine zC ?_|((refine a6c ?_); first|refine zI ?_|refine zJ ?_|refine zK (fun hg=>?_) fun hg=>?_))|((refine a2x ?_); first|refine yC ?_|refine yD ?_|refine yE ?_)|((refine a1n ?_); first|refine yL ?_|refine yP (fun hg=>?_) fun hg=>?_))
  | ((with_reducible refine oG fun X Y=>?_); simp [go_sem,hk.cells]; apply Y; clear Y X)))
  ·exact k2 _ _ (by rw [e0]; simp; omega) hk.below
  ·exact k2 _ _ (by rw [e0]; simp; omega) hk.below
  have e1:a1u s = (s.bases.all (a3x s.g) && a3x s.g s.blind):=by
   rw [e0,hv,decide_eq_true (by omega:2 ≤ s.bases.length),decide_eq_true (by omega:s.bases.length ≤ 7)]; rfl
  refine ⟨VsJ s _ (s.bases.all (a3x s.g)) w,f2f s.bases.length,⟨hk,_,_,0,rfl,by omega,rfl⟩,?_⟩
  generalize s.bases.all (a3x s.g) = R at *
  rintro _ _ w2 ⟨hk,u1,u2,i,rfl,hi,hall⟩
  have hc:=hk.cells
  by_cases hin:i = s.bases.length
  ·rw [List.drop_of_length_le (by omega),List.all_nil] at hall
   subst hall
   refine Xa @hc ?_
   refine a3q (by kernel_rfl) ?_
   refine d1f s.g s.blind hs.grp (hs.db.next hk.below) hc.1 hc.2.1 hc.2.2.1 (fun w3 h3=>?_)
   exact k2 _ _ (by rw [e1,bT]) (hk.next h3).below
  ·rw [List.drop_eq_getElem_cons (by omega),List.all_cons] at hall
   obtain ⟨b1,o1,rfl,hb1,ca,ra,_⟩:=hs.ints.at (i:=i) (by omega)
   refine Xa (ca _ hk.below) ?_
   refine a3q (by kernel_rfl) ?_
   refine d1f s.g _ hs.grp (hs.db.next hk.below) hc.1 hc.2.1 hc.2.2.1 (fun w3 h3=>?_)
   cases ho:a3x s.g s.bases[i] with
   | false=>
    rw [ho,bF] at hall
    subst hall
    refine Xa0 ?_
    exact k2 _ _ (by rw [e1,bF]) (hk.next h3).below
   | true=>
    rw [ho,bT] at hall
    refine Xa0 ?_
    refine ⟨⟨hk.next h3,_,_,i + 1,rfl,by omega,hall⟩,?_⟩
    simp only [b2d]; omega
end
section
variable {K:VK} {w w0:World} {L:List (Addr × Value)}
theorem a5d (w:World) (l:List Int) (T:TypeId) (c:Nat) (hr:∀ n ∈ l,I64 n) (hl:l.length ≤ 9223372036854775807):Ints (w.alloc (.cells (l.map (Value.int .i64)).toArray T)) (.slice (some ⟨w.heap.size,0,none⟩) l.length c) l:=by
 refine ⟨⟨_,c,rfl,by simp,?_⟩,hr,hl⟩
 by_cases h0:l = []
 ·exact .inl h0
 ·refine .inr ⟨_,0,rfl,by simp,fun k x hk=>?_⟩
  rw [flat_int] at hk
  rw [Nat.zero_add]
  have:=World.cell?_alloc_at (w:=w) (l.map (Value.int .i64)).toArray T w.heap.size k rfl
  rw [this]
  simpa using hk
theorem mk1 {T:TypeId} (x:Int) (hx:I64 x) (k:∀ v W,Bw w W → Ints W v [x] → K v W):oM Tryz.prog (.buildSlice 24 1 #[(0,.tmp 0)]) T [.int .i64 x] K w:=by
 rw [a3t]
 have e:(Instr.buildSlice 24 1 #[(0,.int .i64 x)]).run Tryz.prog w = .ok (.slice (some ⟨w.heap.size,0,none⟩) 1 1) (w.alloc (.cells #[.int .i64 x] 3)):=by kernel_rfl
 rw [e]
 exact k _ _ ((Below.refl _ w).alloc (rL) _) (a5d w [x] _ 1 (by simpa using hx) (by simp))
theorem mk2 {T:TypeId} (x y:Int) (hx:I64 x) (hy:I64 y) (k:∀ v W,Bw w W → Ints W v [x,y] → K v W):oM Tryz.prog (.buildSlice 24 2 #[(0,.tmp 0),(1,.tmp 1)]) T [.int .i64 x,.int .i64 y] K w:=by
 rw [a8p]
 have e:(Instr.buildSlice 24 2 #[(0,.int .i64 x),(1,.int .i64 y)]).run Tryz.prog w = .ok (.slice (some ⟨w.heap.size,0,none⟩) 2 2) (w.alloc (.cells #[.int .i64 x,.int .i64 y] 3)):=by kernel_rfl
 rw [e]
 exact k _ _ ((Below.refl _ w).alloc (rL) _) (a5d w [x,y] _ 2 (by simp; exact ⟨hx,hy⟩) (by simp))
def IfJ (p:Int → Bool) (l:List Int) (R:Bool) (w0:World) (vs:List Value) (w':World):Prop:=Bw w0 w' ∧ ∃ (v u:Value) (i:Nat),vs = [v,u,.int .i64 (i:Int)] ∧ i ≤ l.length ∧ (l.drop i).any p = R
theorem c5j {v F:Value} {l:List Int} (p:Int → Bool) (hl:Ints w v l)
  (hF:∀ (w':World) (x:Int) (K':VK) (T:TypeId),Bw w w' → I64 x → (∀ w'',Below w'.heap.size w' w'' → K' (.bool (p x)) w'') → oM Tryz.prog (.call { callee:=.value (.tmp 0),args:=#[.tmp 1],argTypes:=#[3] }) T [F,.int .i64 x] K' w')
  (k:∀ w' (r:Int),Bw w w' → decide (0 ≤ r) = l.any p → K (.int .i64 r) w'):a0a Tryz.prog 206 #[v,F] K w:=by
 apply d8v
 unfold f6x
 obtain ⟨ad,c,rfl⟩:=hl.isSlice
 have hll:=hl.len
 refine Xa0 ?_
 refine ⟨IfJ p l (l.any p) w,f2f l.length,⟨bR,_,_,0,rfl,by omega,rfl⟩,?_⟩
 generalize l.any p = R at *
 rintro _ _ w1 ⟨h1,u1,u2,i,rfl,hi,ha⟩
 by_cases hin:i = l.length
 ·rw [List.drop_of_length_le (by omega),List.any_nil] at ha
  refine Xa0 ?_
  exact k _ _ h1 (by rw [← ha]; rfl)
 ·rw [List.drop_eq_getElem_cons (by omega),List.any_cons] at ha
  obtain ⟨b1,o1,rfl,hb1,ca,ra,_⟩:=hl.at (i:=i) (by omega)
  refine Xa (ca _ h1) ?_
  refine hF w1 _ _ _ h1 ra (fun w2 h2=>?_)
  cases hp:p l[i] with
  | true=>
   rw [hp,Bool.true_or] at ha
   refine Xa0 ?_
   exact k _ _ (h1.on h2) (by rw [← ha]; simp)
  | false=>
   rw [hp,Bool.false_or] at ha
   refine Xa0 ?_
   refine ⟨⟨h1.on h2,_,_,i + 1,rfl,by omega,ha⟩,?_⟩
   simp only [b2d]; omega
theorem a7v {v F:Value} {l:List Int} (p:Int → Bool) (hl:Ints w v l)
  (hF:∀ (w':World) (x:Int) (K':VK) (T:TypeId),Bw w w' → I64 x → (∀ w'',Below w'.heap.size w' w'' → K' (.bool (p x)) w'') → oM Tryz.prog (.call { callee:=.value (.tmp 0),args:=#[.tmp 1],argTypes:=#[3] }) T [F,.int .i64 x] K' w')
  (k:∀ w',Bw w w' → K (.bool (l.any p)) w'):a0a Tryz.prog 146 #[v,F] K w:=by
 apply d8w
 unfold f6y
 refine c5j p hl hF (fun w' r hb hr=>?_)
 refine Xa0 ?_
 rw [hr]
 exact k _ hb
theorem e3k (s:Stp) (least:Int) (l:List Int):a5h s least l = !(l.any fun n=>decide (n < least) || decide (s.g.Q ≤ n)):=by
 unfold a5h
 rw [List.not_any_eq_all_not]
 congr 1
 funext n
 by_cases h1:n < least <;> by_cases h2:s.g.Q ≤ n <;> simp [h1,h2] <;> omega
theorem c2e (s:Stp) (l:List Int):a9a s l = !(l.any fun n=>!a9d s.g n):=by
 unfold a9a
 rw [List.not_any_eq_all_not]
 congr 1
 funext n
 simp
theorem f2g (s:Stp) (least x:Int) {b d:Nat} (h0:w.cell? ⟨b,0,none⟩ = some (.int .i64 least)) (h1:w.cell? ⟨d,1,none⟩ = some (.int .i64 s.g.Q)) (h:K (.bool (decide (x < least) || decide (s.g.Q ≤ x))) w) :
  a0a Tryz.prog 259 #[.int .i64 x,.pointer (some ⟨b,0,none⟩),.pointer (some ⟨d,0,none⟩)] K w:=by
 apply d8x
 unfold f6z
 by_cases hx:x < least
 ·refine Xa (An2 @h0 @h1) ?_
  simpa [hx] using h
 ·refine Xa (An2 @h0 @h1) ?_
  simpa [hx] using h
theorem b4k (s:Stp) (least:Int) {dv v:Value} {l:List Int} (hs:SetR w s dv) (hl:Ints w v l) (k:∀ w',Bw w w' → K (.bool (a5h s least l)) w'):a0a Tryz.prog 209 #[b0d s dv,.int .i64 least,v] K w:=by
 apply d8y
 unfold f7a
 obtain ⟨ad,c,rfl⟩:=hs.ints.isSlice
 refine a1b (cs:=a9w s (.slice ad s.bases.length c)) rfl (.start w) fun b W hk hb1 hb=>?_
 refine a1b (cs:=[.int .i64 least]) rfl hk fun b2 W2 hk hb2 hbb=>?_
 refine Xa0 ?_
 refine a7v (fun n=>decide (n < least) || decide (s.g.Q ≤ n)) (hl.next hk.below) ?_ ?_
 ·intro w' x K' T hb _ h'
  refine a3q (by kernel_rfl) ?_
  have hk:=(hk.next hb).cells
  exact f2g s least x hk.1 hk.2.2.1 (h' _ (bR))
 ·intro w' hb
  refine Xa0 ?_
  rw [← e3k]
  exact k _ (hk.next hb).below
theorem f2h (s:Stp) (x:Int) {d:Nat} (hg:e6b s.g) (hT:DbT w) (h0:w.cell? ⟨d,0,none⟩ = some (.int .i64 s.g.P)) (h1:w.cell? ⟨d,1,none⟩ = some (.int .i64 s.g.Q)) (h2:w.cell? ⟨d,2,none⟩ = some (.int .i64 s.g.G)) (k:∀ w',Bw w w' → K (.bool (!a9d s.g x)) w') :
  a0a Tryz.prog 261 #[.int .i64 x,.pointer (some ⟨d,0,none⟩)] K w:=by
 apply d8z
 unfold f7b
 refine Xa (An3 @h0 @h1 @h2) ?_
 refine b8z s.g x hg hT (fun w' hb=>?_)
 refine Xa0 ?_
 exact k _ hb
theorem c8q (s:Stp) {dv v:Value} {l:List Int} (hs:SetR w s dv) (hl:Ints w v l) (k:∀ w',Bw w w' → K (.bool (a9a s l)) w'):a0a Tryz.prog 212 #[b0d s dv,v] K w:=by
 apply d9a
 unfold f7c
 obtain ⟨ad,c,rfl⟩:=hs.ints.isSlice
 refine a1b (cs:=a9w s (.slice ad s.bases.length c)) rfl (.start w) fun b W hk hb1 hb=>?_
 refine Xa0 ?_
 refine a7v (fun n=>!a9d s.g n) (hl.next hk.below) ?_ ?_
 ·intro w' x K' T hb _ h'
  refine a3q (by kernel_rfl) ?_
  have hk:=hk.next hb
  have hc:=hk.cells
  exact f2h s x hs.grp (hs.db.next hk.below) hc.1 hc.2.1 hc.2.2.1 h'
 ·intro w' hb
  refine Xa0 ?_
  rw [← c2e]
  exact k _ (hk.next hb).below
theorem g0y (s:Stp) (x n:Int) {dv:Value} (hs:SetR w s dv) (k:∀ w',Bw w w' → K (.int .i64 (e3v s x n)) w'):a0a Tryz.prog 249 #[b0d s dv,.int .i64 x,.int .i64 n] K w:=by
 apply d9c
 unfold f7e
 obtain ⟨ad,c,rfl⟩:=hs.ints.isSlice
 refine a1b (cs:=a9w s (.slice ad s.bases.length c)) rfl (.start w) fun b W hk hb1 hb=>?_
 refine Xa hk.cells ?_
 refine g2g _ x n ?_
 exact k _ hk.below
theorem c5k (s:Stp) {dv ev:Value} {es:List Int} (hs:SetR w s dv) (he:Ints w ev es) (k:∀ w',Bw w w' → K (.int .i64 (a5t s.g s.bases es).1) w'):a0a Tryz.prog 210 #[b0d s dv,ev] K w:=by
 apply d9b
 unfold f7d
 have hi:=hs.ints
 obtain ⟨ad,c,rfl⟩:=hs.ints.isSlice
 refine a1b (cs:=a9w s (.slice ad s.bases.length c)) rfl (.start w) fun b W hk hb1 hb=>?_
 refine Xa hk.cells ?_
 refine b9a s.g (hi.next hk.below) (he.next hk.below) (fun w2 h2=>?_)
 refine Xa0 ?_
 exact k _ (hk.next h2).below
def TmJ (f:Int → Int → Int) (l:List Int) (R:Int) (L:List (Addr × Value)) (w0:World) (vs:List Value) (w':World):Prop:=Kn w0 L w' ∧ ∃ (v:Value) (o:Int) (i:Nat),vs = [v,.int .i64 o,.int .i64 (i:Int)] ∧ i ≤ l.length ∧ (l.drop i).foldl f o = R
theorem g7h (s:Stp) (x:Int) {dv v:Value} {l:List Int} (hs:SetR w s dv) (hl:Ints w v l) (k:∀ w',Bw w w' → K (.int .i64 (g2b s x l)) w'):a0a Tryz.prog 250 #[b0d s dv,.int .i64 x,v] K w:=by
 apply d9d
 unfold f7f
 obtain ⟨ad,c,rfl⟩:=hs.ints.isSlice
 refine a1b (cs:=a9w s (.slice ad s.bases.length c)) rfl (.start w) fun b W hk hb1 hb=>?_
 obtain ⟨ad2,c2,rfl⟩:=hl.isSlice
 have hll:=hl.len
 refine Xa0 ?_
 unfold g2b at k
 refine ⟨TmJ (fun a x=>b8f s.g.Q a x) l _ _ w,f2f l.length,⟨hk,_,_,0,rfl,by omega,rfl⟩,?_⟩
 rintro _ _ w1 ⟨hk,u1,o,i,rfl,hi,ha⟩
 by_cases hin:i = l.length
 ·rw [List.drop_of_length_le (by omega),List.foldl_nil] at ha
  refine Xa0 ?_
  rw [ha]
  exact k _ hk.below
 ·rw [List.drop_eq_getElem_cons (by omega),List.foldl_cons] at ha
  obtain ⟨b1,o1,rfl,hb1,ca,ra,_⟩:=hl.at (i:=i) (by omega)
  refine Xa (An2 (ca _ hk.below) hk.cells) ?_
  refine d4r _ _ _ (fun w2 h2=>?_)
  refine Xa0 ?_
  refine ⟨⟨hk.next h2,_,_,i + 1,rfl,by omega,ha⟩,?_⟩
  simp only [b2d]; omega
theorem b7m (w:World):(sizeOf 201).run Tryz.prog w = .ok 5 w:=by kernel_rfl
theorem b4l (w:World):(Instr.alloc 201 true (.tuple #[])).run Tryz.prog w = .ok (.pointer (some ⟨w.heap.size,0,none⟩)) (w.alloc (.cells [.int .i64 0,.int .i64 0,.int .i64 0,.slice none 0 0,.int .i64 0].toArray 201)):=by kernel_rfl
theorem b7n (s:Stp) (ad:Option Addr) (n c:Nat):∀ u ∈ a9w s (.slice ad n c),u.oneCell' = true:=by
 intro u hu
 simp only [a9w,List.mem_cons,List.not_mem_nil,or_false] at hu
 rcases hu with rfl | rfl | rfl | rfl | rfl <;> rfl
theorem open_ok (s:Stp) {v:Value} (hs:SetR w s v) (k:∀ w',Bw w w' → K (.tuple #[b0d s v,.bool (a1u s)]) w'):a0a Tryz.prog 208 #[b0d s v] K w:=by
 apply d9e
 unfold f7g
 obtain ⟨ad,c,rfl⟩:=hs.ints.isSlice
 refine a1b (cs:=a9w s (.slice ad s.bases.length c)) rfl (.start w) fun b W hk hb1 hb=>?_
 refine a7k b4l rfl hk fun g W2 hk hb2 hg=>?_
 refine ⟨KnM w _ g 5,hk.drew,?_⟩
 have hk:=hk.drew
 have hone:=b7n s ad s.bases.length c
 repeat (any_goals ((with_reducible refine b4u ?_); (with_reducible refine a3h ⟨_,rfl⟩ (fun W0 hW0=>by (refine oG (fun X Y=>?_)); simp [go_sem,hW0.cells]; (first | exact Y _ _ ⟨rfl,rfl⟩ | exact ⟨by omega,Y _ _ ⟨rfl,rfl⟩⟩)) ?_)))
 refine ⟨?_,?_⟩
 ·refine Xa0 ?_
  refine ⟨hk,?_⟩
  refine a7e s (hs.next hk.below) (fun w2 h2=>?_)
  have hk:=hk.next h2
  refine ⟨hk,?_⟩
  refine b4f b7m rfl rfl hone hk (fun W3 hk hc=>?_)
  exact ⟨hk,hk,_,by simp [go_sem,hc],k _ hk.below⟩
 ·refine a7e s (hs.next hk.below) (fun w2 h2=>?_)
  have hk:=hk.next h2
  refine ⟨hk,?_⟩
  refine Xa0 ?_
  refine ⟨hk,?_⟩
  refine b4f b7m rfl rfl hone hk (fun W3 hk hc=>?_)
  exact ⟨hk,hk,_,by simp [go_sem,hc],k _ hk.below⟩
end
end Go.Proofs
namespace Go.Proofs
open Go.Shelf
def Tryz.laysNm2_21_ren:Go.Shelf.Ren:=⟨fun | 21=>260 | 27=>295 | 28=>296 | 35=>310 | 39=>314 | n=>n,fun | 22=>24 | 3=>3 | 4=>4 | 0=>0 | n=>n,fun | n=>n⟩
theorem Tryz.laysNm2_21:Go.Proofs.Lays2.n21 Tryz.prog Tryz.laysNm2_21_ren:={
 mixed:=by kernel_rfl
 f21:=Tryz.func260.trans (congrArg some (by kernel_rfl))
 f27:=Tryz.func295.trans (congrArg some (by kernel_rfl))
 f28:=Tryz.func296.trans (congrArg some (by kernel_rfl))
 f35:=Tryz.func310.trans (congrArg some (by kernel_rfl))
 f39:=Tryz.func314.trans (congrArg some (by kernel_rfl))
 t0:=Tryz.underlying0
 a0:=Tryz.isAgg0
 z0:=Tryz.sizeOf0
 v0:=Tryz.zeroValue0
 t3:=Tryz.underlying3
 a3:=Tryz.isAgg3
 z3:=Tryz.sizeOf3
 v3:=Tryz.zeroValue3
 t4:=Tryz.underlying4
 a4:=Tryz.isAgg4
 z4:=Tryz.sizeOf4
 v4:=Tryz.zeroValue4
 t22:=Tryz.underlying24
 a22:=Tryz.isAgg24
 z22:=Tryz.sizeOf24
 v22:=Tryz.zeroValue24
 i3:=by kernel_rfl }
end Go.Proofs
namespace Go.Proofs
open Go Go.Sh Go.RowKit FdSpec TkSpec
section
variable {K:VK} {w w0:World} {L:List (Addr × Value)}
theorem b3i {P:Program} {w:World} {K:VK} {t e T:TypeId} {a:Option Addr} {n c:Nat} (ht:P.underlying t = some (.slice e)) (k:K (.bool a.isNone) w):oM P (.binOp .eql t (.tmp 0) (.const (.slice none 0 0)) t) T [.slice a n c] K w:=by
 rw [e3c]
 have:=Lib.run_eql_slice_nil (P:=P) w t e a n c 0 0 ht
 simp only [Sem.run_bind]
 have h2:(eqGuard .eql t (.tmp 0) (.const (.slice none 0 0)) (.slice a n c) (.slice none 0 0)).run P w = .ok () w:=by
  simp [eqGuard]
 rw [h2,Result.andThen_ok,this]
 exact k
theorem a7w {B:Nat} {a:World} (g:Nat) (hg:B ≤ g):∀ (vs:List Value) (o:Nat) (w:World),Below B a w → Below B a (w.setCells g o vs)
 | [],_,_,h=>h
 | v :: r,o,w,h=>a7w g hg r (o + 1) _ (h.setCell (p:=⟨g,o,none⟩) hg v)
theorem d1g (b:Nat) (vs:List Value) (o:Nat) (w:World) (h:∀ j,j < vs.length → (w.cell? ⟨b,o + j,none⟩).isSome = true) (k:Nat) (hk:(w.cell? ⟨b,k,none⟩).isSome = true):((w.setCells b o vs).cell? ⟨b,k,none⟩).isSome = true:=by
 by_cases hin:o ≤ k ∧ k < o + vs.length
 ·have:=World.cell?_setCells_in b vs o w h (k - o) (by omega)
  rw [show o + (k - o) = k by omega] at this
  rw [this]; rfl
 ·rw [World.cell?_setCells_out b vs o w ⟨b,k,none⟩ (fun _ _=>by show k < o ∨ o + vs.length ≤ k; omega)]
  exact hk
theorem f2i {w:World} {g:Nat} {x:Value} {cs:List Value} (h:∀ j,j < cs.length + 1 → (w.cell? ⟨g,j,none⟩).isSome = true) (k:Nat) (v:Value) (hk:(x :: cs)[k]? = some v):((w.setCells g 1 cs).setCells g 0 [x]).cell? ⟨g,k,none⟩ = some v:=by
 have h1:∀ j,j < cs.length → (w.cell? ⟨g,1 + j,none⟩).isSome = true:=fun j hj=>h _ (by omega)
 cases k with
 | zero=>
  have:=World.cell?_setCells_in g [x] 0 (w.setCells g 1 cs) (fun j hj=>by
   have:j = 0:=by simpa using hj
   subst this
   exact d1g g cs 1 w h1 0 (h 0 (by omega))) 0 (by simp)
  rw [this]
  simpa using hk
 | succ k=>
  have hlt:k < cs.length:=by
   have:=(gS hk).1
   simpa using this
  rw [World.cell?_setCells_out g [x] 0 _ ⟨g,k + 1,none⟩ (fun _ _=>by show k + 1 < 0 ∨ 0 + 1 ≤ k + 1; omega)]
  have:=World.cell?_setCells_in g cs 1 w h1 k hlt
  rw [show k + 1 = 1 + k by omega,this,← hk]
  simp [hlt]
theorem f2j {w:World} {g:Nat} {x:Value} {cs:List Value} (h:∀ j,j < cs.length + 1 → (w.cell? ⟨g,j,none⟩).isSome = true) (k:Nat) (v:Value) (hk:(x :: cs)[k]? = some v):((w.setCells g 0 [x]).setCells g 1 cs).cell? ⟨g,k,none⟩ = some v:=by
 have h1:∀ j,j < [x].length → (w.cell? ⟨g,0 + j,none⟩).isSome = true:=fun j hj=>h _ (by simp at hj; omega)
 cases k with
 | zero=>
  rw [World.cell?_setCells_out g cs 1 _ ⟨g,0,none⟩ (fun _ _=>by show 0 < 1 ∨ 1 + cs.length ≤ 0; omega)]
  have:=World.cell?_setCells_in g [x] 0 w h1 0 (by simp)
  rw [this]
  simpa using hk
 | succ k=>
  have hlt:k < cs.length:=by
   have:=(gS hk).1
   simpa using this
  have:=World.cell?_setCells_in g cs 1 (w.setCells g 0 [x]) (fun j hj=>d1g g [x] 0 w h1 (1 + j) (h _ (by omega))) k hlt
  rw [show k + 1 = 1 + k by omega,this,← hk]
  simp [hlt]
theorem b3j {v:Value} {l:List Int} (hr:Ints w v l) (hl:l.length < 1099511627776) (k:∀ v' w',w'.ownsRow 0 3 1 v' l.length (a3a intC l) → Bw w w' → (∀ i,v'.ownBlock = some i → w.heap.size ≤ i) → K v' w'):a0a Tryz.prog 114 #[v] K w:=by
 apply d9f
 unfold f7h
 have hi:=hr.row
 obtain ⟨ad,c,rfl,h0,hc⟩:=id hi
 refine b3i (e:=3) (by kernel_rfl) ?_
 cases ad with
 | none=>
  obtain ⟨hl0,rfl⟩:=h0 rfl
  obtain rfl:l = []:=List.eq_nil_of_length_eq_zero hl0
  simp only [Option.isNone_none]
  refine Xa0 ?_
  exact k _ _ (World.ownsRow_nil _ _ _ _) (bR) (fun i hi=>by cases hi)
 | some a=>
  simp only [Option.isNone_some]
  refine Xa0 ?_
  have hr2:RowR intC 1 (w.alloc (.cells #[] 3)) (.slice (some a) l.length c) l:=hi.keep (by rw [a0z]; omega) (fun i _ hi=>heap_alloc_old _ _ hi)
  refine b5p 24 24 3 ((Tryz.prog.info? 3).getD default) (.int .i64 0) 1 8 (by kernel_rfl) (by kernel_rfl) (by kernel_rfl) (by kernel_rfl) (by kernel_rfl) (by kernel_rfl) (by omega) (fun _=>rfl) (fun x u hu=>by simp [intC] at hu; subst hu; rfl) hr2 (World.ownsRow_lit w #[] 0 (Nat.zero_le _) (Nat.zero_le _) rfl) (B:=w.heap.size) (by rw [a0z]; omega) (fun i hi=>by cases hi; exact rL) (by omega) (by omega) ?_
  intro v' w' ho hg hv
  exact k v' w' ho (((bR).alloc (rL) _).grown hg (by rw [a0z]; omega) (fun i hi=>by cases hi; exact rL)) hv
theorem e3l {g c:Nat} {l:List Int} {x:Int} {b:Nat} (hne:0 < l.length) (hl:l.length < 1099511627776) (ho:w.ownsRow 0 3 1 (.slice (some ⟨g,0,none⟩) l.length c) l.length (a3a intC l)) {B:Nat} (hB:B ≤ g) (hBw:B ≤ w.heap.size)
  (hx:w.heap[b]? = some (.cells #[.int .i64 x] 3 (0,0))) (hbg:b ≠ g) (hr:∀ n ∈ l,I64 n) (hrx:I64 x) (k:∀ v' w',Ints w' v' (x :: l) → Below B w w' → (∀ i,Value.inBlock v' = some i → B ≤ i) → K v' w') :
  a0a Tryz.prog 260 #[.slice (some ⟨g,0,none⟩) l.length c,.int .i64 0,.slice (some ⟨b,0,none⟩) 1 1] K w:=by
 obtain ⟨g',cap,cur,hv,hgw,_,hgb,hcs,hcap,hcell⟩:=a3u ho hne
 cases hv
 have hxc:∀ (j:Nat) (v:Value),[Value.int .i64 x][j]? = some v → w.cell? ⟨b,0 + j,none⟩ = some v:=by
  intro j v hj
  rw [a0b hx]
  simpa using hj
 have hcc:∀ (j:Nat) (v:Value),(a3a intC l)[j]? = some v → w.cell? ⟨g,0 + j,none⟩ = some v:=by
  intro j v hj
  rw [Nat.zero_add]
  exact hcell j v hj
 have h1:∀ v ∈ a3a intC l,v.oneCell' = true:=by
  intro v hv
  rw [flat_int] at hv
  obtain ⟨n,_,rfl⟩:=List.mem_map.1 hv
  rfl
 have h1x:∀ v ∈ [Value.int .i64 x],v.oneCell' = true:=by
  intro v hv
  simp at hv
  subst hv
  rfl
 have hfl:(a3a intC l).length = l.length:=by rw [flat_int]; simp
 have hbw:b < w.heap.size:=(Array.getElem?_eq_some_iff.1 hx).1
 have hxx:∀ n ∈ x :: l,I64 n:=by
  intro n hn
  rcases List.mem_cons.1 hn with rfl | hn
  ·exact hrx
  ·exact hr n hn
 have hlx:(a3a intC (x :: l)) = .int .i64 x :: a3a intC l:=rfl
 have hcm:c ≤ 9223372036854775807:=by
  rcases ho.2 with ⟨h0,_⟩ | ⟨g2,cap2,cur2,hv2,_,_,_,hm2,_⟩
  ·cases h0
  ·cases hv2
   simp only [maxLen] at hm2
   omega
 by_cases hroom:l.length + 1 ≤ c
 ·have hsm:∀ j,j < l.length + 1 → (w.cell? ⟨g,j,none⟩).isSome = true:=by
   intro j hj
   rw [a0b hgb]
   simp
   omega
  have h:=Any2.slices_Insert_int_shift Tryz.laysNm2_21 g 0 l.length c 0 b 0 1 1 (a3a intC l) [.int .i64 x] w (by omega) (by omega) hroom hcm hbg hfl rfl hcc (fun j hj=>by rw [Nat.zero_add]; exact hsm j hj)
   (fun j hj=>by unfold World.frozen?; rw [hgb]; simp) hxc h1 h1x 3 3 1 cur.size (by unfold World.shape?; rw [hx]; rfl) (by unfold World.shape?; rw [hgb]) (by omega) (by unfold World.frozen?; rw [hx]; simp) (by unfold World.frozen?; rw [hx]; simp)
  refine Calls.mono h ?_
  rintro e w' ⟨rfl,rfl⟩
  have hb2:∀ B':Nat,B' ≤ g → Below B' w ((w.drew.setCells g (0 + (0 + 1)) (List.drop 0 (a3a intC l))).setCells g (0 + 0) [Value.int .i64 x]):=fun B' hB'=>
   a7w g hB' _ _ _ (a7w g hB' _ _ _ (Below.refl _ w).drew)
  refine ⟨_,rfl,k _ _ ⟨⟨_,c,rfl,by simp,.inr ⟨g,0,rfl,lL hgw (hb2 0 (Nat.zero_le _)).size,fun j v hj=>?_⟩⟩,hxx,by simp; omega⟩ (hb2 B hB) (fun i hi=>by cases hi; exact hB)⟩
  simp only [Nat.zero_add,Nat.add_zero,List.drop_zero]
  rw [hlx] at hj
  exact f2i (w:=w.drew) (fun j hj=>hsm j (by rw [hfl] at hj; exact hj)) j v hj
 ·have h:=Any2.slices_Insert_int_grow Tryz.laysNm2_21 g 0 l.length c 0 b 0 1 1 (a3a intC l) [.int .i64 x] w (by omega) (by omega) (by omega) (by omega) (by omega) hfl rfl hcc hxc h1 h1x
  refine Calls.mono h ?_
  rintro e w' ⟨rfl,rfl⟩
  have hG:=grownCap_ge w (l.length + 1) c 3
  have e3:Tryz.laysNm2_21_ren.t 3 = 3:=rfl
  rw [e3]
  generalize grownCap w (l.length + 1) c 3 = G at *
  simp only [List.take_zero,List.drop_zero,Nat.zero_add,Nat.add_zero,Nat.sub_zero]
  have hsm:∀ j,j < (a3a intC l).length + 1 → ((w.alloc (.cells (([]:List Value).toArray ++ Builtin.zeroCells (Value.int .i64 0).cells (l.length + 1) ++ Builtin.zeroCells (Value.int .i64 0).cells (G - (l.length + 1))) 3)).drew.cell? ⟨w.heap.size,j,none⟩).isSome = true:=by
   intro j hj
   rw [hfl] at hj
   have:=World.cell?_alloc_at (w:=w) (([]:List Value).toArray ++ Builtin.zeroCells (Value.int .i64 0).cells (l.length + 1) ++ Builtin.zeroCells (Value.int .i64 0).cells (G - (l.length + 1))) 3 w.heap.size j rfl
   show (World.cell? _ _).isSome = true
   refine (congrArg Option.isSome this).trans ?_
   rw [Array.getElem?_eq_getElem (by simp [Builtin.zeroCells,Value.cells]; omega)]
   rfl
  generalize hW:w.alloc (.cells (([]:List Value).toArray ++ Builtin.zeroCells (Value.int .i64 0).cells (l.length + 1) ++ Builtin.zeroCells (Value.int .i64 0).cells (G - (l.length + 1))) 3) = W at *
  have hbW:Bw w W:=by rw [← hW]; exact (Below.refl _ w).alloc (rL) _
  have hWs:w.heap.size < W.heap.size:=by rw [← hW,a0z]; omega
  have hb2:Below w.heap.size w (((W.drew.setCells w.heap.size 0 [Value.int .i64 x]).drew).setCells w.heap.size 1 (a3a intC l)):=
   a7w _ (rL) _ _ _ (a7w _ (rL) _ _ _ hbW.drew).drew
  have hs2:w.heap.size < (((W.drew.setCells w.heap.size 0 [Value.int .i64 x]).drew).setCells w.heap.size 1 (a3a intC l)).heap.size:=
   lL hWs (a7w w.heap.size (Nat.zero_le _) _ _ _ (a7w w.heap.size (Nat.zero_le _) _ _ _ (Below.refl 0 W).drew).drew).size
  refine ⟨_,rfl,k _ _ ⟨⟨_,G,rfl,by simp,.inr ⟨_,0,rfl,hs2,fun j v hj=>?_⟩⟩,hxx,by simp; omega⟩ (hb2.mono hBw) (fun i hi=>by cases hi; exact hBw)⟩
  rw [Nat.zero_add]
  rw [hlx] at hj
  rw [drew_setCells]
  exact f2j (w:=W.drew.drew) (g:=w.heap.size) (x:=.int .i64 x) (cs:=a3a intC l) hsm j v hj
theorem e3m {v:Value} {l:List Int} (hl:Ints w v l) (hne:0 < l.length) (hln:l.length < 1099511627776) (k:∀ v' w',Ints w' v' (b3l l) → Bw w w' → (∀ i,Value.inBlock v' = some i → w.heap.size ≤ i) → K v' w'):a0a Tryz.prog 211 #[v] K w:=by
 apply d9g
 unfold f7i
 refine b3j hl hln (fun v1 w1 ho hb hv=>?_)
 obtain ⟨g,cap,cur,rfl,hgw,_,hgb,hcs,hcap,hcell⟩:=a3u ho hne
 have hg:=hv g rfl
 have e:(Instr.buildSlice 24 1 #[(0,.int .i64 1)]).run Tryz.prog w1 = .ok (.slice (some ⟨w1.heap.size,0,none⟩) 1 1) (w1.alloc (.cells #[.int .i64 1] 3)):=by kernel_rfl
 rw [a3t,e,c8l]
 have hb2:=(Below.refl w1.heap.size w1).alloc (rL) (.cells #[.int .i64 1] 3)
 refine e3l (x:=1) (B:=w.heap.size) hne hln (ho.alloc _) hg (by rw [a0z]; have:=hb.size; omega) (b:=w1.heap.size) (by show (w1.heap.push _)[w1.heap.size]? = _; exact Array.getElem?_push_size) (by omega) hl.rng (by unfold I64; omega) (fun v' w' hi hbb hff=>?_)
 exact k _ _ hi ((hb.on hb2).trans hbb) hff
theorem b5q {s:Stp} {l:List Int} (h:a1u s = false ∨ l.length + 1 ≠ s.bases.length ∨ a5h s 0 l = false ∨ l.headD 0 = 0):a7f s l = (0,false):=by
 unfold a7f
 rw [if_neg]
 intro hc
 simp only [bA,dE,Bool.not_eq_true',decide_eq_false_iff_not] at hc
 obtain ⟨⟨⟨h1,h2⟩,h3⟩,h4⟩:=hc
 rcases h with h | h | h | h
 ·rw [h] at h1; cases h1
 ·exact h h2
 ·rw [h] at h3; cases h3
 ·exact h4 h
theorem e3n {s:Stp} {l:List Int} (h1:a1u s = true) (h2:l.length + 1 = s.bases.length) (h3:a5h s 0 l = true) (h4:l.headD 0 ≠ 0):a7f s l = ((a5t s.g s.bases (b3l l)).1,true):=by
 unfold a7f
 rw [if_pos]
 simp only [bA,dE,Bool.not_eq_true',decide_eq_false_iff_not]
 exact ⟨⟨⟨h1,h2⟩,h3⟩,h4⟩
theorem a5e {K:VK} {T' T2:TypeId} {g n:Nat} (s:Stp) (ad:Option Addr) (m c:Nat) (hk:KnM w0 L g n w)
  (k:∀ b W,KnM w0 (cellsOf L b 0 (a9w s (.slice ad m c))) g n W → Bw w W → w.heap.size ≤ b → K (.pointer (some ⟨b,0,none⟩)) W) :
  oM Tryz.prog (.alloc 201) T' [] (fun v w=>oM Tryz.prog (.store 201 (.tmp 0) (.tmp 1)) T2 [v,b0d s (.slice ad m c)] (fun _ w=>K v w) w) w:=
 e2e b4l rfl b7m rfl rfl (b7n s ad m c) hk k
theorem b7o {K:VK} {T' T2:TypeId} (s:Stp) (ad:Option Addr) (m c:Nat) (hk:Kn w0 L w)
  (k:∀ b W,Kn w0 (cellsOf L b 0 (a9w s (.slice ad m c))) W → Bw w W → w.heap.size ≤ b → K (.pointer (some ⟨b,0,none⟩)) W) :
  oM Tryz.prog (.alloc 201) T' [] (fun v w=>oM Tryz.prog (.store 201 (.tmp 0) (.tmp 1)) T2 [v,b0d s (.slice ad m c)] (fun _ w=>K v w) w) w:=
 d0w b4l rfl b7m rfl rfl (b7n s ad m c) hk k
theorem a8z {s:Stp} (h:a1u s = true):2 ≤ s.bases.length ∧ s.bases.length ≤ 7:=by
 unfold a1u at h
 simp only [bA,dE] at h
 exact ⟨h.1.1.1.2,h.1.1.2⟩
theorem a3i {K:VK} {T':TypeId} {g:Nat} (s:Stp) (ad:Option Addr) (m c:Nat) (hk:KnM w0 L g 5 w)
  (k:∀ W,KnM w0 L g 5 W → a2h W (cellsOf [] g 0 (a9w s (.slice ad m c))) → K undef W):oM Tryz.prog (.store 201 (.tmp 0) (.tmp 1)) T' [.pointer (some ⟨g,0,none⟩),b0d s (.slice ad m c)] K w:=
 b4f b7m rfl rfl (b7n s ad m c) hk k
theorem _root_.Go.Sh.Ints.headD {w:World} {ad:Option Addr} {n c:Nat} {l:List Int} (h:Ints w (.slice ad n c) l) (hne:0 < l.length) :
  ∃ b o,ad = some ⟨b,o,none⟩ ∧ (∀ w',Bw w w' → w'.cell? ⟨b,o,none⟩ = some (.int .i64 (l.headD 0))) ∧ I64 (l.headD 0):=by
 obtain ⟨b,o,rfl,_,hc,hr,_⟩:=h.at hne
 have e:l[0] = l.headD 0:=by
  cases l with
  | nil=>simp at hne
  | cons a l=>rfl
 rw [e] at hc hr
 exact ⟨b,o,rfl,fun w' hb=>by have:=hc w' hb; simpa using this,hr⟩
theorem e3o (s:Stp) {v lv:Value} {l:List Int} (hs:SetR w s v) (hl:Ints w lv l) (k:∀ w',Bw w w' → K (.tuple #[b0d s v,.int .i64 (a7f s l).1,.bool (a7f s l).2]) w'):a0a Tryz.prog 152 #[b0d s v,lv] K w:=by
 apply d9h
 unfold f7j
 obtain ⟨ad,c,rfl⟩:=hs.ints.isSlice
 have hone:=b7n s ad s.bases.length c
 have k2:∀ w' r,a7f s l = r → Bw w w' → K (.tuple #[b0d s (.slice ad s.bases.length c),.int .i64 r.1,.bool r.2]) w':=fun w' r e hb=>by rw [← e]; exact k w' hb
 clear k
 refine a1b (cs:=a9w s (.slice ad s.bases.length c)) rfl (.start w) fun b W hk hb1 hb=>?_
 refine a7k b4l rfl hk fun g W2 hk hb2 hg=>?_
 refine Xa hk.cells ?_
 refine open_ok s (hs.next hk.below) (fun w2 h2=>?_)
 have hk:=hk.next h2
 clear h2 hb1 hb2
 have hll:=hl.len
 have hbl:=hs.ints.len
 obtain ⟨lad,lc,rfl⟩:=hl.isSlice
 cases hv:a1u s with
 | false=>
  repeat (any_goals (first
  | ((with_reducible refine a5e s ad s.bases.length c hk ?_); intro b7 W7 hk hb7 hg7)
  | (with_reducible first|refine zD ?_|refine yB ?_|refine yL ?_)
  | ((with_reducible refine oG fun X Y=>?_); simp [go_sem,hk.cells]; apply Y; clear Y X)))
  refine a3i s ad _ c hk (fun W3 hk hc=>⟨_,by simp [go_sem,hc],k2 _ _ (b5q (.inl hv)) hk.below⟩)
 | true=>
  have hlen:=a8z hv
  repeat (any_goals (first
  | ((with_reducible refine a5e s ad s.bases.length c hk ?_); intro b7 W7 hk hb7 hg7)
  | (with_reducible first|refine a0v ?_|((refine a9c ?_); first|refine zC ?_|refine zD ?_|((refine c4p ?_); first|refine zO ?_|refine zP ?_|refine zQ (fun hg=>?_) fun hg=>?_))|((refine a2x ?_); first|refine yB ?_|refine yC ?_|refine yF ?_)|refine yL ?_)
  | ((with_reducible refine oG fun X Y=>?_); simp [go_sem,hk.cells]; (try simp (disch:=omega) only [a0u,a2y,a1r]); apply Y; clear Y X)))
  ·refine b4k s 0 (hs.next hk.below) (hl.next hk.below) (fun w3 h3=>?_)
   have hk:=hk.next h3
   obtain ⟨b8,o8,rfl,c8,r8⟩:=hl.headD (by omega)
   obtain ⟨x0,hx0⟩:∃ x0,l.headD 0 = x0:=⟨_,rfl⟩
   rw [hx0] at c8 r8
   cases hn:a5h s 0 l with
   | false=>
    refine Xa hk.cells ?_
    refine a3i s ad _ c hk (fun W3 hk hc=>⟨_,by simp [go_sem,hc],k2 _ _ (b5q (.inr (.inr (.inl hn)))) hk.below⟩)
   | true=>
    by_cases h0:x0 = 0
    ·refine Xa (An3 hk.cells (c8 _ hk.below) @h0) ?_
     refine a3i s ad _ c hk (fun W3 hk hc=>⟨_,by simp [go_sem,hc],k2 _ _ (b5q (.inr (.inr (.inr (hx0.trans h0))))) hk.below⟩)
    ·refine Xa (An3 hk.cells (c8 _ hk.below) @h0) ?_
     have em:=e3n hv (by omega) hn (by rw [hx0]; exact h0)
     refine ⟨KnM w _ g 5,hk.drew,?_⟩
     have hk:=hk.drew
     repeat (any_goals (first
     | (with_reducible refine pX ?_)
     | ((with_reducible refine b4u ?_); (with_reducible refine a3h ⟨_,rfl⟩ (fun W0 hW0=>by (refine oG (fun X Y=>?_)); simp [go_sem,hW0.cells]; (first | exact Y _ _ ⟨rfl,rfl⟩ | exact ⟨by omega,Y _ _ ⟨rfl,rfl⟩⟩)) ?_))))
     refine e3m (hl.next hk.below) (by omega) (by omega) (fun ev w4 he h4 _=>?_)
     have hk:=hk.next h4
     refine ⟨hk,?_⟩
     refine c5k s (hs.next hk.below) he (fun w5 h5=>?_)
     have hk:=hk.next h5
     refine ⟨hk,?_⟩
     refine a3i s ad _ c hk (fun W3 hk hc=>⟨hk,hk,hk,_,by simp [go_sem,hc],k2 _ _ em hk.below⟩)
  ·refine a3i s ad _ c hk (fun W3 hk hc=>⟨_,by simp [go_sem,hc],k2 _ _ (b5q (.inr (.inl (by omega)))) hk.below⟩)
theorem e3p (s:Stp) {v lv:Value} {l:List Int} (hs:SetR w s v) (hl:Ints w lv l) (k:∀ w',Bw w w' → K (.tuple #[b0d s v,.int .i64 (a9y s l).1,.bool (a9y s l).2]) w'):a0a Tryz.prog 247 #[b0d s v,lv] K w:=by
 apply d9i
 unfold f7k
 obtain ⟨ad,c,rfl⟩:=hs.ints.isSlice
 refine a1b (cs:=a9w s (.slice ad s.bases.length c)) rfl (.start w) fun b W hk hb1 hb=>?_
 refine a7k b4l rfl hk fun g W2 hk hb2 hg=>?_
 refine Xa hk.cells ?_
 refine e3o s (hs.next hk.below) (hl.next hk.below) (fun w2 h2=>?_)
 have hk:=hk.next h2
 clear h2 hb1 hb2
 unfold a9y at k
 obtain ⟨⟨m,u⟩,hm⟩:∃ x,a7f s l = x:=⟨_,rfl⟩
 rw [hm] at k ⊢
 simp only at k ⊢
 cases u with
 | false=>
  repeat (any_goals (first
  | ((with_reducible refine a5e s ad s.bases.length c hk ?_); intro b7 W7 hk hb7 hg7)
  | (with_reducible first|refine zB ?_|refine yC ?_)
  | ((with_reducible refine oG fun X Y=>?_); simp [go_sem,hk.cells]; apply Y; clear Y X)))
  refine a3i s ad _ c hk (fun W3 hk hc=>⟨_,by simp [go_sem,hc],k _ hk.below⟩)
 | true=>
  repeat (any_goals (first
  | ((with_reducible refine a5e s ad s.bases.length c hk ?_); intro b7 W7 hk hb7 hg7)
  | (with_reducible first|refine a0v ?_|refine zA ?_|refine yB ?_)
  | ((with_reducible refine oG fun X Y=>?_); simp [go_sem,hk.cells]; apply Y; clear Y X)))
  refine a3i s ad _ c hk (fun W3 hk hc=>⟨b0d s (.slice ad s.bases.length c),by simp [go_sem,hc],by simpa using k _ hk.below⟩)
end
theorem g7i {x n:Int} (h:0 ≤ x ∧ x < n) (hn:okN n):I64 x:=by unfold I64; unfold okN at hn; omega
theorem d3n:I64 0:=by unfold I64; omega
theorem d1h (n a b:Int):I64 (d4x n a b):=by
 by_cases hn:okN n
 ·exact g7i (b9d n a b hn) hn
 ·unfold d4x; rw [if_neg hn]; exact d3n
section
variable {K:VK} {w w0:World} {L:List (Addr × Value)}
theorem mk5 {T:TypeId} (a b c d e:Int) (ha:I64 a) (hb:I64 b) (hc:I64 c) (hd:I64 d) (he:I64 e) (k:∀ v W,Bw w W → Ints W v [a,b,c,d,e] → K v W):oM Tryz.prog (.buildSlice 24 5 #[(0,.tmp 0),(1,.tmp 1),(2,.tmp 2),(3,.tmp 3),(4,.tmp 4)]) T [.int .i64 a,.int .i64 b,.int .i64 c,.int .i64 d,.int .i64 e] K w:=by
 rw [a6u (S:=Instr.buildSlice 24 5 #[(0,.int .i64 a),(1,.int .i64 b),(2,.int .i64 c),(3,.int .i64 d),(4,.int .i64 e)]) (by simp [xop,execOp,a1e,evE])]
 have e:(Instr.buildSlice 24 5 #[(0,.int .i64 a),(1,.int .i64 b),(2,.int .i64 c),(3,.int .i64 d),(4,.int .i64 e)]).run Tryz.prog w = .ok (.slice (some ⟨w.heap.size,0,none⟩) 5 5) (w.alloc (.cells #[.int .i64 a,.int .i64 b,.int .i64 c,.int .i64 d,.int .i64 e] 3)):=by kernel_rfl
 rw [e]
 exact k _ _ ((Below.refl _ w).alloc (rL) _) (a5d w [a,b,c,d,_] _ 5 (by simp; exact ⟨ha,hb,hc,hd,he⟩) (by simp))
theorem g0z (s:Stp) {v lv:Value} {l:List Int} (hs:SetR w s v) (hl:Ints w lv l) (k:∀ w',Bw w w' → K (.int .i64 (a7f s l).1) w'):a0a Tryz.prog 74 #[b0d s v,lv] K w:=by
 apply e8y
 unfold g5e
 obtain ⟨ad,c,rfl⟩:=hs.ints.isSlice
 refine a1b (cs:=a9w s (.slice ad s.bases.length c)) rfl (.start w) fun b W hk hb1 hb=>?_
 refine Xa hk.cells ?_
 refine e3o s (hs.next hk.below) (hl.next hk.below) (fun w2 h2=>?_)
 have hk:=hk.next h2
 repeat (any_goals (first
 | ((with_reducible refine b7o s ad s.bases.length c hk ?_); intro b7 W7 hk hb7 hg7)
 | ((with_reducible refine oG fun X Y=>?_); simp [go_sem,hk.cells]; apply Y; clear Y X)))
 exact k _ hk.below
@[reducible] def b7p (t:Tkt):Value:=.agg #[.int .i64 t.mark,.int .i64 t.first,.int .i64 t.z,.int .i64 t.a,.int .i64 t.b,.int .i64 t.r]
@[reducible] def b4y (t:Tkt):List Value:=[.int .i64 t.mark,.int .i64 t.first,.int .i64 t.z,.int .i64 t.a,.int .i64 t.b,.int .i64 t.r]
@[reducible] def h2j (b:Bld) (v:Value):Value:=.agg #[.int .i64 b.s,.int .i64 b.u,.int .i64 b.v,v]
@[reducible] def c2f (b:Bld) (v:Value):List Value:=[.int .i64 b.s,.int .i64 b.u,.int .i64 b.v,v]
@[reducible] def g2a (x:Spd) (v:Value):Value:=.agg #[.int .i64 x.dare,v]
@[reducible] def g7j (x:Spd) (v:Value):List Value:=[.int .i64 x.dare,v]
structure TktR (t:Tkt):Prop where
 mark:I64 t.mark
 first:I64 t.first
 z:I64 t.z
 a:I64 t.a
 b:I64 t.b
 r:I64 t.r
structure BldR (w:World) (b:Bld) (bv:Value):Prop where
 s:I64 b.s
 u:I64 b.u
 v:I64 b.v
 ys:Ints w bv b.ys
theorem BldR.next {w w':World} {b:Bld} {v:Value} (h:BldR w b v) (hb:Bw w w'):BldR w' b v:=⟨h.s,h.u,h.v,h.ys.next hb⟩
theorem e3q (s:Stp) (b:Bld) {v bv:Value} (hs:SetR w s v) (hb:BldR w b bv) (k:∀ w',Bw w w' → K (.bool (a9z s b)) w'):a0a Tryz.prog 248 #[b0d s v,h2j b bv] K w:=by
 apply d9j
 unfold f7l
 obtain ⟨ad,c,rfl⟩:=hs.ints.isSlice
 have hys:=hb.ys
 obtain ⟨yad,yc,rfl⟩:=hb.ys.isSlice
 have k2:∀ w' r,a9z s b = r → Bw w w' → K (.bool r) w':=fun w' r e hb=>by rw [← e]; exact k w' hb
 clear k
 unfold a9z at k2
 refine a1b (cs:=a9w s (.slice ad s.bases.length c)) rfl (.start w) fun b1 W hk hb1 hbb=>?_
 refine a1b (cs:=c2f b (.slice yad b.ys.length yc)) rfl hk fun b2 W2 hk hb2 hbb=>?_
 repeat (any_goals (first
 | ((with_reducible refine mk2 b.s b.u hb.s hb.u ?_); intro v8 W8 hb8 hi)
 | ((with_reducible refine oG fun X Y=>?_); simp [go_sem,hk.cells]; apply Y; clear Y X)))
 have hk:=hk.next hb8
 refine b4k s 1 (hs.next hk.below) hi (fun w3 h3=>?_)
 have hk:=hk.next h3
 cases hn:a5h s 1 [b.s,b.u] with
 | false=>
  refine Xa hk.cells ?_
  exact k2 _ _ (by rw [hn]; rfl) hk.below
 | true=>
  repeat (any_goals (first
  | ((with_reducible refine mk1 b.v hb.v ?_); intro v9 W9 hb9 hi)
  | (with_reducible refine zA ?_)
  | ((with_reducible refine oG fun X Y=>?_); simp [go_sem,hk.cells]; apply Y; clear Y X)))
  have hk:=hk.next hb9
  refine b4k s 0 (hs.next hk.below) hi (fun w4 h4=>?_)
  have hk:=hk.next h4
  cases hn2:a5h s 0 [b.v] with
  | false=>
   refine Xa hk.cells ?_
   exact k2 _ _ (by rw [hn,hn2]; rfl) hk.below
  | true=>
   by_cases hlen:b.ys.length = s.bases.length
   ·refine Xa (An2 hk.cells @hlen) ?_
    have hys2:Ints w (.slice yad s.bases.length yc) b.ys:=by rw [← hlen]; exact hys
    refine b4k s 0 (hs.next hk.below) (hys2.next hk.below) (fun w5 h5=>?_)
    have hk:=hk.next h5
    refine Xa0 ?_
    exact k2 _ _ (by rw [hn,hn2]; simp [hlen]) hk.below
   ·have hl':¬ (b.ys.length:Int) = s.bases.length:=by omega
    refine Xa (An2 hk.cells @hl') ?_
    exact k2 _ _ (by rw [hn,hn2]; simp [hlen]) hk.below
theorem e3r (s:Stp) (t:Tkt) {v:Value} (ht:TktR t) (hs:SetR w s v) (k:∀ w',Bw w w' → K (.tuple #[b0d s v,.bool (a6f s t)]) w'):a0a Tryz.prog 153 #[b0d s v,b7p t] K w:=by
 apply d9k
 unfold f7m
 obtain ⟨ad,c,rfl⟩:=hs.ints.isSlice
 have k2:∀ w' r,a6f s t = r → Bw w w' → K (.tuple #[b0d s (.slice ad s.bases.length c),.bool r]) w':=fun w' r e hb=>by rw [← e]; exact k w' hb
 clear k
 unfold a6f at k2
 refine a1b (cs:=a9w s (.slice ad s.bases.length c)) rfl (.start w) fun b1 W hk hb1 hbb=>?_
 refine a1b (cs:=b4y t) rfl hk fun b2 W2 hk hb2 hbb=>?_
 refine a7k (n:=5) b4l rfl hk fun g W2 hk hb2 hg=>?_
 refine Xg hk.cells ?_
 refine open_ok s (hs.next hk.below) (fun w2 h2=>?_)
 have hk:=hk.next h2
 clear hb1 h2 hb2
 cases hv:a1u s with
 | false=>
  repeat (any_goals (first
  | ((with_reducible refine a5e s ad s.bases.length c hk ?_); intro b7 W7 hk hb7 hg7)
  | ((with_reducible refine oG fun X Y=>?_); simp [go_sem,hk.cells]; apply Y; clear Y X)))
  refine ⟨KnM w _ g 5,hk.drew,?_⟩
  have hk:=hk.drew
  repeat (any_goals (first
  | (with_reducible refine And.intro hk ?_)
  | (with_reducible first|refine pX ?_|((refine b5d ?_); refine a4w fun _=>?_)|refine zB ?_)
  | ((with_reducible refine b4u ?_); first|(with_reducible refine vB ?_)|(with_reducible refine a3h ⟨_,rfl⟩ (fun W0 hW0=>by (refine oG (fun X Y=>?_)); simp [go_sem,hW0.cells]; (first | exact Y _ _ ⟨rfl,rfl⟩ | exact ⟨by omega,Y _ _ ⟨rfl,rfl⟩⟩)) ?_))))
  exact a3i s ad _ c hk (fun W3 hk hc=>⟨hk,hk,_,by simp [go_sem,hc],k2 _ _ (by rw [hv]; rfl) hk.below⟩)
 | true=>
  repeat (any_goals (first
  | ((with_reducible refine a5e s ad s.bases.length c hk ?_); intro b7 W7 hk hb7 hg7)
  | ((with_reducible refine oG fun X Y=>?_); simp [go_sem,hk.cells]; apply Y; clear Y X)))
  refine ⟨KnM w _ g 5,hk.drew,?_⟩
  have hk:=hk.drew
  by_cases hm:t.mark = 1
  ·repeat (any_goals (first
   | (with_reducible refine And.intro hk ?_)
   | (with_reducible first|refine pX ?_|((refine b5d ?_); refine a4w fun _=>?_)|((refine a9c ?_); first|refine zA ?_|refine zB ?_))
   | ((with_reducible refine b4u ?_); first|(with_reducible first|refine vA ?_|refine vB ?_)|(with_reducible refine a3h ⟨_,rfl⟩ (fun W0 hW0=>by (refine oG (fun X Y=>?_)); simp [go_sem,hW0.cells,hm]; (first | exact Y _ _ ⟨rfl,rfl⟩ | exact ⟨by omega,Y _ _ ⟨rfl,rfl⟩⟩)) ?_))))
   exact a3i s ad _ c hk (fun W3 hk hc=>⟨hk,hk,_,by simp [go_sem,hc],k2 _ _ (by rw [hv,hm]; rfl) hk.below⟩)
  ·repeat (any_goals (first
   | (with_reducible refine And.intro hk ?_)
   | ((with_reducible refine mk5 t.mark t.first t.z t.a t.b ht.mark ht.first ht.z ht.a ht.b ?_); intro v8 W8 hb8 hi)
   | (with_reducible first|refine pX ?_|((refine b5d ?_); refine a4w fun _=>?_)|refine zA ?_)
   | ((with_reducible refine b4u ?_); first|(with_reducible refine vA ?_)|(with_reducible refine a3h ⟨_,rfl⟩ (fun W0 hW0=>by (refine oG (fun X Y=>?_)); simp [go_sem,hW0.cells,hm]; (first | exact Y _ _ ⟨rfl,rfl⟩ | exact ⟨by omega,Y _ _ ⟨rfl,rfl⟩⟩)) ?_))))
   have hk:=hk.next hb8
   refine ⟨hk,c8q s (hs.next hk.below) hi (fun w3 h3=>?_)⟩
   have hk:=hk.next h3
   refine ⟨hk,?_⟩
   cases he:a9a s [t.mark,t.first,t.z,t.a,t.b] with
   | false=>
    repeat (any_goals (first
    | (with_reducible refine And.intro hk ?_)
    | (with_reducible first|refine pX ?_|((refine b5d ?_); refine a4w fun _=>?_)|refine zB ?_)
    | ((with_reducible refine b4u ?_); (with_reducible first|refine vA ?_|refine vB ?_))))
    exact a3i s ad _ c hk (fun W3 hk hc=>⟨hk,hk,_,by simp [go_sem,hc],k2 _ _ (by rw [hv,he]; simp) hk.below⟩)
   | true=>
    repeat (any_goals (first
    | (with_reducible refine And.intro hk ?_)
    | ((with_reducible refine mk1 t.r ht.r ?_); intro v9 W9 hb9 hi9)
    | (with_reducible first|refine pX ?_|((refine b5d ?_); refine a4w fun _=>?_)|refine zA ?_)
    | ((with_reducible refine b4u ?_); first|(with_reducible refine vA ?_)|(with_reducible refine a3h ⟨_,rfl⟩ (fun W0 hW0=>by (refine oG (fun X Y=>?_)); simp [go_sem,hW0.cells]; (first | exact Y _ _ ⟨rfl,rfl⟩ | exact ⟨by omega,Y _ _ ⟨rfl,rfl⟩⟩)) ?_))))
    have hk:=hk.next hb9
    refine ⟨hk,b4k s 0 (hs.next hk.below) hi9 (fun w4 h4=>?_)⟩
    have hk:=hk.next h4
    refine ⟨hk,?_⟩
    repeat (any_goals (first
    | (with_reducible refine And.intro hk ?_)
    | ((with_reducible refine b4u ?_); (with_reducible refine vA ?_))))
    exact a3i s ad _ c hk (fun W3 hk hc=>⟨hk,hk,_,by simp [go_sem,hc],k2 _ _ (by rw [hv,he]; simp [hm]) hk.below⟩)
abbrev OwnI (w:World) (B:Nat) (v:Value) (l:List Int):Prop:=w.ownsRow B 3 1 v l.length (a3a intC l)
theorem OwnI.ints {B:Nat} {v:Value} {l:List Int} (h:OwnI w B v l) (hr:∀ n ∈ l,I64 n) (hl:l.length ≤ 9223372036854775807):Ints w v l:=Ints.of_owns h hr hl
theorem a8o {B C:Nat} {e:TypeId} {sz:Nat} {v:Value} {n:Nat} {xs:List Value} (h:w.ownsRow B e sz v n xs) (hc:∀ i,v.ownBlock = some i → C ≤ i):w.ownsRow C e sz v n xs:=by
 refine ⟨h.1,h.2.imp id ?_⟩
 rintro ⟨g,cap,cur,rfl,hb,hr⟩
 exact ⟨g,cap,cur,rfl,hc g rfl,hr⟩
theorem OwnI.keep {B:Nat} {v:Value} {l:List Int} {w':World} (h:OwnI w B v l) (hb:Bw w w'):OwnI w' B v l:=
 a1j h (fun i hi=>hb.block i (a0x h hi).1)
theorem g1a {B:Nat} {T:TypeId} {v xv:Value} {l:List Int} {x:Int} (ho:OwnI w B v l) (hB:B ≤ w.heap.size) (hx:Ints w xv [x]) (hl:l.length < 1099511627776)
  (k:∀ v' w',OwnI w' B v' (l ++ [x]) → Below B w w' → K v' w'):oM Tryz.prog (.call { callee:=.builtin .append,args:=#[.tmp 0,.tmp 1],argTypes:=#[24,24] }) T [v,xv] K w:=by
 obtain ⟨⟨ad,c,rfl,h0,hc⟩,hr,_⟩:=hx
 have hc:=hc.resolve_left (by simp)
 obtain ⟨b,o,rfl,hlt,hcell⟩:=hc
 refine a8y 24 T 3 ((Tryz.prog.info? 3).getD default) (.int .i64 0) 1 8 (by kernel_rfl) (by kernel_rfl) (by kernel_rfl) (by kernel_rfl) (by kernel_rfl) (by kernel_rfl) (by omega) (a8x ho (Nat.zero_le _)) [.int .i64 x] (by simp) (by simp) ?_ ?_ (by simp only [maxLen,List.length_singleton]; omega) (by simp only [List.length_singleton]; omega) ?_
 ·rintro a ha j u hj
  cases ha
  rw [a4n]
  exact hcell j u hj
 ·intro u hu
  simp only [List.mem_singleton] at hu
  subst hu; rfl
 ·intro v' w' ho' hg hv
  have hbl:∀ i,v.ownBlock = some i → B ≤ i:=fun i hi=>(a0x ho hi).2.1
  refine k v' w' ?_ ((Below.refl B w).grown hg hB hbl)
  have e1:(l ++ [x]).length = l.length + [x].length:=by simp
  have e2:a3a intC (l ++ [x]) = a3a intC l ++ [Value.int .i64 x]:=by rw [flat_int,flat_int]; simp
  show w'.ownsRow B 3 1 v' (l ++ [x]).length (a3a intC (l ++ [x]))
  rw [e1,e2]
  exact a8o ho' (fun i hi=>(hv i hi).elim (hbl i) (fun h=>Nat.le_trans hB h))
end
section
variable {K:VK} {w w0 w1:World} {L:List (Addr × Value)}
theorem e3s (w:World):(sizeOf 84).run Tryz.prog w = .ok 2 w:=by kernel_rfl
theorem a9x (w:World):(sizeOf 24).run Tryz.prog w = .ok 1 w:=by kernel_rfl
theorem f8f (w:World):(Instr.alloc 84 true (.tuple #[])).run Tryz.prog w = .ok (.pointer (some ⟨w.heap.size,0,none⟩)) (w.alloc (.cells [.int .i64 0,.slice none 0 0].toArray 84)):=by kernel_rfl
theorem e3t (x:Spd) (ad:Option Addr) (n c:Nat):∀ u ∈ g7j x (.slice ad n c),u.oneCell' = true:=by
 intro u hu
 simp only [g7j,List.mem_cons,List.not_mem_nil,or_false] at hu
 rcases hu with rfl | rfl <;> rfl
theorem b3k {K:VK} {T':TypeId} {g:Nat} (x:Spd) (ad:Option Addr) (m c:Nat) (hk:KnM w0 L g 2 w)
  (k:∀ W,KnM w0 L g 2 W → a2h W (cellsOf [] g 0 (g7j x (.slice ad m c))) → w.grownBy W (some g) → K undef W):oM Tryz.prog (.store 84 (.tmp 0) (.tmp 1)) T' [.pointer (some ⟨g,0,none⟩),g2a x (.slice ad m c)] K w:=by
 obtain ⟨W,e,hg,hm,hc⟩:=b6z (P:=Tryz.prog) (W:=w) e3s (x:=g2a x (.slice ad m c)) rfl rfl (e3t x ad m c) hk.mine
 rw [a9u,e]
 exact k W ⟨hk.kn.wrote hg hk.base hk.off,hm,hk.base,hk.off⟩ hc hg
theorem c5l {P:Program} {T T0:TypeId} {g o n:Nat} {cur:Array Value} {x:Value} {xs:List Value} (hT:∀ w,(sizeOf T).run P w = .ok n w) (hx:x.cells = xs.toArray) (hl:xs.length = n) (h1:∀ u ∈ xs,u.oneCell' = true) (hg:w.heap[g]? = some (.cells cur T0 (0,0))) (hfit:o + n ≤ cur.size) :
  (Instr.storeAt T (.pointer (some ⟨g,o,none⟩)) x).run P w = .ok () (w.setRow g (cur.toList.take o ++ xs ++ cur.toList.drop (o + xs.length)).toArray):=by
 have hst:=run_storeCells_at P g o T0 xs 0 cur w hg (by omega) h1
 rw [Nat.add_zero] at hst
 unfold Instr.storeAt storeVar
 have e2:x.cells.toList = xs:=by rw [hx]
 have e3:x.cells.size = n:=by rw [hx]; simpa using hl
 rw [e2,e3]
 rw [List.append_assoc] at hst ⊢
 simp [hT,go_sem]
 exact hst
theorem e3u {K:VK} {T' T2:TypeId} {g n:Nat} (x:Spd) (hk:KnM w0 L g n w)
  (k:∀ b W,KnM w0 L g n W → Bw w W → w.heap.size ≤ b → W.heap[b]? = some (.cells #[.int .i64 x.dare,.slice none 0 0] 84 (0,0)) → K (.pointer (some ⟨b,0,none⟩)) W) :
  oM Tryz.prog (.alloc 84) T' [] (fun v w=>oM Tryz.prog (.store 84 (.tmp 0) (.tmp 1)) T2 [v,g2a x (.slice none 0 0)] (fun _ w=>K v w) w) w:=by
 rw [c1s,f8f,c8l]
 have hb:=(Below.refl w.heap.size w).alloc (rL) (.cells [Value.int .i64 0,.slice none 0 0].toArray 84)
 have hg0:(w.alloc (.cells [Value.int .i64 0,.slice none 0 0].toArray 84)).heap[w.heap.size]? = some (.cells [Value.int .i64 0,.slice none 0 0].toArray 84 (0,0)):=Array.getElem?_push_size
 generalize w.alloc (.cells [Value.int .i64 0,.slice none 0 0].toArray 84) = W at *
 have hrun:=c5l (P:=Tryz.prog) (w:=W) (o:=0) e3s (x:=g2a x (.slice none 0 0)) rfl rfl (e3t x none 0 0) hg0 (by simp)
 have e1:([Value.int .i64 0,.slice none 0 0].toArray.toList.take 0 ++ g7j x (.slice none 0 0) ++ [Value.int .i64 0,.slice none 0 0].toArray.toList.drop (0 + (g7j x (.slice none 0 0)).length)).toArray = #[.int .i64 x.dare,.slice none 0 0]:=by simp
 rw [e1] at hrun
 have hh:=setRow_heap W w.heap.size _ #[Value.int .i64 x.dare,.slice none 0 0] 84 (0,0) hg0
 rw [a9u,hrun]
 have hb2:Below w.heap.size w (W.setRow w.heap.size #[Value.int .i64 x.dare,.slice none 0 0]):=hb.grown (a3k _ _ _) hb.size (fun k hk=>by cases hk; exact rL)
 exact k _ _ (hk.next hb2) hb2 (rL) hh
theorem c5m {K:VK} {T':TypeId} {g:Nat} {ad:Option Addr} {m c:Nat} {a b:Value} (hg:w.heap[g]? = some (.cells #[a,b] 84 (0,0)))
  (k:∀ W,w.grownBy W (some g) → W.heap[g]? = some (.cells #[a,.slice ad m c] 84 (0,0)) → K undef W):oM Tryz.prog (.store 24 (.tmp 0) (.tmp 1)) T' [.pointer (some ⟨g,1,none⟩),.slice ad m c] K w:=by
 have hrun:=c5l (P:=Tryz.prog) (o:=1) a9x (x:=.slice ad m c) rfl rfl (xs:=[Value.slice ad m c]) (by intro u hu; simp at hu; subst hu; rfl) hg (by simp)
 have hh:=setRow_heap w g _ #[a,.slice ad m c] 84 (0,0) hg
 have e1:(#[a,b].toList.take 1 ++ [Value.slice ad m c] ++ #[a,b].toList.drop (1 + [Value.slice ad m c].length)).toArray = #[a,.slice ad m c]:=by simp
 rw [e1] at hrun
 rw [a9u,hrun]
 exact k _ (a3k _ _ _) hh
abbrev FrG (g:Nat) (w w':World):Prop:=Fr (fun i=>i = g) w w'
theorem FrG.next {g:Nat} {w':World} (h:FrG g w w1) (hb:Bw w1 w'):FrG g w w':=
 h.trans (S':=fun _=>False) ⟨hb.os,hb.tape,hb.output,hb.size,fun i hi _=>hb.block i hi⟩ (fun _ h=>h.elim)
theorem FrG.below {g:Nat} {w':World} (h0:Bw w w1) (h:FrG g w1 w') (hg:w.heap.size ≤ g):Bw w w':=
 ⟨h.os.trans h0.os,h.tape.trans h0.tape,h.output.trans h0.output,Nat.le_trans h0.size h.size,fun i hi=>(h.block i (lL hi h0.size) (fun e=>by omega)).trans (h0.block i hi)⟩
theorem c8r {g:Nat} {w':World} (hL:a2h w L) (h:FrG g w w') (hn:∀ p ∈ L,p.1.block ≠ g):a2h w' L:=
 a6t hL hn fun a ha hna=>World.cell?_of_block (w:=w) (h.block _ ha hna)
theorem _root_.Go.Sh.KnM.fr {g n g':Nat} {w':World} (hk:KnM w0 L g n w) (h:FrG g' w w') (hoff:∀ p ∈ L,p.1.block ≠ g') (hne:g ≠ g') (hb:w0.heap.size ≤ g'):KnM w0 L g n w':=by
 obtain ⟨cur,T,h1,h2⟩:=hk.mine
 exact ⟨⟨FrG.below hk.below h hb,c8r hk.cells h hoff⟩,⟨cur,T,by rw [h.block g (c8g hk.mine) hne]; exact h1,h2⟩,hk.base,hk.off⟩
theorem Ints.fr {g:Nat} {w':World} {v:Value} {l:List Int} (hi:Ints w v l) (h:FrG g w w') (hne:∀ i,Value.inBlock v = some i → i ≠ g):Ints w' v l:=
 ⟨hi.row.keep h.size (fun i e hlt=>h.block i hlt (hne i e)),hi.rng,hi.len⟩
def UsC (St:WK) (j:Nat) (w':World):Prop:=j ≤ 4 → St w'
theorem g1b {St:WK} {n:Nat} {w':World} (h:a0p (UsC St) n w') (hn:n ≤ 4):St w':=by
 obtain ⟨s,hs,hc⟩:=h
 exact hc (Nat.le_trans hs hn)
end
end Go.Proofs
namespace Go.Proofs
open Go.Sh Tryz
variable {a0 a1 a2 a3:Value} {K:VK} {w:World}
def f6v (a0 a1 a2 a3:Value) (K:VK) (w:World):Prop:=
 oM prog (.box 26 (.tmp 0)) 0 [a0] (fun v4=>
 oM prog (.box 29 (.tmp 0)) 0 [a2] fun v6=>
 kA 84 fun v8=>
 kL 26 v4 fun v17=>
 a0a prog 247 #[v17,a1] fun v19=>
 kE 0 201 v19 fun v20=>
 kE 1 3 v19 fun v21=>
 kE 2 4 v19 fun v22=>
 kA 201 fun v10=>
 kS 201 v10 v20 fun _=>
 kU v22 fun v24 w=>
 gF v24 (kL 201 v10) (fun v26 w=>
 gF v24 (kL 29 v6) (fun v27 w=>
 gF v24 (a0a prog 248 #[v26,v27]) (fun v28 w=>
 gF v24 (kU v28) (fun v29=>
 kP v24 (.bool true) v29 fun v30 w=>
 gF v30 (kL 201 v10) (fun v32 w=>
 gF v30 (a0f a3) (fun v33 w=>
 gF v30 (oM prog (.buildSlice 24 1 #[(0,(.tmp 0))]) 24 [v33]) (fun v34 w=>
 gF v30 (a0a prog 209 #[v32,(.int .i64 1),v34]) (fun v35 w=>
 gF v30 (kU v35) (fun v36=>
 kP v30 (.bool true) v36 fun v37=>
 kO v37 (oM prog (.build 84 #[]) 84 [] fun v38=>
 kS 84 v8 v38 fun _ w=>
 ∃ r_23,(do loadVar 84 (← asAddr v8):Sem Value).run prog w = .ok r_23 w ∧ K (.tuple #[r_23,(.bool false)]) w)
 (oM prog (.build 84 #[(0,(.tmp 0))]) 84 [a3] fun v40=>
 kA 84 fun v13=>
 kS 84 v13 v40 fun _=>
 a0a prog 211 #[a1] fun v42=>
 kN 24 v42 fun v43=>
 kQ [undef,undef,(.int .i64 0)] fun J_28 m_29 l_30 u_l_30 w0_l_30=>(fun w=>(
 kB .lss 3 0 (l_30.getD 2 undef) v43 (fun v45=>
 kO v45 (kI 24 v42 (l_30.getD 2 undef) fun v47=>
 kL 3 v47 fun v48 w=>
 a4t w fun C_34 w=>(jF 84 1 v13 (a0p C_34 4) fun v49=>
 jL 24 v49 (a0p C_34 4) fun v50=>
 jL 201 v10 (a0p C_34 2) fun v51=>
 jF 29 3 v6 (a0p C_34 2) fun v52=>
 jL 24 v52 (a0p C_34 2) fun v53=>
 a0g (l_30.getD 2 undef) (a0p C_34 2) fun v54=>
 jI 24 v53 v54 (a0p C_34 2) fun v55=>
 jL 3 v55 (a0p C_34 2) fun v56=>
 jL 201 v10 (a0p C_34 1) fun v57=>
 a0g a3 (a0p C_34 1) fun v58=>
 jF 29 0 v6 (a0p C_34 0) fun v59=>
 jL 3 v59 (a0p C_34 0) fun v60=>
 a0g v48 (a0p C_34 0) fun v61=>
 oM prog (.buildSlice 24 2 #[(0,(.tmp 0)),(1,(.tmp 1))]) 24 [v60,v61] (fun v62 w=>C_34 1 w ∧ (
 a0a prog 250 #[v57,v58,v62] (fun v63 w=>C_34 2 w ∧ (
 a0a prog 249 #[v51,v56,v63] (fun v64 w=>C_34 3 w ∧ (
 oM prog (.buildSlice 24 1 #[(0,(.tmp 0))]) 24 [v64] (fun v65 w=>C_34 4 w ∧ (
 oM prog (.call (Go.Call.mk (.builtin .append) #[(.tmp 0),(.tmp 1)] #[24,24])) 24 [v50,v65] (fun v66 w=>C_34 5 w ∧ (
 kF 84 1 v13 (fun v67 w=>C_34 6 w ∧ (
 kS 24 v67 v66 (fun _ w=>C_34 7 w ∧ (
 kB .add 3 3 (l_30.getD 2 undef) (.int .i64 1) (fun v68=>
 kJ J_28 m_29 l_30 w0_l_30 [(l_30.getD 2 undef),v48,v68]) w)) w)) w)) w)) w)) w)) w)) w))
 (kL 84 v13 fun v69=>
 kS 84 v8 v69 fun _ w=>
 ∃ r_56,(do loadVar 84 (← asAddr v8):Sem Value).run prog w = .ok r_56 w ∧ K (.tuple #[r_56,(.bool true)]) w)) w)) w0_l_30)) w) w) w) w) w) w) w) w) w) w
theorem d8t (h:f6v a0 a1 a2 a3 K w):a0a prog 197 #[a0,a1,a2,a3] K w:=
 cZ (fun _=>3) func197 h
end Go.Proofs
namespace Go.Proofs
open Go Go.Sh Go.RowKit FdSpec TkSpec
section
variable {K:VK} {w w0 w1:World} {L:List (Addr × Value)}
def g1c (s:Stp) (l:List Int) (b:Bld) (dare:Int):List Int:=((b3l l).zip b.ys).map fun p=>e3v s p.2 (g2b s dare [b.s,p.1])
theorem g1d {s:Stp} {l:List Int} {b:Bld} {dare:Int} (h:(a9y s l).2 = false ∨ a9z s b = false ∨ a5h s 1 [dare] = false):e5n s l b dare = (⟨0,[]⟩,false):=by
 unfold e5n
 rw [if_neg]
 rcases h with h | h | h <;> simp [h]
theorem f2k {s:Stp} {l:List Int} {b:Bld} {dare:Int} (h1:(a9y s l).2 = true) (h2:a9z s b = true) (h3:a5h s 1 [dare] = true):e5n s l b dare = (⟨dare,g1c s l b dare⟩,true):=by
 unfold e5n
 rw [if_pos (by rw [h1,h2,h3]; rfl)]
 rfl
theorem d3o {s:Stp} {l:List Int} (h:(a9y s l).2 = true):l.length + 1 = s.bases.length ∧ a1u s = true:=by
 unfold a9y at h
 simp only [bA] at h
 have h:=h.1
 unfold a7f at h
 split at h
 ·rename_i hc
  simp only [bA,dE] at hc
  exact ⟨hc.1.1.2,hc.1.1.1⟩
 ·cases h
theorem d3p {s:Stp} {b:Bld} (h:a9z s b = true):b.ys.length = s.bases.length:=by
 unfold a9z at h
 simp only [bA,dE] at h
 exact h.1.2
def UsJ (al:List Int) (dare:Int) (g13:Nat) (Wl:World) (vs:List Value) (w':World):Prop:=FrG g13 Wl w' ∧ ∃ (v u ov:Value) (i:Nat),vs = [v,u,.int .i64 (i:Int)] ∧ i ≤ al.length ∧ OwnI w' Wl.heap.size ov (al.take i) ∧ w'.heap[g13]? = some (.cells #[.int .i64 dare,ov] 84 (0,0))
theorem f8g (s:Stp) (b:Bld) (dare:Int) {v bv lv:Value} {l:List Int} (hd:I64 dare) (hs:SetR w s v) (hl:Ints w lv l) (hb:BldR w b bv)
  (k:∀ w' ov,Bw w w' → Ints w' ov (e5n s l b dare).1.answers → (∀ i,Value.inBlock ov = some i → w.heap.size ≤ i) → K (.tuple #[g2a (e5n s l b dare).1 ov,.bool (e5n s l b dare).2]) w'):a0a Tryz.prog 197 #[b0d s v,lv,h2j b bv,.int .i64 dare] K w:=by
 apply d8t
 unfold f6v
 obtain ⟨ad,c,rfl⟩:=hs.ints.isSlice
 have hys:=hb.ys
 have hb0:=hb
 obtain ⟨yad,yc,rfl⟩:=hb.ys.isSlice
 have k2:∀ w' ov r,e5n s l b dare = r → Bw w w' → Ints w' ov r.1.answers → (∀ i,Value.inBlock ov = some i → w.heap.size ≤ i) → K (.tuple #[g2a r.1 ov,.bool r.2]) w':=fun w' ov r e hb hi hv=>by
  rw [← e] at hi ⊢
  exact k w' ov hb hi hv
 clear k
 refine a1b (cs:=a9w s (.slice ad s.bases.length c)) rfl (.start w) fun b1 W hk hb1 hbb=>?_
 refine a1b (cs:=c2f b (.slice yad b.ys.length yc)) rfl hk fun b2 W2 hk hb2 hbb=>?_
 refine a7k (n:=2) f8f rfl hk fun g W2 hk hb2 hg=>?_
 clear hb1 hb2
 refine Xa hk.cells ?_
 refine e3p s (hs.next hk.below) (hl.next hk.below) (fun w2 h2=>?_)
 have hk:=hk.next h2
 clear h2
 have hno:=g1d (s:=s) (l:=l) (b:=b) (dare:=dare)
 cases hu:(a9y s l).2 with
 | false=>
  repeat (any_goals (first
  | ((with_reducible refine a5e s ad s.bases.length c hk ?_); intro b7 W7 hk hb7 hg7)
  | (with_reducible first|refine zD ?_|refine yB ?_|refine yL ?_)
  | ((with_reducible refine oG fun X Y=>?_); simp [go_sem,hk.cells]; apply Y; clear Y X)))
  exact b3k ⟨0,[]⟩ none 0 0 hk (fun W3 hk hc _=>⟨_,by simp [go_sem,hc],k2 _ _ _ (hno (.inl hu)) hk.below (Ints.nil _) (fun i h=>by cases h)⟩)
 | true=>
  obtain ⟨hll,hv⟩:=d3o hu
  have hv7:=a8z hv
  repeat (any_goals (first
  | ((with_reducible refine a5e s ad s.bases.length c hk ?_); intro b7 W7 hk hb7 hg7)
  | (with_reducible refine zC ?_)
  | ((with_reducible refine oG fun X Y=>?_); simp [go_sem,hk.cells]; apply Y; clear Y X)))
  refine e3q s b (hs.next hk.below) (hb0.next hk.below) (fun w3 h3=>?_)
  have hk:=hk.next h3
  cases hbl:a9z s b with
  | false=>
   refine Xa hk.cells ?_
   exact b3k ⟨0,[]⟩ none 0 0 hk (fun W3 hk hc _=>⟨_,by simp [go_sem,hc],k2 _ _ _ (hno (.inr (.inl hbl))) hk.below (Ints.nil _) (fun i h=>by cases h)⟩)
  | true=>
   have hyl:=d3p hbl
   repeat (any_goals (first
   | ((with_reducible refine mk1 dare hd ?_); intro v8 W8 hb8 hi)
   | (with_reducible first|refine a0v ?_|refine zC ?_|refine yC ?_)
   | ((with_reducible refine oG fun X Y=>?_); simp [go_sem,hk.cells]; apply Y; clear Y X)))
   have hk:=hk.next hb8
   refine b4k s 1 (hs.next hk.below) hi (fun w4 h4=>?_)
   have hk:=hk.next h4
   cases hn:a5h s 1 [dare] with
   | false=>
    refine Xa hk.cells ?_
    exact b3k ⟨0,[]⟩ none 0 0 hk (fun W3 hk hc _=>⟨_,by simp [go_sem,hc],k2 _ _ _ (hno (.inr (.inr hn))) hk.below (Ints.nil _) (fun i h=>by cases h)⟩)
   | true=>
    have ey:=f2k hu hbl hn
    have hgW:g < w4.heap.size:=c8g hk.mine
    have hoffL:=a8h hk.cells
    repeat (any_goals (first
    | ((with_reducible refine e3u ⟨dare,[]⟩ hk ?_); intro g13 W9 hk hb9 hg13 hh13)
    | (with_reducible first|refine zC ?_|refine yC ?_|refine yM ?_)
    | ((with_reducible refine oG fun X Y=>?_); simp [go_sem,hk.cells]; apply Y; clear Y X)))
    refine e3m (hl.next hk.below) (by omega) (by omega) (fun ev w5 he h5 hff=>?_)
    have hg13W:=(Array.getElem?_eq_some_iff.1 hh13).1
    have hh13:w5.heap[g13]? = some (.cells #[.int .i64 dare,.slice none 0 0] 84 (0,0)):=by rw [h5.block g13 hg13W]; exact hh13
    have hk:=hk.next h5
    have hel:(b3l l).length = l.length + 1:=rfl
    have hal:(g1c s l b dare).length = l.length + 1:=by simp [g1c,hel]; omega
    have hat:∀ (i:Nat) (h1:i < (b3l l).length) (h2:i < b.ys.length),(g1c s l b dare)[i]? = some (e3v s b.ys[i] (g2b s dare [b.s,(b3l l)[i]])):=fun i h1 h2=>by
     simp [g1c,h1,h2,List.getElem?_zip_eq_some]
     exact ⟨_,_,⟨rfl,rfl⟩,rfl⟩
    have hrng:∀ n ∈ g1c s l b dare,I64 n:=by
     intro n hn
     obtain ⟨m,_,rfl⟩:=List.mem_map.1 hn
     exact d1h _ _ _
    generalize g1c s l b dare = al at *
    obtain ⟨ead,ec,rfl⟩:=he.isSlice
    have hs5:=h5.size
    have hs9:=hb9.size
    have hing:∀ i,Value.inBlock (.slice ead (b3l l).length ec) = some i → i ≠ g13:=fun i hi=>by
     have:=hff i hi
     omega
    refine Xa0 ?_
    refine ⟨UsJ al dare g13 w5,f2f (b3l l).length,⟨Fr.refl _ _,_,_,.slice none 0 0,0,rfl,by omega,World.ownsRow_nil _ _ _ _,hh13⟩,?_⟩
    have hk0:=hk
    have hgne:g ≠ g13:=by omega
    have hoff13:∀ p ∈ cellsOf (cellsOf (cellsOf [] b1 0 (a9w s (.slice ad s.bases.length c))) b2 0 (c2f b (.slice yad b.ys.length yc))) b7 0 (a9w s (.slice ad s.bases.length c)),p.1.block ≠ g13:=fun p hp=>by have:=hoffL p hp; omega
    have hw13:w.heap.size ≤ g13:=Nat.le_trans hk0.base (by omega)
    rintro _ _ w6 ⟨h6,u1,u2,ov,i,rfl,hi,ho,hh⟩
    have hk:=hk0.fr h6 hoff13 hgne hw13
    by_cases hin:i = (b3l l).length
    ·rw [List.take_of_length_le (by omega)] at ho
     have hints:=ho.ints hrng (by omega)
     obtain ⟨g',cap,cur,rfl,hlt,hB,_,_,_,hcell⟩:=a3u ho (by omega)
     have c0:w6.cell? ⟨g13,0,none⟩ = some (.int .i64 dare):=by rw [a0b hh]; rfl
     have c1:w6.cell? ⟨g13,1,none⟩ = some (.slice (some ⟨g',0,none⟩) al.length cap):=by rw [a0b hh]; rfl
     refine Xa (An2 @c0 @c1) ?_
     refine b3k ⟨dare,al⟩ _ _ _ hk (fun W3 hk hc hgr=>⟨_,by simp [go_sem,hc],k2 _ _ _ ey hk.below ⟨hints.row.keep hgr.size (fun i hi hlt=>hgr.block i hlt ?_),hrng,by show al.length ≤ _; omega⟩ (fun i hi=>by cases hi; show w.heap.size ≤ g'; have:=hk0.base; omega)⟩)
     cases hi
     intro e
     have e2:g' = g:=oI e
     omega
    ·have hev:=Ints.fr he h6 hing
     have hed:=FrG.below hk0.below h6 hw13
     obtain ⟨b8,o8,rfl,hb8',ca,ra,_⟩:=hev.at (i:=i) (by omega)
     obtain ⟨b9,o9,rfl,hb9',cb,rb,_⟩:=hys.at (i:=i) (by omega)
     have c1:∀ w',Bw w6 w' → w'.heap[g13]? = some (.cells #[.int .i64 dare,ov] 84 (0,0)):=fun w' hw=>by rw [hw.block g13 (Array.getElem?_eq_some_iff.1 hh).1]; exact hh
     refine Xa (ca _ (bR)) ?_
     refine ⟨UsC (fun w'=>KnM w _ g 2 w' ∧ Bw w w' ∧ w'.cell? ⟨g13,1,none⟩ = some ov),fun _=>⟨hk.drew,hk.drew.below,by rw [a0b (c1 _ .drawn)]; rfl⟩,?_⟩
     have hk:=hk.drew
     have ho:=ho.keep (Below.drawn (w:=w6))
     have h7:Below w6.heap.size w6 { w6 with drawn:=w6.drawn + 1 }:=.drawn
     have hfr:=FrG.next h6 h7
     have hh1:=c1 _ h7
     repeat (any_goals (first
     | ((with_reducible refine mk2 b.s _ hb.s ra ?_); intro v10 w10 h10 hi10)
     | (with_reducible refine pX ?_)
     | ((with_reducible refine b4u ?_); (with_reducible refine a3h ⟨_,rfl⟩ (fun W0 hW0=>by (refine oG (fun X Y=>?_)); simp [go_sem,(g1b hW0 (by omega)).1.cells,(g1b hW0 (by omega)).2.2,cb _ (g1b hW0 (by omega)).2.1]; (first | exact Y _ _ ⟨rfl,rfl⟩ | exact ⟨by omega,Y _ _ ⟨rfl,rfl⟩⟩)) ?_))))
     have hk:=hk.next h10
     have hh1:w10.heap[g13]? = _:=(h10.block g13 (Array.getElem?_eq_some_iff.1 hh1).1).trans hh1
     have ho:=ho.keep h10
     have hfr:=hfr.next h10
     refine ⟨fun _=>⟨hk,hk.below,by rw [a0b hh1]; rfl⟩,g7h s _ (hs.next hk.below) hi10 (fun w11 h11=>?_)⟩
     have hk:=hk.next h11
     have hh1:w11.heap[g13]? = _:=(h11.block g13 (Array.getElem?_eq_some_iff.1 hh1).1).trans hh1
     have ho:=ho.keep h11
     have hfr:=hfr.next h11
     refine ⟨fun _=>⟨hk,hk.below,by rw [a0b hh1]; rfl⟩,g0y s _ _ (hs.next hk.below) (fun w12 h12=>?_)⟩
     have hk:=hk.next h12
     have hh1:w12.heap[g13]? = _:=(h12.block g13 (Array.getElem?_eq_some_iff.1 hh1).1).trans hh1
     have ho:=ho.keep h12
     have hfr:=hfr.next h12
     refine ⟨fun _=>⟨hk,hk.below,by rw [a0b hh1]; rfl⟩,mk1 _ (d1h _ _ _) (fun v13 w13 h13 hi13=>?_)⟩
     have hk:=hk.next h13
     have hh1:w13.heap[g13]? = _:=(h13.block g13 (Array.getElem?_eq_some_iff.1 hh1).1).trans hh1
     have ho:=ho.keep h13
     have hfr:=hfr.next h13
     refine ⟨fun _=>⟨hk,hk.below,by rw [a0b hh1]; rfl⟩,g1a ho hfr.size hi13 (by simp; omega) (fun v14 w14 ho h14=>?_)⟩
     have hg5:g13 < w5.heap.size:=by omega
     have hh1:w14.heap[g13]? = _:=(h14.block g13 hg5).trans hh1
     have hfr:FrG g13 w5 w14:=hfr.trans (S':=fun i=>w5.heap.size ≤ i) ⟨h14.os,h14.tape,h14.output,h14.size,fun i hi hn=>h14.block i (by omega)⟩ (fun i h=>.inr h)
     refine ⟨fun h=>absurd h (by omega),?_⟩
     have hli:((al.take i) ++ [e3v s b.ys[i] (g2b s dare [b.s,(b3l l)[i]])]) = al.take (i + 1):=by
      rw [List.take_add_one,hat i (by omega) (by omega)]
      rfl
     rw [hli] at ho
     obtain ⟨oad,oc,hov⟩:=a2a ho
     subst hov
     refine Xa0 ?_
     refine ⟨fun h=>absurd h (by omega),c5m hh1 (fun w15 hgr hh2=>⟨fun h=>absurd h (by omega),?_⟩)⟩
     have hfr:FrG g13 w5 w15:=hfr.by hgr (fun i e=>.inl (oI e).symm)
     have ho:OwnI w15 w5.heap.size _ _:=a1j ho (fun j hj=>hgr.block j (a0x ho hj).1 (fun e=>by have:=(a0x ho hj).2.1; have:=oI e; omega))
     refine Xa0 ?_
     refine ⟨⟨hfr,_,_,_,i + 1,rfl,by omega,ho,hh2⟩,?_⟩
     simp only [b2d]; omega
end
end Go.Proofs
namespace Go.Sh
open Go Go.RowKit
section
variable {P:Program} {w w':World} {K:VK}
theorem a8o {B C:Nat} {e:TypeId} {sz:Nat} {v:Value} {n:Nat} {xs:List Value} (h:w.ownsRow B e sz v n xs) (hv:∀ i,v.ownBlock = some i → C ≤ i):w.ownsRow C e sz v n xs:=
 ⟨h.1,h.2.imp id (fun ⟨g,cap,cur,a,b,r⟩=>⟨g,cap,cur,a,hv g (by rw [a]; rfl),r⟩)⟩
end
end Go.Sh
namespace Go.Sh
open Go Go.RowKit
section
variable {w w':World} {D E:Nat → Prop} {p q:WK}
def FP (D:Nat → Prop) (w:World) (p:WK):Prop:=∀ w':World,w'.os = w.os → w'.tape = w.tape → w'.output = w.output → w.heap.size ≤ w'.heap.size → (∀ i,D i → w'.heap[i]? = w.heap[i]?) → p w'
theorem FP.here (h:FP D w p):p w:=h w rfl rfl rfl (rL) (fun _ _=>rfl)
theorem FP.mono (h:FP D w p) (hd:∀ i,D i → E i):FP E w p:=fun w' a b c d e=>h w' a b c d (fun i hi=>e i (hd i hi))
theorem FP.imp (h:FP D w p) (hp:∀ w',p w' → q w'):FP D w q:=fun w' a b c d e=>hp w' (h w' a b c d e)
theorem FP.and (h:FP D w p) (k:FP E w q):FP (fun i=>D i ∨ E i) w (fun w=>p w ∧ q w):=fun w' a b c d e=>⟨h w' a b c d (fun i hi=>e i (.inl hi)),k w' a b c d (fun i hi=>e i (.inr hi))⟩
theorem FP.both (h:FP D w p) (k:FP D w q):FP D w (fun w=>p w ∧ q w):=fun w' a b c d e=>⟨h w' a b c d e,k w' a b c d e⟩
theorem FP.fr {S:Nat → Prop} (h:FP D w p) (hf:Fr S w w') (hD:∀ i,D i → i < w.heap.size ∧ ¬ S i):FP D w' p:=fun w2 a b c d e=>
 h w2 (a.trans hf.os) (b.trans hf.tape) (c.trans hf.output) (Nat.le_trans hf.size d) (fun i hi=>(e i hi).trans (hf.block i (hD i hi).1 (hD i hi).2))
theorem FP.by {b:Option Nat} (h:FP D w p) (hf:w.grownBy w' b) (hD:∀ i,D i → i < w.heap.size ∧ b ≠ some i):FP D w' p:=fun w2 a b c d e=>
 h w2 (a.trans hf.os) (b.trans hf.tape) (c.trans hf.output) (Nat.le_trans hf.size d) (fun i hi=>(e i hi).trans (hf.block i (hD i hi).1 (fun x=>(hD i hi).2 (by first | exact x | exact x.symm))))
theorem FP.next (h:FP D w p) (hb:Bw w w') (hD:∀ i,D i → i < w.heap.size):FP D w' p:=fun w2 a b c d e=>
 h w2 (a.trans hb.os) (b.trans hb.tape) (c.trans hb.output) (Nat.le_trans hb.size d) (fun i hi=>(e i hi).trans (hb.block i (hD i hi)))
theorem Ints.fp {v:Value} {l:List Int} (h:Ints w v l):FP (fun i=>Value.inBlock v = some i ∧ i < w.heap.size) w (fun w=>Ints w v l):=fun w' _ _ _ d e=>
 ⟨h.row.keep d (fun i hi hlt=>e i ⟨hi,hlt⟩),h.rng,h.len⟩
end
abbrev Cl (n:Nat):={c:List Value // c.length = n}
def Cl.cs {n:Nat} (c:Cl n):List Value:=c.1
def b8b {α:Type} (n:Nat) (V:World → List Value → α → Prop) (w:World) (b p:Nat) (x:α):Prop:=∃ c:List Value,c.length = n ∧ (∀ (j:Nat) (u:Value),c[j]? = some u → w.cell? ⟨b,p + j,none⟩ = some u) ∧ V w c x
def e2b {α:Type} (V:World → List Value → α → Prop):Prop:=∀ (w w':World) (c:List Value) (x:α),V w c x → Bw w w' → V w' c x
def g5y {α:Type} (R:World → Value → α → Prop) (w:World) (c:List Value) (x:α):Prop:=∃ v,c = [v] ∧ R w v x
def Cols {α:Type} (n:Nat) (V:World → List Value → α → Prop) (w:World) (cs:List (Cl n)) (l:List α):Prop:=cs.length = l.length ∧ ∀ (i:Nat) (c:Cl n) (x:α),cs[i]? = some c → l[i]? = some x → V w c.1 x
structure GRow {α:Type} (n:Nat) (e:TypeId) (V:World → List Value → α → Prop) (B:Nat) (D:Nat → Prop) (w:World) (v:Value) (l:List α):Prop where
 ex:∃ cs:List (Cl n),w.ownsRow B e n v l.length (a3a Cl.cs cs) ∧ FP D w (fun w=>Cols n V w cs l)
section
variable {α:Type} {n:Nat} {e:TypeId} {V:World → List Value → α → Prop} {B:Nat} {D E:Nat → Prop} {w w':World} {v:Value} {l:List α}
theorem GRow.nil:GRow n e V B D w (.slice none 0 0) []:=⟨[],⟨by simp [a3a],.inl ⟨rfl,rfl⟩⟩,fun _ _ _ _ _ _=>⟨rfl,fun _ _ _ h=>by simp at h⟩⟩
theorem GRow.mono (h:GRow n e V B D w v l) (hd:∀ i,D i → E i):GRow n e V B E w v l:=by
 obtain ⟨cs,h1,h2⟩:=h.ex
 exact ⟨cs,h1,h2.mono hd⟩
theorem GRow.own (h:GRow n e V B D w v l) {i:Nat} (hi:v.ownBlock = some i):i < w.heap.size ∧ B ≤ i:=by
 obtain ⟨cs,h1,_⟩:=h.ex
 exact ⟨(a0x h1 hi).1,(a0x h1 hi).2.1⟩
theorem GRow.isSlice (h:GRow n e V B D w v l):∃ ad c,v = .slice ad l.length c:=by
 obtain ⟨cs,h1,_⟩:=h.ex
 exact a2a h1
theorem GRow.keep (h:GRow n e V B D w v l) {S:Nat → Prop} (hf:Fr S w w') (hD:∀ i,D i → i < w.heap.size ∧ ¬ S i) (hv:∀ i,v.ownBlock = some i → ¬ S i):GRow n e V B D w' v l:=by
 obtain ⟨cs,h1,h2⟩:=h.ex
 exact ⟨cs,a1j h1 (fun i hi=>hf.block i (a0x h1 hi).1 (hv i hi)),h2.fr hf hD⟩
theorem Fr.of_below' {S:Nat → Prop} (h:Bw w w'):Fr S w w':=⟨h.os,h.tape,h.output,h.size,fun i hi _=>h.block i hi⟩
theorem Fr.of_by (h:w.grownBy w' (some B)):Fr (fun i=>i = B) w w':=⟨h.os,h.tape,h.output,h.size,fun i hi hn=>h.block i hi (fun x=>hn (by first | exact oI x | exact (oI x).symm))⟩
theorem Fr.of_by' {b:Option Nat} (h:w.grownBy w' b):Fr (fun i=>b = some i) w w':=⟨h.os,h.tape,h.output,h.size,fun i hi hn=>h.block i hi (fun x=>hn (by first | exact x | exact x.symm))⟩
theorem GRow.next (h:GRow n e V B D w v l) (hb:Bw w w') (hD:∀ i,D i → i < w.heap.size):GRow n e V B D w' v l:=
 h.keep (S:=fun _=>False) (Fr.of_below' hb) (fun i hi=>⟨hD i hi,id⟩) (fun _ _=>id)
end
end Go.Sh
namespace Go.Sh
open Go Go.RowKit
def Fresh (W w:World) (p:WK):Prop:=FP (fun i=>W.heap.size ≤ i ∧ i < w.heap.size) w p
section
variable {W W' w w':World} {p q:WK}
theorem Fresh.next (h:Fresh W w p) (hb:Bw w w'):Fresh W w' p:=(FP.next h hb (fun i hi=>hi.2)).mono (fun i hi=>⟨hi.1,lL hi.2 hb.size⟩)
theorem Fresh.up (h:Fresh W w p) (hs:W'.heap.size ≤ W.heap.size):Fresh W' w p:=FP.mono h (fun i hi=>⟨Nat.le_trans hs hi.1,hi.2⟩)
theorem Fresh.here (h:Fresh W w p):p w:=FP.here h
theorem Fresh.imp (h:Fresh W w p) (hp:∀ w',p w' → q w'):Fresh W w q:=FP.imp h hp
theorem Fresh.both (h:Fresh W w p) (k:Fresh W w q):Fresh W w (fun w=>p w ∧ q w):=FP.both h k
theorem Holds.fp {g:Nat} {T:TypeId} {vs:List Value} (h:Holds w g T vs):FP (fun i=>i = g) w (fun w=>Holds w g T vs):=fun w' _ _ _ _ e=>(e g rfl).trans h
theorem Holds.fresh {g:Nat} {T:TypeId} {vs:List Value} (h:Holds w g T vs) (hg:W.heap.size ≤ g):Fresh W w (fun w=>Holds w g T vs):=h.fp.mono (fun i hi=>by subst hi; exact ⟨hg,h.lt⟩)
theorem Ints.fresh {v:Value} {l:List Int} (h:Ints w v l) (hg:∀ i,Value.inBlock v = some i → W.heap.size ≤ i):Fresh W w (fun w=>Ints w v l):=h.fp.mono (fun i hi=>⟨hg i hi.1,hi.2⟩)
theorem c1i {K:VK} {r:Result Value} {e:TypeId} {n:Nat} {xs:List Value} (hr:r = .ok (.slice (some ⟨w.heap.size,0,none⟩) n n) (w.alloc (.cells xs.toArray e)))
  (k:∀ g W,Bw w W → w.heap.size ≤ g → Holds W g e xs → K (.slice (some ⟨g,0,none⟩) n n) W):rM r K:=by
 rw [hr]
 refine k _ _ ((Below.refl _ w).alloc (rL) _) (rL) ?_
 have:=heap_alloc_new w (.cells xs.toArray e)
 exact this
end
end Go.Sh
namespace Go.Sh
open Go Go.RowKit
section
variable {α:Type} {n:Nat} {e:TypeId} {V:World → List Value → α → Prop} {B:Nat} {D E:Nat → Prop} {w w':World} {v:Value} {l:List α}
theorem Cols.at {cs:List (Cl n)} (h:FP D w (fun w=>Cols n V w cs l)) {i:Nat} {c:Cl n} {x:α} (hc:cs[i]? = some c) (hx:l[i]? = some x):FP D w (fun w=>V w c.1 x):=h.imp fun _ h=>h.2 i c x hc hx
theorem GRow.elem (h:GRow n e V B D w v l) {i:Nat} {x:α} (hx:l[i]? = some x):∃ (g c:Nat) (cs:List Value),v = .slice (some ⟨g,0,none⟩) l.length c ∧ g < w.heap.size ∧ B ≤ g ∧ cs.length = n ∧ (∀ (j:Nat) (u:Value),cs[j]? = some u → w.cell? ⟨g,i * n + j,none⟩ = some u) ∧ FP D w (fun w=>V w cs x):=by
 obtain ⟨cs,ho,hf⟩:=h.ex
 have hi:=(gS hx).1
 obtain ⟨hc1,_⟩:=hf.here
 have hic:i < cs.length:=by omega
 have hci:cs[i]? = some cs[i]:=gE hic
 rcases ho.2 with ⟨h1,h2⟩ | ⟨g,cap,cur,h1,hb,hg,hc,hm,hs,ht⟩
 ·omega
 refine ⟨g,cap,cs[i].1,h1,(Array.getElem?_eq_some_iff.1 hg).1,hb,cs[i].2,fun j u hj=>?_,Cols.at hf hci hx⟩
 have hj':j < n:=by have:=(gS hj).1; rw [cs[i].2] at this; exact this
 have h3:=b2b (mk:=Cl.cs) (sz:=n) (fun c=>c.2) cs i j hci hj'
 have h4:(cur.toList.take (l.length * n))[i * n + j]? = some u:=by rw [ht,h3]; exact hj
 have h5:i * n + j < l.length * n:=by
  have:(i + 1) * n ≤ l.length * n:=Nat.mul_le_mul_right n (by omega)
  rw [Nat.succ_mul] at this
  omega
 rw [List.getElem?_take_of_lt h5] at h4
 unfold World.cell?
 rw [hg]
 simpa using h4
theorem a7b {cs:List (Cl n)}:(a3a Cl.cs cs).length = cs.length * n:=a9v (sz:=n) (fun c=>c.2) cs
theorem b4d {cs:List (Cl n)} {i:Nat} {c:Cl n} (hc:cs[i]? = some c):a3a Cl.cs cs = a3a Cl.cs (cs.take i) ++ (c.1 ++ a3a Cl.cs (cs.drop (i + 1))):=by
 obtain ⟨hi,rfl⟩:=gS hc
 have e:cs = cs.take i ++ (cs[i] :: cs.drop (i + 1)):=by rw [← List.drop_eq_getElem_cons hi,List.take_append_drop]
 conv=>lhs; rw [e]
 rw [b7g]
 rfl
theorem d0v {cs:List (Cl n)} {i:Nat} {c:Cl n} (hi:i < cs.length):a3a Cl.cs (cs.set i c) = a3a Cl.cs (cs.take i) ++ (c.1 ++ a3a Cl.cs (cs.drop (i + 1))):=by
 have h:=b4d (cs:=cs.set i c) (i:=i) (c:=c) (by rw [List.getElem?_set_self hi])
 rw [h,List.take_set_of_le (rL),List.drop_set_of_lt (by omega)]
theorem GRow.put {P:Program} {K:VK} {T T':TypeId} {i off m g c:Nat} {x0 y:α} {xs:List Value} {x:Value} (h:GRow n e V B D w (.slice (some ⟨g,0,none⟩) l.length c) l) (hx0:l[i]? = some x0) (hn:off + m ≤ n)
  (hT:∀ w,(sizeOf T).run P w = .ok m w) (hx:x.cells = xs.toArray) (hl:xs.length = m) (h1:∀ u ∈ xs,u.oneCell' = true) (hD:∀ j,D j → j < w.heap.size ∧ j ≠ g)
  (hV:∀ cs:List Value,cs.length = n → (∀ (j:Nat) (u:Value),cs[j]? = some u → w.cell? ⟨g,i * n + j,none⟩ = some u) → FP D w (fun w=>V w cs x0) → FP D w (fun w=>V w (cs.take off ++ (xs ++ cs.drop (off + m))) y))
  (k:∀ W,w.grownBy W (some g) → GRow n e V B D W (.slice (some ⟨g,0,none⟩) l.length c) (l.set i y) → K undef W) :
  oM P (.store T (.tmp 0) (.tmp 1)) T' [.pointer (some ⟨g,i * n + off,none⟩),x] K w:=by
 have hi:=(gS hx0).1
 obtain ⟨g',c',cs0,hv0,_,_,hcl0,hcc0,hVx⟩:=h.elem hx0
 cases hv0
 obtain ⟨cs,ho,hf⟩:=h.ex
 obtain ⟨hc1,_⟩:=hf.here
 have hic:i < cs.length:=by omega
 have hci:cs[i]? = some cs[i]:=gE hic
 rcases ho.2 with ⟨h1',h2⟩ | ⟨g',cap,cur,h1',hb,hg,hc,hm,hs,ht⟩
 ·omega
 cases h1'
 have hh:Holds w g e cur.toList:=by
  unfold Holds
  simpa using hg
 have hin:(i + 1) * n ≤ l.length * n:=Nat.mul_le_mul_right n (by omega)
 have hcn:l.length * n ≤ c * n:=Nat.mul_le_mul_right n hc
 rw [Nat.succ_mul] at hin
 have hcell:∀ (j:Nat) (u:Value),cs[i].1[j]? = some u → w.cell? ⟨g,i * n + j,none⟩ = some u:=fun j u hj=>by
  have hj':j < n:=by have:=(gS hj).1; rw [cs[i].2] at this; exact this
  have h3:=b2b (mk:=Cl.cs) (sz:=n) (fun c=>c.2) cs i j hci hj'
  have h4:(cur.toList.take (l.length * n))[i * n + j]? = some u:=by rw [ht,h3]; exact hj
  rw [List.getElem?_take_of_lt (by omega)] at h4
  unfold World.cell?
  rw [hg]
  simpa using h4
 refine a2w (o:=i * n + off) hT hx hl h1 hh (by simp only [Array.length_toList,hs]; omega) (fun W hgr hH=>?_)
 have hD':∀ j,D j → j < w.heap.size ∧ some g ≠ some j:=fun j hj=>⟨(hD j hj).1,fun e=>(hD j hj).2 (oI e).symm⟩
 have hln:(cs[i].1.take off ++ (xs ++ cs[i].1.drop (off + m))).length = n:=by
  have:=cs[i].2
  simp only [List.length_append,List.length_take,List.length_drop]
  omega
 refine k W hgr ⟨cs.set i ⟨_,hln⟩,?_,?_⟩
 ·rw [List.length_set]
  refine ⟨by rw [d0v hic]; have:=a7b (cs:=cs.take i); have:=a7b (cs:=cs.drop (i + 1)); have e2:=ho.1; rw [b4d hci] at e2; simp only [List.length_append] at e2 ⊢; simp only [List.length_append] at hln; have:=cs[i].2; omega,.inr ⟨g,c,(cur.toList.take (i * n + off) ++ xs ++ cur.toList.drop (i * n + off + m)).toArray,rfl,hb,hH,hc,hm,?_,?_⟩⟩
  ·simp only [List.size_toArray,List.length_append,List.length_take,List.length_drop,Array.length_toList,hs,hl]
   omega
  ·rw [b4d hci] at ht
   have hA:(a3a Cl.cs (cs.take i)).length = i * n:=by rw [a7b,List.length_take]; congr 1; omega
   have hcur:cur.toList = a3a Cl.cs (cs.take i) ++ (cs[i].1 ++ a3a Cl.cs (cs.drop (i + 1))) ++ cur.toList.drop (l.length * n):=by rw [← ht,List.take_append_drop]
   have hZ:(a3a Cl.cs (cs.drop (i + 1))).length = l.length * n - (i * n + n):=by
    rw [a7b,List.length_drop,hc1,Nat.sub_mul,Nat.succ_mul]
   rw [d0v hic]
   show ((cur.toList.take (i * n + off) ++ xs ++ cur.toList.drop (i * n + off + m))).take (l.length * n) = _
   generalize cur.toList.drop (l.length * n) = R at hcur
   generalize a3a Cl.cs (cs.take i) = A at *
   generalize a3a Cl.cs (cs.drop (i + 1)) = Z at *
   have hcl:=cs[i].2
   generalize cs[i].1 = C at *
   rw [hcur]
   have e1:(A ++ (C ++ Z) ++ R).take (i * n + off) = A ++ C.take off:=by
    rw [List.append_assoc,List.take_append,hA,List.take_of_length_le (by omega),show i * n + off - i * n = off by omega,List.append_assoc,List.take_append,show off - C.length = 0 by omega,List.take_zero,List.append_nil]
   have e2:(A ++ (C ++ Z) ++ R).drop (i * n + off + m) = C.drop (off + m) ++ (Z ++ R):=by
    rw [List.append_assoc,List.drop_append,hA,List.drop_of_length_le (by omega),List.nil_append,show i * n + off + m - i * n = off + m by omega,List.append_assoc,List.drop_append,show off + m - C.length = 0 by omega,List.drop_zero]
   rw [e1,e2]
   have e3:A ++ C.take off ++ xs ++ (C.drop (off + m) ++ (Z ++ R)) = (A ++ (C.take off ++ (xs ++ C.drop (off + m)) ++ Z)) ++ R:=by simp only [List.append_assoc]
   rw [e3,List.take_append_of_le_length (by simp only [List.length_append,List.length_take,List.length_drop]; omega),List.take_of_length_le (by simp only [List.length_append,List.length_take,List.length_drop]; omega)]
 ·have hf':=hf.by hgr hD'
  have hy:=(hV cs[i].1 cs[i].2 hcell (Cols.at hf hci hx0)).by hgr hD'
  refine (hf'.both hy).imp ?_
  rintro w2 ⟨⟨hc1',hc2⟩,hy2⟩
  refine ⟨by simp [hc1'],fun j c2 z hj hz=>?_⟩
  by_cases hij:i = j
  ·subst hij
   rw [List.getElem?_set_self hic] at hj
   rw [List.getElem?_set_self hi] at hz
   cases hj; cases hz
   exact hy2
  ·rw [List.getElem?_set_ne hij] at hj hz
   exact hc2 j c2 z hj hz
theorem b4t {P:Program} {K:VK} (t T:TypeId) (i:TypeInfo) (z:Value) (bytes:Nat) (ht:P.underlying t = some (.slice e)) (hi:P.info? e = some i) (hz:i.zero = some z)
  (hsize:i.size = n) (hby:i.bytes = bytes) (hzs:z.cells.size = n) (hn:0 < n) (hbb:bytes ≤ 256)
  (h:GRow n e V B D w v l) (hB:B ≤ w.heap.size) {b o c:Nat} {x:α} {xs:List Value} (hxl:xs.length = n) (hcell:∀ (j:Nat) (u:Value),xs[j]? = some u → w.cell? ⟨b,o + j,none⟩ = some u) (h1:∀ u ∈ xs,u.oneCell' = true)
  (hx:FP D w (fun w=>V w xs x)) (hD:∀ i,D i → i < w.heap.size ∧ v.ownBlock ≠ some i) (hl:l.length < 274877906944)
  (k:∀ v' w',GRow n e V B D w' v' (l ++ [x]) → w.grownBy w' v.ownBlock → (∀ i,v'.ownBlock = some i → v.ownBlock = some i ∨ w.heap.size ≤ i) → (∀ i,D i → i < w'.heap.size ∧ v'.ownBlock ≠ some i) → K v' w') :
  oM P (.call { callee:=.builtin .append,args:=#[.tmp 0,.tmp 1],argTypes:=#[t,t] }) T [v,.slice (some ⟨b,o,none⟩) 1 c] K w:=by
 obtain ⟨cs,ho,hf⟩:=h.ex
 refine a8y t T e i z n bytes ht hi hz hsize hby hzs hn (a8x ho (Nat.zero_le _)) xs (by omega) (by simp) ?_ h1 (by simp only [maxLen]; omega) (by have:(l.length + 1) * bytes ≤ 274877906944 * 256:=Nat.mul_le_mul (by omega) hbb; omega) ?_
 ·rintro a ha j u hj
  cases ha
  rw [a4n]
  exact hcell j u hj
 ·intro v' w' ho' hg hv
  have hf':=hf.by hg hD
  refine k v' w' ⟨cs ++ [⟨xs,hxl⟩],?_,?_⟩ hg hv ?_
  ·have e2:a3a Cl.cs (cs ++ [(⟨xs,hxl⟩:Cl n)]) = a3a Cl.cs cs ++ xs:=by rw [flat_snoc]; rfl
   have e1:(l ++ [x]).length = l.length + 1:=by simp
   rw [e1,e2]
   exact a8o ho' (fun i hi=>(hv i hi).elim (fun h=>(a0x ho h).2.1) (fun h=>Nat.le_trans hB h))
  ·have hx':=hx.by hg hD
   refine (hf'.both hx').imp ?_
   rintro w2 ⟨⟨hc1,hc2⟩,hx2⟩
   refine ⟨by simp [hc1],fun i c y hi hy=>?_⟩
   by_cases hlt:i < cs.length
   ·rw [List.getElem?_append_left hlt] at hi
    rw [List.getElem?_append_left (by omega)] at hy
    exact hc2 i c y hi hy
   ·rw [List.getElem?_append_right (by omega)] at hi
    rw [List.getElem?_append_right (by omega)] at hy
    have:i - cs.length = 0:=by
     have:=(gS hi).1
     simp at this
     omega
    rw [this] at hi
    rw [show i - l.length = 0 by omega] at hy
    simp at hi hy
    subst hi; subst hy
    exact hx2
  ·intro i hi
   obtain ⟨h2,h3⟩:=hD i hi
   refine ⟨lL h2 hg.size,fun e=>?_⟩
   rcases hv i e with h4 | h4
   ·exact h3 h4
   ·omega
end
theorem b8l {P:Program} {w:World} {b p:Nat} {ty:TypeId} {cs:List Value} {d:TypeDesc} (hc:∀ (j:Nat) (v:Value),cs[j]? = some v → w.cell? ⟨b,p + j,none⟩ = some v)
  (hu:P.underlying ty = some d) (hd:(match d with | .struct _ | .array _ _=>true | _=>false) = true) (hi:(P.info? ty).map (·.size) = some cs.length) :
  (loadVar ty ⟨b,p,none⟩).run P w = .ok (.agg cs.toArray) w:=by
 have hl:(loadCells ⟨b,p,none⟩ cs.length).run P w = .ok cs.toArray w:=
  run_loadCells_list (P:=P) w ⟨b,p,none⟩ cs (fun j v hv=>by rw [a4n]; exact hc j v hv)
 cases hq:P.info? ty with
 | none=>simp [hq] at hi
 | some i=>
  have hs:i.size = cs.length:=by simpa [hq] using hi
  have hagg:(isAgg ty).run P w = .ok true w:=by
   unfold isAgg
   rw [Sem.run_bind,run_underlying hu w]
   cases d <;> simp_all
  simp [loadVar,Sem.run_bind,hagg,sizeOf,typeInfo,hq,hs,hl]
theorem a3n {P:Program} {K:VK} {T T':TypeId} {w:World} {b p:Nat} {cs:List Value} {d:TypeDesc} (hc:∀ (j:Nat) (v:Value),cs[j]? = some v → w.cell? ⟨b,p + j,none⟩ = some v)
  (hu:P.underlying T = some d) (hd:(match d with | .struct _ | .array _ _=>true | _=>false) = true) (hi:(P.info? T).map (·.size) = some cs.length) (k:K (.agg cs.toArray) w) :
  oM P (.load T (.tmp 0)) T' [.pointer (some ⟨b,p,none⟩)] K w:=by
 rw [e2t]
 have e:(Instr.loadAt T (.pointer (some ⟨b,p,none⟩))).run P w = (loadVar T ⟨b,p,none⟩).run P w:=rfl
 rw [e,b8l hc hu hd hi]
 exact k
end Go.Sh
namespace Go.Proofs
open Go.Sh Tryz
variable {a0 a1 a2:Value} {K:VK} {w:World}
def d8k (a0:Value) (K:VK) (w:World):Prop:=
 oM prog (.nilCheck (.tmp 0)) 0 [a0] (fun v3=>
 kF 258 0 v3 fun v4=>
 kL 256 v4 fun v5=>
 oM prog (.binOp .eql 256 (.tmp 0) (.const (.pointer none)) 256) 4 [v5] fun v6=>
 kO v6 (oM prog (.convert 256 318 (.tmp 0)) 318 [a0] fun v9 w=>
 g7v prog 297 #[v9] (fun v10=>
 oM prog (.convert 318 256 (.tmp 0)) 256 [v10] fun v11=>
 oM prog (.nilCheck (.tmp 0)) 0 [a0] fun v12=>
 kF 258 0 v12 fun v13=>
 kS 256 v13 v11 fun _=>
 K (.tuple #[])) w)
 (oM prog (.nilCheck (.tmp 0)) 0 [a0] fun v15=>
 kF 258 0 v15 fun v16=>
 kL 256 v16 fun v17=>
 kB .neq 256 4 v17 a0 fun v19 w=>
 a2c v19
 (False)
 (K (.tuple #[]) w))) w
theorem c3d (h:d8k a0 K w):a0a prog 264 #[a0] K w:=
 cZ (fun _=>0) func264 h
def f6n (a0 a1:Value) (K:VK) (w:World):Prop:=
 a0a prog 264 #[a0] (fun v7=>
 oM prog (.nilCheck (.tmp 0)) 0 [a0] fun v10=>
 kF 258 1 v10 fun v11=>
 kL 242 v11 fun v12=>
 oM prog (.call (Go.Call.mk (.builtin .append) #[(.tmp 0),(.tmp 1)] #[242,9])) 242 [v12,a1] fun v14=>
 oM prog (.nilCheck (.tmp 0)) 0 [a0] fun v15=>
 kF 258 1 v15 fun v16=>
 kS 242 v16 v14 fun _=>
 kN 9 a1 fun v18=>
 K (.tuple #[v18,.nilIface])) w
theorem d8l (h:f6n a0 a1 K w):a0a prog 216 #[a0,a1] K w:=
 cZ (fun _=>0) func216 h
def g4v (a0:Value) (K:VK) (w:World):Prop:=
 a0a prog 139 #[a0] (fun v4=>
 oM prog (.binOp .add 9 (.tmp 0) (.tmp 1) 9) 9 [v4,(.string ⟨#[59]⟩)] fun v5=>
 K v5) w
theorem e8p (h:g4v a0 K w):a0a prog 85 #[a0] K w:=
 cZ (fun _=>0) func85 h
def f6o (a0 a1:Value) (K:VK) (w:World):Prop:=
 kA 258 (fun v5=>
 kN 24 a0 fun v9=>
 a0a prog 139 #[v9] fun v10=>
 oM prog (.binOp .add 9 (.tmp 0) (.tmp 1) 9) 9 [v10,(.string ⟨#[91]⟩)] fun v11=>
 a0a prog 216 #[v5,v11] fun v12=>
 kN 24 a0 fun v14=>
 kQ [undef,(.int .i64 0)] fun J_7 m_8 l_9 u_l_9 w0_l_9=>(fun w=>(
 kB .lss 3 0 (l_9.getD 1 undef) v14 (fun v16=>
 kO v16 (kI 24 a0 (l_9.getD 1 undef) fun v17=>
 kL 3 v17 fun v18=>
 oM prog (.call (Go.Call.mk (.value (.tmp 0)) #[(.tmp 1)] #[3])) 9 [a1,v18] fun v21=>
 a0a prog 216 #[v5,v21] fun v22=>
 kB .add 3 3 (l_9.getD 1 undef) (.int .i64 1) fun v23=>
 kJ J_7 m_8 l_9 w0_l_9 [v18,v23])
 (a0a prog 217 #[v5] fun v24=>
 oM prog (.binOp .add 9 (.tmp 0) (.tmp 1) 9) 9 [v24,(.string ⟨#[93]⟩)] fun v25=>
 K v25)) w)) w0_l_9) w
theorem d8m (h:f6o a0 a1 K w):a0a prog 165 #[a0,a1] K w:=
 cZ (fun _=>0) func165 h
def g4w (a0:Value) (K:VK) (w:World):Prop:=
 a0a prog 165 #[a0,(.func (.func 85) #[] #[])] (fun v4=>
 K v4) w
theorem e8q (h:g4w a0 K w):a0a prog 84 #[a0] K w:=
 cZ (fun _=>0) func84 h
def f6p (a0 a1:Value) (K:VK) (w:World):Prop:=
 a0a prog 136 #[a0,(.int .u8 91),(.int .i64 0)] (fun v8=>
 kQ [(.slice none 0 0),v8] fun J_2 m_3 l_4 u_l_4 w0_l_4=>(fun w=>(
 kB .gtr 3 4 (l_4.getD 1 undef) (.int .i64 0) (fun v10 w=>
 gT v10 (a0f a0) (fun v12 w=>
 gT v10 (oM prog (.nilCheck (.tmp 0)) 0 [v12]) (fun v13 w=>
 gT v10 (kF 182 1 v13) (fun v14 w=>
 gT v10 (kL 4 v14) (fun v15 w=>
 gT v10 (kU v15) (fun v16=>
 kP v10 v16 (.bool false) fun v17=>
 kO v17 (oM prog (.call (Go.Call.mk (.value (.tmp 0)) #[] #[])) 3 [a1] fun v22=>
 oM prog (.buildSlice 24 1 #[(0,(.tmp 0))]) 24 [v22] fun v23=>
 oM prog (.call (Go.Call.mk (.builtin .append) #[(.tmp 0),(.tmp 1)] #[24,24])) 24 [(l_4.getD 0 undef),v23] fun v24=>
 kB .sub 3 3 (l_4.getD 1 undef) (.int .i64 1) fun v19=>
 kJ J_2 m_3 l_4 w0_l_4 [v24,v19])
 (a0a prog 138 #[a0,(.string ⟨#[93]⟩)] fun v26=>
 oM prog (.nilCheck (.tmp 0)) 0 [a0] fun v28=>
 kF 182 1 v28 fun v29=>
 kL 4 v29 fun v30=>
 kO v30 (K (.slice none 0 0))
 (K (l_4.getD 0 undef)))) w) w) w) w) w) w)) w0_l_4) w
theorem d8n (h:f6p a0 a1 K w):a0a prog 198 #[a0,a1] K w:=
 cZ (fun _=>0) func198 h
def f6q (a0:Value) (K:VK) (w:World):Prop:=
 oM prog (.makeFunc (Go.Fn.func 131) #[(.tmp 0)] #[]) 109 [a0] (fun v5=>
 a0a prog 198 #[a0,v5] fun v6=>
 K v6) w
theorem d8o (h:f6q a0 K w):a0a prog 129 #[a0] K w:=
 cZ (fun _=>0) func129 h
def g4x (a0:Value) (K:VK) (w:World):Prop:=
 oM prog (.build 182 #[(0,(.tmp 0))]) 182 [a0] (fun v4=>
 oM prog (.box 182 (.tmp 0)) 99 [v4] fun v5=>
 K v5) w
theorem e8r (h:g4x a0 K w):a0a prog 52 #[a0] K w:=
 cZ (fun _=>0) func52 h
def g4y (a0:Value) (K:VK) (w:World):Prop:=
 oM prog (.nilCheck (.tmp 0)) 0 [a0] (fun v4=>
 kF 182 1 v4 fun v5=>
 kL 4 v5 fun v6=>
 kU v6 fun v7 w=>
 gT v7 (a0f a0) (fun v9 w=>
 gT v7 (oM prog (.nilCheck (.tmp 0)) 0 [v9]) (fun v10 w=>
 gT v7 (kF 182 0 v10) (fun v11 w=>
 gT v7 (kL 9 v11) (fun v12 w=>
 gT v7 (oM prog (.binOp .eql 9 (.tmp 0) (.const (.string ⟨#[]⟩)) 9) 4 [v12]) (fun v13=>
 kP v7 v13 (.bool false) fun v14=>
 K v14) w) w) w) w) w) w
theorem e8s (h:g4y a0 K w):a0a prog 54 #[a0] K w:=
 cZ (fun _=>0) func54 h
def f6r (a0:Value) (K:VK) (w:World):Prop:=
 a0a prog 136 #[a0,(.int .u8 59),(.int .i64 (-9223372036854775808))] (fun v4=>
 K v4) w
theorem d8p (h:f6r a0 K w):a0a prog 131 #[a0] K w:=
 cZ (fun _=>0) func131 h
def f6s (a0 a1 a2:Value) (K:VK) (w:World):Prop:=
 b4r w fun C_1=>(oQ prog (.nilCheck (.tmp 0)) 0 [a0] C_1 fun v12=>
 oQ prog (.fieldAddr 182 (.tmp 0) 0) 0 [v12] C_1 fun v13=>
 oQ prog (.load 9 (.tmp 0)) 9 [v13] C_1 fun v14=>
 oQ prog (.nilCheck (.tmp 0)) 0 [a0] C_1 fun v16=>
 oQ prog (.fieldAddr 182 (.tmp 0) 0) 0 [v16] C_1 fun v17=>
 oQ prog (.load 9 (.tmp 0)) 9 [v17] C_1 fun v18=>
 oQ prog (.call (Go.Call.mk (.builtin .len) #[(.tmp 0)] #[9])) 3 [v18] C_1 fun v19=>
 oQ prog (.call (Go.Call.mk (.builtin .min) #[(.tmp 0),(.tmp 1)] #[3,3])) 3 [v19,(.int .i64 21)] C_1 fun v20=>
 oQ prog (.slice 9 (.tmp 0) none (some (.tmp 1)) none) 9 [v14,v20] C_1 fun v21=>
 ∀ w,C_1 w → (a0a prog 200 #[v21,a1] (fun v24=>
 kB .lss 3 4 v24 (.int .i64 0) fun v26=>
 kO v26 (a0a prog 137 #[a0] fun v28=>
 K (.int .i64 0))
 (oM prog (.slice 9 (.tmp 0) none (some (.tmp 1)) none) 9 [v21,v24] fun v32=>
 a0a prog 201 #[v32] fun v33=>
 kE 0 3 v33 fun v34=>
 kE 1 247 v33 fun v35 w=>
 b4r w fun C_18=>(oQ prog (.binOp .neq 247 (.tmp 0) (.const .nilIface) 247) 4 [v35] C_18 fun v37=>
 gdQ (gd v37 false) (d2v v34) C_18 fun v39=>
 gdQ (gd v37 false) (b8k prog 139 #[v39]) C_18 fun v40=>
 gdQ (gd v37 false) (d2v v21) C_18 fun v41=>
 gdQ (gd v37 false) (d2v v24) C_18 fun v42=>
 gdQ (gd v37 false) (oQ prog (.slice 9 (.tmp 0) none (some (.tmp 1)) none) 9 [v41,v42]) C_18 fun v43=>
 gdQ (gd v37 false) (oQ prog (.binOp .neq 9 (.tmp 0) (.tmp 1) 9) 4 [v40,v43]) C_18 fun v44=>
 oQ prog (.pick (.tmp 0) (.tmp 1) (.tmp 2)) 4 [v37,(.bool true),v44] C_18 fun v45=>
 gdQ (gd v45 false) (d2v v34) C_18 fun v47=>
 gdQ (gd v45 false) (d2v a2) C_18 fun v48=>
 gdQ (gd v45 false) (oQ prog (.binOp .lss 3 (.tmp 0) (.tmp 1) 3) 4 [v47,v48]) C_18 fun v49=>
 oQ prog (.pick (.tmp 0) (.tmp 1) (.tmp 2)) 4 [v45,(.bool true),v49] C_18 fun v50=>
 ∀ w,C_18 w → (kO v50 (a0a prog 137 #[a0] fun v52=>
 K (.int .i64 0))
 (oM prog (.nilCheck (.tmp 0)) 0 [a0] fun v55=>
 kF 182 0 v55 fun v56=>
 kL 9 v56 fun v57=>
 kB .add 3 3 v24 (.int .i64 1) fun v59=>
 oM prog (.slice 9 (.tmp 0) (some (.tmp 1)) none none) 9 [v57,v59] fun v60=>
 oM prog (.nilCheck (.tmp 0)) 0 [a0] fun v61=>
 kF 182 0 v61 fun v62=>
 kS 9 v62 v60 fun _=>
 K v34) w)))) w))
theorem d8q (h:f6s a0 a1 a2 K w):a0a prog 136 #[a0,a1,a2] K w:=
 cZ (fun _=>0) func136 h
def f6t (a0 a1:Value) (K:VK) (w:World):Prop:=
 oM prog (.nilCheck (.tmp 0)) 0 [a0] (fun v8=>
 kF 182 0 v8 fun v9=>
 kL 9 v9 fun v10=>
 a0a prog 185 #[v10,a1] fun v12=>
 kE 0 9 v12 fun v13=>
 kE 1 4 v12 fun v14=>
 oM prog (.nilCheck (.tmp 0)) 0 [a0] fun v17=>
 kF 182 0 v17 fun v18=>
 kS 9 v18 v13 fun _=>
 kU v14 fun v20=>
 kO v20 (a0a prog 137 #[a0] fun v22=>
 K (.tuple #[]))
 (K (.tuple #[]))) w
theorem d8r (h:f6t a0 a1 K w):a0a prog 138 #[a0,a1] K w:=
 cZ (fun _=>0) func138 h
def f6u (a0:Value) (K:VK) (w:World):Prop:=
 oM prog (.nilCheck (.tmp 0)) 0 [a0] (fun v4=>
 kF 182 0 v4 fun v5=>
 oM prog (.store 9 (.tmp 0) (.tmp 1)) 0 [v5,(.string ⟨#[]⟩)] fun _=>
 oM prog (.nilCheck (.tmp 0)) 0 [a0] fun v6=>
 kF 182 1 v6 fun v7=>
 kS 4 v7 (.bool true) fun _=>
 K (.tuple #[])) w
theorem d8s (h:f6u a0 K w):a0a prog 137 #[a0] K w:=
 cZ (fun _=>0) func137 h
def g4z (a0:Value) (K:VK) (w:World):Prop:=
 kN 9 a0 (fun v4=>
 a0a prog 139 #[v4] fun v5=>
 oM prog (.binOp .add 9 (.tmp 0) (.tmp 1) 9) 9 [v5,(.string ⟨#[58]⟩)] fun v6=>
 kB .add 9 9 v6 a0 fun v8=>
 oM prog (.binOp .add 9 (.tmp 0) (.tmp 1) 9) 9 [v8,(.string ⟨#[44]⟩)] fun v9=>
 K v9) w
theorem e8t (h:g4z a0 K w):a0a prog 66 #[a0] K w:=
 cZ (fun _=>0) func66 h
def g5a (a0:Value) (K:VK) (w:World):Prop:=
 kB .lss 3 4 a0 (.int .i64 0) (fun v4=>
 kO v4 (K (.string ⟨#[]⟩))
 (a0a prog 85 #[a0] fun v6=>
 K v6)) w
theorem e8u (h:g5a a0 K w):a0a prog 65 #[a0] K w:=
 cZ (fun _=>0) func65 h
def g5b (a0:Value) (K:VK) (w:World):Prop:=
 a0a prog 136 #[a0,(.int .u8 59),(.int .i64 0)] (fun v4=>
 K v4) w
theorem e8v (h:g5b a0 K w):a0a prog 62 #[a0] K w:=
 cZ (fun _=>0) func62 h
def g5c (a0:Value) (K:VK) (w:World):Prop:=
 a0a prog 136 #[a0,(.int .u8 58),(.int .i64 0)] (fun v6=>
 oM prog (.nilCheck (.tmp 0)) 0 [a0] fun v9=>
 kF 182 0 v9 fun v10=>
 kL 9 v10 fun v11=>
 kN 9 v11 fun v12=>
 kB .gtr 3 4 v6 v12 fun v13=>
 kO v13 (a0a prog 137 #[a0] fun v15=>
 K (.string ⟨#[]⟩))
 (oM prog (.nilCheck (.tmp 0)) 0 [a0] fun v17=>
 kF 182 0 v17 fun v18=>
 kL 9 v18 fun v19=>
 oM prog (.slice 9 (.tmp 0) none (some (.tmp 1)) none) 9 [v19,v6] fun v21=>
 oM prog (.nilCheck (.tmp 0)) 0 [a0] fun v24=>
 kF 182 0 v24 fun v25=>
 kL 9 v25 fun v26=>
 oM prog (.slice 9 (.tmp 0) (some (.tmp 1)) none none) 9 [v26,v6] fun v28=>
 oM prog (.nilCheck (.tmp 0)) 0 [a0] fun v29=>
 kF 182 0 v29 fun v30=>
 kS 9 v30 v28 fun _=>
 a0a prog 138 #[a0,(.string ⟨#[44]⟩)] fun v32=>
 oM prog (.nilCheck (.tmp 0)) 0 [a0] fun v34=>
 kF 182 1 v34 fun v35=>
 kL 4 v35 fun v36=>
 kO v36 (K (.string ⟨#[]⟩))
 (K v21))) w
theorem e8w (h:g5c a0 K w):a0a prog 63 #[a0] K w:=
 cZ (fun _=>0) func63 h
end Go.Proofs
namespace Go.Proofs
abbrev c1v:String:=(YtbfkhodfjecndaaGreatDoor.Rows.purseFormsRow.laid.map (fun x=>x.1)).getD 2 default
open Go.Shelf
def Tryz.lays169_ren:Go.Shelf.Ren:=⟨fun | 169=>217 | n=>n,fun | 70=>256 | 9=>9 | 0=>0 | 72=>258 | 37=>242 | 127=>292 | 3=>3 | 5=>5 | n=>n,fun | n=>n⟩
theorem Tryz.lays169:Go.Proofs.Lays.n169 Tryz.prog Tryz.lays169_ren:={
 mixed:=by kernel_rfl
 f169:=Tryz.func217.trans (congrArg some (by kernel_rfl))
 t0:=Tryz.underlying0
 a0:=Tryz.isAgg0
 z0:=Tryz.sizeOf0
 v0:=Tryz.zeroValue0
 t3:=Tryz.underlying3
 a3:=Tryz.isAgg3
 z3:=Tryz.sizeOf3
 v3:=Tryz.zeroValue3
 t9:=Tryz.underlying9
 a9:=Tryz.isAgg9
 z9:=Tryz.sizeOf9
 v9:=Tryz.zeroValue9
 t37:=Tryz.underlying242
 a37:=Tryz.isAgg242
 z37:=Tryz.sizeOf242
 v37:=Tryz.zeroValue242
 t70:=Tryz.underlying256
 a70:=Tryz.isAgg256
 z70:=Tryz.sizeOf256
 v70:=Tryz.zeroValue256
 t72:=Tryz.underlying258
 a72:=Tryz.isAgg258
 z72:=Tryz.sizeOf258
 v72:=Tryz.zeroValue258
 t127:=Tryz.underlying292
 a127:=Tryz.isAgg292
 z127:=Tryz.sizeOf292
 v127:=Tryz.zeroValue292 }
theorem Tryz.Builder_Extra_169:Builder.Extra Tryz.prog Tryz.lays169_ren:={
 sizeBuilder:=by kernel_rfl
 liesBuilder:=by kernel_rfl
 t5:=Tryz.underlying5
 a5:=Tryz.isAgg5
 z5:=Tryz.sizeOf5
 v5:=Tryz.zeroValue5
 infoByte:=by kernel_rfl
 cellsByte:=by kernel_rfl
 sizeByte:=by kernel_rfl
 neB5:=by decide }
open Go.RowKit in
theorem Tryz.Builder_String_any (B b:Nat) (l:List UInt8) (w:World) (h:Lib.IsBuilder 258 5 B b (Lib.byteCells l) w) (hBw:B ≤ w.heap.size) :
  Calls Tryz.prog 217 #[.pointer (some ⟨b,0,none⟩)] w fun e w'=>e = .returned (.string ⟨l.toArray⟩) ∧ Below B w w':=Any.Builder_String_any Tryz.lays169 Tryz.Builder_Extra_169 B b l w h hBw
def Tryz.lays137_ren:Go.Shelf.Ren:=⟨fun | 137=>200 | 217=>251 | 266=>282 | n=>n,fun | 9=>9 | 5=>5 | 3=>3 | n=>n,fun | n=>n⟩
theorem Tryz.lays137:Go.Proofs.Lays.n137 Tryz.prog Tryz.lays137_ren:={
 mixed:=by kernel_rfl
 f137:=Tryz.func200.trans (congrArg some (by kernel_rfl))
 f217:=Tryz.func251.trans (congrArg some (by kernel_rfl))
 f266:=Tryz.func282.trans (congrArg some (by kernel_rfl))
 t3:=Tryz.underlying3
 a3:=Tryz.isAgg3
 z3:=Tryz.sizeOf3
 v3:=Tryz.zeroValue3
 t5:=Tryz.underlying5
 a5:=Tryz.isAgg5
 z5:=Tryz.sizeOf5
 v5:=Tryz.zeroValue5
 t9:=Tryz.underlying9
 a9:=Tryz.isAgg9
 z9:=Tryz.sizeOf9
 v9:=Tryz.zeroValue9 }
open Go.RowKit in
theorem Tryz.strings_IndexByte (s:ByteArray) (c:Int) (w:World) :
  Calls Tryz.prog 200 #[.string s,.int .u8 c] w fun e w'=>e = .returned (.int .i64 (Lib.indexByte s.data.toList c.toNat.toUInt8)) ∧ w' = w:=Any.strings_IndexByte Tryz.lays137 s c w
def Tryz.lays103_ren:Go.Shelf.Ren:=⟨fun | 103=>185 | 210=>245 | 206=>280 | n=>n,fun | 9=>9 | 4=>4 | 24=>231 | 3=>3 | n=>n,fun | n=>n⟩
theorem Tryz.lays103:Go.Proofs.Lays.n103 Tryz.prog Tryz.lays103_ren:={
 mixed:=by kernel_rfl
 f103:=Tryz.func185.trans (congrArg some (by kernel_rfl))
 f206:=Tryz.func280.trans (congrArg some (by kernel_rfl))
 f210:=Tryz.func245.trans (congrArg some (by kernel_rfl))
 t3:=Tryz.underlying3
 a3:=Tryz.isAgg3
 z3:=Tryz.sizeOf3
 v3:=Tryz.zeroValue3
 t4:=Tryz.underlying4
 a4:=Tryz.isAgg4
 z4:=Tryz.sizeOf4
 v4:=Tryz.zeroValue4
 t9:=Tryz.underlying9
 a9:=Tryz.isAgg9
 z9:=Tryz.sizeOf9
 v9:=Tryz.zeroValue9
 t24:=Tryz.underlying231
 a24:=Tryz.isAgg231
 z24:=Tryz.sizeOf231
 v24:=Tryz.zeroValue231 }
open Go.RowKit in
theorem Tryz.strings_CutPrefix (s p:ByteArray) (w:World) :
  Calls Tryz.prog 185 #[.string s,.string p] w fun e w'=>e = .returned (.tuple #[.string ⟨(Lib.trimPrefix s.data.toList p.data.toList).toArray⟩,.bool (Lib.hasPrefix s.data.toList p.data.toList)]) ∧ w' = w:=Any.strings_CutPrefix Tryz.lays103 s p w
def Tryz.laysM171_ren:Go.Shelf.Ren:=⟨fun | 171=>139 | 243=>202 | 246=>254 | 283=>288 | 284=>289 | 285=>290 | 286=>291 | 129=>243 | 317=>305 | 318=>306 | 319=>307 | 320=>308 | 337=>313 | 338=>292 | n=>n,fun | 3=>3 | 9=>9 | 2=>2 | 4=>4 | 171=>312 | 0=>0 | 53=>197 | 37=>242 | 5=>5 | 173=>314 | 212=>330 | 51=>277 | 20=>20 | 213=>331 | 46=>222 | 232=>337 | 233=>332 | n=>n,fun | 17=>3 | 18=>7 | 19=>4 | n=>n⟩
theorem Tryz.laysM171:Go.Proofs.LaysM.n171 Tryz.prog Tryz.laysM171_ren:={
 mixed:=by kernel_rfl
 f129:=Tryz.func243.trans (congrArg some (by kernel_rfl))
 f171:=Tryz.func139.trans (congrArg some (by kernel_rfl))
 f243:=Tryz.func202.trans (congrArg some (by kernel_rfl))
 f246:=Tryz.func254.trans (congrArg some (by kernel_rfl))
 f283:=Tryz.func288.trans (congrArg some (by kernel_rfl))
 f284:=Tryz.func289.trans (congrArg some (by kernel_rfl))
 f285:=Tryz.func290.trans (congrArg some (by kernel_rfl))
 f286:=Tryz.func291.trans (congrArg some (by kernel_rfl))
 f317:=Tryz.func305.trans (congrArg some (by kernel_rfl))
 f318:=Tryz.func306.trans (congrArg some (by kernel_rfl))
 f319:=Tryz.func307.trans (congrArg some (by kernel_rfl))
 f320:=Tryz.func308.trans (congrArg some (by kernel_rfl))
 f337:=Tryz.func313.trans (congrArg some (by kernel_rfl))
 f338:=Tryz.func292.trans (congrArg some (by kernel_rfl))
 t0:=Tryz.underlying0
 a0:=Tryz.isAgg0
 z0:=Tryz.sizeOf0
 v0:=Tryz.zeroValue0
 t2:=Tryz.underlying2
 a2:=Tryz.isAgg2
 z2:=Tryz.sizeOf2
 v2:=Tryz.zeroValue2
 t3:=Tryz.underlying3
 a3:=Tryz.isAgg3
 z3:=Tryz.sizeOf3
 v3:=Tryz.zeroValue3
 t4:=Tryz.underlying4
 a4:=Tryz.isAgg4
 z4:=Tryz.sizeOf4
 v4:=Tryz.zeroValue4
 t5:=Tryz.underlying5
 a5:=Tryz.isAgg5
 z5:=Tryz.sizeOf5
 v5:=Tryz.zeroValue5
 t9:=Tryz.underlying9
 a9:=Tryz.isAgg9
 z9:=Tryz.sizeOf9
 v9:=Tryz.zeroValue9
 t20:=Tryz.underlying20
 a20:=Tryz.isAgg20
 z20:=Tryz.sizeOf20
 v20:=Tryz.zeroValue20
 t37:=Tryz.underlying242
 a37:=Tryz.isAgg242
 z37:=Tryz.sizeOf242
 v37:=Tryz.zeroValue242
 t46:=Tryz.underlying222
 a46:=Tryz.isAgg222
 z46:=Tryz.sizeOf222
 v46:=Tryz.zeroValue222
 t51:=Tryz.underlying277
 a51:=Tryz.isAgg277
 z51:=Tryz.sizeOf277
 v51:=Tryz.zeroValue277
 t53:=Tryz.underlying197
 a53:=Tryz.isAgg197
 z53:=Tryz.sizeOf197
 v53:=Tryz.zeroValue197
 t171:=Tryz.underlying312
 a171:=Tryz.isAgg312
 z171:=Tryz.sizeOf312
 v171:=Tryz.zeroValue312
 t173:=Tryz.underlying314
 a173:=Tryz.isAgg314
 z173:=Tryz.sizeOf314
 v173:=Tryz.zeroValue314
 t212:=Tryz.underlying330
 a212:=Tryz.isAgg330
 z212:=Tryz.sizeOf330
 v212:=Tryz.zeroValue330
 t213:=Tryz.underlying331
 a213:=Tryz.isAgg331
 z213:=Tryz.sizeOf331
 t232:=Tryz.underlying337
 a232:=Tryz.isAgg337
 z232:=Tryz.sizeOf337
 v232:=Tryz.zeroValue337
 t233:=Tryz.underlying332
 a233:=Tryz.isAgg332
 z233:=Tryz.sizeOf332
 v233:=Tryz.zeroValue332
 g17:=by kernel_rfl
 g18:=by kernel_rfl
 g19:=by kernel_rfl
 i0:=by kernel_rfl
 i2:=by kernel_rfl
 i3:=by kernel_rfl
 i4:=by kernel_rfl
 i5:=by kernel_rfl
 i9:=by kernel_rfl
 i20:=by kernel_rfl
 i37:=by kernel_rfl
 i46:=by kernel_rfl
 i51:=by kernel_rfl
 i53:=by kernel_rfl
 i171:=by kernel_rfl
 i173:=by kernel_rfl
 i212:=by kernel_rfl
 i232:=by kernel_rfl
 i233:=by kernel_rfl
 m17:=by kernel_rfl
 m18:=by kernel_rfl
 m19:=by kernel_rfl }
open Go.RowKit Go.Sort Go.Lib in
theorem Tryz.strconv_Itoa (n:Int) (h0:-9223372036854775808 ≤ n) (h1:n ≤ 9223372036854775807) (w:World) (htab:Lib.TabIs Tryz.prog w c1v .u64 Lib.pow10Tab) :
  Calls Tryz.prog 139 #[.int .i64 n] w fun e w'=>e = .returned (.string ⟨(Lib.itoa n).toArray⟩) ∧ ∃ k os,w' = grow (w.drewN k) os:=Any.strconv_Itoa Tryz.laysM171 n h0 h1 w htab
def Tryz.laysC172_ren:Go.Shelf.Ren:=⟨fun | 172=>201 | 244=>252 | 245=>253 | 247=>283 | 279=>284 | 280=>285 | 281=>286 | 282=>287 | 287=>302 | 316=>303 | 171=>139 | 205=>304 | 321=>311 | 322=>312 | 243=>202 | 246=>254 | 283=>288 | 284=>289 | 285=>290 | 286=>291 | 129=>243 | 317=>305 | 318=>306 | 319=>307 | 320=>308 | 337=>313 | 338=>292 | n=>n,fun | 9=>9 | 3=>3 | 75=>247 | 76=>248 | 4=>4 | 5=>5 | 167=>306 | 37=>242 | 0=>0 | 85=>307 | 2=>2 | 168=>309 | 53=>197 | 175=>324 | 46=>222 | 210=>327 | 127=>292 | 145=>336 | 143=>334 | 21=>21 | 171=>312 | 173=>314 | 212=>330 | 51=>277 | 20=>20 | 213=>331 | 232=>337 | 233=>332 | 80=>59 | n=>n,fun | 15=>1 | 16=>2 | 17=>3 | 18=>7 | 19=>4 | n=>n⟩
theorem Tryz.laysC172:Go.Proofs.LaysC.n172 Tryz.prog Tryz.laysC172_ren:={
 mixed:=by kernel_rfl
 f129:=Tryz.func243.trans (congrArg some (by kernel_rfl))
 f171:=Tryz.func139.trans (congrArg some (by kernel_rfl))
 f172:=Tryz.func201.trans (congrArg some (by kernel_rfl))
 f205:=Tryz.func304.trans (congrArg some (by kernel_rfl))
 f243:=Tryz.func202.trans (congrArg some (by kernel_rfl))
 f244:=Tryz.func252.trans (congrArg some (by kernel_rfl))
 f245:=Tryz.func253.trans (congrArg some (by kernel_rfl))
 f246:=Tryz.func254.trans (congrArg some (by kernel_rfl))
 f247:=Tryz.func283.trans (congrArg some (by kernel_rfl))
 f279:=Tryz.func284.trans (congrArg some (by kernel_rfl))
 f280:=Tryz.func285.trans (congrArg some (by kernel_rfl))
 f281:=Tryz.func286.trans (congrArg some (by kernel_rfl))
 f282:=Tryz.func287.trans (congrArg some (by kernel_rfl))
 f283:=Tryz.func288.trans (congrArg some (by kernel_rfl))
 f284:=Tryz.func289.trans (congrArg some (by kernel_rfl))
 f285:=Tryz.func290.trans (congrArg some (by kernel_rfl))
 f286:=Tryz.func291.trans (congrArg some (by kernel_rfl))
 f287:=Tryz.func302.trans (congrArg some (by kernel_rfl))
 f316:=Tryz.func303.trans (congrArg some (by kernel_rfl))
 f317:=Tryz.func305.trans (congrArg some (by kernel_rfl))
 f318:=Tryz.func306.trans (congrArg some (by kernel_rfl))
 f319:=Tryz.func307.trans (congrArg some (by kernel_rfl))
 f320:=Tryz.func308.trans (congrArg some (by kernel_rfl))
 f321:=Tryz.func311.trans (congrArg some (by kernel_rfl))
 f322:=Tryz.func312.trans (congrArg some (by kernel_rfl))
 f337:=Tryz.func313.trans (congrArg some (by kernel_rfl))
 f338:=Tryz.func292.trans (congrArg some (by kernel_rfl))
 t0:=Tryz.underlying0
 a0:=Tryz.isAgg0
 z0:=Tryz.sizeOf0
 v0:=Tryz.zeroValue0
 t2:=Tryz.underlying2
 a2:=Tryz.isAgg2
 z2:=Tryz.sizeOf2
 v2:=Tryz.zeroValue2
 t3:=Tryz.underlying3
 a3:=Tryz.isAgg3
 z3:=Tryz.sizeOf3
 v3:=Tryz.zeroValue3
 t4:=Tryz.underlying4
 a4:=Tryz.isAgg4
 z4:=Tryz.sizeOf4
 v4:=Tryz.zeroValue4
 t5:=Tryz.underlying5
 a5:=Tryz.isAgg5
 z5:=Tryz.sizeOf5
 v5:=Tryz.zeroValue5
 t9:=Tryz.underlying9
 a9:=Tryz.isAgg9
 z9:=Tryz.sizeOf9
 v9:=Tryz.zeroValue9
 t20:=Tryz.underlying20
 a20:=Tryz.isAgg20
 z20:=Tryz.sizeOf20
 v20:=Tryz.zeroValue20
 t21:=Tryz.underlying21
 a21:=Tryz.isAgg21
 z21:=Tryz.sizeOf21
 v21:=Tryz.zeroValue21
 t37:=Tryz.underlying242
 a37:=Tryz.isAgg242
 z37:=Tryz.sizeOf242
 v37:=Tryz.zeroValue242
 t46:=Tryz.underlying222
 a46:=Tryz.isAgg222
 z46:=Tryz.sizeOf222
 v46:=Tryz.zeroValue222
 t51:=Tryz.underlying277
 a51:=Tryz.isAgg277
 z51:=Tryz.sizeOf277
 v51:=Tryz.zeroValue277
 t53:=Tryz.underlying197
 a53:=Tryz.isAgg197
 z53:=Tryz.sizeOf197
 v53:=Tryz.zeroValue197
 t75:=Tryz.underlying247
 a75:=Tryz.isAgg247
 z75:=Tryz.sizeOf247
 v75:=Tryz.zeroValue247
 t76:=Tryz.underlying248
 a76:=Tryz.isAgg248
 z76:=Tryz.sizeOf248
 v76:=Tryz.zeroValue248
 t85:=Tryz.underlying307
 a85:=Tryz.isAgg307
 z85:=Tryz.sizeOf307
 v85:=Tryz.zeroValue307
 t127:=Tryz.underlying292
 a127:=Tryz.isAgg292
 z127:=Tryz.sizeOf292
 v127:=Tryz.zeroValue292
 t143:=Tryz.underlying334
 a143:=Tryz.isAgg334
 z143:=Tryz.sizeOf334
 v143:=Tryz.zeroValue334
 t145:=Tryz.underlying336
 a145:=Tryz.isAgg336
 z145:=Tryz.sizeOf336
 v145:=Tryz.zeroValue336
 t167:=Tryz.underlying306
 a167:=Tryz.isAgg306
 z167:=Tryz.sizeOf306
 v167:=Tryz.zeroValue306
 t168:=Tryz.underlying309
 a168:=Tryz.isAgg309
 z168:=Tryz.sizeOf309
 v168:=Tryz.zeroValue309
 t171:=Tryz.underlying312
 a171:=Tryz.isAgg312
 z171:=Tryz.sizeOf312
 v171:=Tryz.zeroValue312
 t173:=Tryz.underlying314
 a173:=Tryz.isAgg314
 z173:=Tryz.sizeOf314
 v173:=Tryz.zeroValue314
 t175:=Tryz.underlying324
 a175:=Tryz.isAgg324
 z175:=Tryz.sizeOf324
 v175:=Tryz.zeroValue324
 t210:=Tryz.underlying327
 a210:=Tryz.isAgg327
 z210:=Tryz.sizeOf327
 v210:=Tryz.zeroValue327
 t212:=Tryz.underlying330
 a212:=Tryz.isAgg330
 z212:=Tryz.sizeOf330
 v212:=Tryz.zeroValue330
 t213:=Tryz.underlying331
 a213:=Tryz.isAgg331
 z213:=Tryz.sizeOf331
 t232:=Tryz.underlying337
 a232:=Tryz.isAgg337
 z232:=Tryz.sizeOf337
 v232:=Tryz.zeroValue337
 t233:=Tryz.underlying332
 a233:=Tryz.isAgg332
 z233:=Tryz.sizeOf332
 v233:=Tryz.zeroValue332
 g15:=by kernel_rfl
 g16:=by kernel_rfl
 g17:=by kernel_rfl
 g18:=by kernel_rfl
 g19:=by kernel_rfl
 t80:=Tryz.underlying59
 a80:=Tryz.isAgg59
 z80:=Tryz.sizeOf59
 v80:=Tryz.zeroValue59
 i0:=by kernel_rfl
 i2:=by kernel_rfl
 i3:=by kernel_rfl
 i4:=by kernel_rfl
 i5:=by kernel_rfl
 i9:=by kernel_rfl
 i20:=by kernel_rfl
 i21:=by kernel_rfl
 i37:=by kernel_rfl
 i46:=by kernel_rfl
 i51:=by kernel_rfl
 i53:=by kernel_rfl
 i75:=by kernel_rfl
 i76:=by kernel_rfl
 i80:=by kernel_rfl
 i85:=by kernel_rfl
 i127:=by kernel_rfl
 i143:=by kernel_rfl
 i145:=by kernel_rfl
 i167:=by kernel_rfl
 i168:=by kernel_rfl
 i171:=by kernel_rfl
 i173:=by kernel_rfl
 i175:=by kernel_rfl
 i210:=by kernel_rfl
 i212:=by kernel_rfl
 i232:=by kernel_rfl
 i233:=by kernel_rfl
 m15:=by kernel_rfl
 m16:=by kernel_rfl
 m17:=by kernel_rfl
 m18:=by kernel_rfl
 m19:=by kernel_rfl
 c0:=by kernel_rfl
 c2:=by kernel_rfl
 c3:=by kernel_rfl
 c4:=by kernel_rfl
 c5:=by kernel_rfl
 c9:=by kernel_rfl
 c20:=by kernel_rfl
 c21:=by kernel_rfl
 c37:=by kernel_rfl
 c46:=by kernel_rfl
 c51:=by kernel_rfl
 c53:=by kernel_rfl
 c75:=by kernel_rfl
 c76:=by kernel_rfl
 c80:=by kernel_rfl
 c85:=by kernel_rfl
 c127:=by kernel_rfl
 c143:=by kernel_rfl
 c145:=by kernel_rfl
 c167:=by kernel_rfl
 c168:=by kernel_rfl
 c171:=by kernel_rfl
 c173:=by kernel_rfl
 c175:=by kernel_rfl
 c210:=by kernel_rfl
 c212:=by kernel_rfl
 c213:=by kernel_rfl
 c232:=by kernel_rfl
 c233:=by kernel_rfl }
open Go.RowKit in
theorem Tryz.strconv_Atoi_ok (s:ByteArray) (hmax:s.size ≤ 9223372036854775806) (v:Int) (h:Lib.atoiAll s.data.toList = .ok v) (w:World) :
  Calls Tryz.prog 201 #[.string s] w fun e w'=>e = .returned (.tuple #[.int .i64 v,.nilIface]) ∧ (w' = w ∨ ∃ t,w' = Lib.bytesWorld w 5 t):=Any.strconv_Atoi_ok Tryz.laysC172 s hmax v h w
open Go.RowKit in
theorem Tryz.strconv_Atoi_syntax (s:ByteArray) (hlim:s.size ≤ 281474976710656) (h:Lib.atoiAll s.data.toList = .«syntax») (ev:Value) (w:World) (hv:w.cell? ⟨1,0,none⟩ = some ev) (hev:ev = .nilIface ∨ ∃ te pe,ev = .iface te pe) :
  Calls Tryz.prog 201 #[.string s] w fun e w'=>∃ N,e = .returned (.tuple #[.int .i64 (0),.iface 309 (.pointer (some ⟨N,0,none⟩))]) ∧ w.heap.size ≤ N ∧ w'.heap[N]? = some (.cells #[.string ⟨#[65,116,111,105]⟩,.string s,ev] 327 (0,0)) ∧ Below w.heap.size w w':=Any.strconv_Atoi_syntax Tryz.laysC172 s hlim h ev w hv hev
open Go.RowKit in
theorem Tryz.strconv_Atoi_range (s:ByteArray) (hlim:s.size ≤ 281474976710656) (h:Lib.atoiAll s.data.toList = .range) (ev:Value) (w:World) (hv:w.cell? ⟨2,0,none⟩ = some ev) (hev:ev = .nilIface ∨ ∃ te pe,ev = .iface te pe) :
  Calls Tryz.prog 201 #[.string s] w fun e w'=>∃ N,e = .returned (.tuple #[.int .i64 (Lib.atoiSat s.data.toList),.iface 309 (.pointer (some ⟨N,0,none⟩))]) ∧ w.heap.size ≤ N ∧ w'.heap[N]? = some (.cells #[.string ⟨#[65,116,111,105]⟩,.string s,ev] 327 (0,0)) ∧ Below w.heap.size w w':=Any.strconv_Atoi_range Tryz.laysC172 s hlim h ev w hv hev
end Go.Proofs
namespace CodeSpec
open Go.Lib
abbrev a0h:=List UInt8
def InR (n:Int):Prop:=-9223372036854775808 ≤ n ∧ n ≤ 9223372036854775807
def a0n (n:Int):a0h:=itoa n ++ [59]
def a1a (n:Int):a0h:=if n < 0 then [] else a0n n
def a0t (s:a0h):a0h:=itoa s.length ++ 58 :: (s ++ [44])
def a2g (l:List a0h):a0h:=itoa l.length ++ 91 :: (l.flatten ++ [93])
def a0d (l:List Int):a0h:=a2g (l.map a0n)
def a6g (l:a0h):Option Int:=match atoiAll l with
 | .ok v=>if itoa v = l then some v else none
 | _=>none
structure Rd where
 rest:a0h
 bad:Bool
def failed:Rd:=⟨[],true⟩
def a0e (r:Rd) (e:UInt8) (least:Int):Int × Rd:=
 if ((r.rest.take 21).takeWhile (· != e)).length < (r.rest.take 21).length then
  match a6g ((r.rest.take 21).takeWhile (· != e)) with
  | some n=>if n < least then (0,failed) else (n,⟨r.rest.drop (((r.rest.take 21).takeWhile (· != e)).length + 1),r.bad⟩)
  | none=>(0,failed)
 else (0,failed)
def a0r (r:Rd) (c:UInt8):Rd:=match r.rest with
 | []=>failed
 | x :: t=>if x = c then ⟨t,r.bad⟩ else failed
def a1m (r:Rd):Int × Rd:=a0e r 59 0
def a1s (r:Rd):Int × Rd:=a0e r 59 (-9223372036854775808)
def a0s (r:Rd):a0h × Rd:=
 if ((a0e r 58 0).2.rest.length:Int) < (a0e r 58 0).1 then ([],failed)
 else if (a0r ⟨(a0e r 58 0).2.rest.drop (a0e r 58 0).1.toNat,(a0e r 58 0).2.bad⟩ 44).bad then ([],a0r ⟨(a0e r 58 0).2.rest.drop (a0e r 58 0).1.toNat,(a0e r 58 0).2.bad⟩ 44)
 else ((a0e r 58 0).2.rest.take (a0e r 58 0).1.toNat,a0r ⟨(a0e r 58 0).2.rest.drop (a0e r 58 0).1.toNat,(a0e r 58 0).2.bad⟩ 44)
def a1p {α:Type} (one:Rd → α × Rd):Nat → Rd → List α × Rd
 | 0,r=>([],r)
 | n + 1,r=>if r.bad then ([],r) else ((one r).1 :: (a1p one n (one r).2).1,(a1p one n (one r).2).2)
def b0i {α:Type} (one:Rd → α × Rd) (r:Rd):List α × Rd:=
 if (a0r (a1p one (a0e r 91 0).1.toNat (a0e r 91 0).2).2 93).bad then ([],a0r (a1p one (a0e r 91 0).1.toNat (a0e r 91 0).2).2 93)
 else ((a1p one (a0e r 91 0).1.toNat (a0e r 91 0).2).1,a0r (a1p one (a0e r 91 0).1.toNat (a0e r 91 0).2).2 93)
def a0c:Rd → List Int × Rd:=b0i a1s
theorem a4x (d:Nat) (h:d < 10):(UInt8.ofNat (48 + d)).toNat = 48 + d:=by
 rw [UInt8.toNat_ofNat']; omega
theorem a2p (u:Nat):∀ c ∈ decDigits u,48 ≤ c.toNat ∧ c.toNat ≤ 57:=by
 induction u using Nat.strongRecOn with
 | ind u ih=>
  rw [decDigits]
  split
  ·rename_i h
   intro c hc
   simp only [List.mem_singleton] at hc
   subst hc
   rw [a4x u h]; omega
  ·rename_i h
   intro c hc
   rcases List.mem_append.1 hc with hc | hc
   ·exact ih (u / 10) (by omega) c hc
   ·simp only [List.mem_singleton] at hc
    subst hc
    rw [a4x _ (by omega)]; omega
theorem b0j (u:Nat):decDigits u ≠ []:=by
 rw [decDigits]
 split <;> simp
theorem a2u (u:Nat) (k:Nat) (hk:1 ≤ k) (h:u < 10 ^ k):(decDigits u).length ≤ k:=by
 induction k generalizing u with
 | zero=>omega
 | succ k ih=>
  rw [decDigits]
  split
  ·simp
  ·rename_i h10
   have hk1:1 ≤ k:=by
    rcases Nat.eq_zero_or_pos k with rfl | h0
    ·simp at h; omega
    ·exact h0
   have:=ih (u / 10) hk1 (by rw [Nat.pow_succ] at h; omega)
   simp only [List.length_append,List.length_singleton]
   omega
theorem c2r (l m:a0h) (acc:Nat):parseUint10 acc (l ++ m) = match parseUint10 acc l with | .ok u=>parseUint10 u m | .range=>.range | .syntax=>.syntax:=by
 induction l generalizing acc with
 | nil=>rfl
 | cons c l ih=>
  simp only [List.cons_append,parseUint10]
  by_cases h1:48 ≤ c.toNat ∧ c.toNat ≤ 57
  ·by_cases h2:1844674407370955162 ≤ acc
   ·simp only [if_pos h1,if_pos h2]
   ·by_cases h3:18446744073709551616 ≤ acc * 10 + (c.toNat - 48)
    ·simp only [if_pos h1,if_neg h2,if_pos h3]
    ·simp only [if_pos h1,if_neg h2,if_neg h3]
     exact ih _
  ·simp only [if_neg h1]
theorem c2s (u:Nat) (h:u < 18446744073709551616):parseUint10 0 (decDigits u) = .ok u:=by
 induction u using Nat.strongRecOn with
 | ind u ih=>
  rw [decDigits]
  split
  ·rename_i h10
   simp only [parseUint10,a4x u h10]
   rw [if_pos (by omega),if_neg (by omega),if_neg (by omega)]
   congr 1; omega
  ·rename_i h10
   rw [c2r,ih (u / 10) (by omega) (by omega)]
   simp only [parseUint10,a4x (u % 10) (by omega)]
   rw [if_pos (by omega),if_neg (by omega),if_neg (by omega)]
   congr 1; omega
theorem b5t (n:Int) (h:InR n):atoiAll (itoa n) = .ok n:=by
 obtain ⟨h1,h2⟩:=h
 unfold itoa
 split
 ·rename_i hn
  rw [atoiAll_minus]
  have hp:parseMag (decDigits n.natAbs) = .ok n.natAbs:=by
   unfold parseMag
   rw [if_neg (b0j _),c2s _ (by omega)]
  rw [hp]
  simp only [signed]
  rw [if_neg (by omega)]
  congr 1; omega
 ·rename_i hn
  obtain ⟨c,r,hc⟩:∃ c r,decDigits n.toNat = c :: r:=by
   cases hd:decDigits n.toNat with
   | nil=>exact absurd hd (b0j _)
   | cons c r=>exact ⟨c,r,rfl⟩
  have hcd:=a2p n.toNat c (by rw [hc]; simp)
  rw [hc,atoiAll_plain c r (by omega) (by omega),← hc]
  have hp:parseMag (decDigits n.toNat) = .ok n.toNat:=by
   unfold parseMag
   rw [if_neg (b0j _),c2s _ (by omega)]
  rw [hp]
  simp only [signless]
  rw [if_neg (by omega)]
  congr 1; omega
theorem b8t (n:Int) (h:InR n):a6g (itoa n) = some n:=by
 unfold a6g
 rw [b5t n h]
 simp
theorem a4z (l:a0h) (n:Int) (h:a6g l = some n):l = itoa n ∧ InR n:=by
 unfold a6g at h
 split at h
 ·rename_i v hv
  split at h
  ·rename_i he
   cases h
   exact ⟨he.symm,atoiAll_bounds hv⟩
  ·cases h
 ·cases h
theorem a4k (n:Int) (h:InR n):(itoa n).length ≤ 20:=by
 obtain ⟨h1,h2⟩:=h
 unfold itoa
 split
 ·have:=a2u n.natAbs 19 (by omega) (by omega)
  simp; omega
 ·have:=a2u n.toNat 19 (by omega) (by omega)
  omega
theorem b5u (n:Int):∀ c ∈ itoa n,c.toNat = 45 ∨ (48 ≤ c.toNat ∧ c.toNat ≤ 57):=by
 intro c hc
 unfold itoa at hc
 split at hc
 ·rcases List.mem_cons.1 hc with rfl | hc
  ·left; rfl
  ·right; exact a2p _ c hc
 ·right; exact a2p _ c hc
theorem c0k (n:Int) (hn:InR n) (e:UInt8) (he:58 ≤ e.toNat) (t:a0h):((itoa n ++ e :: t).take 21).takeWhile (· != e) = itoa n ∧ (itoa n).length < ((itoa n ++ e :: t).take 21).length:=by
 have hl:=a4k n hn
 have h1:(itoa n ++ e :: t).take 21 = itoa n ++ (e :: t).take (21 - (itoa n).length):=by
  rw [List.take_append,List.take_of_length_le (by omega)]
 obtain ⟨k,hk⟩:∃ k,21 - (itoa n).length = k + 1:=⟨20 - (itoa n).length,by omega⟩
 rw [hk,List.take_succ_cons] at h1
 rw [h1]
 refine ⟨?_,by simp⟩
 rw [List.takeWhile_append_of_pos]
 ·simp
 ·intro c hc
  have:=b5u n c hc
  simp only [bne_iff_ne,ne_eq]
  rintro rfl
  omega
theorem a8a (n:Int) (hn:InR n) (e:UInt8) (he:58 ≤ e.toNat) (least:Int) (hl:least ≤ n) (t:a0h) (b:Bool):a0e ⟨itoa n ++ e :: t,b⟩ e least = (n,⟨t,b⟩):=by
 obtain ⟨h1,h2⟩:=c0k n hn e he t
 unfold a0e
 simp only [h1]
 rw [if_pos h2,b8t n hn]
 simp only
 rw [if_neg (by omega)]
 have:(itoa n ++ e :: t).drop ((itoa n).length + 1) = t:=by
  rw [← List.drop_drop,List.drop_left]; rfl
 rw [this]
theorem a1t (r:Rd) (e:UInt8) (least:Int):a0e r e least = (0,failed) ∨ ∃ n t,a0e r e least = (n,⟨t,r.bad⟩) ∧ r.rest = itoa n ++ e :: t ∧ InR n ∧ least ≤ n:=by
 unfold a0e
 split
 ·rename_i hlt
  split
  ·rename_i n hc
   split
   ·exact .inl rfl
   ·rename_i hle
    obtain ⟨h1,h2⟩:=a4z _ _ hc
    refine .inr ⟨n,_,rfl,?_,h2,by omega⟩
    generalize hp:(r.rest.take 21).takeWhile (· != e) = p at *
    have hpre:r.rest.take 21 = p ++ (r.rest.take 21).drop p.length:=by
     have:=List.takeWhile_append_dropWhile (p:=(· != e)) (l:=r.rest.take 21)
     rw [hp] at this
     conv=>lhs; rw [← this]
     congr 1
     conv=>rhs; rw [← this]
     rw [List.drop_left]
    have hdw:(r.rest.take 21).dropWhile (· != e) = (r.rest.take 21).drop p.length:=by
     have:=List.takeWhile_append_dropWhile (p:=(· != e)) (l:=r.rest.take 21)
     rw [hp] at this
     conv=>rhs; rw [← this]
     rw [List.drop_left]
    have hpl:p.length < r.rest.length:=by
     have:=List.length_take_le 21 r.rest
     rw [List.length_take] at hlt
     omega
    have hhead:∃ t',(r.rest.take 21).drop p.length = e :: t':=by
     cases hd:(r.rest.take 21).drop p.length with
     | nil=>rw [List.drop_eq_nil_iff] at hd; omega
     | cons x t'=>
      rw [hd] at hdw
      have:=List.head_dropWhile_not (· != e) (l:=r.rest.take 21) (by rw [hdw]; simp)
      simp only [hdw,List.head_cons] at this
      have hx:x = e:=by simpa using this
      exact ⟨t',by rw [hx]⟩
    obtain ⟨t',ht'⟩:=hhead
    have hget:r.rest[p.length]? = some e:=by
     have h3:(r.rest.take 21)[p.length]? = some e:=by
      have:=congrArg (fun l=>l[0]?) ht'
      simpa using this
     rw [List.getElem?_take] at h3
     split at h3
     ·exact h3
     ·cases h3
    have htk:r.rest.take p.length = p:=by
     have h4:=congrArg (List.take p.length) hpre
     rw [List.take_left,List.take_take,Nat.min_eq_left (by rw [List.length_take] at hlt; omega)] at h4
     exact h4
    have hsplit:r.rest = r.rest.take p.length ++ r.rest.drop p.length:=(List.take_append_drop _ _).symm
    have hdrop:r.rest.drop p.length = e :: r.rest.drop (p.length + 1):=by
     rw [List.drop_eq_getElem_cons hpl]
     congr 1
     rw [List.getElem?_eq_getElem hpl] at hget
     simpa using hget
    rw [htk,hdrop] at hsplit
    rw [← h1]
    exact hsplit
  ·exact .inl rfl
 ·exact .inl rfl
theorem b3p:failed.bad = true:=rfl
def Rd.ok (r:Rd):Prop:=r.bad = true → r.rest = []
theorem Rd.ok_failed:failed.ok:=fun _=>rfl
theorem Rd.ok_good {t:a0h}:Rd.ok ⟨t,false⟩:=fun h=>by cases h
theorem Rd.eq_failed {r:Rd} (h:r.ok) (hb:r.bad = true):r = failed:=by
 cases r with
 | mk rest bad=>
  have:=h hb
  simp only at hb this
  subst hb; subst this; rfl
theorem b5v (e:UInt8) (least:Int):a0e failed e least = (0,failed):=by
 rcases a1t failed e least with h | ⟨n,t,_,h,_⟩
 ·exact h
 ·simp [failed] at h
theorem a7m (r:Rd) (h:r.ok) (e:UInt8) (least:Int):(a0e r e least).2.ok:=by
 rcases a1t r e least with h1 | ⟨n,t,h1,h2,_⟩
 ·rw [h1]; exact Rd.ok_failed
 ·rw [h1]
  intro hb
  have:=h hb
  rw [this] at h2
  simp at h2
theorem b0k (r:Rd) (c:UInt8):a0r r c = failed ∨ ∃ t,r.rest = c :: t ∧ a0r r c = ⟨t,r.bad⟩:=by
 unfold a0r
 split
 ·exact .inl rfl
 ·rename_i x t hx
  split
  ·rename_i hc
   subst hc
   exact .inr ⟨t,hx,rfl⟩
  ·exact .inl rfl
theorem b4o (c:UInt8) (t:a0h) (b:Bool):a0r ⟨c :: t,b⟩ c = ⟨t,b⟩:=by simp [a0r]
theorem b1p (c:UInt8):a0r failed c = failed:=rfl
theorem a6w:a0s failed = ([],failed):=by
 unfold a0s
 rw [b5v]
 simp [failed,a0r]
theorem a2q (r:Rd) (hr:r.ok):a0s r = ([],failed) ∨ ∃ s t,a0s r = (s,⟨t,false⟩) ∧ r = ⟨a0t s ++ t,false⟩ ∧ (s.length:Int) ≤ 9223372036854775807:=by
 rcases hb:r.bad with _ | _
 ·rcases a1t r 58 0 with h1 | ⟨n,t,h1,h2,h3,h4⟩
  ·left
   unfold a0s
   rw [h1]
   simp [failed,a0r]
  ·rw [hb] at h1
   unfold a0s
   rw [h1]
   dsimp only
   split
   ·left; rfl
   ·rename_i hlt
    rcases b0k ⟨t.drop n.toNat,false⟩ 44 with h5 | ⟨t',h5,h6⟩
    ·left; rw [h5]; rfl
    ·right
     rw [h6]
     simp only at h5
     refine ⟨t.take n.toNat,t',rfl,?_,?_⟩
     ·have hl:(t.take n.toNat).length = n.toNat:=by rw [List.length_take]; omega
      have hn:((t.take n.toNat).length:Int) = n:=by rw [hl]; omega
      obtain ⟨rest,bad⟩:=r
      simp only at hb h2
      subst hb
      rw [h2]
      unfold a0t
      rw [hn]
      congr 1
      conv=>lhs; rw [← List.take_append_drop n.toNat t,h5]
      simp
     ·have:=h3.2
      rw [List.length_take]; omega
 ·left
  rw [Rd.eq_failed hr hb]
  exact a6w
theorem b3q (s t:a0h) (hs:(s.length:Int) ≤ 9223372036854775807):a0s ⟨a0t s ++ t,false⟩ = (s,⟨t,false⟩):=by
 have h:=a8a s.length ⟨by omega,hs⟩ 58 (by decide) 0 (by omega) (s ++ 44 :: t) false
 have e:a0t s ++ t = itoa s.length ++ 58 :: (s ++ 44 :: t):=by simp [a0t]
 unfold a0s
 rw [e,h]
 dsimp only
 rw [if_neg (by simp; omega)]
 have h1:(s ++ 44 :: t).drop ((s.length:Int)).toNat = 44 :: t:=by simp
 have h2:(s ++ 44 :: t).take ((s.length:Int)).toNat = s:=by simp
 rw [h1,h2,b4o]
 rfl
theorem a8q (r:Rd) (hr:r.ok):a1m r = (0,failed) ∨ ∃ n t,a1m r = (n,⟨t,false⟩) ∧ r = ⟨a0n n ++ t,false⟩ ∧ InR n ∧ 0 ≤ n:=by
 rcases a1t r 59 0 with h1 | ⟨n,t,h1,h2,h3,h4⟩
 ·exact .inl h1
 ·rcases hb:r.bad with _ | _
  ·right
   rw [hb] at h1
   obtain ⟨rest,bad⟩:=r
   simp only at hb h2
   subst hb
   exact ⟨n,t,h1,by rw [h2]; simp [a0n],h3,h4⟩
  ·rw [hr hb] at h2; simp at h2
theorem a7h (r:Rd) (hr:r.ok):a1s r = (0,failed) ∨ ∃ n t,a1s r = (n,⟨t,false⟩) ∧ r = ⟨a0n n ++ t,false⟩ ∧ InR n:=by
 rcases a1t r 59 (-9223372036854775808) with h1 | ⟨n,t,h1,h2,h3,h4⟩
 ·exact .inl h1
 ·rcases hb:r.bad with _ | _
  ·right
   rw [hb] at h1
   obtain ⟨rest,bad⟩:=r
   simp only at hb h2
   subst hb
   exact ⟨n,t,h1,by rw [h2]; simp [a0n],h3⟩
  ·rw [hr hb] at h2; simp at h2
theorem b5w (n:Int) (hn:InR n) (t:a0h):a1s ⟨a0n n ++ t,false⟩ = (n,⟨t,false⟩):=by
 have:=a8a n hn 59 (by decide) (-9223372036854775808) hn.1 t false
 simpa [a1s,a0n] using this
theorem b5x (n:Int) (hn:InR n) (h0:0 ≤ n) (t:a0h):a1m ⟨a1a n ++ t,false⟩ = (n,⟨t,false⟩):=by
 have:=a8a n hn 59 (by decide) 0 h0 t false
 have h1:¬ n < 0:=by omega
 simpa [a1m,a1a,a0n,h1] using this
theorem b4p {α:Type} (one:Rd → α × Rd) (enc:α → a0h) (P:α → Prop) (hone:∀ r:Rd,r.ok → (one r).2 = failed ∨ ∃ v t,one r = (v,⟨t,false⟩) ∧ r = ⟨enc v ++ t,false⟩ ∧ P v):∀ (n:Nat) (r:Rd),r.ok →
  (a1p one n r).2 = failed ∨ ∃ vs t,a1p one n r = (vs,⟨t,r.bad⟩) ∧ vs.length = n ∧ r.rest = (vs.map enc).flatten ++ t ∧ ∀ v ∈ vs,P v
 | 0,r,_=>.inr ⟨[],r.rest,rfl,rfl,by simp,by simp⟩
 | n + 1,r,hr=>by
  unfold a1p
  split
  ·rename_i hb
   left
   exact Rd.eq_failed hr hb
  ·rename_i hb
   have hb:r.bad = false:=by simpa using hb
   rcases hone r hr with h1 | ⟨v,t,h1,h2,h3⟩
   ·left
    rw [h1]
    have:∀ n,(a1p one n failed).2 = failed:=by
     intro n
     cases n with
     | zero=>rfl
     | succ n=>rfl
    exact this n
   ·rw [h1]
    have hok:Rd.ok ⟨t,false⟩:=Rd.ok_good
    rcases b4p one enc P hone n _ hok with h4 | ⟨vs,t',h4,h5,h6,h7⟩
    ·left; exact h4
    ·right
     rw [h4]
     refine ⟨v :: vs,t',by rw [hb],by simp [h5],?_,?_⟩
     ·rw [h2]
      simp only at h6
      simp [h6]
     ·intro x hx
      rcases List.mem_cons.1 hx with rfl | hx
      ·exact h3
      ·exact h7 x hx
theorem c2t {α:Type} (one:Rd → α × Rd) (enc:α → a0h) (P:α → Prop) (hone:∀ r:Rd,r.ok → (one r).2 = failed ∨ ∃ v t,one r = (v,⟨t,false⟩) ∧ r = ⟨enc v ++ t,false⟩ ∧ P v) (r:Rd) (hr:r.ok) :
  b0i one r = ([],failed) ∨ ∃ vs t,b0i one r = (vs,⟨t,false⟩) ∧ r = ⟨a2g (vs.map enc) ++ t,false⟩ ∧ (vs.length:Int) ≤ 9223372036854775807 ∧ ∀ v ∈ vs,P v:=by
 have hf:∀ {q:Rd},q = failed → (if (a0r q 93).bad = true then (([]:List α),a0r q 93) else ((a1p one (a0e r 91 0).1.toNat (a0e r 91 0).2).1,a0r q 93)) = ([],failed):=by
  rintro q rfl
  rw [b1p]; rfl
 rcases a1t r 91 0 with h1 | ⟨n,t,h1,h2,h3,h4⟩
 ·left
  unfold b0i
  exact hf (by rw [h1]; rfl)
 ·rcases hb:r.bad with _ | _
  ·rw [hb] at h1
   rcases b4p one enc P hone n.toNat ⟨t,false⟩ Rd.ok_good with h5 | ⟨vs,t',h5,h6,h7,h8⟩
   ·left
    unfold b0i
    exact hf (by rw [h1]; exact h5)
   ·unfold b0i
    rw [h1]
    dsimp only
    rw [h5]
    dsimp only
    rcases b0k ⟨t',false⟩ 93 with h9 | ⟨t'',h9,h10⟩
    ·left; rw [h9]; rfl
    ·right
     rw [h10]
     refine ⟨vs,t'',rfl,?_,by have:=h3.2; omega,h8⟩
     have hn:(vs.length:Int) = n:=by omega
     obtain ⟨rest,bad⟩:=r
     simp only at hb h2 h7 h9
     subst hb
     rw [h2,h7,h9]
     simp [a2g,hn]
  ·rw [hr hb] at h2; simp at h2
theorem c6o {α:Type} (one:Rd → α × Rd) (enc:α → a0h) (vs:List α) (t:a0h) (h:∀ v ∈ vs,∀ t,one ⟨enc v ++ t,false⟩ = (v,⟨t,false⟩)):a1p one vs.length ⟨(vs.map enc).flatten ++ t,false⟩ = (vs,⟨t,false⟩):=by
 induction vs with
 | nil=>rfl
 | cons v vs ih=>
  have h1:=h v (by simp) ((vs.map enc).flatten ++ t)
  have h2:=ih (fun x hx=>h x (by simp [hx]))
  have e:((v :: vs).map enc).flatten ++ t = enc v ++ ((vs.map enc).flatten ++ t):=by simp
  rw [e,List.length_cons]
  unfold a1p
  rw [if_neg (by simp),h1]
  dsimp only
  rw [h2]
theorem c6p {α:Type} (one:Rd → α × Rd) (enc:α → a0h) (vs:List α) (t:a0h) (hl:(vs.length:Int) ≤ 9223372036854775807) (h:∀ v ∈ vs,∀ t,one ⟨enc v ++ t,false⟩ = (v,⟨t,false⟩)):b0i one ⟨a2g (vs.map enc) ++ t,false⟩ = (vs,⟨t,false⟩):=by
 have h1:=a8a vs.length ⟨by omega,hl⟩ 91 (by decide) 0 (by omega) ((vs.map enc).flatten ++ 93 :: t) false
 have e:a2g (vs.map enc) ++ t = itoa vs.length ++ 91 :: ((vs.map enc).flatten ++ 93 :: t):=by simp [a2g]
 have h2:=c6o one enc vs (93 :: t) h
 have h3:((vs.length:Int)).toNat = vs.length:=by simp
 unfold b0i
 rw [e,h1]
 dsimp only
 rw [h3,h2]
 dsimp only
 rw [b4o]
 rfl
theorem a3c (vs:List Int) (t:a0h) (hl:(vs.length:Int) ≤ 9223372036854775807) (h:∀ v ∈ vs,InR v):a0c ⟨a0d vs ++ t,false⟩ = (vs,⟨t,false⟩):=
 c6p a1s a0n vs t hl (fun v hv t=>b5w v (h v hv) t)
theorem a2r (r:Rd) (hr:r.ok):a0c r = ([],failed) ∨ ∃ vs t,a0c r = (vs,⟨t,false⟩) ∧ r = ⟨a0d vs ++ t,false⟩ ∧ (vs.length:Int) ≤ 9223372036854775807 ∧ ∀ v ∈ vs,InR v:=
 c2t a1s a0n InR (fun r hr=>by
  rcases a7h r hr with h | ⟨n,t,h1,h2,h3⟩
  ·left; rw [h]
  ·right; exact ⟨n,t,h1,h2,h3⟩) r hr
end CodeSpec
namespace Go.Proofs.Cd
open Go Go.Sh Go.RowKit Go.Lib CodeSpec
theorem d3h (l:List UInt8) (i j:Nat):(⟨l.toArray⟩:ByteArray).extract i j = ⟨((l.take j).drop i).toArray⟩:=by
 apply ByteArray.ext
 rw [← Array.toList_inj,ByteArray.data_extract,Array.toList_extract,List.extract_eq_take_drop]
 simp [List.drop_take]
theorem e3i (l:List UInt8) (k:Nat):a5v ⟨l.toArray⟩ k = l.getD k 0:=by
 simp [a5v]
attribute [go_sem] a3o e3h d3h e3i
theorem K_eq {K:VK} {w:World} {a b:Value} (h:K a w) (e:b = a):K b w:=by rw [e]; exact h
theorem a5r {f:FuncId} {args:Array Value} {w:World} {v:Value} {Q:WK} {K:VK} (h:Calls Tryz.prog f args w fun e w'=>e = .returned v ∧ Q w') (k:∀ w',Q w' → K v w'):a0a Tryz.prog f args K w:=
 Calls.mono h (fun _ w' ⟨he,hq⟩=>⟨v,he,k w' hq⟩)
structure Laid (w:World):Prop where
 tab:TabIs Tryz.prog w c1v .u64 pow10Tab
 size:8 ≤ w.heap.size
structure LaidE (w:World):Prop extends Laid w where
 syn:∃ te pe,w.cell? ⟨1,0,none⟩ = some (.iface te pe)
 ran:∃ te pe,w.cell? ⟨2,0,none⟩ = some (.iface te pe)
theorem gTab:Tryz.prog.globalNamed c1v = some 3:=by kernel_rfl
theorem Laid.keep {w w':World} (h:Laid w) (hb:∀ k,k < 8 → w'.heap[k]? = w.heap[k]?) (hs:w.heap.size ≤ w'.heap.size):Laid w':=by
 refine ⟨?_,Nat.le_trans h.size hs⟩
 have h1:=h.tab
 unfold TabIs World.var? at h1 ⊢
 rw [gTab] at h1 ⊢
 simp only [Option.bind_some] at h1 ⊢
 rw [hb _ (by omega)]
 exact h1
theorem Laid.below {w w':World} (h:Laid w) {B:Nat} (hb:Below B w w') (hB:8 ≤ B):Laid w':=h.keep (fun k hk=>hb.block k (by omega)) hb.size
theorem LaidE.keep {w w':World} (h:LaidE w) (hb:∀ k,k < 8 → w'.heap[k]? = w.heap[k]?) (hs:w.heap.size ≤ w'.heap.size):LaidE w':=by
 have hc:∀ k,k < 8 → w'.cell? ⟨k,0,none⟩ = w.cell? ⟨k,0,none⟩:=fun k hk=>World.cell?_of_block (w:=w) (hb k hk)
 refine ⟨h.toLaid.keep hb hs,?_,?_⟩
 ·rw [hc _ (by omega)]; exact h.syn
 ·rw [hc _ (by omega)]; exact h.ran
theorem LaidE.below {w w':World} (h:LaidE w) {B:Nat} (hb:Below B w w') (hB:8 ≤ B):LaidE w':=h.keep (fun k hk=>hb.block k (by omega)) hb.size
theorem LaidE.grown {w w':World} (h:LaidE w) {b:Nat} (hg:w.grownBy w' (some b)) (hb:8 ≤ b):LaidE w':=h.keep (fun k hk=>hg.block k (by have:=h.toLaid.size; omega) (by simp; omega)) hg.size
theorem grown_of_below {w w':World} (h:Bw w w') (b:Option Nat):w.grownBy w' b:=⟨h.os,h.tape,h.output,h.size,fun k hk _=>h.block k hk⟩
theorem below_of_grown {B:Nat} {w w':World} {row:Option Nat} (h:w.grownBy w' row) (hB:B ≤ w.heap.size) (hr:∀ k,row = some k → B ≤ k):Below B w w':=
 (Below.refl B w).grown h hB hr
theorem c1w (n:Int) (hn:InR n) {K:VK} {w:World} (hl:Laid w) (k:∀ w',Bw w w' → K (.string ⟨(itoa n).toArray⟩) w'):a0a Tryz.prog 139 #[.int .i64 n] K w:=by
 refine a5r (Tryz.strconv_Itoa n hn.1 hn.2 w hl.tab) ?_
 rintro w' ⟨d,os,rfl⟩
 exact k _ (below_grow _ _ (rL) _ _)
theorem b5e (w:World) (T:TypeId) (t:ByteArray):Below w.heap.size w (bytesWorld w T t):=
 ⟨rfl,rfl,rfl,by rw [bytesWorld_size]; omega,fun k hk=>bytesWorld_at_old w T t k hk⟩
theorem g0u (s:List UInt8) (hs:s.length ≤ 281474976710656) {K:VK} {w:World} (hl:LaidE w)
  (k1:∀ n w',atoiAll s = .ok n → Bw w w' → K (.tuple #[.int .i64 n,.nilIface]) w')
  (k2:∀ v te pe w',(∀ n,atoiAll s ≠ .ok n) → Bw w w' → K (.tuple #[.int .i64 v,.iface te pe]) w'):a0a Tryz.prog 201 #[.string ⟨s.toArray⟩] K w:=by
 cases h:atoiAll s with
 | ok n=>
  refine a5r (Tryz.strconv_Atoi_ok ⟨s.toArray⟩ (by rw [a3o]; omega) n (by rw [c1u]; exact h) w) ?_
  rintro w' (rfl | ⟨t,rfl⟩)
  ·exact k1 n _ h (bR)
  ·exact k1 n _ h (b5e _ _ _)
 | «syntax»=>
  obtain ⟨te,pe,he⟩:=hl.syn
  refine Calls.mono (Tryz.strconv_Atoi_syntax ⟨s.toArray⟩ (by rw [a3o]; omega) (by rw [c1u]; exact h) _ w he (.inr ⟨_,_,rfl⟩)) ?_
  rintro e w' ⟨N,rfl,_,_,hb⟩
  exact ⟨_,rfl,k2 _ _ _ _ (fun n e=>by rw [h] at e; cases e) hb⟩
 | range=>
  obtain ⟨te,pe,he⟩:=hl.ran
  refine Calls.mono (Tryz.strconv_Atoi_range ⟨s.toArray⟩ (by rw [a3o]; omega) (by rw [c1u]; exact h) _ w he (.inr ⟨_,_,rfl⟩)) ?_
  rintro e w' ⟨N,rfl,_,_,hb⟩
  exact ⟨_,rfl,k2 _ _ _ _ (fun n e=>by rw [h] at e; cases e) hb⟩
theorem c5e (s:List UInt8) (c:UInt8) {K:VK} {w:World} (h:K (.int .i64 (indexByte s c)) w):a0a Tryz.prog 200 #[.string ⟨s.toArray⟩,.int .u8 c.toNat] K w:=by
 refine a5r (Tryz.strings_IndexByte ⟨s.toArray⟩ c.toNat w) ?_
 rintro w' rfl
 have:((c.toNat:Int)).toNat.toUInt8 = c:=by simp
 rw [c1u,this]
 exact h
theorem cutPrefix_ok (s p:List UInt8) {K:VK} {w:World} (h:K (.tuple #[.string ⟨(trimPrefix s p).toArray⟩,.bool (hasPrefix s p)]) w):a0a Tryz.prog 185 #[.string ⟨s.toArray⟩,.string ⟨p.toArray⟩] K w:=by
 refine a5r (Tryz.strings_CutPrefix ⟨s.toArray⟩ ⟨p.toArray⟩ w) ?_
 rintro w' rfl
 exact h
theorem g0v:Tryz.prog.info? 258 = some Tryz.t258:=by kernel_rfl
theorem g9q:Tryz.t258.size = 2:=by kernel_rfl
theorem g9r (b:Nat):liesAt Tryz.prog Tryz.prog.depth 258 (2 / Tryz.prog.cellsOf 258) (⟨b,0,none⟩:Addr).off 258 1 = true:=by kernel_rfl
theorem g9s (x:Value) (w:World):(callFunc 297 #[x]).run Tryz.prog w = .ok (.value x) w:=by kernel_rfl
theorem g9t {x:Value} {K:VK} {w:World} (k:K x w):g7v Tryz.prog 297 #[x] K w:=by
 unfold g7v opM
 rw [g9s]
 exact k
theorem c1x (B b:Nat) (bs:List Value) (w:World) (h:BuilderAt 258 5 B b (.pointer none) bs w) {K:VK}
  (k:K (.tuple #[]) (w.setCell ⟨b,0,none⟩ (.pointer (some ⟨b,0,none⟩)))):a0a Tryz.prog 264 #[.pointer (some ⟨b,0,none⟩)] K w:=by
 apply c3d
 unfold d8k
 have hc:=h.cell0
 have hf:=h.frozen0
 have hv1:(convert 256 318 (.pointer (some ⟨b,0,none⟩))).run Tryz.prog w = .ok (.pointer (some ⟨b,0,none⟩)) w:=
  run_to_unsafe (P:=Tryz.prog) (w:=w) (a:=⟨b,0,none⟩) Tryz.underlying256 Tryz.underlying318 (t:=258) (j:=Tryz.t258) g0v (by rw [g9q]; omega) h.shape (by show (0:Nat) < 2; omega)
 have hv2:(convert 318 256 (.pointer (some ⟨b,0,none⟩))).run Tryz.prog w = .ok (.pointer (some ⟨b,0,none⟩)) w:=
  run_from_unsafe (P:=Tryz.prog) (w:=w) (a:=⟨b,0,none⟩) Tryz.underlying318 Tryz.underlying256 (u:=258) (j:=Tryz.t258) g0v h.shape (g9r b)
 repeat (any_goals (first
 | (with_reducible refine g9t ?_)
 | (with_reducible refine yL ?_)
 | ((with_reducible refine oG fun X Y=>?_); simp [go_sem,e3c,eqGuard,hc,hf,hv1,hv2]; apply Y; clear Y X)))
 exact k
theorem b8n (B b:Nat) (bs:List Value) (w:World) (h:BuilderAt 258 5 B b (.pointer (some ⟨b,0,none⟩)) bs w) {K:VK}
  (k:K (.tuple #[]) w):a0a Tryz.prog 264 #[.pointer (some ⟨b,0,none⟩)] K w:=by
 apply c3d
 unfold d8k
 have hc:=h.cell0
 have hf:=h.frozen0
 have hn:=run_neq_ptr_same (P:=Tryz.prog) (w:=w) (tp:=256) (te:=258) (j:=Tryz.t258) (a:=⟨b,0,none⟩) Tryz.underlying256 g0v
 repeat (any_goals (first
 | (with_reducible refine yM ?_)
 | ((with_reducible refine oG fun X Y=>?_); simp [go_sem,e3c,g6z,eqGuard,hc,hf,hn]; apply Y; clear Y X)))
 exact k
theorem c5f (B b:Nat) (bs:List Value) (w:World) (h:IsBuilder 258 5 B b bs w) {K:VK}
  (k:∀ w',BuilderAt 258 5 B b (.pointer (some ⟨b,0,none⟩)) bs w' → w.grownBy w' (some b) → w'.heap.size = w.heap.size → K (.tuple #[]) w'):a0a Tryz.prog 264 #[.pointer (some ⟨b,0,none⟩)] K w:=by
 rcases h with h | h
 ·refine c1x B b bs w h (k _ (h.used _) ⟨rfl,rfl,rfl,by simp [World.setCell],fun i _ hi=>Below.heap_setCell _ _ _ _ (fun e=>hi (by simp [e]))⟩ (by simp [World.setCell]))
 ·exact b8n B b bs w h (k _ h ⟨rfl,rfl,rfl,rL,fun _ _ _=>rfl⟩ rfl)
theorem c1y {w:World} {B:Nat} {e:TypeId} {sz:Nat} {v:Value} {n:Nat} {xs:List Value} (h:w.ownsRow B e sz v n xs):∃ a m c,v = .slice a m c:=by
 rcases h.2 with ⟨h,_⟩ | ⟨g,cap,cur,h,_⟩
 ·exact ⟨_,_,_,h⟩
 ·exact ⟨_,_,_,h⟩
theorem b5f (B b:Nat) (l:List UInt8) (w:World) (h:IsBuilder 258 5 B b (Lib.byteCells l) w) (hBw:B ≤ w.heap.size) {K:VK} (k:∀ w',Below B w w' → K (.string ⟨l.toArray⟩) w'):a0a Tryz.prog 217 #[.pointer (some ⟨b,0,none⟩)] K w:=
 a5r (Tryz.Builder_String_any B b l w h hBw) k
theorem b1u (B b:Nat) (l s:List UInt8) (w:World) (h:IsBuilder 258 5 B b (Lib.byteCells l) w) (hlen:l.length + s.length ≤ 140737488355328) (hBw:B ≤ w.heap.size) {K:VK}
  (k:∀ w',IsBuilder 258 5 B b (Lib.byteCells (l ++ s)) w' → Below B w w' → K (.tuple #[.int .i64 s.length,.nilIface]) w'):a0a Tryz.prog 216 #[.pointer (some ⟨b,0,none⟩),.string ⟨s.toArray⟩] K w:=by
 apply d8l
 unfold f6n
 refine c5f B b _ w h ?_
 intro w1 h1 hg1 hs1
 obtain ⟨hB,v,hb,hown,hne⟩:=h1
 have hc1:w1.cell? ⟨b,1,none⟩ = some v:=by simp [World.cell?,hb]
 have hbl:Below B w w1:=below_of_grown hg1 hBw (fun k hk=>by cases hk; exact hB)
 have hbl5:(Lib.byteCells l).length = l.length:=by simp [Lib.byteCells]
 refine Xa @hc1 ?_
 obtain ⟨v',w2,hrun,ho,hg,_⟩:=run_append_own_string (P:=Tryz.prog) w1 B 242 9 242 5 Tryz.t5 Tryz.underlying242 Tryz.underlying9 (by kernel_rfl) (by kernel_rfl) (by kernel_rfl) (by kernel_rfl) v (Lib.byteCells l).length (Lib.byteCells l) hown ⟨s.toArray⟩ (by unfold maxLen; rw [a3o]; omega) (by rw [a3o]; omega) (by omega)
 rw [a1h (S:=Builtin.append_ #[242,9] 242 #[v,.string ⟨s.toArray⟩]) (by simp [xop,execOp,a1e,evE,resolve,invoke,builtin]),hrun,a3p]
 have hb2:w2.heap[b]? = some (.cells #[.pointer (some ⟨b,0,none⟩),v] 258 (0,0)):=by
  rw [hg.block b (by have:=(Array.getElem?_eq_some_iff.1 hb).1; exact this) (fun e=>hne e.symm)]
  exact hb
 have hc2:w2.cell? ⟨b,1,none⟩ = some v:=by simp [World.cell?,hb2]
 have hf2:w2.frozen? ⟨b,1,none⟩ = false:=by simp [World.frozen?,hb2]
 have ho':w2.ownsRow B 5 1 v' (Lib.byteCells (l ++ s)).length (Lib.byteCells (l ++ s)):=by
  have e:Lib.byteCells l ++ strCells ⟨s.toArray⟩ = Lib.byteCells (l ++ s):=by simp [Lib.byteCells,strCells]
  have e2:(Lib.byteCells l).length + (⟨s.toArray⟩:ByteArray).size = (Lib.byteCells (l ++ s)).length:=by rw [a3o]; simp [Lib.byteCells]
  rw [e,e2] at ho
  exact ho
 have hput:=BuilderAt.put (p:=.pointer (some ⟨b,0,none⟩)) hB hb2 ho' (by decide)
 have hbl2:Below B w w2:=hbl.trans (below_of_grown hg (by omega) (fun k hk=>(hown.lt k hk).1))
 obtain ⟨av,nv,cv,rfl⟩:=c1y ho
 refine Xa (An2 @hc2 @hf2) ?_
 exact k _ (.inr hput) (hbl2.setCell hB _)
end Go.Proofs.Cd
namespace Go.Proofs.Cd
open Go Go.Sh Go.RowKit Go.Lib CodeSpec
def intV (n:Int):Value:=.int .i64 n
def strV (s:List UInt8):Value:=.string ⟨s.toArray⟩
def RowOf {α:Type} (mk:α → Value) (w:World) (v:Value) (l:List α):Prop:=
 ∃ ad c,v = .slice ad l.length c ∧ (l = [] ∨ ∃ b o,ad = some ⟨b,o,none⟩ ∧ b < w.heap.size ∧ ∀ (i:Nat) (h:i < l.length),w.cell? ⟨b,o + i,none⟩ = some (mk l[i]))
theorem RowOf.nil {α:Type} (mk:α → Value) (w:World) (ad:Option Addr) (c:Nat):RowOf mk w (.slice ad 0 c) []:=⟨ad,c,rfl,.inl rfl⟩
theorem addr_add (b o k:Nat):(⟨b,o,none⟩:Addr).add k = ⟨b,o + k,none⟩:=by
 unfold Addr.add
 split
 ·rename_i h0; rw [h0]; simp
 ·rfl
theorem RowOf.of_owns {α:Type} {mk:α → Value} {w:World} {B:Nat} {e:TypeId} {v:Value} {l:List α} (h:w.ownsRow B e 1 v l.length (l.map mk)):RowOf mk w v l:=by
 rcases h.2 with ⟨rfl,h0⟩ | ⟨g,cap,cur,rfl,hb,hg,hn,hm,hcs,ht⟩
 ·obtain rfl:l = []:=List.eq_nil_of_length_eq_zero h0
  exact RowOf.nil _ _ _ _
 ·refine ⟨_,cap,rfl,.inr ⟨g,0,rfl,(Array.getElem?_eq_some_iff.1 hg).1,fun i hi=>?_⟩⟩
  have:(l.map mk)[i]? = some (mk l[i]):=by simp [hi]
  rw [← ht,List.getElem?_take_of_lt (by omega)] at this
  unfold World.cell?
  rw [hg]
  simpa using this
theorem g7g {b o n c k:Nat} (hk:k < n) (w:World):(Instr.indexAt 24 (.slice (some ⟨b,o,none⟩) n c) (.int .i64 k)).run Tryz.prog w = .ok (.pointer (some ⟨b,o + k,none⟩)) w:=by
 rw [run_indexAt_slice (h:=by kernel_rfl),if_pos (by omega)]
 have hs:(sizeOf (Tryz.prog.elem 24)).run Tryz.prog w = .ok 1 w:=by kernel_rfl
 rw [hs]
 simp only [Result.andThen,Int.toNat_natCast,addr_add,Nat.mul_one]
theorem encInt_len (n:Int) (h:InR n):(a0n n).length ≤ 21:=by
 have:=a4k n h
 simp [a0n]; omega
theorem pInt_ok (n:Int) (hn:InR n) {K:VK} {w:World} (hl:Laid w) (k:∀ w',Bw w w' → K (.string ⟨(a0n n).toArray⟩) w'):a0a Tryz.prog 85 #[.int .i64 n] K w:=by
 apply e8p
 unfold g4v
 refine c1w n hn hl ?_
 intro w1 hb
 have:=a4k n hn
 refine Xa0 ?_
 exact K_eq (k _ hb) (by simp [a0n])
theorem encText_len (s:List UInt8) (hs:(s.length:Int) ≤ 9223372036854775807):(a0t s).length ≤ s.length + 22:=by
 have:=a4k s.length ⟨by omega,hs⟩
 simp [a0t]; omega
theorem flat_snoc {α:Type} (enc:α → List UInt8) (xs:List α) (k:Nat) (h:k < xs.length):((xs.take (k + 1)).map enc).flatten = ((xs.take k).map enc).flatten ++ enc xs[k]:=by
 rw [List.take_add_one,gE h]
 simp only [Option.toList_some,List.map_append,List.map_cons,List.map_nil,List.flatten_append,List.flatten_cons,List.flatten_nil,List.append_nil]
theorem flat_le {α:Type} (enc:α → List UInt8) (xs:List α) (k:Nat):((xs.take k).map enc).flatten.length ≤ (xs.map enc).flatten.length:=by
 conv=>rhs; rw [← List.take_append_drop k xs]
 rw [List.map_append,List.flatten_append,List.length_append]
 omega
theorem IsBuilder.below {T e:TypeId} {B b:Nat} {bs:List Value} {w w':World} (h:IsBuilder T e B b bs w) (hb:Bw w w'):IsBuilder T e B b bs w':=by
 have key:∀ p,BuilderAt T e B b p bs w → BuilderAt T e B b p bs w':=by
  rintro p ⟨hB,v,hh,hown,hne⟩
  have hlt:=(Array.getElem?_eq_some_iff.1 hh).1
  refine ⟨hB,v,by rw [hb.block _ hlt]; exact hh,?_,hne⟩
  exact hown.kept (grown_of_below hb none) (by
   rcases hown.2 with ⟨rfl,_⟩ | ⟨g,cap,cur,rfl,_⟩
   ·left; rfl
   ·right; simp [Value.ownBlock])
 exact h.imp (key _) (key _)
theorem c1z (xs:List (Int)) (v:Value) {K:VK} {w:World} (hl:Laid w) (hrow:RowOf intV w v xs) (hx:∀ x ∈ xs,InR x) (hlen:(a2g (xs.map a0n)).length < 2^40)
  (k:∀ w',Bw w w' → K (.string ⟨(a2g (xs.map a0n)).toArray⟩) w'):a0a Tryz.prog 165 #[v,.func (.func 85) #[] #[]] K w:=by
 apply d8m
 unfold f6o
 have hsz:(a2g (xs.map a0n)).length = (itoa (xs.length:Nat)).length + 1 + ((xs.map a0n).flatten).length + 1:=by simp [a2g]; omega
 have hxl:xs.length ≤ (xs.map a0n).flatten.length:=by
  rw [List.length_flatten]
  clear hrow hlen hsz k
  induction xs with
  | nil=>simp
  | cons x xs ih=>
   have:=ih (fun y hy=>hx y (List.mem_cons_of_mem _ hy))
   have h1:1 ≤ (a0n x).length:=by simp [a0n]; try omega
   simp only [List.length_cons,List.map_cons,List.sum_cons]
   omega
 have hin:InR (xs.length:Nat):=⟨by omega,by omega⟩
 have hil:=a4k _ hin
 obtain ⟨ad,c,rfl,hcell⟩:=hrow
 have hl0:Laid (w.alloc (.cells #[.pointer none,.slice none 0 0] 258)):=hl.below ((bR).alloc (rL) _) hl.size
 refine Xa0 ?_
 refine c1w _ hin hl0 (fun w1 hb1=>?_)
 have hb1':Bw w w1:=((bR).alloc (rL) _).trans (hb1.mono (by simp))
 have hB1:=IsBuilder.below (fresh_isBuilder 258 5 w) hb1
 have hz1:=hb1'.size
 refine Xa0 ?_
 refine b1u w.heap.size _ [] _ _ hB1 (by simp; omega) (by omega) ?_
 intro w2 hB2 hb2
 have hb2':=hb1'.trans hb2
 refine Xa0 ?_
 refine ⟨fun l w'=>∃ (x:Value) (k:Nat),l = [x,.int .i64 k] ∧ k ≤ xs.length ∧ IsBuilder 258 5 w.heap.size w.heap.size (Lib.byteCells (itoa (xs.length:Nat) ++ 91 :: ((xs.take k).map a0n).flatten)) w' ∧ Bw w w',fun l _=>xs.length - (match l with | [_,.int _ n]=>n.toNat | _=>0),⟨_,0,rfl,by omega,by simpa using hB2,hb2'⟩,?_⟩
 rintro _ _ w3 ⟨x,j,rfl,hj,hB3,hb3⟩
 have hz3:=hb3.size
 simp only [List.getD_cons_zero,List.getD_cons_succ]
 have hfl:=flat_le a0n xs j
 by_cases hlt:j < xs.length
 ·rcases hcell with rfl | ⟨b,o,rfl,hbw,hcells⟩
  ·simp at hlt
  have hc:=hcells j hlt
  rw [← hb3.cell hbw] at hc
  simp only [intV] at hc
  have hix:=g7g (b:=b) (o:=o) (c:=c) hlt w3
  have hl3:Laid w3:=hl.below hb3 hl.size
  have hP:=hx xs[j] (List.getElem_mem hlt)
  have hfl1:=flat_le a0n xs (j + 1)
  rw [flat_snoc _ _ _ hlt,List.length_append] at hfl1
  repeat (any_goals (first
  | (rw [kI,a2b,hix,c8l])
  | (with_reducible refine yN ?_)
  | ((with_reducible refine oG fun X Y=>?_); simp [go_sem,hc]; apply Y; clear Y X)))
  refine a3q (by kernel_rfl) ?_
  refine pInt_ok _ hP hl3 ?_
  intro w4 hb4
  have hz4:=hb4.size
  have hB4:IsBuilder 258 5 w.heap.size w.heap.size (Lib.byteCells (itoa (xs.length:Nat) ++ 91 :: ((xs.take j).map a0n).flatten)) w4:=IsBuilder.below hB3 hb4
  refine b1u w.heap.size _ _ _ _ hB4 (by simp only [List.length_append,List.length_cons]; omega) (by omega) ?_
  intro w5 hB5 hb5
  refine Xa0 ?_
  refine ⟨⟨_,j + 1,rfl,hlt,?_,(hb3.trans (hb4.mono hz3)).trans hb5⟩,by simp; omega⟩
  rw [flat_snoc _ _ _ hlt]
  simpa using hB5
 ·obtain rfl:j = xs.length:=by omega
  rw [List.take_length] at hB3 hfl
  obtain ⟨F,hF⟩:∃ F,F = (xs.map a0n).flatten:=⟨_,rfl⟩
  rw [← hF] at hB3 hfl hsz
  refine Xa0 ?_
  refine b5f _ _ _ _ hB3 (by omega) ?_
  intro w4 hb4
  refine Xa0 ?_
  exact K_eq (k _ (hb3.trans hb4)) (by simp [a2g,hF])
theorem pNums_ok (xs:List (Int)) (v:Value) {K:VK} {w:World} (hl:Laid w) (hrow:RowOf intV w v xs) (hx:∀ x ∈ xs,InR x) (hlen:(a2g (xs.map a0n)).length < 2^40)
  (k:∀ w',Bw w w' → K (.string ⟨(a2g (xs.map a0n)).toArray⟩) w'):a0a Tryz.prog 84 #[v] K w:=by
 apply e8q
 unfold g4w
 refine Xa0 ?_
 exact c1z xs v hl hrow hx hlen k
end Go.Proofs.Cd
namespace Go.Proofs.Cd
open Go Go.Sh Go.RowKit Go.Lib CodeSpec
def IsRd (w:World) (b:Nat) (r:Rd):Prop:=w.heap[b]? = some (.cells #[.string ⟨r.rest.toArray⟩,.bool r.bad] 182 (0,0))
theorem IsRd.c0 {w:World} {b:Nat} {r:Rd} (h:IsRd w b r):w.cell? ⟨b,0,none⟩ = some (.string ⟨r.rest.toArray⟩):=by
 unfold IsRd at h; simp [World.cell?,h]
theorem IsRd.c1 {w:World} {b:Nat} {r:Rd} (h:IsRd w b r):w.cell? ⟨b,1,none⟩ = some (.bool r.bad):=by
 unfold IsRd at h; simp [World.cell?,h]
theorem IsRd.fz {w:World} {b:Nat} {r:Rd} (h:IsRd w b r) (i:Nat):w.frozen? ⟨b,i,none⟩ = false:=by
 unfold IsRd at h; simp [World.frozen?,h]
theorem IsRd.lt {w:World} {b:Nat} {r:Rd} (h:IsRd w b r):b < w.heap.size:=(Array.getElem?_eq_some_iff.1 h).1
theorem heap_set {w:World} {b i:Nat} {cs:Array Value} {T:TypeId} {f:Nat × Nat} (h:w.heap[b]? = some (.cells cs T f)) (u:Value):(w.setCell ⟨b,i,none⟩ u).heap[b]? = some (.cells (cs.setIfInBounds i u) T f):=by
 simp [World.setCell,Array.getElem?_modify,h]
theorem IsRd.set0 {w:World} {b:Nat} {r:Rd} (h:IsRd w b r) (l:List UInt8):IsRd (w.setCell ⟨b,0,none⟩ (.string ⟨l.toArray⟩)) b ⟨l,r.bad⟩:=by
 unfold IsRd at h ⊢
 rw [heap_set h]; rfl
theorem IsRd.set1 {w:World} {b:Nat} {r:Rd} (h:IsRd w b r) (t:Bool):IsRd (w.setCell ⟨b,1,none⟩ (.bool t)) b ⟨r.rest,t⟩:=by
 unfold IsRd at h ⊢
 rw [heap_set h]; rfl
theorem IsRd.below {w w':World} {b:Nat} {r:Rd} (h:IsRd w b r) {B:Nat} (hb:Below B w w') (hB:b < B):IsRd w' b r:=by
 unfold IsRd at h ⊢
 rw [hb.block _ hB]; exact h
theorem a4h (w:World) (b i:Nat) (u:Value):w.grownBy (w.setCell ⟨b,i,none⟩ u) (some b):=
 ⟨rfl,rfl,rfl,by simp [World.setCell],fun k _ hk=>Below.heap_setCell _ _ _ _ (fun e=>hk (by simp [e]))⟩
theorem d3m (w:World) (b:Option Nat):w.grownBy w.drew b:=⟨rfl,rfl,rfl,rL,fun _ _ _=>rfl⟩
theorem c8p (b:Nat) (r:Rd) {K:VK} {w:World} (hr:IsRd w b r) (k:∀ w',IsRd w' b failed → w.grownBy w' (some b) → K (.tuple #[]) w'):a0a Tryz.prog 137 #[.pointer (some ⟨b,0,none⟩)] K w:=by
 apply d8s
 unfold f6u
 have h0:=hr.c0
 have f0:=hr.fz 0
 have hr1:=hr.set0 []
 have f1:=hr1.fz 1
 have h1:=hr1.c1
 refine Xg (An4 @h0 @f0 @h1 @f1) ?_
 exact k _ (hr1.set1 true) (a0l (a4h _ _ _ _) (a4h _ _ _ _))
theorem d1e (b:Nat) (r:Rd) (c:UInt8) {K:VK} {w:World} (hr:IsRd w b r) (k:∀ w',IsRd w' b (a0r r c) → w.grownBy w' (some b) → K (.tuple #[]) w'):a0a Tryz.prog 138 #[.pointer (some ⟨b,0,none⟩),.string ⟨#[c]⟩] K w:=by
 apply d8r
 unfold f6t
 have h0:=hr.c0
 have f0:=hr.fz 0
 repeat (any_goals (first
 | (with_reducible refine cutPrefix_ok r.rest [c] ?_)
 | (with_reducible ((refine a1n ?_); refine yV (fun hg=>?_) fun hg=>?_))
 | ((with_reducible refine oG fun X Y=>?_); simp [go_sem,h0,f0]; apply Y; clear Y X)))
 ·skip
  obtain ⟨t,ht⟩:∃ t,r.rest = c :: t:=by
   unfold hasPrefix at hg
   rw [List.isPrefixOf_iff_prefix] at hg
   obtain ⟨t,ht⟩:=hg
   exact ⟨t,by rw [← ht]; rfl⟩
  have e:trimPrefix r.rest [c] = t:=by simp [trimPrefix,hasPrefix,ht]
  refine k _ ?_ (a4h _ _ _ _)
  have:=hr.set0 t
  rw [e]
  have e2:a0r r c = ⟨t,r.bad⟩:=by simp [a0r,ht]
  rw [e2]
  exact this
 ·skip
  refine c8p b _ (hr.set0 _) ?_
  intro w1 hr1 hg1
  refine k w1 ?_ (a0l (a4h _ _ _ _) hg1)
  have e2:a0r r c = failed:=by
   rcases b0k r c with h | ⟨t,h,_⟩
   ·exact h
   ·rw [h] at hg; simp [hasPrefix] at hg
  rw [e2]
  exact hr1
theorem b8o (l:List UInt8) (c:UInt8):indexByte l c = if (l.takeWhile (· != c)).length < l.length then ((l.takeWhile (· != c)).length:Int) else -1:=by
 induction l with
 | nil=>rfl
 | cons x l ih=>
  unfold indexByte
  by_cases hx:x = c
  ·subst hx; simp
  ·have h1:(x == c) = false:=by simp [hx]
   have tw:(x :: l).takeWhile (· != c) = x :: l.takeWhile (· != c):=by simp [hx]
   rw [tw,List.length_cons,List.length_cons,h1,if_neg (by simp)]
   by_cases hlt:(l.takeWhile (· != c)).length < l.length
   ·rw [if_pos hlt] at ih
    have e:(indexByte l c == -1) = false:=by
     rw [ih,beq_eq_false_iff_ne]
     omega
    rw [e,if_neg (by simp),ih,if_pos (by omega)]
    omega
   ·rw [if_neg hlt] at ih
    rw [ih,if_pos (by simp),if_neg (by omega)]
theorem f2e (l:List UInt8) (c:UInt8):l.take (l.takeWhile (· != c)).length = l.takeWhile (· != c):=by
 exact (List.prefix_iff_eq_take.1 (List.takeWhile_prefix _)).symm
set_option maxHeartbeats 1600000 in
theorem b3h (b:Nat) (r:Rd) (e:UInt8) (least:Int) {K:VK} {w:World} (hl:LaidE w) (hlen:r.rest.length < 2^60) (hr:IsRd w b r) (k:∀ w',IsRd w' b (a0e r e least).2 → w.grownBy w' (some b) → K (.int .i64 (a0e r e least).1) w'):a0a Tryz.prog 136 #[.pointer (some ⟨b,0,none⟩),.int .u8 e.toNat,.int .i64 least] K w:=by
 apply d8q
 unfold f6s
 refine b4i ?_
 have hr1:IsRd { w with drawn:=w.drawn + 1 } b r:=hr
 have hl1:LaidE { w with drawn:=w.drawn + 1 }:=hl.keep (fun _ _=>rfl) (rL)
 have hg1:w.grownBy { w with drawn:=w.drawn + 1 } (some b):=d3m _ _
 generalize { w with drawn:=w.drawn + 1 } = w1 at *
 have h0:=hr1.c0
 have hmin:(min (r.rest.length:Int) 21).toNat = min r.rest.length 21:=by omega
 obtain ⟨q,hq⟩:∃ q,q = r.rest.take 21:=⟨_,rfl⟩
 obtain ⟨p,hp⟩:∃ p,p = q.takeWhile (· != e):=⟨_,rfl⟩
 have htk:r.rest.take (min r.rest.length 21) = q:=by
  rw [hq,List.take_eq_take_iff]; omega
 have hix:=b8o q e
 rw [← hp] at hix
 have hple:p.length ≤ q.length:=by rw [hp]; exact (List.takeWhile_prefix _).length_le
 have hpl21:q.length ≤ 21:=by rw [hq]; exact List.length_take_le ..
 have hpr:q.length ≤ r.rest.length:=by rw [hq,List.length_take]; omega
 have hnum:a0e r e least = if p.length < q.length then (match a6g p with | some n=>if n < least then (0,failed) else (n,⟨r.rest.drop (p.length + 1),r.bad⟩) | none=>(0,failed)) else (0,failed):=by rw [hp,hq]; rfl
 have hsl:q.take p.length = p:=by rw [hp]; exact f2e _ _
 have fin:∀ w2,Bw w1 w2 → a0e r e least = (0,failed) → a0a Tryz.prog 137 #[.pointer (some ⟨b,0,none⟩)] (fun _ w=>K (.int .i64 0) w) w2:=by
  intro w2 hb2 hn
  refine c8p b _ (hr1.below hb2 hr1.lt) ?_
  intro w3 hr3 hg3
  have:=k w3 (by rw [hn]; exact hr3) (a0l hg1 (a0l (grown_of_below hb2 _) hg3))
  rw [hn] at this
  exact this
 clear hp hq
 refine Xg (An3 @h0 @hmin @htk) ?_
 refine c5e _ e ?_
 rw [hix]
 by_cases hlt:p.length < q.length
 ·rw [if_pos hlt] at hnum ⊢
  refine Xg @hsl ?_
  refine g0u p (by omega) hl1 (fun n w2 hn hb2=>?_) (fun v te pe w2 hn hb2=>?_)
  ·have hinr:=atoiAll_bounds hn
   have hcan:a6g p = if itoa n = p then some n else none:=by unfold a6g; rw [hn]
   refine Xc0 ?_
   refine ⟨fun w'=>Bw w2 w',⟨rfl,rfl,rfl,rL,fun _ _=>rfl⟩,?_⟩
   repeat (any_goals (first
   | (with_reducible first|refine c1t ?_|((refine f0x ?_); refine b5o fun _=>?_)|refine zC ?_)
   | ((with_reducible refine g1u ?_); (with_reducible refine e3d ⟨_,rfl⟩ (fun W0 hW0=>by (refine oG (fun X Y=>?_)); simp [go_sem,f8b,eqGuard]; (first | exact Y _ _ ⟨rfl,rfl⟩ | exact ⟨by omega,Y _ _ ⟨rfl,rfl⟩⟩)) ?_))))
   refine a8i (C:=fun w0=>Bw w2 w0) (v:=.string ⟨(itoa n).toArray⟩) (fun w3 hw3=>c1w n hinr (hl1.toLaid.below (hb2.trans (hw3.mono hb2.size)) hl1.size) (fun w4 hb4=>⟨rfl,hw3.trans (hb4.mono hw3.size)⟩)) ?_
   repeat (any_goals (first
   | (with_reducible first|refine c1t ?_|((refine f0x ?_); refine b5o fun _=>?_)|((refine a9c ?_); first|refine zC ?_|((refine c4p ?_); first|refine zO ?_|refine zP ?_|refine zQ (fun hg=>?_) fun hg=>?_)))
   | ((with_reducible refine g1u ?_); first|(with_reducible first|refine wB ?_|refine wE ?_|refine wF ?_)|(with_reducible refine e3d ⟨_,rfl⟩ (fun W0 hW0=>by (refine oG (fun X Y=>?_)); simp [go_sem,hsl]; (first | exact Y _ _ ⟨rfl,rfl⟩ | exact ⟨by omega,Y _ _ ⟨rfl,rfl⟩⟩)) ?_))))
   ·rw [hcan,if_pos hg] at hnum
    intro w3 hw3
    have hb3:Bw w1 w3:=hb2.trans (hw3.mono hb2.size)
    have hr3:=hr1.below hb3 hr1.lt
    have h3:=hr3.c0
    have f3:=hr3.fz 0
    simp only at hnum
    by_cases hle:n < least
    ·rw [if_pos hle] at hnum
     repeat (any_goals (first
     | (with_reducible refine fin _ hb3 hnum)
     | (with_reducible refine yN ?_)))
    ·rw [if_neg hle] at hnum
     repeat (any_goals (first
     | (with_reducible refine yO ?_)
     | ((with_reducible refine oG fun X Y=>?_); simp [go_sem,h3,f3]; (try simp (disch:=omega) only [a0u,a2y,a1r]); (first|refine Y _ _ ?_|refine And.intro (by omega) (Y _ _ ?_)); clear Y X)))
     have:=k _ (by rw [hnum]; exact hr3.set0 _) (a0l hg1 (a0l (grown_of_below hb3 _) (a4h _ _ _ _)))
     rw [hnum] at this
     exact this
   ·rw [hcan,if_neg hg] at hnum
    simp only at hnum
    intro w3 hw3
    repeat (any_goals (first
    | (with_reducible refine fin _ (hb2.trans (hw3.mono hb2.size)) hnum)
    | (with_reducible refine yL ?_)))
  ·have hcan:a6g p = none:=by
    unfold a6g
    cases hc:atoiAll p with
    | ok n=>exact absurd hc (hn n)
    | «syntax»=>rfl
    | range=>rfl
   rw [hcan] at hnum
   simp only at hnum
   refine Xc0 ?_
   refine b4i ?_
   repeat (any_goals (first
   | (with_reducible first|((refine f0x ?_); refine b5o fun _=>?_)|refine And.intro (Eq.refl (α:=World) _) ?_|refine b9z ?_|refine zD ?_|refine yL ?_)
   | ((with_reducible refine g1u ?_); first|(with_reducible refine wA ?_)|((with_reducible refine f8c ?_ ?_); exact ⟨_,rfl⟩))
   | ((with_reducible refine oG fun X Y=>?_); simp [go_sem,f8b,eqGuard]; apply Y; clear Y X)))
   exact fin _ hb2.drew hnum
 ·rw [if_neg hlt] at hnum ⊢
  repeat (any_goals (first
  | (with_reducible refine fin _ (bR) hnum)
  | (with_reducible refine yL ?_)
  | ((with_reducible refine oG fun X Y=>?_); simp [go_sem]; apply Y; clear Y X)))
end Go.Proofs.Cd
namespace Go.Proofs.Cd
open Go Go.Sh Go.RowKit Go.Lib CodeSpec
theorem rest_le (r:Rd) (e:UInt8) (least:Int):(a0e r e least).2.rest.length ≤ r.rest.length:=by
 rcases a1t r e least with h | ⟨n,t,h,h2,_⟩
 ·rw [h]; simp [failed]
 ·rw [h,h2]; simp; omega
theorem rint_ok (b:Nat) (r:Rd) {K:VK} {w:World} (hl:LaidE w) (hlen:r.rest.length < 2^60) (hr:IsRd w b r) (k:∀ w',IsRd w' b (a1s r).2 → w.grownBy w' (some b) → K (.int .i64 (a1s r).1) w'):a0a Tryz.prog 131 #[.pointer (some ⟨b,0,none⟩)] K w:=by
 apply d8p
 unfold f6r
 exact b3h b r 59 (-9223372036854775808) hl hlen hr k
theorem open_ok (s:List UInt8) {K:VK} {w:World} (k:∀ w',IsRd w' w.heap.size ⟨s,false⟩ → Bw w w' → K (.pointer (some ⟨w.heap.size,0,none⟩)) w'):a0a Tryz.prog 52 #[.string ⟨s.toArray⟩] K w:=by
 apply e8r
 unfold g4x
 refine Xa0 ?_
 exact k _ (by unfold IsRd; exact heap_alloc_new _ _) ((bR).alloc (rL) _)
def rdDone (r:Rd):Bool:=!r.bad && decide (r.rest = [])
theorem done_ok (b:Nat) (r:Rd) {K:VK} {w:World} (hr:IsRd w b r) (k:K (.bool (rdDone r)) w):a0a Tryz.prog 54 #[.pointer (some ⟨b,0,none⟩)] K w:=by
 apply e8s
 unfold g4y
 have h0:=hr.c0
 have h1:=hr.c1
 repeat (any_goals (first
 | (with_reducible first|refine a0v ?_|((refine a9c ?_); first|refine zV ?_|refine zW ?_|refine zX (fun hg=>?_) fun hg=>?_)|((refine a2x ?_); first|refine yJ ?_|refine yK ?_))
 | ((with_reducible refine oG fun X Y=>?_); simp [go_sem,h0,h1]; apply Y; clear Y X)))
 ·exact K_eq k (by unfold rdDone; rw [hg]; simp)
 ·exact K_eq k (by unfold rdDone; rw [hg]; simp)
end Go.Proofs.Cd
