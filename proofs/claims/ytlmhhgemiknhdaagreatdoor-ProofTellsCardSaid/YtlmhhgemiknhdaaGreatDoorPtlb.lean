/- Parts of the proof of the seat's statements (HTc, HSha, HPr, ShelfT4, CodeSpec, TcB, TcE, TcR, TcR2, TcI, FdSpec, FdPow, FdDiv, FdA, FdB, FdC, FdE, FdF, FdG, FdH, FdI, FdJ, FdK, FdL, TkSpec, TkA, TkB, ShaSpec, ShW, SaA, SaB, SaC, SaD, SaE, TkSpec2, TkSpec3, FdPoly, FdInv, FdThr, PrUnit, GrLaw, PrSpec, PwA): lemmas about the given translation and plain laws. No condition of their own. -/
import Derived.Test.YtlmhhgemiknhdaaGreatDoorPtla
import Derived.Test.YtlmhhgemiknhdaaGreatDoorProg
import Derived.Shelf.Strings.Builder1
import Derived.Shelf.Small.Strs
import Derived.Shelf.Small.Wraps
import Derived.Shelf.Strings.BuilderF
import Derived.Shelf.Strings.BuilderK
import Derived.Shelf.Strconv.Atoi
import Derived.Shelf.Strconv.Itoa0
import Derived.Shelf.Strconv.Itoa1
import Derived.Shelf.LaysM
import Derived.Shelf.Strconv.Itoa2
import Derived.Shelf.Strconv.Itoa3
import Derived.Shelf.Strconv.AtoiErrFast
import Derived.Shelf.Strconv.ParseIntEmpty
import Derived.Shelf.Strconv.AtoiFail
import Derived.Shelf.Strconv.Clone
import Derived.Shelf.Strconv.SyntaxError
import Derived.Shelf.LaysC
import Derived.Shelf.Strconv.ToError
import Derived.Shelf.Strconv.Lower
import Derived.Shelf.Strconv.ParseUint10
import Derived.Shelf.Strconv.ParseUint10Empty
import Derived.Shelf.Strconv.ParseUint10Any
import Derived.Shelf.Strconv.ParseInt10
import Derived.Shelf.Strconv.AtoiLong
import Derived.Shelf.Strconv.AtoiInnerAll
import Derived.Shelf.Strconv.RangeError
import Derived.Shelf.Strconv.ToErrorRange
import Derived.Shelf.Strconv.AtoiAll
import Derived.Shelf.Strconv.ErrVarAll
import Derived.Shelf.Strings.Search1
import Derived.Shelf.Strings.Prefix
import Derived.Shelf.Bits.Mul64
import Derived.Test.YtlmhhgemiknhdaaGreatDoorRows
import Derived.Lib.ItoaNum
import Derived.Lib.AtoiAllCases
import Derived.Lib.Builder
import Derived.Lib.AppendStr
import Derived.Lib.AppendIntMem
import Derived.Lib.Mul64
import Derived.Lib.TrailingZeros
import Derived.Laws.StructEq
set_option linter.all false
set_option maxRecDepth 100000
namespace Go.Proofs
open Go.Sh Tryz
variable {a0 a1:Value} {K:VK} {w:World}
def d8g (a0:Value) (K:VK) (w:World):Prop:=
 oM prog (.nilCheck (.tmp 0)) 0 [a0] (fun v3=>
 kF 213 0 v3 fun v4=>
 kL 211 v4 fun v5=>
 oM prog (.binOp .eql 211 (.tmp 0) (.const (.pointer none)) 211) 4 [v5] fun v6=>
 kO v6 (oM prog (.convert 211 245 (.tmp 0)) 245 [a0] fun v9 w=>
 g3r prog 235 #[v9] (fun v10=>
 oM prog (.convert 245 211 (.tmp 0)) 211 [v10] fun v11=>
 oM prog (.nilCheck (.tmp 0)) 0 [a0] fun v12=>
 kF 213 0 v12 fun v13=>
 kS 211 v13 v11 fun _=>
 K (.tuple #[])) w)
 (oM prog (.nilCheck (.tmp 0)) 0 [a0] fun v15=>
 kF 213 0 v15 fun v16=>
 kL 211 v16 fun v17=>
 kB .neq 211 4 v17 a0 fun v19 w=>
 a0v v19
 (False)
 (K (.tuple #[]) w))) w
theorem c6b (h:d8g a0 K w):a0a prog 221 #[a0] K w:=
 cZ (fun _=>0) func221 h
def f2n (a0 a1:Value) (K:VK) (w:World):Prop:=
 a0a prog 221 #[a0] (fun v7=>
 oM prog (.nilCheck (.tmp 0)) 0 [a0] fun v10=>
 kF 213 1 v10 fun v11=>
 kL 202 v11 fun v12=>
 oM prog (.call (Go.Call.mk (.builtin .append) #[(.tmp 0),(.tmp 1)] #[202,9])) 202 [v12,a1] fun v14=>
 oM prog (.nilCheck (.tmp 0)) 0 [a0] fun v15=>
 kF 213 1 v15 fun v16=>
 kS 202 v16 v14 fun _=>
 kN 9 a1 fun v18=>
 K (.tuple #[v18,.nilIface])) w
theorem d8h (h:f2n a0 a1 K w):a0a prog 205 #[a0,a1] K w:=
 cZ (fun _=>0) func205 h
def f2o (a0:Value) (K:VK) (w:World):Prop:=
 a0a prog 196 #[a0] (fun v4=>
 oM prog (.binOp .add 9 (.tmp 0) (.tmp 1) 9) 9 [v4,(.string ⟨#[59]⟩)] fun v5=>
 K v5) w
theorem d8i (h:f2o a0 K w):a0a prog 175 #[a0] K w:=
 cZ (fun _=>0) func175 h
def f2p (a0 a1:Value) (K:VK) (w:World):Prop:=
 kA 213 (fun v5=>
 kN 24 a0 fun v9=>
 a0a prog 196 #[v9] fun v10=>
 oM prog (.binOp .add 9 (.tmp 0) (.tmp 1) 9) 9 [v10,(.string ⟨#[91]⟩)] fun v11=>
 a0a prog 205 #[v5,v11] fun v12=>
 kN 24 a0 fun v14=>
 kQ [undef,(.int .i64 0)] fun J_7 m_8 l_9 u_l_9 w0_l_9=>(fun w=>(
 kB .lss 3 0 (l_9.getD 1 undef) v14 (fun v16=>
 kO v16 (kI 24 a0 (l_9.getD 1 undef) fun v17=>
 kL 3 v17 fun v18=>
 oM prog (.call (Go.Call.mk (.value (.tmp 0)) #[(.tmp 1)] #[3])) 9 [a1,v18] fun v21=>
 a0a prog 205 #[v5,v21] fun v22=>
 kB .add 3 3 (l_9.getD 1 undef) (.int .i64 1) fun v23=>
 kJ J_7 m_8 l_9 w0_l_9 [v18,v23])
 (a0a prog 206 #[v5] fun v24=>
 oM prog (.binOp .add 9 (.tmp 0) (.tmp 1) 9) 9 [v24,(.string ⟨#[93]⟩)] fun v25=>
 K v25)) w)) w0_l_9) w
theorem d8j (h:f2p a0 a1 K w):a0a prog 174 #[a0,a1] K w:=
 cZ (fun _=>0) func174 h
def f2q (a0:Value) (K:VK) (w:World):Prop:=
 a0a prog 174 #[a0,(.func (.func 175) #[] #[])] (fun v4=>
 K v4) w
theorem d8k (h:f2q a0 K w):a0a prog 114 #[a0] K w:=
 cZ (fun _=>0) func114 h
def f2r (a0:Value) (K:VK) (w:World):Prop:=
 kN 9 a0 (fun v4=>
 a0a prog 196 #[v4] fun v5=>
 oM prog (.binOp .add 9 (.tmp 0) (.tmp 1) 9) 9 [v5,(.string ⟨#[58]⟩)] fun v6=>
 kB .add 9 9 v6 a0 fun v8=>
 oM prog (.binOp .add 9 (.tmp 0) (.tmp 1) 9) 9 [v8,(.string ⟨#[44]⟩)] fun v9=>
 K v9) w
theorem d8l (h:f2r a0 K w):a0a prog 160 #[a0] K w:=
 cZ (fun _=>0) func160 h
variable {a0 a1:Value} {K:VK} {w:World}
def f2g (a0:Value) (K:VK) (w:World):Prop:=
 oM prog (.convert 9 202 (.tmp 0)) 202 [a0] (fun v10=>
 oM prog (.buildSlice 202 1 #[(0,(.tmp 0))]) 202 [(.int .u8 128)] fun v11=>
 oM prog (.call (Go.Call.mk (.builtin .append) #[(.tmp 0),(.tmp 1)] #[202,202])) 202 [v10,v11] fun v12=>
 kQ [v12] fun J_4 m_5 l_6 u_l_6 w0_l_6=>(fun w=>(
 kN 202 (l_6.getD 0 undef) (fun v14=>
 kB .rem 3 3 v14 (.int .i64 64) fun v15=>
 kC .neq 3 56 4 v15 fun v16=>
 kO v16 (oM prog (.buildSlice 202 1 #[(0,(.tmp 0))]) 202 [(.int .u8 0)] fun v18=>
 oM prog (.call (Go.Call.mk (.builtin .append) #[(.tmp 0),(.tmp 1)] #[202,202])) 202 [(l_6.getD 0 undef),v18] fun v19=>
 kJ J_4 m_5 l_6 w0_l_6 [v19])
 (kQ [(l_6.getD 0 undef),(.int .i64 56)] fun J_12 m_13 l_14 u_l_14 w0_l_14=>(fun w=>(
 kB .geq 3 4 (l_14.getD 1 undef) (.int .i64 0) (fun v21=>
 kO v21 (kN 9 a0 fun v26=>
 oM prog (.convert 3 150 (.tmp 0)) 150 [v26] fun v27=>
 kB .mul 150 150 (.int .u64 8) v27 fun v28=>
 oM prog (.binOp .shr 150 (.tmp 0) (.tmp 1) 3) 150 [v28,(l_14.getD 1 undef)] fun v30=>
 oM prog (.convert 150 5 (.tmp 0)) 5 [v30] fun v31=>
 oM prog (.buildSlice 202 1 #[(0,(.tmp 0))]) 202 [v31] fun v32=>
 oM prog (.call (Go.Call.mk (.builtin .append) #[(.tmp 0),(.tmp 1)] #[202,202])) 202 [(l_14.getD 0 undef),v32] fun v33=>
 kB .sub 3 3 (l_14.getD 1 undef) (.int .i64 8) fun v23=>
 kJ J_12 m_13 l_14 w0_l_14 [v33,v23])
 (a0a prog 213 #[] fun v34=>
 kA 225 fun v5=>
 kS 225 v5 v34 fun _=>
 kQ [(l_14.getD 0 undef)] fun J_26 m_27 l_28 u_l_28 w0_l_28=>(fun w=>(
 kN 202 (l_28.getD 0 undef) (fun v36=>
 kB .gtr 3 4 v36 (.int .i64 0) fun v37=>
 kO v37 (kH fun C_31 w=>(((true:Bool) = true) ∧ (jL 225 v5 C_31 fun v40=>
 a0c (l_28.getD 0 undef) C_31 fun v41=>
 oH prog (.slice 202 (.tmp 0) none (some (.tmp 1)) none) 202 [v41,(.int .i64 64)] C_31 fun v42=>
 ∃ S_35:World → WK,∀ w,C_31 w → (
 a0a prog 214 #[v40,v42] (fun v43=>
 kS 225 v5 v43 fun _=>
 oM prog (.slice 202 (.tmp 0) (some (.tmp 1)) none none) 202 [(l_28.getD 0 undef),(.int .i64 64)] fun v39=>
 kJ J_26 m_27 l_28 w0_l_28 [v39]) w))))
 (kL 225 v5 fun v44=>
 kQ [undef,(.slice none 0 0),(.int .i64 0)] fun J_39 m_40 l_41 u_l_41 w0_l_41=>(fun w=>(
 kB .lss 3 0 (l_41.getD 2 undef) (.int .i64 8) (fun v46=>
 kO v46 (oM prog (.index 225 (.tmp 0) (.tmp 1)) 223 [v44,(l_41.getD 2 undef)] fun v47=>
 oM prog (.binOp .shr 223 (.tmp 0) (.tmp 1) 191) 223 [v47,(.int .u64 24)] fun v50=>
 oM prog (.convert 223 5 (.tmp 0)) 5 [v50] fun v51=>
 oM prog (.binOp .shr 223 (.tmp 0) (.tmp 1) 191) 223 [v47,(.int .u64 16)] fun v53=>
 oM prog (.convert 223 5 (.tmp 0)) 5 [v53] fun v54=>
 oM prog (.binOp .shr 223 (.tmp 0) (.tmp 1) 191) 223 [v47,(.int .u64 8)] fun v56=>
 oM prog (.convert 223 5 (.tmp 0)) 5 [v56] fun v57=>
 oM prog (.convert 223 5 (.tmp 0)) 5 [v47] fun v59=>
 oM prog (.buildSlice 202 4 #[(0,(.tmp 0)),(1,(.tmp 1)),(2,(.tmp 2)),(3,(.tmp 3))]) 202 [v51,v54,v57,v59] fun v60=>
 oM prog (.call (Go.Call.mk (.builtin .append) #[(.tmp 0),(.tmp 1)] #[202,202])) 202 [(l_41.getD 1 undef),v60] fun v61=>
 kB .add 3 3 (l_41.getD 2 undef) (.int .i64 1) fun v62=>
 kJ J_39 m_40 l_41 w0_l_41 [v47,v61,v62])
 (oM prog (.convert 202 9 (.tmp 0)) 9 [(l_41.getD 1 undef)] fun v64=>
 K v64)) w)) w0_l_41)) w)) w0_l_28)) w)) w0_l_14)) w)) w0_l_6) w
theorem d7z (h:f2g a0 K w):a0a prog 195 #[a0] K w:=
 cZ (fun _=>(fz 3 0 2)) func195 h
def f2h (K:VK) (w:World):Prop:=
 kA 225 (fun v0=>
 oM prog (.build 225 #[(0,(.tmp 0)),(1,(.tmp 1)),(2,(.tmp 2)),(3,(.tmp 3)),(4,(.tmp 4)),(5,(.tmp 5)),(6,(.tmp 6)),(7,(.tmp 7))]) 225 [(.int .u32 1779033703),(.int .u32 3144134277),(.int .u32 1013904242),(.int .u32 2773480762),(.int .u32 1359893119),(.int .u32 2600822924),(.int .u32 528734635),(.int .u32 1541459225)] fun v1=>
 kS 225 v0 v1 fun _=>
 kR 225 v0 K) w
theorem d8a (h:f2h K w):a0a prog 213 #[] K w:=
 cZ (fun _=>0) func213 h
def f2i (a0 a1:Value) (K:VK) (w:World):Prop:=
 oM prog (.box 225 (.tmp 0)) 0 [a0] (fun v2=>
 kA 225 fun v4=>
 a0a prog 228 #[a1] fun v15=>
 a0a prog 229 #[] fun v16=>
 kA 238 fun v5=>
 kA 238 fun v6=>
 kS 238 v5 v15 fun _=>
 kS 238 v6 v16 fun _=>
 kL 225 v2 fun v17=>
 kA 225 fun v7=>
 kS 225 v7 v17 fun _=>
 kQ [undef,undef,undef,undef,undef,(.int .i64 0)] fun J_9 m_10 l_11 u_l_11 w0_l_11=>(fun w=>(
 kB .lss 3 0 (l_11.getD 5 undef) (.int .i64 64) (fun v19 w=>
 a0v v19
 (a4o w fun C_13=>(oQ prog (.indexAddr 225 (.tmp 0) (.tmp 1)) 0 [v7,(.int .i64 4)] C_13 fun v21=>
 oQ prog (.load 223 (.tmp 0)) 223 [v21] C_13 fun v22=>
 a3h prog 230 #[v22,(.int .i64 (-6))] C_13 fun v23=>
 oQ prog (.indexAddr 225 (.tmp 0) (.tmp 1)) 0 [v7,(.int .i64 4)] C_13 fun v24=>
 oQ prog (.load 223 (.tmp 0)) 223 [v24] C_13 fun v25=>
 a3h prog 230 #[v25,(.int .i64 (-11))] C_13 fun v26=>
 oQ prog (.binOp .xor 223 (.tmp 0) (.tmp 1) 223) 223 [v23,v26] C_13 fun v27=>
 oQ prog (.indexAddr 225 (.tmp 0) (.tmp 1)) 0 [v7,(.int .i64 4)] C_13 fun v28=>
 oQ prog (.load 223 (.tmp 0)) 223 [v28] C_13 fun v29=>
 a3h prog 230 #[v29,(.int .i64 (-25))] C_13 fun v30=>
 oQ prog (.binOp .xor 223 (.tmp 0) (.tmp 1) 223) 223 [v27,v30] C_13 fun v31=>
 ∀ w,C_13 w → (a4o w fun C_25=>(oQ prog (.indexAddr 225 (.tmp 0) (.tmp 1)) 0 [v7,(.int .i64 7)] C_25 fun v32=>
 oQ prog (.load 223 (.tmp 0)) 223 [v32] C_25 fun v33=>
 oQ prog (.binOp .add 223 (.tmp 0) (.tmp 1) 223) 223 [v33,v31] C_25 fun v35=>
 oQ prog (.indexAddr 225 (.tmp 0) (.tmp 1)) 0 [v7,(.int .i64 6)] C_25 fun v36=>
 oQ prog (.load 223 (.tmp 0)) 223 [v36] C_25 fun v37=>
 oQ prog (.indexAddr 225 (.tmp 0) (.tmp 1)) 0 [v7,(.int .i64 4)] C_25 fun v38=>
 oQ prog (.load 223 (.tmp 0)) 223 [v38] C_25 fun v39=>
 oQ prog (.indexAddr 225 (.tmp 0) (.tmp 1)) 0 [v7,(.int .i64 5)] C_25 fun v40=>
 oQ prog (.load 223 (.tmp 0)) 223 [v40] C_25 fun v41=>
 oQ prog (.indexAddr 225 (.tmp 0) (.tmp 1)) 0 [v7,(.int .i64 6)] C_25 fun v42=>
 oQ prog (.load 223 (.tmp 0)) 223 [v42] C_25 fun v43=>
 oQ prog (.binOp .xor 223 (.tmp 0) (.tmp 1) 223) 223 [v41,v43] C_25 fun v44=>
 oQ prog (.binOp .and 223 (.tmp 0) (.tmp 1) 223) 223 [v39,v44] C_25 fun v45=>
 oQ prog (.binOp .xor 223 (.tmp 0) (.tmp 1) 223) 223 [v37,v45] C_25 fun v46=>
 oQ prog (.binOp .add 223 (.tmp 0) (.tmp 1) 223) 223 [v35,v46] C_25 fun v47=>
 oQ prog (.indexAddr 238 (.tmp 0) (.tmp 1)) 0 [v6,(l_11.getD 5 undef)] C_25 fun v49=>
 oQ prog (.load 223 (.tmp 0)) 223 [v49] C_25 fun v50=>
 oQ prog (.binOp .add 223 (.tmp 0) (.tmp 1) 223) 223 [v47,v50] C_25 fun v51=>
 oQ prog (.indexAddr 238 (.tmp 0) (.tmp 1)) 0 [v5,(l_11.getD 5 undef)] C_25 fun v53=>
 oQ prog (.load 223 (.tmp 0)) 223 [v53] C_25 fun v54=>
 oQ prog (.binOp .add 223 (.tmp 0) (.tmp 1) 223) 223 [v51,v54] C_25 fun v55=>
 ∀ w,C_25 w → (a4o w fun C_47=>(oQ prog (.indexAddr 225 (.tmp 0) (.tmp 1)) 0 [v7,(.int .i64 0)] C_47 fun v56=>
 oQ prog (.load 223 (.tmp 0)) 223 [v56] C_47 fun v57=>
 a3h prog 230 #[v57,(.int .i64 (-2))] C_47 fun v58=>
 oQ prog (.indexAddr 225 (.tmp 0) (.tmp 1)) 0 [v7,(.int .i64 0)] C_47 fun v59=>
 oQ prog (.load 223 (.tmp 0)) 223 [v59] C_47 fun v60=>
 a3h prog 230 #[v60,(.int .i64 (-13))] C_47 fun v61=>
 oQ prog (.binOp .xor 223 (.tmp 0) (.tmp 1) 223) 223 [v58,v61] C_47 fun v62=>
 oQ prog (.indexAddr 225 (.tmp 0) (.tmp 1)) 0 [v7,(.int .i64 0)] C_47 fun v63=>
 oQ prog (.load 223 (.tmp 0)) 223 [v63] C_47 fun v64=>
 a3h prog 230 #[v64,(.int .i64 (-22))] C_47 fun v65=>
 oQ prog (.binOp .xor 223 (.tmp 0) (.tmp 1) 223) 223 [v62,v65] C_47 fun v66=>
 ∀ w,C_47 w → (kI 225 v7 (.int .i64 0) (fun v67=>
 kL 223 v67 fun v68=>
 kI 225 v7 (.int .i64 1) fun v69=>
 kL 223 v69 fun v70=>
 kB .and 223 223 v68 v70 fun v71=>
 kI 225 v7 (.int .i64 2) fun v72=>
 kL 223 v72 fun v73=>
 kI 225 v7 (.int .i64 0) fun v74=>
 kL 223 v74 fun v75=>
 kI 225 v7 (.int .i64 1) fun v76=>
 kL 223 v76 fun v77=>
 kB .or 223 223 v75 v77 fun v78=>
 kB .and 223 223 v73 v78 fun v79=>
 kB .or 223 223 v71 v79 fun v80=>
 kB .add 223 223 v55 v66 fun v83=>
 kB .add 223 223 v83 v80 fun v85=>
 kI 225 v7 (.int .i64 0) fun v86=>
 kL 223 v86 fun v87=>
 kI 225 v7 (.int .i64 1) fun v88=>
 kL 223 v88 fun v89=>
 kI 225 v7 (.int .i64 2) fun v90=>
 kL 223 v90 fun v91=>
 kI 225 v7 (.int .i64 3) fun v92=>
 kL 223 v92 fun v93=>
 kB .add 223 223 v93 v55 fun v95=>
 kI 225 v7 (.int .i64 4) fun v96=>
 kL 223 v96 fun v97=>
 kI 225 v7 (.int .i64 5) fun v98=>
 kL 223 v98 fun v99=>
 kI 225 v7 (.int .i64 6) fun v100=>
 kL 223 v100 fun v101=>
 oM prog (.build 225 #[(0,(.tmp 0)),(1,(.tmp 1)),(2,(.tmp 2)),(3,(.tmp 3)),(4,(.tmp 4)),(5,(.tmp 5)),(6,(.tmp 6)),(7,(.tmp 7))]) 225 [v85,v87,v89,v91,v95,v97,v99,v101] fun v102=>
 kS 225 v7 v102 fun _=>
 kB .add 3 3 (l_11.getD 5 undef) (.int .i64 1) fun v103=>
 kJ J_9 m_10 l_11 w0_l_11 [(l_11.getD 5 undef),v31,v55,v66,v80,v103]) w)))))))
 (kQ [undef,(.int .i64 0)] (fun J_92 m_93 l_94 u_l_94 w0_l_94=>(fun w=>(
 kB .lss 3 0 (l_94.getD 1 undef) (.int .i64 8) (fun v105=>
 kO v105 (kH fun C_96 w=>(((true:Bool) = true) ∧ (a0c (l_94.getD 1 undef) C_96 fun v107=>
 jI 225 v7 v107 C_96 fun v108=>
 jL 223 v108 C_96 fun v109=>
 a0c (l_94.getD 1 undef) C_96 fun v110=>
 jI 225 v2 v110 C_96 fun v111=>
 jL 223 v111 C_96 fun v112=>
 jB .add 223 223 v109 v112 C_96 fun v113=>
 jI 225 v7 v107 C_96 fun v114=>
 ∃ S_105:World → WK,∀ w,C_96 w → (
 kS 223 v114 v113 (fun _=>
 kB .add 3 3 (l_94.getD 1 undef) (.int .i64 1) fun v115=>
 kJ J_92 m_93 l_94 w0_l_94 [(l_94.getD 1 undef),v115]) w))))
 (kL 225 v7 fun v116=>
 kS 225 v4 v116 fun _=>
 kR 225 v4 K)) w)) w0_l_94) w)) w)) w0_l_11) w
theorem d8b (h:f2i a0 a1 K w):a0a prog 214 #[a0,a1] K w:=
 cZ (mz [(15,fz 8 0 1)]) func214 h
def f2j (a0:Value) (K:VK) (w:World):Prop:=
 kA 238 (fun v2=>
 kQ [undef,undef,undef,undef,undef,(.int .i64 0)] fun J_2 m_3 l_4 u_l_4 w0_l_4=>(fun w=>(
 kB .lss 3 0 (l_4.getD 5 undef) (.int .i64 64) (fun v9 w=>
 a0v v9
 (a5z (fun M_6=>(kB .lss 3 4 (l_4.getD 5 undef) (.int .i64 16) (fun v12 w=>
 a0v v12
 (kH (fun C_9 w=>(a0c (l_4.getD 5 undef) C_9 fun v13=>
 a0c a0 C_9 fun v14=>
 a0c (l_4.getD 5 undef) C_9 fun v15=>
 jB .mul 3 3 (.int .i64 4) v15 C_9 fun v16=>
 jI 202 v14 v16 C_9 fun v17=>
 jL 5 v17 C_9 fun v18=>
 oH prog (.convert 5 223 (.tmp 0)) 223 [v18] C_9 fun v19=>
 oH prog (.binOp .shl 223 (.tmp 0) (.tmp 1) 191) 223 [v19,(.int .u64 24)] C_9 fun v20=>
 a0c a0 C_9 fun v21=>
 a0c (l_4.getD 5 undef) C_9 fun v22=>
 jB .mul 3 3 (.int .i64 4) v22 C_9 fun v23=>
 jB .add 3 3 v23 (.int .i64 1) C_9 fun v24=>
 jI 202 v21 v24 C_9 fun v25=>
 jL 5 v25 C_9 fun v26=>
 oH prog (.convert 5 223 (.tmp 0)) 223 [v26] C_9 fun v27=>
 oH prog (.binOp .shl 223 (.tmp 0) (.tmp 1) 191) 223 [v27,(.int .u64 16)] C_9 fun v28=>
 jB .or 223 223 v20 v28 C_9 fun v29=>
 a0c a0 C_9 fun v30=>
 a0c (l_4.getD 5 undef) C_9 fun v31=>
 jB .mul 3 3 (.int .i64 4) v31 C_9 fun v32=>
 jB .add 3 3 v32 (.int .i64 2) C_9 fun v33=>
 jI 202 v30 v33 C_9 fun v34=>
 jL 5 v34 C_9 fun v35=>
 oH prog (.convert 5 223 (.tmp 0)) 223 [v35] C_9 fun v36=>
 oH prog (.binOp .shl 223 (.tmp 0) (.tmp 1) 191) 223 [v36,(.int .u64 8)] C_9 fun v37=>
 jB .or 223 223 v29 v37 C_9 fun v38=>
 a0c a0 C_9 fun v39=>
 a0c (l_4.getD 5 undef) C_9 fun v40=>
 jB .mul 3 3 (.int .i64 4) v40 C_9 fun v41=>
 jB .add 3 3 v41 (.int .i64 3) C_9 fun v42=>
 jI 202 v39 v42 C_9 fun v43=>
 jL 5 v43 C_9 fun v44=>
 oH prog (.convert 5 223 (.tmp 0)) 223 [v44] C_9 fun v45=>
 jB .or 223 223 v38 v45 C_9 fun v46=>
 jI 238 v2 v13 C_9 fun v47=>
 kS 223 v47 v46 (fun _ w=>C_9 w ∧ (
 M_6 [(l_4.getD 5 undef),(l_4.getD 1 undef),(l_4.getD 2 undef),(l_4.getD 3 undef),(l_4.getD 4 undef)] w)) w)) w)
 (a4o w fun C_45=>(oQ prog (.binOp .sub 3 (.tmp 0) (.tmp 1) 3) 3 [(l_4.getD 5 undef),(.int .i64 15)] C_45 fun v49=>
 oQ prog (.indexAddr 238 (.tmp 0) (.tmp 1)) 0 [v2,v49] C_45 fun v50=>
 oQ prog (.load 223 (.tmp 0)) 223 [v50] C_45 fun v51=>
 oQ prog (.binOp .sub 3 (.tmp 0) (.tmp 1) 3) 3 [(l_4.getD 5 undef),(.int .i64 2)] C_45 fun v53=>
 oQ prog (.indexAddr 238 (.tmp 0) (.tmp 1)) 0 [v2,v53] C_45 fun v54=>
 oQ prog (.load 223 (.tmp 0)) 223 [v54] C_45 fun v55=>
 ∀ w,C_45 w → (a0a prog 230 #[v51,(.int .i64 (-7))] (fun v57=>
 a0a prog 230 #[v51,(.int .i64 (-18))] fun v59=>
 kB .xor 223 223 v57 v59 fun v60=>
 oM prog (.binOp .shr 223 (.tmp 0) (.tmp 1) 191) 223 [v51,(.int .u64 3)] fun v62=>
 kB .xor 223 223 v60 v62 fun v63=>
 a0a prog 230 #[v55,(.int .i64 (-17))] fun v65=>
 a0a prog 230 #[v55,(.int .i64 (-19))] fun v67=>
 kB .xor 223 223 v65 v67 fun v68=>
 oM prog (.binOp .shr 223 (.tmp 0) (.tmp 1) 191) 223 [v55,(.int .u64 10)] fun v70=>
 kB .xor 223 223 v68 v70 fun v71=>
 kH fun C_62 w=>(a0c (l_4.getD 5 undef) C_62 fun v72=>
 a0c (l_4.getD 5 undef) C_62 fun v73=>
 jB .sub 3 3 v73 (.int .i64 16) C_62 fun v74=>
 jI 238 v2 v74 C_62 fun v75=>
 jL 223 v75 C_62 fun v76=>
 a0c v63 C_62 fun v77=>
 jB .add 223 223 v76 v77 C_62 fun v78=>
 a0c (l_4.getD 5 undef) C_62 fun v79=>
 jB .sub 3 3 v79 (.int .i64 7) C_62 fun v80=>
 jI 238 v2 v80 C_62 fun v81=>
 jL 223 v81 C_62 fun v82=>
 jB .add 223 223 v78 v82 C_62 fun v83=>
 a0c v71 C_62 fun v84=>
 jB .add 223 223 v83 v84 C_62 fun v85=>
 jI 238 v2 v72 C_62 fun v86=>
 kS 223 v86 v85 (fun _ w=>C_62 w ∧ (
 M_6 [(l_4.getD 5 undef),v51,v55,v63,v71] w)) w)) w)))) w))
 fun l_7 u_l_7 w=>(kB .add 3 3 (l_4.getD 5 undef) (.int .i64 1) (fun v87=>
 kJ J_2 m_3 l_4 w0_l_4 [(l_7.getD 0 undef),(l_7.getD 1 undef),(l_7.getD 2 undef),(l_7.getD 3 undef),(l_7.getD 4 undef),v87]) w))
 (kL 238 v2 (fun v88=>
 kS 238 v2 v88 fun _=>
 kR 238 v2 K) w)) w)) w0_l_4) w
theorem d8c (h:f2j a0 K w):a0a prog 228 #[a0] K w:=
 cZ (mz [(5,.tree (.look 0 (.look 1 (.look 2 (.look 3 (.look 4 (.look 5 (.look 6 (.look 7 (.look 8 (.look 9 (.look 10 (.look 11 (.look 12 (.look 13 (.look 14 (.look 15 (.look 16 (.look 17 (.look 18 (.look 19 (.look 20 (.look 21 (.look 22 (.look 23 (.look 24 (.look 25 (.look 26 (.look 27 (.look 28 (.look 29 (.look 30 (.look 31 (.look 32 (.look 33 (.look 34 (.only 35 (.done)))))))))))))))))))))))))))))))))))))),(9,2)]) func228 h
def f2k (K:VK) (w:World):Prop:=
 kA 238 (fun v0=>
 oM prog (.build 238 #[(0,(.tmp 0)),(1,(.tmp 1)),(2,(.tmp 2)),(3,(.tmp 3)),(4,(.tmp 4)),(5,(.tmp 5)),(6,(.tmp 6)),(7,(.tmp 7)),(8,(.tmp 8)),(9,(.tmp 9)),(10,(.tmp 10)),(11,(.tmp 11)),(12,(.tmp 12)),(13,(.tmp 13)),(14,(.tmp 14)),(15,(.tmp 15)),(16,(.tmp 16)),(17,(.tmp 17)),(18,(.tmp 18)),(19,(.tmp 19)),(20,(.tmp 20)),(21,(.tmp 21)),(22,(.tmp 22)),(23,(.tmp 23)),(24,(.tmp 24)),(25,(.tmp 25)),(26,(.tmp 26)),(27,(.tmp 27)),(28,(.tmp 28)),(29,(.tmp 29)),(30,(.tmp 30)),(31,(.tmp 31)),(32,(.tmp 32)),(33,(.tmp 33)),(34,(.tmp 34)),(35,(.tmp 35)),(36,(.tmp 36)),(37,(.tmp 37)),(38,(.tmp 38)),(39,(.tmp 39)),(40,(.tmp 40)),(41,(.tmp 41)),(42,(.tmp 42)),(43,(.tmp 43)),(44,(.tmp 44)),(45,(.tmp 45)),(46,(.tmp 46)),(47,(.tmp 47)),(48,(.tmp 48)),(49,(.tmp 49)),(50,(.tmp 50)),(51,(.tmp 51)),(52,(.tmp 52)),(53,(.tmp 53)),(54,(.tmp 54)),(55,(.tmp 55)),(56,(.tmp 56)),(57,(.tmp 57)),(58,(.tmp 58)),(59,(.tmp 59)),(60,(.tmp 60)),(61,(.tmp 61)),(62,(.tmp 62)),(63,(.tmp 63))]) 238 [(.int .u32 1116352408),(.int .u32 1899447441),(.int .u32 3049323471),(.int .u32 3921009573),(.int .u32 961987163),(.int .u32 1508970993),(.int .u32 2453635748),(.int .u32 2870763221),(.int .u32 3624381080),(.int .u32 310598401),(.int .u32 607225278),(.int .u32 1426881987),(.int .u32 1925078388),(.int .u32 2162078206),(.int .u32 2614888103),(.int .u32 3248222580),(.int .u32 3835390401),(.int .u32 4022224774),(.int .u32 264347078),(.int .u32 604807628),(.int .u32 770255983),(.int .u32 1249150122),(.int .u32 1555081692),(.int .u32 1996064986),(.int .u32 2554220882),(.int .u32 2821834349),(.int .u32 2952996808),(.int .u32 3210313671),(.int .u32 3336571891),(.int .u32 3584528711),(.int .u32 113926993),(.int .u32 338241895),(.int .u32 666307205),(.int .u32 773529912),(.int .u32 1294757372),(.int .u32 1396182291),(.int .u32 1695183700),(.int .u32 1986661051),(.int .u32 2177026350),(.int .u32 2456956037),(.int .u32 2730485921),(.int .u32 2820302411),(.int .u32 3259730800),(.int .u32 3345764771),(.int .u32 3516065817),(.int .u32 3600352804),(.int .u32 4094571909),(.int .u32 275423344),(.int .u32 430227734),(.int .u32 506948616),(.int .u32 659060556),(.int .u32 883997877),(.int .u32 958139571),(.int .u32 1322822218),(.int .u32 1537002063),(.int .u32 1747873779),(.int .u32 1955562222),(.int .u32 2024104815),(.int .u32 2227730452),(.int .u32 2361852424),(.int .u32 2428436474),(.int .u32 2756734187),(.int .u32 3204031479),(.int .u32 3329325298)] fun v1=>
 kS 238 v0 v1 fun _=>
 kR 238 v0 K) w
theorem d8d (h:f2k K w):a0a prog 229 #[] K w:=
 cZ (fun _=>0) func229 h
def f2l (a0 a1:Value) (K:VK) (w:World):Prop:=
 oM prog (.convert 3 191 (.tmp 0)) 191 [a1] (fun v7=>
 kB .and 191 191 v7 (.int .u64 31) fun v8=>
 oM prog (.binOp .shl 223 (.tmp 0) (.tmp 1) 191) 223 [a0,v8] fun v11=>
 kB .sub 191 191 (.int .u64 32) v8 fun v14=>
 oM prog (.binOp .shr 223 (.tmp 0) (.tmp 1) 191) 223 [a0,v14] fun v15=>
 kB .or 223 223 v11 v15 fun v16=>
 K v16) w
theorem d8e (h:f2l a0 a1 K w):a0a prog 230 #[a0,a1] K w:=
 cZ (fun _=>0) func230 h
def f2m (a0 a1:Value) (K:VK) (w:World):Prop:=
 a0a prog 123 #[a1] (fun v9=>
 kU v9 fun v10=>
 kO v10 (K (.int .i64 0))
 (a0a prog 195 #[a0] fun v12=>
 oM prog (.convert 9 202 (.tmp 0)) 202 [v12] fun v13=>
 kN 202 v13 fun v14=>
 kQ [undef,(.int .i64 0),(.int .i64 0)] fun J_6 m_7 l_8 u_l_8 w0_l_8=>(fun w=>(
 kB .lss 3 0 (l_8.getD 2 undef) v14 (fun v16=>
 kO v16 (kI 202 v13 (l_8.getD 2 undef) fun v17=>
 kL 5 v17 fun v18=>
 a0a prog 43 #[a1,(l_8.getD 1 undef),(.int .i64 256)] fun v22=>
 oM prog (.convert 5 3 (.tmp 0)) 3 [v18] fun v24=>
 a0a prog 42 #[a1,v22,v24] fun v25=>
 kB .add 3 3 (l_8.getD 2 undef) (.int .i64 1) fun v26=>
 kJ J_6 m_7 l_8 w0_l_8 [v18,v25,v26])
 (K (l_8.getD 1 undef))) w)) w0_l_8)) w
theorem d8f (h:f2m a0 a1 K w):a0a prog 159 #[a0,a1] K w:=
 cZ (fun _=>0) func159 h
variable {a0 a1 a2 a3 a4:Value} {K:VK} {w:World}
def f0j (a0 a1:Value) (K:VK) (w:World):Prop:=
 kN 24 a0 (fun v7=>
 kN 24 a1 fun v9=>
 kB .neq 3 4 v7 v9 fun v10=>
 kO v10 (K (.bool false))
 (kN 24 a0 fun v12=>
 kQ [undef,(.bool false),(.int .i64 0)] fun J_5 m_6 l_7 u_l_7 w0_l_7=>(fun w=>(
 kB .lss 3 0 (l_7.getD 2 undef) v12 (fun v14=>
 kO v14 (kH fun C_9 w=>(((true:Bool) = true) ∧ (a0c a0 C_9 fun v16=>
 a0c (l_7.getD 2 undef) C_9 fun v17=>
 jI 24 v16 v17 C_9 fun v18=>
 jL 3 v18 C_9 fun v19=>
 a0c a1 C_9 fun v20=>
 a0c (l_7.getD 2 undef) C_9 fun v21=>
 jI 24 v20 v21 C_9 fun v22=>
 jL 3 v22 C_9 fun v23=>
 jB .neq 3 4 v19 v23 C_9 fun v24=>
 ∃ S_19:World → WK,∀ w,C_9 w → (kO v24 (K (.bool false))
 (kB .add 3 3 (l_7.getD 2 undef) (.int .i64 1) fun v25=>
 kJ J_5 m_6 l_7 w0_l_7 [(l_7.getD 2 undef),(l_7.getD 1 undef),v25]) w))))
 (K (.bool true))) w)) w0_l_7)) w
theorem d5w (h:f0j a0 a1 K w):a0a prog 117 #[a0,a1] K w:=
 cZ (fun _=>(fz 9 0 0)) func117 h
def f9s (a0 a1:Value) (K:VK) (w:World):Prop:=
 oM prog (.box 26 (.tmp 0)) 0 [a0] (fun v2=>
 kA 4 fun v4=>
 kL 26 v2 fun v10=>
 a0a prog 21 #[v10] fun v11=>
 kU v11 fun v12 w=>
 gF v12 (a0j a1) (fun v14 w=>
 gF v12 (kN 27 v14) (fun v15 w=>
 gF v12 (kB .lss 3 4 v15 (.int .i64 1)) (fun v16=>
 kP v12 (.bool true) v16 fun v17 w=>
 gF v17 (a0j a1) (fun v19 w=>
 gF v17 (kN 27 v19) (fun v20 w=>
 gF v17 (kB .gtr 3 4 v20 (.int .i64 300)) (fun v21=>
 kP v17 (.bool true) v21 fun v22=>
 kO v22 (kS 4 v4 (.bool false) fun _=>
 kR 4 v4 K)
 (kN 27 a1 fun v24=>
 kQ [undef,(.int .i64 0)] fun J_16 m_17 l_18 u_l_18 w0_l_18=>(fun w=>(
 kB .lss 3 0 (l_18.getD 1 undef) v24 (fun v26=>
 kO v26 (kI 27 a1 (l_18.getD 1 undef) fun v27=>
 kL 65 v27 fun v28=>
 kA 65 fun v6=>
 kS 65 v6 v28 fun _=>
 kF 65 1 v6 fun v29=>
 kL 63 v29 fun v30=>
 kN 63 v30 fun v31=>
 kB .lss 3 4 v31 (.int .i64 1) fun v33 w=>
 gF v33 (a0j v31) (fun v35 w=>
 gF v33 (kB .gtr 3 4 v35 (.int .i64 16)) (fun v36=>
 kP v33 (.bool true) v36 fun v37 w=>
 gF v37 (a0j v31) (fun v39 w=>
 gF v37 (kF 26 0 v2) (fun v40 w=>
 gF v37 (kF 23 1 v40) (fun v41 w=>
 gF v37 (kL 3 v41) (fun v42 w=>
 gF v37 (kB .geq 3 4 v39 v42) (fun v43=>
 kP v37 (.bool true) v43 fun v44 w=>
 gF v44 (kF 65 0 v6) (fun v46 w=>
 gF v44 (kL 3 v46) (fun v47 w=>
 gF v44 (kB .lss 3 4 v47 (.int .i64 1)) (fun v48=>
 kP v44 (.bool true) v48 fun v49 w=>
 gF v49 (kF 65 0 v6) (fun v51 w=>
 gF v49 (kL 3 v51) (fun v52 w=>
 gF v49 (a0j v31) (fun v53 w=>
 gF v49 (kB .gtr 3 4 v52 v53) (fun v54=>
 kP v49 (.bool true) v54 fun v55=>
 kO v55 (kS 4 v4 (.bool false) fun _=>
 kR 4 v4 K)
 (kB .add 3 3 (l_18.getD 1 undef) (.int .i64 1) fun v56=>
 kJ J_16 m_17 l_18 w0_l_18 [v31,v56])) w) w) w) w) w) w) w) w) w) w) w) w) w) w)
 (a0a prog 93 #[a1] fun v58 w=>
 rangeM prog v58 2 w
 (fun vs_48 k_50 w=>(kA 69 (fun v9=>
 kS 69 v9 (vs_48.getD 1 undef) fun _=>
 k_50 [v9]) w))
 (fun vs_48 l_49 u_l_49 kn_51 kr_52 w=>(kL 26 v2 (fun v61=>
 kL 69 (l_49.getD 0 undef) fun v62=>
 a0a prog 112 #[v61,v62] fun v63=>
 kU v63 fun v64=>
 kO v64 (kS 4 v4 (.bool false) fun _=>
 kr_52)
 kn_51) w))
 (fun D_53 w=>(kS 4 v4 (.bool true) (fun _ w=>
 w.heap[D_53]? = some (.deferred (some [])) ∧ ∃ r_59,(do loadVar 4 (← asAddr v4):Sem Value).run prog (w.putObj D_53 (.deferred none)) = .ok r_59 (w.putObj D_53 (.deferred none)) ∧ K r_59 (w.putObj D_53 (.deferred none))) w))
 fun D_53 w=>(w.heap[D_53]? = some (.deferred (some [])) ∧ ∃ r_60,(do loadVar 4 (← asAddr v4):Sem Value).run prog (w.putObj D_53 (.deferred none)) = .ok r_60 (w.putObj D_53 (.deferred none)) ∧ K r_60 (w.putObj D_53 (.deferred none))))) w)) w0_l_18)) w) w) w) w) w) w) w
theorem e4w (h:f9s a0 a1 K w):a0a prog 23 #[a0,a1] K w:=
 cF (fun _=>0) func23 h
def f9t (a0:Value) (K:VK) (w:World):Prop:=
 kN 27 a0 (fun v13=>
 oM prog (.buildSlice 24 1 #[(0,(.tmp 0))]) 24 [v13] fun v14=>
 kN 27 a0 fun v16=>
 kQ [v14,(.int .i64 0)] fun J_4 m_5 l_6 u_l_6 w0_l_6=>(fun w=>(
 kB .lss 3 0 (l_6.getD 1 undef) v16 (fun v18=>
 kO v18 (kI 27 a0 (l_6.getD 1 undef) fun v19=>
 kL 65 v19 fun v20=>
 kA 65 fun v5=>
 kS 65 v5 v20 fun _=>
 kF 65 0 v5 fun v22=>
 kL 3 v22 fun v23=>
 kF 65 1 v5 fun v24=>
 kL 63 v24 fun v25=>
 kN 63 v25 fun v26=>
 oM prog (.buildSlice 24 2 #[(0,(.tmp 0)),(1,(.tmp 1))]) 24 [v23,v26] fun v27=>
 oM prog (.call (Go.Call.mk (.builtin .append) #[(.tmp 0),(.tmp 1)] #[24,24])) 24 [(l_6.getD 0 undef),v27] fun v28=>
 kF 65 1 v5 fun v29=>
 kL 63 v29 fun v30=>
 kN 63 v30 fun v31=>
 kQ [v28,(.int .i64 0)] fun J_21 m_22 l_23 u_l_23 w0_l_23=>(fun w=>(
 kB .lss 3 0 (l_23.getD 1 undef) v31 (fun v33=>
 kO v33 (kI 63 v30 (l_23.getD 1 undef) fun v34=>
 kL 69 v34 fun v35=>
 kA 69 fun v7=>
 kS 69 v7 v35 fun _=>
 kF 69 0 v7 fun v37=>
 kL 3 v37 fun v38=>
 kF 69 1 v7 fun v39=>
 kL 67 v39 fun v40=>
 kN 67 v40 fun v41=>
 oM prog (.buildSlice 24 2 #[(0,(.tmp 0)),(1,(.tmp 1))]) 24 [v38,v41] fun v42=>
 oM prog (.call (Go.Call.mk (.builtin .append) #[(.tmp 0),(.tmp 1)] #[24,24])) 24 [(l_23.getD 0 undef),v42] fun v43=>
 kF 69 1 v7 fun v44=>
 kL 67 v44 fun v45=>
 kN 67 v45 fun v46=>
 kQ [v43,(.int .i64 0)] fun J_38 m_39 l_40 u_l_40 w0_l_40=>(fun w=>(
 kB .lss 3 0 (l_40.getD 1 undef) v46 (fun v48=>
 kO v48 (kI 67 v45 (l_40.getD 1 undef) fun v49=>
 kL 144 v49 fun v50=>
 kA 144 fun v9=>
 kS 144 v9 v50 fun _=>
 kF 144 0 v9 fun v52=>
 kL 3 v52 fun v53=>
 kF 144 1 v9 fun v54=>
 kL 142 v54 fun v55=>
 kN 142 v55 fun v56=>
 oM prog (.buildSlice 24 2 #[(0,(.tmp 0)),(1,(.tmp 1))]) 24 [v53,v56] fun v57=>
 oM prog (.call (Go.Call.mk (.builtin .append) #[(.tmp 0),(.tmp 1)] #[24,24])) 24 [(l_40.getD 0 undef),v57] fun v58=>
 kF 144 1 v9 fun v59=>
 kL 142 v59 fun v60=>
 kN 142 v60 fun v61=>
 kQ [v58,(.int .i64 0)] fun J_55 m_56 l_57 u_l_57 w0_l_57=>(fun w=>(
 kB .lss 3 0 (l_57.getD 1 undef) v61 (fun v63=>
 kO v63 (kI 142 v60 (l_57.getD 1 undef) fun v64=>
 kL 146 v64 fun v65=>
 kA 146 fun v11=>
 kS 146 v11 v65 fun _=>
 kF 146 0 v11 fun v67=>
 kL 3 v67 fun v68=>
 kF 146 1 v11 fun v69=>
 kL 3 v69 fun v70=>
 oM prog (.buildSlice 24 2 #[(0,(.tmp 0)),(1,(.tmp 1))]) 24 [v68,v70] fun v71=>
 oM prog (.call (Go.Call.mk (.builtin .append) #[(.tmp 0),(.tmp 1)] #[24,24])) 24 [(l_57.getD 0 undef),v71] fun v72=>
 kB .add 3 3 (l_57.getD 1 undef) (.int .i64 1) fun v73=>
 kJ J_55 m_56 l_57 w0_l_57 [v72,v73])
 (kB .add 3 3 (l_40.getD 1 undef) (.int .i64 1) fun v74=>
 kJ J_38 m_39 l_40 w0_l_40 [(l_57.getD 0 undef),v74])) w)) w0_l_57)
 (kB .add 3 3 (l_23.getD 1 undef) (.int .i64 1) fun v75=>
 kJ J_21 m_22 l_23 w0_l_23 [(l_40.getD 0 undef),v75])) w)) w0_l_40)
 (kB .add 3 3 (l_6.getD 1 undef) (.int .i64 1) fun v76=>
 kJ J_4 m_5 l_6 w0_l_6 [(l_23.getD 0 undef),v76])) w)) w0_l_23)
 (a0a prog 114 #[(l_6.getD 0 undef)] fun v78=>
 K v78)) w)) w0_l_6) w
theorem e4x (h:f9t a0 K w):a0a prog 25 #[a0] K w:=
 cZ (fun _=>0) func25 h
def f9u (a0 a1 a2 a3:Value) (K:VK) (w:World):Prop:=
 oM prog (.box 26 (.tmp 0)) 0 [a0] (fun v4=>
 oM prog (.box 69 (.tmp 0)) 0 [a1] fun v5=>
 kL 26 v4 fun v9=>
 a0a prog 21 #[v9] fun v10=>
 kU v10 fun v11 w=>
 gF v11 (kL 26 v4) (fun v13 w=>
 gF v11 (kL 69 v5) (fun v14 w=>
 gF v11 (a0a prog 112 #[v13,v14]) (fun v15 w=>
 gF v11 (kU v15) (fun v16=>
 kP v11 (.bool true) v16 fun v17 w=>
 gF v17 (kL 26 v4) (fun v19 w=>
 gF v17 (a0j a2) (fun v20 w=>
 gF v17 (a0a prog 127 #[v19,v20]) (fun v21 w=>
 gF v17 (kU v21) (fun v22=>
 kP v17 (.bool true) v22 fun v23 w=>
 gF v23 (kL 26 v4) (fun v25 w=>
 gF v23 (a0j a3) (fun v26 w=>
 gF v23 (kF 69 0 v5) (fun v27 w=>
 gF v23 (kL 3 v27) (fun v28 w=>
 gF v23 (a0a prog 140 #[v25,v26,v28]) (fun v29 w=>
 gF v23 (kU v29) (fun v30=>
 kP v23 (.bool true) v30 fun v31=>
 kO v31 (K (.slice none 0 0))
 (kL 26 v4 fun v32=>
 kL 69 v5 fun v33=>
 a0a prog 141 #[v32,v33,a2,a3] fun v36=>
 K v36)) w) w) w) w) w) w) w) w) w) w) w) w) w) w) w
theorem e4y (h:f9u a0 a1 a2 a3 K w):a0a prog 63 #[a0,a1,a2,a3] K w:=
 cZ (fun _=>0) func63 h
def f9v (a0 a1 a2 a3:Value) (K:VK) (w:World):Prop:=
 oM prog (.box 26 (.tmp 0)) 0 [a0] (fun v4=>
 oM prog (.box 29 (.tmp 0)) 0 [a3] fun v7=>
 kA 4 fun v8=>
 kN 30 a2 fun v14=>
 kN 27 a1 fun v16=>
 kB .neq 3 4 v14 v16 fun v17 w=>
 gF v17 (kL 29 v7) (fun v19 w=>
 gF v17 (kN 29 v19) (fun v20 w=>
 gF v17 (a0j a1) (fun v21 w=>
 gF v17 (kN 27 v21) (fun v22 w=>
 gF v17 (kB .neq 3 4 v20 v22) (fun v23=>
 kP v17 (.bool true) v23 fun v24=>
 kO v24 (kS 4 v8 (.bool false) fun _=>
 kR 4 v8 K)
 (kN 27 a1 fun v26=>
 kQ [undef,(.int .i64 0)] fun J_15 m_16 l_17 u_l_17 w0_l_17=>(fun w=>(
 kB .lss 3 0 (l_17.getD 1 undef) v26 (fun v28=>
 kO v28 (kI 27 a1 (l_17.getD 1 undef) fun v30=>
 kL 65 v30 fun v31=>
 kA 65 fun v10=>
 kS 65 v10 v31 fun _=>
 kH fun C_22 w=>(((true:Bool) = true) ∧ (jL 26 v4 C_22 fun v32=>
 a0c a2 C_22 fun v33=>
 a0c (l_17.getD 1 undef) C_22 fun v34=>
 jI 30 v33 v34 C_22 fun v35=>
 jL 24 v35 C_22 fun v36=>
 jF 65 1 v10 C_22 fun v37=>
 jL 63 v37 C_22 fun v38=>
 jN 63 v38 C_22 fun v39=>
 ∃ S_31:World → WK,xR S_31 fun R_32=>
 (∀ w,C_22 w → (a0a prog 140 #[v32,v36,v39] (xK C_22 S_31 R_32 w) w)) ∧
 (xR S_31 fun R_33=>
 (∀ w,C_22 w → ∀ v40,R_32 v40 w → (kU v40 (xK C_22 S_31 R_33 w) w)) ∧
 (xR S_31 fun R_35=>
 (∀ w,C_22 w → ∀ v41,R_33 v41 w → (C_22 w ∧ S_31 w w ∧ R_35 v41 w)) ∧
 (xR S_31 fun R_37=>
 (∀ w,C_22 w → ∀ v42,R_35 v42 w → (gF v42 (kL 29 v7) (xK C_22 S_31 R_37 w) w)) ∧
 (xR S_31 fun R_39=>
 (∀ w,C_22 w → ∀ v42,R_35 v42 w → (gF v42 (a0j (l_17.getD 1 undef)) (xK C_22 S_31 R_39 w) w)) ∧
 (xR S_31 fun R_41=>
 (∀ w,C_22 w → ∀ v42,R_35 v42 w → ∀ v43,R_37 v43 w → ∀ v44,R_39 v44 w → (gF v42 (kI 29 v43 v44) (xK C_22 S_31 R_41 w) w)) ∧
 (xR S_31 fun R_45=>
 (∀ w,C_22 w → ∀ v42,R_35 v42 w → ∀ v45,R_41 v45 w → (gF v42 (kL 30 v45) (xK C_22 S_31 R_45 w) w)) ∧
 (xR S_31 fun R_48=>
 (∀ w,C_22 w → ∀ v42,R_35 v42 w → ∀ v46,R_45 v46 w → (gF v42 (kN 30 v46) (xK C_22 S_31 R_48 w) w)) ∧
 (xR S_31 fun R_51=>
 (∀ w,C_22 w → ∀ v42,R_35 v42 w → (gF v42 (kF 65 1 v10) (xK C_22 S_31 R_51 w) w)) ∧
 (xR S_31 fun R_53=>
 (∀ w,C_22 w → ∀ v42,R_35 v42 w → ∀ v48,R_51 v48 w → (gF v42 (kL 63 v48) (xK C_22 S_31 R_53 w) w)) ∧
 (xR S_31 fun R_56=>
 (∀ w,C_22 w → ∀ v42,R_35 v42 w → ∀ v49,R_53 v49 w → (gF v42 (kN 63 v49) (xK C_22 S_31 R_56 w) w)) ∧
 (∀ w,C_22 w → ∀ v40,R_32 v40 w → ∀ v41,R_33 v41 w → ∀ v42,R_35 v42 w → ∀ v43,R_37 v43 w → ∀ v44,R_39 v44 w → ∀ v45,R_41 v45 w → ∀ v46,R_45 v46 w → ∀ v47,R_48 v47 w → ∀ v48,R_51 v48 w → ∀ v49,R_53 v49 w → ∀ v50,R_56 v50 w → (
 gF v42 (kB .neq 3 4 v47 v50) (fun v51=>
 kP v42 (.bool true) v51 fun v52=>
 kO v52 (kS 4 v8 (.bool false) fun _=>
 kR 4 v8 K)
 (kB .add 3 3 (l_17.getD 1 undef) (.int .i64 1) fun v53=>
 kJ J_15 m_16 l_17 w0_l_17 [(l_17.getD 1 undef),v53])) w)))))))))))))))
 (a0a prog 93 #[a1] fun v55 w=>
 rangeM prog v55 2 w
 (fun vs_75 k_77 w=>(kA 127 (fun v11=>
 kS 127 v11 (vs_75.getD 0 undef) fun _=>
 kA 69 fun v12=>
 kS 69 v12 (vs_75.getD 1 undef) fun _=>
 k_77 [v11,v12]) w))
 (fun vs_75 l_76 u_l_76 kn_78 kr_79 w=>(kH (fun C_83 w=>(((true:Bool) = true) ∧ (jL 26 v4 C_83 fun v58=>
 jL 29 v7 C_83 fun v59=>
 jF 127 0 (l_76.getD 0 undef) C_83 fun v60=>
 jL 3 v60 C_83 fun v61=>
 jI 29 v59 v61 C_83 fun v62=>
 jL 30 v62 C_83 fun v63=>
 jF 127 1 (l_76.getD 0 undef) C_83 fun v64=>
 jL 3 v64 C_83 fun v65=>
 jI 30 v63 v65 C_83 fun v66=>
 jL 24 v66 C_83 fun v67=>
 jF 69 0 (l_76.getD 1 undef) C_83 fun v68=>
 jL 3 v68 C_83 fun v69=>
 ∃ S_96:World → WK,∀ w,C_83 w → (
 a0a prog 140 #[v58,v67,v69] (fun v70=>
 kU v70 fun v71=>
 kO v71 (kS 4 v8 (.bool false) fun _=>
 kr_79)
 kn_78) w)))) w))
 (fun D_80 w=>(kS 4 v8 (.bool true) (fun _ w=>
 w.heap[D_80]? = some (.deferred (some [])) ∧ ∃ r_99,(do loadVar 4 (← asAddr v8):Sem Value).run prog (w.putObj D_80 (.deferred none)) = .ok r_99 (w.putObj D_80 (.deferred none)) ∧ K r_99 (w.putObj D_80 (.deferred none))) w))
 fun D_80 w=>(w.heap[D_80]? = some (.deferred (some [])) ∧ ∃ r_100,(do loadVar 4 (← asAddr v8):Sem Value).run prog (w.putObj D_80 (.deferred none)) = .ok r_100 (w.putObj D_80 (.deferred none)) ∧ K r_100 (w.putObj D_80 (.deferred none))))) w)) w0_l_17)) w) w) w) w) w) w
theorem e4z (h:f9v a0 a1 a2 a3 K w):a0a prog 91 #[a0,a1,a2,a3] K w:=
 cF (mz [(6,fz 8 11 2),(12,fz 12 0 2)]) func91 h
def f9w (a0 a1 a2 a3 a4:Value) (K:VK) (w:World):Prop:=
 oM prog (.box 26 (.tmp 0)) 0 [a0] (fun v5=>
 oM prog (.box 30 (.tmp 0)) 0 [a3] fun v8=>
 oM prog (.box 29 (.tmp 0)) 0 [a4] fun v9=>
 kA 24 fun v11=>
 a0a prog 93 #[a1] fun v15 w=>
 rangeM prog v15 2 w
 (fun vs_6 k_8 w=>(kA 127 (fun v12=>
 kS 127 v12 (vs_6.getD 0 undef) fun _=>
 kA 69 fun v13=>
 kS 69 v13 (vs_6.getD 1 undef) fun _=>
 k_8 [v12,v13]) w))
 (fun vs_6 l_7 u_l_7 kn_9 kr_10 w=>(kH (fun C_14 w=>(((true:Bool) = true) ∧ (jL 24 v11 C_14 fun v18=>
 jL 26 v5 C_14 fun v19=>
 jL 69 (l_7.getD 1 undef) C_14 fun v20=>
 jL 30 v8 C_14 fun v21=>
 jF 127 0 (l_7.getD 0 undef) C_14 fun v22=>
 jL 3 v22 C_14 fun v23=>
 jI 30 v21 v23 C_14 fun v24=>
 jL 24 v24 C_14 fun v25=>
 jF 127 1 (l_7.getD 0 undef) C_14 fun v26=>
 jL 3 v26 C_14 fun v27=>
 jI 24 v25 v27 C_14 fun v28=>
 jL 3 v28 C_14 fun v29=>
 jL 29 v9 C_14 fun v30=>
 jF 127 0 (l_7.getD 0 undef) C_14 fun v31=>
 jL 3 v31 C_14 fun v32=>
 jI 29 v30 v32 C_14 fun v33=>
 jL 30 v33 C_14 fun v34=>
 jF 127 1 (l_7.getD 0 undef) C_14 fun v35=>
 jL 3 v35 C_14 fun v36=>
 jI 30 v34 v36 C_14 fun v37=>
 jL 24 v37 C_14 fun v38=>
 ∃ S_36:World → WK,xR S_36 fun R_37=>
 (∀ w,C_14 w → (a0a prog 141 #[v19,v20,v29,v38] (xK C_14 S_36 R_37 w) w)) ∧
 (∀ w,C_14 w → ∀ v39,R_37 v39 w → (
 oM prog (.call (Go.Call.mk (.builtin .append) #[(.tmp 0),(.tmp 1)] #[24,24])) 24 [v18,v39] (fun v40=>
 kS 24 v11 v40 fun _=>
 kn_9) w))))) w))
 (fun D_11 w=>(kH (fun C_40 w=>(((true:Bool) = true) ∧ (a0c a1 C_40 fun v41=>
 a0c a2 C_40 fun v44=>
 jL 24 v11 C_40 fun v47=>
 jF 26 0 v5 C_40 fun v50=>
 jF 23 1 v50 C_40 fun v51=>
 jL 3 v51 C_40 fun v52=>
 ∃ S_47:World → WK,xR S_47 fun R_48=>
 (∀ w,C_40 w → (a0a prog 25 #[v41] (xK C_40 S_47 R_48 w) w)) ∧
 (xR S_47 fun R_49=>
 (∀ w,C_40 w → ∀ v42,R_48 v42 w → (a0a prog 160 #[v42] (xK C_40 S_47 R_49 w) w)) ∧
 (xR S_47 fun R_51=>
 (∀ w,C_40 w → (a0a prog 160 #[v44] (xK C_40 S_47 R_51 w) w)) ∧
 (xR S_47 fun R_52=>
 (∀ w,C_40 w → ∀ v43,R_49 v43 w → ∀ v45,R_51 v45 w → (kB .add 9 9 v43 v45 (xK C_40 S_47 R_52 w) w)) ∧
 (xR S_47 fun R_55=>
 (∀ w,C_40 w → (a0a prog 114 #[v47] (xK C_40 S_47 R_55 w) w)) ∧
 (xR S_47 fun R_56=>
 (∀ w,C_40 w → ∀ v46,R_52 v46 w → ∀ v48,R_55 v48 w → (kB .add 9 9 v46 v48 (xK C_40 S_47 R_56 w) w)) ∧
 (∀ w,C_40 w → ∀ v42,R_48 v42 w → ∀ v43,R_49 v43 w → ∀ v45,R_51 v45 w → ∀ v46,R_52 v46 w → ∀ v48,R_55 v48 w → ∀ v49,R_56 v49 w → (
 a0a prog 159 #[v49,v52] (fun v53 w=>
 w.heap[D_11]? = some (.deferred (some [])) ∧ K v53 (w.putObj D_11 (.deferred none))) w)))))))))) w))
 fun D_11 w=>(w.heap[D_11]? = some (.deferred (some [])) ∧ K (.int .i64 0) (w.putObj D_11 (.deferred none)))) w
theorem e5a (h:f9w a0 a1 a2 a3 a4 K w):a0a prog 94 #[a0,a1,a2,a3,a4] K w:=
 cF (mz [(5,fz 21 1 2),(6,.free [0,3,6,9,10,11] [1,2,4,5,7,8] [12,13])]) func94 h
def f9x (a0 a1 a2:Value) (K:VK) (w:World):Prop:=
 oM prog (.box 26 (.tmp 0)) 0 [a0] (fun v3=>
 oM prog (.box 28 (.tmp 0)) 0 [a2] fun v5=>
 kA 4 fun v6=>
 kL 28 v5 fun v12=>
 kN 28 v12 fun v13=>
 kN 27 a1 fun v15=>
 kB .neq 3 4 v13 v15 fun v16=>
 kO v16 (kS 4 v6 (.bool false) fun _=>
 kR 4 v6 K)
 (kN 27 a1 fun v18=>
 kQ [undef,(.int .i64 0)] fun J_10 m_11 l_12 u_l_12 w0_l_12=>(fun w=>(
 kB .lss 3 0 (l_12.getD 1 undef) v18 (fun v20=>
 kO v20 (kI 27 a1 (l_12.getD 1 undef) fun v22=>
 kL 65 v22 fun v23=>
 kA 65 fun v8=>
 kS 65 v8 v23 fun _=>
 kH fun C_17 w=>(((true:Bool) = true) ∧ (jL 28 v5 C_17 fun v24=>
 a0c (l_12.getD 1 undef) C_17 fun v25=>
 jI 28 v24 v25 C_17 fun v26=>
 jL 114 v26 C_17 fun v27=>
 jN 114 v27 C_17 fun v28=>
 jF 65 1 v8 C_17 fun v29=>
 jL 63 v29 C_17 fun v30=>
 jN 63 v30 C_17 fun v31=>
 jB .neq 3 4 v28 v31 C_17 fun v32=>
 ∃ S_27:World → WK,∀ w,C_17 w → (kO v32 (kS 4 v6 (.bool false) fun _=>
 kR 4 v6 K)
 (kB .add 3 3 (l_12.getD 1 undef) (.int .i64 1) fun v33=>
 kJ J_10 m_11 l_12 w0_l_12 [(l_12.getD 1 undef),v33]) w))))
 (a0a prog 93 #[a1] fun v35 w=>
 rangeM prog v35 2 w
 (fun vs_31 k_33 w=>(kA 127 (fun v9=>
 kS 127 v9 (vs_31.getD 0 undef) fun _=>
 kA 69 fun v10=>
 kS 69 v10 (vs_31.getD 1 undef) fun _=>
 k_33 [v9,v10]) w))
 (fun vs_31 l_32 u_l_32 kn_34 kr_35 w=>(kH (fun C_39 w=>(((true:Bool) = true) ∧ (jL 28 v5 C_39 fun v38=>
 jF 127 0 (l_32.getD 0 undef) C_39 fun v39=>
 jL 3 v39 C_39 fun v40=>
 jI 28 v38 v40 C_39 fun v41=>
 jL 114 v41 C_39 fun v42=>
 jF 127 1 (l_32.getD 0 undef) C_39 fun v43=>
 jL 3 v43 C_39 fun v44=>
 jI 114 v42 v44 C_39 fun v45=>
 jL 113 v45 C_39 fun v46=>
 ∃ S_49:World → WK,xR S_49 fun R_50=>
 (∀ w,C_39 w → (kA 113 (xK C_39 S_49 R_50 w) w)) ∧
 (∀ w,C_39 w → ∀ v11,R_50 v11 w → (
 kS 113 v11 v46 (fun _=>
 kF 113 0 v11 fun v47=>
 kL 4 v47 fun v48 w=>
 gT v48 (kL 26 v3) (fun v50 w=>
 gT v48 (kF 113 1 v11) (fun v51 w=>
 gT v48 (kL 24 v51) (fun v52 w=>
 gT v48 (kF 69 0 (l_32.getD 1 undef)) (fun v53 w=>
 gT v48 (kL 3 v53) (fun v54 w=>
 gT v48 (a0a prog 140 #[v50,v52,v54]) (fun v55 w=>
 gT v48 (kU v55) (fun v56=>
 kP v48 v56 (.bool false) fun v57=>
 kO v57 (kS 4 v6 (.bool false) fun _=>
 kr_35)
 kn_34) w) w) w) w) w) w) w) w))))) w))
 (fun D_36 w=>(kS 4 v6 (.bool true) (fun _ w=>
 w.heap[D_36]? = some (.deferred (some [])) ∧ ∃ r_62,(do loadVar 4 (← asAddr v6):Sem Value).run prog (w.putObj D_36 (.deferred none)) = .ok r_62 (w.putObj D_36 (.deferred none)) ∧ K r_62 (w.putObj D_36 (.deferred none))) w))
 fun D_36 w=>(w.heap[D_36]? = some (.deferred (some [])) ∧ ∃ r_63,(do loadVar 4 (← asAddr v6):Sem Value).run prog (w.putObj D_36 (.deferred none)) = .ok r_63 (w.putObj D_36 (.deferred none)) ∧ K r_63 (w.putObj D_36 (.deferred none))))) w)) w0_l_12)) w
theorem e5b (h:f9x a0 a1 a2 K w):a0a prog 90 #[a0,a1,a2] K w:=
 cF (mz [(6,fz 9 0 0),(12,fz 9 1 1)]) func90 h
def f9y (a0 a1 a2:Value) (K:VK) (w:World):Prop:=
 oM prog (.box 26 (.tmp 0)) 0 [a0] (fun v3=>
 kN 27 a1 fun v17=>
 oM prog (.makeSlice 120 (.tmp 0) (.tmp 1)) 120 [v17,v17] fun v18=>
 kN 27 a1 fun v20=>
 kQ [undef,undef,undef,undef,(.bool true),(.int .i64 0)] fun J_5 m_6 l_7 u_l_7 w0_l_7=>(fun w=>(
 kB .lss 3 0 (l_7.getD 5 undef) v20 (fun v22=>
 kO v22 (kI 27 a1 (l_7.getD 5 undef) fun v24=>
 kL 65 v24 fun v25=>
 kA 65 fun v11=>
 kS 65 v11 v25 fun _=>
 kF 65 0 v11 fun v26=>
 kL 3 v26 fun v27=>
 kF 65 1 v11 fun v28=>
 kL 63 v28 fun v29=>
 kN 63 v29 fun v30=>
 kQ [(l_7.getD 2 undef),(l_7.getD 3 undef),v27,(.int .i64 0)] fun J_17 m_18 l_19 u_l_19 w0_l_19=>(fun w=>(
 kB .lss 3 0 (l_19.getD 3 undef) v30 (fun v32=>
 kO v32 (kI 63 v29 (l_19.getD 3 undef) fun v34=>
 kL 69 v34 fun v35=>
 kA 69 fun v14=>
 kS 69 v14 v35 fun _=>
 kH fun C_24 w=>(((true:Bool) = true) ∧ (a0c (l_19.getD 2 undef) C_24 fun v36=>
 jB .gtr 3 4 v36 (.int .i64 0) C_24 fun v37=>
 a0c v37 C_24 fun v38=>
 jT v38 (a0c a2) C_24 fun v39=>
 jT v38 (a0c (l_7.getD 5 undef)) C_24 fun v40=>
 jT v38 (jI 28 v39 v40) C_24 fun v41=>
 jT v38 (jL 114 v41) C_24 fun v42=>
 jT v38 (a0c (l_19.getD 3 undef)) C_24 fun v43=>
 jT v38 (jI 114 v42 v43) C_24 fun v44=>
 jT v38 (jF 113 0 v44) C_24 fun v45=>
 jT v38 (jL 4 v45) C_24 fun v46=>
 jP v38 v46 (.bool false) C_24 fun v47=>
 a0c v47 C_24 fun v48=>
 jT v48 (jL 26 v3) C_24 fun v49=>
 jT v48 (jL 69 v14) C_24 fun v50=>
 jT v48 (a0c a2) C_24 fun v51=>
 jT v48 (a0c (l_7.getD 5 undef)) C_24 fun v52=>
 jT v48 (jI 28 v51 v52) C_24 fun v53=>
 jT v48 (jL 114 v53) C_24 fun v54=>
 jT v48 (a0c (l_19.getD 3 undef)) C_24 fun v55=>
 jT v48 (jI 114 v54 v55) C_24 fun v56=>
 jT v48 (jF 113 1 v56) C_24 fun v57=>
 jT v48 (jL 24 v57) C_24 fun v58=>
 ∃ S_48:World → WK,∀ w,C_24 w → (
 gT v48 (a0a prog 122 #[v49,v50,v58]) (fun v59=>
 kP v48 v59 (.bool false) fun v60 w=>
 a5z (fun M_51=>(kO v60 (kB .sub 3 3 (l_19.getD 2 undef) (.int .i64 1) fun v63=>
 M_51 [v63])
 (M_51 [(l_19.getD 2 undef)]) w))
 fun l_52 u_l_52 w=>(kI 120 v18 (l_7.getD 5 undef) (fun v68=>
 kL 61 v68 fun v69=>
 oM prog (.buildSlice 61 1 #[(0,(.tmp 0))]) 61 [v60] fun v71=>
 oM prog (.call (Go.Call.mk (.builtin .append) #[(.tmp 0),(.tmp 1)] #[61,61])) 61 [v69,v71] fun v72=>
 kI 120 v18 (l_7.getD 5 undef) fun v73=>
 kS 61 v73 v72 fun _=>
 kB .add 3 3 (l_19.getD 3 undef) (.int .i64 1) fun v74=>
 kJ J_17 m_18 l_19 w0_l_19 [(l_19.getD 3 undef),v60,(l_52.getD 0 undef),v74]) w)) w))))
 (gdM (gd (l_7.getD 4 undef) true) (a0j (l_19.getD 2 undef)) fun v77 w=>
 gdM (gd (l_7.getD 4 undef) true) (kC .eql 3 0 4 v77) (fun v78=>
 kP (l_7.getD 4 undef) v78 (.bool false) fun v79=>
 kB .add 3 3 (l_7.getD 5 undef) (.int .i64 1) fun v80=>
 kJ J_5 m_6 l_7 w0_l_7 [(l_7.getD 5 undef),(l_19.getD 2 undef),(l_19.getD 0 undef),(l_19.getD 1 undef),v79,v80]) w)) w)) w0_l_19)
 (K (.tuple #[v18,(l_7.getD 4 undef)]))) w)) w0_l_7) w
theorem e5c (h:f9y a0 a1 a2 K w):a0a prog 92 #[a0,a1,a2] K w:=
 cZ (fun _=>(fz 23 0 3)) func92 h
def f9z (a0 a1 a2 a3:Value) (K:VK) (w:World):Prop:=
 a0a prog 96 #[a1] (fun v13=>
 kN 24 a3 fun v15=>
 kQ [undef,undef,(.int .i64 0)] fun J_3 m_4 l_5 u_l_5 w0_l_5=>(fun w=>(
 kB .lss 3 0 (l_5.getD 2 undef) v15 (fun v17=>
 kO v17 (kI 24 a3 (l_5.getD 2 undef) fun v19=>
 kL 3 v19 fun v20=>
 kH fun C_9 w=>(((true:Bool) = true) ∧ (a0c v13 C_9 fun v21=>
 a0c (l_5.getD 2 undef) C_9 fun v22=>
 a0c a0 C_9 fun v23=>
 a0c v13 C_9 fun v24=>
 a0c (l_5.getD 2 undef) C_9 fun v25=>
 jI 24 v24 v25 C_9 fun v26=>
 jL 3 v26 C_9 fun v27=>
 a0c a0 C_9 fun v28=>
 a0c a2 C_9 fun v29=>
 a0c v20 C_9 fun v30=>
 ∃ S_20:World → WK,xR S_20 fun R_21=>
 (∀ w,C_9 w → (a0a prog 43 #[v28,v29,v30] (xK C_9 S_20 R_21 w) w)) ∧
 (xR S_20 fun R_22=>
 (∀ w,C_9 w → ∀ v31,R_21 v31 w → (a0a prog 42 #[v23,v27,v31] (xK C_9 S_20 R_22 w) w)) ∧
 (∀ w,C_9 w → ∀ v31,R_21 v31 w → ∀ v32,R_22 v32 w → (
 kI 24 v21 v22 (fun v33=>
 kS 3 v33 v32 fun _=>
 kB .add 3 3 (l_5.getD 2 undef) (.int .i64 1) fun v34=>
 kJ J_3 m_4 l_5 w0_l_5 [(l_5.getD 2 undef),v20,v34]) w))))))
 (K v13)) w)) w0_l_5) w
theorem e5d (h:f9z a0 a1 a2 a3 K w):a0a prog 97 #[a0,a1,a2,a3] K w:=
 cZ (fun _=>(fz 10 2 2)) func97 h
def g0a (a0 a1 a2 a3:Value) (K:VK) (w:World):Prop:=
 oM prog (.box 26 (.tmp 0)) 0 [a0] (fun v4=>
 oM prog (.box 34 (.tmp 0)) 0 [a3] fun v7=>
 kL 26 v4 fun v15=>
 a0a prog 23 #[v15,a1] fun v17=>
 kU v17 fun v18 w=>
 gF v18 (kL 26 v4) (fun v20 w=>
 gF v18 (a0j a1) (fun v21 w=>
 gF v18 (kF 34 0 v7) (fun v22 w=>
 gF v18 (kL 30 v22) (fun v23 w=>
 gF v18 (kF 34 1 v7) (fun v24 w=>
 gF v18 (kL 29 v24) (fun v25 w=>
 gF v18 (a0a prog 91 #[v20,v21,v23,v25]) (fun v26 w=>
 gF v18 (kU v26) (fun v27=>
 kP v18 (.bool true) v27 fun v28=>
 kO v28 (K (.bool false))
 (kL 26 v4 fun v29=>
 kF 34 0 v7 fun v32=>
 kL 30 v32 fun v33=>
 kF 34 1 v7 fun v34=>
 kL 29 v34 fun v35=>
 a0a prog 94 #[v29,a1,a2,v33,v35] fun v36=>
 kN 27 a1 fun v38=>
 kQ [undef,undef,undef,undef,(.bool false),(.int .i64 0)] fun J_22 m_23 l_24 u_l_24 w0_l_24=>(fun w=>(
 kB .lss 3 0 (l_24.getD 5 undef) v38 (fun v40=>
 kO v40 (kI 27 a1 (l_24.getD 5 undef) fun v42=>
 kL 65 v42 fun v43=>
 kA 65 fun v11=>
 kS 65 v11 v43 fun _=>
 kF 65 1 v11 fun v44=>
 kL 63 v44 fun v45=>
 kN 63 v45 fun v46=>
 oM prog (.makeSlice 61 (.tmp 0) (.tmp 1)) 61 [v46,v46] fun v48=>
 kF 65 0 v11 fun v49=>
 kL 3 v49 fun v50=>
 kQ [(l_24.getD 3 undef),(.int .i64 0)] fun J_35 m_36 l_37 u_l_37 w0_l_37=>(fun w=>(
 kB .lss 3 4 (l_37.getD 1 undef) v50 (fun v52=>
 kO v52 (kB .sub 3 3 v46 (.int .i64 1) fun v56=>
 kB .sub 3 3 v56 (l_37.getD 1 undef) fun v58=>
 kI 61 v48 v58 fun v59=>
 kS 4 v59 (.bool true) fun _=>
 kB .add 3 3 (l_37.getD 1 undef) (.int .i64 1) fun v60=>
 kJ J_35 m_36 l_37 w0_l_37 [(l_37.getD 1 undef),v60])
 (kH fun C_43 w=>(((true:Bool) = true) ∧ (jL 26 v4 C_43 fun v61=>
 a0c v48 C_43 fun v62=>
 jF 34 0 v7 C_43 fun v63=>
 jL 30 v63 C_43 fun v64=>
 a0c (l_24.getD 5 undef) C_43 fun v65=>
 jI 30 v64 v65 C_43 fun v66=>
 jL 24 v66 C_43 fun v67=>
 a0c v36 C_43 fun v68=>
 jF 34 0 v7 C_43 fun v70=>
 jL 30 v70 C_43 fun v71=>
 a0c (l_24.getD 5 undef) C_43 fun v72=>
 jI 30 v71 v72 C_43 fun v73=>
 jL 24 v73 C_43 fun v74=>
 ∃ S_57:World → WK,xR S_57 fun R_58=>
 (∀ w,C_43 w → (a0a prog 95 #[v61,v62,v67,v68] (xK C_43 S_57 R_58 w) w)) ∧
 (∀ w,C_43 w → ∀ v69,R_58 v69 w → (
 a0a prog 117 #[v69,v74] (fun v75=>
 kU v75 fun v76=>
 kO v76 (K (.bool false))
 (kB .add 3 3 (l_24.getD 5 undef) (.int .i64 1) fun v77=>
 kJ J_22 m_23 l_24 w0_l_24 [(l_24.getD 5 undef),v46,v48,(l_37.getD 0 undef),(l_24.getD 4 undef),v77])) w)))))) w)) w0_l_37)
 (K (.bool true))) w)) w0_l_24)) w) w) w) w) w) w) w) w) w
theorem e5e (h:g0a a0 a1 a2 a3 K w):a0a prog 30 #[a0,a1,a2,a3] K w:=
 cZ (fun _=>.free [0,1,2,3,4,5,6,7,9,10,11,12,13] [8] [14,15]) func30 h
def f0k (a0 a1 a2 a3:Value) (K:VK) (w:World):Prop:=
 oM prog (.box 26 (.tmp 0)) 0 [a0] (fun v4=>
 oM prog (.box 69 (.tmp 0)) 0 [a1] fun v5=>
 kF 69 1 v5 fun v12=>
 kL 67 v12 fun v13=>
 kN 67 v13 fun v14=>
 kQ [(.slice none 0 0),(.int .i64 0)] fun J_6 m_7 l_8 u_l_8 w0_l_8=>(fun w=>(
 kB .lss 3 0 (l_8.getD 1 undef) v14 (fun v16=>
 kO v16 (kI 67 v13 (l_8.getD 1 undef) fun v17=>
 kL 144 v17 fun v18=>
 kA 144 fun v11=>
 kS 144 v11 v18 fun _=>
 kH fun C_13 w=>(((true:Bool) = true) ∧ (a0c (l_8.getD 0 undef) C_13 fun v19=>
 jF 26 0 v4 C_13 fun v20=>
 jL 23 v20 C_13 fun v21=>
 jL 26 v4 C_13 fun v22=>
 jL 144 v11 C_13 fun v23=>
 a0c a3 C_13 fun v24=>
 jF 26 0 v4 C_13 fun v26=>
 jL 23 v26 C_13 fun v27=>
 jF 144 0 v11 C_13 fun v28=>
 jL 3 v28 C_13 fun v29=>
 a0c a2 C_13 fun v30=>
 ∃ S_25:World → WK,xR S_25 fun R_26=>
 (∀ w,C_13 w → (a0a prog 181 #[v22,v23,v24] (xK C_13 S_25 R_26 w) w)) ∧
 (xR S_25 fun R_27=>
 (∀ w,C_13 w → (a0a prog 46 #[v27,v29,v30] (xK C_13 S_25 R_27 w) w)) ∧
 (xR S_25 fun R_28=>
 (∀ w,C_13 w → ∀ v25,R_26 v25 w → ∀ v31,R_27 v31 w → (a0a prog 121 #[v21,v25,v31] (xK C_13 S_25 R_28 w) w)) ∧
 (xR S_25 fun R_31=>
 (∀ w,C_13 w → ∀ v32,R_28 v32 w → (oM prog (.buildSlice 24 1 #[(0,(.tmp 0))]) 24 [v32] (xK C_13 S_25 R_31 w) w)) ∧
 (∀ w,C_13 w → ∀ v25,R_26 v25 w → ∀ v31,R_27 v31 w → ∀ v32,R_28 v32 w → ∀ v33,R_31 v33 w → (
 oM prog (.call (Go.Call.mk (.builtin .append) #[(.tmp 0),(.tmp 1)] #[24,24])) 24 [v19,v33] (fun v34=>
 kB .add 3 3 (l_8.getD 1 undef) (.int .i64 1) fun v35=>
 kJ J_6 m_7 l_8 w0_l_8 [v34,v35]) w))))))))
 (K (l_8.getD 0 undef))) w)) w0_l_8) w
theorem d5x (h:f0k a0 a1 a2 a3 K w):a0a prog 141 #[a0,a1,a2,a3] K w:=
 cZ (fun _=>.free [0,1,2,3,4,5,7,8,9,10,11] [6,12,13,14] [15,16]) func141 h
def g0b (a0:Value) (K:VK) (w:World):Prop:=
 oM prog (.box 27 (.tmp 0)) 0 [a0] (fun v1=>
 oM prog (.makeFunc (Go.Fn.func 158) #[] #[(.tmp 0)]) 123 [v1] fun v3=>
 K v3) w
theorem e5f (h:g0b a0 K w):a0a prog 93 #[a0] K w:=
 cZ (fun _=>0) func93 h
def d5y (a0 a1:Value) (K:VK) (w:World):Prop:=
 kL 27 a1 (fun v7=>
 kN 27 v7 fun v8=>
 kQ [undef,undef,(.int .i64 0)] fun J_3 m_4 l_5 u_l_5 w0_l_5=>(fun w=>(
 kB .lss 3 0 (l_5.getD 2 undef) v8 (fun v10=>
 kO v10 (kI 27 v7 (l_5.getD 2 undef) fun v12=>
 kL 65 v12 fun v13=>
 kA 65 fun v4=>
 kS 65 v4 v13 fun _=>
 kF 65 1 v4 fun v14=>
 kL 63 v14 fun v15=>
 kN 63 v15 fun v16=>
 kQ [(l_5.getD 1 undef),(.int .i64 0)] fun J_13 m_14 l_15 u_l_15 w0_l_15=>(fun w=>(
 kB .lss 3 0 (l_15.getD 1 undef) v16 (fun v18=>
 kO v18 (kI 63 v15 (l_15.getD 1 undef) fun v20=>
 kL 69 v20 fun v21=>
 kA 69 fun v6=>
 kS 69 v6 v21 fun _=>
 oM prog (.build 127 #[(0,(.tmp 0)),(1,(.tmp 1))]) 127 [(l_5.getD 2 undef),(l_15.getD 1 undef)] fun v25=>
 kL 69 v6 fun v26 w=>
 e2k prog a0 [v25,v26] (fun v27=>
 kU v27 fun v28=>
 kO v28 (K (.tuple #[]))
 (kB .add 3 3 (l_15.getD 1 undef) (.int .i64 1) fun v29=>
 kJ J_13 m_14 l_15 w0_l_15 [(l_15.getD 1 undef),v29])) w)
 (kB .add 3 3 (l_5.getD 2 undef) (.int .i64 1) fun v30=>
 kJ J_3 m_4 l_5 w0_l_5 [(l_5.getD 2 undef),(l_15.getD 0 undef),v30])) w)) w0_l_15)
 (K (.tuple #[]))) w)) w0_l_5) w
theorem d5z (a0 a1:Value) (K:VK) (w:World):d5y a0 a1 K w = b2k prog 31 (Tryz.f158.body.getD .skip) (a5j [a0,a1]) (g1x prog [] K) w:=by kernel_rfl
theorem d6a {m:Nat} {a0 a1:Value} {K:VK} {w:World} (h:d5y a0 a1 K w):CallsIn Fence.wide (9 + m) prog 158 #[a0,a1] w (fun e w=>∃ v,e = .returned v ∧ K v w):=
 b1j (fn:=Tryz.f158) (rs:=[]) Tryz.func158 rfl rfl (by kernel_rfl) (nB rfl) ((d5z a0 a1 K w).mp h)
def f0l (a0:Value) (K:VK) (w:World):Prop:=
 oM prog (.box 24 (.tmp 0)) 0 [a0] (fun v1=>
 oM prog (.makeFunc (Go.Fn.func 216) #[] #[(.tmp 0)]) 204 [v1] fun v3=>
 K v3) w
theorem d6b (h:f0l a0 K w):a0a prog 198 #[a0] K w:=
 cZ (fun _=>0) func198 h
def d6c (a0 a1:Value) (K:VK) (w:World):Prop:=
 kL 24 a1 (fun v4=>
 kN 24 v4 fun v5=>
 kB .sub 3 3 v5 (.int .i64 1) fun v6=>
 kQ [v6] fun J_4 m_5 l_6 u_l_6 w0_l_6=>(fun w=>(
 kB .geq 3 4 (l_6.getD 0 undef) (.int .i64 0) (fun v8=>
 kO v8 (kL 24 a1 fun v13=>
 kI 24 v13 (l_6.getD 0 undef) fun v15=>
 kL 3 v15 fun v16 w=>
 e2k prog a0 [(l_6.getD 0 undef),v16] (fun v17=>
 kU v17 fun v18=>
 kO v18 (K (.tuple #[]))
 (kB .sub 3 3 (l_6.getD 0 undef) (.int .i64 1) fun v10=>
 kJ J_4 m_5 l_6 w0_l_6 [v10])) w)
 (K (.tuple #[]))) w)) w0_l_6) w
theorem d6d (a0 a1:Value) (K:VK) (w:World):d6c a0 a1 K w = b2k prog 19 (Tryz.f216.body.getD .skip) (a5j [a0,a1]) (g1x prog [] K) w:=by kernel_rfl
theorem d6e {m:Nat} {a0 a1:Value} {K:VK} {w:World} (h:d6c a0 a1 K w):CallsIn Fence.wide (9 + m) prog 216 #[a0,a1] w (fun e w=>∃ v,e = .returned v ∧ K v w):=
 b1j (fn:=Tryz.f216) (rs:=[]) Tryz.func216 rfl rfl (by kernel_rfl) (nB rfl) ((d6d a0 a1 K w).mp h)
def f0m (a0 a1 a2:Value) (K:VK) (w:World):Prop:=
 oM prog (.box 3 (.tmp 0)) 0 [a0] (fun v3=>
 oM prog (.box 3 (.tmp 0)) 0 [a2] fun v5=>
 kA 3 fun v7=>
 kS 3 v7 (.int .i64 0) fun _=>
 a0a prog 198 #[a1] fun v11 w=>
 rangeM prog v11 2 w
 (fun vs_5 k_7 w=>(k_7 [(vs_5.getD 1 undef)] w))
 (fun vs_5 l_6 u_l_6 kn_8 kr_9 w=>(kH (fun C_11 w=>(((true:Bool) = true) ∧ (jL 3 v3 C_11 fun v14=>
 jL 3 v3 C_11 fun v15=>
 jL 3 v7 C_11 fun v16=>
 jL 3 v5 C_11 fun v17=>
 a0c (l_6.getD 0 undef) C_11 fun v19=>
 ∃ S_17:World → WK,xR S_17 fun R_18=>
 (∀ w,C_11 w → (a0a prog 43 #[v15,v16,v17] (xK C_11 S_17 R_18 w) w)) ∧
 (∀ w,C_11 w → ∀ v18,R_18 v18 w → (
 a0a prog 42 #[v14,v18,v19] (fun v20=>
 kS 3 v7 v20 fun _=>
 kn_8) w))))) w))
 (fun D_10 w=>(kL 3 v7 (fun v21 w=>
 w.heap[D_10]? = some (.deferred (some [])) ∧ K v21 (w.putObj D_10 (.deferred none))) w))
 fun D_10 w=>(w.heap[D_10]? = some (.deferred (some [])) ∧ K (.int .i64 0) (w.putObj D_10 (.deferred none)))) w
theorem d6f (h:f0m a0 a1 a2 K w):a0a prog 162 #[a0,a1,a2] K w:=
 cF (fun _=>.free [0,1,2,3,5] [4] [6,7]) func162 h
def f0n (a0 a1 a2:Value) (K:VK) (w:World):Prop:=
 a0a prog 197 #[a0,a1] (fun v20=>
 kU v20 fun v21 w=>
 gF v21 (a0j a1) (fun v23 w=>
 gF v21 (kN 24 v23) (fun v24 w=>
 gF v21 (a0j a2) (fun v25 w=>
 gF v21 (kN 24 v25) (fun v26 w=>
 gF v21 (kB .neq 3 4 v24 v26) (fun v27=>
 kP v21 (.bool true) v27 fun v28=>
 kO v28 (K (.tuple #[(.slice none 0 0),(.bool false)]))
 (kN 24 a2 fun v30=>
 kQ [undef,(.slice none 0 0),(.int .i64 0)] fun J_10 m_11 l_12 u_l_12 w0_l_12=>(fun w=>(
 kB .lss 3 0 (l_12.getD 2 undef) v30 (fun v32=>
 kO v32 (kI 24 a2 (l_12.getD 2 undef) fun v33=>
 kL 3 v33 fun v34=>
 a0a prog 124 #[a0,v34] fun v38=>
 oM prog (.convert 150 3 (.tmp 0)) 3 [v38] fun v39=>
 oM prog (.buildSlice 24 1 #[(0,(.tmp 0))]) 24 [v39] fun v40=>
 oM prog (.call (Go.Call.mk (.builtin .append) #[(.tmp 0),(.tmp 1)] #[24,24])) 24 [(l_12.getD 1 undef),v40] fun v41=>
 kB .add 3 3 (l_12.getD 2 undef) (.int .i64 1) fun v42=>
 kJ J_10 m_11 l_12 w0_l_12 [v34,v41,v42])
 (kQ [undef,undef,undef,(.int .i64 1)] fun J_21 m_22 l_23 u_l_23 w0_l_23=>(fun w=>(
 kN 24 a1 (fun v45=>
 kB .lss 3 4 (l_23.getD 3 undef) v45 fun v46=>
 kO v46 (kN 24 a1 fun v50=>
 kB .sub 3 3 v50 (.int .i64 1) fun v51=>
 kQ [(l_23.getD 1 undef),(l_23.getD 2 undef),v51] fun J_28 m_29 l_30 u_l_30 w0_l_30=>(fun w=>(
 kB .geq 3 4 (l_30.getD 2 undef) (l_23.getD 3 undef) (fun v54=>
 kO v54 (kH fun C_32 w=>(((true:Bool) = true) ∧ (a0c a0 C_32 fun v58=>
 a0c a0 C_32 fun v59=>
 a0c a1 C_32 fun v60=>
 a0c (l_30.getD 2 undef) C_32 fun v61=>
 jI 24 v60 v61 C_32 fun v62=>
 jL 3 v62 C_32 fun v63=>
 a0c a1 C_32 fun v64=>
 a0c (l_30.getD 2 undef) C_32 fun v65=>
 a0c (l_23.getD 3 undef) C_32 fun v66=>
 jB .sub 3 3 v65 v66 C_32 fun v67=>
 jI 24 v64 v67 C_32 fun v68=>
 jL 3 v68 C_32 fun v69=>
 ∃ S_45:World → WK,xR S_45 fun R_46=>
 (∀ w,C_32 w → (a0a prog 48 #[v59,v63,v69] (xK C_32 S_45 R_46 w) w)) ∧
 (xR S_45 fun R_47=>
 (∀ w,C_32 w → ∀ v70,R_46 v70 w → (a0a prog 143 #[v58,v70] (xK C_32 S_45 R_47 w) w)) ∧
 (xR S_45 fun R_49=>
 (∀ w,C_32 w → ∀ v71,R_47 v71 w → (C_32 w ∧ S_45 w w ∧ R_49 v71 w)) ∧
 (xR S_45 fun R_51=>
 (∀ w,C_32 w → ∀ v57,R_49 v57 w → (kE 0 3 v57 (xK C_32 S_45 R_51 w) w)) ∧
 (xR S_45 fun R_53=>
 (∀ w,C_32 w → ∀ v57,R_49 v57 w → (kE 1 4 v57 (xK C_32 S_45 R_53 w) w)) ∧
 (xR S_45 fun R_55=>
 (∀ w,C_32 w → ∀ v72,R_51 v72 w → (C_32 w ∧ S_45 w w ∧ R_55 v72 w)) ∧
 (∀ w,C_32 w → ∀ v70,R_46 v70 w → ∀ v71,R_47 v71 w → ∀ v57,R_49 v57 w → ∀ v72,R_51 v72 w → ∀ v73,R_53 v73 w → ∀ v13,R_55 v13 w → (kH (fun C_63 w=>(((true:Bool) = true) ∧ (a0c (l_12.getD 1 undef) C_63 fun v74=>
 a0c (l_30.getD 2 undef) C_63 fun v75=>
 a0c a0 C_63 fun v76=>
 a0c a0 C_63 fun v77=>
 a0c (l_12.getD 1 undef) C_63 fun v78=>
 a0c (l_30.getD 2 undef) C_63 fun v79=>
 jI 24 v78 v79 C_63 fun v80=>
 jL 3 v80 C_63 fun v81=>
 a0c (l_12.getD 1 undef) C_63 fun v82=>
 a0c (l_30.getD 2 undef) C_63 fun v83=>
 jB .sub 3 3 v83 (.int .i64 1) C_63 fun v84=>
 jI 24 v82 v84 C_63 fun v85=>
 jL 3 v85 C_63 fun v86=>
 a0c v13 C_63 fun v88=>
 ∃ S_78:World → WK,xR S_78 fun R_79=>
 (∀ w,C_63 w → (a0a prog 48 #[v77,v81,v86] (xK C_63 S_78 R_79 w) w)) ∧
 (xR S_78 fun R_80=>
 (∀ w,C_63 w → ∀ v87,R_79 v87 w → (a0a prog 43 #[v76,v87,v88] (xK C_63 S_78 R_80 w) w)) ∧
 (∀ w,C_63 w → ∀ v87,R_79 v87 w → ∀ v89,R_80 v89 w → (
 kI 24 v74 v75 (fun v90=>
 kS 3 v90 v89 fun _=>
 kB .sub 3 3 (l_30.getD 2 undef) (.int .i64 1) fun v56=>
 kJ J_28 m_29 l_30 w0_l_30 [v13,v73,v56]) w)))))) w))))))))))
 (kB .add 3 3 (l_23.getD 3 undef) (.int .i64 1) fun v48=>
 kJ J_21 m_22 l_23 w0_l_23 [(l_30.getD 2 undef),(l_30.getD 0 undef),(l_30.getD 1 undef),v48])) w)) w0_l_30)
 (kN 24 a1 fun v92=>
 oM prog (.makeSlice 24 (.tmp 0) (.tmp 1)) 24 [v92,v92] fun v93=>
 kN 24 a1 fun v95=>
 kB .sub 3 3 v95 (.int .i64 1) fun v96=>
 kQ [undef,v96] fun J_91 m_92 l_93 u_l_93 w0_l_93=>(fun w=>(
 kB .geq 3 4 (l_93.getD 1 undef) (.int .i64 0) (fun v98=>
 kO v98 (kN 24 v93 fun v102=>
 kB .sub 3 3 v102 (.int .i64 1) fun v103=>
 kQ [v103] fun J_97 m_98 l_99 u_l_99 w0_l_99=>(fun w=>(
 kB .geq 3 4 (l_99.getD 0 undef) (.int .i64 0) (fun v105 w=>
 a0v v105
 (a5z (fun M_101=>(kH (fun C_103 w=>(((true:Bool) = true) ∧ (a0c v93 C_103 fun v108=>
 a0c (l_99.getD 0 undef) C_103 fun v109=>
 a0c a0 C_103 fun v110=>
 a0c a0 C_103 fun v111=>
 a0c v93 C_103 fun v112=>
 a0c (l_99.getD 0 undef) C_103 fun v113=>
 jI 24 v112 v113 C_103 fun v114=>
 jL 3 v114 C_103 fun v115=>
 a0c a1 C_103 fun v116=>
 a0c (l_93.getD 1 undef) C_103 fun v117=>
 jI 24 v116 v117 C_103 fun v118=>
 jL 3 v118 C_103 fun v119=>
 ∃ S_116:World → WK,xR S_116 fun R_117=>
 (∀ w,C_103 w → (a0a prog 43 #[v111,v115,v119] (xK C_103 S_116 R_117 w) w)) ∧
 (xR S_116 fun R_118=>
 (∀ w,C_103 w → ∀ v120,R_117 v120 w → (a0a prog 48 #[v110,(.int .i64 0),v120] (xK C_103 S_116 R_118 w) w)) ∧
 (∀ w,C_103 w → ∀ v120,R_117 v120 w → ∀ v121,R_118 v121 w → (
 kI 24 v108 v109 (fun v122=>
 kS 3 v122 v121 fun _=>
 kB .gtr 3 4 (l_99.getD 0 undef) (.int .i64 0) fun v124=>
 kO v124 (kH fun C_124 w=>(((true:Bool) = true) ∧ (a0c v93 C_124 fun v125=>
 a0c (l_99.getD 0 undef) C_124 fun v126=>
 a0c a0 C_124 fun v127=>
 a0c v93 C_124 fun v128=>
 a0c (l_99.getD 0 undef) C_124 fun v129=>
 jI 24 v128 v129 C_124 fun v130=>
 jL 3 v130 C_124 fun v131=>
 a0c v93 C_124 fun v132=>
 a0c (l_99.getD 0 undef) C_124 fun v133=>
 jB .sub 3 3 v133 (.int .i64 1) C_124 fun v134=>
 jI 24 v132 v134 C_124 fun v135=>
 jL 3 v135 C_124 fun v136=>
 ∃ S_137:World → WK,xR S_137 fun R_138=>
 (∀ w,C_124 w → (a0a prog 42 #[v127,v131,v136] (xK C_124 S_137 R_138 w) w)) ∧
 (∀ w,C_124 w → ∀ v137,R_138 v137 w → (
 kI 24 v125 v126 (fun v138=>
 kS 3 v138 v137 fun _=>
 M_101 []) w)))))
 (M_101 [])) w)))))) w))
 fun l_102 u_l_102 w=>(kB .sub 3 3 (l_99.getD 0 undef) (.int .i64 1) (fun v107=>
 kJ J_97 m_98 l_99 w0_l_99 [v107]) w))
 (kH (fun C_142 w=>(((true:Bool) = true) ∧ (a0c v93 C_142 fun v139=>
 a0c a0 C_142 fun v140=>
 a0c v93 C_142 fun v141=>
 jI 24 v141 (.int .i64 0) C_142 fun v142=>
 jL 3 v142 C_142 fun v143=>
 a0c (l_12.getD 1 undef) C_142 fun v144=>
 a0c (l_93.getD 1 undef) C_142 fun v145=>
 jI 24 v144 v145 C_142 fun v146=>
 jL 3 v146 C_142 fun v147=>
 ∃ S_152:World → WK,xR S_152 fun R_153=>
 (∀ w,C_142 w → (a0a prog 42 #[v140,v143,v147] (xK C_142 S_152 R_153 w) w)) ∧
 (∀ w,C_142 w → ∀ v148,R_153 v148 w → (
 kI 24 v139 (.int .i64 0) (fun v149=>
 kS 3 v149 v148 fun _=>
 kB .sub 3 3 (l_93.getD 1 undef) (.int .i64 1) fun v100=>
 kJ J_91 m_92 l_93 w0_l_93 [(l_99.getD 0 undef),v100]) w))))) w)) w)) w0_l_99)
 (K (.tuple #[v93,(.bool true)]))) w)) w0_l_93)) w)) w0_l_23)) w)) w0_l_12)) w) w) w) w) w) w
theorem d6g (h:f0n a0 a1 a2 K w):a0a prog 161 #[a0,a1,a2] K w:=
 cZ (mz [(15,fz 12 6 1),(16,.free [0,1,2,3,4,5,6,7,8,9,10,11,12,14] [13,15] [16,17]),(24,fz 12 2 2),(26,fz 12 1 2),(27,fz 9 1 2)]) func161 h
def f0o (a0 a1:Value) (K:VK) (w:World):Prop:=
 a0a prog 169 #[a0] (fun v9=>
 kU v9 fun v10 w=>
 gF v10 (a0j a1) (fun v12 w=>
 gF v10 (kN 24 v12) (fun v13 w=>
 gF v10 (kB .gtr 3 4 v13 (.int .i64 64)) (fun v14=>
 kP v10 (.bool true) v14 fun v15=>
 kO v15 (K (.bool false))
 (oM prog (.makeMap 228 none) 228 [] fun v16=>
 kN 24 a1 fun v18=>
 kQ [undef,(.int .i64 0)] fun J_9 m_10 l_11 u_l_11 w0_l_11=>(fun w=>(
 kB .lss 3 0 (l_11.getD 1 undef) v18 (fun v20=>
 kO v20 (kI 24 a1 (l_11.getD 1 undef) fun v21=>
 kL 3 v21 fun v22=>
 a0a prog 124 #[a0,v22] fun v26=>
 oM prog (.mapUpdate 228 (.tmp 0) (.tmp 1) (.tmp 2)) 0 [v16,v26,(.bool true)] fun _=>
 kB .add 3 3 (l_11.getD 1 undef) (.int .i64 1) fun v27=>
 kJ J_9 m_10 l_11 w0_l_11 [v22,v27])
 (kN 228 v16 fun v29=>
 kN 24 a1 fun v31=>
 kB .eql 3 4 v29 v31 fun v32=>
 K v32)) w)) w0_l_11)) w) w) w) w
theorem d6h (h:f0o a0 a1 K w):a0a prog 197 #[a0,a1] K w:=
 cZ (fun _=>0) func197 h
end Go.Proofs
namespace Go.Proofs
abbrev c4k:String:=(YtlmhhgemiknhdaaGreatDoor.Rows.proofTellsRow.laid.map (fun x=>x.1)).getD 2 default
open Go.Shelf
def Tryz.lays169_ren:Go.Shelf.Ren:=⟨fun | 169=>206 | n=>n,fun | 70=>211 | 9=>9 | 0=>0 | 72=>213 | 37=>202 | 127=>234 | 3=>3 | 5=>5 | n=>n,fun | n=>n⟩
theorem Tryz.lays169:Go.Proofs.Lays.n169 Tryz.prog Tryz.lays169_ren:={
 mixed:=by kernel_rfl
 f169:=Tryz.func206.trans (congrArg some (by kernel_rfl))
 t0:=Tryz.underlying0
 a0:=Tryz.isAgg0
 z0:=Tryz.sizeOf0
 v0:=Tryz.zeroValue0
 t3:=Tryz.underlying3
 a3:=Tryz.isAgg3
 z3:=Tryz.sizeOf3
 v3:=Tryz.zeroValue3
 t9:=Tryz.underlying9
 a9:=Tryz.isAgg9
 z9:=Tryz.sizeOf9
 v9:=Tryz.zeroValue9
 t37:=Tryz.underlying202
 a37:=Tryz.isAgg202
 z37:=Tryz.sizeOf202
 v37:=Tryz.zeroValue202
 t70:=Tryz.underlying211
 a70:=Tryz.isAgg211
 z70:=Tryz.sizeOf211
 v70:=Tryz.zeroValue211
 t72:=Tryz.underlying213
 a72:=Tryz.isAgg213
 z72:=Tryz.sizeOf213
 v72:=Tryz.zeroValue213
 t127:=Tryz.underlying234
 a127:=Tryz.isAgg234
 z127:=Tryz.sizeOf234
 v127:=Tryz.zeroValue234 }
theorem Tryz.Builder_Extra_169:Builder.Extra Tryz.prog Tryz.lays169_ren:={
 sizeBuilder:=by kernel_rfl
 liesBuilder:=by kernel_rfl
 t5:=Tryz.underlying5
 a5:=Tryz.isAgg5
 z5:=Tryz.sizeOf5
 v5:=Tryz.zeroValue5
 infoByte:=by kernel_rfl
 cellsByte:=by kernel_rfl
 sizeByte:=by kernel_rfl
 neB5:=by decide }
open Go.RowKit in
theorem Tryz.Builder_String_any (B b:Nat) (l:List UInt8) (w:World) (h:Lib.IsBuilder 213 5 B b (Lib.byteCells l) w) (hBw:B ≤ w.heap.size) :
  Calls Tryz.prog 206 #[.pointer (some ⟨b,0,none⟩)] w fun e w'=>e = .returned (.string ⟨l.toArray⟩) ∧ Below B w w':=Any.Builder_String_any Tryz.lays169 Tryz.Builder_Extra_169 B b l w h hBw
def Tryz.laysM171_ren:Go.Shelf.Ren:=⟨fun | 171=>196 | 243=>215 | 246=>231 | 283=>241 | 284=>242 | 285=>243 | 286=>244 | 129=>236 | 317=>252 | 318=>253 | 319=>254 | 320=>255 | 337=>259 | 338=>220 | n=>n,fun | 3=>3 | 9=>9 | 2=>2 | 4=>4 | 171=>248 | 0=>0 | 53=>150 | 37=>202 | 5=>5 | 173=>250 | 212=>261 | 51=>223 | 20=>20 | 213=>262 | 46=>191 | 232=>275 | 233=>244 | n=>n,fun | 17=>3 | 18=>7 | 19=>2 | n=>n⟩
theorem Tryz.laysM171:Go.Proofs.LaysM.n171 Tryz.prog Tryz.laysM171_ren:={
 mixed:=by kernel_rfl
 f129:=Tryz.func236.trans (congrArg some (by kernel_rfl))
 f171:=Tryz.func196.trans (congrArg some (by kernel_rfl))
 f243:=Tryz.func215.trans (congrArg some (by kernel_rfl))
 f246:=Tryz.func231.trans (congrArg some (by kernel_rfl))
 f283:=Tryz.func241.trans (congrArg some (by kernel_rfl))
 f284:=Tryz.func242.trans (congrArg some (by kernel_rfl))
 f285:=Tryz.func243.trans (congrArg some (by kernel_rfl))
 f286:=Tryz.func244.trans (congrArg some (by kernel_rfl))
 f317:=Tryz.func252.trans (congrArg some (by kernel_rfl))
 f318:=Tryz.func253.trans (congrArg some (by kernel_rfl))
 f319:=Tryz.func254.trans (congrArg some (by kernel_rfl))
 f320:=Tryz.func255.trans (congrArg some (by kernel_rfl))
 f337:=Tryz.func259.trans (congrArg some (by kernel_rfl))
 f338:=Tryz.func220.trans (congrArg some (by kernel_rfl))
 t0:=Tryz.underlying0
 a0:=Tryz.isAgg0
 z0:=Tryz.sizeOf0
 v0:=Tryz.zeroValue0
 t2:=Tryz.underlying2
 a2:=Tryz.isAgg2
 z2:=Tryz.sizeOf2
 v2:=Tryz.zeroValue2
 t3:=Tryz.underlying3
 a3:=Tryz.isAgg3
 z3:=Tryz.sizeOf3
 v3:=Tryz.zeroValue3
 t4:=Tryz.underlying4
 a4:=Tryz.isAgg4
 z4:=Tryz.sizeOf4
 v4:=Tryz.zeroValue4
 t5:=Tryz.underlying5
 a5:=Tryz.isAgg5
 z5:=Tryz.sizeOf5
 v5:=Tryz.zeroValue5
 t9:=Tryz.underlying9
 a9:=Tryz.isAgg9
 z9:=Tryz.sizeOf9
 v9:=Tryz.zeroValue9
 t20:=Tryz.underlying20
 a20:=Tryz.isAgg20
 z20:=Tryz.sizeOf20
 v20:=Tryz.zeroValue20
 t37:=Tryz.underlying202
 a37:=Tryz.isAgg202
 z37:=Tryz.sizeOf202
 v37:=Tryz.zeroValue202
 t46:=Tryz.underlying191
 a46:=Tryz.isAgg191
 z46:=Tryz.sizeOf191
 v46:=Tryz.zeroValue191
 t51:=Tryz.underlying223
 a51:=Tryz.isAgg223
 z51:=Tryz.sizeOf223
 v51:=Tryz.zeroValue223
 t53:=Tryz.underlying150
 a53:=Tryz.isAgg150
 z53:=Tryz.sizeOf150
 v53:=Tryz.zeroValue150
 t171:=Tryz.underlying248
 a171:=Tryz.isAgg248
 z171:=Tryz.sizeOf248
 v171:=Tryz.zeroValue248
 t173:=Tryz.underlying250
 a173:=Tryz.isAgg250
 z173:=Tryz.sizeOf250
 v173:=Tryz.zeroValue250
 t212:=Tryz.underlying261
 a212:=Tryz.isAgg261
 z212:=Tryz.sizeOf261
 v212:=Tryz.zeroValue261
 t213:=Tryz.underlying262
 a213:=Tryz.isAgg262
 z213:=Tryz.sizeOf262
 t232:=Tryz.underlying275
 a232:=Tryz.isAgg275
 z232:=Tryz.sizeOf275
 v232:=Tryz.zeroValue275
 t233:=Tryz.underlying244
 a233:=Tryz.isAgg244
 z233:=Tryz.sizeOf244
 v233:=Tryz.zeroValue244
 g17:=by kernel_rfl
 g18:=by kernel_rfl
 g19:=by kernel_rfl
 i0:=by kernel_rfl
 i2:=by kernel_rfl
 i3:=by kernel_rfl
 i4:=by kernel_rfl
 i5:=by kernel_rfl
 i9:=by kernel_rfl
 i20:=by kernel_rfl
 i37:=by kernel_rfl
 i46:=by kernel_rfl
 i51:=by kernel_rfl
 i53:=by kernel_rfl
 i171:=by kernel_rfl
 i173:=by kernel_rfl
 i212:=by kernel_rfl
 i232:=by kernel_rfl
 i233:=by kernel_rfl
 m17:=by kernel_rfl
 m18:=by kernel_rfl
 m19:=by kernel_rfl }
open Go.RowKit Go.Sort Go.Lib in
theorem Tryz.strconv_Itoa (n:Int) (h0:-9223372036854775808 ≤ n) (h1:n ≤ 9223372036854775807) (w:World) (htab:Lib.TabIs Tryz.prog w c4k .u64 Lib.pow10Tab) :
  Calls Tryz.prog 196 #[.int .i64 n] w fun e w'=>e = .returned (.string ⟨(Lib.itoa n).toArray⟩) ∧ ∃ k os,w' = grow (w.drewN k) os:=Any.strconv_Itoa Tryz.laysM171 n h0 h1 w htab
end Go.Proofs
namespace CodeSpec
open Go.Lib
abbrev a5e:=List UInt8
def InR (n:Int):Prop:=-9223372036854775808 ≤ n ∧ n ≤ 9223372036854775807
def a1b (n:Int):a5e:=itoa n ++ [59]
def a2t (s:a5e):a5e:=itoa s.length ++ 58 :: (s ++ [44])
def a4e (l:List a5e):a5e:=itoa l.length ++ 91 :: (l.flatten ++ [93])
def a9l (l:List Int):a5e:=a4e (l.map a1b)
theorem c7i (d:Nat) (h:d < 10):(UInt8.ofNat (48 + d)).toNat = 48 + d:=by
 rw [UInt8.toNat_ofNat']; omega
theorem a3v (u:Nat) (k:Nat) (hk:1 ≤ k) (h:u < 10 ^ k):(decDigits u).length ≤ k:=by
 induction k generalizing u with
 | zero=>omega
 | succ k ih=>
  rw [decDigits]
  split
  ·simp
  ·rename_i h10
   have hk1:1 ≤ k:=by
    rcases Nat.eq_zero_or_pos k with rfl | h0
    ·simp at h; omega
    ·exact h0
   have:=ih (u / 10) hk1 (by rw [Nat.pow_succ] at h; omega)
   simp only [List.length_append,List.length_singleton]
   omega
theorem b0g (n:Int) (h:InR n):(itoa n).length ≤ 20:=by
 obtain ⟨h1,h2⟩:=h
 unfold itoa
 split
 ·have:=a3v n.natAbs 19 (by omega) (by omega)
  simp; omega
 ·have:=a3v n.toNat 19 (by omega) (by omega)
  omega
end CodeSpec
namespace Go.Proofs.Cd
open Go Go.Sh Go.RowKit Go.Lib CodeSpec
attribute [go_sem] c4j e2o
theorem d3f {K:VK} {w:World} {a b:Value} (h:K a w) (e:b = a):K b w:=by rw [e]; exact h
theorem b3w {f:FuncId} {args:Array Value} {w:World} {v:Value} {Q:WK} {K:VK} (h:Calls Tryz.prog f args w fun e w'=>e = .returned v ∧ Q w') (k:∀ w',Q w' → K v w'):a0a Tryz.prog f args K w:=
 Calls.mono h (fun _ w' ⟨he,hq⟩=>⟨v,he,k w' hq⟩)
structure Laid (w:World):Prop where
 tab:TabIs Tryz.prog w c4k .u64 pow10Tab
 size:8 ≤ w.heap.size
theorem gTab:Tryz.prog.globalNamed c4k = some 3:=by kernel_rfl
theorem Laid.keep {w w':World} (h:Laid w) (hb:∀ k,k < 8 → w'.heap[k]? = w.heap[k]?) (hs:w.heap.size ≤ w'.heap.size):Laid w':=by
 refine ⟨?_,Nat.le_trans h.size hs⟩
 have h1:=h.tab
 unfold TabIs World.var? at h1 ⊢
 rw [gTab] at h1 ⊢
 simp only [Option.bind_some] at h1 ⊢
 rw [hb _ (by omega)]
 exact h1
theorem Laid.below {w w':World} (h:Laid w) {B:Nat} (hb:Below B w w') (hB:8 ≤ B):Laid w':=h.keep (fun k hk=>hb.block k (by omega)) hb.size
theorem b9v {w w':World} (h:Bw w w') (b:Option Nat):w.grownBy w' b:=⟨h.os,h.tape,h.output,h.size,fun k hk _=>h.block k hk⟩
theorem a5q {B:Nat} {w w':World} {row:Option Nat} (h:w.grownBy w' row) (hB:B ≤ w.heap.size) (hr:∀ k,row = some k → B ≤ k):Below B w w':=
 (Below.refl B w).grown h hB hr
theorem c9i (n:Int) (hn:InR n) {K:VK} {w:World} (hl:Laid w) (k:∀ w',Bw w w' → K (.string ⟨(itoa n).toArray⟩) w'):a0a Tryz.prog 196 #[.int .i64 n] K w:=by
 refine b3w (Tryz.strconv_Itoa n hn.1 hn.2 w hl.tab) ?_
 rintro w' ⟨d,os,rfl⟩
 exact k _ (below_grow _ _ (rL) _ _)
theorem f7i:Tryz.prog.info? 213 = some Tryz.t213:=by kernel_rfl
theorem g5y:Tryz.t213.size = 2:=by kernel_rfl
theorem g5z (b:Nat):liesAt Tryz.prog Tryz.prog.depth 213 (2 / Tryz.prog.cellsOf 213) (⟨b,0,none⟩:Addr).off 213 1 = true:=by kernel_rfl
theorem g6a (x:Value) (w:World):(callFunc 235 #[x]).run Tryz.prog w = .ok (.value x) w:=by kernel_rfl
theorem g6b {x:Value} {K:VK} {w:World} (k:K x w):g3r Tryz.prog 235 #[x] K w:=by
 unfold g3r opM
 rw [g6a]
 exact k
theorem c4l (B b:Nat) (bs:List Value) (w:World) (h:BuilderAt 213 5 B b (.pointer none) bs w) {K:VK}
  (k:K (.tuple #[]) (w.setCell ⟨b,0,none⟩ (.pointer (some ⟨b,0,none⟩)))):a0a Tryz.prog 221 #[.pointer (some ⟨b,0,none⟩)] K w:=by
 apply c6b
 unfold d8g
 have hc:=h.cell0
 have hf:=h.frozen0
 have hv1:(convert 211 245 (.pointer (some ⟨b,0,none⟩))).run Tryz.prog w = .ok (.pointer (some ⟨b,0,none⟩)) w:=
  run_to_unsafe (P:=Tryz.prog) (w:=w) (a:=⟨b,0,none⟩) Tryz.underlying211 Tryz.underlying245 (t:=213) (j:=Tryz.t213) f7i (by rw [g5y]; omega) h.shape (by show (0:Nat) < 2; omega)
 have hv2:(convert 245 211 (.pointer (some ⟨b,0,none⟩))).run Tryz.prog w = .ok (.pointer (some ⟨b,0,none⟩)) w:=
  run_from_unsafe (P:=Tryz.prog) (w:=w) (a:=⟨b,0,none⟩) Tryz.underlying245 Tryz.underlying211 (u:=213) (j:=Tryz.t213) f7i h.shape (g5z b)
 repeat (any_goals (first
 | (with_reducible refine g6b ?_)
 | (with_reducible refine yL ?_)
 | ((with_reducible refine oG fun X Y=>?_); simp [go_sem,e2h,eqGuard,hc,hf,hv1,hv2]; apply Y; clear Y X)))
 exact k
theorem b9w (B b:Nat) (bs:List Value) (w:World) (h:BuilderAt 213 5 B b (.pointer (some ⟨b,0,none⟩)) bs w) {K:VK}
  (k:K (.tuple #[]) w):a0a Tryz.prog 221 #[.pointer (some ⟨b,0,none⟩)] K w:=by
 apply c6b
 unfold d8g
 have hc:=h.cell0
 have hf:=h.frozen0
 have hn:=run_neq_ptr_same (P:=Tryz.prog) (w:=w) (tp:=211) (te:=213) (j:=Tryz.t213) (a:=⟨b,0,none⟩) Tryz.underlying211 f7i
 repeat (any_goals (first
 | (with_reducible refine yM ?_)
 | ((with_reducible refine oG fun X Y=>?_); simp [go_sem,e2h,g2t,eqGuard,hc,hf,hn]; apply Y; clear Y X)))
 exact k
theorem c7e (B b:Nat) (bs:List Value) (w:World) (h:IsBuilder 213 5 B b bs w) {K:VK}
  (k:∀ w',BuilderAt 213 5 B b (.pointer (some ⟨b,0,none⟩)) bs w' → w.grownBy w' (some b) → w'.heap.size = w.heap.size → K (.tuple #[]) w'):a0a Tryz.prog 221 #[.pointer (some ⟨b,0,none⟩)] K w:=by
 rcases h with h | h
 ·refine c4l B b bs w h (k _ (h.used _) ⟨rfl,rfl,rfl,by simp [World.setCell],fun i _ hi=>Below.heap_setCell _ _ _ _ (fun e=>hi (by simp [e]))⟩ (by simp [World.setCell]))
 ·exact b9w B b bs w h (k _ h ⟨rfl,rfl,rfl,rL,fun _ _ _=>rfl⟩ rfl)
theorem c4m {w:World} {B:Nat} {e:TypeId} {sz:Nat} {v:Value} {n:Nat} {xs:List Value} (h:w.ownsRow B e sz v n xs):∃ a m c,v = .slice a m c:=by
 rcases h.2 with ⟨h,_⟩ | ⟨g,cap,cur,h,_⟩
 ·exact ⟨_,_,_,h⟩
 ·exact ⟨_,_,_,h⟩
theorem b6a (B b:Nat) (l:List UInt8) (w:World) (h:IsBuilder 213 5 B b (Lib.byteCells l) w) (hBw:B ≤ w.heap.size) {K:VK} (k:∀ w',Below B w w' → K (.string ⟨l.toArray⟩) w'):a0a Tryz.prog 206 #[.pointer (some ⟨b,0,none⟩)] K w:=
 b3w (Tryz.Builder_String_any B b l w h hBw) k
theorem b1k (B b:Nat) (l s:List UInt8) (w:World) (h:IsBuilder 213 5 B b (Lib.byteCells l) w) (hlen:l.length + s.length ≤ 140737488355328) (hBw:B ≤ w.heap.size) {K:VK}
  (k:∀ w',IsBuilder 213 5 B b (Lib.byteCells (l ++ s)) w' → Below B w w' → K (.tuple #[.int .i64 s.length,.nilIface]) w'):a0a Tryz.prog 205 #[.pointer (some ⟨b,0,none⟩),.string ⟨s.toArray⟩] K w:=by
 apply d8h
 unfold f2n
 refine c7e B b _ w h ?_
 intro w1 h1 hg1 hs1
 obtain ⟨hB,v,hb,hown,hne⟩:=h1
 have hc1:w1.cell? ⟨b,1,none⟩ = some v:=by simp [World.cell?,hb]
 have hbl:Below B w w1:=a5q hg1 hBw (fun k hk=>by cases hk; exact hB)
 have hbl5:(Lib.byteCells l).length = l.length:=by simp [Lib.byteCells]
 refine Xa @hc1 ?_
 obtain ⟨v',w2,hrun,ho,hg,_⟩:=run_append_own_string (P:=Tryz.prog) w1 B 202 9 202 5 Tryz.t5 Tryz.underlying202 Tryz.underlying9 (by kernel_rfl) (by kernel_rfl) (by kernel_rfl) (by kernel_rfl) v (Lib.byteCells l).length (Lib.byteCells l) hown ⟨s.toArray⟩ (by unfold maxLen; rw [c4j]; omega) (by rw [c4j]; omega) (by omega)
 rw [a2e (S:=Builtin.append_ #[202,9] 202 #[v,.string ⟨s.toArray⟩]) (by simp [xop,execOp,a1h,evE,resolve,invoke,builtin]),hrun,a6w]
 have hb2:w2.heap[b]? = some (.cells #[.pointer (some ⟨b,0,none⟩),v] 213 (0,0)):=by
  rw [hg.block b (by have:=(Array.getElem?_eq_some_iff.1 hb).1; exact this) (fun e=>hne e.symm)]
  exact hb
 have hc2:w2.cell? ⟨b,1,none⟩ = some v:=by simp [World.cell?,hb2]
 have hf2:w2.frozen? ⟨b,1,none⟩ = false:=by simp [World.frozen?,hb2]
 have ho':w2.ownsRow B 5 1 v' (Lib.byteCells (l ++ s)).length (Lib.byteCells (l ++ s)):=by
  have e:Lib.byteCells l ++ strCells ⟨s.toArray⟩ = Lib.byteCells (l ++ s):=by simp [Lib.byteCells,strCells]
  have e2:(Lib.byteCells l).length + (⟨s.toArray⟩:ByteArray).size = (Lib.byteCells (l ++ s)).length:=by rw [c4j]; simp [Lib.byteCells]
  rw [e,e2] at ho
  exact ho
 have hput:=BuilderAt.put (p:=.pointer (some ⟨b,0,none⟩)) hB hb2 ho' (by decide)
 have hbl2:Below B w w2:=hbl.trans (a5q hg (by omega) (fun k hk=>(hown.lt k hk).1))
 obtain ⟨av,nv,cv,rfl⟩:=c4m ho
 refine Xa (An2 @hc2 @hf2) ?_
 exact k _ (.inr hput) (hbl2.setCell hB _)
end Go.Proofs.Cd
namespace Go.Proofs.Cd
open Go Go.Sh Go.RowKit Go.Lib CodeSpec
def intV (n:Int):Value:=.int .i64 n
def RowOf {α:Type} (mk:α → Value) (w:World) (v:Value) (l:List α):Prop:=
 ∃ ad c,v = .slice ad l.length c ∧ (l = [] ∨ ∃ b o,ad = some ⟨b,o,none⟩ ∧ b < w.heap.size ∧ ∀ (i:Nat) (h:i < l.length),w.cell? ⟨b,o + i,none⟩ = some (mk l[i]))
theorem d1g (b o k:Nat):(⟨b,o,none⟩:Addr).add k = ⟨b,o + k,none⟩:=by
 unfold Addr.add
 split
 ·rename_i h0; rw [h0]; simp
 ·rfl
theorem g3e {b o n c k:Nat} (hk:k < n) (w:World):(Instr.indexAt 24 (.slice (some ⟨b,o,none⟩) n c) (.int .i64 k)).run Tryz.prog w = .ok (.pointer (some ⟨b,o + k,none⟩)) w:=by
 rw [run_indexAt_slice (h:=by kernel_rfl),if_pos (by omega)]
 have hs:(sizeOf (Tryz.prog.elem 24)).run Tryz.prog w = .ok 1 w:=by kernel_rfl
 rw [hs]
 simp only [Result.andThen,Int.toNat_natCast,d1g,Nat.mul_one]
theorem encInt_len (n:Int) (h:InR n):(a1b n).length ≤ 21:=by
 have:=b0g n h
 simp [a1b]; omega
theorem f7j (n:Int) (hn:InR n) {K:VK} {w:World} (hl:Laid w) (k:∀ w',Bw w w' → K (.string ⟨(a1b n).toArray⟩) w'):a0a Tryz.prog 175 #[.int .i64 n] K w:=by
 apply d8i
 unfold f2o
 refine c9i n hn hl ?_
 intro w1 hb
 have:=b0g n hn
 refine Xa0 ?_
 exact d3f (k _ hb) (by simp [a1b])
theorem encText_len (s:List UInt8) (hs:(s.length:Int) ≤ 9223372036854775807):(a2t s).length ≤ s.length + 22:=by
 have:=b0g s.length ⟨by omega,hs⟩
 simp [a2t]; omega
theorem a6x {α:Type} (enc:α → List UInt8) (xs:List α) (k:Nat) (h:k < xs.length):((xs.take (k + 1)).map enc).flatten = ((xs.take k).map enc).flatten ++ enc xs[k]:=by
 rw [List.take_add_one,gE h]
 simp only [Option.toList_some,List.map_append,List.map_cons,List.map_nil,List.flatten_append,List.flatten_cons,List.flatten_nil,List.append_nil]
theorem c4n {α:Type} (enc:α → List UInt8) (xs:List α) (k:Nat):((xs.take k).map enc).flatten.length ≤ (xs.map enc).flatten.length:=by
 conv=>rhs; rw [← List.take_append_drop k xs]
 rw [List.map_append,List.flatten_append,List.length_append]
 omega
theorem IsBuilder.below {T e:TypeId} {B b:Nat} {bs:List Value} {w w':World} (h:IsBuilder T e B b bs w) (hb:Bw w w'):IsBuilder T e B b bs w':=by
 have key:∀ p,BuilderAt T e B b p bs w → BuilderAt T e B b p bs w':=by
  rintro p ⟨hB,v,hh,hown,hne⟩
  have hlt:=(Array.getElem?_eq_some_iff.1 hh).1
  refine ⟨hB,v,by rw [hb.block _ hlt]; exact hh,?_,hne⟩
  exact hown.kept (b9v hb none) (by
   rcases hown.2 with ⟨rfl,_⟩ | ⟨g,cap,cur,rfl,_⟩
   ·left; rfl
   ·right; simp [Value.ownBlock])
 exact h.imp (key _) (key _)
theorem c4o (xs:List (Int)) (v:Value) {K:VK} {w:World} (hl:Laid w) (hrow:RowOf intV w v xs) (hx:∀ x ∈ xs,InR x) (hlen:(a4e (xs.map a1b)).length < 2^40)
  (k:∀ w',Bw w w' → K (.string ⟨(a4e (xs.map a1b)).toArray⟩) w'):a0a Tryz.prog 174 #[v,.func (.func 175) #[] #[]] K w:=by
 apply d8j
 unfold f2p
 have hsz:(a4e (xs.map a1b)).length = (itoa (xs.length:Nat)).length + 1 + ((xs.map a1b).flatten).length + 1:=by simp [a4e]; omega
 have hxl:xs.length ≤ (xs.map a1b).flatten.length:=by
  rw [List.length_flatten]
  clear hrow hlen hsz k
  induction xs with
  | nil=>simp
  | cons x xs ih=>
   have:=ih (fun y hy=>hx y (List.mem_cons_of_mem _ hy))
   have h1:1 ≤ (a1b x).length:=by simp [a1b]; try omega
   simp only [List.length_cons,List.map_cons,List.sum_cons]
   omega
 have hin:InR (xs.length:Nat):=⟨by omega,by omega⟩
 have hil:=b0g _ hin
 obtain ⟨ad,c,rfl,hcell⟩:=hrow
 have hl0:Laid (w.alloc (.cells #[.pointer none,.slice none 0 0] 213)):=hl.below ((bR).alloc (rL) _) hl.size
 refine Xa0 ?_
 refine c9i _ hin hl0 (fun w1 hb1=>?_)
 have hb1':Bw w w1:=((bR).alloc (rL) _).trans (hb1.mono (by simp))
 have hB1:=IsBuilder.below (fresh_isBuilder 213 5 w) hb1
 have hz1:=hb1'.size
 refine Xa0 ?_
 refine b1k w.heap.size _ [] _ _ hB1 (by simp; omega) (by omega) ?_
 intro w2 hB2 hb2
 have hb2':=hb1'.trans hb2
 refine Xa0 ?_
 refine ⟨fun l w'=>∃ (x:Value) (k:Nat),l = [x,.int .i64 k] ∧ k ≤ xs.length ∧ IsBuilder 213 5 w.heap.size w.heap.size (Lib.byteCells (itoa (xs.length:Nat) ++ 91 :: ((xs.take k).map a1b).flatten)) w' ∧ Bw w w',fun l _=>xs.length - (match l with | [_,.int _ n]=>n.toNat | _=>0),⟨_,0,rfl,by omega,by simpa using hB2,hb2'⟩,?_⟩
 rintro _ _ w3 ⟨x,j,rfl,hj,hB3,hb3⟩
 have hz3:=hb3.size
 simp only [List.getD_cons_zero,List.getD_cons_succ]
 have hfl:=c4n a1b xs j
 by_cases hlt:j < xs.length
 ·rcases hcell with rfl | ⟨b,o,rfl,hbw,hcells⟩
  ·simp at hlt
  have hc:=hcells j hlt
  rw [← hb3.cell hbw] at hc
  simp only [intV] at hc
  have hix:=g3e (b:=b) (o:=o) (c:=c) hlt w3
  have hl3:Laid w3:=hl.below hb3 hl.size
  have hP:=hx xs[j] (List.getElem_mem hlt)
  have hfl1:=c4n a1b xs (j + 1)
  rw [a6x _ _ _ hlt,List.length_append] at hfl1
  repeat (any_goals (first
  | (rw [kI,a2x,hix,c4h])
  | (with_reducible refine yN ?_)
  | ((with_reducible refine oG fun X Y=>?_); simp [go_sem,hc]; apply Y; clear Y X)))
  refine b0c (by kernel_rfl) ?_
  refine f7j _ hP hl3 ?_
  intro w4 hb4
  have hz4:=hb4.size
  have hB4:IsBuilder 213 5 w.heap.size w.heap.size (Lib.byteCells (itoa (xs.length:Nat) ++ 91 :: ((xs.take j).map a1b).flatten)) w4:=IsBuilder.below hB3 hb4
  refine b1k w.heap.size _ _ _ _ hB4 (by simp only [List.length_append,List.length_cons]; omega) (by omega) ?_
  intro w5 hB5 hb5
  refine Xa0 ?_
  refine ⟨⟨_,j + 1,rfl,hlt,?_,(hb3.trans (hb4.mono hz3)).trans hb5⟩,by simp; omega⟩
  rw [a6x _ _ _ hlt]
  simpa using hB5
 ·obtain rfl:j = xs.length:=by omega
  rw [List.take_length] at hB3 hfl
  obtain ⟨F,hF⟩:∃ F,F = (xs.map a1b).flatten:=⟨_,rfl⟩
  rw [← hF] at hB3 hfl hsz
  refine Xa0 ?_
  refine b6a _ _ _ _ hB3 (by omega) ?_
  intro w4 hb4
  refine Xa0 ?_
  exact d3f (k _ (hb3.trans hb4)) (by simp [a4e,hF])
theorem pNums_ok (xs:List (Int)) (v:Value) {K:VK} {w:World} (hl:Laid w) (hrow:RowOf intV w v xs) (hx:∀ x ∈ xs,InR x) (hlen:(a4e (xs.map a1b)).length < 2^40)
  (k:∀ w',Bw w w' → K (.string ⟨(a4e (xs.map a1b)).toArray⟩) w'):a0a Tryz.prog 114 #[v] K w:=by
 apply d8k
 unfold f2q
 refine Xa0 ?_
 exact c4o xs v hl hrow hx hlen k
end Go.Proofs.Cd
namespace Go.Proofs.Cd
open Go Go.Sh Go.RowKit Go.Lib CodeSpec
end Go.Proofs.Cd
namespace Go.Proofs.Cd
open Go Go.Sh Go.RowKit Go.Lib CodeSpec
end Go.Proofs.Cd
namespace Go.Proofs.Cd
open Go Go.Sh Go.RowKit Go.Lib CodeSpec
end Go.Proofs.Cd
namespace FdSpec
def okN (n:Int):Prop:=1 ≤ n ∧ n < 2305843009213693952
instance (n:Int):Decidable (okN n):=inferInstanceAs (Decidable (_ ∧ _))
def a6i (n a b:Int):Int:=if okN n then (a + b) % n else 0
def a3g (n a b:Int):Int:=if okN n then (a - b) % n else 0
def a2n (n a b:Int):Int:=if okN n then a * b % n else 0
def pw (n a:Int) (b:Nat):Int:=a ^ b % n
def euc (n:Int):Nat → Int → Int → Int → Int → Int × Int
 | 0,r,_,x,_=>(r,x)
 | k + 1,r,s,x,y=>if s = 0 then (r,x) else euc n k s (r % s) y (a3g n x (a2n n (r / s) y))
def a4d (n r s x y:Int):Int × Int:=euc n (s.toNat + 1) r s x y
def b4g (n a:Int):Option Int:=if okN n then (if (a4d n n (a % n) 0 1).1 = 1 then some ((a4d n n (a % n) 0 1).2 % n) else none) else none
def e2u (n a b:Int):Int:=
 if okN n then (if 0 ≤ b then pw n a b.toNat else match b4g n a with | some x=>pw n x (-b).toNat | none=>0) else 0
theorem c9x (n:Int) (k:Nat) (r x y:Int):euc n k r 0 x y = (r,x):=by
 cases k <;> simp [euc]
theorem e3v (n:Int) (k:Nat) (r s x y:Int) (hs:0 ≤ s) (hk:s.toNat + 1 ≤ k):euc n k r s x y = a4d n r s x y:=by
 unfold a4d
 induction k using Nat.strongRecOn generalizing r s x y with
 | _ k ih=>
  cases k with
  | zero=>omega
  | succ k=>
   by_cases h0:s = 0
   ·subst h0; simp [euc]
   ·have h1:=Int.emod_nonneg r h0
    have h2:=Int.emod_lt_of_pos r (b:=s) (by omega)
    have e1:euc n (k + 1) r s x y = euc n k s (r % s) y (a3g n x (a2n n (r / s) y)):=by
     rw [euc,if_neg h0]
    have e2:euc n (s.toNat + 1) r s x y = euc n s.toNat s (r % s) y (a3g n x (a2n n (r / s) y)):=by
     rw [euc,if_neg h0]
    rw [e1,e2]
    have h3:(r % s).toNat + 1 ≤ s.toNat:=by omega
    rw [ih k (by omega) s (r % s) _ _ h1 (by omega)]
    by_cases hks:s.toNat = k
    ·rw [hks,ih k (by omega) s (r % s) _ _ h1 (by omega)]
    ·rw [ih s.toNat (by omega) s (r % s) _ _ h1 h3]
theorem c2z (n r s x y:Int) (hs:0 < s):a4d n r s x y = a4d n s (r % s) y (a3g n x (a2n n (r / s) y)):=by
 have h1:=Int.emod_nonneg r (b:=s) (by omega)
 have h2:=Int.emod_lt_of_pos r (b:=s) hs
 rw [← e3v n s.toNat s (r % s) _ _ h1 (by omega)]
 unfold a4d
 rw [euc,if_neg (by omega)]
def tz:Nat → Nat → Nat
 | 0,_=>0
 | k + 1,m=>if m % 2 = 0 then tz k (m / 2) + 1 else 0
def d1y (n:Int):Nat → Int → Bool
 | 0,_=>false
 | k + 1,x=>if x = n - 1 then true else d1y n k (x * x % n)
def b1c (n b:Int):Bool:=
 let k:=tz 64 (n - 1).toNat
 let x:=pw n b ((n - 1).toNat / 2 ^ k)
 if x = 1 then true else d1y n k x
def smallP:List Int:=[2,3,5,7,11,13,17,19,23,29,31,37]
def a3b (n:Int):Bool:=
 if n < 2 ∨ 2305843009213693952 ≤ n then false
 else match smallP.find? (fun p=>decide (n % p = 0)) with
  | some p=>decide (n = p)
  | none=>smallP.all (fun p=>b1c n p)
structure Grp where
 P:Int
 Q:Int
 G:Int
deriving DecidableEq
def a2a (g:Grp):Bool:=
 if g.Q < 5 ∨ 1152921504606846976 ≤ g.Q ∨ g.P ≠ 2 * g.Q + 1 ∨ g.G < 2 ∨ g.P ≤ g.G then false
 else a3b g.Q && a3b g.P && decide (pw g.P g.G g.Q.toNat = 1)
def a8l (g:Grp) (x:Int):Bool:=decide (1 ≤ x) && decide (x < g.P) && a2a g && decide (pw g.P x g.Q.toNat = 1)
def a5u (g:Grp) (x k:Int):Int:=if okN g.P ∧ okN g.Q then pw g.P x (k % g.Q).toNat else 0
def b1d (g:Grp) (a b:Int):Int:=if okN g.Q then a2n g.P a b else 0
def b9q (g:Grp) (a b:Int):Int:=b1d g a (e2u g.P b (-1))
def b4h (g:Grp):Int → List (Int × Int) → Int
 | out,[]=>out
 | out,(b,e) :: l=>b4h g (a2n g.P out (a5u g b e)) l
def b1n (g:Grp) (bases exps:List Int):Int × Bool:=
 if okN g.P ∧ okN g.Q ∧ bases.length = exps.length then (b4h g (1 % g.P) (bases.zip exps),true) else (0,false)
end FdSpec
namespace FdSpec
theorem c2y (a n:Int) (k:Nat):(a % n) ^ k % n = a ^ k % n:=by
 induction k with
 | zero=>rw [Int.pow_zero,Int.pow_zero]
 | succ k ih=>rw [Int.pow_succ,Int.pow_succ,Int.mul_emod,ih,Int.emod_emod_of_dvd a (Int.dvd_refl n),← Int.mul_emod]
theorem c9w (a:Int) (b:Nat):a ^ b = (a * a) ^ (b / 2) * a ^ (b % 2):=by
 have h1:b = 2 * (b / 2) + b % 2:=(Nat.div_add_mod b 2).symm
 have h2:∀ k,a ^ (2 * k) = (a * a) ^ k:=by
  intro k
  induction k with
  | zero=>rw [Nat.mul_zero,Int.pow_zero,Int.pow_zero]
  | succ k ih=>rw [Nat.mul_succ,Int.pow_succ,Int.pow_succ,Int.pow_succ,ih,Int.mul_assoc]
 conv=>lhs; rw [h1]
 rw [Int.pow_add,h2]
theorem d4l (n a out:Int) (b:Nat) (hb:b % 2 = 0):out * (a * a % n) ^ (b / 2) % n = out * a ^ b % n:=by
 rw [c9w a b,hb,Int.pow_zero,Int.mul_one,Int.mul_emod,c2y,← Int.mul_emod]
theorem e9g (n a out:Int) (b:Nat) (hb:b % 2 = 1):out * a % n * (a * a % n) ^ (b / 2) % n = out * a ^ b % n:=by
 have e:a ^ (1:Nat) = a:=by rw [show (1:Nat) = 0 + 1 from rfl,Int.pow_succ,Int.pow_zero,Int.one_mul]
 rw [c9w a b,hb,e,Int.mul_emod,Int.emod_emod_of_dvd _ (Int.dvd_refl n),c2y,← Int.mul_emod]
 congr 1
 rw [Int.mul_comm ((a * a) ^ (b / 2)) a,← Int.mul_assoc]
theorem c7x (n a:Int) (b:Nat):pw n (a % n) b = pw n a b:=c2y a n b
theorem a9p (n a:Int) (b:Nat) (hn:0 < n):0 ≤ pw n a b ∧ pw n a b < n:=⟨Int.emod_nonneg _ (by omega),Int.emod_lt_of_pos _ hn⟩
theorem f8o (k m:Nat) (hm:0 < m) (h:m < 2 ^ k):tz k m < k ∧ ∃ j,m = 2 ^ tz k m * (2 * j + 1):=by
 induction k generalizing m with
 | zero=>omega
 | succ k ih=>
  unfold tz
  split
  ·rename_i h2
   obtain ⟨h3,j,h4⟩:=ih (m / 2) (by omega) (by rw [Nat.pow_succ] at h; omega)
   refine ⟨by omega,j,?_⟩
   have h5:m = 2 * (m / 2):=by omega
   rw [Nat.pow_succ,Nat.mul_comm (2 ^ _) 2,Nat.mul_assoc,← h4]
   exact h5
  ·exact ⟨by omega,m / 2,by rw [Nat.pow_zero]; omega⟩
theorem d4m (n a b:Int) (hn:okN n):(a % n + b % n) % n = a6i n a b:=by
 rw [a6i,if_pos hn,← Int.add_emod]
theorem d4n (n a b:Int) (hn:okN n):(a % n + n - b % n) % n = a3g n a b:=by
 rw [a3g,if_pos hn,Int.sub_emod,Int.add_emod,Int.emod_self,Int.add_zero,Int.emod_emod_of_dvd _ (Int.dvd_refl n),Int.emod_emod_of_dvd _ (Int.dvd_refl n),Int.emod_emod_of_dvd _ (Int.dvd_refl n),← Int.sub_emod]
theorem d4o (n a b:Int) (hn:okN n):a % n * (b % n) % n = a2n n a b:=by
 rw [a2n,if_pos hn,← Int.mul_emod]
theorem b0n (n a b:Int) (hn:okN n):0 ≤ a2n n a b ∧ a2n n a b < n:=by
 rw [a2n,if_pos hn]; exact ⟨Int.emod_nonneg _ (by have:=hn.1; omega),Int.emod_lt_of_pos _ (by have:=hn.1; omega)⟩
theorem b0o (n a b:Int) (hn:okN n):0 ≤ a3g n a b ∧ a3g n a b < n:=by
 rw [a3g,if_pos hn]; exact ⟨Int.emod_nonneg _ (by have:=hn.1; omega),Int.emod_lt_of_pos _ (by have:=hn.1; omega)⟩
theorem a7w (n a b:Int) (hn:okN n):0 ≤ a6i n a b ∧ a6i n a b < n:=by
 rw [a6i,if_pos hn]; exact ⟨Int.emod_nonneg _ (by have:=hn.1; omega),Int.emod_lt_of_pos _ (by have:=hn.1; omega)⟩
theorem c0f (n a:Int) (hn:0 < n):(if a.tmod n < 0 then a.tmod n + n else a.tmod n) = a % n:=by
 have h1:=Int.emod_nonneg a (b:=n) (by omega)
 have h2:=Int.emod_lt_of_pos a hn
 have h3:=Int.tmod_add_mul_tdiv a n
 have h4:=Int.emod_add_mul_ediv a n
 have h5:a.tmod n < n:=by have:=Int.tmod_lt_of_pos a hn; omega
 have h6:-n < a.tmod n:=by
  have:=Int.lt_tmod_of_pos a hn
  omega
 have h7:n ∣ a.tmod n - a % n:=by
  refine ⟨a / n - a.tdiv n,?_⟩
  rw [Int.mul_sub]; omega
 obtain ⟨k,hk⟩:=h7
 have hk2:k = 0 ∨ k = -1 ∨ 1 ≤ k ∨ k ≤ -2:=by omega
 rcases hk2 with rfl | rfl | hk2 | hk2
 ·simp at hk; split <;> omega
 ·rw [Int.mul_neg,Int.mul_one] at hk; split <;> omega
 ·have:=Int.mul_le_mul_of_nonneg_left hk2 (by omega:0 ≤ n); omega
 ·have:=Int.mul_le_mul_of_nonneg_left hk2 (by omega:0 ≤ n); omega
end FdSpec
namespace FdSpec
structure Digit (h l u d q r:Nat):Prop where
 sum:q * h + r = u
 up:u * 4294967296 + d < (q + 1) * (h * 4294967296 + l)
 le:q ≤ 4294967297
section
variable {h l u d q r:Nat}
theorem c7p (hh:2147483648 ≤ h) (hh2:h < 4294967296) (hl:l < 4294967296) (hd:d < 4294967296) (hu:u < h * 4294967296 + l):Digit h l u d (u / h) (u - u / h * h):=by
 have h1:u / h * h ≤ u:=Nat.div_mul_le_self u h
 have h2:u < (u / h + 1) * h:=by rw [Nat.add_mul,Nat.one_mul]; have:=Nat.mod_lt u (show h > 0 by omega); have:=Nat.div_add_mod u h; rw [Nat.mul_comm] at this; omega
 have h3:u / h < 4294967298:=by
  rw [Nat.div_lt_iff_lt_mul (by omega)]
  omega
 refine ⟨by omega,?_,by omega⟩
 have h4:(u + 1) * 4294967296 ≤ (u / h + 1) * h * 4294967296:=Nat.mul_le_mul_right _ h2
 have h5:(u / h + 1) * (h * 4294967296 + l) = (u / h + 1) * h * 4294967296 + (u / h + 1) * l:=by rw [Nat.mul_add,Nat.mul_assoc]
 rw [h5]
 omega
theorem c0a (D:Digit h l u d q r):(4294967296 * r + d < q * l) ↔ u * 4294967296 + d < q * (h * 4294967296 + l):=by
 have h5:q * (h * 4294967296 + l) = q * h * 4294967296 + q * l:=by rw [Nat.mul_add,Nat.mul_assoc]
 have:=D.sum
 rw [h5]
 generalize q * h = a at *
 generalize q * l = b at *
 omega
theorem d3w (hu:u < h * 4294967296 + l) (hd:d < 4294967296) (hq:4294967296 ≤ q):u * 4294967296 + d < q * (h * 4294967296 + l):=by
 have h1:4294967296 * (h * 4294967296 + l) ≤ q * (h * 4294967296 + l):=Nat.mul_le_mul_right _ hq
 have h2:(u + 1) * 4294967296 ≤ (h * 4294967296 + l) * 4294967296:=Nat.mul_le_mul_right _ hu
 omega
theorem c5c (D:Digit h l u d q r) (ht:u * 4294967296 + d < q * (h * 4294967296 + l)):0 < q:=by
 rcases Nat.eq_zero_or_pos q with rfl | h
 ·simp at ht
 ·exact h
theorem d1v (D:Digit h l u d q r) (ht:u * 4294967296 + d < q * (h * 4294967296 + l)):Digit h l u d (q - 1) (r + h):=by
 have hq:=c5c D ht
 have:=D.sum
 refine ⟨?_,?_,by have:=D.le; omega⟩
 ·obtain ⟨p,rfl⟩:∃ p,q = p + 1:=⟨q - 1,by omega⟩
  rw [Nat.add_mul] at this
  simp only [Nat.add_sub_cancel]
  omega
 ·rw [show q - 1 + 1 = q by omega]; exact ht
theorem c5d (D:Digit h l u d q r) (ht:¬ u * 4294967296 + d < q * (h * 4294967296 + l)):q = (u * 4294967296 + d) / (h * 4294967296 + l):=
 (Nat.div_eq_of_lt_le (by omega) D.up).symm
theorem c7q (D:Digit h l u d q r) (hl:l < 4294967296) (hq:q ≤ 4294967296) (hr:4294967296 ≤ r):¬ u * 4294967296 + d < q * (h * 4294967296 + l):=by
 rw [← c0a D]
 have h1:q * l ≤ 4294967296 * 4294967295:=Nat.mul_le_mul hq (by omega)
 omega
end
theorem d3x (x y s:Nat):x * 2 ^ s % (y * 2 ^ s) / 2 ^ s = x % y:=by
 rw [Nat.mul_mod_mul_right,Nat.mul_div_cancel _ (Nat.pow_pos (by omega))]
theorem d1w (N d y:Nat):(N * 4294967296 + d) % y = ((N % y) * 4294967296 + d) % y:=by
 have h:N * 4294967296 % y = N % y * 4294967296 % y:=by simp
 rw [Nat.add_mod,h,← Nat.add_mod]
theorem f4t (X D:Nat):(X * 4294967296 + D / 4294967296) * 4294967296 + D % 4294967296 = X * 18446744073709551616 + D:=by
 rw [Nat.add_mul,Nat.mul_assoc,Nat.add_assoc,Nat.mul_comm (D / 4294967296),Nat.div_add_mod]
theorem e3r (a c M y s:Nat) (h:a * 4294967296 + c = M * 2 ^ s):(a % (y * 2 ^ s) * 4294967296 + c) % (y * 2 ^ s) / 2 ^ s = M % y:=by
 have t:=d1w a c (y * 2 ^ s)
 have u:=d3x M y s
 rw [h] at t
 rw [← t,u]
theorem d3y (hi lo y s X D:Nat) (hN:X * 18446744073709551616 + D = (hi * 18446744073709551616 + lo) * 2 ^ s):(((X * 4294967296 + D / 4294967296) % (y * 2 ^ s)) * 4294967296 + D % 4294967296) % (y * 2 ^ s) / 2 ^ s = (hi * 18446744073709551616 + lo) % y:=by
 rw [← f4t X D] at hN
 exact e3r _ _ _ y s hN
end FdSpec
namespace Go.Proofs
open Go Go.Sh Go.RowKit FdSpec
section
variable {K:VK} {w:World}
theorem d3f {a b:Value} (h:K a w) (e:b = a):K b w:=e ▸ h
theorem a3x (n:Int) (h:K (.bool (decide (okN n))) w):a0a Tryz.prog 123 #[.int .i64 n] K w:=by
 apply d4z
 unfold e9m
 have e:decide (okN n) = (decide (1 ≤ n) && decide (n < 2305843009213693952)):=by
  by_cases h1:1 ≤ n <;> by_cases h2:n < 2305843009213693952 <;> simp [okN,h1,h2]
 rw [e] at h
 by_cases h1:1 ≤ n
 ·refine Xa @h1 ?_
  simpa [h1] using h
 ·refine Xa @h1 ?_
  simpa [h1] using h
theorem a2h (n a:Int) (hn:okN n) (h:K (.int .u64 (a % n)) w):a0a Tryz.prog 124 #[.int .i64 n,.int .i64 a] K w:=by
 apply d5a
 unfold e9n
 obtain ⟨h1,h2⟩:=hn
 have e:=c0f n a (by omega)
 have h3:=Int.emod_nonneg a (b:=n) (by omega)
 have h4:=Int.emod_lt_of_pos a (b:=n) (by omega)
 obtain ⟨r,hr⟩:∃ r,r = a.tmod n:=⟨_,rfl⟩
 rw [← hr] at e
 repeat (any_goals (first
 | (with_reducible ((refine a4z ?_); refine yP (fun hg=>?_) fun hg=>?_))
 | ((with_reducible refine oG fun X Y=>?_); simp [go_sem,← hr]; (try simp (disch:=omega) only [a0o,a4r,a1v]); (first|refine Y _ _ ?_|refine And.intro (by omega) (Y _ _ ?_)); clear Y X)))
 ·rw [if_pos (by assumption)] at e; rw [e]; exact h
 ·rw [if_neg (by assumption)] at e; rw [e]; exact h
theorem c7o (x:Int) (h:0 ≤ x):∃ a:Nat,x = a:=⟨x.toNat,by omega⟩
theorem f4s (a:Nat) (ha:a < 18446744073709551616):bits .and .u64 (a:Int) 4294967295 = ((a % 4294967296:Nat):Int):=by
 rw [c6z 32 a 4294967295 (by omega) (by decide) (by omega)]; omega
theorem g7v (a:Nat):(a:Int) / 4294967296 = ((a / 4294967296:Nat):Int):=by omega
theorem g7w (a:Nat):(a:Int) % 4294967296 = ((a % 4294967296:Nat):Int):=by omega
theorem g6e (a b:Nat):(a:Int) * (b:Int) = ((a * b:Nat):Int):=(Int.natCast_mul a b).symm
theorem g7x (a b:Nat):(a:Int) + (b:Int) = ((a + b:Nat):Int):=(Int.natCast_add a b).symm
theorem c5a (a:Nat) (ha:a < 18446744073709551616):IntKind.u64.wrap (a:Int) = (a:Int):=a1v _ (by omega) (by omega)
theorem f8i (a:Nat):IntKind.u64.wrap (a:Int) = ((a % 18446744073709551616:Nat):Int):=by rw [IntKind.wrap_u64]; omega
theorem e3k (x y:Int) (hx:0 ≤ x ∧ x < 18446744073709551616) (hy:0 ≤ y ∧ y < 18446744073709551616) (h:K (.tuple #[.int .u64 (x * y / 18446744073709551616),.int .u64 (x * y % 18446744073709551616)]) w):a0a Tryz.prog 182 #[.int .u64 x,.int .u64 y] K w:=by
 apply d5b
 unfold e9o
 have mx:=c6z 32 x 4294967295 (by omega) (by decide) hx
 have my:=c6z 32 y 4294967295 (by omega) (by decide) hy
 obtain ⟨a,rfl⟩:=c7o x hx.1
 obtain ⟨b,rfl⟩:=c7o y hy.1
 refine Xa (An2 @mx @my) ?_
 clear mx my
 have hx:a < 18446744073709551616:=by omega
 have hy:b < 18446744073709551616:=by omega
 obtain ⟨bd,bt,bw,hhi⟩:=Lib.mul64_hi a b hx hy
 have ba:=Lib.half_mul_le (a:=a / 4294967296) (b:=b / 4294967296) (by omega) (by omega)
 have bb:=Lib.half_mul_le (a:=a / 4294967296) (b:=b % 4294967296) (by omega) (by omega)
 have bc:=Lib.half_mul_le (a:=a % 4294967296) (b:=b / 4294967296) (by omega) (by omega)
 have ba':a / 4294967296 * (b / 4294967296) < 18446744073709551616:=by omega
 have bb':a / 4294967296 * (b % 4294967296) < 18446744073709551616:=by omega
 have bc':a % 4294967296 * (b / 4294967296) < 18446744073709551616:=by omega
 have bh1:a / 4294967296 * (b / 4294967296) + (a / 4294967296 * (b % 4294967296) + a % 4294967296 * (b % 4294967296) / 4294967296) / 4294967296 < 18446744073709551616:=by omega
 have bh:a / 4294967296 * (b / 4294967296) + (a / 4294967296 * (b % 4294967296) + a % 4294967296 * (b % 4294967296) / 4294967296) / 4294967296 + ((a / 4294967296 * (b % 4294967296) + a % 4294967296 * (b % 4294967296) / 4294967296) % 4294967296 + a % 4294967296 * (b / 4294967296)) / 4294967296 < 18446744073709551616:=by omega
 simp only [g7w,g7v,g6e,g7x,c5a _ bd,c5a _ bb',c5a _ bt,f4s _ bt,c5a _ bc',c5a _ bw,c5a _ ba',c5a _ bh1,c5a _ bh,f8i (a * b)]
 rw [hhi]
 exact d3f h (by simp)
def len8:ByteArray:=⟨#[0,1,2,2,3,3,3,3,4,4,4,4,4,4,4,4,5,5,5,5,5,5,5,5,5,5,5,5,5,5,5,5,6,6,6,6,6,6,6,6,6,6,6,6,6,6,6,6,6,6,6,6,6,6,6,6,6,6,6,6,6,6,6,6,7,7,7,7,7,7,7,7,7,7,7,7,7,7,7,7,7,7,7,7,7,7,7,7,7,7,7,7,7,7,7,7,7,7,7,7,7,7,7,7,7,7,7,7,7,7,7,7,7,7,7,7,7,7,7,7,7,7,7,7,7,7,7,7,8,8,8,8,8,8,8,8,8,8,8,8,8,8,8,8,8,8,8,8,8,8,8,8,8,8,8,8,8,8,8,8,8,8,8,8,8,8,8,8,8,8,8,8,8,8,8,8,8,8,8,8,8,8,8,8,8,8,8,8,8,8,8,8,8,8,8,8,8,8,8,8,8,8,8,8,8,8,8,8,8,8,8,8,8,8,8,8,8,8,8,8,8,8,8,8,8,8,8,8,8,8,8,8,8,8,8,8,8,8,8,8,8,8,8,8,8,8,8,8,8,8,8,8,8,8,8,8]⟩
theorem d3u:len8.size = 256:=by decide +kernel
theorem e3l (x:Nat) (hx:x < 256):x < 2 ^ (a5d len8 x).toNat ∧ (x ≠ 0 → 1 ≤ (a5d len8 x).toNat ∧ 2 ^ ((a5d len8 x).toNat - 1) ≤ x) ∧ (a5d len8 x).toNat ≤ 8 ∧ (x = 0 → (a5d len8 x).toNat = 0):=by
 have:∀ x,x < 256 → x < 2 ^ (a5d len8 x).toNat ∧ (x ≠ 0 → 1 ≤ (a5d len8 x).toNat ∧ 2 ^ ((a5d len8 x).toNat - 1) ≤ x) ∧ (a5d len8 x).toNat ≤ 8 ∧ (x = 0 → (a5d len8 x).toNat = 0):=by decide +kernel
 exact this x hx
theorem c2t (i:Int) (T:TypeId):oM Tryz.prog (.index 9 (.tmp 0) (.tmp 1)) T [.string len8,.int .u8 i] = onM (0 ≤ i ∧ i < 256) (.int .u8 (a5d len8 i.toNat).toNat):=by
 funext K w
 rw [a2e (S:=Instr.index 9 (.string len8) (.int .u8 i)) rfl,run_index_string (P:=Tryz.prog) (w:=w) 9 len8 .u8 i (by kernel_rfl)]
 have e:=d3u
 by_cases hi:0 ≤ i ∧ i < len8.size
 ·rw [dif_pos hi,a6w,← b5e]
  exact propext ⟨fun hk=>⟨⟨hi.1,by omega⟩,hk⟩,fun ⟨_,hk⟩=>hk⟩
 ·rw [dif_neg hi]
  obtain ⟨e',w',he⟩:=c9b Value Tryz.prog .u8 i len8.size .index w
  rw [he,a4a]
  exact propext ⟨fun h=>h.elim,fun ⟨h,_⟩=>hi ⟨h.1,by omega⟩⟩
theorem f8j (x k s:Nat) (h:2 ^ s ≤ x / 2 ^ k):x / 2 ^ (k + s) = x / 2 ^ k / 2 ^ s ∧ 2 ^ (k + s) ≤ x:=by
 refine ⟨by rw [Nat.pow_add,Nat.div_div_eq_div_mul],?_⟩
 rw [Nat.pow_add,Nat.mul_comm]
 exact (Nat.le_div_iff_mul_le (Nat.pow_pos (by omega))).1 h
structure BitLen (x L:Nat):Prop where
 lt:x < 2 ^ L
 ge:x ≠ 0 → 1 ≤ L ∧ 2 ^ (L - 1) ≤ x
 le:L ≤ 64
def BlM (x B m:Nat) (w:World) (l:List Value) (w':World):Prop:=w' = w ∧ ∃ k:Nat,l = [.int .u64 ((x / 2 ^ k:Nat):Int),.int .i64 (k:Int)] ∧ x / 2 ^ k < B ∧ (k = 0 ∨ 2 ^ k ≤ x) ∧ k ≤ m
theorem e3m (x:Nat) (hx:x < 18446744073709551616) (h:∀ L,BitLen x L → K (.int .i64 (L:Nat)) w):a0a Tryz.prog 236 #[.int .u64 (x:Int)] K w:=by
 apply d5c
 unfold e9p
 rw [show (⟨#[0,1,2,2,3,3,3,3,4,4,4,4,4,4,4,4,5,5,5,5,5,5,5,5,5,5,5,5,5,5,5,5,6,6,6,6,6,6,6,6,6,6,6,6,6,6,6,6,6,6,6,6,6,6,6,6,6,6,6,6,6,6,6,6,7,7,7,7,7,7,7,7,7,7,7,7,7,7,7,7,7,7,7,7,7,7,7,7,7,7,7,7,7,7,7,7,7,7,7,7,7,7,7,7,7,7,7,7,7,7,7,7,7,7,7,7,7,7,7,7,7,7,7,7,7,7,7,7,8,8,8,8,8,8,8,8,8,8,8,8,8,8,8,8,8,8,8,8,8,8,8,8,8,8,8,8,8,8,8,8,8,8,8,8,8,8,8,8,8,8,8,8,8,8,8,8,8,8,8,8,8,8,8,8,8,8,8,8,8,8,8,8,8,8,8,8,8,8,8,8,8,8,8,8,8,8,8,8,8,8,8,8,8,8,8,8,8,8,8,8,8,8,8,8,8,8,8,8,8,8,8,8,8,8,8,8,8,8,8,8,8,8,8,8,8,8,8,8,8,8,8,8,8,8,8,8]⟩:ByteArray) = len8 from rfl]
 refine ⟨BlM x 4294967296 32 w,?_,?_⟩
 ·repeat (any_goals (first
  | (with_reducible ((refine a4z ?_); refine yP (fun hg=>?_) fun hg=>?_))
  | ((with_reducible refine oG fun X Y=>?_); simp [go_sem]; apply Y; clear Y X)))
  ·exact ⟨rfl,32,by simp,by omega,by omega,by omega⟩
  ·exact ⟨rfl,0,by simp,by simp; omega,by omega,by omega⟩
 rintro _ _ w1 ⟨e1,k,rfl,h1,h2,h3⟩
 rw [e1]
 clear e1 w1
 refine ⟨BlM x 65536 48 w,?_,?_⟩
 ·have hs:=f8j x k 16
  obtain ⟨y,hy⟩:∃ y,y = x / 2 ^ k:=⟨_,rfl⟩
  rw [← hy] at hs h1 ⊢
  repeat (any_goals (first
  | (with_reducible ((refine a4z ?_); refine yP (fun hg=>?_) fun hg=>?_))
  | ((with_reducible refine oG fun X Y=>?_); simp [go_sem]; (try simp (disch:=omega) only [a0o,a4r,a1v]); apply Y; clear Y X)))
  ·have hs:=hs (by omega)
   exact ⟨rfl,k + 16,by rw [hs.1]; simp,by rw [hs.1]; omega,.inr hs.2,by omega⟩
  ·exact ⟨rfl,k,by rw [hy]; rfl,by omega,h2,by omega⟩
 clear h1 h2 h3 k
 rintro _ _ w1 ⟨e1,k,rfl,h1,h2,h3⟩
 rw [e1]
 clear e1 w1
 refine ⟨BlM x 256 56 w,?_,?_⟩
 ·have hs:=f8j x k 8
  obtain ⟨y,hy⟩:∃ y,y = x / 2 ^ k:=⟨_,rfl⟩
  rw [← hy] at hs h1 ⊢
  repeat (any_goals (first
  | (with_reducible ((refine a4z ?_); refine yP (fun hg=>?_) fun hg=>?_))
  | ((with_reducible refine oG fun X Y=>?_); simp [go_sem]; (try simp (disch:=omega) only [a0o,a4r,a1v]); apply Y; clear Y X)))
  ·have hs:=hs (by omega)
   exact ⟨rfl,k + 8,by rw [hs.1]; simp,by rw [hs.1]; omega,.inr hs.2,by omega⟩
  ·exact ⟨rfl,k,by rw [hy]; rfl,by omega,h2,by omega⟩
 clear h1 h2 h3 k
 rintro _ _ w1 ⟨e1,k,rfl,h1,h2,h3⟩
 rw [e1]
 clear e1 w1
 obtain ⟨l1,l2,l3,l4⟩:=e3l (x / 2 ^ k) h1
 have hL:BitLen x (k + (a5d len8 (x / 2 ^ k)).toNat):=by
  generalize (a5d len8 (x / 2 ^ k)).toNat = L at *
  have hp:0 < 2 ^ k:=Nat.pow_pos (by omega)
  refine ⟨?_,?_,by omega⟩
  ·rw [Nat.pow_add,Nat.mul_comm]
   exact (Nat.div_lt_iff_lt_mul hp).1 l1
  ·intro h0
   by_cases hy:x / 2 ^ k = 0
   ·rw [Nat.div_eq_zero_iff] at hy
    rcases h2 with rfl | h2 <;> simp at hy <;> omega
   ·obtain ⟨a,b⟩:=l2 hy
    refine ⟨by omega,?_⟩
    rw [show k + L - 1 = k + (L - 1) by omega,Nat.pow_add,Nat.mul_comm]
    exact (Nat.le_div_iff_mul_le hp).1 b
 obtain ⟨y,hy⟩:∃ y,y = x / 2 ^ k:=⟨_,rfl⟩
 have hk:=h _ hL
 simp only [← hy] at hk h1 l3 ⊢
 refine Xa @c2t ?_
 exact d3f hk (by simp)
def e9c (vh vl vd:Value) (M:List Value → World → Prop) (x:List Value) (w:World):Prop:=
 (e7m x w (fun J_30 m_31 l u_l w0_l=>(fun w=>(
 oM Tryz.prog (Go.Op.binOp Go.BinOp.geq 150 (.tmp 0) (.tmp 1) 150) 4 [(l.getD 0 undef),(.int .u64 4294967296)] (fun v68_33 w=>
 gdM (gd v68_33 false) (a0j (l.getD 0 undef)) (fun v70_34 w=>
 gdM (gd v68_33 false) (a0j vl) (fun v71_35 w=>
 gdM (gd v68_33 false) (oM Tryz.prog (Go.Op.binOp Go.BinOp.mul 150 (.tmp 0) (.tmp 1) 150) 150 [v70_34,v71_35]) (fun v72_36 w=>
 gdM (gd v68_33 false) (a0j (l.getD 1 undef)) (fun v73_37 w=>
 gdM (gd v68_33 false) (oM Tryz.prog (Go.Op.binOp Go.BinOp.mul 150 (.tmp 0) (.tmp 1) 150) 150 [(.int .u64 4294967296),v73_37]) (fun v74_38 w=>
 gdM (gd v68_33 false) (a0j vd) (fun v75_39 w=>
 gdM (gd v68_33 false) (oM Tryz.prog (Go.Op.binOp Go.BinOp.add 150 (.tmp 0) (.tmp 1) 150) 150 [v74_38,v75_39]) (fun v76_40 w=>
 gdM (gd v68_33 false) (oM Tryz.prog (Go.Op.binOp Go.BinOp.gtr 150 (.tmp 0) (.tmp 1) 150) 4 [v72_36,v76_40]) (fun v77_41 w=>
 oM Tryz.prog (Go.Op.pick (.tmp 0) (.tmp 1) (.tmp 2)) 4 [v68_33,(.bool true),v77_41] (fun v78_42 w=>
 a0v v78_42
 (oM Tryz.prog (Go.Op.binOp Go.BinOp.sub 150 (.tmp 0) (.tmp 1) 150) 150 [(l.getD 0 undef),(.int .u64 1)] (fun v80_43 w=>
 oM Tryz.prog (Go.Op.binOp Go.BinOp.add 150 (.tmp 0) (.tmp 1) 150) 150 [(l.getD 1 undef),vh] (fun v83_44 w=>
 oM Tryz.prog (Go.Op.binOp Go.BinOp.geq 150 (.tmp 0) (.tmp 1) 150) 4 [v83_44,(.int .u64 4294967296)] (fun v85_45 w=>
 a0v v85_45
 (M [v80_43,v83_44] w)
 (J_30 [v80_43,v83_44] w ∧ m_31 [v80_43,v83_44] w < m_31 l w0_l)) w) w) w)
 (M [(l.getD 0 undef),(l.getD 1 undef)] w)) w) w) w) w) w) w) w) w) w) w)) w0_l))
def DgJ (h l u d:Nat) (w:World) (x:List Value) (w':World):Prop:=w' = w ∧ ∃ q r:Nat,x = [.int .u64 (q:Int),.int .u64 (r:Int)] ∧ Digit h l u d q r ∧ r < 4294967296
theorem f8k (h l u d:Nat) (M:List Value → World → Prop) (hh:2147483648 ≤ h) (hh2:h < 4294967296) (hl:l < 4294967296) (hd:d < 4294967296) (hu:u < h * 4294967296 + l)
  (hM:∀ r:Nat,M [.int .u64 (((u * 4294967296 + d) / (h * 4294967296 + l):Nat):Int),.int .u64 (r:Int)] w):e9c (.int .u64 (h:Int)) (.int .u64 (l:Int)) (.int .u64 (d:Int)) M [.int .u64 ((u / h:Nat):Int),.int .u64 ((u - u / h * h:Nat):Int)] w:=by
 unfold e9c
 refine ⟨DgJ h l u d w,fun x _=>match x with | [.int _ q,_]=>q.toNat | _=>0,⟨rfl,_,_,rfl,c7p hh hh2 hl hd hu,?_⟩,?_⟩
 ·have h1:=Nat.mod_lt u (show h > 0 by omega)
  have h2:=Nat.div_add_mod u h
  rw [Nat.mul_comm] at h2
  omega
 rintro _ _ w1 ⟨e1,q,r,rfl,D,hr⟩
 rw [e1]
 clear e1 w1
 have hq:=D.le
 have ht:=c0a D
 have hbig:=fun hb:4294967296 ≤ q=>d3w hu hd hb
 have hstep:=fun hb=>d1v D hb
 have hpos:=fun hb=>c5c D hb
 have hend:=fun hb=>c5d D hb
 have hbr:∀ hb,4294967296 ≤ r + h → q - 1 = (u * 4294967296 + d) / (h * 4294967296 + l):=fun hb hg=>c5d (hstep hb) (c7q (hstep hb) hl (by omega) hg)
 have hql:q < 4294967296 → q * l < 18446744073709551616:=fun hb=>by
  have:=Nat.mul_le_mul (show q ≤ 4294967295 by omega) (show l ≤ 4294967295 by omega)
  omega
 generalize (u * 4294967296 + d) / (h * 4294967296 + l) = Q at *
 generalize (u * 4294967296 + d < q * (h * 4294967296 + l)) = T at *
 have hmul:(q:Int) * (l:Int) = ((q * l:Nat):Int):=(Int.natCast_mul q l).symm
 generalize q * l = ql at *
 have fin1:(4294967296 ≤ r + h → q - 1 = Q) → 0 < q → 4294967296 ≤ r + h → M [.int .u64 ((q:Int) - 1),.int .u64 ((r:Int) + h)] w:=fun a b c=>by
  rw [show (q:Int) - 1 = ((q - 1:Nat):Int) by omega,show (r:Int) + h = ((r + h:Nat):Int) by omega,a c]; exact hM _
 have fin2:Digit h l u d (q - 1) (r + h) → 0 < q → ¬ 4294967296 ≤ r + h → DgJ h l u d w [.int .u64 ((q:Int) - 1),.int .u64 ((r:Int) + h)] w ∧ ((q:Int) - 1).toNat < (q:Int).toNat:=fun a b c=>by
  rw [show (q:Int) - 1 = ((q - 1:Nat):Int) by omega,show (r:Int) + h = ((r + h:Nat):Int) by omega]
  exact ⟨⟨rfl,_,_,rfl,a,by omega⟩,by omega⟩
 by_cases hb:4294967296 ≤ q
 ·have hT:=hbig hb
  have hst:=hstep hT
  have hps:=hpos hT
  have hbr:=hbr hT
  repeat (any_goals (first
  | (with_reducible first|((refine d1d ?_); ((refine b9s ?_); refine zJ ?_))|refine yD ?_|((refine a4z ?_); first|refine yL ?_|refine yP (fun hg=>?_) fun hg=>?_))
  | ((with_reducible refine oG fun Kv hK=>?_); simp [go_sem,hb]; (try simp (disch:=omega) only [a0o,a4r,a1v]); apply hK; clear hK Kv)))
  ·exact fin1 hbr hps (by omega)
  ·exact fin2 hst hps (by omega)
 ·have hql:=hql (by omega)
  by_cases hT:T
  ·have hst:=hstep hT
   have hps:=hpos hT
   have hbr:=hbr hT
   have htt:=ht.2 hT
   repeat (any_goals (first
   | (with_reducible first|refine a4i ?_|((refine d1d ?_); ((refine b9s ?_); refine zI ?_))|refine yE ?_|((refine a4z ?_); first|refine yN ?_|refine yP (fun hg=>?_) fun hg=>?_))
   | ((with_reducible refine oG fun Kv hK=>?_); simp [go_sem,hb,hmul]; (try simp (disch:=omega) only [a0o,a4r,a1v]); apply hK; clear hK Kv)))
   ·exact fin1 hbr hps (by omega)
   ·exact fin2 hst hps (by omega)
  ·have he:=hend hT
   have htt:¬ _:=fun h=>hT (ht.1 h)
   refine Xg (An2 @hb @hmul) ?_
   simp only [List.getD_cons_zero,List.getD_cons_succ]
   rw [he]
   exact hM _
theorem d3v (x:Nat) (hx:x < 18446744073709551616) (h:∀ L,BitLen x L → K (.int .i64 (64 - (L:Int))) w):a0a Tryz.prog 222 #[.int .u64 (x:Int)] K w:=by
 apply d5d
 unfold e9q
 refine e3m x hx ?_
 intro L hL
 have:=hL.le
 refine Xc0 ?_
 exact h L hL
theorem e3n (y L:Nat) (hy:0 < y) (hL:BitLen y L):9223372036854775808 ≤ y * 2 ^ (64 - L) ∧ y * 2 ^ (64 - L) < 18446744073709551616:=by
 obtain ⟨a,b⟩:=hL.ge (by omega)
 have h64:=hL.le
 have h1:2 ^ (L - 1) * 2 ^ (64 - L) = 9223372036854775808:=by
  rw [← Nat.pow_add,show L - 1 + (64 - L) = 63 by omega]
 have h2:2 ^ L * 2 ^ (64 - L) = 18446744073709551616:=by
  rw [← Nat.pow_add,show L + (64 - L) = 64 by omega]
 have hp:0 < 2 ^ (64 - L):=Nat.pow_pos (by omega)
 exact ⟨by rw [← h1]; exact Nat.mul_le_mul_right _ b,by rw [← h2]; exact (Nat.mul_lt_mul_right hp).2 hL.lt⟩
theorem e3o (hi lo s:Nat) (hs:s ≤ 64) (hlo:lo < 18446744073709551616):(hi * 2 ^ s + lo / 2 ^ (64 - s)) * 18446744073709551616 + lo * 2 ^ s % 18446744073709551616 = (hi * 18446744073709551616 + lo) * 2 ^ s ∧ lo / 2 ^ (64 - s) < 2 ^ s:=by
 have h2:2 ^ (64 - s) * 2 ^ s = 18446744073709551616:=by rw [← Nat.pow_add,show 64 - s + s = 64 by omega]
 have hp:0 < 2 ^ s:=Nat.pow_pos (by omega)
 have hq:0 < 2 ^ (64 - s):=Nat.pow_pos (by omega)
 have h3:lo * 2 ^ s / 18446744073709551616 = lo / 2 ^ (64 - s):=by
  rw [← h2,Nat.mul_div_mul_right _ _ hp]
 have h4:=Nat.div_add_mod (lo * 2 ^ s) 18446744073709551616
 refine ⟨?_,?_⟩
 ·rw [h3] at h4
  rw [Nat.add_mul,Nat.add_mul,Nat.mul_right_comm hi,Nat.add_assoc,Nat.mul_comm (lo / _) 18446744073709551616,h4]
 ·rw [Nat.div_lt_iff_lt_mul hq,Nat.mul_comm,h2]; exact hlo
def EqW (w:World) (l:List Value) (w':World):Prop:=w' = w
def DgE (Q:Nat) (w:World) (l:List Value) (w':World):Prop:=w' = w ∧ ∃ r:Nat,l = [.int .u64 (Q:Int),.int .u64 (r:Int)]
theorem c5b (X d Y Q U:Nat) (hs:Q * Y + U = X * 4294967296 + d) (hU:U < 18446744073709551616):IntKind.u64.wrap (IntKind.u64.wrap (IntKind.u64.wrap ((X:Int) * 4294967296) + (d:Int)) - IntKind.u64.wrap ((Q:Int) * (Y:Int))) = (U:Int):=by
 have hm:(Q:Int) * (Y:Int) = ((Q * Y:Nat):Int):=(Int.natCast_mul Q Y).symm
 rw [hm]
 generalize Q * Y = P at *
 simp only [IntKind.wrap_u64]
 omega
theorem c9o (X h:Nat) (hX:X < 18446744073709551616) (hh:2147483648 ≤ h):∃ q p r:Nat,X / h = q ∧ q * h = p ∧ X - p = r ∧ p ≤ X ∧ q < 18446744073709551616 ∧ (X:Int).tdiv (h:Int) = (q:Int) ∧ (q:Int) * (h:Int) = (p:Int) ∧ (X:Int) - (p:Int) = (r:Int):=by
 have h1:=Nat.div_mul_le_self X h
 have h2:=Nat.div_le_self X h
 refine ⟨_,_,_,rfl,rfl,rfl,h1,by omega,?_,(Int.natCast_mul _ _).symm,by omega⟩
 rw [Int.tdiv_eq_ediv_of_nonneg (by omega)]; rfl
set_option maxHeartbeats 1000000 in
theorem e3p (hi lo y:Nat) (hlt:hi < y) (hy:y < 18446744073709551616) (hlo:lo < 18446744073709551616) (k:∀ (q:Int) w',Bw w w' → K (.tuple #[.int .u64 q,.int .u64 (((hi * 18446744073709551616 + lo) % y:Nat):Int)]) w'):a0a Tryz.prog 208 #[.int .u64 (hi:Int),.int .u64 (lo:Int),.int .u64 (y:Int)] K w:=by
 apply d5e
 unfold e9r
 refine ⟨EqW w,?_,?_⟩
 ·refine Xc0 ?_
  exact rfl
 rintro _ _ w1 e1
 rw [show w1 = w from e1]
 clear e1 w1
 refine ⟨EqW w,?_,?_⟩
 ·refine Xc0 ?_
  exact rfl
 rintro _ _ w1 e1
 rw [show w1 = w from e1]
 clear e1 w1
 by_cases h0:hi = 0
 ·subst h0
  have k0:=k ((lo / y:Nat):Int) _ (Below.drew (Below.refl _ w))
  have t1:((lo:Int).tdiv (y:Int)) = ((lo / y:Nat):Int):=by rw [Int.tdiv_eq_ediv_of_nonneg (by omega)]; rfl
  have t2:((lo:Int).tmod (y:Int)) = ((lo % y:Nat):Int):=by rw [Int.tmod_eq_emod_of_nonneg (by omega)]; rfl
  have t3:=Nat.div_le_self lo y
  simp only [Nat.zero_mul,Nat.zero_add] at k0
  generalize lo / y = a at *
  generalize lo % y = b at *
  refine Xg (An2 @t1 @t2) ?_
  refine d3a ?_
  refine Xg (An2 @t1 @t2) ?_
  exact k0
 obtain ⟨s,hs⟩:∃ s,s = 64:=⟨_,rfl⟩
 refine Xc0 ?_
 refine d3v y hy ?_
 intro L hL
 clear s hs
 have hn:=e3n y L (by omega) hL
 have hL64:=hL.le
 obtain ⟨s,hs⟩:∃ s,s = 64 - L:=⟨_,rfl⟩
 rw [← hs] at hn
 have hs64:s ≤ 64:=by omega
 obtain ⟨hN,hB⟩:=e3o hi lo s hs64 hlo
 have hres:=d3y hi lo y s _ _ hN
 have hAB:hi * 2 ^ s + lo / 2 ^ (64 - s) < y * 2 ^ s:=by
  have:=Nat.mul_le_mul_right (2 ^ s) (show hi + 1 ≤ y by omega)
  rw [Nat.add_mul,Nat.one_mul] at this
  omega
 have hsub:(64:Int) - (L:Int) = (s:Int):=by omega
 have hpow:∀ a:Nat,(a:Int) * 2 ^ s = ((a * 2 ^ s:Nat):Int):=fun a=>by rw [Int.natCast_mul,Int.natCast_pow]; rfl
 have hdiv:∀ a:Nat,(a:Int) / 2 ^ (64 - s) = ((a / 2 ^ (64 - s):Nat):Int):=fun a=>by rw [Int.natCast_ediv,Int.natCast_pow]; rfl
 have hBi:((lo / 2 ^ (64 - s):Nat):Int) < 2 ^ s:=by
  have:=Int.ofNat_lt.2 hB
  rw [Int.natCast_pow] at this
  exact this
 have hor:=e7r s (hi:Int) ((lo / 2 ^ (64 - s):Nat):Int) hs64 (Int.natCast_nonneg _) ⟨Int.natCast_nonneg _,hBi⟩
 have hD:lo * 2 ^ s % 18446744073709551616 < 18446744073709551616:=Nat.mod_lt _ (by omega)
 have hDi:((lo * 2 ^ s:Nat):Int) % 18446744073709551616 = ((lo * 2 ^ s % 18446744073709551616:Nat):Int):=by rw [Int.natCast_emod]; rfl
 have hsub2:((64:Int) - (s:Int)).toNat = 64 - s:=by omega
 rw [hpow] at hor
 clear hN hB hBi hL
 generalize lo * 2 ^ s % 18446744073709551616 = D at *
 generalize hlo2:lo * 2 ^ s = lo2 at *
 generalize hA:hi * 2 ^ s = A at *
 generalize hB:lo / 2 ^ (64 - s) = B at *
 generalize hY:y * 2 ^ s = Y at *
 have hor:=hor (by omega)
 have hAm:(A:Int) % 18446744073709551616 = (A:Int):=by omega
 have hYm:(Y:Int) % 18446744073709551616 = (Y:Int):=by omega
 have hpa:=hpow hi
 have hpl:=hpow lo
 have hpy:=hpow y
 have hdl:=hdiv lo
 rw [hA] at hpa
 rw [hlo2] at hpl
 rw [hY] at hpy
 rw [hB] at hdl
 rw [hsub]
 obtain ⟨t,ht⟩:∃ t,t = 64 - s:=⟨_,rfl⟩
 have ht2:(64:Int) - (s:Int) = (t:Int):=by omega
 rw [← ht] at hdl
 have rl:=fun x=>e7o (P:=Tryz.prog) 150 191 150 .u64 x (s:Int) (by omega) (by omega)
 have rr:=fun x=>b3p (P:=Tryz.prog) 150 191 150 .u64 x (s:Int) (by omega) (by omega)
 have rt:=fun x=>b3p (P:=Tryz.prog) 150 191 150 .u64 x (t:Int) (by omega) (by omega)
 simp only [Int.toNat_natCast] at rl rr rt
 obtain ⟨h,hh⟩:∃ h,h = Y / 4294967296:=⟨_,rfl⟩
 obtain ⟨l,hl⟩:∃ l,l = Y % 4294967296:=⟨_,rfl⟩
 obtain ⟨d1,hd1⟩:∃ d1,d1 = D / 4294967296:=⟨_,rfl⟩
 obtain ⟨d0,hd0⟩:∃ d0,d0 = D % 4294967296:=⟨_,rfl⟩
 obtain ⟨X,hX⟩:∃ X,X = A + B:=⟨_,rfl⟩
 have hhi:(Y:Int) / 4294967296 = (h:Int):=by omega
 have hli:bits .and .u64 (Y:Int) 4294967295 = (l:Int):=by rw [f4s Y (by omega),← hl]
 have hd1i:(D:Int) / 4294967296 = (d1:Int):=by omega
 have hd0i:bits .and .u64 (D:Int) 4294967295 = (d0:Int):=by rw [f4s D (by omega),← hd0]
 have hXi:(A:Int) + (B:Int) = (X:Int):=by omega
 have hhl:h * 4294967296 + l = Y:=by omega
 rw [← hX,← hd1,← hd0] at hres
 obtain ⟨q1,p1,r1,e1,e2,e3,e4,e5,e6,e7,e8⟩:=c9o X h (by omega) (by omega)
 obtain ⟨Q,hQ⟩:∃ Q,Q = (X * 4294967296 + d1) / Y:=⟨_,rfl⟩
 obtain ⟨U,hU⟩:∃ U,U = (X * 4294967296 + d1) % Y:=⟨_,rfl⟩
 have hUY:U < Y:=by rw [hU]; exact Nat.mod_lt _ (by omega)
 have dg:=f8k (w:=w) h l X d1 (DgE Q w) (by omega) (by omega) (by omega) (by omega) (by omega) (fun r=>⟨rfl,r,by rw [hhl,← hQ]⟩)
 have lw:=c5b X d1 Y Q U (by rw [hQ,hU]; exact Nat.div_add_mod' _ _) (by omega)
 obtain ⟨q2,p2,r2,f1,f2,f3,f4,f5,f6,f7,f8⟩:=c9o U h (by omega) (by omega)
 obtain ⟨Q2,hQ2⟩:∃ Q2,Q2 = (U * 4294967296 + d0) / Y:=⟨_,rfl⟩
 obtain ⟨R,hR⟩:∃ R,R = (U * 4294967296 + d0) % Y:=⟨_,rfl⟩
 have hRY:R < Y:=by rw [hR]; exact Nat.mod_lt _ (by omega)
 have dg2:=f8k (w:=w) h l U d0 (DgE Q2 w) (by omega) (by omega) (by omega) (by omega) (by omega) (fun r=>⟨rfl,r,by rw [hhl,← hQ2]⟩)
 have lw2:=c5b U d0 Y Q2 R (by rw [hQ2,hR]; exact Nat.div_add_mod' _ _) (by omega)
 rw [← hU,← hR] at hres
 rw [e1,e2,e3] at dg
 rw [f1,f2,f3] at dg2
 have hRi:(R:Int) / 2 ^ s = ((R / 2 ^ s:Nat):Int):=by rw [Int.natCast_ediv,Int.natCast_pow]; rfl
 rw [hres] at hRi
 clear hres hR hU hQ hQ2 e1 e2 e3 f1 f2 f3 hh hl hd1 hd0 hX
 refine Xg (h1h @rl @rr @rt @ht2 @hpa @hpl @hpy @hdl @hor @hAm @hYm @hDi @hXi @hhi @hli @hd1i @hd0i @e6 @e7 @e8) ?_
 refine ⟨DgE Q w,dg,?_⟩
 rintro _ _ w1 ⟨e1,r,rfl⟩
 rw [e1]
 clear e1 w1
 refine Xg (An7 @rl @rr @rt @lw @f6 @f7 @f8) ?_
 refine ⟨DgE Q2 w,dg2,?_⟩
 rintro _ _ w1 ⟨e1,r',rfl⟩
 rw [e1]
 clear e1 w1
 refine Xg (An5 @rl @rr @rt @lw2 @hRi) ?_
 exact k _ _ (bR)
theorem e3q (hi lo y:Nat) (hhi:hi < 18446744073709551616) (hy0:0 < y) (hy:y < 18446744073709551616) (hlo:lo < 18446744073709551616) (k:∀ w',Bw w w' → K (.int .u64 (((hi * 18446744073709551616 + lo) % y:Nat):Int)) w'):a0a Tryz.prog 183 #[.int .u64 (hi:Int),.int .u64 (lo:Int),.int .u64 (y:Int)] K w:=by
 apply d5f
 unfold e9s
 have e1:(hi:Int).tmod (y:Int) = ((hi % y:Nat):Int):=by rw [Int.tmod_eq_emod_of_nonneg (by omega)]; rfl
 have e2:(hi % y * 18446744073709551616 + lo) % y = (hi * 18446744073709551616 + lo) % y:=by
  rw [Nat.add_mod,Nat.mul_mod,Nat.mod_mod,← Nat.mul_mod,← Nat.add_mod]
 have hlt:=Nat.mod_lt hi hy0
 rw [← e2] at k
 generalize hi % y = r at *
 refine Xa @e1 ?_
 refine e3p r lo y hlt hy hlo ?_
 intro q w1 hb
 refine Xa0 ?_
 exact k _ hb
theorem b0j (n a b:Int) (hn:okN n) (ha:0 ≤ a ∧ a < n) (hb:0 ≤ b ∧ b < n) (k:∀ w',Bw w w' → K (.int .u64 (a * b % n)) w'):a0a Tryz.prog 125 #[.int .i64 n,.int .u64 a,.int .u64 b] K w:=by
 apply d5g
 unfold e9t
 obtain ⟨h1,h2⟩:=hn
 refine Xa0 ?_
 refine e3k a b ⟨ha.1,by omega⟩ ⟨hb.1,by omega⟩ ?_
 obtain ⟨a,rfl⟩:=c7o a ha.1
 obtain ⟨b,rfl⟩:=c7o b hb.1
 obtain ⟨n,rfl⟩:=c7o n (by omega)
 rw [g6e]
 have hab:a * b < 18446744073709551616 * 18446744073709551616:=Nat.mul_lt_mul'' (by omega) (by omega)
 have e1:((a * b:Nat):Int) / 18446744073709551616 = ((a * b / 18446744073709551616:Nat):Int):=by omega
 have e2:((a * b:Nat):Int) % 18446744073709551616 = ((a * b % 18446744073709551616:Nat):Int):=by omega
 have e3:((a * b % n:Nat):Int) = (a:Int) * (b:Int) % (n:Int):=by rw [Int.natCast_emod,Int.natCast_mul]
 rw [e1,e2]
 have h5:a * b / 18446744073709551616 * 18446744073709551616 + a * b % 18446744073709551616 = a * b:=Nat.div_add_mod' _ _
 have h3:a * b / 18446744073709551616 < 18446744073709551616:=by omega
 have h4:a * b % 18446744073709551616 < 18446744073709551616:=by omega
 rw [← e3,← h5] at k
 generalize a * b / 18446744073709551616 = hi at *
 generalize a * b % 18446744073709551616 = lo at *
 refine Xa0 ?_
 exact e3q hi lo n h3 (by omega) (by omega) h4 k
def PwJ (n R:Int) (w:World) (l:List Value) (w':World):Prop:=Bw w w' ∧ ∃ (out a:Int) (b:Nat),l = [.int .u64 out,.int .u64 a,.int .u64 (b:Int)] ∧ (0 ≤ out ∧ out < n) ∧ (0 ≤ a ∧ a < n) ∧ b < 18446744073709551616 ∧ out * a ^ b % n = R
def PwM (n R a:Int) (b:Nat) (w:World) (l:List Value) (w':World):Prop:=Bw w w' ∧ ∃ out:Int,l = [.int .u64 out] ∧ (0 ≤ out ∧ out < n) ∧ out * (a * a % n) ^ (b / 2) % n = R
def g6f (l:List Value) (_:World):Nat:=match l with | [_,_,.int _ b]=>b.toNat | _=>0
theorem f4u (x y:Value) (k:IntKind) (b:Int) (w:World):g6f [x,y,.int k b] w = b.toNat:=rfl
theorem b6h (n a:Int) (b:Nat) (hn:okN n) (ha:0 ≤ a ∧ a < n) (hb:b < 18446744073709551616) (k:∀ w',Bw w w' → K (.int .u64 (pw n a b)) w'):a0a Tryz.prog 129 #[.int .i64 n,.int .u64 a,.int .u64 (b:Int)] K w:=by
 apply d5h
 unfold e9u
 have hn':=hn
 obtain ⟨h1,h2⟩:=hn
 have e1:(1:Int).tmod n = 1 % n:=Int.tmod_eq_emod_of_nonneg (by omega)
 have e2:=Int.emod_nonneg 1 (b:=n) (by omega)
 have e3:=Int.emod_lt_of_pos 1 (b:=n) (by omega)
 have e4:1 % n * a ^ b % n = pw n a b:=by
  rw [Int.mul_emod,Int.emod_emod_of_dvd _ (Int.dvd_refl n),← Int.mul_emod,Int.one_mul]; rfl
 generalize 1 % n = o at *
 refine Xa @e1 ?_
 refine ⟨PwJ n (pw n a b) w,g6f,⟨bR,o,a,b,rfl,⟨e2,e3⟩,ha,hb,e4⟩,?_⟩
 generalize hR:pw n a b = R at *
 clear e1 e2 e3 e4 o hb ha
 rintro _ _ w1 ⟨hb1,out,x,c,rfl,ho,hx,hc,hinv⟩
 have hz:=hb1.size
 by_cases h0:c = 0
 ·subst h0
  rw [Int.pow_zero,Int.mul_one,Int.emod_eq_of_lt ho.1 ho.2] at hinv
  refine Xa0 ?_
  rw [hinv]
  exact k _ hb1
 ·have hm:bits .and .u64 (c:Int) 1 = ((c % 2:Nat):Int):=by
   rw [c6z 1 c 1 (by omega) (by decide) (by omega)]; omega
  have hsh:(c:Int) / 2 = ((c / 2:Nat):Int):=by omega
  have h1:=d4l n x out c
  have h3:=e9g n x out c
  obtain ⟨m,hm2⟩:∃ m,m = c % 2:=⟨_,rfl⟩
  rw [← hm2] at hm h1 h3
  obtain ⟨d,hd⟩:∃ d,d = c / 2:=⟨_,rfl⟩
  rw [← hd] at hsh h1 h3
  refine Xa0 ?_
  refine ⟨PwM n R x c w,?_,?_⟩
  ·repeat (any_goals (first
   | (with_reducible ((refine a4z ?_); refine yP (fun hg=>?_) fun hg=>?_))
   | ((with_reducible refine oG fun X Y=>?_); simp [go_sem,hm]; apply Y; clear Y X)))
   ·refine b0j n out x hn' ho hx ?_
    intro w2 hb2
    skip
    refine ⟨hb1.trans (hb2.mono hz),_,rfl,⟨Int.emod_nonneg _ (by omega),Int.emod_lt_of_pos _ (by omega)⟩,?_⟩
    rw [← hd,h3 (by omega)]; exact hinv
   ·refine ⟨hb1,_,rfl,ho,?_⟩
    rw [← hd,h1 (by omega)]; exact hinv
  ·rintro _ _ w2 ⟨hb2,out',rfl,ho',hi'⟩
   have hz2:=hb2.size
   refine b0j n x x hn' hx hx ?_
   intro w3 hb3
   refine Xa @hsh ?_
   refine ⟨⟨hb2.trans (hb3.mono hz2),_,_,_,rfl,ho',⟨Int.emod_nonneg _ (by omega),Int.emod_lt_of_pos _ (by omega)⟩,by omega,by rw [hd]; exact hi'⟩,?_⟩
   simp only [f4u]
   omega
theorem c5e (n a b:Int) (h:K (.int .i64 (a6i n a b)) w):a0a Tryz.prog 42 #[.int .i64 n,.int .i64 a,.int .i64 b] K w:=by
 apply e4c
 unfold f8y
 refine a3x n ?_
 by_cases hn:okN n
 ·have hn':=hn
  obtain ⟨h1,h2⟩:=hn'
  have ha:=Int.emod_nonneg a (b:=n) (by omega)
  have ha2:=Int.emod_lt_of_pos a (b:=n) (by omega)
  have hb:=Int.emod_nonneg b (b:=n) (by omega)
  have hb2:=Int.emod_lt_of_pos b (b:=n) (by omega)
  have e:=d4m n a b hn
  have e2:=a7w n a b hn
  have e1:(a % n + b % n).tmod n = (a % n + b % n) % n:=Int.tmod_eq_emod_of_nonneg (by omega)
  rw [e] at e1
  refine Xa @hn ?_
  refine a2h n a hn ?_
  refine a2h n b hn ?_
  generalize a % n = x at *
  generalize b % n = y at *
  generalize a6i n a b = z at *
  refine Xa @e1 ?_
  exact h
 ·rw [a6i,if_neg hn] at h
  refine Xa @hn ?_
  exact h
theorem c0b (n a b:Int) (h:K (.int .i64 (a3g n a b)) w):a0a Tryz.prog 48 #[.int .i64 n,.int .i64 a,.int .i64 b] K w:=by
 apply e4d
 unfold f8z
 refine a3x n ?_
 by_cases hn:okN n
 ·have hn':=hn
  obtain ⟨h1,h2⟩:=hn'
  have ha:=Int.emod_nonneg a (b:=n) (by omega)
  have ha2:=Int.emod_lt_of_pos a (b:=n) (by omega)
  have hb:=Int.emod_nonneg b (b:=n) (by omega)
  have hb2:=Int.emod_lt_of_pos b (b:=n) (by omega)
  have e:=d4n n a b hn
  have e2:=b0o n a b hn
  have e1:(a % n + n - b % n).tmod n = (a % n + n - b % n) % n:=Int.tmod_eq_emod_of_nonneg (by omega)
  rw [e] at e1
  refine Xa @hn ?_
  refine a2h n a hn ?_
  refine Xa0 ?_
  refine a2h n b hn ?_
  generalize a % n = x at *
  generalize b % n = y at *
  generalize a3g n a b = z at *
  refine Xa @e1 ?_
  exact h
 ·rw [a3g,if_neg hn] at h
  refine Xa @hn ?_
  exact h
theorem b2s (n a b:Int) (k:∀ w',Bw w w' → K (.int .i64 (a2n n a b)) w'):a0a Tryz.prog 43 #[.int .i64 n,.int .i64 a,.int .i64 b] K w:=by
 apply e4e
 unfold f9a
 refine a3x n ?_
 by_cases hn:okN n
 ·have hn':=hn
  obtain ⟨h1,h2⟩:=hn'
  have ha:=Int.emod_nonneg a (b:=n) (by omega)
  have ha2:=Int.emod_lt_of_pos a (b:=n) (by omega)
  have hb:=Int.emod_nonneg b (b:=n) (by omega)
  have hb2:=Int.emod_lt_of_pos b (b:=n) (by omega)
  have e:=d4o n a b hn
  have e2:=b0n n a b hn
  refine Xa @hn ?_
  refine a2h n a hn ?_
  refine a2h n b hn ?_
  refine b0j n _ _ hn ⟨ha,ha2⟩ ⟨hb,hb2⟩ ?_
  intro w1 hb1
  rw [e]
  have k:=k w1 hb1
  generalize a2n n a b = z at *
  refine Xa0 ?_
  exact k
 ·rw [a2n,if_neg hn] at k
  refine Xa @hn ?_
  exact k _ (bR)
def InJ (n:Int) (E:Int × Int) (w:World) (l:List Value) (w':World):Prop:=Bw w w' ∧ ∃ (v:Value) (r s x y:Int),l = [v,.int .i64 r,.int .i64 s,.int .i64 x,.int .i64 y] ∧ (0 ≤ s ∧ s < n) ∧ (0 ≤ r ∧ r ≤ n) ∧ (0 ≤ x ∧ x < 2305843009213693952) ∧ (0 ≤ y ∧ y < 2305843009213693952) ∧ a4d n r s x y = E
def g6g (l:List Value) (_:World):Nat:=match l with | [_,_,.int _ s,_,_]=>s.toNat | _=>0
theorem f4v (v r x y:Value) (k:IntKind) (s:Int) (w:World):g6g [v,r,.int k s,x,y] w = s.toNat:=rfl
theorem a8i (n r x y:Int):a4d n r 0 x y = (r,x):=c9x n _ r x y
theorem d3z (n a:Int) (k:∀ w',Bw w w' → K (.tuple #[.int .i64 ((b4g n a).getD 0),.bool (b4g n a).isSome]) w'):a0a Tryz.prog 143 #[.int .i64 n,.int .i64 a] K w:=by
 apply d5i
 unfold e9v
 refine a3x n ?_
 by_cases hn:okN n
 ·have hn':=hn
  obtain ⟨h1,h2⟩:=hn'
  have ha:=Int.emod_nonneg a (b:=n) (by omega)
  have ha2:=Int.emod_lt_of_pos a (b:=n) (by omega)
  have kk:∀ r x w',(r,x) = a4d n n (a % n) 0 1 → Bw w w' → K (.tuple #[.int .i64 (if r = 1 then x % n else 0),.bool (decide (r = 1))]) w':=fun r x w' e hb=>by
   have k:=k w' hb
   unfold b4g at k
   rw [if_pos hn,← e] at k
   by_cases hr:r = 1
   ·simpa [hr] using k
   ·simpa [hr] using k
  clear k
  refine Xa @hn ?_
  refine a2h n a hn ?_
  generalize a % n = s0 at *
  generalize hE:a4d n n s0 0 1 = E at *
  refine Xa0 ?_
  refine ⟨InJ n E w,g6g,⟨bR,_,n,s0,0,1,rfl,⟨ha,ha2⟩,⟨by omega,by omega⟩,⟨by omega,by omega⟩,⟨by omega,by omega⟩,hE⟩,?_⟩
  clear hE ha ha2 s0
  rintro _ _ w1 ⟨hb1,v,r,s,x,y,rfl,hs,hr,hx,hy,he⟩
  have hz:=hb1.size
  by_cases h0:s = 0
  ·subst h0
   rw [a8i] at he
   have kk:=kk r x w1 he hb1
   have e1:x.tmod n = x % n:=Int.tmod_eq_emod_of_nonneg hx.1
   by_cases hr1:r = 1
   ·simp only [hr1] at kk
    refine Xa (An2 @hr1 @e1) ?_
    simpa using kk
   ·simp only [hr1] at kk
    refine Xa @hr1 ?_
    simpa using kk
  ·rw [c2z n r s x y (by omega)] at he
   have q1:r.tdiv s = r / s:=Int.tdiv_eq_ediv_of_nonneg hr.1
   have q2:=Int.emod_add_mul_ediv r s
   have q3:=Int.emod_nonneg r (b:=s) (by omega)
   have q4:=Int.emod_lt_of_pos r (b:=s) (by omega)
   have q5:0 ≤ r / s:=Int.ediv_nonneg hr.1 hs.1
   have q6:r / s ≤ r:=Int.ediv_le_self _ hr.1
   have q7:r / s * s = r - r % s:=by rw [Int.mul_comm]; omega
   have m1:=b0n n (r / s) y hn
   have m2:=b0o n x (a2n n (r / s) y) hn
   generalize r % s = t at *
   generalize r / s = q at *
   clear q2
   have q8:r - (r - t) = t:=by omega
   refine Xa (An3 @q1 @q7 @q8) ?_
   refine b2s n q y (fun w2 hb2=>?_)
   refine c0b n x _ ?_
   generalize a3g n x (a2n n q y) = z at *
   refine Xa0 ?_
   refine ⟨⟨hb1.trans (hb2.mono hz),_,s,t,y,z,rfl,⟨q3,by omega⟩,⟨hs.1,by omega⟩,hy,⟨m2.1,by omega⟩,he⟩,?_⟩
   simp only [f4v]
   omega
 ·have k:=k _ (bR)
  unfold b4g at k
  rw [if_neg hn] at k
  refine Xa @hn ?_
  exact k
theorem d4a (n a b:Int) (hbr:-9223372036854775808 ≤ b ∧ b < 9223372036854775808) (k:∀ w',Bw w w' → K (.int .i64 (e2u n a b)) w'):a0a Tryz.prog 170 #[.int .i64 n,.int .i64 a,.int .i64 b] K w:=by
 apply d5j
 unfold e9w
 refine a3x n ?_
 unfold e2u at k
 by_cases hn:okN n
 ·have hn':=hn
  obtain ⟨h1,h2⟩:=hn'
  rw [if_pos hn] at k
  by_cases h0:0 ≤ b
  ·rw [if_pos h0] at k
   have ha:=Int.emod_nonneg a (b:=n) (by omega)
   have ha2:=Int.emod_lt_of_pos a (b:=n) (by omega)
   obtain ⟨c,rfl⟩:=c7o b h0
   rw [Int.toNat_natCast,← c7x] at k
   refine Xa @hn ?_
   refine a2h n a hn ?_
   generalize a % n = x at *
   refine Xa0 ?_
   refine b6h n x c hn ⟨ha,ha2⟩ (by omega) (fun w1 hb1=>?_)
   have hr:=a9p n x c (by omega)
   have k:=k w1 hb1
   generalize pw n x c = z at *
   refine Xa0 ?_
   exact k
  ·rw [if_neg h0] at k
   refine Xa @hn ?_
   refine d3z n a (fun w1 hb1=>?_)
   have hz:=hb1.size
   cases hi:b4g n a with
   | none=>
    rw [hi] at k
    have k:=k w1 hb1
    refine Xa0 ?_
    exact k
   | some x=>
    rw [hi] at k
    have hx:0 ≤ x ∧ x < n:=by
     unfold b4g at hi
     rw [if_pos hn] at hi
     split at hi
     ·cases hi; exact ⟨Int.emod_nonneg _ (by omega),Int.emod_lt_of_pos _ (by omega)⟩
     ·cases hi
    obtain ⟨c,hc⟩:=c7o (-b) (by omega)
    rw [hc,Int.toNat_natCast] at k
    have hw:IntKind.u64.wrap (-(IntKind.u64.wrap b)) = (c:Int):=by
     simp only [IntKind.wrap_u64]; omega
    have hw2:b % 18446744073709551616 = b + 18446744073709551616:=by omega
    simp only [Option.getD_some,Option.isSome_some]
    refine Xa @hw ?_
    refine b6h n x c hn hx (by omega) (fun w2 hb2=>?_)
    have hr:=a9p n x c (by omega)
    have k:K (.int .i64 (pw n x c)) w2:=k w2 (hb1.trans (hb2.mono hz))
    generalize pw n x c = z at *
    refine Xa0 ?_
    exact k
 ·rw [if_neg hn] at k
  refine Xa @hn ?_
  exact k _ (bR)
def DbT (w:World):Prop:=2 < w.heap.size ∧ ∀ j,j < 64 → w.cell? ⟨2,j,none⟩ = some (.int .u8 (Lib.deBruijn64tab.getD j 0:Nat))
theorem DbT.below {w w':World} {B:Nat} (h:DbT w) (hb:Below B w w') (hB:w.heap.size ≤ B):DbT w':=
 ⟨lL h.1 hb.size,fun j hj=>by rw [hb.cell (show 2 < B from lL h.1 hB)]; exact h.2 j hj⟩
theorem f8l (k m:Nat):tz k m = Lib.ctzFrom k m:=by
 induction k generalizing m with
 | zero=>rfl
 | succ k ih=>
  unfold tz Lib.ctzFrom
  rw [ih]
  by_cases h:m % 2 = 0
  ·rw [if_pos h,if_neg (by omega),Nat.add_comm]
  ·rw [if_neg h,if_pos (by omega)]
theorem f8m (q:Nat):IntKind.u64.wrap ((q:Int) * 285870213051353865) / 288230376151711744 = ((q * 285870213051353865 % 18446744073709551616 / 288230376151711744:Nat):Int):=by
 rw [IntKind.wrap_u64]; omega
theorem f4x {j:Nat} (hj:j < 64) (w:World):(Instr.indexAt 244 (.pointer (some ⟨2,0,none⟩)) (.int .u64 j)).run Tryz.prog w = .ok (.pointer (some ⟨2,j,none⟩)) w:=by
 rw [run_indexAt_array (h:=by kernel_rfl)]
 have hs:(sizeOf (Tryz.prog.elem 244)).run Tryz.prog w = .ok 1 w:=by kernel_rfl
 have hl:Tryz.prog.arrayLen 244 = 64:=by kernel_rfl
 rw [hl,if_pos (by omega),hs]
 simp only [Result.andThen,Int.toNat_natCast,a1w,Nat.zero_add,Nat.mul_one]
theorem f4y (x:Nat) (hx0:0 < x) (hx:x < 18446744073709551616) (hT:DbT w) (h:K (.int .i64 (tz 64 x:Nat)) w):a0a Tryz.prog 220 #[.int .u64 (x:Int)] K w:=by
 apply d5k
 unfold e9x
 obtain ⟨hlow,hk⟩:=Lib.lowest_bit 64 x (by omega) (by omega)
 obtain ⟨hi,htab⟩:=Lib.deBruijn64_at _ hk
 have e0:Lib.ctz 64 x = tz 64 x:=by rw [f8l,Lib.ctz,if_neg (by omega)]
 rw [e0] at hlow htab hi
 have e1:IntKind.u64.wrap (-(x:Int)) = ((18446744073709551616 - x:Nat):Int):=by rw [IntKind.wrap_u64]; omega
 have e2:bits .and .u64 (x:Int) ((18446744073709551616 - x:Nat):Int) = ((2 ^ tz 64 x:Nat):Int):=by
  rw [c2f _ _ (by omega) (by omega),Int.toNat_natCast,Int.toNat_natCast]
  exact congrArg _ hlow
 have e3:=f8m (2 ^ tz 64 x)
 have hc:=hT.2 _ hi
 rw [htab] at hc
 have hix:=f4x hi w
 generalize 2 ^ tz 64 x * 285870213051353865 % 18446744073709551616 / 288230376151711744 = j at *
 generalize (2 ^ tz 64 x:Nat) = q at *
 have hk2:tz 64 x < 64:=by rw [← e0]; exact hk
 generalize tz 64 x = t at *
 repeat (any_goals (first
 | (rw [kI,a2x,hix,c4h])
 | (with_reducible refine yO ?_)
 | ((with_reducible refine oG fun X Y=>?_); simp [go_sem,e1,e2,e3,hc]; (try simp (disch:=omega) only [a0o,a4r,a1v]); apply Y; clear Y X)))
 exact h
def WiJ (n:Int) (k:Nat) (R:Bool) (w:World) (l:List Value) (w':World):Prop:=Bw w w' ∧ ∃ (v:Value) (x:Int) (i:Nat),l = [v,.int .u64 x,.int .i64 (i:Int)] ∧ i ≤ k ∧ (0 ≤ x ∧ x < n) ∧ d1y n (k - i) x = R
def g4c (k:Nat) (l:List Value) (_:World):Nat:=match l with | [_,_,.int _ i]=>k - i.toNat | _=>0
theorem d4f (k:Nat) (x y:Value) (q:IntKind) (i:Int) (w:World):g4c k [x,y,.int q i] w = k - i.toNat:=rfl
theorem d1x (n b:Int) (hn:okN n) (h2:2 ≤ n) (hb:0 ≤ b ∧ b < n) (hT:DbT w) (k:∀ w',Bw w w' → K (.bool (!b1c n b)) w'):a0a Tryz.prog 202 #[.int .i64 n,.int .u64 b] K w:=by
 apply d5l
 unfold e9y
 have hn':=hn
 obtain ⟨h1,h3⟩:=hn'
 obtain ⟨m,hm⟩:=c7o (n - 1) (by omega)
 have hm2:(n - 1).toNat = m:=by omega
 have ht:=f8o 64 m (by omega) (by omega)
 obtain ⟨t,htt⟩:∃ t,t = tz 64 m:=⟨_,rfl⟩
 have ht64:t < 64:=by rw [htt]; exact ht.1
 clear ht
 have hsh:((m:Int)) / 2 ^ t = ((m / 2 ^ t:Nat):Int):=by rw [Int.natCast_ediv,Int.natCast_pow]; rfl
 have hdl:=Nat.div_le_self m (2 ^ t)
 have rr:=fun x=>b3p (P:=Tryz.prog) 150 3 150 .i64 x (t:Int) (by omega) (by omega)
 simp only [Int.toNat_natCast] at rr
 refine Xa @hm ?_
 refine f4y m (by omega) (by omega) hT ?_
 rw [← htt]
 obtain ⟨d,hd⟩:∃ d,d = m / 2 ^ t:=⟨_,rfl⟩
 rw [← hd] at hsh hdl
 have k:∀ w',Bw w w' → K (.bool (!(if pw n b d = 1 then true else d1y n t (pw n b d)))) w':=by
  rw [hd,htt,← hm2]; exact k
 have hp:=a9p n b d (by omega)
 refine Xa (An3 @hm @rr @hsh) ?_
 refine b6h n b d hn hb (by omega) (fun w1 hb1=>?_)
 generalize pw n b d = x at *
 have hz:=hb1.size
 by_cases hx1:x = 1
 ·have k:K (.bool false) w1:=by
   have k:=k w1 hb1
   rw [if_pos hx1] at k
   exact k
  rw [hx1]
  clear rr hsh hdl
  refine Xa0 ?_
  exact k
 ·have k:∀ w',Bw w w' → K (.bool (!d1y n t x)) w':=fun w' hb=>by
   have k:=k w' hb
   rw [if_neg hx1] at k
   exact k
  clear rr hsh hdl
  refine Xa @hx1 ?_
  refine ⟨WiJ n t (d1y n t x) w,g4c t,⟨hb1,_,x,0,rfl,by omega,hp,rfl⟩,?_⟩
  generalize d1y n t x = R at *
  clear hp hx1 hb1 hz w1
  rintro _ _ w1 ⟨hb1,v,y,i,rfl,hi,hx,hR⟩
  have hz:=hb1.size
  by_cases hit:i = t
  ·subst hit
   rw [Nat.sub_self] at hR
   have hR2:R = false:=by rw [← hR]; rfl
   subst hR2
   refine Xa0 ?_
   exact k _ hb1
  ·obtain ⟨j,hj⟩:∃ j,t - i = j + 1:=⟨t - i - 1,by omega⟩
   rw [hj] at hR
   unfold d1y at hR
   by_cases hxn:y = n - 1
   ·rw [if_pos hxn] at hR
    subst hR
    have k:=k _ hb1
    rw [hm] at hxn
    refine Xa (An2 @hm @hxn) ?_
    simpa using k
   ·rw [if_neg hxn] at hR
    rw [hm] at hxn
    refine Xa (An2 @hm @hxn) ?_
    refine b0j n y y hn hx hx (fun w2 hb2=>?_)
    refine Xa0 ?_
    refine ⟨⟨hb1.trans (hb2.mono hz),_,_,i + 1,rfl,by omega,⟨Int.emod_nonneg _ (by omega),Int.emod_lt_of_pos _ (by omega)⟩,?_⟩,?_⟩
    ·rw [show t - (i + 1) = j by omega]; exact hR
    ·simp only [d4f]; omega
def smallV:Array Value:=#[.int .i64 2,.int .i64 3,.int .i64 5,.int .i64 7,.int .i64 11,.int .i64 13,.int .i64 17,.int .i64 19,.int .i64 23,.int .i64 29,.int .i64 31,.int .i64 37]
def PrJ (n:Int) (W:World) (l:List Value) (w':World):Prop:=w' = W ∧ ∃ (v u:Value) (i:Nat),l = [v,u,.int .i64 (i:Int)] ∧ i ≤ 12 ∧ smallP.find? (fun p=>decide (n % p = 0)) = (smallP.drop i).find? (fun p=>decide (n % p = 0))
def g7y (n:Int) (W:World) (l:List Value) (w':World):Prop:=Bw W w' ∧ ∃ (v u:Value) (i:Nat),l = [v,u,.int .i64 (i:Int)] ∧ i ≤ 12 ∧ smallP.all (fun p=>b1c n p) = (smallP.drop i).all (fun p=>b1c n p)
def g4d (l:List Value) (_:World):Nat:=match l with | [_,_,.int _ i]=>12 - i.toNat | _=>0
theorem d4g (x y:Value) (q:IntKind) (i:Int) (w:World):g4d [x,y,.int q i] w = 12 - i.toNat:=rfl
theorem c9t (i:Nat) (hi:i < 12):∃ p,(∀ w,(Instr.index 208 (.agg smallV) (.int .i64 (i:Int))).run Tryz.prog w = .ok (.int .i64 p) w) ∧ smallP.drop i = p :: smallP.drop (i + 1) ∧ 2 ≤ p ∧ p ≤ 37:=by
 rcases i with _ | _ | _ | _ | _ | _ | _ | _ | _ | _ | _ | _ | i
 ·exact ⟨2,fun w=>by kernel_rfl,rfl,by decide,by decide⟩
 ·exact ⟨3,fun w=>by kernel_rfl,rfl,by decide,by decide⟩
 ·exact ⟨5,fun w=>by kernel_rfl,rfl,by decide,by decide⟩
 ·exact ⟨7,fun w=>by kernel_rfl,rfl,by decide,by decide⟩
 ·exact ⟨11,fun w=>by kernel_rfl,rfl,by decide,by decide⟩
 ·exact ⟨13,fun w=>by kernel_rfl,rfl,by decide,by decide⟩
 ·exact ⟨17,fun w=>by kernel_rfl,rfl,by decide,by decide⟩
 ·exact ⟨19,fun w=>by kernel_rfl,rfl,by decide,by decide⟩
 ·exact ⟨23,fun w=>by kernel_rfl,rfl,by decide,by decide⟩
 ·exact ⟨29,fun w=>by kernel_rfl,rfl,by decide,by decide⟩
 ·exact ⟨31,fun w=>by kernel_rfl,rfl,by decide,by decide⟩
 ·exact ⟨37,fun w=>by kernel_rfl,rfl,by decide,by decide⟩
 ·omega
theorem c7s:oM Tryz.prog (Go.Op.build 208 #[(0,(.tmp 0)),(1,(.tmp 1)),(2,(.tmp 2)),(3,(.tmp 3)),(4,(.tmp 4)),(5,(.tmp 5)),(6,(.tmp 6)),(7,(.tmp 7)),(8,(.tmp 8)),(9,(.tmp 9)),(10,(.tmp 10)),(11,(.tmp 11))]) 208 smallV.toList = a0j (.agg smallV):=by
 funext K w
 kernel_rfl
theorem c2w (n:Int) (hT:DbT w) (k:∀ w',Bw w w' → K (.bool (a3b n)) w'):a0a Tryz.prog 169 #[.int .i64 n] K w:=by
 apply d5m
 unfold e9z
 unfold a3b at k
 by_cases h1:n < 2
 ·rw [if_pos (.inl h1)] at k
  refine Xa @h1 ?_
  exact k _ (bR)
 by_cases h2:2305843009213693952 ≤ n
 ·rw [if_pos (.inr h2)] at k
  refine Xa (An2 @h1 @h2) ?_
  exact k _ (bR)
 rw [if_neg (by omega)] at k
 have hn:okN n:=⟨by omega,by omega⟩
 refine Xa (An2 @h1 @h2) ?_
 have bs:=c7s
 unfold smallV at bs
 simp only at bs
 refine Xa @bs ?_
 clear bs
 have hbW:Below w.heap.size w (w.alloc (Obj.cells #[.int .i64 2,.int .i64 3,.int .i64 5,.int .i64 7,.int .i64 11,.int .i64 13,.int .i64 17,.int .i64 19,.int .i64 23,.int .i64 29,.int .i64 31,.int .i64 37] 208)):=(bR).alloc (rL) _
 have hTW:DbT (w.alloc (Obj.cells #[.int .i64 2,.int .i64 3,.int .i64 5,.int .i64 7,.int .i64 11,.int .i64 13,.int .i64 17,.int .i64 19,.int .i64 23,.int .i64 29,.int .i64 31,.int .i64 37] 208)):=hT.below hbW (rL)
 refine ⟨PrJ n (w.alloc (Obj.cells #[.int .i64 2,.int .i64 3,.int .i64 5,.int .i64 7,.int .i64 11,.int .i64 13,.int .i64 17,.int .i64 19,.int .i64 23,.int .i64 29,.int .i64 31,.int .i64 37] 208)),g4d,⟨rfl,_,_,0,rfl,by omega,rfl⟩,?_⟩
 rintro _ _ w1 ⟨e1,v,u,i,rfl,hi,hf⟩
 rw [e1]
 clear e1 w1
 by_cases h12:i = 12
 ·subst h12
  rw [show smallP.drop 12 = [] from rfl,List.find?_nil] at hf
  rw [hf] at k
  simp only at k
  have hnd:=List.find?_eq_none.1 hf
  have hbig:37 < n:=by
   have g:∀ p ∈ smallP,¬ n % p = 0:=fun p hp=>by simpa using hnd p hp
   have hs:∀ m:Nat,m < 38 → 2 ≤ m → ∃ p ∈ smallP,(m:Int) % p = 0:=by decide +kernel
   obtain ⟨m,rfl⟩:=c7o n (by omega)
   by_cases hm:m < 38
   ·obtain ⟨p,hp,hp0⟩:=hs m hm (by omega)
    exact absurd hp0 (g p hp)
   ·omega
  clear hnd hf
  refine Xa0 ?_
  refine ⟨g7y n (w.alloc (Obj.cells #[.int .i64 2,.int .i64 3,.int .i64 5,.int .i64 7,.int .i64 11,.int .i64 13,.int .i64 17,.int .i64 19,.int .i64 23,.int .i64 29,.int .i64 31,.int .i64 37] 208)),g4d,⟨bR,_,_,0,rfl,by omega,rfl⟩,?_⟩
  rintro _ _ w2 ⟨hb2,v2,u2,i,rfl,hi2,hall⟩
  have hb3:=hbW.trans (hb2.mono (by simp))
  have hT2:DbT w2:=hTW.below hb2 (rL)
  by_cases hi12:i = 12
  ·subst hi12
   rw [show smallP.drop 12 = [] from rfl,List.all_nil] at hall
   rw [hall] at k
   refine Xa0 ?_
   exact k _ hb3
  ·obtain ⟨p,hix,hdr,hp2,hp37⟩:=c9t i (by omega)
   unfold smallV at hix
   rw [hdr,List.all_cons] at hall
   have hz2:=hb2.size
   refine Xa @hix ?_
   refine d1x n p hn (by omega) ⟨by omega,by omega⟩ hT2 (fun w3 hb4=>?_)
   cases hps:b1c n p with
   | false=>
    rw [hps,bF] at hall
    rw [hall] at k
    simp only [Bool.not_false]
    refine Xa0 ?_
    exact k _ (hb3.trans (hb4.mono hb3.size))
   | true=>
    rw [hps,bT] at hall
    simp only [Bool.not_true]
    refine Xa0 ?_
    refine ⟨⟨hb2.trans (hb4.mono hz2),_,_,i + 1,rfl,by omega,hall⟩,?_⟩
    simp only [d4g]; omega
 ·obtain ⟨p,hix,hdr,hp2,hp37⟩:=c9t i (by omega)
  unfold smallV at hix
  rw [hdr] at hf
  have er:n.tmod p = n % p:=Int.tmod_eq_emod_of_nonneg (by omega)
  by_cases hd:n % p = 0
  ·rw [List.find?_cons_of_pos (by simpa using hd)] at hf
   rw [hf] at k
   have k:=k _ hbW
   simp only at k
   refine Xa (An3 @hix @er @hd) ?_
   exact k
  ·rw [List.find?_cons_of_neg (by simpa using hd)] at hf
   refine Xa (An3 @hix @er @hd) ?_
   refine ⟨⟨rfl,_,_,i + 1,rfl,by omega,hf⟩,?_⟩
   simp only [d4g]; omega
@[reducible] def c9u (g:Grp):Value:=.agg #[.int .i64 g.P,.int .i64 g.Q,.int .i64 g.G]
def f4z (g:Grp):Prop:=I64 g.P ∧ I64 g.Q ∧ I64 g.G
theorem c0c {g:Grp} (h:g.Q < 5 ∨ 1152921504606846976 ≤ g.Q ∨ g.P ≠ 2 * g.Q + 1 ∨ g.G < 2 ∨ g.P ≤ g.G):a2a g = false:=by
 unfold a2a; rw [if_pos h]
theorem c0d {g:Grp} (h:¬ (g.Q < 5 ∨ 1152921504606846976 ≤ g.Q ∨ g.P ≠ 2 * g.Q + 1 ∨ g.G < 2 ∨ g.P ≤ g.G)):a2a g = (a3b g.Q && a3b g.P && decide (pw g.P g.G g.Q.toNat = 1)):=by
 unfold a2a; rw [if_neg h]
theorem b4d {T T':TypeId} (g:Grp) (k:∀ b W,Bw w W → w.heap.size ≤ b → (∀ w',Bw W w' → w'.cell? ⟨b,0,none⟩ = some (.int .i64 g.P)) → (∀ w',Bw W w' → w'.cell? ⟨b,1,none⟩ = some (.int .i64 g.Q)) → (∀ w',Bw W w' → w'.cell? ⟨b,2,none⟩ = some (.int .i64 g.G)) → K (.pointer (some ⟨b,0,none⟩)) W):oM Tryz.prog (.box T (.tmp 0)) T' [c9u g] K w:=
 f3w (cs:=[.int .i64 g.P,.int .i64 g.Q,.int .i64 g.G]) rfl fun b W h1 h2 hB=>k b W h1 h2 (fun w' h=>hB w' h 0 _ rfl) (fun w' h=>hB w' h 1 _ rfl) (fun w' h=>hB w' h 2 _ rfl)
set_option maxHeartbeats 2000000 in
theorem b2w (g:Grp) (hg:f4z g) (hT:DbT w) (k:∀ w',Bw w w' → K (.bool (a2a g)) w'):a0a Tryz.prog 107 #[c9u g] K w:=by
 apply d5n
 unfold f0a
 refine b4d g fun b W hW hb c0 c1 c2=>?_
 have n1:=c0c (g:=g)
 have n2:=c0d (g:=g)
 obtain ⟨P,Q,G⟩:=g
 obtain ⟨hP,hQ,hG⟩:=hg
 unfold I64 at hP hQ hG
 simp only at hP hQ hG n1 n2 c0 c1 c2
 have hr:=Below.refl W.heap.size W
 have hTW:DbT W:=hT.below hW (rL)
 have k1:∀ w',a2a ⟨P,Q,G⟩ = false → Bw W w' → K (.bool false) w':=fun w' e hb=>by rw [e] at k; exact k w' (hW.on hb)
 have k2:∀ w' v,a2a ⟨P,Q,G⟩ = v → Bw W w' → K (.bool v) w':=fun w' v e hb=>by rw [e] at k; exact k w' (hW.on hb)
 clear k
 repeat (any_goals (first
 | (with_reducible first|((refine d1d ?_); first|refine zD ?_|((refine b9s ?_); first|refine zI ?_|refine zJ ?_|refine zK (fun hg=>?_) fun hg=>?_)|((refine e7v ?_); first|refine zO ?_|refine zP ?_|refine zQ (fun hg=>?_) fun hg=>?_))|((refine b3q ?_); first|refine yB ?_|refine yD ?_|refine yE ?_|refine yF ?_|refine yG ?_)|((refine a4z ?_); first|refine yL ?_|refine yP (fun hg=>?_) fun hg=>?_))
 | ((with_reducible refine oG fun X Y=>?_); simp [go_sem,c0,c1,c2,hr]; (try simp (disch:=omega) only [a0o,a4r,a1v]); apply Y; clear Y X)))
 all_goals try exact k1 _ (n1 (by omega)) hr
 refine c2w Q hTW (fun w1 h1=>?_)
 have n2:=n2 (by omega)
 cases hq:a3b Q with
 | false=>
  have n2:a2a ⟨P,Q,G⟩ = false:=by rw [n2,hq]; rfl
  refine Xa0 ?_
  exact k1 _ n2 h1
 | true=>
  rw [hq,bT] at n2
  refine Xa (An2 @c0 @h1) ?_
  refine c2w P (hTW.below h1 (rL)) (fun w2 h2=>?_)
  have h2:=h1.on h2
  cases hp:a3b P with
  | false=>
   have n2:a2a ⟨P,Q,G⟩ = false:=by rw [n2,hp]; rfl
   refine Xa0 ?_
   exact k1 _ n2 h2
  | true=>
   rw [hp,bT] at n2
   refine Xa (An4 @c0 @c1 @c2 @h2) ?_
   refine d4a P G Q hQ (fun w3 h3=>?_)
   have e:e2u P G Q = pw P G Q.toNat:=by unfold e2u; rw [if_pos (by unfold okN; omega),if_pos (by omega)]
   rw [e]
   generalize pw P G Q.toNat = z at *
   have h3:=h2.on h3
   refine Xa0 ?_
   exact k2 _ _ n2 h3
theorem b4e (g:Grp) (x:Int) (hgr:f4z g) (hT:DbT w) (k:∀ w',Bw w w' → K (.bool (a8l g x)) w'):a0a Tryz.prog 109 #[c9u g,.int .i64 x] K w:=by
 apply d5o
 unfold f0b
 refine b4d g fun b W hW hb c0 c1 c2=>?_
 have hr:=Below.refl W.heap.size W
 have hTW:DbT W:=hT.below hW (rL)
 have k2:∀ w' v,a8l g x = v → Bw W w' → K (.bool v) w':=fun w' v e hb=>by rw [← e]; exact k w' (hW.on hb)
 have e0:a8l g x = (decide (1 ≤ x) && decide (x < g.P) && a2a g && decide (pw g.P x g.Q.toNat = 1)):=rfl
 clear k
 repeat (any_goals (first
 | (with_reducible first|refine a4i ?_|((refine d1d ?_); first|refine zB ?_|((refine b9s ?_); first|refine zF ?_|refine zG ?_|refine zH (fun hg=>?_) fun hg=>?_))|((refine b3q ?_); first|refine yC ?_|refine yD ?_|refine yE ?_))
 | ((with_reducible refine oG fun X Y=>?_); simp [go_sem,c0,c1,c2,hr]; apply Y; clear Y X)))
 ·refine b2w g hgr hTW (fun w1 h1=>?_)
  cases hv:a2a g with
  | false=>
   refine Xa0 ?_
   exact k2 _ _ (by rw [e0,hv]; simp) h1
  | true=>
   have hv2:=hv
   unfold a2a at hv2
   split at hv2
   ·cases hv2
   rename_i hn
   repeat (any_goals (first
   | (with_reducible first|refine a4i ?_|refine zA ?_|refine yD ?_)
   | ((with_reducible refine oG fun X Y=>?_); simp [go_sem,c0,c1,h1]; apply Y; clear Y X)))
   refine d4a g.P x g.Q hgr.2.1 (fun w3 h3=>?_)
   have e:e2u g.P x g.Q = pw g.P x g.Q.toNat:=by unfold e2u; rw [if_pos (by unfold okN; omega),if_pos (by omega)]
   rw [e]
   have e1:a8l g x = decide (pw g.P x g.Q.toNat = 1):=by rw [e0,hv]; simp; omega
   generalize pw g.P x g.Q.toNat = z at *
   repeat (any_goals (first
   | (with_reducible first|refine zA ?_|refine yB ?_)
   | ((with_reducible refine oG fun X Y=>?_); simp [go_sem]; apply Y; clear Y X)))
   exact k2 _ _ e1 (h1.on h3)
 ·exact k2 _ _ (by rw [e0]; simp; omega) hr
 ·exact k2 _ _ (by rw [e0]; simp; omega) hr
theorem c9v (g:Grp) (x n:Int) (k:∀ w',Bw w w' → K (.int .i64 (a5u g x n)) w'):a0a Tryz.prog 46 #[c9u g,.int .i64 x,.int .i64 n] K w:=by
 apply e4f
 unfold f9b
 refine b4d g fun b W hW hb c0 c1 c2=>?_
 have hr:=Below.refl W.heap.size W
 have k2:∀ w' v,a5u g x n = v → Bw W w' → K (.int .i64 v) w':=fun w' v e hb=>by rw [← e]; exact k w' (hW.on hb)
 clear k
 refine Xa (An4 @c0 @c1 @c2 @hr) ?_
 refine a3x g.P ?_
 by_cases hp:okN g.P
 ·by_cases hq:okN g.Q
  ·refine Xa (An4 @c0 @c1 @c2 @hr) ?_
   refine a3x g.Q ?_
   refine Xa (An4 @c0 @c1 @c2 @hr) ?_
   refine ⟨Below W.heap.size W,.drawn,?_⟩
   have hp':=hp
   have hq':=hq
   obtain ⟨h1,h2⟩:=hp'
   obtain ⟨h3,h4⟩:=hq'
   have a1:=Int.emod_nonneg x (b:=g.P) (by omega)
   have a2:=Int.emod_lt_of_pos x (b:=g.P) (by omega)
   have a3:=Int.emod_nonneg n (b:=g.Q) (by omega)
   have a4:=Int.emod_lt_of_pos n (b:=g.Q) (by omega)
   have e0:a5u g x n = pw g.P (x % g.P) (n % g.Q).toNat:=by unfold a5u; rw [if_pos ⟨hp,hq⟩,c7x]
   obtain ⟨m,hm⟩:=c7o (n % g.Q) a3
   rw [hm,Int.toNat_natCast] at e0
   have hr:=a9p g.P (x % g.P) m (by omega)
   refine Xc (fun W0 hW0=>An3 (c0 _ hW0) (c1 _ hW0) (c2 _ hW0)) ?_
   refine a1j (fun W0 hW0=>a2h g.P x hp ⟨rfl,hW0⟩) ?_
   refine Xc (fun W0 hW0=>An3 (c0 _ hW0) (c1 _ hW0) (c2 _ hW0)) ?_
   refine a1j (fun W0 hW0=>a2h g.Q n hq ⟨rfl,hW0⟩) ?_
   rw [hm]
   refine a1j (fun W0 hW0=>b6h g.P (x % g.P) m hp ⟨a1,a2⟩ (by omega) (fun w' hw'=>⟨rfl,hW0.on hw'⟩)) ?_
   generalize pw g.P (x % g.P) m = z at *
   have e3:IntKind.i64.wrap z = z:=a0o z (by omega) (by omega)
   refine Xg @e3 ?_
   intro w' hw'
   exact k2 _ _ e0 hw'
  ·have e0:a5u g x n = 0:=by unfold a5u; rw [if_neg (fun h=>hq h.2)]
   refine Xa (An4 @c0 @c1 @c2 @hr) ?_
   refine a3x g.Q ?_
   refine Xa (An4 @c0 @c1 @c2 @hr) ?_
   exact k2 _ _ e0 hr
 ·have e0:a5u g x n = 0:=by unfold a5u; rw [if_neg (fun h=>hp h.1)]
  refine Xa (An4 @c0 @c1 @c2 @hr) ?_
  exact k2 _ _ e0 hr
theorem e3s (g:Grp) (x n:Int) (k:∀ w',Bw w w' → K (.int .i64 (b1d g x n)) w'):a0a Tryz.prog 178 #[c9u g,.int .i64 x,.int .i64 n] K w:=by
 apply d5p
 unfold f0c
 refine b4d g fun b W hW hb c0 c1 c2=>?_
 have hr:=Below.refl W.heap.size W
 have k2:∀ w' v,b1d g x n = v → Bw W w' → K (.int .i64 v) w':=fun w' v e hb=>by rw [← e]; exact k w' (hW.on hb)
 clear k
 refine Xa (An4 @c0 @c1 @c2 @hr) ?_
 refine a3x g.Q ?_
 by_cases hq:okN g.Q
 ·refine Xa (An4 @c0 @c1 @c2 @hr) ?_
  refine b2s g.P x n (fun w1 h1=>?_)
  exact k2 _ _ (by unfold b1d; rw [if_pos hq]) h1
 ·refine Xa (An4 @c0 @c1 @c2 @hr) ?_
  exact k2 _ _ (by unfold b1d; rw [if_neg hq]) hr
def PdJ (g:Grp) (R:Int) (ps:List (Int × Int)) (W:World) (l:List Value) (w':World):Prop:=Bw W w' ∧ ∃ (v u:Value) (o:Int) (i:Nat),l = [v,u,.int .i64 o,.int .i64 (i:Int)] ∧ i ≤ ps.length ∧ b4h g o (ps.drop i) = R
def g6h (n:Nat) (l:List Value) (_:World):Nat:=match l with | [_,_,_,.int _ i]=>n - i.toNat | _=>0
theorem f5a (n:Nat) (x y z:Value) (q:IntKind) (i:Int) (w:World):g6h n [x,y,z,.int q i] w = n - i.toNat:=rfl
theorem e3t (a b:List Int) (i:Nat) (h1:i < a.length) (h2:i < b.length):(a.zip b).drop i = (a[i],b[i]) :: (a.zip b).drop (i + 1):=by
 rw [List.drop_eq_getElem_cons (by rw [List.length_zip]; omega),List.getElem_zip]
@[go_sem] theorem e3u (T:TypeId) (b o n c:Nat) (x:Int):oM Tryz.prog (.indexAddr 24 (.tmp 0) (.tmp 1)) T [.slice (some ⟨b,o,none⟩) n c,.int .i64 x] = onM (0 ≤ x ∧ x < n) (.pointer (some ⟨b,o + x.toNat,none⟩)):=by
 funext K w
 rw [a2x,run_indexAt_slice (h:=by kernel_rfl)]
 have hs:(sizeOf (Tryz.prog.elem 24)).run Tryz.prog w = .ok 1 w:=by kernel_rfl
 by_cases hi:0 ≤ x ∧ x < n
 ·rw [if_pos hi,hs]
  simp only [Result.andThen,a1w,Nat.mul_one,c4h]
  exact propext ⟨fun h=>⟨hi,h⟩,fun h=>h.2⟩
 ·rw [if_neg hi]
  obtain ⟨e',w',he⟩:=c9b Value Tryz.prog .i64 x n .index w
  rw [he]
  exact propext ⟨fun h=>h.elim,fun h=>hi h.1⟩
theorem c0e (g:Grp) {bv ev:Value} {bs es:List Int} (hbs:Ints w bv bs) (hes:Ints w ev es) (k:∀ w',Bw w w' → K (.tuple #[.int .i64 (b1n g bs es).1,.bool (b1n g bs es).2]) w'):a0a Tryz.prog 126 #[c9u g,bv,ev] K w:=by
 apply d5q
 unfold f0d
 refine b4d g fun b W hW hb c0 c1 c2=>?_
 have hr:=Below.refl W.heap.size W
 have k2:∀ w' v,b1n g bs es = v → Bw W w' → K (.tuple #[.int .i64 v.1,.bool v.2]) w':=fun w' v e hb=>by rw [← e]; exact k w' (hW.on hb)
 clear k
 obtain ⟨bad,bc,rfl⟩:=hbs.isSlice
 obtain ⟨ead,ec,rfl⟩:=hes.isSlice
 have hbs:=hbs.next hW
 have hes:=hes.next hW
 have l1:=hbs.len
 have l2:=hes.len
 refine Xa (An4 @c0 @c1 @c2 @hr) ?_
 refine a3x g.P ?_
 by_cases hp:okN g.P
 ·by_cases hq:okN g.Q
  ·refine Xa (An4 @c0 @c1 @c2 @hr) ?_
   refine a3x g.Q ?_
   by_cases hl:bs.length = es.length
   ·have e1:(1:Int).tmod g.P = 1 % g.P:=Int.tmod_eq_emod_of_nonneg (by omega)
    have hp0:=hp.1
    have e0:b1n g bs es = (b4h g (1 % g.P) (bs.zip es),true):=by unfold b1n; rw [if_pos ⟨hp,hq,hl⟩]
    have hzl:(bs.zip es).length = bs.length:=by rw [List.length_zip]; omega
    refine Xa (An6 @c0 @c1 @c2 @hr @hl @e1) ?_
    refine ⟨PdJ g (b4h g (1 % g.P) (bs.zip es)) (bs.zip es) W,g6h es.length,⟨hr,_,_,_,0,rfl,by omega,rfl⟩,?_⟩
    generalize b4h g (1 % g.P) (bs.zip es) = R at *
    rintro _ _ w1 ⟨h1,v,u,o,i,rfl,hi,he⟩
    rw [hzl] at hi
    by_cases hin:i = es.length
    ·rw [List.drop_of_length_le (by omega)] at he
     unfold b4h at he
     refine Xa0 ?_
     rw [he]
     exact k2 _ _ e0 h1
    ·rw [e3t bs es i (by omega) (by omega)] at he
     unfold b4h at he
     obtain ⟨b1,o1,rfl,hb1,ca,ra,_⟩:=hbs.at (i:=i) (by omega)
     obtain ⟨b2,o2,rfl,hb2,cb,rb,_⟩:=hes.at (i:=i) (by omega)
     refine Xa (An3 (ca _ h1) @c0 @h1) ?_
     refine ⟨Below W.heap.size W,h1.trans .drawn,?_⟩
     refine Xc (fun W0 hW0=>An4 (c0 _ hW0) (c1 _ hW0) (c2 _ hW0) (cb _ hW0)) ?_
     refine a1j (fun W0 hW0=>c9v g _ _ (fun w' hw'=>⟨rfl,hW0.on hw'⟩)) ?_
     refine a1j (fun W0 hW0=>b2s _ _ _ (fun w' hw'=>⟨rfl,hW0.on hw'⟩)) ?_
     intro w2 h2
     refine Xa0 ?_
     refine ⟨⟨h2,_,_,_,i + 1,rfl,by rw [hzl]; omega,he⟩,?_⟩
     simp only [f5a]; omega
   ·have e0:b1n g bs es = (0,false):=by unfold b1n; rw [if_neg (fun h=>hl h.2.2)]
    have hl':¬ (bs.length:Int) = es.length:=by omega
    refine Xa (An5 @c0 @c1 @c2 @hr @hl') ?_
    exact k2 _ _ e0 hr
  ·have e0:b1n g bs es = (0,false):=by unfold b1n; rw [if_neg (fun h=>hq h.2.1)]
   refine Xa (An4 @c0 @c1 @c2 @hr) ?_
   refine a3x g.Q ?_
   refine Xa (An4 @c0 @c1 @c2 @hr) ?_
   exact k2 _ _ e0 hr
 ·have e0:b1n g bs es = (0,false):=by unfold b1n; rw [if_neg (fun h=>hp h.1)]
  refine Xa (An4 @c0 @c1 @c2 @hr) ?_
  exact k2 _ _ e0 hr
end
end Go.Proofs
namespace TkSpec
open FdSpec
structure Stp where
 g:Grp
 bases:List Int
 blind:Int
deriving DecidableEq
def a3s (g:Grp) (x:Int):Bool:=!decide (x = 1) && a8l g x
def a1x (s:Stp):Bool:=a2a s.g && decide (2 ≤ s.bases.length) && decide (s.bases.length ≤ 7) && s.bases.all (a3s s.g) && a3s s.g s.blind
end TkSpec
namespace Go.Proofs
open Go Go.Sh Go.RowKit FdSpec TkSpec
section
variable {K:VK} {w:World}
@[reducible] def a6b (s:Stp) (v:Value):Value:=.agg #[.int .i64 s.g.P,.int .i64 s.g.Q,.int .i64 s.g.G,v,.int .i64 s.blind]
@[reducible] def a2r (s:Stp) (v:Value):List Value:=[.int .i64 s.g.P,.int .i64 s.g.Q,.int .i64 s.g.G,v,.int .i64 s.blind]
structure SetR (w:World) (s:Stp) (v:Value):Prop where
 grp:f4z s.g
 ints:Ints w v s.bases
 blind:I64 s.blind
 db:DbT w
theorem DbT.next {w w':World} (h:DbT w) (hb:Bw w w'):DbT w':=h.below hb (rL)
theorem SetR.next {w w':World} {s:Stp} {v:Value} (h:SetR w s v) (hb:Bw w w'):SetR w' s v:=⟨h.grp,h.ints.next hb,h.blind,h.db.next hb⟩
theorem d1i (g:Grp) (x:Int) {b:Nat} (hg:f4z g) (hT:DbT w) (h0:w.cell? ⟨b,0,none⟩ = some (.int .i64 g.P)) (h1:w.cell? ⟨b,1,none⟩ = some (.int .i64 g.Q)) (h2:w.cell? ⟨b,2,none⟩ = some (.int .i64 g.G))
  (k:∀ w',Bw w w' → K (.bool (a3s g x)) w'):a0a Tryz.prog 108 #[.int .i64 x,.pointer (some ⟨b,0,none⟩)] K w:=by
 apply d8x
 unfold f3d
 unfold a3s at k
 by_cases hx:x = 1
 ·have k:=k w (bR)
  refine Xa (An3 @h0 @h1 @h2) ?_
  simpa [hx] using k
 ·refine Xa (An3 @h0 @h1 @h2) ?_
  refine b4e g x hg hT (fun w' hw=>?_)
  have k:=k w' hw
  refine Xa0 ?_
  simpa [hx] using k
def VsJ (s:Stp) (L:List (Addr × Value)) (R:Bool) (w0:World) (l:List Value) (w':World):Prop:=Kn w0 L w' ∧ ∃ (v u:Value) (i:Nat),l = [v,u,.int .i64 (i:Int)] ∧ i ≤ s.bases.length ∧ (s.bases.drop i).all (a3s s.g) = R
def f4f (n:Nat) (l:List Value) (_:World):Nat:=match l with | [_,_,.int _ i]=>n - i.toNat | _=>0
theorem b9o (n:Nat) (x y:Value) (q:IntKind) (i:Int) (w:World):f4f n [x,y,.int q i] w = n - i.toNat:=rfl
theorem a4c (s:Stp) {v:Value} (hs:SetR w s v) (k:∀ w',Bw w w' → K (.bool (a1x s)) w'):a0a Tryz.prog 21 #[a6b s v] K w:=by
 apply e5v
 unfold g0r
 obtain ⟨ad,c,rfl⟩:=hs.ints.isSlice
 refine a0l (cs:=a2r s (.slice ad s.bases.length c)) rfl (.start w) fun b W hk hb1 hb=>?_
 have k2:∀ w' r,a1x s = r → Bw w w' → K (.bool r) w':=fun w' r e hb=>by rw [← e]; exact k w' hb
 have e0:a1x s = (a2a s.g && decide (2 ≤ s.bases.length) && decide (s.bases.length ≤ 7) && s.bases.all (a3s s.g) && a3s s.g s.blind):=rfl
 have hl:=hs.ints.len
 clear k
 refine Xa hk.cells ?_
 refine b2w s.g hs.grp (hs.db.next hk.below) (fun w1 h1=>?_)
 have hk:=hk.next h1
 clear h1 hb1
 cases hv:a2a s.g with
 | false=>
  refine Xa0 ?_
  exact k2 _ _ (by rw [e0,hv]; simp) hk.below
 | true=>
  repeat (any_goals (first
  | (with_reducible first|((refine d1d ?_); first|refine zC ?_|((refine b9s ?_); first|refine zI ?_|refine zJ ?_|refine zK (fun hg=>?_) fun hg=>?_))|((refine b3q ?_); first|refine yC ?_|refine yD ?_|refine yE ?_)|((refine a4z ?_); first|refine yL ?_|refine yP (fun hg=>?_) fun hg=>?_))
  | ((with_reducible refine oG fun X Y=>?_); simp [go_sem,hk.cells]; apply Y; clear Y X)))
  ·exact k2 _ _ (by rw [e0]; simp; omega) hk.below
  ·exact k2 _ _ (by rw [e0]; simp; omega) hk.below
  have e1:a1x s = (s.bases.all (a3s s.g) && a3s s.g s.blind):=by
   rw [e0,hv,decide_eq_true (by omega:2 ≤ s.bases.length),decide_eq_true (by omega:s.bases.length ≤ 7)]; rfl
  refine ⟨VsJ s _ (s.bases.all (a3s s.g)) w,f4f s.bases.length,⟨hk,_,_,0,rfl,by omega,rfl⟩,?_⟩
  generalize s.bases.all (a3s s.g) = R at *
  rintro _ _ w2 ⟨hk,u1,u2,i,rfl,hi,hall⟩
  have hc:=hk.cells
  by_cases hin:i = s.bases.length
  ·rw [List.drop_of_length_le (by omega),List.all_nil] at hall
   subst hall
   refine Xa @hc ?_
   refine b0c (by kernel_rfl) ?_
   refine d1i s.g s.blind hs.grp (hs.db.next hk.below) hc.1 hc.2.1 hc.2.2.1 (fun w3 h3=>?_)
   exact k2 _ _ (by rw [e1,bT]) (hk.next h3).below
  ·rw [List.drop_eq_getElem_cons (by omega),List.all_cons] at hall
   obtain ⟨b1,o1,rfl,hb1,ca,ra,_⟩:=hs.ints.at (i:=i) (by omega)
   refine Xa (ca _ hk.below) ?_
   refine b0c (by kernel_rfl) ?_
   refine d1i s.g _ hs.grp (hs.db.next hk.below) hc.1 hc.2.1 hc.2.2.1 (fun w3 h3=>?_)
   cases ho:a3s s.g s.bases[i] with
   | false=>
    rw [ho,bF] at hall
    subst hall
    refine Xa0 ?_
    exact k2 _ _ (by rw [e1,bF]) (hk.next h3).below
   | true=>
    rw [ho,bT] at hall
    refine Xa0 ?_
    refine ⟨⟨hk.next h3,_,_,i + 1,rfl,by omega,hall⟩,?_⟩
    simp only [b9o]; omega
end
section
variable {K:VK} {w w0:World} {L:List (Addr × Value)}
theorem a8g (w:World) (l:List Int) (T:TypeId) (c:Nat) (hr:∀ n ∈ l,I64 n) (hl:l.length ≤ 9223372036854775807):Ints (w.alloc (.cells (l.map (Value.int .i64)).toArray T)) (.slice (some ⟨w.heap.size,0,none⟩) l.length c) l:=by
 refine ⟨⟨_,c,rfl,by simp,?_⟩,hr,hl⟩
 by_cases h0:l = []
 ·exact .inl h0
 ·refine .inr ⟨_,0,rfl,by simp,fun k x hk=>?_⟩
  rw [a3z] at hk
  rw [Nat.zero_add]
  have:=World.cell?_alloc_at (w:=w) (l.map (Value.int .i64)).toArray T w.heap.size k rfl
  rw [this]
  simpa using hk
theorem mk1 {T:TypeId} (x:Int) (hx:I64 x) (k:∀ v W,Bw w W → Ints W v [x] → K v W):oM Tryz.prog (.buildSlice 24 1 #[(0,.tmp 0)]) T [.int .i64 x] K w:=by
 rw [a1a]
 have e:(Instr.buildSlice 24 1 #[(0,.int .i64 x)]).run Tryz.prog w = .ok (.slice (some ⟨w.heap.size,0,none⟩) 1 1) (w.alloc (.cells #[.int .i64 x] 3)):=by kernel_rfl
 rw [e]
 exact k _ _ ((Below.refl _ w).alloc (rL) _) (a8g w [x] _ 1 (by simpa using hx) (by simp))
theorem mk2 {T:TypeId} (x y:Int) (hx:I64 x) (hy:I64 y) (k:∀ v W,Bw w W → Ints W v [x,y] → K v W):oM Tryz.prog (.buildSlice 24 2 #[(0,.tmp 0),(1,.tmp 1)]) T [.int .i64 x,.int .i64 y] K w:=by
 rw [a3e]
 have e:(Instr.buildSlice 24 2 #[(0,.int .i64 x),(1,.int .i64 y)]).run Tryz.prog w = .ok (.slice (some ⟨w.heap.size,0,none⟩) 2 2) (w.alloc (.cells #[.int .i64 x,.int .i64 y] 3)):=by kernel_rfl
 rw [e]
 exact k _ _ ((Below.refl _ w).alloc (rL) _) (a8g w [x,y] _ 2 (by simp; exact ⟨hx,hy⟩) (by simp))
def IfJ (p:Int → Bool) (l:List Int) (R:Bool) (w0:World) (vs:List Value) (w':World):Prop:=Bw w0 w' ∧ ∃ (v u:Value) (i:Nat),vs = [v,u,.int .i64 (i:Int)] ∧ i ≤ l.length ∧ (l.drop i).any p = R
theorem c7f {v F:Value} {l:List Int} (p:Int → Bool) (hl:Ints w v l)
  (hF:∀ (w':World) (x:Int) (K':VK) (T:TypeId),Bw w w' → I64 x → (∀ w'',Below w'.heap.size w' w'' → K' (.bool (p x)) w'') → oM Tryz.prog (.call { callee:=.value (.tmp 0),args:=#[.tmp 1],argTypes:=#[3] }) T [F,.int .i64 x] K' w')
  (k:∀ w' (r:Int),Bw w w' → decide (0 ≤ r) = l.any p → K (.int .i64 r) w'):a0a Tryz.prog 186 #[v,F] K w:=by
 apply d8v
 unfold f3b
 obtain ⟨ad,c,rfl⟩:=hl.isSlice
 have hll:=hl.len
 refine Xa0 ?_
 refine ⟨IfJ p l (l.any p) w,f4f l.length,⟨bR,_,_,0,rfl,by omega,rfl⟩,?_⟩
 generalize l.any p = R at *
 rintro _ _ w1 ⟨h1,u1,u2,i,rfl,hi,ha⟩
 by_cases hin:i = l.length
 ·rw [List.drop_of_length_le (by omega),List.any_nil] at ha
  refine Xa0 ?_
  exact k _ _ h1 (by rw [← ha]; rfl)
 ·rw [List.drop_eq_getElem_cons (by omega),List.any_cons] at ha
  obtain ⟨b1,o1,rfl,hb1,ca,ra,_⟩:=hl.at (i:=i) (by omega)
  refine Xa (ca _ h1) ?_
  refine hF w1 _ _ _ h1 ra (fun w2 h2=>?_)
  cases hp:p l[i] with
  | true=>
   rw [hp,Bool.true_or] at ha
   refine Xa0 ?_
   exact k _ _ (h1.on h2) (by rw [← ha]; simp)
  | false=>
   rw [hp,Bool.false_or] at ha
   refine Xa0 ?_
   refine ⟨⟨h1.on h2,_,_,i + 1,rfl,by omega,ha⟩,?_⟩
   simp only [b9o]; omega
theorem b9p {v F:Value} {l:List Int} (p:Int → Bool) (hl:Ints w v l)
  (hF:∀ (w':World) (x:Int) (K':VK) (T:TypeId),Bw w w' → I64 x → (∀ w'',Below w'.heap.size w' w'' → K' (.bool (p x)) w'') → oM Tryz.prog (.call { callee:=.value (.tmp 0),args:=#[.tmp 1],argTypes:=#[3] }) T [F,.int .i64 x] K' w')
  (k:∀ w',Bw w w' → K (.bool (l.any p)) w'):a0a Tryz.prog 136 #[v,F] K w:=by
 apply d8w
 unfold f3c
 refine c7f p hl hF (fun w' r hb hr=>?_)
 refine Xa0 ?_
 rw [hr]
 exact k _ hb
end
end Go.Proofs
namespace ShaSpec
abbrev W:=BitVec 32
def a5b (x:W) (k:Nat):W:=x >>> k ||| x <<< (32 - k)
theorem e2q (x:W) (k:Nat):x <<< (32 - k) ||| x >>> k = a5b x k:=BitVec.or_comm _ _
def ch (e f g:W):W:=g ^^^ (e &&& (f ^^^ g))
def maj (a b c:W):W:=(a &&& b) ||| (c &&& (a ||| b))
theorem g5w (e f g:W):(e &&& f) ^^^ (~~~ e &&& g) = ch e f g:=by
 unfold ch
 ext i hi
 simp only [BitVec.getElem_xor,BitVec.getElem_and,BitVec.getElem_not]
 cases e[i] <;> cases f[i] <;> cases g[i] <;> rfl
theorem g3a (a b c:W):(a &&& b) ^^^ (a &&& c) ^^^ (b &&& c) = maj a b c:=by
 unfold maj
 ext i hi
 simp only [BitVec.getElem_xor,BitVec.getElem_and,BitVec.getElem_or]
 cases a[i] <;> cases b[i] <;> cases c[i] <;> rfl
def w8 (b:UInt8):W:=BitVec.ofNat 32 b.toNat
def g5x (b:List UInt8) (k:Nat):W:=w8 (b.getD (4 * k) 0) <<< 24 ||| w8 (b.getD (4 * k + 1) 0) <<< 16 ||| w8 (b.getD (4 * k + 2) 0) <<< 8 ||| w8 (b.getD (4 * k + 3) 0)
def g3b (x:W):W:=a5b x 7 ^^^ a5b x 18 ^^^ x >>> 3
def g3c (y:W):W:=a5b y 17 ^^^ a5b y 19 ^^^ y >>> 10
def at' (l:List W) (k:Nat):W:=l.getD k 0
def b3u (b:List UInt8) (l:List W) (k:Nat):W:=
 if k < 16 then g5x b k else at' l (k - 16) + g3b (at' l (k - 15)) + at' l (k - 7) + g3c (at' l (k - 2))
def a3c (b:List UInt8):Nat → List W
 | 0=>[]
 | n + 1=>a3c b n ++ [b3u b (a3c b n) n]
theorem a1k (b:List UInt8) (n:Nat):(a3c b n).length = n:=by
 induction n with
 | zero=>rfl
 | succ n ih=>simp [a3c,ih]
structure St where
 a:W
 b:W
 c:W
 d:W
 e:W
 f:W
 g:W
 h:W
def St.list (s:St):List W:=[s.a,s.b,s.c,s.d,s.e,s.f,s.g,s.h]
def round (s:St) (k w:W):St:=
 let t1:=s.h + (a5b s.e 6 ^^^ a5b s.e 11 ^^^ a5b s.e 25) + ch s.e s.f s.g + k + w
 ⟨t1 + (a5b s.a 2 ^^^ a5b s.a 13 ^^^ a5b s.a 22) + maj s.a s.b s.c,s.a,s.b,s.c,s.d + t1,s.e,s.f,s.g⟩
def consts:List W:=[
 0x428a2f98,0x71374491,0xb5c0fbcf,0xe9b5dba5,0x3956c25b,0x59f111f1,0x923f82a4,0xab1c5ed5,
 0xd807aa98,0x12835b01,0x243185be,0x550c7dc3,0x72be5d74,0x80deb1fe,0x9bdc06a7,0xc19bf174,
 0xe49b69c1,0xefbe4786,0x0fc19dc6,0x240ca1cc,0x2de92c6f,0x4a7484aa,0x5cb0a9dc,0x76f988da,
 0x983e5152,0xa831c66d,0xb00327c8,0xbf597fc7,0xc6e00bf3,0xd5a79147,0x06ca6351,0x14292967,
 0x27b70a85,0x2e1b2138,0x4d2c6dfc,0x53380d13,0x650a7354,0x766a0abb,0x81c2c92e,0x92722c85,
 0xa2bfe8a1,0xa81a664b,0xc24b8b70,0xc76c51a3,0xd192e819,0xd6990624,0xf40e3585,0x106aa070,
 0x19a4c116,0x1e376c08,0x2748774c,0x34b0bcb5,0x391c0cb3,0x4ed8aa4a,0x5b9cca4f,0x682e6ff3,
 0x748f82ee,0x78a5636f,0x84c87814,0x8cc70208,0x90befffa,0xa4506ceb,0xbef9a3f7,0xc67178f2]
theorem a9c:consts.length = 64:=by decide
def a6a (b:List UInt8) (s:St):Nat → St
 | 0=>s
 | n + 1=>round (a6a b s n) (at' consts n) (at' (a3c b 64) n)
def mix (s:St) (b:List UInt8):St:=
 let v:=a6a b s 64
 ⟨v.a + s.a,v.b + s.b,v.c + s.c,v.d + s.d,v.e + s.e,v.f + s.f,v.g + s.g,v.h + s.h⟩
def first:St:=⟨0x6a09e667,0xbb67ae85,0x3c6ef372,0xa54ff53a,0x510e527f,0x9b05688c,0x1f83d9ab,0x5be0cd19⟩
def a4j (n:Nat):List UInt8:=[7,6,5,4,3,2,1,0].map fun k=>UInt8.ofNat (8 * n / 2 ^ (8 * k))
def a4s (n:Nat):Nat:=(119 - n % 64) % 64
def a2w (s:List UInt8):List UInt8:=s ++ [128] ++ List.replicate (a4s s.length) 0 ++ a4j s.length
theorem a1s (n:Nat):(a4j n).length = 8:=rfl
theorem b3v (s:List UInt8):(a2w s).length % 64 = 0:=by
 simp only [a2w,a4s,List.length_append,List.length_replicate,a1s,List.length_singleton]
 omega
def a9f:Nat → St → List UInt8 → St
 | 0,s,_=>s
 | n + 1,s,b=>a9f n (mix s (b.take 64)) (b.drop 64)
def c7h (w:W):List UInt8:=[UInt8.ofNat (w.toNat / 16777216),UInt8.ofNat (w.toNat / 65536),UInt8.ofNat (w.toNat / 256),UInt8.ofNat w.toNat]
def sha (s:List UInt8):List UInt8:=((a9f ((a2w s).length / 64) first (a2w s)).list.map c7h).flatten
theorem sha_length (s:List UInt8):(sha s).length = 32:=by
 simp [sha,St.list,c7h]
end ShaSpec
namespace Go.Sh
open Go Go.RowKit
def w32 (x:BitVec 32):Value:=.int .u32 (x.toNat:Int)
theorem b6q (n:Nat):IntKind.u32.wrap (n:Int) = ((BitVec.ofNat 32 n).toNat:Int):=by
 rw [IntKind.wrap_u32,BitVec.toNat_ofNat]; omega
theorem a8f (x:BitVec 32):BitVec.ofInt 32 (x.toNat:Int) = x:=by
 rw [BitVec.ofInt_natCast,BitVec.ofNat_toNat,BitVec.setWidth_eq]
theorem d3d (x y:BitVec 32):bits .and .u32 (x.toNat:Int) (y.toNat:Int) = ((x &&& y).toNat:Int):=by
 show IntKind.u32.wrap (((BitVec.ofInt 32 (x.toNat:Int) &&& BitVec.ofInt 32 (y.toNat:Int)).toNat:Nat):Int) = _
 rw [a8f,a8f,b6q,BitVec.ofNat_toNat,BitVec.setWidth_eq]
theorem e2p (x y:BitVec 32):bits .or .u32 (x.toNat:Int) (y.toNat:Int) = ((x ||| y).toNat:Int):=by
 show IntKind.u32.wrap (((BitVec.ofInt 32 (x.toNat:Int) ||| BitVec.ofInt 32 (y.toNat:Int)).toNat:Nat):Int) = _
 rw [a8f,a8f,b6q,BitVec.ofNat_toNat,BitVec.setWidth_eq]
theorem c2k (x y:BitVec 32):bits .xor .u32 (x.toNat:Int) (y.toNat:Int) = ((x ^^^ y).toNat:Int):=by
 show IntKind.u32.wrap (((BitVec.ofInt 32 (x.toNat:Int) ^^^ BitVec.ofInt 32 (y.toNat:Int)).toNat:Nat):Int) = _
 rw [a8f,a8f,b6q,BitVec.ofNat_toNat,BitVec.setWidth_eq]
section
variable {P:Program} {K:VK} {w:World}
theorem f4d (t t' T:TypeId) (x y:BitVec 32):oM P (.binOp .add t (.tmp 0) (.tmp 1) t') T [w32 x,w32 y] = a0j (w32 (x + y)):=by
 have e:IntKind.u32.wrap ((x.toNat:Int) + (y.toNat:Int)) = ((x + y).toNat:Int):=by
  rw [← Int.natCast_add,b6q]
  congr 1
 unfold w32
 rw [f6y,e]
theorem g3v (t t' T:TypeId) (x y:BitVec 32):oM P (.binOp .and t (.tmp 0) (.tmp 1) t') T [w32 x,w32 y] = a0j (w32 (x &&& y)):=by
 funext K w
 unfold w32
 rw [← d3d]
 simp [oM,opM,xop,execOp,a1h,evE,binOp,go_sem]
theorem wor (t t' T:TypeId) (x y:BitVec 32):oM P (.binOp .or t (.tmp 0) (.tmp 1) t') T [w32 x,w32 y] = a0j (w32 (x ||| y)):=by
 funext K w
 unfold w32
 rw [← e2p]
 simp [oM,opM,xop,execOp,a1h,evE,binOp,go_sem]
theorem e3c (t t' T:TypeId) (x y:BitVec 32):oM P (.binOp .xor t (.tmp 0) (.tmp 1) t') T [w32 x,w32 y] = a0j (w32 (x ^^^ y)):=by
 funext K w
 unfold w32
 rw [← c2k]
 simp [oM,opM,xop,execOp,a1h,evE,binOp,go_sem]
theorem f4e (t t' T:TypeId) (yk:IntKind) (x:BitVec 32) (n:Nat) (h:n ≤ 32):oM P (.binOp .shr t (.tmp 0) (.tmp 1) t') T [w32 x,.int yk (n:Int)] = a0j (w32 (x >>> n)):=by
 unfold w32
 rw [e7p t t' T yk _ _ (by omega) (by omega)]
 congr 2
 rw [BitVec.toNat_ushiftRight,Nat.shiftRight_eq_div_pow,Int.toNat_natCast,Int.natCast_ediv,Int.natCast_pow]
 rfl
theorem g2x (t t' T:TypeId) (yk:IntKind) (x:BitVec 32) (n:Nat) (h:n ≤ 32):oM P (.binOp .shl t (.tmp 0) (.tmp 1) t') T [w32 x,.int yk (n:Int)] = a0j (w32 (x <<< n)):=by
 unfold w32
 rw [e7q t t' T yk _ _ (by omega) (by omega)]
 congr 2
 rw [BitVec.toNat_shiftLeft,Nat.shiftLeft_eq,Int.toNat_natCast,Int.natCast_emod,Int.natCast_mul,Int.natCast_pow]
 rfl
end
end Go.Sh
namespace Go.Proofs
open Go Go.Sh Go.RowKit ShaSpec
section
variable {K:VK} {w:World}
theorem a7p (x:W) (r:Nat) (h0:0 < r) (h1:r < 32) (h:K (w32 (a5b x r)) w):a0a Tryz.prog 230 #[w32 x,.int .i64 (-(r:Int))] K w:=by
 apply d8e
 unfold f2l
 have e1:IntKind.u64.wrap (-(r:Int)) = 18446744073709551616 - (r:Int):=by rw [IntKind.wrap_u64]; omega
 have e2:bits .and .u64 (18446744073709551616 - (r:Int)) 31 = ((32 - r:Nat):Int):=by
  rw [c6z 5 _ 31 (by omega) (by decide) (by omega)]; omega
 have e3:IntKind.u64.wrap (32 - ((32 - r:Nat):Int)) = (r:Int):=by rw [IntKind.wrap_u64]; omega
 have s1:=fun t t' T=>g2x (P:=Tryz.prog) t t' T .u64 x (32 - r) (by omega)
 have s2:=fun t t' T=>f4e (P:=Tryz.prog) t t' T .u64 x r (by omega)
 rw [← e2q] at h
 obtain ⟨m,hm⟩:∃ m,m = 32 - r:=⟨_,rfl⟩
 rw [← hm] at e2 e3 s1 h
 refine Xa (An6 @e1 @e2 @e3 @s1 @s2 @wor) ?_
 exact h
@[reducible] def ws (l:List W):List Value:=l.map w32
theorem a9w (l:List W):∀ u ∈ ws l,u.oneCell' = true:=by
 intro u hu
 obtain ⟨x,_,rfl⟩:=List.mem_map.1 hu
 rfl
@[reducible] def stV (s:St):Value:=.agg (ws s.list).toArray
theorem b0s (w:World):(sizeOf 225).run Tryz.prog w = .ok 8 w:=by kernel_rfl
theorem e7a (w:World):(sizeOf 238).run Tryz.prog w = .ok 64 w:=by kernel_rfl
theorem d0y (w:World):(sizeOf 223).run Tryz.prog w = .ok 1 w:=by kernel_rfl
theorem b6p (w:World):(Instr.alloc 225 true (.tuple #[])).run Tryz.prog w = .ok (.pointer (some ⟨w.heap.size,0,none⟩)) (w.alloc (.cells (ws (List.replicate 8 0)).toArray 225)):=by kernel_rfl
theorem e7b (w:World):(Instr.alloc 238 true (.tuple #[])).run Tryz.prog w = .ok (.pointer (some ⟨w.heap.size,0,none⟩)) (w.alloc (.cells (ws (List.replicate 64 0)).toArray 238)):=by kernel_rfl
theorem a8u:Tryz.prog.underlying 225 = some (.array (Tryz.prog.arrayLen 225) (Tryz.prog.elem 225)):=by kernel_rfl
theorem e7c:Tryz.prog.underlying 238 = some (.array (Tryz.prog.arrayLen 238) (Tryz.prog.elem 238)):=by kernel_rfl
@[go_sem] theorem g1h (T:TypeId) (b o:Nat) (x:Int):oM Tryz.prog (.indexAddr 225 (.tmp 0) (.tmp 1)) T [.pointer (some ⟨b,o,none⟩),.int .i64 x] = onM (0 ≤ x ∧ x < (8:Nat)) (.pointer (some ⟨b,o + x.toNat,none⟩)):=
 c2e _ a8u (by kernel_rfl) (by decide) (fun w=>by kernel_rfl) T b o x
@[go_sem] theorem g7b (T:TypeId) (b o:Nat) (x:Int):oM Tryz.prog (.indexAddr 238 (.tmp 0) (.tmp 1)) T [.pointer (some ⟨b,o,none⟩),.int .i64 x] = onM (0 ≤ x ∧ x < (64:Nat)) (.pointer (some ⟨b,o + x.toNat,none⟩)):=
 c2e _ e7c (by kernel_rfl) (by decide) (fun w=>by kernel_rfl) T b o x
theorem c8s:oM Tryz.prog (Go.Op.build 225 #[(0,(.tmp 0)),(1,(.tmp 1)),(2,(.tmp 2)),(3,(.tmp 3)),(4,(.tmp 4)),(5,(.tmp 5)),(6,(.tmp 6)),(7,(.tmp 7))]) 225 [(.int .u32 1779033703),(.int .u32 3144134277),(.int .u32 1013904242),(.int .u32 2773480762),(.int .u32 1359893119),(.int .u32 2600822924),(.int .u32 528734635),(.int .u32 1541459225)] = a0j (stV first):=by
 funext K w
 kernel_rfl
theorem e7d (k:∀ w',Bw w w' → K (stV first) w'):a0a Tryz.prog 213 #[] K w:=by
 apply d8a
 unfold f2h
 refine a1d b6p fun g W hb hg hh=>?_
 rw [c8s]
 refine a4i ?_
 refine a0x b0s (xs:=ws first.list) rfl rfl (a9w _) hh rfl (fun W2 hg2 hh=>?_)
 exact b2g hh a8u rfl (by kernel_rfl) (k _ (a0m hb hg2 hg))
theorem c8t:∀ K w,oM Tryz.prog (Go.Op.build 238 ((List.range 64).map fun i=>(i,Operand.tmp i)).toArray) 238 (ws consts) K w = a0j (.agg (ws consts).toArray) K w:=by
 intro K w
 kernel_rfl
theorem e7e (k:∀ w',Bw w w' → K (.agg (ws consts).toArray) w'):a0a Tryz.prog 229 #[] K w:=by
 apply d8d
 unfold f2k
 refine a1d e7b fun g W hb hg hh=>?_
 refine (c8t _ W).symm ▸ ?_
 refine a4i ?_
 refine a0x e7a (xs:=ws consts) rfl rfl (a9w _) hh rfl (fun W2 hg2 hh=>?_)
 exact b2g hh e7c rfl (by kernel_rfl) (k _ (a0m hb hg2 hg))
def ByR (w:World) (b o:Nat) (l:List UInt8):Prop:=b < w.heap.size ∧ ∀ i,i < l.length → w.cell? ⟨b,o + i,none⟩ = some (.int .u8 ((l.getD i 0).toNat:Int))
theorem ByR.next {w w':World} {b o:Nat} {l:List UInt8} (h:ByR w b o l) (hb:Bw w w'):ByR w' b o l:=
 ⟨lL h.1 hb.size,fun i hi=>by rw [hb.cell h.1]; exact h.2 i hi⟩
theorem e0r (T:TypeId) (x:UInt8):oM Tryz.prog (.convert 5 223 (.tmp 0)) T [.int .u8 (x.toNat:Int)] = a0j (w32 (w8 x)):=by
 funext K w
 have e:IntKind.u32.wrap (x.toNat:Int) = ((w8 x).toNat:Int):=by
  have:=x.toNat_lt
  rw [IntKind.wrap_u32]
  unfold w8
  rw [BitVec.toNat_ofNat]
  omega
 have e2:(convert 5 223 (.int .u8 (x.toNat:Int))).run Tryz.prog w = .ok (.int .u32 (IntKind.u32.wrap (x.toNat:Int))) w:=by kernel_rfl
 rw [b5f,e2,e]
 rfl
@[go_sem] theorem g1i (T:TypeId) (b o n c:Nat) (x:Int):oM Tryz.prog (.indexAddr 202 (.tmp 0) (.tmp 1)) T [.slice (some ⟨b,o,none⟩) n c,.int .i64 x] = onM (0 ≤ x ∧ x < n) (.pointer (some ⟨b,o + x.toNat,none⟩)):=by
 funext K w
 rw [a2x,run_indexAt_slice (h:=by kernel_rfl)]
 have hs:(sizeOf (Tryz.prog.elem 202)).run Tryz.prog w = .ok 1 w:=by kernel_rfl
 by_cases hi:0 ≤ x ∧ x < n
 ·rw [if_pos hi,hs]
  simp only [Result.andThen,a1w,Nat.mul_one,c4h]
  exact propext ⟨fun h=>⟨hi,h⟩,fun h=>h.2⟩
 ·rw [if_neg hi]
  obtain ⟨e',w',he⟩:=c9b Value Tryz.prog .i64 x n .index w
  rw [he]
  exact propext ⟨fun h=>h.elim,fun h=>hi h.1⟩
theorem g1j (t t' T:TypeId) (x:W):oM Tryz.prog (.binOp .shl t (.tmp 0) (.tmp 1) t') T [w32 x,.int .u64 24] = a0j (w32 (x <<< 24)):=g2x t t' T .u64 x 24 (by omega)
theorem g1k (t t' T:TypeId) (x:W):oM Tryz.prog (.binOp .shl t (.tmp 0) (.tmp 1) t') T [w32 x,.int .u64 16] = a0j (w32 (x <<< 16)):=g2x t t' T .u64 x 16 (by omega)
theorem g7c (t t' T:TypeId) (x:W):oM Tryz.prog (.binOp .shl t (.tmp 0) (.tmp 1) t') T [w32 x,.int .u64 8] = a0j (w32 (x <<< 8)):=g2x t t' T .u64 x 8 (by omega)
theorem g7d (t t' T:TypeId) (x:W):oM Tryz.prog (.binOp .shr t (.tmp 0) (.tmp 1) t') T [w32 x,.int .u64 3] = a0j (w32 (x >>> 3)):=f4e t t' T .u64 x 3 (by omega)
theorem g1l (t t' T:TypeId) (x:W):oM Tryz.prog (.binOp .shr t (.tmp 0) (.tmp 1) t') T [w32 x,.int .u64 10] = a0j (w32 (x >>> 10)):=f4e t t' T .u64 x 10 (by omega)
theorem g4v (t t' T:TypeId) (x:W):oM Tryz.prog (.binOp .shr t (.tmp 0) (.tmp 1) t') T [w32 x,.int .u64 24] = a0j (w32 (x >>> 24)):=f4e t t' T .u64 x 24 (by omega)
theorem g4w (t t' T:TypeId) (x:W):oM Tryz.prog (.binOp .shr t (.tmp 0) (.tmp 1) t') T [w32 x,.int .u64 16] = a0j (w32 (x >>> 16)):=f4e t t' T .u64 x 16 (by omega)
theorem g9s (t t' T:TypeId) (x:W):oM Tryz.prog (.binOp .shr t (.tmp 0) (.tmp 1) t') T [w32 x,.int .u64 8] = a0j (w32 (x >>> 8)):=f4e t t' T .u64 x 8 (by omega)
theorem g9t (x:W) (h:K (w32 (a5b x 6)) w):a0a Tryz.prog 230 #[w32 x,.int .i64 (-6)] K w:=a7p x 6 (by omega) (by omega) h
theorem g4x (x:W) (h:K (w32 (a5b x 11)) w):a0a Tryz.prog 230 #[w32 x,.int .i64 (-11)] K w:=a7p x 11 (by omega) (by omega) h
theorem g4y (x:W) (h:K (w32 (a5b x 25)) w):a0a Tryz.prog 230 #[w32 x,.int .i64 (-25)] K w:=a7p x 25 (by omega) (by omega) h
theorem g9u (x:W) (h:K (w32 (a5b x 2)) w):a0a Tryz.prog 230 #[w32 x,.int .i64 (-2)] K w:=a7p x 2 (by omega) (by omega) h
theorem g4z (x:W) (h:K (w32 (a5b x 13)) w):a0a Tryz.prog 230 #[w32 x,.int .i64 (-13)] K w:=a7p x 13 (by omega) (by omega) h
theorem g5a (x:W) (h:K (w32 (a5b x 22)) w):a0a Tryz.prog 230 #[w32 x,.int .i64 (-22)] K w:=a7p x 22 (by omega) (by omega) h
theorem g9v (x:W) (h:K (w32 (a5b x 7)) w):a0a Tryz.prog 230 #[w32 x,.int .i64 (-7)] K w:=a7p x 7 (by omega) (by omega) h
theorem g5b (x:W) (h:K (w32 (a5b x 18)) w):a0a Tryz.prog 230 #[w32 x,.int .i64 (-18)] K w:=a7p x 18 (by omega) (by omega) h
theorem g5c (x:W) (h:K (w32 (a5b x 17)) w):a0a Tryz.prog 230 #[w32 x,.int .i64 (-17)] K w:=a7p x 17 (by omega) (by omega) h
theorem g5d (x:W) (h:K (w32 (a5b x 19)) w):a0a Tryz.prog 230 #[w32 x,.int .i64 (-19)] K w:=a7p x 19 (by omega) (by omega) h
def e0s (b:List UInt8) (k:Nat):List W:=a3c b k ++ List.replicate (64 - k) 0
theorem b2e (b:List UInt8) (k:Nat) (hk:k ≤ 64):(e0s b k).length = 64:=by simp [e0s,a1k]; omega
theorem e0t (b:List UInt8) (k:Nat) (hk:k < 64):(e0s b k).set k (b3u b (a3c b k) k) = e0s b (k + 1):=by
 unfold e0s
 rw [List.set_append_right _ _ (by rw [a1k]; omega),a1k,Nat.sub_self]
 obtain ⟨m,hm⟩:∃ m,64 - k = m + 1:=⟨63 - k,by omega⟩
 rw [hm,List.replicate_succ,List.set_cons_zero,show 64 - (k + 1) = m by omega]
 simp [a3c]
structure SchI (b:List UInt8) (g:Nat) (w0:World) (k:Nat) (w':World):Prop where
 below:Bw w0 w'
 holds:Holds w' g 238 (ws (e0s b k))
structure SchC (b:List UInt8) (g:Nat) (w0:World) (k:Nat) (w':World):Prop where
 one:Bw w0 w'
 two:∀ j,j < k → w'.cell? ⟨g,j,none⟩ = some (w32 (at' (a3c b k) j))
theorem SchC.less {b:List UInt8} {g:Nat} {w0 w':World} {k:Nat} (h:SchC b g w0 (k + 1) w'):SchC b g w0 k w':=by
 refine ⟨h.one,fun j hj=>?_⟩
 rw [h.two j (by omega)]
 have e:at' (a3c b (k + 1)) j = at' (a3c b k) j:=by
  show (a3c b k ++ [b3u b (a3c b k) k]).getD j 0 = (a3c b k).getD j 0
  rw [List.getD_eq_getElem?_getD,List.getElem?_append_left (by rw [a1k]; omega),← List.getD_eq_getElem?_getD]
 rw [e]
theorem f6o (b:List UInt8) (k j:Nat) (hj:j < k):(e0s b k).getD j 0 = at' (a3c b k) j:=by
 unfold e0s at'
 rw [List.getD_eq_getElem?_getD,List.getElem?_append_left (by rw [a1k]; omega),← List.getD_eq_getElem?_getD]
theorem SchI.c {b:List UInt8} {g:Nat} {w0 w':World} {k:Nat} (hk:k ≤ 64) (h:SchI b g w0 k w'):SchC b g w0 k w':=by
 refine ⟨h.below,fun j hj=>?_⟩
 have hl:=b2e b k hk
 rw [h.holds.cell j (by simp [hl]; omega),← f6o b k j hj]
 simp [List.getD_eq_getElem?_getD,hl,show j < 64 by omega]
def g9w (b:List UInt8) (g:Nat) (w0:World) (l:List Value) (w':World):Prop:=∃ (v0 v1 v2 v3 v4:Value) (k:Nat),l = [v0,v1,v2,v3,v4,.int .i64 (k:Int)] ∧ k ≤ 64 ∧ SchI b g w0 k w'
def e7f (l:List Value) (_:World):Nat:=match l with | [_,_,_,_,_,.int _ i]=>64 - i.toNat | _=>0
theorem c3w (a b c d e:Value) (q:IntKind) (i:Int) (w:World):e7f [a,b,c,d,e,.int q i] w = 64 - i.toNat:=rfl
theorem SchI.drew {b:List UInt8} {g:Nat} {w0 w':World} {k:Nat} (h:SchI b g w0 k w'):SchI b g w0 k { w' with drawn:=w'.drawn + 1 }:=
 ⟨h.below.on .drawn,h.holds.next .drawn⟩
theorem SchI.set {b:List UInt8} {g:Nat} {w0 w' W:World} {k:Nat} (h:SchI b g w0 k w') (h0:w0.heap.size ≤ g) (hk:k < 64) (hg:w'.grownBy W (some g)) (hh:Holds W g 238 ((ws (e0s b k)).set k (w32 (b3u b (a3c b k) k)))):SchI b g w0 (k + 1) W:=by
 refine ⟨a0m h.below hg h0,?_⟩
 rw [← e0t b k hk]
 unfold ws at hh ⊢
 rw [List.map_set]
 exact hh
theorem c8u (b:List UInt8) {B o c:Nat} (hl:b.length = 64) (hb:ByR w B o b) (k:∀ w',Bw w w' → K (.agg (ws (a3c b 64)).toArray) w'):a0a Tryz.prog 228 #[.slice (some ⟨B,o,none⟩) 64 c] K w:=by
 apply d8c
 unfold f2j
 refine a1d e7b fun g W hbW hgW hh=>?_
 refine ⟨g9w b g w,e7f,⟨_,_,_,_,_,0,rfl,by omega,hbW,hh⟩,?_⟩
 clear hh hbW W
 rintro _ _ w1 ⟨v0,v1,v2,v3,v4,i,rfl,hi,hI⟩
 have hc:=(hI.c hi)
 by_cases hi64:i < 64
 ·refine Xa0 ?_
  refine ⟨fun _ w'=>SchI b g w (i + 1) w',?_,?_⟩
  ·by_cases h16:i < 16
   ·refine Xa0 ?_
    refine ⟨fun w'=>Bw w w',hI.drew.below,?_⟩
    have hI:=hI.drew
    have cb:∀ j,j < 64 → ∀ w',Bw w w' → w'.cell? ⟨B,o + j,none⟩ = some (.int .u8 ((b.getD j 0).toNat:Int)):=fun j hj w' hw=>(hb.next hw).2 j (by omega)
    have t1:(4 * (i:Int)).toNat = 4 * i:=by omega
    have t2:(4 * (i:Int) + 1).toNat = 4 * i + 1:=by omega
    have t3:(4 * (i:Int) + 2).toNat = 4 * i + 2:=by omega
    have t4:(4 * (i:Int) + 3).toNat = 4 * i + 3:=by omega
    have c1:=cb (4 * i) (by omega)
    have c2:=cb (4 * i + 1) (by omega)
    have c3:=cb (4 * i + 2) (by omega)
    have c4:=cb (4 * i + 3) (by omega)
    have w1:IntKind.i64.wrap (4 * (i:Int)) = 4 * i:=a0o _ (by omega) (by omega)
    have w2:IntKind.i64.wrap (4 * (i:Int) + 1) = 4 * i + 1:=a0o _ (by omega) (by omega)
    have w3:IntKind.i64.wrap (4 * (i:Int) + 2) = 4 * i + 2:=a0o _ (by omega) (by omega)
    have w4:IntKind.i64.wrap (4 * (i:Int) + 3) = 4 * i + 3:=a0o _ (by omega) (by omega)
    refine Xf (fun W0 hW0=>An4 (c1 _ hW0) (c2 _ hW0) (c3 _ hW0) (c4 _ hW0)) (g7p @w1 @w2 @w3 @w4 @t1 @t2 @t3 @t4 @e0r @g1j @g1k @g7c @wor) ?_
    have en:b3u b (a3c b i) i = w8 (b[4 * i]?.getD 0) <<< 24 ||| w8 (b[4 * i + 1]?.getD 0) <<< 16 ||| w8 (b[4 * i + 2]?.getD 0) <<< 8 ||| w8 (b[4 * i + 3]?.getD 0):=by
     unfold b3u g5x
     rw [if_pos h16]
     simp only [List.getD_eq_getElem?_getD]
    rw [← en]
    refine a3q d0y rfl rfl hI.holds (by simp [b2e b i hi,hi64]) (fun W hg2 hh=>?_)
    have hI2:=hI.set hgW hi64 hg2 hh
    exact ⟨hI2.below,hI2⟩
   ·refine Xa0 ?_
    have hI:=hI.drew
    refine ⟨fun w'=>w' = { w1 with drawn:=w1.drawn + 1 },rfl,?_⟩
    generalize ({ w1 with drawn:=w1.drawn + 1 }:World) = w2 at hI ⊢
    have hc:=hI.c hi
    have w1:IntKind.i64.wrap ((i:Int) - 15) = (i:Int) - 15:=a0o _ (by omega) (by omega)
    have w2:IntKind.i64.wrap ((i:Int) - 2) = (i:Int) - 2:=a0o _ (by omega) (by omega)
    have w3:IntKind.i64.wrap ((i:Int) - 16) = (i:Int) - 16:=a0o _ (by omega) (by omega)
    have w4:IntKind.i64.wrap ((i:Int) - 7) = (i:Int) - 7:=a0o _ (by omega) (by omega)
    have t1:((i:Int) - 15).toNat = i - 15:=by omega
    have t2:((i:Int) - 2).toNat = i - 2:=by omega
    have t3:((i:Int) - 16).toNat = i - 16:=by omega
    have t4:((i:Int) - 7).toNat = i - 7:=by omega
    have c1:=hc.two (i - 15) (by omega)
    have c2:=hc.two (i - 2) (by omega)
    refine Xg (An4 @t1 @t2 @c1 @c2) ?_
    repeat (any_goals (first
    | (with_reducible refine g9v _ ?_) | (with_reducible refine g5b _ ?_) | (with_reducible refine g5c _ ?_) | (with_reducible refine g5d _ ?_)
    | ((with_reducible refine oG fun X Y=>?_); simp [go_sem,g7d,g1l,e3c]; apply Y; clear Y X)))
    refine ⟨SchC b g w i,hI.drew.c hi,?_⟩
    have hI:=hI.drew
    repeat (any_goals (first
    | (with_reducible refine pX ?_)
    | ((with_reducible refine e1q ?_); (with_reducible refine b5h ⟨_,rfl⟩ (fun W0 hW0=>by (refine oG (fun X Y=>?_)); simp [go_sem,w3,w4,t3,t4,hW0.two (i - 16) (by omega),hW0.two (i - 7) (by omega),f4d]; (first | exact Y _ _ ⟨rfl,rfl⟩ | exact ⟨by omega,Y _ _ ⟨rfl,rfl⟩⟩)) ?_))))
    have en:b3u b (a3c b i) i = at' (a3c b i) (i - 16) + g3b (at' (a3c b i) (i - 15)) + at' (a3c b i) (i - 7) + g3c (at' (a3c b i) (i - 2)):=by
     unfold b3u
     rw [if_neg h16]
    unfold g3b g3c at en
    rw [← en]
    refine a3q d0y rfl rfl hI.holds (by simp [b2e b i hi,hi64]) (fun W hg2 hh=>?_)
    have hI2:=hI.set hgW hi64 hg2 hh
    exact ⟨(hI2.c hi64).less,hI2⟩
  ·rintro l u w2 hI2
   refine Xa0 ?_
   refine ⟨⟨_,_,_,_,_,i + 1,rfl,hi64,hI2⟩,?_⟩
   simp only [c3w]; omega
 ·obtain rfl:i = 64:=by omega
  refine Xa0 ?_
  have hh:=hI.holds
  have e64:e0s b 64 = a3c b 64:=by simp [e0s]
  rw [e64] at hh
  have hl64:=a1k b 64
  generalize a3c b 64 = sl at *
  refine a8z hh e7c rfl (by rw [List.length_map,hl64]; kernel_rfl) ?_
  refine a0x e7a (xs:=ws sl) rfl (by rw [List.length_map,hl64]) (a9w _) hh (by rw [List.length_map,hl64]) (fun W hg2 hh=>?_)
  exact b2g hh e7c rfl (by rw [List.length_map,hl64]; kernel_rfl) (k _ (a0m hI.below hg2 hgW))
theorem g1m (T:TypeId) (a b c d e f g h:W):oM Tryz.prog (Go.Op.build 225 #[(0,(.tmp 0)),(1,(.tmp 1)),(2,(.tmp 2)),(3,(.tmp 3)),(4,(.tmp 4)),(5,(.tmp 5)),(6,(.tmp 6)),(7,(.tmp 7))]) T [w32 a,w32 b,w32 c,w32 d,w32 e,w32 f,w32 g,w32 h] = a0j (stV ⟨a,b,c,d,e,f,g,h⟩):=by
 funext K w
 kernel_rfl
structure MixI (w0:World) (gh gr gs gt gv:Nat) (s:St) (sl:List W) (v:List W) (w':World):Prop where
 below:Bw w0 w'
 h:Holds w' gh 225 (ws s.list)
 r:∃ zs,zs.length = 8 ∧ Holds w' gr 225 zs
 sch:Holds w' gs 238 (ws sl)
 tab:Holds w' gt 238 (ws consts)
 v:Holds w' gv 225 (ws v)
variable {w0 w':World} {gh gr gs gt gv:Nat} {s:St} {sl v:List W}
theorem MixI.next {w2:World} (h:MixI w0 gh gr gs gt gv s sl v w') (hb:Bw w' w2):MixI w0 gh gr gs gt gv s sl v w2:=
 ⟨h.below.on hb,h.h.next hb,h.r.imp fun _ h=>⟨h.1,h.2.next hb⟩,h.sch.next hb,h.tab.next hb,h.v.next hb⟩
theorem MixI.drew (h:MixI w0 gh gr gs gt gv s sl v w'):MixI w0 gh gr gs gt gv s sl v { w' with drawn:=w'.drawn + 1 }:=h.next .drawn
structure c7t (n gh gr gs gt gv:Nat):Prop where
 h:gh ≠ gv
 r:gr ≠ gv
 s:gs ≠ gv
 t:gt ≠ gv
 v:n ≤ gv
 r0:n ≤ gr
theorem MixI.wrote {W2:World} {u:List W} (ha:c7t w0.heap.size gh gr gs gt gv) (h:MixI w0 gh gr gs gt gv s sl v w') (hg:w'.grownBy W2 (some gv)) (hh:Holds W2 gv 225 (ws u)):MixI w0 gh gr gs gt gv s sl u W2:=
 ⟨a0m h.below hg ha.v,h.h.other hg ha.h,h.r.imp fun _ h=>⟨h.1,h.2.other hg ha.r⟩,h.sch.other hg ha.s,h.tab.other hg ha.t,hh⟩
theorem a2p {g:Nat} {T:TypeId} {l:List W} (h:Holds w' g T (ws l)) (i:Nat) (hi:i < l.length):w'.cell? ⟨g,i,none⟩ = some (w32 (at' l i)):=by
 rw [h.cell i (by simpa using hi)]
 simp [at',List.getD_eq_getElem?_getD,hi]
def g9x (w0:World) (gh gr gs gt gv:Nat) (s:St) (b:List UInt8) (sl:List W) (l:List Value) (w':World):Prop:=∃ (v0 v1 v2 v3 v4:Value) (k:Nat),l = [v0,v1,v2,v3,v4,.int .i64 (k:Int)] ∧ k ≤ 64 ∧ MixI w0 gh gr gs gt gv s sl (a6a b s k).list w'
def adL (v s:St) (i:Nat):List W:=(List.range 8).map fun j=>if j < i then at' v.list j + at' s.list j else at' v.list j
theorem b4y (v s:St) (i:Nat):(adL v s i).length = 8:=by simp [adL]
theorem f3m (v s:St) {i:Nat} (hi:i < 8):at' (adL v s i) i = at' v.list i:=by
 unfold adL
 conv=>lhs; unfold at'
 rw [List.getD_eq_getElem?_getD,List.getElem?_map,List.getElem?_range hi]
 simp [at',List.getD_eq_getElem?_getD]
theorem e0u (v s:St) {i:Nat} (hi:i < 8):(adL v s i).set i (at' v.list i + at' s.list i) = adL v s (i + 1):=by
 unfold adL
 apply List.ext_getElem
 ·simp
 ·intro j h1 h2
  rw [List.getElem_set]
  simp only [List.getElem_map,List.getElem_range]
  by_cases hji:i = j
  ·subst hji; simp
  ·rw [if_neg hji]
   by_cases hlt:j < i
   ·rw [if_pos hlt,if_pos (by omega)]
   ·rw [if_neg hlt,if_neg (by omega)]
def AdJ (w0:World) (gh gr gs gt gv:Nat) (s:St) (sl:List W) (v:St) (l:List Value) (w':World):Prop:=∃ (v0:Value) (k:Nat),l = [v0,.int .i64 (k:Int)] ∧ k ≤ 8 ∧ MixI w0 gh gr gs gt gv s sl (adL v s k) w'
def g7e (l:List Value) (_:World):Nat:=match l with | [_,.int _ i]=>8 - i.toNat | _=>0
theorem f6p (a:Value) (q:IntKind) (i:Int) (w:World):g7e [a,.int q i] w = 8 - i.toNat:=rfl
theorem g1n {C:WK} {KQ:Value → Prop} (x:W) (u:Unit) (k:KQ (w32 (a5b x 6))):a3h Tryz.prog 230 #[w32 x,.int .i64 (-6)] C KQ:=a1j (v:=w32 (a5b x 6)) (fun w hw=>g9t x ⟨rfl,hw⟩) k
theorem f3n {C:WK} {KQ:Value → Prop} (x:W) (u:Unit) (k:KQ (w32 (a5b x 11))):a3h Tryz.prog 230 #[w32 x,.int .i64 (-11)] C KQ:=a1j (v:=w32 (a5b x 11)) (fun w hw=>g4x x ⟨rfl,hw⟩) k
theorem f3o {C:WK} {KQ:Value → Prop} (x:W) (u:Unit) (k:KQ (w32 (a5b x 25))):a3h Tryz.prog 230 #[w32 x,.int .i64 (-25)] C KQ:=a1j (v:=w32 (a5b x 25)) (fun w hw=>g4y x ⟨rfl,hw⟩) k
theorem g1o {C:WK} {KQ:Value → Prop} (x:W) (u:Unit) (k:KQ (w32 (a5b x 2))):a3h Tryz.prog 230 #[w32 x,.int .i64 (-2)] C KQ:=a1j (v:=w32 (a5b x 2)) (fun w hw=>g9u x ⟨rfl,hw⟩) k
theorem f3p {C:WK} {KQ:Value → Prop} (x:W) (u:Unit) (k:KQ (w32 (a5b x 13))):a3h Tryz.prog 230 #[w32 x,.int .i64 (-13)] C KQ:=a1j (v:=w32 (a5b x 13)) (fun w hw=>g4z x ⟨rfl,hw⟩) k
theorem f3q {C:WK} {KQ:Value → Prop} (x:W) (u:Unit) (k:KQ (w32 (a5b x 22))):a3h Tryz.prog 230 #[w32 x,.int .i64 (-22)] C KQ:=a1j (v:=w32 (a5b x 22)) (fun w hw=>g5a x ⟨rfl,hw⟩) k
theorem c6v (b:List UInt8) {B o c:Nat} (hl:b.length = 64) (hb:ByR w B o b) (k:∀ sl w',sl = a3c b 64 → Bw w w' → K (.agg (ws sl).toArray) w'):a0a Tryz.prog 228 #[.slice (some ⟨B,o,none⟩) 64 c] K w:=
 c8u b hl hb fun w' h=>k _ w' rfl h
theorem g1p (s:St) (b:List UInt8) {B o c:Nat} (hl:b.length = 64) (hb:ByR w B o b) (k:∀ w',Bw w w' → K (stV (mix s b)) w'):a0a Tryz.prog 214 #[stV s,.slice (some ⟨B,o,none⟩) 64 c] K w:=by
 apply d8b
 unfold f2i
 refine f6v (cs:=ws s.list) rfl fun gh w1 hb1 hg1 h1=>?_
 refine a1d b6p fun gr w2 hb2 hg2 h2=>?_
 refine c6v b hl ((hb.next hb1).next hb2) fun sl w3 hsl hb3=>?_
 refine e7e fun w4 hb4=>?_
 refine a1d e7b fun gs w5 hb5 hg5 h5=>?_
 refine a1d e7b fun gt w6 hb6 hg6 h6=>?_
 have hl64:sl.length = 64:=by rw [hsl]; exact a1k b 64
 refine a0x e7a (xs:=ws (sl)) rfl (by rw [List.length_map,hl64]) (a9w _) (h5.next hb6) rfl (fun w7 hg7 h7=>?_)
 have l5:=h5.lt
 have l2:=h2.lt
 have l1:=h1.lt
 have z2:=hb2.size
 have z3:=hb3.size
 have z4:=hb4.size
 have z5:=hb5.size
 have z6:=hb6.size
 have h6':=h6.other hg7 (show gt ≠ gs by omega)
 have z7:=hg7.size
 have l6:=h6.lt
 refine a0x e7a (xs:=ws consts) rfl rfl (a9w _) h6' rfl (fun w8 hg8 h8=>?_)
 have z8:=hg8.size
 have h7':=h7.other hg8 (show gs ≠ gt by omega)
 have q1:Holds w8 gh 225 (ws s.list):=(((((((h1.next hb2).next hb3).next hb4).next hb5).next hb6).other hg7 (by omega)).other hg8 (by omega))
 have q2:Holds w8 gr 225 (ws (List.replicate 8 0)):=((((((h2.next hb3).next hb4).next hb5).next hb6).other hg7 (by omega)).other hg8 (by omega))
 have qb:Bw w w8:=a0m (a0m (((((hb1.on hb2).on hb3).on hb4).on hb5).on hb6) hg7 (by have:=hb1.size; omega)) hg8 (by have:=hb1.size; omega)
 refine a8z q1 a8u rfl (by kernel_rfl) ?_
 refine a1d b6p fun gv w9 hb9 hg9 h9=>?_
 refine a0x b0s (xs:=ws s.list) rfl rfl (a9w _) h9 rfl (fun w10 hg10 h10=>?_)
 have hA:c7t w.heap.size gh gr gs gt gv:=by
  have:=hb1.size
  constructor <;> omega
 have hI:MixI w gh gr gs gt gv s (sl) s.list w10:=
  ⟨a0m (qb.on hb9) hg10 hA.v,(q1.next hb9).other hg10 hA.h,⟨_,rfl,(q2.next hb9).other hg10 hA.r⟩,(h7'.next hb9).other hg10 hA.s,(h8.next hb9).other hg10 hA.t,h10⟩
 refine ⟨g9x w gh gr gs gt gv s b sl,e7f,⟨_,_,_,_,_,0,rfl,by omega,hI⟩,?_⟩
 clear hI h10 hg10 h9 hb9 qb q2 q1 h7' z8 h8 hg8 l6 z7 h6' z6 z5 z4 z3 z2 l1 l2 l5 h7 hg7 h6 hb6 h5 hb5 hb4 hb3 h2 hb2 h1 hb1
 rintro _ _ w1 ⟨v0,v1,v2,v3,v4,i,rfl,hi,hI⟩
 by_cases hi64:i < 64
 ·have e1:a6a b s (i + 1) = round (a6a b s i) (at' consts i) (at' sl i):=by rw [hsl]; rfl
  obtain ⟨v',e2⟩:∃ v',v' = a6a b s (i + 1):=⟨_,rfl⟩
  rw [← e2] at e1
  generalize a6a b s i = v at *
  refine Xa0 ?_
  refine ⟨fun w'=>w' = { w1 with drawn:=w1.drawn + 1 },rfl,?_⟩
  have hI:=hI.drew
  generalize ({ w1 with drawn:=w1.drawn + 1 }:World) = w2 at hI ⊢
  have c4:w2.cell? ⟨gv,4,none⟩ = some (w32 v.e):=a2p hI.v 4 (show (4:Nat) < 8 by decide)
  repeat (any_goals (first
  | (with_reducible refine g1n _ () ?_) | (with_reducible refine f3n _ () ?_) | (with_reducible refine f3o _ () ?_) | (with_reducible refine g1o _ () ?_) | (with_reducible refine f3p _ () ?_) | (with_reducible refine f3q _ () ?_)
  | (with_reducible first|refine And.intro (Eq.refl (α:=World) _) ?_|refine b5g ?_)
  | ((with_reducible refine f3y ?_); ((with_reducible refine e2i ?_ ?_); exact ⟨_,rfl⟩))
  | ((with_reducible refine oG fun X Y=>?_); simp [go_sem,c4,e3c]; apply Y; clear Y X)))
  have hI:=hI.drew
  clear c4
  refine ⟨fun w'=>w' = { w2 with drawn:=w2.drawn + 1 },rfl,?_⟩
  generalize ({ w2 with drawn:=w2.drawn + 1 }:World) = w3 at hI ⊢
  have c4:w3.cell? ⟨gv,4,none⟩ = some (w32 v.e):=a2p hI.v 4 (show (4:Nat) < 8 by decide)
  have c5:w3.cell? ⟨gv,5,none⟩ = some (w32 v.f):=a2p hI.v 5 (show (5:Nat) < 8 by decide)
  have c6:w3.cell? ⟨gv,6,none⟩ = some (w32 v.g):=a2p hI.v 6 (show (6:Nat) < 8 by decide)
  have c7:w3.cell? ⟨gv,7,none⟩ = some (w32 v.h):=a2p hI.v 7 (show (7:Nat) < 8 by decide)
  have ck:=a2p hI.tab i (by rw [a9c]; exact hi64)
  have cs:=a2p hI.sch i (by rw [hl64]; exact hi64)
  refine Xg (An9 @c4 @c5 @c6 @c7 @ck @cs @e3c @f4d @g3v) ?_
  clear c4 c5 c6 c7 ck cs
  have hI:=hI.drew
  refine ⟨fun w'=>w' = { w3 with drawn:=w3.drawn + 1 },rfl,?_⟩
  generalize ({ w3 with drawn:=w3.drawn + 1 }:World) = w4 at hI ⊢
  have c0:w4.cell? ⟨gv,0,none⟩ = some (w32 v.a):=a2p hI.v 0 (show (0:Nat) < 8 by decide)
  have c1:w4.cell? ⟨gv,1,none⟩ = some (w32 v.b):=a2p hI.v 1 (show (1:Nat) < 8 by decide)
  have c2:w4.cell? ⟨gv,2,none⟩ = some (w32 v.c):=a2p hI.v 2 (show (2:Nat) < 8 by decide)
  have c3:w4.cell? ⟨gv,3,none⟩ = some (w32 v.d):=a2p hI.v 3 (show (3:Nat) < 8 by decide)
  have c4:w4.cell? ⟨gv,4,none⟩ = some (w32 v.e):=a2p hI.v 4 (show (4:Nat) < 8 by decide)
  have c5:w4.cell? ⟨gv,5,none⟩ = some (w32 v.f):=a2p hI.v 5 (show (5:Nat) < 8 by decide)
  have c6:w4.cell? ⟨gv,6,none⟩ = some (w32 v.g):=a2p hI.v 6 (show (6:Nat) < 8 by decide)
  repeat (any_goals (first
  | (with_reducible refine g1n _ () ?_) | (with_reducible refine f3n _ () ?_) | (with_reducible refine f3o _ () ?_) | (with_reducible refine g1o _ () ?_) | (with_reducible refine f3p _ () ?_) | (with_reducible refine f3q _ () ?_)
  | (with_reducible first|refine And.intro (Eq.refl (α:=World) _) ?_|refine b5g ?_)
  | ((with_reducible refine f3y ?_); ((with_reducible refine e2i ?_ ?_); exact ⟨_,rfl⟩))
  | ((with_reducible refine oG fun X Y=>?_); simp [go_sem,c0,c1,c2,c3,c4,c5,c6,e3c,f4d,g3v,wor,g1m]; apply Y; clear Y X)))
  refine a0x b0s (xs:=ws v'.list) (by rw [e1]; rfl) rfl (a9w _) hI.v rfl (fun w5 hg5 h5=>?_)
  have hI:=hI.wrote hA hg5 h5
  refine Xa0 ?_
  refine ⟨⟨_,_,_,_,_,i + 1,rfl,hi64,by rw [← e2]; exact hI⟩,?_⟩
  simp only [c3w]; omega
 ·obtain rfl:i = 64:=by omega
  have em:stV (mix s b) = .agg (ws (adL (a6a b s 64) s 8)).toArray:=rfl
  rw [em] at k
  clear em
  generalize a6a b s 64 = v at *
  refine Xa0 ?_
  refine ⟨AdJ w gh gr gs gt gv s sl v,g7e,⟨_,0,rfl,by omega,hI⟩,?_⟩
  clear hI
  rintro _ _ w2 ⟨v0,j,rfl,hj,hI⟩
  by_cases hj8:j < 8
  ·refine Xa0 ?_
   have hI:=hI.drew
   refine ⟨Nx { w2 with drawn:=w2.drawn + 1 },bR,rfl,?_⟩
   generalize ({ w2 with drawn:=w2.drawn + 1 }:World) = w3 at hI ⊢
   have cv:∀ w',Nx w3 w' → w'.cell? ⟨gv,j,none⟩ = some (w32 (at' v.list j)):=fun w' h=>by rw [a2p (hI.next h).v j (by rw [b4y]; exact hj8),f3m v s hj8]
   have ch:∀ w',Nx w3 w' → w'.cell? ⟨gh,j,none⟩ = some (w32 (at' s.list j)):=fun w' h=>a2p (hI.next h).h j (show j < 8 from hj8)
   refine Xf (fun W0 hW0=>An2 (cv _ hW0) (ch _ hW0)) @f4d ?_
   refine ⟨Nx,fun w9 h9=>?_⟩
   have hI:=hI.next h9
   refine a3q d0y rfl rfl hI.v (by simp [adL,hj8]) (fun W hg2 hh=>?_)
   have hI:=hI.wrote hA hg2 (u:=adL v s (j + 1)) (by rw [← e0u v s hj8]; unfold ws at hh ⊢; rw [List.map_set]; exact hh)
   refine Xa0 ?_
   refine ⟨⟨_,j + 1,rfl,hj8,hI⟩,?_⟩
   simp only [f6p]; omega
  ·obtain rfl:j = 8:=by omega
   refine Xa0 ?_
   refine a8z hI.v a8u rfl (by kernel_rfl) ?_
   obtain ⟨zs,hz,hr⟩:=hI.r
   refine a0x b0s (xs:=ws (adL v s 8)) rfl rfl (a9w _) hr hz (fun W hg2 hh=>?_)
   exact b2g hh a8u rfl (by kernel_rfl) (k _ (a0m hI.below hg2 hA.r0))
end
section
variable {K:VK} {w w0:World}
structure Buf (w0:World) (v:Value) (l:List UInt8) (w:World):Prop where
 below:Bw w0 w
 row:BufM w 5 v l
 own:∀ i,v.ownBlock = some i → w0.heap.size ≤ i
theorem Buf.next {v:Value} {l:List UInt8} {w':World} (h:Buf w0 v l w) (hb:Bw w w'):Buf w0 v l w':=by
 refine ⟨h.below.on hb,h.row.keep (fun i hi=>?_),h.own⟩
 obtain ⟨g,c,rfl,hlt⟩:=h.row.shape
 cases hi
 exact hb.block g hlt
def lo8 (x:W):UInt8:=UInt8.ofNat x.toNat
theorem e0v (T:TypeId) (x:W):oM Tryz.prog (.convert 223 5 (.tmp 0)) T [w32 x] = a0j (.int .u8 ((lo8 x).toNat:Int)):=by
 unfold lo8
 funext K w
 have e:IntKind.u8.wrap (x.toNat:Int) = ((UInt8.ofNat x.toNat).toNat:Int):=by
  rw [IntKind.wrap_u8,UInt8.toNat_ofNat']
  omega
 have e2:(convert 223 5 (w32 x)).run Tryz.prog w = .ok (.int .u8 (IntKind.u8.wrap (x.toNat:Int))) w:=by kernel_rfl
 rw [b5f,e2,e]
 rfl
theorem g1q (T:TypeId) (s:St) (i:Nat) (hi:i < 8):oM Tryz.prog (.index 225 (.tmp 0) (.tmp 1)) T [stV s,.int .i64 (i:Int)] = a0j (w32 (at' s.list i)):=by
 have e:∀ w,(Instr.index 225 (stV s) (.int .i64 (i:Int))).run Tryz.prog w = .ok (w32 (at' s.list i)) w:=by
  intro w
  rcases i with _ | _ | _ | _ | _ | _ | _ | _ | i
  all_goals first | omega | kernel_rfl
 funext K w
 rw [b0d (S:=Instr.index 225 (stV s) (.int .i64 (i:Int))) rfl,e]
 rfl
theorem g9y {T:TypeId} (a b c d:UInt8) (k:∀ g W,Bw w W → (∀ j u,(Lib.byteCells [a,b,c,d])[j]? = some u → W.cell? ⟨g,j,none⟩ = some u) → K (.slice (some ⟨g,0,none⟩) 4 4) W) :
  oM Tryz.prog (.buildSlice 202 4 #[(0,.tmp 0),(1,.tmp 1),(2,.tmp 2),(3,.tmp 3)]) T [.int .u8 (a.toNat:Int),.int .u8 (b.toNat:Int),.int .u8 (c.toNat:Int),.int .u8 (d.toNat:Int)] K w:=by
 have e:(Instr.buildSlice 202 4 #[(0,.int .u8 (a.toNat:Int)),(1,.int .u8 (b.toNat:Int)),(2,.int .u8 (c.toNat:Int)),(3,.int .u8 (d.toNat:Int))]).run Tryz.prog w = .ok (.slice (some ⟨w.heap.size,0,none⟩) 4 4) (w.alloc (.cells (Lib.byteCells [a,b,c,d]).toArray 5)):=by kernel_rfl
 rw [b0d (S:=Instr.buildSlice 202 4 #[(0,.int .u8 (a.toNat:Int)),(1,.int .u8 (b.toNat:Int)),(2,.int .u8 (c.toNat:Int)),(3,.int .u8 (d.toNat:Int))]) (by simp [xop,execOp,a1h,evE]),e]
 refine k _ _ ((Below.refl _ w).alloc (rL) _) (fun j u hj=>?_)
 have:=World.cell?_alloc_at (w:=w) (Lib.byteCells [a,b,c,d]).toArray 5 w.heap.size j rfl
 rw [this]
 simpa using hj
abbrev OwnB (w:World) (B:Nat) (v:Value) (l:List UInt8):Prop:=w.ownsRow B 5 1 v l.length (Lib.byteCells l)
theorem g5e {B:Nat} {T T':TypeId} {v:Value} {l:List UInt8} (a b c d:UInt8) (ho:OwnB w B v l) (hB:B ≤ w.heap.size) (hl:l.length < 1099511627776) (k:∀ v' w',OwnB w' B v' (l ++ [a,b,c,d]) → Below B w w' → K v' w') :
  oM Tryz.prog (.buildSlice 202 4 #[(0,.tmp 0),(1,.tmp 1),(2,.tmp 2),(3,.tmp 3)]) T [.int .u8 (a.toNat:Int),.int .u8 (b.toNat:Int),.int .u8 (c.toNat:Int),.int .u8 (d.toNat:Int)] (fun u w=>oM Tryz.prog (.call { callee:=.builtin .append,args:=#[.tmp 0,.tmp 1],argTypes:=#[202,202] }) T' [v,u] K w) w:=by
 refine g9y a b c d fun g W hb hc=>?_
 have ho2:OwnB W B v l:=a3r ho (fun i hi=>hb.block i (a0d ho hi).1)
 refine a5a 202 T' 5 ((Tryz.prog.info? 5).getD default) (.int .u8 0) 1 1 (by kernel_rfl) (by kernel_rfl) (by kernel_rfl) (by kernel_rfl) (by kernel_rfl) (by kernel_rfl) (by omega) (a2v ho2 (Nat.zero_le _)) (Lib.byteCells [a,b,c,d]) rfl (by simp) ?_ ?_ (by simp only [maxLen]; omega) (by omega) ?_
 ·rintro ad ha j u hj
  cases ha
  rw [a1w,Nat.zero_add]
  exact hc j u hj
 ·intro u hu
  simp only [Lib.byteCells,List.mem_map] at hu
  obtain ⟨x,_,rfl⟩:=hu
  rfl
 ·intro v' w' ho' hg hv
  have hbl:∀ i,v.ownBlock = some i → B ≤ i:=fun i hi=>(a0d ho hi).2.1
  have hBW:=Nat.le_trans hB hb.size
  refine k v' w' ?_ ((hb.mono hB).grown hg hBW hbl)
  have e2:Lib.byteCells (l ++ [a,b,c,d]) = Lib.byteCells l ++ Lib.byteCells [a,b,c,d]:=by simp [Lib.byteCells]
  show w'.ownsRow B 5 1 v' (l ++ [a,b,c,d]).length (Lib.byteCells (l ++ [a,b,c,d]))
  rw [List.length_append,e2]
  refine ⟨ho'.1,ho'.2.imp id ?_⟩
  rintro ⟨g,cap,cur,rfl,hb',hr⟩
  exact ⟨g,cap,cur,rfl,(hv g rfl).elim (hbl g) (fun h=>Nat.le_trans hBW h),hr⟩
theorem f3r {B:Nat} {T:TypeId} {v:Value} {l:List UInt8} (ho:OwnB w B v l) (hne:0 < l.length) (k:K (.string ⟨l.toArray⟩) w):oM Tryz.prog (.convert 202 9 (.tmp 0)) T [v] K w:=by
 obtain ⟨g,cap,cur,rfl,hlt,_,_,_,_,hc⟩:=a6m ho hne
 have:=run_convert_bytes_back (P:=Tryz.prog) w 202 9 5 ⟨g,0,none⟩ cap l (by kernel_rfl) (by kernel_rfl) (by kernel_rfl) (fun j hj=>by
  rw [a1w,Nat.zero_add]
  exact hc j _ (by simp [Lib.byteCells,hj]))
 rw [b0d (S:=convert 202 9 (.slice (some ⟨g,0,none⟩) l.length cap)) rfl,this]
 exact k
theorem e0w {T:TypeId} {a:Option Addr} {n c:Nat} (hc:64 ≤ c) (k:K (.slice a 64 c) w):oM Tryz.prog (.slice 202 (.tmp 0) none (some (.tmp 1)) none) T [.slice a n c,.int .i64 64] K w:=
 d2u (by kernel_rfl) (sz:=1) (fun w=>by kernel_rfl) 64 hc k
theorem c8v {T:TypeId} {g o n c:Nat} (hn:64 ≤ n) (hc:n ≤ c) (k:∀ ad,(64 < c → ad = some ⟨g,o + 64,none⟩) → K (.slice ad (n - 64) (c - 64)) w):oM Tryz.prog (.slice 202 (.tmp 0) (some (.tmp 1)) none none) T [.slice (some ⟨g,o,none⟩) n c,.int .i64 64] K w:=by
 have hs:∀ w,(sizeOf (Tryz.prog.elem 202)).run Tryz.prog w = .ok 1 w:=fun w=>by kernel_rfl
 rw [c7a,run_sliceAt_slice w 202 _ _ _ _ (by kernel_rfl),run_slice_l w 202 _ n c (by kernel_rfl) .i64 64 (by omega) (by omega),hs]
 simp only [Result.andThen_ok,sliced]
 refine k _ (fun h=>?_)
 rw [if_neg (show ¬ c = (64:Int).toNat by show ¬ c = 64; omega)]
 rfl
theorem f6q (l:List UInt8) {T:TypeId} (k:∀ v w',Buf w v l w' → K v w'):oM Tryz.prog (.convert 9 202 (.tmp 0)) T [.string ⟨l.toArray⟩] K w:=by
 refine e7t (e:=5) (by kernel_rfl) (by kernel_rfl) (by kernel_rfl) l (fun v w' hb hg ho hs=>k v w' ⟨(bR).grown hg (rL) (fun i hi=>by cases hi),hb,fun i hi=>?_⟩)
 rw [ho] at hi
 cases hi
 exact rL
theorem g7f {T:TypeId} (x:UInt8) (k:∀ g W,Bw w W → W.cell? ⟨g,0,none⟩ = some (.int .u8 (x.toNat:Int)) → K (.slice (some ⟨g,0,none⟩) 1 1) W):oM Tryz.prog (.buildSlice 202 1 #[(0,.tmp 0)]) T [.int .u8 (x.toNat:Int)] K w:=by
 rw [a1a]
 have e:(Instr.buildSlice 202 1 #[(0,.int .u8 (x.toNat:Int))]).run Tryz.prog w = .ok (.slice (some ⟨w.heap.size,0,none⟩) 1 1) (w.alloc (.cells #[.int .u8 (x.toNat:Int)] 5)):=by kernel_rfl
 rw [e]
 refine k _ _ ((Below.refl _ w).alloc (rL) _) ?_
 have:=World.cell?_alloc_at (w:=w) #[.int .u8 (x.toNat:Int)] 5 w.heap.size 0 rfl
 rw [this]
 rfl
theorem push {T T':TypeId} {v:Value} {l:List UInt8} (x:UInt8) {n:Int} (hx:n = (x.toNat:Int)) (h:Buf w0 v l w) (hl:l.length + 1 ≤ 1099511627776) (k:∀ v' w',Buf w0 v' (l ++ [x]) w' → K v' w') :
  oM Tryz.prog (.buildSlice 202 1 #[(0,.tmp 0)]) T [.int .u8 n] (fun u w=>oM Tryz.prog (.call { callee:=.builtin .append,args:=#[.tmp 0,.tmp 1],argTypes:=#[202,202] }) T' [v,u] K w) w:=by
 subst hx
 refine g7f x fun g W hb hc=>?_
 have h:=h.next hb
 refine e7u (e:=5) (i:=(Tryz.prog.info? 5).getD default) (by kernel_rfl) (by kernel_rfl) (by kernel_rfl) (by kernel_rfl) (by kernel_rfl) h.row hc hl (fun v' w' hb' hg hv=>k v' w' ⟨h.below.grown hg h.below.size h.own,hb',fun i hi=>?_⟩)
 rcases hv with hv | ⟨g',hv,hlt⟩
 ·exact h.own i (by rw [← hv]; exact hi)
 ·rw [hv] at hi
  cases hi
  exact Nat.le_trans h.below.size hlt
theorem e0x {g n c:Nat} {l:List UInt8} (h:BufM w 5 (.slice (some ⟨g,0,none⟩) n c) l):ByR w g 0 l:=by
 obtain ⟨g',cap,cur,fz,hv,hg,hfz,hcs,hlc,hcell⟩:=h
 cases hv
 refine ⟨(Array.getElem?_eq_some_iff.1 hg).1,fun i hi=>?_⟩
 rw [Nat.zero_add,a0r hg,hcell i hi]
 simp [List.getD_eq_getElem?_getD,hi]
theorem g1r {g n c:Nat} {l:List UInt8} {v:Value} (h:BufM w 5 v l) (e:v = .slice (some ⟨g,0,none⟩) n c):l.length ≤ c:=by
 obtain ⟨g',cap,cur,fz,hv,hg,hfz,hcs,hlc,hcell⟩:=h
 rw [e] at hv
 cases hv
 exact hlc
theorem ByR.other {b o g:Nat} {l:List UInt8} {w':World} (h:ByR w b o l) (hg:w.grownBy w' (some g)) (hne:b ≠ g):ByR w' b o l:=
 ⟨lL h.1 hg.size,fun i hi=>by
  rw [← h.2 i hi]
  unfold World.cell?
  rw [hg.block b h.1 (fun e=>hne (by cases e; rfl))]⟩
theorem ByR.part {b o:Nat} {l:List UInt8} (h:ByR w b o l) (i n:Nat) (hn:i + n ≤ l.length):ByR w b (o + i) ((l.drop i).take n):=by
 refine ⟨h.1,fun j hj=>?_⟩
 have hj':j < n:=by rw [List.length_take,List.length_drop] at hj; omega
 rw [Nat.add_assoc,h.2 (i + j) (by omega)]
 congr 3
 rw [List.getD_eq_getElem?_getD,List.getD_eq_getElem?_getD,List.getElem?_take_of_lt hj',List.getElem?_drop]
def BkJ (w0:World) (g gb:Nat) (p:List UInt8) (m:Nat) (R:St) (l:List Value) (w':World):Prop:=
 ∃ (ad:Option Addr) (c t:Nat) (st:St),l = [.slice ad (64 * (m - t)) c] ∧ t ≤ m ∧ 64 * (m - t) ≤ c ∧ (t < m → ad = some ⟨gb,64 * t,none⟩) ∧ Bw w0 w' ∧ ByR w' gb 0 p ∧ Holds w' g 225 (ws st.list) ∧ a9f (m - t) st (p.drop (64 * t)) = R
def g7g (l:List Value) (_:World):Nat:=match l with | [.slice _ m _]=>m | _=>0
theorem f6r (m c:Nat) (a:Option Addr) (w:World):g7g [.slice a m c] w = m:=rfl
def f6s (st:St) (i:Nat):List UInt8:=((st.list.take i).map c7h).flatten
theorem b8t (st:St) (i:Nat) (hi:i ≤ 8):(f6s st i).length = 4 * i:=by
 unfold f6s St.list
 rcases i with _ | _ | _ | _ | _ | _ | _ | _ | _ | i
 all_goals first | omega | rfl
theorem e0y (x:W):c7h x = [lo8 (x >>> 24),lo8 (x >>> 16),lo8 (x >>> 8),lo8 x]:=by
 simp only [c7h,lo8,BitVec.toNat_ushiftRight,Nat.shiftRight_eq_div_pow]
theorem e0z (st:St) (i:Nat) (hi:i < 8):f6s st (i + 1) = f6s st i ++ [lo8 (at' st.list i >>> 24),lo8 (at' st.list i >>> 16),lo8 (at' st.list i >>> 8),lo8 (at' st.list i)]:=by
 rw [← e0y]
 unfold f6s
 have hl:i < st.list.length:=hi
 rw [List.take_add_one,gE hl,List.map_append,List.flatten_append]
 simp [at',List.getD_eq_getElem?_getD,hl]
def g9z (w0:World) (st:St) (l:List Value) (w':World):Prop:=∃ (u v:Value) (i:Nat),l = [u,v,.int .i64 (i:Int)] ∧ i ≤ 8 ∧ OwnB w' w0.heap.size v (f6s st i) ∧ Bw w0 w'
def g1s (l:List Value) (_:World):Nat:=match l with | [_,_,.int _ i]=>8 - i.toNat | _=>0
theorem e7g (a b:Value) (q:IntKind) (i:Int) (w:World):g1s [a,b,.int q i] w = 8 - i.toNat:=rfl
def ZeJ (w0:World) (s:List UInt8) (l:List Value) (w':World):Prop:=∃ v j,l = [v] ∧ j ≤ a4s s.length ∧ Buf w0 v (s ++ [128] ++ List.replicate j 0) w'
theorem a7q (s:List UInt8) (j:Nat):(s ++ [(128:UInt8)] ++ List.replicate j 0).length = s.length + 1 + j:=by simp; omega
def g5f (n:Nat) (l:List Value) (_:World):Nat:=match l with | [.slice _ m _]=>n - m | _=>0
theorem e1a (n m c:Nat) (a:Option Addr) (w:World):g5f n [.slice a m c] w = n - m:=rfl
def LeJ (w0:World) (s:List UInt8) (l:List Value) (w':World):Prop:=∃ (v:Value) (j:Nat),l = [v,.int .i64 (56 - 8 * (j:Int))] ∧ j ≤ 8 ∧ Buf w0 v (s ++ [128] ++ List.replicate (a4s s.length) 0 ++ (a4j s.length).take j) w'
def g5g (l:List Value) (_:World):Nat:=match l with | [_,.int _ i]=>(i + 8).toNat | _=>0
theorem e1b (a:Value) (q:IntKind) (i:Int) (w:World):g5g [a,.int q i] w = (i + 8).toNat:=rfl
theorem e1c (n j:Nat) (hj:j < 8) (hn:n < 1099511627776):(IntKind.u8.wrap (8 * (n:Int) / 2 ^ (56 - 8 * (j:Int)).toNat)) = (((a4j n).getD j 0).toNat:Int):=by
 have e1:8 * (n:Int) = ((8 * n:Nat):Int):=by omega
 have e2:(56 - 8 * (j:Int)).toNat = 8 * (7 - j):=by omega
 have e3:(a4j n).getD j 0 = UInt8.ofNat (8 * n / 2 ^ (8 * (7 - j))):=by
  unfold a4j
  rcases j with _ | _ | _ | _ | _ | _ | _ | _ | j <;> first | rfl | omega
 rw [e1,e2,e3,IntKind.wrap_u8,UInt8.toNat_ofNat']
 generalize 8 * (7 - j) = q
 have:((8 * n:Nat):Int) / 2 ^ q = ((8 * n / 2 ^ q:Nat):Int):=by
  rw [Int.natCast_ediv,Int.natCast_pow]; rfl
 rw [this]
 omega
theorem b8u (l:List UInt8) (j:Nat) (hj:j < l.length):l.take (j + 1) = l.take j ++ [l.getD j 0]:=by
 rw [List.take_add_one,List.getD_eq_getElem?_getD,gE hj]
 rfl
theorem g1t (s:List UInt8) (hs:s.length ≤ 1000000000) (k:∀ w',Bw w w' → K (.string ⟨(sha s).toArray⟩) w'):a0a Tryz.prog 195 #[.string ⟨s.toArray⟩] K w:=by
 apply d7z
 unfold f2g
 refine f6q s fun v1 w1 h1=>?_
 refine push 128 rfl h1 (by omega) (fun v2 w2 h2=>?_)
 refine ⟨ZeJ w s,g5f (s.length + 1 + a4s s.length),⟨_,0,rfl,by omega,by simpa using h2⟩,?_⟩
 clear h2 w2 v2 h1 w1 v1
 rintro _ _ w1 ⟨v1,j,rfl,hj,h1⟩
 obtain ⟨g1,c1,rfl,hlt1⟩:=h1.row.shape
 have hz:a4s s.length < 64:=by unfold a4s; omega
 by_cases hjz:j < a4s s.length
 ·have hm:¬ ((s.length:Int) + 1 + (j:Int)).tmod 64 = 56:=by
   rw [Int.tmod_eq_emod_of_nonneg (by omega)]; unfold a4s at hjz; omega
  rw [a7q] at *
  repeat (any_goals (first
  | ((with_reducible refine push 0 rfl h1 (by rw [a7q]; omega) ?_); intro v2 w2 h2)
  | (with_reducible refine yL ?_)
  | ((with_reducible refine oG fun X Y=>?_); simp [go_sem,hm]; apply Y; clear Y X)))
  have e:s ++ [(128:UInt8)] ++ List.replicate j 0 ++ [0] = s ++ [128] ++ List.replicate (j + 1) 0:=by
   simp [List.replicate_succ',List.append_assoc]
  rw [e] at h2
  obtain ⟨g2,c2,rfl,hlt2⟩:=h2.row.shape
  refine ⟨⟨_,j + 1,rfl,hjz,h2⟩,?_⟩
  rw [a7q]
  simp only [e1a]; omega
 ·obtain rfl:j = a4s s.length:=by omega
  have hm:((s.length:Int) + 1 + (a4s s.length:Int)).tmod 64 = 56:=by
   rw [Int.tmod_eq_emod_of_nonneg (by omega)]; unfold a4s; omega
  rw [a7q] at *
  refine Xa @hm ?_
  refine ⟨LeJ w s,g5g,⟨_,0,rfl,by omega,by simpa using h1⟩,?_⟩
  clear h1 hlt1 hm
  rintro _ _ w1 ⟨v1,j,rfl,hj,h1⟩
  have hle:(s ++ [(128:UInt8)] ++ List.replicate (a4s s.length) 0 ++ (a4j s.length).take j).length = s.length + 1 + a4s s.length + j:=by
   rw [List.length_append,a7q,List.length_take,a1s]; omega
  by_cases hj8:j < 8
  ·have hq:IntKind.u64.wrap (s.length:Int) = (s.length:Int):=a1v _ (by omega) (by omega)
   have hsh:=fun t t' T x=>b3p (P:=Tryz.prog) t t' T .i64 x (56 - 8 * (j:Int)) (by omega) (by omega)
   repeat (any_goals (first
   | ((with_reducible refine push ((a4j s.length).getD j 0) (e1c _ _ hj8 (by omega)) h1 (by omega) ?_); intro v2 w2 h2)
   | (with_reducible refine yN ?_)
   | ((with_reducible refine oG fun X Y=>?_); simp [go_sem,hq,hsh]; (try simp (disch:=omega) only [a0o,a4r,a1v]); apply Y; clear Y X)))
   refine ⟨⟨_,j + 1,by rw [show 56 - 8 * (j:Int) - 8 = 56 - 8 * ((j + 1:Nat):Int) by omega],hj8,?_⟩,?_⟩
   ·rw [b8u _ _ (by rw [a1s]; exact hj8),← List.append_assoc]
    exact h2
   ·simp only [e1b]; omega
  ·obtain rfl:j = 8:=by omega
   rw [List.take_of_length_le (by rw [a1s]; omega)] at h1 hle
   have hpad:s ++ [(128:UInt8)] ++ List.replicate (a4s s.length) 0 ++ a4j s.length = a2w s:=rfl
   rw [hpad] at h1 hle
   have hp64:=b3v s
   obtain ⟨m,hm⟩:∃ m,(a2w s).length = 64 * m:=⟨(a2w s).length / 64,by omega⟩
   refine Xa0 ?_
   refine e7d fun w2 hb2=>?_
   have h2:=h1.next hb2
   refine a1d b6p fun g w3 hb3 hg3 h3=>?_
   have h4:=h2.next hb3
   obtain ⟨gb,c,rfl,hlt⟩:=h2.row.shape
   refine a0x b0s (xs:=ws first.list) rfl rfl (a9w _) h3 rfl (fun w4 hg4 hh=>?_)
   have zb:=h1.below.size
   have hby:=(e0x h4.row).other hg4 (by omega)
   have hbw:Bw w w4:=a0m h4.below hg4 (by have:=hb2.size; have:=h2.below.size; omega)
   have ef:sha s = ((a9f m first (a2w s)).list.map c7h).flatten:=by
    unfold sha
    rw [hm,Nat.mul_div_cancel_left m (by omega)]
   refine ⟨BkJ w g gb (a2w s) m (a9f m first (a2w s)),g7g,⟨_,_,0,first,by rw [hm]; rfl,by omega,by have:=g1r h4.row rfl; omega,fun _=>rfl,hbw,hby,hh,rfl⟩,?_⟩
   have hgw:w.heap.size ≤ g:=Nat.le_trans h2.below.size hg3
   have hgb:gb ≠ g:=by omega
   clear hh hby hbw hg4 h4 hlt h3 hg3 hb3 h2 hb2 h1 zb w4 w3 w2
   rintro _ _ w2 ⟨ad,c,t,st,rfl,ht,hc,had,hbw,hby,hh,hbl⟩
   by_cases htm:t < m
   ·obtain ⟨r,hr⟩:∃ r,m - t = r + 1:=⟨m - t - 1,by omega⟩
    obtain rfl:=had htm
    rw [hr] at hbl hc ⊢
    refine Xa0 ?_
    refine ⟨Nx { w2 with drawn:=w2.drawn + 1 },bR,rfl,?_⟩
    have hh:=hh.next (.drawn (B:=w2.heap.size))
    have hby:=hby.next (.drawn (B:=w2.heap.size))
    have hbw:=hbw.on (.drawn (B:=w2.heap.size))
    generalize ({ w2 with drawn:=w2.drawn + 1 }:World) = w3 at hh hby hbw ⊢
    refine b5h (v:=stV st) ⟨_,rfl⟩ (fun W0 hW0=>a8z (hh.next hW0) a8u rfl (by kernel_rfl) ⟨rfl,rfl⟩) ?_
    refine pX ?_
    refine b5h (v:=.slice (some ⟨gb,64 * t,none⟩) 64 c) ⟨_,rfl⟩ (fun W0 hW0=>e0w (by omega) ⟨rfl,rfl⟩) ?_
    refine ⟨Nx,fun w9 h9=>?_⟩
    have hh:=hh.next h9
    have hby:=hby.next h9
    have hbw:=hbw.on h9
    have hpart:=hby.part (64 * t) 64 (by omega)
    rw [Nat.zero_add] at hpart
    refine g1p st _ (by rw [List.length_take,List.length_drop]; omega) hpart (fun w4 hb4=>?_)
    refine a0x b0s (xs:=ws (mix st _).list) rfl rfl (a9w _) (hh.next hb4) rfl (fun w5 hg5 hh5=>?_)
    refine c8v (by omega) (by omega) (fun ad' had'=>?_)
    have e1:64 * (r + 1) - 64 = 64 * (m - (t + 1)):=by omega
    rw [e1]
    refine ⟨⟨ad',c - 64,t + 1,_,rfl,by omega,by omega,fun h=>had' (by omega),a0m (hbw.on hb4) hg5 hgw,(hby.next hb4).other hg5 hgb,hh5,?_⟩,?_⟩
    ·rw [show m - (t + 1) = r by omega,← hbl]
     show _ = a9f r (mix st ((List.drop (64 * t) (a2w s)).take 64)) ((List.drop (64 * t) (a2w s)).drop 64)
     rw [List.drop_drop,show 64 * t + 64 = 64 * (t + 1) by omega]
    ·simp only [f6r]; omega
   ·obtain rfl:t = m:=by omega
    rw [Nat.sub_self] at hbl ⊢
    refine Xa0 ?_
    refine a8z hh a8u rfl (by kernel_rfl) ?_
    have hst:st = a9f t first (a2w s):=hbl
    rw [← hst] at ef
    refine ⟨g9z w st,g1s,⟨_,_,0,rfl,by omega,⟨rfl,.inl ⟨rfl,rfl⟩⟩,hbw⟩,?_⟩
    rintro _ _ w3 ⟨u3,v3,i,rfl,hi,ho,hb3⟩
    by_cases hi8:i < 8
    ·have hix:=fun T=>g1q T st i hi8
     repeat (any_goals (first
     | ((with_reducible refine g5e _ _ _ _ ho hb3.size (by have:=b8t st i hi; omega) ?_); intro v4 w4 ho4 hb4)
     | (with_reducible refine yN ?_)
     | ((with_reducible refine oG fun X Y=>?_); simp [go_sem,hix,g4v,g4w,g9s,e0v]; (try simp (disch:=omega) only [a0o,a4r,a1v]); apply Y; clear Y X)))
     rw [← e0z st i hi8] at ho4
     refine ⟨⟨_,_,i + 1,rfl,hi8,ho4,hb3.trans hb4⟩,?_⟩
     simp only [e7g]; omega
    ·obtain rfl:i = 8:=by omega
     have e8:f6s st 8 = sha s:=by rw [ef]; rfl
     repeat (any_goals (first
     | ((with_reducible refine f3r ho (by rw [b8t st 8 (by omega)]; omega) ?_))
     | (with_reducible refine yM ?_)
     | ((with_reducible refine oG fun X Y=>?_); simp [go_sem]; apply Y; clear Y X)))
     rw [e8]
     exact k _ hb3
end
end Go.Proofs
namespace TkSpec
open FdSpec CodeSpec
def a9d (n:Int) (out:Int) (b:UInt8):Int:=a6i n (a2n n out 256) (b.toNat:Int)
def a3t (s:List UInt8) (n:Int):Int:=if okN n then (ShaSpec.sha s).foldl (a9d n) 0 else 0
end TkSpec
namespace TkSpec
open FdSpec CodeSpec
end TkSpec
namespace FdPoly
def ev:List Int → Int → Int
 | [],_=>0
 | c :: p,x=>c + x * ev p x
def sd (a:Int):List Int → List Int
 | []=>[]
 | [_]=>[]
 | _ :: d :: p=>ev (d :: p) a :: sd a (d :: p)
theorem e9d (a:Int):∀ p:List Int,(sd a p).length = p.length - 1
 | []=>rfl
 | [_]=>rfl
 | c :: d :: p=>by
  have:=e9d a (d :: p)
  simp only [sd,List.length_cons] at this ⊢
  omega
theorem f8n (a x:Int):∀ p:List Int,(x - a) * ev (sd a p) x = ev p x - ev p a
 | []=>by simp [sd,ev]
 | [c]=>by simp [sd,ev]
 | c :: d :: p=>by
  have h:=f8n a x (d :: p)
  have e1:ev (sd a (c :: d :: p)) x = ev (d :: p) a + x * ev (sd a (d :: p)) x:=rfl
  have e2:ev (c :: d :: p) x = c + x * ev (d :: p) x:=rfl
  have e3:ev (c :: d :: p) a = c + a * ev (d :: p) a:=rfl
  rw [e1,e2,e3]
  generalize ev (sd a (d :: p)) x = s at *
  generalize ev (d :: p) x = u at *
  generalize ev (d :: p) a = v at *
  grind
def U (q a:Int):Prop:=∃ u,q ∣ u * a - 1
theorem U.cancel {q a b:Int} (h:U q a) (hd:q ∣ a * b):q ∣ b:=by
 obtain ⟨u,k,hk⟩:=h
 obtain ⟨m,hm⟩:=hd
 exact ⟨u * m - k * b,by grind⟩
def Z (q:Int) (p:List Int):Prop:=∀ c ∈ p,q ∣ c
theorem Z.ev {q:Int}:∀ {p:List Int},Z q p → ∀ x,q ∣ FdPoly.ev p x
 | [],_,_=>Int.dvd_zero q
 | c :: p,h,x=>by
  have h1:=h c (by simp)
  have h2:=Z.ev (p:=p) (fun d hd=>h d (by simp [hd])) x
  exact Int.dvd_add h1 (Int.dvd_mul_of_dvd_right h2)
theorem Z.of_sd {q a:Int}:∀ {p:List Int},Z q (sd a p) → q ∣ FdPoly.ev p a → Z q p
 | [],_,_=>fun c hc=>by cases hc
 | [c],_,h=>fun d hd=>by
  simp only [List.mem_singleton] at hd
  subst hd
  simpa [FdPoly.ev] using h
 | c :: d :: p,hz,h=>by
  have h1:q ∣ FdPoly.ev (d :: p) a:=hz _ (by simp [sd])
  have h2:Z q (sd a (d :: p)):=fun e he=>hz e (by simp [sd,he])
  have h3:=Z.of_sd h2 h1
  intro e he
  rcases List.mem_cons.1 he with rfl | he
  ·have e3:FdPoly.ev (e :: d :: p) a = e + a * FdPoly.ev (d :: p) a:=rfl
   rw [e3] at h
   have h5:q ∣ a * FdPoly.ev (d :: p) a:=Int.dvd_mul_of_dvd_right h1
   have:=Int.dvd_sub h h5
   have e4:e + a * FdPoly.ev (d :: p) a - a * FdPoly.ev (d :: p) a = e:=by omega
   rwa [e4] at this
  ·exact h3 e he
def c7t (q:Int):List Int → Prop
 | []=>True
 | a :: xs=>(∀ x ∈ xs,U q (x - a)) ∧ c7t q xs
theorem d4i {q:Int}:∀ {xs p:List Int},c7t q xs → p.length ≤ xs.length → (∀ x ∈ xs,q ∣ ev p x) → Z q p
 | [],p,_,hl,_=>by
  have:p = []:=List.length_eq_zero_iff.1 (by simpa using hl)
  subst this
  exact fun c hc=>by cases hc
 | a :: xs,p,hA,hl,hz=>by
  have h1:=hz a (by simp)
  refine Z.of_sd (a:=a) (d4i hA.2 (by rw [e9d]; simp only [List.length_cons] at hl; omega) (fun x hx=>?_)) h1
  have h2:=hz x (by simp [hx])
  have h3:=f8n a x p
  refine (hA.1 x hx).cancel ?_
  rw [h3]
  exact Int.dvd_sub h2 h1
def b6k:List Int → List Int → List Int
 | [],p=>p
 | p,[]=>p
 | c :: p,d :: r=>(c + d) :: b6k p r
def scl (k:Int) (p:List Int):List Int:=p.map (fun c=>k * c)
theorem a6n (x:Int):∀ p r:List Int,ev (b6k p r) x = ev p x + ev r x
 | [],r=>by simp [b6k,ev]
 | c :: p,[]=>by simp [b6k,ev]
 | c :: p,d :: r=>by
  simp only [b6k,ev,a6n x p r]
  grind
theorem b0m:∀ p r:List Int,(b6k p r).length = max p.length r.length
 | [],r=>by simp [b6k]
 | c :: p,[]=>by simp [b6k]
 | c :: p,d :: r=>by simp only [b6k,List.length_cons,b0m p r]; omega
theorem a6z:∀ (p r:List Int) (i:Nat),(b6k p r).getD i 0 = p.getD i 0 + r.getD i 0
 | [],r,i=>by simp [b6k]
 | c :: p,[],i=>by simp [b6k]
 | c :: p,d :: r,0=>by simp [b6k]
 | c :: p,d :: r,i + 1=>by
  have:=a6z p r i
  simpa [b6k] using this
theorem b1b (k x:Int) (p:List Int):ev (scl k p) x = k * ev p x:=by
 induction p with
 | nil=>simp [scl,ev]
 | cons c p ih=>
  have e:scl k (c :: p) = (k * c) :: scl k p:=rfl
  rw [e]
  simp only [ev,ih]
  grind
theorem b4f (k:Int) (p:List Int):(scl k p).length = p.length:=by simp [scl]
theorem b1m (k:Int) (p:List Int) (i:Nat):(scl k p).getD i 0 = k * p.getD i 0:=by
 induction p generalizing i with
 | nil=>simp [scl]
 | cons c p ih=>
  cases i with
  | zero=>simp [scl]
  | succ i=>simpa [scl] using ih i
def lin (a:Int) (p:List Int):List Int:=b6k (0 :: p) (scl (-a) p)
theorem c5g (a x:Int) (p:List Int):ev (lin a p) x = (x - a) * ev p x:=by
 unfold lin
 rw [a6n,b1b]
 simp only [ev]
 grind
theorem c7u (a:Int) (p:List Int):(lin a p).length = p.length + 1:=by
 unfold lin
 rw [b0m,b4f,List.length_cons]; omega
theorem c7v (a:Int) (p:List Int):(lin a p).getD p.length 0 = p.getD (p.length - 1) 0:=by
 unfold lin
 rw [a6z,b1m]
 have h1:p.getD p.length 0 = 0:=by simp [List.getD]
 rw [h1]
 cases p with
 | nil=>simp
 | cons c p=>simp
structure Ip (q:Int) (X Y:Nat → Int) (i n:Nat) (p:List Int) (t:Int):Prop where
 len:p.length = n + 1
 val:∀ j,i ≤ j → j ≤ i + n → q ∣ ev p (X j) - Y j
 top:q ∣ p.getD n 0 - t
theorem Ip.step {q:Int} {X Y:Nat → Int} {i n:Nat} {p r:List Int} {t s u:Int} (h:Ip q X Y i n p t) (h':Ip q X Y (i + 1) n r s) (hu:q ∣ u * (X (i + n + 1) - X i) - 1) :
  Ip q X Y i (n + 1) (scl u (b6k (lin (X i) r) (scl (-1) (lin (X (i + n + 1)) p)))) ((s - t) * u):=by
 refine ⟨?_,fun j h1 h2=>?_,?_⟩
 ·rw [b4f,b0m,b4f,c7u,c7u,h.len,h'.len]; omega
 ·rw [b1b,a6n,b1b,c5g,c5g]
  obtain ⟨k,hk⟩:=hu
  by_cases hj:j = i
  ·subst hj
   obtain ⟨a,ha⟩:=h.val j (Nat.le_refl _) (by omega)
   generalize ev p (X j) = P at *
   generalize ev r (X j) = R at *
   generalize X (j + n + 1) = xn at *
   generalize X j = xj at *
   generalize Y j = y at *
   exact ⟨u * (xn - xj) * a + k * y,by grind⟩
  ·by_cases hj2:j = i + n + 1
   ·subst hj2
    obtain ⟨a,ha⟩:=h'.val (i + n + 1) (by omega) (by omega)
    generalize ev p (X (i + n + 1)) = P at *
    generalize ev r (X (i + n + 1)) = R at *
    generalize X (i + n + 1) = xn at *
    generalize X i = xj at *
    generalize Y (i + n + 1) = y at *
    exact ⟨u * (xn - xj) * a + k * y,by grind⟩
   ·obtain ⟨a,ha⟩:=h.val j (by omega) (by omega)
    obtain ⟨b,hb⟩:=h'.val j (by omega) (by omega)
    generalize ev p (X j) = P at *
    generalize ev r (X j) = R at *
    generalize X (i + n + 1) = xn at *
    generalize X i = xi at *
    generalize X j = xj at *
    generalize Y j = y at *
    exact ⟨u * (xj - xi) * b - u * (xj - xn) * a + k * y,by grind⟩
 ·rw [b1m,a6z,b1m]
  have e1:(lin (X i) r).getD (n + 1) 0 = r.getD n 0:=by have:=c7v (X i) r; rw [h'.len] at this; exact this
  have e2:(lin (X (i + n + 1)) p).getD (n + 1) 0 = p.getD n 0:=by have:=c7v (X (i + n + 1)) p; rw [h.len] at this; exact this
  rw [e1,e2]
  obtain ⟨a,ha⟩:=h.top
  obtain ⟨b,hb⟩:=h'.top
  exact ⟨u * b - u * a,by grind⟩
theorem Ip.one (q:Int) (X Y:Nat → Int) (i:Nat):Ip q X Y i 0 [Y i] (Y i):=
 ⟨rfl,fun j h1 h2=>by
  have:j = i:=by omega
  subst this
  simp [ev],by simp⟩
def pr (X:Nat → Int):Nat → List Int
 | 0=>[1]
 | n + 1=>lin (X n) (pr X n)
theorem d4j (X:Nat → Int):∀ n,(pr X n).length = n + 1
 | 0=>rfl
 | n + 1=>by simp [pr,c7u,d4j X n]
theorem e9e (X:Nat → Int):∀ n,(pr X n).getD n 0 = 1
 | 0=>rfl
 | n + 1=>by
  have h1:=c7v (X n) (pr X n)
  rw [d4j] at h1
  exact h1.trans (e9e X n)
theorem d4k (X:Nat → Int):∀ (n j:Nat),j < n → ev (pr X n) (X j) = 0
 | 0,_,h=>by omega
 | n + 1,j,h=>by
  unfold pr
  rw [c5g]
  by_cases hj:j = n
  ·subst hj
   have:X j - X j = 0:=by omega
   rw [this]; simp
  ·rw [d4k X n j (by omega)]; simp
def nwt (X D:Nat → Int):Nat → List Int
 | 0=>[]
 | n + 1=>b6k (nwt X D n) (scl (D n) (pr X n))
theorem c7w (X D:Nat → Int):∀ n,(nwt X D n).length = n
 | 0=>rfl
 | n + 1=>by rw [nwt,b0m,b4f,d4j,c7w X D n]; omega
theorem b7d {p:List Int} {n:Nat} (h:p.length ≤ n):p.getD n 0 = 0:=by
 rw [List.getD_eq_getElem?_getD,List.getElem?_eq_none h]; rfl
theorem e9f {q:Int} {X Y D:Nat → Int} {N:Nat} (hA:∀ a b,a < b → b < N → U q (X b - X a)) (hD:∀ n,n < N → ∃ p,Ip q X Y 0 n p (D n)):∀ n,n ≤ N → ∀ j,j < n → q ∣ ev (nwt X D n) (X j) - Y j
 | 0,_,_,h=>by omega
 | n + 1,hn,j,hj=>by
  obtain ⟨p,hp⟩:=hD n (by omega)
  have ih:=e9f hA hD n (by omega)
  have hz:Z q (b6k p (scl (-1) (nwt X D (n + 1)))):=by
   have hlen:(b6k p (scl (-1) (nwt X D (n + 1)))).length = n + 1:=by rw [b0m,b4f,hp.len,c7w]; omega
   have htop:q ∣ (b6k p (scl (-1) (nwt X D (n + 1)))).getD n 0:=by
    rw [a6z,b1m]
    have e:(nwt X D (n + 1)).getD n 0 = D n:=by
     rw [nwt,a6z,b1m,e9e,b7d (by rw [c7w]; omega)]; omega
    rw [e]
    have:=hp.top
    have e2:p.getD n 0 - D n = p.getD n 0 + -1 * D n:=by omega
    rwa [e2] at this
   generalize hdef:b6k p (scl (-1) (nwt X D (n + 1))) = d at hlen htop
   have hev:∀ j,j < n → q ∣ ev d (X j):=by
    intro j hj
    rw [← hdef,a6n,b1b,nwt,a6n,b1b,d4k X n j hj]
    have h1:=hp.val j (by omega) (by omega)
    have h2:=ih j hj
    have:=Int.dvd_sub h1 h2
    have e:ev p (X j) - Y j - (ev (nwt X D n) (X j) - Y j) = ev p (X j) + -1 * (ev (nwt X D n) (X j) + D n * 0):=by omega
    rwa [e] at this
   have hsplit:d = d.take n ++ [d.getD n 0]:=by
    have:d.take (n + 1) = d.take n ++ [d[n]'(by omega)]:=List.take_succ_eq_append_getElem (by omega)
    rw [List.take_of_length_le (by omega)] at this
    have e:d.getD n 0 = d[n]'(by omega):=by simp [List.getD,hlen]
    rw [e]; exact this
   have hevs:∀ (a:List Int) (c x:Int),∃ m,ev (a ++ [c]) x = ev a x + c * m:=by
    intro a c x
    induction a with
    | nil=>exact ⟨1,by simp [ev]⟩
    | cons e a ih=>
     obtain ⟨m,hm⟩:=ih
     exact ⟨x * m,by simp only [List.cons_append,ev,hm]; grind⟩
   have hz1:Z q (d.take n):=by
    refine d4i (xs:=(List.range n).map X) ?_ (by rw [List.length_map,List.length_range,List.length_take]; omega) ?_
    ·have:∀ m k,k + m ≤ n → c7t q ((List.range' k m).map X):=by
      intro m
      induction m with
      | zero=>intro k _; exact trivial
      | succ m ih=>
       intro k hm
       rw [List.range'_succ,List.map_cons]
       refine ⟨fun x hx=>?_,ih (k + 1) (by omega)⟩
       obtain ⟨b,hb,rfl⟩:=List.mem_map.1 hx
       rw [List.mem_range'_1] at hb
       exact hA k b (by omega) (by omega)
     have:=this n 0 (by omega)
     rwa [List.range_eq_range']
    ·intro x hx
     obtain ⟨b,hb,rfl⟩:=List.mem_map.1 hx
     rw [List.mem_range] at hb
     have h1:=hev b hb
     obtain ⟨m,hm⟩:=hevs (d.take n) (d.getD n 0) (X b)
     rw [← hsplit] at hm
     rw [hm] at h1
     have h2:q ∣ d.getD n 0 * m:=Int.dvd_mul_of_dvd_left htop
     have:=Int.dvd_sub h1 h2
     have e:ev (d.take n) (X b) + d.getD n 0 * m - d.getD n 0 * m = ev (d.take n) (X b):=by omega
     rwa [e] at this
   intro c hc
   rw [hsplit] at hc
   rcases List.mem_append.1 hc with hc | hc
   ·exact hz1 c hc
   ·simp only [List.mem_singleton] at hc
    rw [hc]; exact htop
  have h1:=hz.ev (X j)
  rw [a6n,b1b] at h1
  have h2:=hp.val j (by omega) (by omega)
  have:=Int.dvd_sub h2 h1
  have e:ev p (X j) - Y j - (ev p (X j) + -1 * ev (nwt X D (n + 1)) (X j)) = ev (nwt X D (n + 1)) (X j) - Y j:=by omega
  rwa [e] at this
end FdPoly
namespace FdPoly
open FdSpec
theorem b2v {n a b:Int} (hn:okN n):n ∣ a6i n a b - (a + b):=by
 unfold a6i; rw [if_pos hn]
 have:=Int.emod_add_mul_ediv (a + b) n
 exact ⟨-((a + b) / n),by grind⟩
theorem b0l {n a b:Int} (hn:okN n):n ∣ a3g n a b - (a - b):=by
 unfold a3g; rw [if_pos hn]
 have:=Int.emod_add_mul_ediv (a - b) n
 exact ⟨-((a - b) / n),by grind⟩
theorem a8k {n a b:Int} (hn:okN n):n ∣ a2n n a b - a * b:=by
 unfold a2n; rw [if_pos hn]
 have:=Int.emod_add_mul_ediv (a * b) n
 exact ⟨-(a * b / n),by grind⟩
theorem c2x (n a:Int):n ∣ a % n - a:=by
 have:=Int.emod_add_mul_ediv a n
 exact ⟨-(a / n),by grind⟩
theorem d4h {n a:Int} (hn:okN n):∀ (m:Nat) (r s x y α β:Int),s.toNat ≤ m → 0 ≤ r → 0 ≤ s → α * r + β * s = 1 → n ∣ x * a - r → n ∣ y * a - s → (a4d n r s x y).1 = 1 ∧ n ∣ (a4d n r s x y).2 * a - 1
 | m,r,s,x,y,α,β,hm,hr,hs,hb,hx,hy=>by
  by_cases h0:s = 0
  ·subst h0
   have e:a4d n r 0 x y = (r,x):=c9x n _ r x y
   rw [e]
   have h1:α * r = 1:=by omega
   have h2:r = 1:=by
    have:r ∣ 1:=⟨α,by rw [Int.mul_comm]; exact h1.symm⟩
    have:=Int.le_of_dvd (by omega) this
    by_cases h3:r = 0
    ·rw [h3] at h1; omega
    ·omega
   subst h2
   exact ⟨rfl,hx⟩
  ·have hs':0 < s:=by omega
   rw [c2z n r s x y hs']
   have h1:=Int.emod_nonneg r h0
   have h2:=Int.emod_lt_of_pos r hs'
   have h3:=Int.emod_add_mul_ediv r s
   have h4:n ∣ a3g n x (a2n n (r / s) y) * a - r % s:=by
    obtain ⟨k1,e1⟩:=b0l (a:=x) (b:=a2n n (r / s) y) hn
    obtain ⟨k2,e2⟩:=a8k (a:=r / s) (b:=y) hn
    obtain ⟨k3,e3⟩:=hx
    obtain ⟨k4,e4⟩:=hy
    generalize a3g n x (a2n n (r / s) y) = A at *
    generalize a2n n (r / s) y = B at *
    generalize r / s = d at *
    generalize r % s = e at *
    exact ⟨k1 * a - k2 * a + k3 - d * k4,by grind⟩
   cases m with
   | zero=>omega
   | succ m=>exact d4h hn m s (r % s) y _ (β + α * (r / s)) α (by omega) hs h1 (by generalize r / s = d at *; generalize r % s = e at *; grind) hy h4
theorem c5f {n a:Int} (hn:okN n) (h:U n a):∃ x,b4g n a = some x ∧ n ∣ x * a - 1 ∧ 0 ≤ x ∧ x < n:=by
 obtain ⟨u,k,hk⟩:=h
 have hp:0 < n:=by have:=hn.1; omega
 have h1:=Int.emod_nonneg a (b:=n) (by omega)
 have h3:=Int.emod_add_mul_ediv a n
 obtain ⟨e1,e2⟩:=d4h (a:=a) hn _ n (a % n) 0 1 (u * (a / n) - k) u (Nat.le_refl _) (by omega) h1 (by generalize a / n = d at *; generalize a % n = e at *; grind) ⟨-1,by omega⟩ (by
  obtain ⟨m,hm⟩:=c2x n a
  exact ⟨-m,by grind⟩)
 refine ⟨(a4d n n (a % n) 0 1).2 % n,?_,?_,Int.emod_nonneg _ (by omega),Int.emod_lt_of_pos _ hp⟩
 ·unfold b4g
  rw [if_pos hn,if_pos e1]
 ·obtain ⟨m,hm⟩:=c2x n (a4d n n (a % n) 0 1).2
  obtain ⟨l,hl⟩:=e2
  generalize (a4d n n (a % n) 0 1).2 = z at *
  generalize z % n = zz at *
  exact ⟨m * a + l,by grind⟩
end FdPoly
namespace FdPoly
open FdSpec
def c5h (q a:Int):Int:=(b4g q a).getD 0
def atM (q:Int) (p:List Int) (x:Int):Int:=p.foldr (fun c out=>a6i q (a2n q out x) c) 0
theorem d4p {q:Int} (hq:okN q) (x:Int):∀ p:List Int,q ∣ atM q p x - ev p x
 | []=>by simp [atM,ev]
 | c :: p=>by
  obtain ⟨k,hk⟩:=d4p hq x p
  have e:atM q (c :: p) x = a6i q (a2n q (atM q p x) x) c:=rfl
  obtain ⟨a,ha⟩:=b2v (a:=a2n q (atM q p x) x) (b:=c) hq
  obtain ⟨b,hb⟩:=a8k (a:=atM q p x) (b:=x) hq
  rw [e]
  simp only [ev]
  generalize a6i q (a2n q (atM q p x) x) c = A at *
  generalize a2n q (atM q p x) x = B at *
  generalize atM q p x = C at *
  generalize ev p x = D at *
  exact ⟨a + b + k * x,by grind⟩
theorem c5i {q:Int} (hq:okN q) (x:Int) (p:List Int):0 ≤ atM q p x ∧ atM q p x < q:=by
 have:=hq.1
 cases p with
 | nil=>simp [atM]; omega
 | cons c p=>exact a7w _ _ _ hq
theorem f8p {q a b:Int} (h:q ∣ a - b) (ha:0 ≤ a ∧ a < q) (hb:0 ≤ b ∧ b < q):a = b:=by
 obtain ⟨k,hk⟩:=h
 have h1:k < 1:=by
  refine Classical.byContradiction fun hn=>?_
  have:q * 1 ≤ q * k:=Int.mul_le_mul_of_nonneg_left (by omega) (by omega)
  omega
 have h2:-1 < k:=by
  refine Classical.byContradiction fun hn=>?_
  have:q * k ≤ q * (-1):=Int.mul_le_mul_of_nonneg_left (by omega) (by omega)
  omega
 have:k = 0:=by omega
 subst this
 omega
def e3w (q:Int) (xs:List Int) (k:Nat) (d:List Int) (i:Nat):Int:=a2n q (a3g q (d.getD i 0) (d.getD (i - 1) 0)) (c5h q (a3g q (xs.getD i 0) (xs.getD (i - k) 0)))
def dIn (q:Int) (xs:List Int) (k:Nat):Nat → List Int → List Int
 | 0,d=>d
 | m + 1,d=>dIn q xs k m (d.set (k + m) (e3w q xs k d (k + m)))
def b1o (q:Int) (xs:List Int):Nat → List Int → List Int
 | 0,d=>d
 | k + 1,d=>dIn q xs (k + 1) (xs.length - (k + 1)) (b1o q xs k d)
theorem d4q (q:Int) (xs:List Int) (k:Nat):∀ m d,(dIn q xs k m d).length = d.length
 | 0,d=>rfl
 | m + 1,d=>by rw [dIn,d4q q xs k m]; simp
theorem b6l (q:Int) (xs:List Int):∀ k d,(b1o q xs k d).length = d.length
 | 0,d=>rfl
 | k + 1,d=>by rw [b1o,d4q,b6l q xs k]
theorem a8m (l:List Int) (j i:Nat) (v:Int) (hj:j < l.length):(l.set j v).getD i 0 = if i = j then v else l.getD i 0:=by
 rw [List.getD_eq_getElem?_getD,List.getElem?_set]
 by_cases h:j = i
 ·subst h
  rw [if_pos rfl,if_pos hj,if_pos rfl]; rfl
 ·rw [if_neg h,if_neg (fun e=>h e.symm),List.getD_eq_getElem?_getD]
theorem d4r (q:Int) (xs:List Int) (k:Nat) (hk:1 ≤ k):∀ (m:Nat) (d:List Int),k + m ≤ d.length → ∀ i,(dIn q xs k m d).getD i 0 = if k ≤ i ∧ i < k + m then e3w q xs k d i else d.getD i 0
 | 0,d,_,i=>by rw [dIn,if_neg (by omega)]
 | m + 1,d,h,i=>by
  rw [dIn,d4r q xs k hk m _ (by rw [List.length_set]; omega) i]
  by_cases h1:k ≤ i ∧ i < k + m
  ·rw [if_pos h1,if_pos (by omega)]
   unfold e3w
   rw [a8m _ _ _ _ (by omega),if_neg (by omega),a8m _ _ _ _ (by omega),if_neg (by omega)]
  ·rw [if_neg h1,a8m _ _ _ _ (by omega)]
   by_cases h2:i = k + m
   ·rw [if_pos h2,if_pos (by omega),h2]
   ·rw [if_neg h2,if_neg (by omega)]
theorem Ip.cong {q:Int} {X Y:Nat → Int} {i n:Nat} {p:List Int} {t s:Int} (h:Ip q X Y i n p t) (e:q ∣ t - s):Ip q X Y i n p s:=by
 refine ⟨h.len,h.val,?_⟩
 have:=Int.dvd_add h.top e
 have e2:p.getD n 0 - t + (t - s) = p.getD n 0 - s:=by omega
 rwa [e2] at this
theorem U.cong {q a b:Int} (h:U q a) (e:q ∣ b - a):U q b:=by
 obtain ⟨u,k,hk⟩:=h
 obtain ⟨m,hm⟩:=e
 exact ⟨u,k + u * m,by grind⟩
section
variable {q:Int} {xs ys:List Int}
def d0 (q:Int) (ys:List Int):List Int:=ys.map (fun y=>y % q)
theorem c5j (q:Int) (ys:List Int) (i:Nat):q ∣ (d0 q ys).getD i 0 - ys.getD i 0:=by
 unfold d0
 rw [List.getD_eq_getElem?_getD,List.getD_eq_getElem?_getD,List.getElem?_map]
 cases h:ys[i]? with
 | none=>simp
 | some y=>simpa using c2x q y
theorem d4s (hq:okN q) (hl:xs.length = ys.length) (hA:∀ a b,a < b → b < xs.length → U q (xs.getD b 0 - xs.getD a 0)):∀ k,k < xs.length → ∀ i,i < xs.length →
  (i ≤ k → ∃ p,Ip q (fun j=>xs.getD j 0) (fun j=>ys.getD j 0) 0 i p ((b1o q xs k (d0 q ys)).getD i 0)) ∧ (k ≤ i → ∃ p,Ip q (fun j=>xs.getD j 0) (fun j=>ys.getD j 0) (i - k) k p ((b1o q xs k (d0 q ys)).getD i 0))
 | 0,_,i,hi=>by
  have h1:=(Ip.one q (fun j=>xs.getD j 0) (fun j=>ys.getD j 0) i).cong (s:=(d0 q ys).getD i 0) (by
   obtain ⟨m,hm⟩:=c5j q ys i
   exact ⟨-m,by grind⟩)
  refine ⟨fun h=>?_,fun _=>⟨_,h1⟩⟩
  have:i = 0:=by omega
  subst this
  exact ⟨_,h1⟩
 | k + 1,hk,i,hi=>by
  have ih:=d4s hq hl hA k (by omega)
  have hlen:(b1o q xs k (d0 q ys)).length = xs.length:=by rw [b6l]; simp [d0,hl]
  have hg:=d4r q xs (k + 1) (by omega) (xs.length - (k + 1)) (b1o q xs k (d0 q ys)) (by omega) i
  have e:(b1o q xs (k + 1) (d0 q ys)).getD i 0 = (dIn q xs (k + 1) (xs.length - (k + 1)) (b1o q xs k (d0 q ys))).getD i 0:=rfl
  rw [e,hg]
  have main:k + 1 ≤ i → ∃ p,Ip q (fun j=>xs.getD j 0) (fun j=>ys.getD j 0) (i - (k + 1)) (k + 1) p (e3w q xs (k + 1) (b1o q xs k (d0 q ys)) i):=by
   intro hki
   obtain ⟨p1,h1⟩:=(ih i hi).2 (by omega)
   obtain ⟨p0,h0⟩:=(ih (i - 1) (by omega)).2 (by omega)
   have e1:i - 1 - k = i - (k + 1):=by omega
   have e2:i - k = i - (k + 1) + 1:=by omega
   rw [e1] at h0
   rw [e2] at h1
   have hu:=hA (i - (k + 1)) i (by omega) hi
   obtain ⟨m,hm⟩:=b0l (a:=xs.getD i 0) (b:=xs.getD (i - (k + 1)) 0) hq
   obtain ⟨u,hu1,⟨l,hl1⟩,_⟩:=c5f hq (hu.cong ⟨m,hm⟩)
   have e3:i - (k + 1) + k + 1 = i:=by omega
   have hs:=h0.step h1 (u:=u) (by
    simp only [e3]
    generalize a3g q (xs.getD i 0) (xs.getD (i - (k + 1)) 0) = S at *
    generalize xs.getD i 0 = a at *
    generalize xs.getD (i - (k + 1)) 0 = b at *
    exact ⟨l - u * m,by grind⟩)
   refine ⟨_,hs.cong ?_⟩
   unfold e3w c5h
   rw [hu1]
   obtain ⟨a,ha⟩:=b0l (a:=(b1o q xs k (d0 q ys)).getD i 0) (b:=(b1o q xs k (d0 q ys)).getD (i - 1) 0) hq
   obtain ⟨c,hc⟩:=a8k (a:=a3g q ((b1o q xs k (d0 q ys)).getD i 0) ((b1o q xs k (d0 q ys)).getD (i - 1) 0)) (b:=u) hq
   simp only [Option.getD_some]
   generalize a2n q (a3g q ((b1o q xs k (d0 q ys)).getD i 0) ((b1o q xs k (d0 q ys)).getD (i - 1) 0)) u = M at *
   generalize a3g q ((b1o q xs k (d0 q ys)).getD i 0) ((b1o q xs k (d0 q ys)).getD (i - 1) 0) = S at *
   generalize (b1o q xs k (d0 q ys)).getD i 0 = s at *
   generalize (b1o q xs k (d0 q ys)).getD (i - 1) 0 = t at *
   exact ⟨-c - u * a,by grind⟩
  by_cases hki:k + 1 ≤ i
  ·rw [if_pos (by omega)]
   refine ⟨fun h=>?_,fun _=>main hki⟩
   have:i = k + 1:=by omega
   subst this
   have:=main hki
   rwa [Nat.sub_self] at this
  ·rw [if_neg (by omega)]
   exact ⟨fun _=>(ih i hi).1 (by omega),fun h=>absurd h hki⟩
end
def f5b (q x d:Int) (o:List Int) (n:Nat):Int:=if n = 0 then a6i q (a3g q 0 (a2n q (o.getD 0 0) x)) d else a6i q (a3g q 0 (a2n q (o.getD n 0) x)) (o.getD (n - 1) 0)
def b4i (q x d:Int) (o:List Int):List Int:=(List.range o.length).map (f5b q x d o)
def d4t (q:Int) (xs d:List Int):Nat → List Int → List Int
 | 0,o=>o
 | i + 1,o=>d4t q xs d i (b4i q (xs.getD i 0) (d.getD i 0) o)
theorem f5c {q:Int} (x:Int) {p r:List Int} (h:∀ i,q ∣ p.getD i 0 - r.getD i 0):q ∣ ev p x - ev r x:=by
 have hz:Z q (b6k p (scl (-1) r)):=by
  intro c hc
  obtain ⟨i,hi,rfl⟩:=List.mem_iff_getElem.1 hc
  have h1:=a6z p (scl (-1) r) i
  rw [b1m,List.getD_eq_getElem?_getD,List.getElem?_eq_getElem hi,Option.getD_some] at h1
  rw [h1]
  have:=h i
  have e:p.getD i 0 - r.getD i 0 = p.getD i 0 + -1 * r.getD i 0:=by omega
  rwa [e] at this
 have:=hz.ev x
 rw [a6n,b1b] at this
 have e:ev p x + -1 * ev r x = ev p x - ev r x:=by omega
 rwa [e] at this
theorem c5k (q x d:Int) (o:List Int) (n:Nat):(b4i q x d o).getD n 0 = if n < o.length then f5b q x d o n else 0:=by
 unfold b4i
 rw [List.getD_eq_getElem?_getD,List.getElem?_map]
 by_cases h:n < o.length
 ·rw [List.getElem?_range h,if_pos h]; rfl
 ·rw [if_neg h,List.getElem?_eq_none (by simp; omega)]; rfl
theorem c5l (q x d:Int) (o:List Int):(b4i q x d o).length = o.length:=by simp [b4i]
def Zr (c:Nat) (o:List Int):Prop:=∀ n,c ≤ n → o.getD n 0 = 0
theorem g7z {q x:Int} (hq:okN q):a2n q 0 x = 0:=by unfold a2n; rw [if_pos hq]; simp
theorem g8a {q:Int} (hq:okN q):a3g q 0 0 = 0:=by unfold a3g; rw [if_pos hq]; simp
theorem g8b {q:Int} (hq:okN q):a6i q 0 0 = 0:=by unfold a6i; rw [if_pos hq]; simp
theorem Zr.step {q x d:Int} (hq:okN q) {c:Nat} {o:List Int} (h:Zr c o):Zr (c + 1) (b4i q x d o):=by
 intro n hn
 rw [c5k]
 split
 ·unfold f5b
  rw [if_neg (by omega),h n (by omega),h (n - 1) (by omega),g7z hq,g8a hq,g8b hq]
 ·rfl
theorem e3x {q x d:Int} (hq:okN q) {c:Nat} {o:List Int} (h:Zr c o) (hc:c < o.length) (y:Int):q ∣ ev (b4i q x d o) y - (d + (y - x) * ev o y):=by
 have h1:q ∣ ev (b4i q x d o) y - ev (b6k [d] (lin x o)) y:=by
  refine f5c y (fun i=>?_)
  rw [c5k,a6z]
  unfold lin
  rw [a6z,b1m]
  by_cases hi:i < o.length
  ·rw [if_pos hi]
   unfold f5b
   obtain ⟨b,hb⟩:=a8k (a:=o.getD i 0) (b:=x) hq
   obtain ⟨s,hs⟩:=b0l (a:=0) (b:=a2n q (o.getD i 0) x) hq
   cases i with
   | zero=>
    rw [if_pos rfl]
    obtain ⟨a,ha⟩:=b2v (a:=a3g q 0 (a2n q (o.getD 0 0) x)) (b:=d) hq
    simp only [List.getD_cons_zero]
    generalize a6i q (a3g q 0 (a2n q (o.getD 0 0) x)) d = A at *
    generalize a3g q 0 (a2n q (o.getD 0 0) x) = S at *
    generalize a2n q (o.getD 0 0) x = B at *
    generalize o.getD 0 0 = o0 at *
    exact ⟨a + s - b,by grind⟩
   | succ i=>
    rw [if_neg (by omega)]
    obtain ⟨a,ha⟩:=b2v (a:=a3g q 0 (a2n q (o.getD (i + 1) 0) x)) (b:=o.getD (i + 1 - 1) 0) hq
    have e1:[d].getD (i + 1) 0 = 0:=by simp
    have e2:(0 :: o).getD (i + 1) 0 = o.getD i 0:=by simp
    have e3:i + 1 - 1 = i:=by omega
    rw [e1,e2]
    rw [e3] at ha ⊢
    generalize a6i q (a3g q 0 (a2n q (o.getD (i + 1) 0) x)) (o.getD i 0) = A at *
    generalize a3g q 0 (a2n q (o.getD (i + 1) 0) x) = S at *
    generalize a2n q (o.getD (i + 1) 0) x = B at *
    generalize o.getD (i + 1) 0 = o1 at *
    generalize o.getD i 0 = o0 at *
    exact ⟨a + s - b,by grind⟩
  ·rw [if_neg hi]
   have e1:[d].getD i 0 = 0:=b7d (by simp; omega)
   have e2:o.getD i 0 = 0:=b7d (by omega)
   have e3:(0 :: o).getD i 0 = 0:=by
    cases i with
    | zero=>simp
    | succ i=>
     have:=h i (by omega)
     simpa using this
   rw [e1,e2,e3]
   exact ⟨0,by omega⟩
 rw [a6n,c5g] at h1
 simpa [ev] using h1
def sfx (X D:Nat → Int) (x:Int):Nat → Nat → Int
 | _,0=>0
 | i,m + 1=>D i + (x - X i) * sfx X D x (i + 1) m
theorem d4u (X D:Nat → Int) (x:Int):∀ (m i:Nat),ev (nwt X D (i + m)) x = ev (nwt X D i) x + ev (pr X i) x * sfx X D x i m
 | 0,i=>by simp [sfx]
 | m + 1,i=>by
  have h1:=d4u X D x m (i + 1)
  have e:i + (m + 1) = i + 1 + m:=by omega
  rw [e,h1]
  have e2:ev (nwt X D (i + 1)) x = ev (nwt X D i) x + D i * ev (pr X i) x:=by rw [nwt,a6n,b1b]
  have e3:ev (pr X (i + 1)) x = (x - X i) * ev (pr X i) x:=by rw [pr,c5g]
  rw [e2,e3,sfx]
  generalize ev (pr X i) x = P at *
  generalize sfx X D x (i + 1) m = S at *
  grind
theorem c9y (q:Int) (xs d:List Int):∀ i o,(d4t q xs d i o).length = o.length
 | 0,o=>rfl
 | i + 1,o=>by rw [d4t,c9y q xs d i,c5l]
theorem d4v {q:Int} {xs d:List Int} (hq:okN q) (y:Int):∀ (i m:Nat) (o:List Int),o.length = i + m → Zr m o → q ∣ ev o y - sfx (fun j=>xs.getD j 0) (fun j=>d.getD j 0) y i m →
  q ∣ ev (d4t q xs d i o) y - sfx (fun j=>xs.getD j 0) (fun j=>d.getD j 0) y 0 (i + m)
 | 0,m,o,_,_,h=>by simpa [d4t] using h
 | i + 1,m,o,hl,hz,h=>by
  rw [d4t]
  have h1:=e3x (x:=xs.getD i 0) (d:=d.getD i 0) hq hz (by omega) y
  have e:i + 1 + m = i + (m + 1):=by omega
  rw [e]
  refine d4v hq y i (m + 1) _ (by rw [c5l]; omega) (hz.step hq) ?_
  rw [sfx]
  obtain ⟨a,ha⟩:=h1
  obtain ⟨b,hb⟩:=h
  generalize ev (b4i q (xs.getD i 0) (d.getD i 0) o) y = H at *
  generalize sfx (fun j=>xs.getD j 0) (fun j=>d.getD j 0) y (i + 1) m = S at *
  generalize ev o y = E at *
  generalize xs.getD i 0 = x at *
  generalize d.getD i 0 = dd at *
  exact ⟨a + (y - x) * b,by grind⟩
def thr (q:Int) (xs ys:List Int):List Int:=d4t q xs (b1o q xs (xs.length - 1) (d0 q ys)) xs.length (List.replicate xs.length 0)
theorem d4w (q:Int) (xs ys:List Int):(thr q xs ys).length = xs.length:=by
 unfold thr; rw [c9y]; simp
theorem f8q {q:Int} {xs ys:List Int} (hq:okN q) (hl:xs.length = ys.length) (hA:∀ a b,a < b → b < xs.length → U q (xs.getD b 0 - xs.getD a 0)) (j:Nat) (hj:j < xs.length):q ∣ ev (thr q xs ys) (xs.getD j 0) - ys.getD j 0:=by
 have h1:=d4v (xs:=xs) (d:=b1o q xs (xs.length - 1) (d0 q ys)) hq (xs.getD j 0) xs.length 0 (List.replicate xs.length 0) (by simp) (fun n _=>by
  rw [List.getD_eq_getElem?_getD]
  by_cases h:n < xs.length
  ·rw [List.getElem?_replicate,if_pos h]; rfl
  ·rw [List.getElem?_eq_none (by simp; omega)]; rfl) (by
  have hz:Z q (List.replicate xs.length 0):=fun c hc=>by
   rw [List.mem_replicate] at hc
   rw [hc.2]; exact Int.dvd_zero q
  have:=hz.ev (xs.getD j 0)
  simpa [sfx] using this)
 have h2:=d4u (fun j=>xs.getD j 0) (fun j=>(b1o q xs (xs.length - 1) (d0 q ys)).getD j 0) (xs.getD j 0) xs.length 0
 have h3:=e9f (X:=fun j=>xs.getD j 0) (Y:=fun j=>ys.getD j 0) (D:=fun j=>(b1o q xs (xs.length - 1) (d0 q ys)).getD j 0) (N:=xs.length) hA (fun n hn=>(d4s hq hl hA (xs.length - 1) (by omega) n hn).1 (by omega)) xs.length (Nat.le_refl _) j hj
 simp only [Nat.zero_add,nwt,pr,ev] at h2
 simp only [Nat.add_zero] at h1
 have e:ev (nwt (fun j=>xs.getD j 0) (fun j=>(b1o q xs (xs.length - 1) (d0 q ys)).getD j 0) xs.length) (xs.getD j 0) = sfx (fun j=>xs.getD j 0) (fun j=>(b1o q xs (xs.length - 1) (d0 q ys)).getD j 0) (xs.getD j 0) 0 xs.length:=by
  rw [h2]; grind
 rw [e] at h3
 have:=Int.dvd_add h1 h3
 unfold thr
 have e2:∀ a b c:Int,a - b + (b - c) = a - c:=fun a b c=>by omega
 rwa [e2] at this
theorem g4e {q:Int} {xs p r:List Int} (hA:∀ a b,a < b → b < xs.length → U q (xs.getD b 0 - xs.getD a 0)) (hp:p.length ≤ xs.length) (hr:r.length ≤ xs.length) (h:∀ x ∈ xs,q ∣ ev p x - ev r x) (y:Int):q ∣ ev p y - ev r y:=by
 have hap:∀ l:List Int,(∀ a b,a < b → b < l.length → U q (l.getD b 0 - l.getD a 0)) → c7t q l:=by
  intro l
  induction l with
  | nil=>intro _; exact trivial
  | cons c l ih=>
   intro h
   refine ⟨fun x hx=>?_,ih (fun a b h1 h2=>?_)⟩
   ·obtain ⟨i,hi,rfl⟩:=List.mem_iff_getElem.1 hx
    have:=h 0 (i + 1) (by omega) (by simp only [List.length_cons]; omega)
    simpa [List.getD,hi] using this
   ·have:=h (a + 1) (b + 1) (by omega) (by simp only [List.length_cons]; omega)
    simpa using this
 have hz:=d4i (q:=q) (xs:=xs) (p:=b6k p (scl (-1) r)) (hap xs hA) (by rw [b0m,b4f]; omega) (fun x hx=>by
  rw [a6n,b1b]
  have:=h x hx
  have e:ev p x - ev r x = ev p x + -1 * ev r x:=by omega
  rwa [e] at this)
 have:=hz.ev y
 rw [a6n,b1b] at this
 have e:ev p y + -1 * ev r y = ev p y - ev r y:=by omega
 rwa [e] at this
end FdPoly
namespace FdPoly
open FdSpec
theorem U.mul {q a b:Int} (ha:U q a) (hb:U q b):U q (a * b):=by
 obtain ⟨u,k,hk⟩:=ha
 obtain ⟨v,m,hm⟩:=hb
 exact ⟨u * v,v * b * k + m,by grind⟩
theorem U.one (q:Int):U q 1:=⟨1,0,by omega⟩
theorem U.of_bez {q a u t:Int} (h:u * a = 1 + q * t):U q a:=⟨u,t,by omega⟩
theorem U2 {q:Int} (h:q % 2 ≠ 0):U q 2:=by
 refine .of_bez (u:=(1 + q) / 2) (t:=1) ?_
 omega
theorem U3 {q:Int} (h:q % 3 ≠ 0):U q 3:=by
 have:q % 3 = 1 ∨ q % 3 = 2:=by omega
 rcases this with h | h
 ·exact .of_bez (u:=(1 + q * 2) / 3) (t:=2) (by omega)
 ·exact .of_bez (u:=(1 + q * 1) / 3) (t:=1) (by omega)
theorem U5 {q:Int} (h:q % 5 ≠ 0):U q 5:=by
 have:q % 5 = 1 ∨ q % 5 = 2 ∨ q % 5 = 3 ∨ q % 5 = 4:=by omega
 rcases this with h | h | h | h
 ·exact .of_bez (u:=(1 + q * 4) / 5) (t:=4) (by omega)
 ·exact .of_bez (u:=(1 + q * 2) / 5) (t:=2) (by omega)
 ·exact .of_bez (u:=(1 + q * 3) / 5) (t:=3) (by omega)
 ·exact .of_bez (u:=(1 + q * 1) / 5) (t:=1) (by omega)
theorem U7 {q:Int} (h:q % 7 ≠ 0):U q 7:=by
 have:q % 7 = 1 ∨ q % 7 = 2 ∨ q % 7 = 3 ∨ q % 7 = 4 ∨ q % 7 = 5 ∨ q % 7 = 6:=by omega
 rcases this with h | h | h | h | h | h
 ·exact .of_bez (u:=(1 + q * 6) / 7) (t:=6) (by omega)
 ·exact .of_bez (u:=(1 + q * 3) / 7) (t:=3) (by omega)
 ·exact .of_bez (u:=(1 + q * 2) / 7) (t:=2) (by omega)
 ·exact .of_bez (u:=(1 + q * 5) / 7) (t:=5) (by omega)
 ·exact .of_bez (u:=(1 + q * 4) / 7) (t:=4) (by omega)
 ·exact .of_bez (u:=(1 + q * 1) / 7) (t:=1) (by omega)
theorem U11 {q:Int} (h:q % 11 ≠ 0):U q 11:=by
 have:q % 11 = 1 ∨ q % 11 = 2 ∨ q % 11 = 3 ∨ q % 11 = 4 ∨ q % 11 = 5 ∨ q % 11 = 6 ∨ q % 11 = 7 ∨ q % 11 = 8 ∨ q % 11 = 9 ∨ q % 11 = 10:=by omega
 rcases this with h | h | h | h | h | h | h | h | h | h
 ·exact .of_bez (u:=(1 + q * 10) / 11) (t:=10) (by omega)
 ·exact .of_bez (u:=(1 + q * 5) / 11) (t:=5) (by omega)
 ·exact .of_bez (u:=(1 + q * 7) / 11) (t:=7) (by omega)
 ·exact .of_bez (u:=(1 + q * 8) / 11) (t:=8) (by omega)
 ·exact .of_bez (u:=(1 + q * 2) / 11) (t:=2) (by omega)
 ·exact .of_bez (u:=(1 + q * 9) / 11) (t:=9) (by omega)
 ·exact .of_bez (u:=(1 + q * 3) / 11) (t:=3) (by omega)
 ·exact .of_bez (u:=(1 + q * 4) / 11) (t:=4) (by omega)
 ·exact .of_bez (u:=(1 + q * 6) / 11) (t:=6) (by omega)
 ·exact .of_bez (u:=(1 + q * 1) / 11) (t:=1) (by omega)
theorem U13 {q:Int} (h:q % 13 ≠ 0):U q 13:=by
 have:q % 13 = 1 ∨ q % 13 = 2 ∨ q % 13 = 3 ∨ q % 13 = 4 ∨ q % 13 = 5 ∨ q % 13 = 6 ∨ q % 13 = 7 ∨ q % 13 = 8 ∨ q % 13 = 9 ∨ q % 13 = 10 ∨ q % 13 = 11 ∨ q % 13 = 12:=by omega
 rcases this with h | h | h | h | h | h | h | h | h | h | h | h
 ·exact .of_bez (u:=(1 + q * 12) / 13) (t:=12) (by omega)
 ·exact .of_bez (u:=(1 + q * 6) / 13) (t:=6) (by omega)
 ·exact .of_bez (u:=(1 + q * 4) / 13) (t:=4) (by omega)
 ·exact .of_bez (u:=(1 + q * 3) / 13) (t:=3) (by omega)
 ·exact .of_bez (u:=(1 + q * 5) / 13) (t:=5) (by omega)
 ·exact .of_bez (u:=(1 + q * 2) / 13) (t:=2) (by omega)
 ·exact .of_bez (u:=(1 + q * 11) / 13) (t:=11) (by omega)
 ·exact .of_bez (u:=(1 + q * 8) / 13) (t:=8) (by omega)
 ·exact .of_bez (u:=(1 + q * 10) / 13) (t:=10) (by omega)
 ·exact .of_bez (u:=(1 + q * 9) / 13) (t:=9) (by omega)
 ·exact .of_bez (u:=(1 + q * 7) / 13) (t:=7) (by omega)
 ·exact .of_bez (u:=(1 + q * 1) / 13) (t:=1) (by omega)
theorem c8h {q:Int} (h:a3b q = true):q ∈ smallP ∨ ∀ p ∈ smallP,q % p ≠ 0:=by
 unfold a3b at h
 split at h
 ·cases h
 ·cases hf:smallP.find? (fun p=>decide (q % p = 0)) with
  | some p=>
   rw [hf] at h
   have hm:=List.mem_of_find?_eq_some hf
   have:q = p:=by simpa using h
   rw [this]; exact .inl hm
  | none=>
   rw [List.find?_eq_none] at hf
   exact .inr (fun p hp=>by simpa using hf p hp)
theorem d2i {q:Int} (h:a3b q = true) {d:Int} (h0:0 < d) (h1:d ≤ 16) (hdq:d < q):U q d:=by
 rcases c8h h with hm | hn
 ·have key:∀ q ∈ smallP,∀ d ∈ [1,2,3,4,5,6,7,8,9,10,11,12,13,14,15,16],d < q → ∃ u ∈ List.range 40,((u:Int) * d - 1) % q = 0:=by decide
  have hd:d ∈ [1,2,3,4,5,6,7,8,9,10,11,12,13,14,15,16]:=by simp; omega
  obtain ⟨u,_,hu⟩:=key q hm d hd hdq
  exact ⟨u,Int.dvd_of_emod_eq_zero hu⟩
 ·have h2:=U2 (hn 2 (by decide))
  have h3:=U3 (hn 3 (by decide))
  have h5:=U5 (hn 5 (by decide))
  have h7:=U7 (hn 7 (by decide))
  have h11:=U11 (hn 11 (by decide))
  have h13:=U13 (hn 13 (by decide))
  have hd:d = 1 ∨ d = 2 ∨ d = 3 ∨ d = 4 ∨ d = 5 ∨ d = 6 ∨ d = 7 ∨ d = 8 ∨ d = 9 ∨ d = 10 ∨ d = 11 ∨ d = 12 ∨ d = 13 ∨ d = 14 ∨ d = 15 ∨ d = 16:=by omega
  rcases hd with rfl | rfl | rfl | rfl | rfl | rfl | rfl | rfl | rfl | rfl | rfl | rfl | rfl | rfl | rfl | rfl
  ·exact U.one q
  ·exact h2
  ·exact h3
  ·exact h2.mul h2
  ·exact h5
  ·exact h2.mul h3
  ·exact h7
  ·exact h2.mul (h2.mul h2)
  ·exact h3.mul h3
  ·exact h2.mul h5
  ·exact h11
  ·exact h2.mul (h2.mul h3)
  ·exact h13
  ·exact h2.mul h7
  ·exact h3.mul h5
  ·exact h2.mul (h2.mul (h2.mul h2))
end FdPoly
namespace GrLaw
open FdSpec FdPoly TkSpec
structure Gv (g:Grp):Prop where
 q0:5 ≤ g.Q
 q1:g.Q < 1152921504606846976
 p:g.P = 2 * g.Q + 1
 g0:2 ≤ g.G
 g1:g.G < g.P
 pq:a3b g.Q = true
 gq:pw g.P g.G g.Q.toNat = 1
theorem g4h {g:Grp} (h:a2a g = true):Gv g:=by
 unfold a2a at h
 split at h
 ·cases h
 ·simp only [Bool.and_eq_true,decide_eq_true_eq] at h
  exact ⟨by omega,by omega,by omega,by omega,by omega,h.1.1,h.2⟩
section
variable {g:Grp} {x y a b:Int}
theorem Gv.okQ (h:Gv g):okN g.Q:=by have:=h.q0; have:=h.q1; exact ⟨by omega,by omega⟩
end
end GrLaw
namespace PrSpec
open FdSpec TkSpec CodeSpec FdPoly
structure Trm where
 var:Int
 base:Int
deriving DecidableEq
structure Eqn where
 target:Int
 terms:List Trm
deriving DecidableEq
structure Clm where
 vars:Int
 eqs:List Eqn
deriving DecidableEq
structure Cls where
 need:Int
 claims:List Clm
deriving DecidableEq
structure Knw where
 has:Bool
 values:List Int
deriving DecidableEq
def a1l (s:Stp) (n:Int):Bool:=decide (0 ≤ n) && decide (n < s.g.Q)
def a0g (s:Stp) (l:List Int) (n:Int):Bool:=decide ((l.length:Int) = n) && !(l.any fun x=>!a1l s x)
def a4v (s:Stp) (vars:Int) (t:Trm):Bool:=decide (0 ≤ t.var) && decide (t.var < vars) && a8l s.g t.base
def a5x (s:Stp) (vars:Int) (e:Eqn):Bool:=a8l s.g e.target && decide (e.terms.length ≤ 80) && e.terms.all (a4v s vars)
def a1q (s:Stp) (c:Clm):Bool:=decide (0 ≤ c.vars) && decide (c.vars ≤ 120) && decide (1 ≤ c.eqs.length) && decide (c.eqs.length ≤ 60) && c.eqs.all (a5x s c.vars)
def a8b (s:Stp) (e:Eqn) (vs:List Int):Int:=(b1n s.g (e.terms.map fun t=>t.base) (e.terms.map fun t=>vs.getD t.var.toNat 0)).1
def b1g (s:Stp) (c:Clm) (vs:List Int):Bool:=a0g s vs c.vars && !(c.eqs.any fun e=>!decide (a8b s e vs = e.target))
def b3g (s:Stp) (c:Clm) (vs:List Int):Bool:=a1x s && a1q s c && b1g s c vs
def a0z (s:Stp) (c:Cls):Bool:=decide (1 ≤ c.claims.length) && decide (c.claims.length ≤ 16) && decide ((c.claims.length:Int) < s.g.Q) && decide (1 ≤ c.need) && decide (c.need ≤ c.claims.length)
def a1p (s:Stp) (goal:List Cls):Bool:=a1x s && decide (1 ≤ goal.length) && decide (goal.length ≤ 300) && goal.all (a0z s) && goal.all (fun c=>c.claims.all (a1q s))
def a0p (s:Stp) (c:Clm) (dare:Int) (answers:List Int):List Int:=c.eqs.map fun e=>b9q s.g (a8b s e answers) (a5u s.g e.target dare)
def b3h (s:Stp) (c:Clm) (dare:Int) (answers:List Int):List Int:=
 if a1x s && a1q s c && a1l s dare && a0g s answers c.vars then a0p s c dare answers else []
def c3m (t:Trm):List Int:=[t.var,t.base]
def b4t (e:Eqn):List Int:=e.target :: (e.terms.length:Int) :: e.terms.flatMap c3m
def b1z (c:Clm):List Int:=c.vars :: (c.eqs.length:Int) :: c.eqs.flatMap b4t
def a9j (c:Cls):List Int:=c.need :: (c.claims.length:Int) :: c.claims.flatMap b1z
def a6r (goal:List Cls):List Int:=(goal.length:Int) :: goal.flatMap a9j
def b4u (goal:List Cls):a5e:=a9l (a6r goal)
def a8q (s:Stp):List Clm → List (List Int) → Bool
 | [],_=>true
 | c :: cs,l :: ls=>a0g s l c.vars && a8q s cs ls
 | _ :: _,[]=>false
def a8r (s:Stp):List Cls → List (List Int) → List (List (List Int)) → Bool
 | [],_,_=>true
 | c :: cs,d :: ds,n :: ns=>a0g s d c.claims.length && decide (n.length = c.claims.length) && a8q s c.claims n && a8r s cs ds ns
 | _ :: _,_,_=>false
def a0u (s:Stp) (goal:List Cls) (dares:List (List Int)) (nums:List (List (List Int))):Bool:=
 decide (dares.length = goal.length) && decide (nums.length = goal.length) && a8r s goal dares nums
def a1e (s:Stp):List Clm → List Int → List (List Int) → List Int
 | c :: cs,d :: ds,n :: ns=>a0p s c d n ++ a1e s cs ds ns
 | _,_,_=>[]
def a0t (s:Stp):List Cls → List (List Int) → List (List (List Int)) → List Int
 | c :: cs,d :: ds,n :: ns=>a1e s c.claims d n ++ a0t s cs ds ns
 | _,_,_=>[]
def a8s (s:Stp) (goal:List Cls) (ctx:a5e) (dares:List (List Int)) (nums:List (List (List Int))):Int:=
 a3t (a2t (b4u goal) ++ a2t ctx ++ a9l (a0t s goal dares nums)) s.g.Q
def c3n (s:Stp):List Clm → List Knw → Bool
 | [],_=>true
 | c :: cs,k :: ks=>(!k.has || a0g s k.values c.vars) && c3n s cs ks
 | _ :: _,[]=>false
def c6i (s:Stp):List Cls → List (List Knw) → Bool
 | [],_=>true
 | c :: cs,k :: ks=>decide (k.length = c.claims.length) && c3n s c.claims k && c6i s cs ks
 | _ :: _,[]=>false
def a3a (s:Stp) (goal:List Cls) (know:List (List Knw)):Bool:=decide (know.length = goal.length) && c6i s goal know
def a0e (s:Stp):Int → List Clm → List Knw → List Bool × Int
 | need,c :: cs,k :: ks=>
  if decide (0 < need) && k.has && b1g s c k.values then (true :: (a0e s (need - 1) cs ks).1,(a0e s (need - 1) cs ks).2) else (false :: (a0e s need cs ks).1,(a0e s need cs ks).2)
 | need,_,_=>([],need)
def a0h (s:Stp):List Cls → List (List Knw) → List (List Bool) × Bool
 | c :: cs,k :: ks=>((a0e s c.need c.claims k).1 :: (a0h s cs ks).1,decide ((a0e s c.need c.claims k).2 = 0) && (a0h s cs ks).2)
 | _,_=>([],true)
def a7b (k:Nat):List Bool → List Int
 | []=>[]
 | b :: bs=>if b then a7b (k + 1) bs else ((k:Int) + 1) :: a7b (k + 1) bs
def a7c:List Bool → List Int → List Int
 | b :: bs,d :: ds=>if b then a7c bs ds else d :: a7c bs ds
 | _,_=>[]
def distinct (q:Int) (xs:List Int):Bool:=decide (xs.map (fun x=>x % q)).Nodup
def a4h (q:Int) (xs ys:List Int):List Int:=if a3b q && decide (xs.length ≤ 64) && distinct q xs && decide (xs.length = ys.length) then thr q xs ys else []
def a1y (q:Int) (proven:List Bool) (dares:List Int) (root:Int):List Int:=
 (List.range proven.length).map fun k:Nat=>atM q (a4h q (0 :: a7b 0 proven) (root :: a7c proven dares)) ((k:Int) + 1)
def a2l (q:Int) (nums:List Int) (by_:Int) (values:List Int):List Int:=(nums.zip values).map fun p=>a6i q p.1 (a2n q by_ p.2)
def a3j (q:Int):List Bool → List Int → List (List Int) → List Knw → List (List Int)
 | b :: bs,d :: ds,n :: ns,k :: ks=>(if b then a2l q n d k.values else n) :: a3j q bs ds ns ks
 | _,_,_,_=>[]
def a1r (s:Stp) (root:Int):List (List Bool) → List (List Int) → List (List (List Int)) → List (List Knw) → List (List Int) × List (List (List Int))
 | b :: bs,d :: ds,n :: ns,k :: ks=>(a1y s.g.Q b d root :: (a1r s root bs ds ns ks).1,a3j s.g.Q b (a1y s.g.Q b d root) n k :: (a1r s root bs ds ns ks).2)
 | _,_,_,_=>([],[])
def b2a:List Bool → List Int → Bool
 | b :: bs,d :: ds=>(!b || decide (d = 0)) && b2a bs ds
 | _,_=>true
def a9g:List (List Bool) → List (List Int) → Bool
 | b :: bs,d :: ds=>b2a b d && a9g bs ds
 | _,_=>true
def a1m (s:Stp) (goal:List Cls) (ctx:a5e) (know:List (List Knw)) (nums:List (List (List Int))) (dares:List (List Int)):(List (List Int) × List (List (List Int))) × Int:=
 if !(a1p s goal && a3a s goal know && a0u s goal dares nums) then (([],[]),1)
 else if !(a0h s goal know).2 then (([],[]),13)
 else if !a9g (a0h s goal know).1 dares then (([],[]),3)
 else (a1r s (a8s s goal ctx dares nums) (a0h s goal know).1 dares nums know,0)
def a5y (n:Nat) (need:Int):List Bool:=(List.range n).map fun k:Nat=>decide ((n:Int) - need ≤ (k:Int))
def d0f (s:Stp) (root:Int):List Cls → List (List Int) → Bool
 | c :: cs,d :: ds=>decide (a1y s.g.Q (a5y c.claims.length c.need) d root = d) && d0f s root cs ds
 | _,_=>true
def a2u (s:Stp) (goal:List Cls) (ctx:a5e) (dares:List (List Int)) (answers:List (List (List Int))):Bool:=
 a1p s goal && a0u s goal dares answers && d0f s (a8s s goal ctx dares answers) goal dares
def b0z (q:Int):List Bool → List Int → List (List Int) → List Knw → List (List Int)
 | b :: bs,d :: ds,n :: ns,k :: ks=>(if b then a2l q n (-d) k.values else n) :: b0z q bs ds ns ks
 | _,_,_,_=>[]
def zeroed:List Bool → List Int → List Int
 | b :: bs,d :: ds=>(if b then 0 else d) :: zeroed bs ds
 | _,_=>[]
def a1f (s:Stp):List (List Bool) → List (List Int) → List (List (List Int)) → List (List Knw) → List (List Int) × List (List (List Int))
 | b :: bs,d :: ds,n :: ns,k :: ks=>(zeroed b d :: (a1f s bs ds ns ks).1,b0z s.g.Q b d n k :: (a1f s bs ds ns ks).2)
 | _,_,_,_=>([],[])
def explainM (s:Stp) (goal:List Cls) (ctx:a5e) (dares:List (List Int)) (answers:List (List (List Int))) (know:List (List Knw)):(List (List Int) × List (List (List Int))) × Bool:=
 if a2u s goal ctx dares answers && a3a s goal know && (a0h s goal know).2 then (a1f s (a0h s goal know).1 dares answers know,true) else (([],[]),false)
end PrSpec
namespace Go.Proofs
open Go Go.Sh Go.RowKit FdSpec TkSpec CodeSpec
section
variable {K:VK} {w w0 w1:World} {L:List (Addr × Value)}
theorem d0g {x n:Int} (h:0 ≤ x ∧ x < n) (hn:okN n):I64 x:=by unfold I64; unfold okN at hn; omega
theorem b2b:I64 0:=by unfold I64; omega
theorem c3q (n a b:Int):I64 (a2n n a b):=by
 by_cases hn:okN n
 ·exact d0g (b0n n a b hn) hn
 ·unfold a2n; rw [if_neg hn]; exact b2b
theorem a7d (n a b:Int):I64 (a6i n a b):=by
 by_cases hn:okN n
 ·exact d0g (a7w n a b hn) hn
 ·unfold a6i; rw [if_neg hn]; exact b2b
theorem d0h (n a b:Int):I64 (a3g n a b):=by
 by_cases hn:okN n
 ·exact d0g (b0o n a b hn) hn
 ·unfold a3g; rw [if_neg hn]; exact b2b
theorem d9j (s:Stp) (ad:Option Addr) (n c:Nat):∀ u ∈ a2r s (.slice ad n c),u.oneCell' = true:=by
 intro u hu
 simp only [a2r,List.mem_cons,List.not_mem_nil,or_false] at hu
 rcases hu with rfl | rfl | rfl | rfl | rfl <;> rfl
theorem e6g {P:Program} {w:World} {K:VK} {t e T:TypeId} {a:Option Addr} {n c:Nat} (ht:P.underlying t = some (.slice e)) (k:K (.bool a.isNone) w):oM P (.binOp .eql t (.tmp 0) (.const (.slice none 0 0)) t) T [.slice a n c] K w:=by
 rw [e2h]
 have:=Lib.run_eql_slice_nil (P:=P) w t e a n c 0 0 ht
 simp only [Sem.run_bind]
 have h2:(eqGuard .eql t (.tmp 0) (.const (.slice none 0 0)) (.slice a n c) (.slice none 0 0)).run P w = .ok () w:=by
  simp [eqGuard]
 rw [h2,Result.andThen_ok,this]
 exact k
theorem b6n {v:Value} {l:List Int} (hr:Ints w v l) (hl:l.length < 1099511627776) (k:∀ v' w',w'.ownsRow 0 3 1 v' l.length (a9b c7g l) → Bw w w' → (∀ i,v'.ownBlock = some i → w.heap.size ≤ i) → K v' w'):a0a Tryz.prog 96 #[v] K w:=by
 apply e5w
 unfold g0s
 have hi:=hr.row
 obtain ⟨ad,c,rfl,h0,hc⟩:=id hi
 refine e6g (e:=3) (by kernel_rfl) ?_
 cases ad with
 | none=>
  obtain ⟨hl0,rfl⟩:=h0 rfl
  obtain rfl:l = []:=List.eq_nil_of_length_eq_zero hl0
  simp only [Option.isNone_none]
  refine Xa0 ?_
  exact k _ _ (World.ownsRow_nil _ _ _ _) (bR) (fun i hi=>by cases hi)
 | some a=>
  simp only [Option.isNone_some]
  refine Xa0 ?_
  have hr2:RowR c7g 1 (w.alloc (.cells #[] 3)) (.slice (some a) l.length c) l:=hi.keep (by rw [b5b]; omega) (fun i _ hi=>heap_alloc_old _ _ hi)
  refine e8t 24 24 3 ((Tryz.prog.info? 3).getD default) (.int .i64 0) 1 8 (by kernel_rfl) (by kernel_rfl) (by kernel_rfl) (by kernel_rfl) (by kernel_rfl) (by kernel_rfl) (by omega) (fun _=>rfl) (fun x u hu=>by simp [c7g] at hu; subst hu; rfl) hr2 (World.ownsRow_lit w #[] 0 (Nat.zero_le _) (Nat.zero_le _) rfl) (B:=w.heap.size) (by rw [b5b]; omega) (fun i hi=>by cases hi; exact rL) (by omega) (by omega) ?_
  intro v' w' ho hg hv
  exact k v' w' ho (((bR).alloc (rL) _).grown hg (by rw [b5b]; omega) (fun i hi=>by cases hi; exact rL)) hv
abbrev OwnI (w:World) (B:Nat) (v:Value) (l:List Int):Prop:=w.ownsRow B 3 1 v l.length (a9b c7g l)
theorem OwnI.ints {B:Nat} {v:Value} {l:List Int} (h:OwnI w B v l) (hr:∀ n ∈ l,I64 n) (hl:l.length ≤ 9223372036854775807):Ints w v l:=Ints.of_owns h hr hl
theorem a2b {B C:Nat} {e:TypeId} {sz:Nat} {v:Value} {n:Nat} {xs:List Value} (h:w.ownsRow B e sz v n xs) (hc:∀ i,v.ownBlock = some i → C ≤ i):w.ownsRow C e sz v n xs:=by
 refine ⟨h.1,h.2.imp id ?_⟩
 rintro ⟨g,cap,cur,rfl,hb,hr⟩
 exact ⟨g,cap,cur,rfl,hc g rfl,hr⟩
theorem OwnI.keep {B:Nat} {v:Value} {l:List Int} {w':World} (h:OwnI w B v l) (hb:Bw w w'):OwnI w' B v l:=
 a3r h (fun i hi=>hb.block i (a0d h hi).1)
theorem a9u {B:Nat} {T:TypeId} {v xv:Value} {l:List Int} {x:Int} (ho:OwnI w B v l) (hB:B ≤ w.heap.size) (hx:Ints w xv [x]) (hl:l.length < 1099511627776)
  (k:∀ v' w',OwnI w' B v' (l ++ [x]) → Below B w w' → K v' w'):oM Tryz.prog (.call { callee:=.builtin .append,args:=#[.tmp 0,.tmp 1],argTypes:=#[24,24] }) T [v,xv] K w:=by
 obtain ⟨⟨ad,c,rfl,h0,hc⟩,hr,_⟩:=hx
 have hc:=hc.resolve_left (by simp)
 obtain ⟨b,o,rfl,hlt,hcell⟩:=hc
 refine a5a 24 T 3 ((Tryz.prog.info? 3).getD default) (.int .i64 0) 1 8 (by kernel_rfl) (by kernel_rfl) (by kernel_rfl) (by kernel_rfl) (by kernel_rfl) (by kernel_rfl) (by omega) (a2v ho (Nat.zero_le _)) [.int .i64 x] (by simp) (by simp) ?_ ?_ (by simp only [maxLen,List.length_singleton]; omega) (by simp only [List.length_singleton]; omega) ?_
 ·rintro a ha j u hj
  cases ha
  rw [a1w]
  exact hcell j u hj
 ·intro u hu
  simp only [List.mem_singleton] at hu
  subst hu; rfl
 ·intro v' w' ho' hg hv
  have hbl:∀ i,v.ownBlock = some i → B ≤ i:=fun i hi=>(a0d ho hi).2.1
  refine k v' w' ?_ ((Below.refl B w).grown hg hB hbl)
  have e1:(l ++ [x]).length = l.length + [x].length:=by simp
  have e2:a9b c7g (l ++ [x]) = a9b c7g l ++ [Value.int .i64 x]:=by rw [a3z,a3z]; simp
  show w'.ownsRow B 3 1 v' (l ++ [x]).length (a9b c7g (l ++ [x]))
  rw [e1,e2]
  exact a2b ho' (fun i hi=>(hv i hi).elim (hbl i) (fun h=>Nat.le_trans hB h))
theorem f5k (w:World):(sizeOf 24).run Tryz.prog w = .ok 1 w:=by kernel_rfl
theorem f3h (w:World):(sizeOf 26).run Tryz.prog w = .ok 5 w:=by kernel_rfl
theorem f3i (w:World):(Instr.alloc 26 true (.tuple #[])).run Tryz.prog w = .ok (.pointer (some ⟨w.heap.size,0,none⟩)) (w.alloc (.cells [.int .i64 0,.int .i64 0,.int .i64 0,.slice none 0 0,.int .i64 0].toArray 26)):=by kernel_rfl
theorem d9k {K:VK} {T' T2:TypeId} (s:Stp) (ad:Option Addr) (m c:Nat) (hk:Kn w0 L w)
  (k:∀ b W,Kn w0 (cellsOf L b 0 (a2r s (.slice ad m c))) W → Bw w W → w.heap.size ≤ b → K (.pointer (some ⟨b,0,none⟩)) W) :
  oM Tryz.prog (.alloc 26) T' [] (fun v w=>oM Tryz.prog (.store 26 (.tmp 0) (.tmp 1)) T2 [v,a6b s (.slice ad m c)] (fun _ w=>K v w) w) w:=
 a5r f3i rfl f3h rfl rfl (d9j s ad m c) hk k
theorem a1n {n:Int} (h:-9223372036854775808 ≤ n ∧ n < 9223372036854775808:=by decide):I64 n:=h
def NuJ (n R:Int) (d:List UInt8) (w0:World) (l:List Value) (w':World):Prop:=Bw w0 w' ∧ ∃ (v:Value) (o:Int) (i:Nat),l = [v,.int .i64 o,.int .i64 (i:Int)] ∧ i ≤ d.length ∧ (d.drop i).foldl (a9d n) o = R
theorem d9l (s:List UInt8) (n:Int) (hs:s.length ≤ 1000000000) (k:∀ w',Bw w w' → K (.int .i64 (a3t s n)) w'):a0a Tryz.prog 159 #[.string ⟨s.toArray⟩,.int .i64 n] K w:=by
 apply d8f
 unfold f2m
 unfold a3t at k
 refine a3x n ?_
 by_cases hn:okN n
 ·rw [if_pos hn] at k
  refine Xa0 ?_
  refine g1t s hs (fun w1 h1=>?_)
  have hl:=ShaSpec.sha_length s
  generalize ShaSpec.sha s = d at *
  refine f6q d fun v w2 h2=>?_
  obtain ⟨g,c,rfl,hlt⟩:=h2.row.shape
  have hby:=e0x h2.row
  have hb:=h1.on h2.below
  refine Xa0 ?_
  refine ⟨NuJ n (d.foldl (a9d n) 0) d w2,f4f d.length,⟨bR,_,_,0,rfl,by omega,rfl⟩,?_⟩
  rintro _ _ w3 ⟨h3,v,o,i,rfl,hi,hf⟩
  by_cases hin:i < d.length
  ·have hc:=(hby.next h3).2 i hin
   rw [Nat.zero_add] at hc
   have e1:d[i]?.getD 0 = d[i]:=by simp [hin]
   have hu:=(d[i]).toNat_lt
   rw [List.getD_eq_getElem?_getD,e1] at hc
   refine Xa @hc ?_
   refine b2s n o 256 (fun w4 h4=>?_)
   refine Xa0 ?_
   refine c5e n _ _ ?_
   refine Xa0 ?_
   rw [List.drop_eq_getElem_cons hin,List.foldl_cons] at hf
   refine ⟨⟨h3.on h4,_,_,i + 1,rfl,by omega,hf⟩,?_⟩
   simp only [b9o]; omega
  ·rw [List.drop_of_length_le (by omega),List.foldl_nil] at hf
   refine Xa0 ?_
   rw [hf]
   exact k _ (hb.on h3)
 ·rw [if_neg hn] at k
  refine Xa0 ?_
  exact k _ (bR)
def b2m (n:Nat) (l:List Value) (_:World):Nat:=match l with | [_,.int _ i]=>n - i.toNat | _=>0
theorem a1u (n:Nat) (u:Value) (k:IntKind) (i:Int) (w:World):b2m n [u,.int k i] w = n - i.toNat:=rfl
theorem d9m {K:VK} {T':TypeId} {g:Nat} (s:Stp) (ad:Option Addr) (n c:Nat) (hk:KnM w0 L g 5 w)
  (k:∀ W,KnM w0 L g 5 W → a0n W (cellsOf [] g 0 (a2r s (.slice ad n c))) → w.grownBy W (some g) → K undef W):oM Tryz.prog (.store 26 (.tmp 0) (.tmp 1)) T' [.pointer (some ⟨g,0,none⟩),a6b s (.slice ad n c)] K w:=by
 obtain ⟨W,e,hg,hm,hc⟩:=b0b (P:=Tryz.prog) (W:=w) f3h (x:=a6b s (.slice ad n c)) rfl rfl (d9j s ad n c) hk.mine
 rw [b0w,e]
 exact k W ⟨hk.kn.wrote hg hk.base hk.off,hm,hk.base,hk.off⟩ hc hg
theorem d0i {v u:Value} {a b:List Int} (ha:Ints w v a) (hb:Ints w u b) (k:∀ w',Bw w w' → K (.bool (decide (a = b))) w'):a0a Tryz.prog 117 #[v,u] K w:=by
 apply d5w
 unfold f0j
 obtain ⟨ad1,c1,rfl⟩:=ha.isSlice
 obtain ⟨ad2,c2,rfl⟩:=hb.isSlice
 have l1:=ha.len
 have l2:=hb.len
 by_cases hl:a.length = b.length
 ·refine Xa @hl ?_
  refine ⟨fun vs w'=>Bw w w' ∧ ∃ (v v2:Value) (i:Nat),vs = [v,v2,.int .i64 (i:Int)] ∧ i ≤ a.length ∧ a.take i = b.take i,fun vs _=>match vs with | [_,_,.int _ i]=>b.length - i.toNat | _=>0,⟨bR,_,_,0,rfl,by omega,rfl⟩,?_⟩
  rintro _ _ w1 ⟨h1,u1,u2,i,rfl,hi,he⟩
  by_cases hin:i = b.length
  ·have e:a = b:=by
    rw [List.take_of_length_le (by omega),List.take_of_length_le (by omega)] at he
    exact he
   have k:=k _ h1
   rw [decide_eq_true e] at k
   refine Xa @hl ?_
   exact k
  ·obtain ⟨b1,o1,rfl,hb1,ca,ra,_⟩:=ha.at (i:=i) (by omega)
   obtain ⟨b2,o2,rfl,hb2,cb,rb,_⟩:=hb.at (i:=i) (by omega)
   refine Xa @hl ?_
   refine ⟨Below w.heap.size w,h1.trans .drawn,rfl,?_⟩
   by_cases hx:a[i] = b[i]
   ·refine Xf (fun W0 hW0=>An2 (ca _ hW0) (cb _ hW0)) (An2 @hl @hx) ?_
    refine ⟨Nx,fun w2 h2=>?_⟩
    refine Xa @hx ?_
    refine ⟨⟨h2,_,_,i + 1,rfl,by omega,?_⟩,by show b.length - (((i + 1:Nat):Int)).toNat < b.length - ((i:Nat):Int).toNat; omega⟩
    rw [List.take_succ_eq_append_getElem (by omega),List.take_succ_eq_append_getElem (by omega),he,hx]
   ·refine Xf (fun W0 hW0=>An2 (ca _ hW0) (cb _ hW0)) (An2 @hl @hx) ?_
    refine ⟨Nx,fun w2 h2=>?_⟩
    have k:=k _ h2
    rw [decide_eq_false (by rintro rfl; exact hx rfl)] at k
    refine Xa @hx ?_
    exact k
 ·have hl':¬ (a.length:Int) = b.length:=by omega
  have k:=k _ (bR)
  rw [decide_eq_false (by rintro rfl; exact hl rfl)] at k
  refine Xa @hl' ?_
  exact k
end
end Go.Proofs
namespace Go.Proofs.Cd
open Go Go.Sh Go.RowKit Go.Lib CodeSpec
theorem pText_ok (s:List UInt8) (hs:s.length < 2^60) {K:VK} {w:World} (hl:Laid w) (k:∀ w',Bw w w' → K (.string ⟨(a2t s).toArray⟩) w'):a0a Tryz.prog 160 #[.string ⟨s.toArray⟩] K w:=by
 apply d8l
 unfold f2r
 have hin:InR (s.length:Nat):=⟨by omega,by omega⟩
 have hi:=b0g _ hin
 refine Xa0 ?_
 refine c9i _ hin hl (fun w1 hb1=>?_)
 refine Xa0 ?_
 exact d3f (k _ hb1) (by simp [a2t])
end Go.Proofs.Cd
