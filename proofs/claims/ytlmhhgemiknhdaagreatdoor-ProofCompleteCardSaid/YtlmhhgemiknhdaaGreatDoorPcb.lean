/- Parts of the proof of the seat's statements (HTh, HTc, HSha, HPr, ShMap5, ShRow, ShRow2, ShBuf, ShBuf2, ShBit, ShBox, ShGo, ShelfT4, CodeSpec, TcB, TcE, TcR, TcR2, TcI, FdSpec, FdPow, FdDiv, FdA, FdB, FdC, FdE, FdF, FdG, FdH, FdI, FdJ, FdK, FdL, ShKn, TkSpec, TkA, TkB, ShaSpec, ShW, SaA, ShKn2): lemmas about the given translation and plain laws. No condition of their own. -/
import Derived.Test.YtlmhhgemiknhdaaGreatDoorPca
import Derived.Test.YtlmhhgemiknhdaaGreatDoorProg
import Derived.Lib.BufferWrite
import Derived.Lib.SliceRun
import Derived.Laws.MakeOwn
import Derived.Laws.OwnMore
import Derived.Great.BuildSlice
import Derived.Laws.IdiomStrings
import Derived.Shelf.Strings.Builder1
import Derived.Shelf.Small.Strs
import Derived.Shelf.Small.Wraps
import Derived.Shelf.Strings.BuilderF
import Derived.Shelf.Strings.BuilderK
import Derived.Shelf.Strconv.Atoi
import Derived.Shelf.Strconv.Itoa0
import Derived.Shelf.Strconv.Itoa1
import Derived.Shelf.LaysM
import Derived.Shelf.Strconv.Itoa2
import Derived.Shelf.Strconv.Itoa3
import Derived.Shelf.Strconv.AtoiErrFast
import Derived.Shelf.Strconv.ParseIntEmpty
import Derived.Shelf.Strconv.AtoiFail
import Derived.Shelf.Strconv.Clone
import Derived.Shelf.Strconv.SyntaxError
import Derived.Shelf.LaysC
import Derived.Shelf.Strconv.ToError
import Derived.Shelf.Strconv.Lower
import Derived.Shelf.Strconv.ParseUint10
import Derived.Shelf.Strconv.ParseUint10Empty
import Derived.Shelf.Strconv.ParseUint10Any
import Derived.Shelf.Strconv.ParseInt10
import Derived.Shelf.Strconv.AtoiLong
import Derived.Shelf.Strconv.AtoiInnerAll
import Derived.Shelf.Strconv.RangeError
import Derived.Shelf.Strconv.ToErrorRange
import Derived.Shelf.Strconv.AtoiAll
import Derived.Shelf.Strconv.ErrVarAll
import Derived.Shelf.Strings.Search1
import Derived.Shelf.Strings.Prefix
import Derived.Shelf.Bits.Mul64
import Derived.Test.YtlmhhgemiknhdaaGreatDoorRows
import Derived.Lib.ItoaNum
import Derived.Lib.AtoiAllCases
import Derived.Lib.Builder
import Derived.Lib.AppendStr
import Derived.Lib.AppendIntMem
import Derived.Lib.Mul64
import Derived.Lib.TrailingZeros
set_option linter.all false
set_option maxRecDepth 100000
namespace Go.Proofs
open Go.Sh Tryz
def sh_127 (a0 a1:Value) (K:VK) (w:World):Prop:=
 oM prog (.box 26 (.tmp 0)) 0 [a0] (fun v2 w=>
 kB .geq 3 4 a1 (.int .i64 0) (fun v6 w=>
 gT v6 (pureM a1) (fun v8 w=>
 gT v6 (kF 26 0 v2) (fun v9 w=>
 gT v6 (kF 23 1 v9) (fun v10 w=>
 gT v6 (kL 3 v10) (fun v11 w=>
 gT v6 (kB .lss 3 4 v8 v11) (fun v12 w=>
 kP v6 v12 (.bool false) (fun v13 w=>
 K v13 w) w) w) w) w) w) w) w) w
theorem sh_127_ok {a0 a1:Value} {K:VK} {w:World} (h:sh_127 a0 a1 K w):callM prog 127 #[a0,a1] K w:=
 calls_of_code (fun _=>0) (fn:=Tryz.f127) (rs:=[.tmp 4]) Tryz.func127 rfl rfl (by kernel_rfl) (nB rfl) (Eq.mp (by kernel_rfl) h)
def sh_140 (a0 a1 a2:Value) (K:VK) (w:World):Prop:=
 oM prog (.box 26 (.tmp 0)) 0 [a0] (fun v3 w=>
 kN 24 a1 (fun v8 w=>
 kB .eql 3 4 v8 a2 (fun v10 w=>
 gT v10 (pureM a1) (fun v12 w=>
 gT v10 (oM prog (.makeFunc (Go.Fn.func 187) #[] #[(.tmp 0)]) 141 [v3]) (fun v13 w=>
 gT v10 (callM prog 136 #[v12,v13]) (fun v14 w=>
 gT v10 (kU v14) (fun v15 w=>
 kP v10 v15 (.bool false) (fun v16 w=>
 K v16 w) w) w) w) w) w) w) w) w
theorem sh_140_ok {a0 a1 a2:Value} {K:VK} {w:World} (h:sh_140 a0 a1 a2 K w):callM prog 140 #[a0,a1,a2] K w:=
 calls_of_code (fun _=>0) (fn:=Tryz.f140) (rs:=[.tmp 6]) Tryz.func140 rfl rfl (by kernel_rfl) (nB rfl) (Eq.mp (by kernel_rfl) h)
def sh_187 (a0 a1:Value) (K:VK) (w:World):Prop:=
 kL 26 a1 (fun v4 w=>
 callM prog 127 #[v4,a0] (fun v6 w=>
 kU v6 (fun v7 w=>
 K v7 w) w) w) w
theorem sh_187_ok {a0 a1:Value} {K:VK} {w:World} (h:sh_187 a0 a1 K w):callM prog 187 #[a0,a1] K w:=
 calls_of_code (fun _=>0) (fn:=Tryz.f187) (rs:=[.tmp 3]) Tryz.func187 rfl rfl (by kernel_rfl) (nB rfl) (Eq.mp (by kernel_rfl) h)
def sh_112 (a0 a1:Value) (K:VK) (w:World):Prop:=
 oM prog (.box 26 (.tmp 0)) 0 [a0] (fun v2 w=>
 oM prog (.box 69 (.tmp 0)) 0 [a1] (fun v3 w=>
 kF 69 0 v3 (fun v9 w=>
 kL 3 v9 (fun v10 w=>
 kB .lss 3 4 v10 (.int .i64 0) (fun v11 w=>
 gF v11 (kF 69 0 v3) (fun v13 w=>
 gF v11 (kL 3 v13) (fun v14 w=>
 gF v11 (kB .gtr 3 4 v14 (.int .i64 120)) (fun v15 w=>
 kP v11 (.bool true) v15 (fun v16 w=>
 gF v16 (kF 69 1 v3) (fun v18 w=>
 gF v16 (kL 67 v18) (fun v19 w=>
 gF v16 (kN 67 v19) (fun v20 w=>
 gF v16 (kB .lss 3 4 v20 (.int .i64 1)) (fun v21 w=>
 kP v16 (.bool true) v21 (fun v22 w=>
 gF v22 (kF 69 1 v3) (fun v24 w=>
 gF v22 (kL 67 v24) (fun v25 w=>
 gF v22 (kN 67 v25) (fun v26 w=>
 gF v22 (kB .gtr 3 4 v26 (.int .i64 60)) (fun v27 w=>
 kP v22 (.bool true) v27 (fun v28 w=>
 condM v28
 (K (.bool false) w)
 (kF 69 1 v3 (fun v29 w=>
 kL 67 v29 (fun v30 w=>
 kN 67 v30 (fun v31 w=>
 loopM [(.bool false),(.int .i64 0)] w (fun J_23 m_24 l_25 u_l_25 w0_l_25=>(fun w=>(
 kB .lss 3 0 (l_25.getD 1 undef) v31 (fun v33 w=>
 condM v33
 (kI 67 v30 (l_25.getD 1 undef) (fun v34 w=>
 kL 144 v34 (fun v35 w=>
 kA 144 (fun v6 w=>
 kS 144 v6 v35 (fun _ w=>
 kF 26 0 v2 (fun v36 w=>
 kL 23 v36 (fun v37 w=>
 kF 144 0 v6 (fun v38 w=>
 kL 3 v38 (fun v39 w=>
 callM prog 109 #[v37,v39] (fun v40 w=>
 kU v40 (fun v41 w=>
 gF v41 (kF 144 1 v6) (fun v43 w=>
 gF v41 (kL 142 v43) (fun v44 w=>
 gF v41 (kN 142 v44) (fun v45 w=>
 gF v41 (kB .gtr 3 4 v45 (.int .i64 80)) (fun v46 w=>
 kP v41 (.bool true) v46 (fun v47 w=>
 condM v47
 (K (.bool false) w)
 (kF 144 1 v6 (fun v48 w=>
 kL 142 v48 (fun v49 w=>
 kN 142 v49 (fun v50 w=>
 loopM [(l_25.getD 0 undef),(.int .i64 0)] w (fun J_44 m_45 l_46 u_l_46 w0_l_46=>(fun w=>(
 kB .lss 3 0 (l_46.getD 1 undef) v50 (fun v52 w=>
 condM v52
 (kI 142 v49 (l_46.getD 1 undef) (fun v53 w=>
 kL 146 v53 (fun v54 w=>
 kA 146 (fun v8 w=>
 kS 146 v8 v54 (fun _ w=>
 kF 146 0 v8 (fun v55 w=>
 kL 3 v55 (fun v56 w=>
 kB .lss 3 4 v56 (.int .i64 0) (fun v57 w=>
 gF v57 (kF 146 0 v8) (fun v59 w=>
 gF v57 (kL 3 v59) (fun v60 w=>
 gF v57 (kF 69 0 v3) (fun v61 w=>
 gF v57 (kL 3 v61) (fun v62 w=>
 gF v57 (kB .geq 3 4 v60 v62) (fun v63 w=>
 kP v57 (.bool true) v63 (fun v64 w=>
 gF v64 (kF 26 0 v2) (fun v66 w=>
 gF v64 (kL 23 v66) (fun v67 w=>
 gF v64 (kF 146 1 v8) (fun v68 w=>
 gF v64 (kL 3 v68) (fun v69 w=>
 gF v64 (callM prog 109 #[v67,v69]) (fun v70 w=>
 gF v64 (kU v70) (fun v71 w=>
 kP v64 (.bool true) v71 (fun v72 w=>
 condM v72
 (K (.bool false) w)
 (kB .add 3 3 (l_46.getD 1 undef) (.int .i64 1) (fun v73 w=>
 J_44 [(l_46.getD 0 undef),v73] w ∧ m_45 [(l_46.getD 0 undef),v73] w < m_45 l_46 w0_l_46) w)) w) w) w) w) w) w) w) w) w) w) w) w) w) w) w) w) w) w) w) w)
 (kB .add 3 3 (l_25.getD 1 undef) (.int .i64 1) (fun v74 w=>
 J_23 [(l_46.getD 0 undef),v74] w ∧ m_24 [(l_46.getD 0 undef),v74] w < m_24 l_25 w0_l_25) w)) w)) w0_l_46)) w) w) w)) w) w) w) w) w) w) w) w) w) w) w) w) w) w) w)
 (K (.bool true) w)) w)) w0_l_25)) w) w) w)) w) w) w) w) w) w) w) w) w) w) w) w) w) w) w) w) w) w) w
theorem sh_112_ok {a0 a1:Value} {K:VK} {w:World} (h:sh_112 a0 a1 K w):callM prog 112 #[a0,a1] K w:=
 calls_of_code (fun _=>0) (fn:=Tryz.f112) (rs:=[.tmp 4]) Tryz.func112 rfl rfl (by kernel_rfl) (nB rfl) (Eq.mp (by kernel_rfl) h)
def sh_181 (a0 a1 a2:Value) (K:VK) (w:World):Prop:=
 oM prog (.box 26 (.tmp 0)) 0 [a0] (fun v3 w=>
 oM prog (.box 144 (.tmp 0)) 0 [a1] (fun v4 w=>
 kF 144 1 v4 (fun v13 w=>
 kL 142 v13 (fun v14 w=>
 kN 142 v14 (fun v15 w=>
 loopM [(.slice none 0 0),(.slice none 0 0),(.int .i64 0)] w (fun J_6 m_7 l_8 u_l_8 w0_l_8=>(fun w=>(
 kB .lss 3 0 (l_8.getD 2 undef) v15 (fun v17 w=>
 condM v17
 (kI 142 v14 (l_8.getD 2 undef) (fun v18 w=>
 kL 146 v18 (fun v19 w=>
 kA 146 (fun v10 w=>
 kS 146 v10 v19 (fun _ w=>
 heldM w (fun C_13 w=>(pureH (l_8.getD 0 undef) C_13 (fun v20=>
 jF 146 1 v10 C_13 (fun v21=>
 jL 3 v21 C_13 (fun v22=>
 pureH (l_8.getD 1 undef) C_13 (fun v25=>
 pureH a2 C_13 (fun v26=>
 jF 146 0 v10 C_13 (fun v27=>
 jL 3 v27 C_13 (fun v28=>
 jI 24 v26 v28 C_13 (fun v29=>
 jL 3 v29 C_13 (fun v30=>
 (oM prog (.buildSlice 24 1 #[(0,(.tmp 0))]) 24 [v22] (fun v23 w=>C_13 w ∧ (
 (oM prog (.call (Go.Call.mk (.builtin .append) #[(.tmp 0),(.tmp 1)] #[24,24])) 24 [v20,v23] (fun v24 w=>C_13 w ∧ (
 oM prog (.buildSlice 24 1 #[(0,(.tmp 0))]) 24 [v30] (fun v31 w=>C_13 w ∧ (
 oM prog (.call (Go.Call.mk (.builtin .append) #[(.tmp 0),(.tmp 1)] #[24,24])) 24 [v25,v31] (fun v32 w=>C_13 w ∧ (
 C_13 w ∧ (C_13 w ∧ (kB .add 3 3 (l_8.getD 2 undef) (.int .i64 1) (fun v33 w=>
 J_6 [v24,v32,v33] w ∧ m_7 [v24,v32,v33] w < m_7 l_8 w0_l_8) w)))) w)) w)) w) ∧
 (oM prog (.buildSlice 24 1 #[(0,(.tmp 0))]) 24 [v30] (fun v31 w=>C_13 w ∧ (
 oM prog (.call (Go.Call.mk (.builtin .append) #[(.tmp 0),(.tmp 1)] #[24,24])) 24 [v20,v23] (fun v24 w=>C_13 w ∧ (
 oM prog (.call (Go.Call.mk (.builtin .append) #[(.tmp 0),(.tmp 1)] #[24,24])) 24 [v25,v31] (fun v32 w=>C_13 w ∧ (
 C_13 w ∧ (C_13 w ∧ (kB .add 3 3 (l_8.getD 2 undef) (.int .i64 1) (fun v33 w=>
 J_6 [v24,v32,v33] w ∧ m_7 [v24,v32,v33] w < m_7 l_8 w0_l_8) w)))) w)) w)) w))) w) ∧
 (oM prog (.buildSlice 24 1 #[(0,(.tmp 0))]) 24 [v30] (fun v31 w=>C_13 w ∧ (
 oM prog (.buildSlice 24 1 #[(0,(.tmp 0))]) 24 [v22] (fun v23 w=>C_13 w ∧ (
 oM prog (.call (Go.Call.mk (.builtin .append) #[(.tmp 0),(.tmp 1)] #[24,24])) 24 [v20,v23] (fun v24 w=>C_13 w ∧ (
 oM prog (.call (Go.Call.mk (.builtin .append) #[(.tmp 0),(.tmp 1)] #[24,24])) 24 [v25,v31] (fun v32 w=>C_13 w ∧ (
 C_13 w ∧ (C_13 w ∧ (kB .add 3 3 (l_8.getD 2 undef) (.int .i64 1) (fun v33 w=>
 J_6 [v24,v32,v33] w ∧ m_7 [v24,v32,v33] w < m_7 l_8 w0_l_8) w)))) w)) w)) w)) w))))))))))))) w) w) w) w)
 (kF 26 0 v3 (fun v35 w=>
 kL 23 v35 (fun v36 w=>
 callM prog 126 #[v36,(l_8.getD 0 undef),(l_8.getD 1 undef)] (fun v39 w=>
 kE 0 3 v39 (fun v40 w=>
 kE 1 4 v39 (fun v41 w=>
 K v40 w) w) w) w) w) w)) w)) w0_l_8)) w) w) w) w) w
theorem sh_181_ok {a0 a1 a2:Value} {K:VK} {w:World} (h:sh_181 a0 a1 a2 K w):callM prog 181 #[a0,a1,a2] K w:=
 calls_of_code (fun _=>.tree (.look 0 (.look 1 (.look 2 (.look 5 (.look 6 (.look 7 (.look 8 (.look 9 (.look 10 (.alt 3 (.alt 4 (.only 11 (.only 12 (.only 13 (.only 14 (.done))))) (.only 11 (.only 4 (.only 12 (.only 13 (.only 14 (.done))))))) (.only 11 (.only 3 (.only 4 (.only 12 (.only 13 (.only 14 (.done)))))))))))))))))) (fn:=Tryz.f181) (rs:=[.tmp 6]) Tryz.func181 rfl rfl (by kernel_rfl) (nB rfl) (Eq.mp (by kernel_rfl) h)
def sh_207 (a0 a1:Value) (K:VK) (w:World):Prop:=
 kN 67 a0 (fun v7 w=>
 loopM [undef,(.int .i64 0),(.int .i64 0)] w (fun J_2 m_3 l_4 u_l_4 w0_l_4=>(fun w=>(
 kB .lss 3 0 (l_4.getD 2 undef) v7 (fun v9 w=>
 condM v9
 (kI 67 a0 (l_4.getD 2 undef) (fun v14 w=>
 kL 144 v14 (fun v15 w=>
 oM prog (.call (Go.Call.mk (.value (.tmp 0)) #[(.tmp 1)] #[144])) 4 [a1,v15] (fun v16 w=>
 condM v16
 (K (l_4.getD 2 undef) w)
 (kB .add 3 3 (l_4.getD 2 undef) (.int .i64 1) (fun v18 w=>
 J_2 [(l_4.getD 2 undef),(l_4.getD 1 undef),v18] w ∧ m_3 [(l_4.getD 2 undef),(l_4.getD 1 undef),v18] w < m_3 l_4 w0_l_4) w)) w) w) w)
 (K (.int .i64 (-1)) w)) w)) w0_l_4)) w
theorem sh_207_ok {a0 a1:Value} {K:VK} {w:World} (h:sh_207 a0 a1 K w):callM prog 207 #[a0,a1] K w:=
 calls_of_code (fun _=>0) (fn:=Tryz.f207) (rs:=[.tmp 4]) Tryz.func207 rfl rfl (by kernel_rfl) (nB rfl) (Eq.mp (by kernel_rfl) h)
def sh_179 (a0 a1:Value) (K:VK) (w:World):Prop:=
 callM prog 207 #[a0,a1] (fun v7 w=>
 kB .geq 3 4 v7 (.int .i64 0) (fun v8 w=>
 K v8 w) w) w
theorem sh_179_ok {a0 a1:Value} {K:VK} {w:World} (h:sh_179 a0 a1 K w):callM prog 179 #[a0,a1] K w:=
 calls_of_code (fun _=>0) (fn:=Tryz.f179) (rs:=[.tmp 4]) Tryz.func179 rfl rfl (by kernel_rfl) (nB rfl) (Eq.mp (by kernel_rfl) h)
def sh_122 (a0 a1 a2:Value) (K:VK) (w:World):Prop:=
 oM prog (.box 26 (.tmp 0)) 0 [a0] (fun v3 w=>
 oM prog (.box 69 (.tmp 0)) 0 [a1] (fun v4 w=>
 oM prog (.box 24 (.tmp 0)) 0 [a2] (fun v5 w=>
 kL 26 v3 (fun v7 w=>
 kL 24 v5 (fun v8 w=>
 kF 69 0 v4 (fun v9 w=>
 kL 3 v9 (fun v10 w=>
 callM prog 140 #[v7,v8,v10] (fun v11 w=>
 kU v11 (fun v12 w=>
 condM v12
 (K (.bool false) w)
 (kF 69 1 v4 (fun v13 w=>
 kL 67 v13 (fun v14 w=>
 oM prog (.makeFunc (Go.Fn.func 180) #[] #[(.tmp 0),(.tmp 1)]) 187 [v3,v5] (fun v15 w=>
 callM prog 179 #[v14,v15] (fun v16 w=>
 kU v16 (fun v17 w=>
 K v17 w) w) w) w) w) w)) w) w) w) w) w) w) w) w) w
theorem sh_122_ok {a0 a1 a2:Value} {K:VK} {w:World} (h:sh_122 a0 a1 a2 K w):callM prog 122 #[a0,a1,a2] K w:=
 calls_of_code (fun _=>0) (fn:=Tryz.f122) (rs:=[.tmp 6]) Tryz.func122 rfl rfl (by kernel_rfl) (nB rfl) (Eq.mp (by kernel_rfl) h)
def sh_180 (a0 a1 a2:Value) (K:VK) (w:World):Prop:=
 oM prog (.box 144 (.tmp 0)) 0 [a0] (fun v3 w=>
 heldM w (fun C_2 w=>(((true:Bool) = true) ∧ (jL 26 a1 C_2 (fun v5=>
 jL 144 v3 C_2 (fun v6=>
 jL 24 a2 C_2 (fun v7=>
 jF 144 0 v3 C_2 (fun v9=>
 jL 3 v9 C_2 (fun v10=>
 ∃ S_8:World → WK,∃ R_9:VK,(∀ v w w_1,S_8 w w_1 → R_9 v w → R_9 v w_1) ∧
 (∀ w,C_2 w → (callM prog 181 #[v5,v6,v7] (fun v w_1=>C_2 w_1 ∧ S_8 w w_1 ∧ R_9 v w_1) w)) ∧
 (∀ w,C_2 w → ∀ v8,R_9 v8 w → (
 kB .neq 3 4 v8 v10 (fun v11 w=>
 K v11 w) w))))))))))) w
theorem sh_180_ok {a0 a1 a2:Value} {K:VK} {w:World} (h:sh_180 a0 a1 a2 K w):callM prog 180 #[a0,a1,a2] K w:=
 calls_of_code (fun _=>.free [0,1,2,4,5] [3] [6,7]) (fn:=Tryz.f180) (rs:=[.tmp 4]) Tryz.func180 rfl rfl (by kernel_rfl) (nB rfl) (Eq.mp (by kernel_rfl) h)
def sh_41 (a0 a1 a2:Value) (K:VK) (w:World):Prop:=
 oM prog (.box 26 (.tmp 0)) 0 [a0] (fun v3 w=>
 oM prog (.box 69 (.tmp 0)) 0 [a1] (fun v4 w=>
 kL 26 v3 (fun v7 w=>
 callM prog 21 #[v7] (fun v8 w=>
 gT v8 (kL 26 v3) (fun v10 w=>
 gT v8 (kL 69 v4) (fun v11 w=>
 gT v8 (callM prog 112 #[v10,v11]) (fun v12 w=>
 kP v8 v12 (.bool false) (fun v13 w=>
 gT v13 (kL 26 v3) (fun v15 w=>
 gT v13 (kL 69 v4) (fun v16 w=>
 gT v13 (pureM a2) (fun v17 w=>
 gT v13 (callM prog 122 #[v15,v16,v17]) (fun v18 w=>
 kP v13 v18 (.bool false) (fun v19 w=>
 K v19 w) w) w) w) w) w) w) w) w) w) w) w) w) w
theorem sh_41_ok {a0 a1 a2:Value} {K:VK} {w:World} (h:sh_41 a0 a1 a2 K w):callM prog 41 #[a0,a1,a2] K w:=
 calls_of_code (fun _=>0) (fn:=Tryz.f41) (rs:=[.tmp 6]) Tryz.func41 rfl rfl (by kernel_rfl) (nB rfl) (Eq.mp (by kernel_rfl) h)
def sh_221 (a0:Value) (K:VK) (w:World):Prop:=
 oM prog (.nilCheck (.tmp 0)) 0 [a0] (fun v3 w=>
 kF 213 0 v3 (fun v4 w=>
 kL 211 v4 (fun v5 w=>
 oM prog (.binOp .eql 211 (.tmp 0) (.const (.pointer none)) 211) 4 [v5] (fun v6 w=>
 condM v6
 (oM prog (.convert 211 245 (.tmp 0)) 245 [a0] (fun v9 w=>
 extM prog 235 #[v9] (fun v10 w=>
 oM prog (.convert 245 211 (.tmp 0)) 211 [v10] (fun v11 w=>
 oM prog (.nilCheck (.tmp 0)) 0 [a0] (fun v12 w=>
 kF 213 0 v12 (fun v13 w=>
 kS 211 v13 v11 (fun _ w=>
 K (.tuple #[]) w) w) w) w) w) w) w)
 (oM prog (.nilCheck (.tmp 0)) 0 [a0] (fun v15 w=>
 kF 213 0 v15 (fun v16 w=>
 kL 211 v16 (fun v17 w=>
 kB .neq 211 4 v17 a0 (fun v19 w=>
 condM v19
 (False)
 (K (.tuple #[]) w)) w) w) w) w)) w) w) w) w
theorem sh_221_ok {a0:Value} {K:VK} {w:World} (h:sh_221 a0 K w):callM prog 221 #[a0] K w:=
 calls_of_code (fun _=>0) (fn:=Tryz.f221) (rs:=[]) Tryz.func221 rfl rfl (by kernel_rfl) (nB rfl) (Eq.mp (by kernel_rfl) h)
def sh_205 (a0 a1:Value) (K:VK) (w:World):Prop:=
 callM prog 221 #[a0] (fun v7 w=>
 oM prog (.nilCheck (.tmp 0)) 0 [a0] (fun v10 w=>
 kF 213 1 v10 (fun v11 w=>
 kL 202 v11 (fun v12 w=>
 oM prog (.call (Go.Call.mk (.builtin .append) #[(.tmp 0),(.tmp 1)] #[202,9])) 202 [v12,a1] (fun v14 w=>
 oM prog (.nilCheck (.tmp 0)) 0 [a0] (fun v15 w=>
 kF 213 1 v15 (fun v16 w=>
 kS 202 v16 v14 (fun _ w=>
 kN 9 a1 (fun v18 w=>
 K (.tuple #[v18,.nilIface]) w) w) w) w) w) w) w) w) w) w
theorem sh_205_ok {a0 a1:Value} {K:VK} {w:World} (h:sh_205 a0 a1 K w):callM prog 205 #[a0,a1] K w:=
 calls_of_code (fun _=>0) (fn:=Tryz.f205) (rs:=[.tmp 4,.tmp 5]) Tryz.func205 rfl rfl (by kernel_rfl) (nB rfl) (Eq.mp (by kernel_rfl) h)
def sh_175 (a0:Value) (K:VK) (w:World):Prop:=
 callM prog 196 #[a0] (fun v4 w=>
 oM prog (.binOp .add 9 (.tmp 0) (.tmp 1) 9) 9 [v4,(.string ⟨#[59]⟩)] (fun v5 w=>
 K v5 w) w) w
theorem sh_175_ok {a0:Value} {K:VK} {w:World} (h:sh_175 a0 K w):callM prog 175 #[a0] K w:=
 calls_of_code (fun _=>0) (fn:=Tryz.f175) (rs:=[.tmp 2]) Tryz.func175 rfl rfl (by kernel_rfl) (nB rfl) (Eq.mp (by kernel_rfl) h)
def sh_174 (a0 a1:Value) (K:VK) (w:World):Prop:=
 kA 213 (fun v5 w=>
 kN 24 a0 (fun v9 w=>
 callM prog 196 #[v9] (fun v10 w=>
 oM prog (.binOp .add 9 (.tmp 0) (.tmp 1) 9) 9 [v10,(.string ⟨#[91]⟩)] (fun v11 w=>
 callM prog 205 #[v5,v11] (fun v12 w=>
 kN 24 a0 (fun v14 w=>
 loopM [undef,(.int .i64 0)] w (fun J_7 m_8 l_9 u_l_9 w0_l_9=>(fun w=>(
 kB .lss 3 0 (l_9.getD 1 undef) v14 (fun v16 w=>
 condM v16
 (kI 24 a0 (l_9.getD 1 undef) (fun v17 w=>
 kL 3 v17 (fun v18 w=>
 oM prog (.call (Go.Call.mk (.value (.tmp 0)) #[(.tmp 1)] #[3])) 9 [a1,v18] (fun v21 w=>
 callM prog 205 #[v5,v21] (fun v22 w=>
 kB .add 3 3 (l_9.getD 1 undef) (.int .i64 1) (fun v23 w=>
 J_7 [v18,v23] w ∧ m_8 [v18,v23] w < m_8 l_9 w0_l_9) w) w) w) w) w)
 (callM prog 206 #[v5] (fun v24 w=>
 oM prog (.binOp .add 9 (.tmp 0) (.tmp 1) 9) 9 [v24,(.string ⟨#[93]⟩)] (fun v25 w=>
 K v25 w) w) w)) w)) w0_l_9)) w) w) w) w) w) w
theorem sh_174_ok {a0 a1:Value} {K:VK} {w:World} (h:sh_174 a0 a1 K w):callM prog 174 #[a0,a1] K w:=
 calls_of_code (fun _=>0) (fn:=Tryz.f174) (rs:=[.tmp 4]) Tryz.func174 rfl rfl (by kernel_rfl) (nB rfl) (Eq.mp (by kernel_rfl) h)
def sh_114 (a0:Value) (K:VK) (w:World):Prop:=
 callM prog 174 #[a0,(.func (.func 175) #[] #[])] (fun v4 w=>
 K v4 w) w
theorem sh_114_ok {a0:Value} {K:VK} {w:World} (h:sh_114 a0 K w):callM prog 114 #[a0] K w:=
 calls_of_code (fun _=>0) (fn:=Tryz.f114) (rs:=[.tmp 2]) Tryz.func114 rfl rfl (by kernel_rfl) (nB rfl) (Eq.mp (by kernel_rfl) h)
def sh_160 (a0:Value) (K:VK) (w:World):Prop:=
 kN 9 a0 (fun v4 w=>
 callM prog 196 #[v4] (fun v5 w=>
 oM prog (.binOp .add 9 (.tmp 0) (.tmp 1) 9) 9 [v5,(.string ⟨#[58]⟩)] (fun v6 w=>
 kB .add 9 9 v6 a0 (fun v8 w=>
 oM prog (.binOp .add 9 (.tmp 0) (.tmp 1) 9) 9 [v8,(.string ⟨#[44]⟩)] (fun v9 w=>
 K v9 w) w) w) w) w) w
theorem sh_160_ok {a0:Value} {K:VK} {w:World} (h:sh_160 a0 K w):callM prog 160 #[a0] K w:=
 calls_of_code (fun _=>0) (fn:=Tryz.f160) (rs:=[.tmp 2]) Tryz.func160 rfl rfl (by kernel_rfl) (nB rfl) (Eq.mp (by kernel_rfl) h)
def sh_195 (a0:Value) (K:VK) (w:World):Prop:=
 oM prog (.convert 9 202 (.tmp 0)) 202 [a0] (fun v10 w=>
 oM prog (.buildSlice 202 1 #[(0,(.tmp 0))]) 202 [(.int .u8 128)] (fun v11 w=>
 oM prog (.call (Go.Call.mk (.builtin .append) #[(.tmp 0),(.tmp 1)] #[202,202])) 202 [v10,v11] (fun v12 w=>
 loopM [v12] w (fun J_4 m_5 l_6 u_l_6 w0_l_6=>(fun w=>(
 kN 202 (l_6.getD 0 undef) (fun v14 w=>
 kB .rem 3 3 v14 (.int .i64 64) (fun v15 w=>
 kC .neq 3 56 4 v15 (fun v16 w=>
 condM v16
 (oM prog (.buildSlice 202 1 #[(0,(.tmp 0))]) 202 [(.int .u8 0)] (fun v18 w=>
 oM prog (.call (Go.Call.mk (.builtin .append) #[(.tmp 0),(.tmp 1)] #[202,202])) 202 [(l_6.getD 0 undef),v18] (fun v19 w=>
 J_4 [v19] w ∧ m_5 [v19] w < m_5 l_6 w0_l_6) w) w)
 (loopM [(l_6.getD 0 undef),(.int .i64 56)] w (fun J_12 m_13 l_14 u_l_14 w0_l_14=>(fun w=>(
 kB .geq 3 4 (l_14.getD 1 undef) (.int .i64 0) (fun v21 w=>
 condM v21
 (kN 9 a0 (fun v26 w=>
 oM prog (.convert 3 150 (.tmp 0)) 150 [v26] (fun v27 w=>
 kB .mul 150 150 (.int .u64 8) v27 (fun v28 w=>
 oM prog (.binOp .shr 150 (.tmp 0) (.tmp 1) 3) 150 [v28,(l_14.getD 1 undef)] (fun v30 w=>
 oM prog (.convert 150 5 (.tmp 0)) 5 [v30] (fun v31 w=>
 oM prog (.buildSlice 202 1 #[(0,(.tmp 0))]) 202 [v31] (fun v32 w=>
 oM prog (.call (Go.Call.mk (.builtin .append) #[(.tmp 0),(.tmp 1)] #[202,202])) 202 [(l_14.getD 0 undef),v32] (fun v33 w=>
 kB .sub 3 3 (l_14.getD 1 undef) (.int .i64 8) (fun v23 w=>
 J_12 [v33,v23] w ∧ m_13 [v33,v23] w < m_13 l_14 w0_l_14) w) w) w) w) w) w) w) w)
 (callM prog 213 #[] (fun v34 w=>
 kA 225 (fun v5 w=>
 kS 225 v5 v34 (fun _ w=>
 loopM [(l_14.getD 0 undef)] w (fun J_26 m_27 l_28 u_l_28 w0_l_28=>(fun w=>(
 kN 202 (l_28.getD 0 undef) (fun v36 w=>
 kB .gtr 3 4 v36 (.int .i64 0) (fun v37 w=>
 condM v37
 (stageM w (fun C_31 w=>(jL 225 v5 (upto C_31 0) (fun v40=>
 pureH (l_28.getD 0 undef) (upto C_31 0) (fun v41=>
 oH prog (.slice 202 (.tmp 0) none (some (.tmp 1)) none) 202 [v41,(.int .i64 64)] (upto C_31 0) (fun v42=>
 callM prog 214 #[v40,v42] (fun v43 w=>C_31 1 w ∧ (
 kS 225 v5 v43 (fun _ w=>C_31 2 w ∧ (
 oM prog (.slice 202 (.tmp 0) (some (.tmp 1)) none none) 202 [(l_28.getD 0 undef),(.int .i64 64)] (fun v39 w=>
 J_26 [v39] w ∧ m_27 [v39] w < m_27 l_28 w0_l_28) w)) w)) w))))))
 (kL 225 v5 (fun v44 w=>
 loopM [undef,(.slice none 0 0),(.int .i64 0)] w (fun J_38 m_39 l_40 u_l_40 w0_l_40=>(fun w=>(
 kB .lss 3 0 (l_40.getD 2 undef) (.int .i64 8) (fun v46 w=>
 condM v46
 (oM prog (.index 225 (.tmp 0) (.tmp 1)) 223 [v44,(l_40.getD 2 undef)] (fun v47 w=>
 oM prog (.binOp .shr 223 (.tmp 0) (.tmp 1) 191) 223 [v47,(.int .u64 24)] (fun v50 w=>
 oM prog (.convert 223 5 (.tmp 0)) 5 [v50] (fun v51 w=>
 oM prog (.binOp .shr 223 (.tmp 0) (.tmp 1) 191) 223 [v47,(.int .u64 16)] (fun v53 w=>
 oM prog (.convert 223 5 (.tmp 0)) 5 [v53] (fun v54 w=>
 oM prog (.binOp .shr 223 (.tmp 0) (.tmp 1) 191) 223 [v47,(.int .u64 8)] (fun v56 w=>
 oM prog (.convert 223 5 (.tmp 0)) 5 [v56] (fun v57 w=>
 oM prog (.convert 223 5 (.tmp 0)) 5 [v47] (fun v59 w=>
 oM prog (.buildSlice 202 4 #[(0,(.tmp 0)),(1,(.tmp 1)),(2,(.tmp 2)),(3,(.tmp 3))]) 202 [v51,v54,v57,v59] (fun v60 w=>
 oM prog (.call (Go.Call.mk (.builtin .append) #[(.tmp 0),(.tmp 1)] #[202,202])) 202 [(l_40.getD 1 undef),v60] (fun v61 w=>
 kB .add 3 3 (l_40.getD 2 undef) (.int .i64 1) (fun v62 w=>
 J_38 [v47,v61,v62] w ∧ m_39 [v47,v61,v62] w < m_39 l_40 w0_l_40) w) w) w) w) w) w) w) w) w) w) w)
 (oM prog (.convert 202 9 (.tmp 0)) 9 [(l_40.getD 1 undef)] (fun v64 w=>
 K v64 w) w)) w)) w0_l_40)) w)) w) w)) w0_l_28)) w) w) w)) w)) w0_l_14))) w) w) w)) w0_l_6)) w) w) w
theorem sh_195_ok {a0:Value} {K:VK} {w:World} (h:sh_195 a0 K w):callM prog 195 #[a0] K w:=
 calls_of_code (fun _=>3) (fn:=Tryz.f195) (rs:=[.tmp 2]) Tryz.func195 rfl rfl (by kernel_rfl) (nB rfl) (Eq.mp (by kernel_rfl) h)
def sh_213 (K:VK) (w:World):Prop:=
 kA 225 (fun v0 w=>
 oM prog (.build 225 #[(0,(.tmp 0)),(1,(.tmp 1)),(2,(.tmp 2)),(3,(.tmp 3)),(4,(.tmp 4)),(5,(.tmp 5)),(6,(.tmp 6)),(7,(.tmp 7))]) 225 [(.int .u32 1779033703),(.int .u32 3144134277),(.int .u32 1013904242),(.int .u32 2773480762),(.int .u32 1359893119),(.int .u32 2600822924),(.int .u32 528734635),(.int .u32 1541459225)] (fun v1 w=>
 kS 225 v0 v1 (fun _ w=>
 ∃ r_3,(do loadVar 225 (← asAddr v0):Sem Value).run prog w = .ok r_3 w ∧ K r_3 w) w) w) w
theorem sh_213_ok {K:VK} {w:World} (h:sh_213 K w):callM prog 213 #[] K w:=
 calls_of_code (fun _=>0) (fn:=Tryz.f213) (rs:=[.cell 0 225]) Tryz.func213 rfl rfl (by kernel_rfl) (nB rfl) (Eq.mp (by kernel_rfl) h)
def sh_214 (a0 a1:Value) (K:VK) (w:World):Prop:=
 oM prog (.box 225 (.tmp 0)) 0 [a0] (fun v2 w=>
 kA 225 (fun v4 w=>
 callM prog 228 #[a1] (fun v15 w=>
 callM prog 229 #[] (fun v16 w=>
 kA 238 (fun v5 w=>
 kA 238 (fun v6 w=>
 kS 238 v5 v15 (fun _ w=>
 kS 238 v6 v16 (fun _ w=>
 kL 225 v2 (fun v17 w=>
 kA 225 (fun v7 w=>
 kS 225 v7 v17 (fun _ w=>
 loopM [undef,undef,undef,undef,undef,(.int .i64 0)] w (fun J_9 m_10 l_11 u_l_11 w0_l_11=>(fun w=>(
 kB .lss 3 0 (l_11.getD 5 undef) (.int .i64 64) (fun v19 w=>
 condM v19
 (quietM w (fun C_13=>(oQ prog (.indexAddr 225 (.tmp 0) (.tmp 1)) 0 [v7,(.int .i64 4)] C_13 (fun v21=>
 oQ prog (.load 223 (.tmp 0)) 223 [v21] C_13 (fun v22=>
 callQ prog 230 #[v22,(.int .i64 (-6))] C_13 (fun v23=>
 oQ prog (.indexAddr 225 (.tmp 0) (.tmp 1)) 0 [v7,(.int .i64 4)] C_13 (fun v24=>
 oQ prog (.load 223 (.tmp 0)) 223 [v24] C_13 (fun v25=>
 callQ prog 230 #[v25,(.int .i64 (-11))] C_13 (fun v26=>
 oQ prog (.binOp .xor 223 (.tmp 0) (.tmp 1) 223) 223 [v23,v26] C_13 (fun v27=>
 oQ prog (.indexAddr 225 (.tmp 0) (.tmp 1)) 0 [v7,(.int .i64 4)] C_13 (fun v28=>
 oQ prog (.load 223 (.tmp 0)) 223 [v28] C_13 (fun v29=>
 callQ prog 230 #[v29,(.int .i64 (-25))] C_13 (fun v30=>
 oQ prog (.binOp .xor 223 (.tmp 0) (.tmp 1) 223) 223 [v27,v30] C_13 (fun v31=>
 ∀ w,C_13 w → (quietM w (fun C_25=>(oQ prog (.indexAddr 225 (.tmp 0) (.tmp 1)) 0 [v7,(.int .i64 7)] C_25 (fun v32=>
 oQ prog (.load 223 (.tmp 0)) 223 [v32] C_25 (fun v33=>
 oQ prog (.binOp .add 223 (.tmp 0) (.tmp 1) 223) 223 [v33,v31] C_25 (fun v35=>
 oQ prog (.indexAddr 225 (.tmp 0) (.tmp 1)) 0 [v7,(.int .i64 6)] C_25 (fun v36=>
 oQ prog (.load 223 (.tmp 0)) 223 [v36] C_25 (fun v37=>
 oQ prog (.indexAddr 225 (.tmp 0) (.tmp 1)) 0 [v7,(.int .i64 4)] C_25 (fun v38=>
 oQ prog (.load 223 (.tmp 0)) 223 [v38] C_25 (fun v39=>
 oQ prog (.indexAddr 225 (.tmp 0) (.tmp 1)) 0 [v7,(.int .i64 5)] C_25 (fun v40=>
 oQ prog (.load 223 (.tmp 0)) 223 [v40] C_25 (fun v41=>
 oQ prog (.indexAddr 225 (.tmp 0) (.tmp 1)) 0 [v7,(.int .i64 6)] C_25 (fun v42=>
 oQ prog (.load 223 (.tmp 0)) 223 [v42] C_25 (fun v43=>
 oQ prog (.binOp .xor 223 (.tmp 0) (.tmp 1) 223) 223 [v41,v43] C_25 (fun v44=>
 oQ prog (.binOp .and 223 (.tmp 0) (.tmp 1) 223) 223 [v39,v44] C_25 (fun v45=>
 oQ prog (.binOp .xor 223 (.tmp 0) (.tmp 1) 223) 223 [v37,v45] C_25 (fun v46=>
 oQ prog (.binOp .add 223 (.tmp 0) (.tmp 1) 223) 223 [v35,v46] C_25 (fun v47=>
 oQ prog (.indexAddr 238 (.tmp 0) (.tmp 1)) 0 [v6,(l_11.getD 5 undef)] C_25 (fun v49=>
 oQ prog (.load 223 (.tmp 0)) 223 [v49] C_25 (fun v50=>
 oQ prog (.binOp .add 223 (.tmp 0) (.tmp 1) 223) 223 [v47,v50] C_25 (fun v51=>
 oQ prog (.indexAddr 238 (.tmp 0) (.tmp 1)) 0 [v5,(l_11.getD 5 undef)] C_25 (fun v53=>
 oQ prog (.load 223 (.tmp 0)) 223 [v53] C_25 (fun v54=>
 oQ prog (.binOp .add 223 (.tmp 0) (.tmp 1) 223) 223 [v51,v54] C_25 (fun v55=>
 ∀ w,C_25 w → (quietM w (fun C_47=>(oQ prog (.indexAddr 225 (.tmp 0) (.tmp 1)) 0 [v7,(.int .i64 0)] C_47 (fun v56=>
 oQ prog (.load 223 (.tmp 0)) 223 [v56] C_47 (fun v57=>
 callQ prog 230 #[v57,(.int .i64 (-2))] C_47 (fun v58=>
 oQ prog (.indexAddr 225 (.tmp 0) (.tmp 1)) 0 [v7,(.int .i64 0)] C_47 (fun v59=>
 oQ prog (.load 223 (.tmp 0)) 223 [v59] C_47 (fun v60=>
 callQ prog 230 #[v60,(.int .i64 (-13))] C_47 (fun v61=>
 oQ prog (.binOp .xor 223 (.tmp 0) (.tmp 1) 223) 223 [v58,v61] C_47 (fun v62=>
 oQ prog (.indexAddr 225 (.tmp 0) (.tmp 1)) 0 [v7,(.int .i64 0)] C_47 (fun v63=>
 oQ prog (.load 223 (.tmp 0)) 223 [v63] C_47 (fun v64=>
 callQ prog 230 #[v64,(.int .i64 (-22))] C_47 (fun v65=>
 oQ prog (.binOp .xor 223 (.tmp 0) (.tmp 1) 223) 223 [v62,v65] C_47 (fun v66=>
 ∀ w,C_47 w → (kI 225 v7 (.int .i64 0) (fun v67 w=>
 kL 223 v67 (fun v68 w=>
 kI 225 v7 (.int .i64 1) (fun v69 w=>
 kL 223 v69 (fun v70 w=>
 kB .and 223 223 v68 v70 (fun v71 w=>
 kI 225 v7 (.int .i64 2) (fun v72 w=>
 kL 223 v72 (fun v73 w=>
 kI 225 v7 (.int .i64 0) (fun v74 w=>
 kL 223 v74 (fun v75 w=>
 kI 225 v7 (.int .i64 1) (fun v76 w=>
 kL 223 v76 (fun v77 w=>
 kB .or 223 223 v75 v77 (fun v78 w=>
 kB .and 223 223 v73 v78 (fun v79 w=>
 kB .or 223 223 v71 v79 (fun v80 w=>
 kB .add 223 223 v55 v66 (fun v83 w=>
 kB .add 223 223 v83 v80 (fun v85 w=>
 kI 225 v7 (.int .i64 0) (fun v86 w=>
 kL 223 v86 (fun v87 w=>
 kI 225 v7 (.int .i64 1) (fun v88 w=>
 kL 223 v88 (fun v89 w=>
 kI 225 v7 (.int .i64 2) (fun v90 w=>
 kL 223 v90 (fun v91 w=>
 kI 225 v7 (.int .i64 3) (fun v92 w=>
 kL 223 v92 (fun v93 w=>
 kB .add 223 223 v93 v55 (fun v95 w=>
 kI 225 v7 (.int .i64 4) (fun v96 w=>
 kL 223 v96 (fun v97 w=>
 kI 225 v7 (.int .i64 5) (fun v98 w=>
 kL 223 v98 (fun v99 w=>
 kI 225 v7 (.int .i64 6) (fun v100 w=>
 kL 223 v100 (fun v101 w=>
 oM prog (.build 225 #[(0,(.tmp 0)),(1,(.tmp 1)),(2,(.tmp 2)),(3,(.tmp 3)),(4,(.tmp 4)),(5,(.tmp 5)),(6,(.tmp 6)),(7,(.tmp 7))]) 225 [v85,v87,v89,v91,v95,v97,v99,v101] (fun v102 w=>
 kS 225 v7 v102 (fun _ w=>
 kB .add 3 3 (l_11.getD 5 undef) (.int .i64 1) (fun v103 w=>
 J_9 [(l_11.getD 5 undef),v31,v55,v66,v80,v103] w ∧ m_10 [(l_11.getD 5 undef),v31,v55,v66,v80,v103] w < m_10 l_11 w0_l_11) w) w) w) w) w) w) w) w) w) w) w) w) w) w) w) w) w) w) w) w) w) w) w) w) w) w) w) w) w) w) w) w) w) w)))))))))))))))))))))))))))))))))))))))))))))))))))))
 (loopM [undef,(.int .i64 0)] w (fun J_92 m_93 l_94 u_l_94 w0_l_94=>(fun w=>(
 kB .lss 3 0 (l_94.getD 1 undef) (.int .i64 8) (fun v105 w=>
 condM v105
 (stageM w (fun C_96 w=>(pureH (l_94.getD 1 undef) (upto C_96 0) (fun v107=>
 jI 225 v7 v107 (upto C_96 0) (fun v108=>
 jL 223 v108 (upto C_96 0) (fun v109=>
 pureH (l_94.getD 1 undef) (upto C_96 0) (fun v110=>
 jI 225 v2 v110 (upto C_96 0) (fun v111=>
 jL 223 v111 (upto C_96 0) (fun v112=>
 jB .add 223 223 v109 v112 (upto C_96 0) (fun v113=>
 jI 225 v7 v107 (upto C_96 0) (fun v114=>
 kS 223 v114 v113 (fun _ w=>C_96 1 w ∧ (
 kB .add 3 3 (l_94.getD 1 undef) (.int .i64 1) (fun v115 w=>
 J_92 [(l_94.getD 1 undef),v115] w ∧ m_93 [(l_94.getD 1 undef),v115] w < m_93 l_94 w0_l_94) w)) w)))))))))))
 (kL 225 v7 (fun v116 w=>
 kS 225 v4 v116 (fun _ w=>
 ∃ r_107,(do loadVar 225 (← asAddr v4):Sem Value).run prog w = .ok r_107 w ∧ K r_107 w) w) w)) w)) w0_l_94))) w)) w0_l_11)) w) w) w) w) w) w) w) w) w) w) w
theorem sh_214_ok {a0 a1:Value} {K:VK} {w:World} (h:sh_214 a0 a1 K w):callM prog 214 #[a0,a1] K w:=
 calls_of_code (fun i=>bif Nat.beq i 15 then 3 else 0) (fn:=Tryz.f214) (rs:=[.cell 4 225]) Tryz.func214 rfl rfl (by kernel_rfl) (nB rfl) (Eq.mp (by kernel_rfl) h)
def sh_228 (a0:Value) (K:VK) (w:World):Prop:=
 kA 238 (fun v2 w=>
 loopM [undef,undef,undef,undef,undef,(.int .i64 0)] w (fun J_2 m_3 l_4 u_l_4 w0_l_4=>(fun w=>(
 kB .lss 3 0 (l_4.getD 5 undef) (.int .i64 64) (fun v9 w=>
 condM v9
 (joinM (fun M_6=>(kB .lss 3 4 (l_4.getD 5 undef) (.int .i64 16) (fun v12 w=>
 condM v12
 (heldM w (fun C_9 w=>(pureH (l_4.getD 5 undef) C_9 (fun v13=>
 pureH a0 C_9 (fun v14=>
 pureH (l_4.getD 5 undef) C_9 (fun v15=>
 jB .mul 3 3 (.int .i64 4) v15 C_9 (fun v16=>
 jI 202 v14 v16 C_9 (fun v17=>
 jL 5 v17 C_9 (fun v18=>
 oH prog (.convert 5 223 (.tmp 0)) 223 [v18] C_9 (fun v19=>
 oH prog (.binOp .shl 223 (.tmp 0) (.tmp 1) 191) 223 [v19,(.int .u64 24)] C_9 (fun v20=>
 pureH a0 C_9 (fun v21=>
 pureH (l_4.getD 5 undef) C_9 (fun v22=>
 jB .mul 3 3 (.int .i64 4) v22 C_9 (fun v23=>
 jB .add 3 3 v23 (.int .i64 1) C_9 (fun v24=>
 jI 202 v21 v24 C_9 (fun v25=>
 jL 5 v25 C_9 (fun v26=>
 oH prog (.convert 5 223 (.tmp 0)) 223 [v26] C_9 (fun v27=>
 oH prog (.binOp .shl 223 (.tmp 0) (.tmp 1) 191) 223 [v27,(.int .u64 16)] C_9 (fun v28=>
 jB .or 223 223 v20 v28 C_9 (fun v29=>
 pureH a0 C_9 (fun v30=>
 pureH (l_4.getD 5 undef) C_9 (fun v31=>
 jB .mul 3 3 (.int .i64 4) v31 C_9 (fun v32=>
 jB .add 3 3 v32 (.int .i64 2) C_9 (fun v33=>
 jI 202 v30 v33 C_9 (fun v34=>
 jL 5 v34 C_9 (fun v35=>
 oH prog (.convert 5 223 (.tmp 0)) 223 [v35] C_9 (fun v36=>
 oH prog (.binOp .shl 223 (.tmp 0) (.tmp 1) 191) 223 [v36,(.int .u64 8)] C_9 (fun v37=>
 jB .or 223 223 v29 v37 C_9 (fun v38=>
 pureH a0 C_9 (fun v39=>
 pureH (l_4.getD 5 undef) C_9 (fun v40=>
 jB .mul 3 3 (.int .i64 4) v40 C_9 (fun v41=>
 jB .add 3 3 v41 (.int .i64 3) C_9 (fun v42=>
 jI 202 v39 v42 C_9 (fun v43=>
 jL 5 v43 C_9 (fun v44=>
 oH prog (.convert 5 223 (.tmp 0)) 223 [v44] C_9 (fun v45=>
 jB .or 223 223 v38 v45 C_9 (fun v46=>
 jI 238 v2 v13 C_9 (fun v47=>
 kS 223 v47 v46 (fun _ w=>C_9 w ∧ (
 M_6 [(l_4.getD 5 undef),(l_4.getD 1 undef),(l_4.getD 2 undef),(l_4.getD 3 undef),(l_4.getD 4 undef)] w)) w))))))))))))))))))))))))))))))))))))))
 (quietM w (fun C_45=>(oQ prog (.binOp .sub 3 (.tmp 0) (.tmp 1) 3) 3 [(l_4.getD 5 undef),(.int .i64 15)] C_45 (fun v49=>
 oQ prog (.indexAddr 238 (.tmp 0) (.tmp 1)) 0 [v2,v49] C_45 (fun v50=>
 oQ prog (.load 223 (.tmp 0)) 223 [v50] C_45 (fun v51=>
 oQ prog (.binOp .sub 3 (.tmp 0) (.tmp 1) 3) 3 [(l_4.getD 5 undef),(.int .i64 2)] C_45 (fun v53=>
 oQ prog (.indexAddr 238 (.tmp 0) (.tmp 1)) 0 [v2,v53] C_45 (fun v54=>
 oQ prog (.load 223 (.tmp 0)) 223 [v54] C_45 (fun v55=>
 ∀ w,C_45 w → (callM prog 230 #[v51,(.int .i64 (-7))] (fun v57 w=>
 callM prog 230 #[v51,(.int .i64 (-18))] (fun v59 w=>
 kB .xor 223 223 v57 v59 (fun v60 w=>
 oM prog (.binOp .shr 223 (.tmp 0) (.tmp 1) 191) 223 [v51,(.int .u64 3)] (fun v62 w=>
 kB .xor 223 223 v60 v62 (fun v63 w=>
 callM prog 230 #[v55,(.int .i64 (-17))] (fun v65 w=>
 callM prog 230 #[v55,(.int .i64 (-19))] (fun v67 w=>
 kB .xor 223 223 v65 v67 (fun v68 w=>
 oM prog (.binOp .shr 223 (.tmp 0) (.tmp 1) 191) 223 [v55,(.int .u64 10)] (fun v70 w=>
 kB .xor 223 223 v68 v70 (fun v71 w=>
 heldM w (fun C_62 w=>(pureH (l_4.getD 5 undef) C_62 (fun v72=>
 pureH (l_4.getD 5 undef) C_62 (fun v73=>
 jB .sub 3 3 v73 (.int .i64 16) C_62 (fun v74=>
 jI 238 v2 v74 C_62 (fun v75=>
 jL 223 v75 C_62 (fun v76=>
 pureH v63 C_62 (fun v77=>
 jB .add 223 223 v76 v77 C_62 (fun v78=>
 pureH (l_4.getD 5 undef) C_62 (fun v79=>
 jB .sub 3 3 v79 (.int .i64 7) C_62 (fun v80=>
 jI 238 v2 v80 C_62 (fun v81=>
 jL 223 v81 C_62 (fun v82=>
 jB .add 223 223 v78 v82 C_62 (fun v83=>
 pureH v71 C_62 (fun v84=>
 jB .add 223 223 v83 v84 C_62 (fun v85=>
 jI 238 v2 v72 C_62 (fun v86=>
 kS 223 v86 v85 (fun _ w=>C_62 w ∧ (
 M_6 [(l_4.getD 5 undef),v51,v55,v63,v71] w)) w)))))))))))))))))) w) w) w) w) w) w) w) w) w) w))))))))))) w))
 (fun l_7 u_l_7 w=>(kB .add 3 3 (l_4.getD 5 undef) (.int .i64 1) (fun v87 w=>
 J_2 [(l_7.getD 0 undef),(l_7.getD 1 undef),(l_7.getD 2 undef),(l_7.getD 3 undef),(l_7.getD 4 undef),v87] w ∧ m_3 [(l_7.getD 0 undef),(l_7.getD 1 undef),(l_7.getD 2 undef),(l_7.getD 3 undef),(l_7.getD 4 undef),v87] w < m_3 l_4 w0_l_4) w)))
 (kL 238 v2 (fun v88 w=>
 kS 238 v2 v88 (fun _ w=>
 ∃ r_80,(do loadVar 238 (← asAddr v2):Sem Value).run prog w = .ok r_80 w ∧ K r_80 w) w) w)) w)) w0_l_4)) w
theorem sh_228_ok {a0:Value} {K:VK} {w:World} (h:sh_228 a0 K w):callM prog 228 #[a0] K w:=
 calls_of_code (fun i=>bif Nat.beq i 5 then .tree (.look 0 (.look 1 (.look 2 (.look 3 (.look 4 (.look 5 (.look 6 (.look 7 (.look 8 (.look 9 (.look 10 (.look 11 (.look 12 (.look 13 (.look 14 (.look 15 (.look 16 (.look 17 (.look 18 (.look 19 (.look 20 (.look 21 (.look 22 (.look 23 (.look 24 (.look 25 (.look 26 (.look 27 (.look 28 (.look 29 (.look 30 (.look 31 (.look 32 (.look 33 (.look 34 (.only 35 (.done))))))))))))))))))))))))))))))))))))) else bif Nat.beq i 9 then 2 else 0) (fn:=Tryz.f228) (rs:=[.cell 2 238]) Tryz.func228 rfl rfl (by kernel_rfl) (nB rfl) (Eq.mp (by kernel_rfl) h)
def sh_229 (K:VK) (w:World):Prop:=
 kA 238 (fun v0 w=>
 oM prog (.build 238 #[(0,(.tmp 0)),(1,(.tmp 1)),(2,(.tmp 2)),(3,(.tmp 3)),(4,(.tmp 4)),(5,(.tmp 5)),(6,(.tmp 6)),(7,(.tmp 7)),(8,(.tmp 8)),(9,(.tmp 9)),(10,(.tmp 10)),(11,(.tmp 11)),(12,(.tmp 12)),(13,(.tmp 13)),(14,(.tmp 14)),(15,(.tmp 15)),(16,(.tmp 16)),(17,(.tmp 17)),(18,(.tmp 18)),(19,(.tmp 19)),(20,(.tmp 20)),(21,(.tmp 21)),(22,(.tmp 22)),(23,(.tmp 23)),(24,(.tmp 24)),(25,(.tmp 25)),(26,(.tmp 26)),(27,(.tmp 27)),(28,(.tmp 28)),(29,(.tmp 29)),(30,(.tmp 30)),(31,(.tmp 31)),(32,(.tmp 32)),(33,(.tmp 33)),(34,(.tmp 34)),(35,(.tmp 35)),(36,(.tmp 36)),(37,(.tmp 37)),(38,(.tmp 38)),(39,(.tmp 39)),(40,(.tmp 40)),(41,(.tmp 41)),(42,(.tmp 42)),(43,(.tmp 43)),(44,(.tmp 44)),(45,(.tmp 45)),(46,(.tmp 46)),(47,(.tmp 47)),(48,(.tmp 48)),(49,(.tmp 49)),(50,(.tmp 50)),(51,(.tmp 51)),(52,(.tmp 52)),(53,(.tmp 53)),(54,(.tmp 54)),(55,(.tmp 55)),(56,(.tmp 56)),(57,(.tmp 57)),(58,(.tmp 58)),(59,(.tmp 59)),(60,(.tmp 60)),(61,(.tmp 61)),(62,(.tmp 62)),(63,(.tmp 63))]) 238 [(.int .u32 1116352408),(.int .u32 1899447441),(.int .u32 3049323471),(.int .u32 3921009573),(.int .u32 961987163),(.int .u32 1508970993),(.int .u32 2453635748),(.int .u32 2870763221),(.int .u32 3624381080),(.int .u32 310598401),(.int .u32 607225278),(.int .u32 1426881987),(.int .u32 1925078388),(.int .u32 2162078206),(.int .u32 2614888103),(.int .u32 3248222580),(.int .u32 3835390401),(.int .u32 4022224774),(.int .u32 264347078),(.int .u32 604807628),(.int .u32 770255983),(.int .u32 1249150122),(.int .u32 1555081692),(.int .u32 1996064986),(.int .u32 2554220882),(.int .u32 2821834349),(.int .u32 2952996808),(.int .u32 3210313671),(.int .u32 3336571891),(.int .u32 3584528711),(.int .u32 113926993),(.int .u32 338241895),(.int .u32 666307205),(.int .u32 773529912),(.int .u32 1294757372),(.int .u32 1396182291),(.int .u32 1695183700),(.int .u32 1986661051),(.int .u32 2177026350),(.int .u32 2456956037),(.int .u32 2730485921),(.int .u32 2820302411),(.int .u32 3259730800),(.int .u32 3345764771),(.int .u32 3516065817),(.int .u32 3600352804),(.int .u32 4094571909),(.int .u32 275423344),(.int .u32 430227734),(.int .u32 506948616),(.int .u32 659060556),(.int .u32 883997877),(.int .u32 958139571),(.int .u32 1322822218),(.int .u32 1537002063),(.int .u32 1747873779),(.int .u32 1955562222),(.int .u32 2024104815),(.int .u32 2227730452),(.int .u32 2361852424),(.int .u32 2428436474),(.int .u32 2756734187),(.int .u32 3204031479),(.int .u32 3329325298)] (fun v1 w=>
 kS 238 v0 v1 (fun _ w=>
 ∃ r_3,(do loadVar 238 (← asAddr v0):Sem Value).run prog w = .ok r_3 w ∧ K r_3 w) w) w) w
theorem sh_229_ok {K:VK} {w:World} (h:sh_229 K w):callM prog 229 #[] K w:=
 calls_of_code (fun _=>0) (fn:=Tryz.f229) (rs:=[.cell 0 238]) Tryz.func229 rfl rfl (by kernel_rfl) (nB rfl) (Eq.mp (by kernel_rfl) h)
def sh_230 (a0 a1:Value) (K:VK) (w:World):Prop:=
 oM prog (.convert 3 191 (.tmp 0)) 191 [a1] (fun v7 w=>
 kB .and 191 191 v7 (.int .u64 31) (fun v8 w=>
 oM prog (.binOp .shl 223 (.tmp 0) (.tmp 1) 191) 223 [a0,v8] (fun v11 w=>
 kB .sub 191 191 (.int .u64 32) v8 (fun v14 w=>
 oM prog (.binOp .shr 223 (.tmp 0) (.tmp 1) 191) 223 [a0,v14] (fun v15 w=>
 kB .or 223 223 v11 v15 (fun v16 w=>
 K v16 w) w) w) w) w) w) w
theorem sh_230_ok {a0 a1:Value} {K:VK} {w:World} (h:sh_230 a0 a1 K w):callM prog 230 #[a0,a1] K w:=
 calls_of_code (fun _=>0) (fn:=Tryz.f230) (rs:=[.tmp 4]) Tryz.func230 rfl rfl (by kernel_rfl) (nB rfl) (Eq.mp (by kernel_rfl) h)
def sh_159 (a0 a1:Value) (K:VK) (w:World):Prop:=
 callM prog 123 #[a1] (fun v9 w=>
 kU v9 (fun v10 w=>
 condM v10
 (K (.int .i64 0) w)
 (callM prog 195 #[a0] (fun v12 w=>
 oM prog (.convert 9 202 (.tmp 0)) 202 [v12] (fun v13 w=>
 kN 202 v13 (fun v14 w=>
 loopM [undef,(.int .i64 0),(.int .i64 0)] w (fun J_6 m_7 l_8 u_l_8 w0_l_8=>(fun w=>(
 kB .lss 3 0 (l_8.getD 2 undef) v14 (fun v16 w=>
 condM v16
 (kI 202 v13 (l_8.getD 2 undef) (fun v17 w=>
 kL 5 v17 (fun v18 w=>
 callM prog 43 #[a1,(l_8.getD 1 undef),(.int .i64 256)] (fun v22 w=>
 oM prog (.convert 5 3 (.tmp 0)) 3 [v18] (fun v24 w=>
 callM prog 42 #[a1,v22,v24] (fun v25 w=>
 kB .add 3 3 (l_8.getD 2 undef) (.int .i64 1) (fun v26 w=>
 J_6 [v18,v25,v26] w ∧ m_7 [v18,v25,v26] w < m_7 l_8 w0_l_8) w) w) w) w) w) w)
 (K (l_8.getD 1 undef) w)) w)) w0_l_8)) w) w) w)) w) w
theorem sh_159_ok {a0 a1:Value} {K:VK} {w:World} (h:sh_159 a0 a1 K w):callM prog 159 #[a0,a1] K w:=
 calls_of_code (fun _=>0) (fn:=Tryz.f159) (rs:=[.tmp 4]) Tryz.func159 rfl rfl (by kernel_rfl) (nB rfl) (Eq.mp (by kernel_rfl) h)
def sh_117 (a0 a1:Value) (K:VK) (w:World):Prop:=
 kN 24 a0 (fun v7 w=>
 kN 24 a1 (fun v9 w=>
 kB .neq 3 4 v7 v9 (fun v10 w=>
 condM v10
 (K (.bool false) w)
 (kN 24 a0 (fun v12 w=>
 loopM [undef,(.bool false),(.int .i64 0)] w (fun J_5 m_6 l_7 u_l_7 w0_l_7=>(fun w=>(
 kB .lss 3 0 (l_7.getD 2 undef) v12 (fun v14 w=>
 condM v14
 (heldM w (fun C_9 w=>(((true:Bool) = true) ∧ (pureH a0 C_9 (fun v16=>
 pureH (l_7.getD 2 undef) C_9 (fun v17=>
 jI 24 v16 v17 C_9 (fun v18=>
 jL 3 v18 C_9 (fun v19=>
 pureH a1 C_9 (fun v20=>
 pureH (l_7.getD 2 undef) C_9 (fun v21=>
 jI 24 v20 v21 C_9 (fun v22=>
 jL 3 v22 C_9 (fun v23=>
 jB .neq 3 4 v19 v23 C_9 (fun v24=>
 ∃ S_19:World → WK,∀ w,C_9 w → (
 condM v24
 (K (.bool false) w)
 (kB .add 3 3 (l_7.getD 2 undef) (.int .i64 1) (fun v25 w=>
 J_5 [(l_7.getD 2 undef),(l_7.getD 1 undef),v25] w ∧ m_6 [(l_7.getD 2 undef),(l_7.getD 1 undef),v25] w < m_6 l_7 w0_l_7) w)))))))))))))))
 (K (.bool true) w)) w)) w0_l_7)) w)) w) w) w
theorem sh_117_ok {a0 a1:Value} {K:VK} {w:World} (h:sh_117 a0 a1 K w):callM prog 117 #[a0,a1] K w:=
 calls_of_code (fun _=>.free [0,1,2,3,4,5,6,7,8] [] []) (fn:=Tryz.f117) (rs:=[.tmp 4]) Tryz.func117 rfl rfl (by kernel_rfl) (nB rfl) (Eq.mp (by kernel_rfl) h)
def sh_23 (a0 a1:Value) (K:VK) (w:World):Prop:=
 oM prog (.box 26 (.tmp 0)) 0 [a0] (fun v2 w=>
 kA 4 (fun v4 w=>
 kL 26 v2 (fun v10 w=>
 callM prog 21 #[v10] (fun v11 w=>
 kU v11 (fun v12 w=>
 gF v12 (pureM a1) (fun v14 w=>
 gF v12 (kN 27 v14) (fun v15 w=>
 gF v12 (kB .lss 3 4 v15 (.int .i64 1)) (fun v16 w=>
 kP v12 (.bool true) v16 (fun v17 w=>
 gF v17 (pureM a1) (fun v19 w=>
 gF v17 (kN 27 v19) (fun v20 w=>
 gF v17 (kB .gtr 3 4 v20 (.int .i64 300)) (fun v21 w=>
 kP v17 (.bool true) v21 (fun v22 w=>
 condM v22
 (kS 4 v4 (.bool false) (fun _ w=>
 ∃ r_14,(do loadVar 4 (← asAddr v4):Sem Value).run prog w = .ok r_14 w ∧ K r_14 w) w)
 (kN 27 a1 (fun v24 w=>
 loopM [undef,(.int .i64 0)] w (fun J_16 m_17 l_18 u_l_18 w0_l_18=>(fun w=>(
 kB .lss 3 0 (l_18.getD 1 undef) v24 (fun v26 w=>
 condM v26
 (kI 27 a1 (l_18.getD 1 undef) (fun v27 w=>
 kL 65 v27 (fun v28 w=>
 kA 65 (fun v6 w=>
 kS 65 v6 v28 (fun _ w=>
 kF 65 1 v6 (fun v29 w=>
 kL 63 v29 (fun v30 w=>
 kN 63 v30 (fun v31 w=>
 kB .lss 3 4 v31 (.int .i64 1) (fun v33 w=>
 gF v33 (pureM v31) (fun v35 w=>
 gF v33 (kB .gtr 3 4 v35 (.int .i64 16)) (fun v36 w=>
 kP v33 (.bool true) v36 (fun v37 w=>
 gF v37 (pureM v31) (fun v39 w=>
 gF v37 (kF 26 0 v2) (fun v40 w=>
 gF v37 (kF 23 1 v40) (fun v41 w=>
 gF v37 (kL 3 v41) (fun v42 w=>
 gF v37 (kB .geq 3 4 v39 v42) (fun v43 w=>
 kP v37 (.bool true) v43 (fun v44 w=>
 gF v44 (kF 65 0 v6) (fun v46 w=>
 gF v44 (kL 3 v46) (fun v47 w=>
 gF v44 (kB .lss 3 4 v47 (.int .i64 1)) (fun v48 w=>
 kP v44 (.bool true) v48 (fun v49 w=>
 gF v49 (kF 65 0 v6) (fun v51 w=>
 gF v49 (kL 3 v51) (fun v52 w=>
 gF v49 (pureM v31) (fun v53 w=>
 gF v49 (kB .gtr 3 4 v52 v53) (fun v54 w=>
 kP v49 (.bool true) v54 (fun v55 w=>
 condM v55
 (kS 4 v4 (.bool false) (fun _ w=>
 ∃ r_45,(do loadVar 4 (← asAddr v4):Sem Value).run prog w = .ok r_45 w ∧ K r_45 w) w)
 (kB .add 3 3 (l_18.getD 1 undef) (.int .i64 1) (fun v56 w=>
 J_16 [v31,v56] w ∧ m_17 [v31,v56] w < m_17 l_18 w0_l_18) w)) w) w) w) w) w) w) w) w) w) w) w) w) w) w) w) w) w) w) w) w) w) w) w) w) w) w)
 (callM prog 93 #[a1] (fun v58 w=>
 rangeM prog v58 2 w
 (fun vs_48 k_50 w=>(kA 69 (fun v9 w=>
 kS 69 v9 (vs_48.getD 1 undef) (fun _ w=>
 k_50 [v9] w) w) w))
 (fun vs_48 l_49 u_l_49 kn_51 kr_52 w=>(kL 26 v2 (fun v61 w=>
 kL 69 (l_49.getD 0 undef) (fun v62 w=>
 callM prog 112 #[v61,v62] (fun v63 w=>
 kU v63 (fun v64 w=>
 condM v64
 (kS 4 v4 (.bool false) (fun _ w=>
 kr_52 w) w)
 (kn_51 w)) w) w) w) w))
 (fun D_53 w=>(kS 4 v4 (.bool true) (fun _ w=>
 w.heap[D_53]? = some (.deferred (some [])) ∧ ∃ r_59,(do loadVar 4 (← asAddr v4):Sem Value).run prog (w.putObj D_53 (.deferred none)) = .ok r_59 (w.putObj D_53 (.deferred none)) ∧ K r_59 (w.putObj D_53 (.deferred none))) w))
 (fun D_53 w=>(w.heap[D_53]? = some (.deferred (some [])) ∧ ∃ r_60,(do loadVar 4 (← asAddr v4):Sem Value).run prog (w.putObj D_53 (.deferred none)) = .ok r_60 (w.putObj D_53 (.deferred none)) ∧ K r_60 (w.putObj D_53 (.deferred none))))) w)) w)) w0_l_18)) w)) w) w) w) w) w) w) w) w) w) w) w) w) w
theorem sh_23_ok {a0 a1:Value} {K:VK} {w:World} (h:sh_23 a0 a1 K w):callM prog 23 #[a0,a1] K w:=
 callsF_of_code (fun _=>0) (fn:=Tryz.f23) (rs:=[.cell 4 4]) Tryz.func23 rfl rfl (by kernel_rfl) (nB rfl) (Eq.mp (by kernel_rfl) h)
def sh_25 (a0:Value) (K:VK) (w:World):Prop:=
 kN 27 a0 (fun v13 w=>
 oM prog (.buildSlice 24 1 #[(0,(.tmp 0))]) 24 [v13] (fun v14 w=>
 kN 27 a0 (fun v16 w=>
 loopM [v14,(.int .i64 0)] w (fun J_4 m_5 l_6 u_l_6 w0_l_6=>(fun w=>(
 kB .lss 3 0 (l_6.getD 1 undef) v16 (fun v18 w=>
 condM v18
 (kI 27 a0 (l_6.getD 1 undef) (fun v19 w=>
 kL 65 v19 (fun v20 w=>
 kA 65 (fun v5 w=>
 kS 65 v5 v20 (fun _ w=>
 kF 65 0 v5 (fun v22 w=>
 kL 3 v22 (fun v23 w=>
 kF 65 1 v5 (fun v24 w=>
 kL 63 v24 (fun v25 w=>
 kN 63 v25 (fun v26 w=>
 oM prog (.buildSlice 24 2 #[(0,(.tmp 0)),(1,(.tmp 1))]) 24 [v23,v26] (fun v27 w=>
 oM prog (.call (Go.Call.mk (.builtin .append) #[(.tmp 0),(.tmp 1)] #[24,24])) 24 [(l_6.getD 0 undef),v27] (fun v28 w=>
 kF 65 1 v5 (fun v29 w=>
 kL 63 v29 (fun v30 w=>
 kN 63 v30 (fun v31 w=>
 loopM [v28,(.int .i64 0)] w (fun J_21 m_22 l_23 u_l_23 w0_l_23=>(fun w=>(
 kB .lss 3 0 (l_23.getD 1 undef) v31 (fun v33 w=>
 condM v33
 (kI 63 v30 (l_23.getD 1 undef) (fun v34 w=>
 kL 69 v34 (fun v35 w=>
 kA 69 (fun v7 w=>
 kS 69 v7 v35 (fun _ w=>
 kF 69 0 v7 (fun v37 w=>
 kL 3 v37 (fun v38 w=>
 kF 69 1 v7 (fun v39 w=>
 kL 67 v39 (fun v40 w=>
 kN 67 v40 (fun v41 w=>
 oM prog (.buildSlice 24 2 #[(0,(.tmp 0)),(1,(.tmp 1))]) 24 [v38,v41] (fun v42 w=>
 oM prog (.call (Go.Call.mk (.builtin .append) #[(.tmp 0),(.tmp 1)] #[24,24])) 24 [(l_23.getD 0 undef),v42] (fun v43 w=>
 kF 69 1 v7 (fun v44 w=>
 kL 67 v44 (fun v45 w=>
 kN 67 v45 (fun v46 w=>
 loopM [v43,(.int .i64 0)] w (fun J_38 m_39 l_40 u_l_40 w0_l_40=>(fun w=>(
 kB .lss 3 0 (l_40.getD 1 undef) v46 (fun v48 w=>
 condM v48
 (kI 67 v45 (l_40.getD 1 undef) (fun v49 w=>
 kL 144 v49 (fun v50 w=>
 kA 144 (fun v9 w=>
 kS 144 v9 v50 (fun _ w=>
 kF 144 0 v9 (fun v52 w=>
 kL 3 v52 (fun v53 w=>
 kF 144 1 v9 (fun v54 w=>
 kL 142 v54 (fun v55 w=>
 kN 142 v55 (fun v56 w=>
 oM prog (.buildSlice 24 2 #[(0,(.tmp 0)),(1,(.tmp 1))]) 24 [v53,v56] (fun v57 w=>
 oM prog (.call (Go.Call.mk (.builtin .append) #[(.tmp 0),(.tmp 1)] #[24,24])) 24 [(l_40.getD 0 undef),v57] (fun v58 w=>
 kF 144 1 v9 (fun v59 w=>
 kL 142 v59 (fun v60 w=>
 kN 142 v60 (fun v61 w=>
 loopM [v58,(.int .i64 0)] w (fun J_55 m_56 l_57 u_l_57 w0_l_57=>(fun w=>(
 kB .lss 3 0 (l_57.getD 1 undef) v61 (fun v63 w=>
 condM v63
 (kI 142 v60 (l_57.getD 1 undef) (fun v64 w=>
 kL 146 v64 (fun v65 w=>
 kA 146 (fun v11 w=>
 kS 146 v11 v65 (fun _ w=>
 kF 146 0 v11 (fun v67 w=>
 kL 3 v67 (fun v68 w=>
 kF 146 1 v11 (fun v69 w=>
 kL 3 v69 (fun v70 w=>
 oM prog (.buildSlice 24 2 #[(0,(.tmp 0)),(1,(.tmp 1))]) 24 [v68,v70] (fun v71 w=>
 oM prog (.call (Go.Call.mk (.builtin .append) #[(.tmp 0),(.tmp 1)] #[24,24])) 24 [(l_57.getD 0 undef),v71] (fun v72 w=>
 kB .add 3 3 (l_57.getD 1 undef) (.int .i64 1) (fun v73 w=>
 J_55 [v72,v73] w ∧ m_56 [v72,v73] w < m_56 l_57 w0_l_57) w) w) w) w) w) w) w) w) w) w) w)
 (kB .add 3 3 (l_40.getD 1 undef) (.int .i64 1) (fun v74 w=>
 J_38 [(l_57.getD 0 undef),v74] w ∧ m_39 [(l_57.getD 0 undef),v74] w < m_39 l_40 w0_l_40) w)) w)) w0_l_57)) w) w) w) w) w) w) w) w) w) w) w) w) w) w)
 (kB .add 3 3 (l_23.getD 1 undef) (.int .i64 1) (fun v75 w=>
 J_21 [(l_40.getD 0 undef),v75] w ∧ m_22 [(l_40.getD 0 undef),v75] w < m_22 l_23 w0_l_23) w)) w)) w0_l_40)) w) w) w) w) w) w) w) w) w) w) w) w) w) w)
 (kB .add 3 3 (l_6.getD 1 undef) (.int .i64 1) (fun v76 w=>
 J_4 [(l_23.getD 0 undef),v76] w ∧ m_5 [(l_23.getD 0 undef),v76] w < m_5 l_6 w0_l_6) w)) w)) w0_l_23)) w) w) w) w) w) w) w) w) w) w) w) w) w) w)
 (callM prog 114 #[(l_6.getD 0 undef)] (fun v78 w=>
 K v78 w) w)) w)) w0_l_6)) w) w) w
theorem sh_25_ok {a0:Value} {K:VK} {w:World} (h:sh_25 a0 K w):callM prog 25 #[a0] K w:=
 calls_of_code (fun _=>0) (fn:=Tryz.f25) (rs:=[.tmp 2]) Tryz.func25 rfl rfl (by kernel_rfl) (nB rfl) (Eq.mp (by kernel_rfl) h)
def sh_63 (a0 a1 a2 a3:Value) (K:VK) (w:World):Prop:=
 oM prog (.box 26 (.tmp 0)) 0 [a0] (fun v4 w=>
 oM prog (.box 69 (.tmp 0)) 0 [a1] (fun v5 w=>
 kL 26 v4 (fun v9 w=>
 callM prog 21 #[v9] (fun v10 w=>
 kU v10 (fun v11 w=>
 gF v11 (kL 26 v4) (fun v13 w=>
 gF v11 (kL 69 v5) (fun v14 w=>
 gF v11 (callM prog 112 #[v13,v14]) (fun v15 w=>
 gF v11 (kU v15) (fun v16 w=>
 kP v11 (.bool true) v16 (fun v17 w=>
 gF v17 (kL 26 v4) (fun v19 w=>
 gF v17 (pureM a2) (fun v20 w=>
 gF v17 (callM prog 127 #[v19,v20]) (fun v21 w=>
 gF v17 (kU v21) (fun v22 w=>
 kP v17 (.bool true) v22 (fun v23 w=>
 gF v23 (kL 26 v4) (fun v25 w=>
 gF v23 (pureM a3) (fun v26 w=>
 gF v23 (kF 69 0 v5) (fun v27 w=>
 gF v23 (kL 3 v27) (fun v28 w=>
 gF v23 (callM prog 140 #[v25,v26,v28]) (fun v29 w=>
 gF v23 (kU v29) (fun v30 w=>
 kP v23 (.bool true) v30 (fun v31 w=>
 condM v31
 (K (.slice none 0 0) w)
 (kL 26 v4 (fun v32 w=>
 kL 69 v5 (fun v33 w=>
 callM prog 141 #[v32,v33,a2,a3] (fun v36 w=>
 K v36 w) w) w) w)) w) w) w) w) w) w) w) w) w) w) w) w) w) w) w) w) w) w) w) w) w) w
theorem sh_63_ok {a0 a1 a2 a3:Value} {K:VK} {w:World} (h:sh_63 a0 a1 a2 a3 K w):callM prog 63 #[a0,a1,a2,a3] K w:=
 calls_of_code (fun _=>0) (fn:=Tryz.f63) (rs:=[.tmp 8]) Tryz.func63 rfl rfl (by kernel_rfl) (nB rfl) (Eq.mp (by kernel_rfl) h)
def sh_91 (a0 a1 a2 a3:Value) (K:VK) (w:World):Prop:=
 oM prog (.box 26 (.tmp 0)) 0 [a0] (fun v4 w=>
 oM prog (.box 29 (.tmp 0)) 0 [a3] (fun v7 w=>
 kA 4 (fun v8 w=>
 kN 30 a2 (fun v14 w=>
 kN 27 a1 (fun v16 w=>
 kB .neq 3 4 v14 v16 (fun v17 w=>
 gF v17 (kL 29 v7) (fun v19 w=>
 gF v17 (kN 29 v19) (fun v20 w=>
 gF v17 (pureM a1) (fun v21 w=>
 gF v17 (kN 27 v21) (fun v22 w=>
 gF v17 (kB .neq 3 4 v20 v22) (fun v23 w=>
 kP v17 (.bool true) v23 (fun v24 w=>
 condM v24
 (kS 4 v8 (.bool false) (fun _ w=>
 ∃ r_13,(do loadVar 4 (← asAddr v8):Sem Value).run prog w = .ok r_13 w ∧ K r_13 w) w)
 (kN 27 a1 (fun v26 w=>
 loopM [undef,(.int .i64 0)] w (fun J_15 m_16 l_17 u_l_17 w0_l_17=>(fun w=>(
 kB .lss 3 0 (l_17.getD 1 undef) v26 (fun v28 w=>
 condM v28
 (kI 27 a1 (l_17.getD 1 undef) (fun v30 w=>
 kL 65 v30 (fun v31 w=>
 kA 65 (fun v10 w=>
 kS 65 v10 v31 (fun _ w=>
 heldM w (fun C_22 w=>(((true:Bool) = true) ∧ (jL 26 v4 C_22 (fun v32=>
 pureH a2 C_22 (fun v33=>
 pureH (l_17.getD 1 undef) C_22 (fun v34=>
 jI 30 v33 v34 C_22 (fun v35=>
 jL 24 v35 C_22 (fun v36=>
 jF 65 1 v10 C_22 (fun v37=>
 jL 63 v37 C_22 (fun v38=>
 jN 63 v38 C_22 (fun v39=>
 ∃ S_31:World → WK,∃ R_32:VK,(∀ v w w_1,S_31 w w_1 → R_32 v w → R_32 v w_1) ∧
 (∀ w,C_22 w → (callM prog 140 #[v32,v36,v39] (fun v w_1=>C_22 w_1 ∧ S_31 w w_1 ∧ R_32 v w_1) w)) ∧
 (∃ R_33:VK,(∀ v w w_1,S_31 w w_1 → R_33 v w → R_33 v w_1) ∧
 (∀ w,C_22 w → ∀ v40,R_32 v40 w → (kU v40 (fun v w_1=>C_22 w_1 ∧ S_31 w w_1 ∧ R_33 v w_1) w)) ∧
 (∃ R_35:VK,(∀ v w w_1,S_31 w w_1 → R_35 v w → R_35 v w_1) ∧
 (∀ w,C_22 w → ∀ v41,R_33 v41 w → (C_22 w ∧ S_31 w w ∧ R_35 v41 w)) ∧
 (∃ R_37:VK,(∀ v w w_1,S_31 w w_1 → R_37 v w → R_37 v w_1) ∧
 (∀ w,C_22 w → ∀ v42,R_35 v42 w → (gF v42 (kL 29 v7) (fun v w_1=>C_22 w_1 ∧ S_31 w w_1 ∧ R_37 v w_1) w)) ∧
 (∃ R_39:VK,(∀ v w w_1,S_31 w w_1 → R_39 v w → R_39 v w_1) ∧
 (∀ w,C_22 w → ∀ v42,R_35 v42 w → (gF v42 (pureM (l_17.getD 1 undef)) (fun v w_1=>C_22 w_1 ∧ S_31 w w_1 ∧ R_39 v w_1) w)) ∧
 (∃ R_41:VK,(∀ v w w_1,S_31 w w_1 → R_41 v w → R_41 v w_1) ∧
 (∀ w,C_22 w → ∀ v42,R_35 v42 w → ∀ v43,R_37 v43 w → ∀ v44,R_39 v44 w → (gF v42 (kI 29 v43 v44) (fun v w_1=>C_22 w_1 ∧ S_31 w w_1 ∧ R_41 v w_1) w)) ∧
 (∃ R_45:VK,(∀ v w w_1,S_31 w w_1 → R_45 v w → R_45 v w_1) ∧
 (∀ w,C_22 w → ∀ v42,R_35 v42 w → ∀ v45,R_41 v45 w → (gF v42 (kL 30 v45) (fun v w_1=>C_22 w_1 ∧ S_31 w w_1 ∧ R_45 v w_1) w)) ∧
 (∃ R_48:VK,(∀ v w w_1,S_31 w w_1 → R_48 v w → R_48 v w_1) ∧
 (∀ w,C_22 w → ∀ v42,R_35 v42 w → ∀ v46,R_45 v46 w → (gF v42 (kN 30 v46) (fun v w_1=>C_22 w_1 ∧ S_31 w w_1 ∧ R_48 v w_1) w)) ∧
 (∃ R_51:VK,(∀ v w w_1,S_31 w w_1 → R_51 v w → R_51 v w_1) ∧
 (∀ w,C_22 w → ∀ v42,R_35 v42 w → (gF v42 (kF 65 1 v10) (fun v w_1=>C_22 w_1 ∧ S_31 w w_1 ∧ R_51 v w_1) w)) ∧
 (∃ R_53:VK,(∀ v w w_1,S_31 w w_1 → R_53 v w → R_53 v w_1) ∧
 (∀ w,C_22 w → ∀ v42,R_35 v42 w → ∀ v48,R_51 v48 w → (gF v42 (kL 63 v48) (fun v w_1=>C_22 w_1 ∧ S_31 w w_1 ∧ R_53 v w_1) w)) ∧
 (∃ R_56:VK,(∀ v w w_1,S_31 w w_1 → R_56 v w → R_56 v w_1) ∧
 (∀ w,C_22 w → ∀ v42,R_35 v42 w → ∀ v49,R_53 v49 w → (gF v42 (kN 63 v49) (fun v w_1=>C_22 w_1 ∧ S_31 w w_1 ∧ R_56 v w_1) w)) ∧
 (∀ w,C_22 w → ∀ v40,R_32 v40 w → ∀ v41,R_33 v41 w → ∀ v42,R_35 v42 w → ∀ v43,R_37 v43 w → ∀ v44,R_39 v44 w → ∀ v45,R_41 v45 w → ∀ v46,R_45 v46 w → ∀ v47,R_48 v47 w → ∀ v48,R_51 v48 w → ∀ v49,R_53 v49 w → ∀ v50,R_56 v50 w → (
 gF v42 (kB .neq 3 4 v47 v50) (fun v51 w=>
 kP v42 (.bool true) v51 (fun v52 w=>
 condM v52
 (kS 4 v8 (.bool false) (fun _ w=>
 ∃ r_72,(do loadVar 4 (← asAddr v8):Sem Value).run prog w = .ok r_72 w ∧ K r_72 w) w)
 (kB .add 3 3 (l_17.getD 1 undef) (.int .i64 1) (fun v53 w=>
 J_15 [(l_17.getD 1 undef),v53] w ∧ m_16 [(l_17.getD 1 undef),v53] w < m_16 l_17 w0_l_17) w)) w) w)))))))))))))))))))))))) w) w) w) w)
 (callM prog 93 #[a1] (fun v55 w=>
 rangeM prog v55 2 w
 (fun vs_75 k_77 w=>(kA 127 (fun v11 w=>
 kS 127 v11 (vs_75.getD 0 undef) (fun _ w=>
 kA 69 (fun v12 w=>
 kS 69 v12 (vs_75.getD 1 undef) (fun _ w=>
 k_77 [v11,v12] w) w) w) w) w))
 (fun vs_75 l_76 u_l_76 kn_78 kr_79 w=>(heldM w (fun C_83 w=>(((true:Bool) = true) ∧ (jL 26 v4 C_83 (fun v58=>
 jL 29 v7 C_83 (fun v59=>
 jF 127 0 (l_76.getD 0 undef) C_83 (fun v60=>
 jL 3 v60 C_83 (fun v61=>
 jI 29 v59 v61 C_83 (fun v62=>
 jL 30 v62 C_83 (fun v63=>
 jF 127 1 (l_76.getD 0 undef) C_83 (fun v64=>
 jL 3 v64 C_83 (fun v65=>
 jI 30 v63 v65 C_83 (fun v66=>
 jL 24 v66 C_83 (fun v67=>
 jF 69 0 (l_76.getD 1 undef) C_83 (fun v68=>
 jL 3 v68 C_83 (fun v69=>
 ∃ S_96:World → WK,∀ w,C_83 w → (
 callM prog 140 #[v58,v67,v69] (fun v70 w=>
 kU v70 (fun v71 w=>
 condM v71
 (kS 4 v8 (.bool false) (fun _ w=>
 kr_79 w) w)
 (kn_78 w)) w) w))))))))))))))))))
 (fun D_80 w=>(kS 4 v8 (.bool true) (fun _ w=>
 w.heap[D_80]? = some (.deferred (some [])) ∧ ∃ r_99,(do loadVar 4 (← asAddr v8):Sem Value).run prog (w.putObj D_80 (.deferred none)) = .ok r_99 (w.putObj D_80 (.deferred none)) ∧ K r_99 (w.putObj D_80 (.deferred none))) w))
 (fun D_80 w=>(w.heap[D_80]? = some (.deferred (some [])) ∧ ∃ r_100,(do loadVar 4 (← asAddr v8):Sem Value).run prog (w.putObj D_80 (.deferred none)) = .ok r_100 (w.putObj D_80 (.deferred none)) ∧ K r_100 (w.putObj D_80 (.deferred none))))) w)) w)) w0_l_17)) w)) w) w) w) w) w) w) w) w) w) w) w) w
theorem sh_91_ok {a0 a1 a2 a3:Value} {K:VK} {w:World} (h:sh_91 a0 a1 a2 a3 K w):callM prog 91 #[a0,a1,a2,a3] K w:=
 callsF_of_code (fun i=>bif Nat.beq i 6 then .free [0,1,2,3,4,5,6,7] [8,9,10,11,12,13,14,15,16,17,18] [19,20] else bif Nat.beq i 12 then .free [0,1,2,3,4,5,6,7,8,9,10,11] [] [12,13] else 0) (fn:=Tryz.f91) (rs:=[.cell 8 4]) Tryz.func91 rfl rfl (by kernel_rfl) (nB rfl) (Eq.mp (by kernel_rfl) h)
def sh_94 (a0 a1 a2 a3 a4:Value) (K:VK) (w:World):Prop:=
 oM prog (.box 26 (.tmp 0)) 0 [a0] (fun v5 w=>
 oM prog (.box 30 (.tmp 0)) 0 [a3] (fun v8 w=>
 oM prog (.box 29 (.tmp 0)) 0 [a4] (fun v9 w=>
 kA 24 (fun v11 w=>
 callM prog 93 #[a1] (fun v15 w=>
 rangeM prog v15 2 w
 (fun vs_6 k_8 w=>(kA 127 (fun v12 w=>
 kS 127 v12 (vs_6.getD 0 undef) (fun _ w=>
 kA 69 (fun v13 w=>
 kS 69 v13 (vs_6.getD 1 undef) (fun _ w=>
 k_8 [v12,v13] w) w) w) w) w))
 (fun vs_6 l_7 u_l_7 kn_9 kr_10 w=>(heldM w (fun C_14 w=>(((true:Bool) = true) ∧ (jL 24 v11 C_14 (fun v18=>
 jL 26 v5 C_14 (fun v19=>
 jL 69 (l_7.getD 1 undef) C_14 (fun v20=>
 jL 30 v8 C_14 (fun v21=>
 jF 127 0 (l_7.getD 0 undef) C_14 (fun v22=>
 jL 3 v22 C_14 (fun v23=>
 jI 30 v21 v23 C_14 (fun v24=>
 jL 24 v24 C_14 (fun v25=>
 jF 127 1 (l_7.getD 0 undef) C_14 (fun v26=>
 jL 3 v26 C_14 (fun v27=>
 jI 24 v25 v27 C_14 (fun v28=>
 jL 3 v28 C_14 (fun v29=>
 jL 29 v9 C_14 (fun v30=>
 jF 127 0 (l_7.getD 0 undef) C_14 (fun v31=>
 jL 3 v31 C_14 (fun v32=>
 jI 29 v30 v32 C_14 (fun v33=>
 jL 30 v33 C_14 (fun v34=>
 jF 127 1 (l_7.getD 0 undef) C_14 (fun v35=>
 jL 3 v35 C_14 (fun v36=>
 jI 30 v34 v36 C_14 (fun v37=>
 jL 24 v37 C_14 (fun v38=>
 ∃ S_36:World → WK,∃ R_37:VK,(∀ v w w_1,S_36 w w_1 → R_37 v w → R_37 v w_1) ∧
 (∀ w,C_14 w → (callM prog 141 #[v19,v20,v29,v38] (fun v w_1=>C_14 w_1 ∧ S_36 w w_1 ∧ R_37 v w_1) w)) ∧
 (∀ w,C_14 w → ∀ v39,R_37 v39 w → (
 oM prog (.call (Go.Call.mk (.builtin .append) #[(.tmp 0),(.tmp 1)] #[24,24])) 24 [v18,v39] (fun v40 w=>
 kS 24 v11 v40 (fun _ w=>
 kn_9 w) w) w))))))))))))))))))))))))))))
 (fun D_11 w=>(heldM w (fun C_40 w=>(((true:Bool) = true) ∧ (pureH a1 C_40 (fun v41=>
 pureH a2 C_40 (fun v44=>
 jL 24 v11 C_40 (fun v47=>
 jF 26 0 v5 C_40 (fun v50=>
 jF 23 1 v50 C_40 (fun v51=>
 jL 3 v51 C_40 (fun v52=>
 ∃ S_47:World → WK,∃ R_48:VK,(∀ v w w_1,S_47 w w_1 → R_48 v w → R_48 v w_1) ∧
 (∀ w,C_40 w → (callM prog 25 #[v41] (fun v w_1=>C_40 w_1 ∧ S_47 w w_1 ∧ R_48 v w_1) w)) ∧
 (∃ R_49:VK,(∀ v w w_1,S_47 w w_1 → R_49 v w → R_49 v w_1) ∧
 (∀ w,C_40 w → ∀ v42,R_48 v42 w → (callM prog 160 #[v42] (fun v w_1=>C_40 w_1 ∧ S_47 w w_1 ∧ R_49 v w_1) w)) ∧
 (∃ R_51:VK,(∀ v w w_1,S_47 w w_1 → R_51 v w → R_51 v w_1) ∧
 (∀ w,C_40 w → (callM prog 160 #[v44] (fun v w_1=>C_40 w_1 ∧ S_47 w w_1 ∧ R_51 v w_1) w)) ∧
 (∃ R_52:VK,(∀ v w w_1,S_47 w w_1 → R_52 v w → R_52 v w_1) ∧
 (∀ w,C_40 w → ∀ v43,R_49 v43 w → ∀ v45,R_51 v45 w → (kB .add 9 9 v43 v45 (fun v w_1=>C_40 w_1 ∧ S_47 w w_1 ∧ R_52 v w_1) w)) ∧
 (∃ R_55:VK,(∀ v w w_1,S_47 w w_1 → R_55 v w → R_55 v w_1) ∧
 (∀ w,C_40 w → (callM prog 114 #[v47] (fun v w_1=>C_40 w_1 ∧ S_47 w w_1 ∧ R_55 v w_1) w)) ∧
 (∃ R_56:VK,(∀ v w w_1,S_47 w w_1 → R_56 v w → R_56 v w_1) ∧
 (∀ w,C_40 w → ∀ v46,R_52 v46 w → ∀ v48,R_55 v48 w → (kB .add 9 9 v46 v48 (fun v w_1=>C_40 w_1 ∧ S_47 w w_1 ∧ R_56 v w_1) w)) ∧
 (∀ w,C_40 w → ∀ v42,R_48 v42 w → ∀ v43,R_49 v43 w → ∀ v45,R_51 v45 w → ∀ v46,R_52 v46 w → ∀ v48,R_55 v48 w → ∀ v49,R_56 v49 w → (
 callM prog 159 #[v49,v52] (fun v53 w=>
 w.heap[D_11]? = some (.deferred (some [])) ∧ K v53 (w.putObj D_11 (.deferred none))) w))))))))))))))))))
 (fun D_11 w=>(w.heap[D_11]? = some (.deferred (some [])) ∧ K (.int .i64 0) (w.putObj D_11 (.deferred none))))) w) w) w) w) w
theorem sh_94_ok {a0 a1 a2 a3 a4:Value} {K:VK} {w:World} (h:sh_94 a0 a1 a2 a3 a4 K w):callM prog 94 #[a0,a1,a2,a3,a4] K w:=
 callsF_of_code (fun i=>bif Nat.beq i 5 then .free [0,1,2,3,4,5,6,7,8,9,10,11,12,13,14,15,16,17,18,19,20] [21] [22,23] else bif Nat.beq i 6 then .free [0,3,6,9,10,11] [1,2,4,5,7,8] [12,13] else 0) (fn:=Tryz.f94) (rs:=[.tmp 10]) Tryz.func94 rfl rfl (by kernel_rfl) (nB rfl) (Eq.mp (by kernel_rfl) h)
def sh_90 (a0 a1 a2:Value) (K:VK) (w:World):Prop:=
 oM prog (.box 26 (.tmp 0)) 0 [a0] (fun v3 w=>
 oM prog (.box 28 (.tmp 0)) 0 [a2] (fun v5 w=>
 kA 4 (fun v6 w=>
 kL 28 v5 (fun v12 w=>
 kN 28 v12 (fun v13 w=>
 kN 27 a1 (fun v15 w=>
 kB .neq 3 4 v13 v15 (fun v16 w=>
 condM v16
 (kS 4 v6 (.bool false) (fun _ w=>
 ∃ r_8,(do loadVar 4 (← asAddr v6):Sem Value).run prog w = .ok r_8 w ∧ K r_8 w) w)
 (kN 27 a1 (fun v18 w=>
 loopM [undef,(.int .i64 0)] w (fun J_10 m_11 l_12 u_l_12 w0_l_12=>(fun w=>(
 kB .lss 3 0 (l_12.getD 1 undef) v18 (fun v20 w=>
 condM v20
 (kI 27 a1 (l_12.getD 1 undef) (fun v22 w=>
 kL 65 v22 (fun v23 w=>
 kA 65 (fun v8 w=>
 kS 65 v8 v23 (fun _ w=>
 heldM w (fun C_17 w=>(((true:Bool) = true) ∧ (jL 28 v5 C_17 (fun v24=>
 pureH (l_12.getD 1 undef) C_17 (fun v25=>
 jI 28 v24 v25 C_17 (fun v26=>
 jL 114 v26 C_17 (fun v27=>
 jN 114 v27 C_17 (fun v28=>
 jF 65 1 v8 C_17 (fun v29=>
 jL 63 v29 C_17 (fun v30=>
 jN 63 v30 C_17 (fun v31=>
 jB .neq 3 4 v28 v31 C_17 (fun v32=>
 ∃ S_27:World → WK,∀ w,C_17 w → (
 condM v32
 (kS 4 v6 (.bool false) (fun _ w=>
 ∃ r_28,(do loadVar 4 (← asAddr v6):Sem Value).run prog w = .ok r_28 w ∧ K r_28 w) w)
 (kB .add 3 3 (l_12.getD 1 undef) (.int .i64 1) (fun v33 w=>
 J_10 [(l_12.getD 1 undef),v33] w ∧ m_11 [(l_12.getD 1 undef),v33] w < m_11 l_12 w0_l_12) w))))))))))))))) w) w) w) w)
 (callM prog 93 #[a1] (fun v35 w=>
 rangeM prog v35 2 w
 (fun vs_31 k_33 w=>(kA 127 (fun v9 w=>
 kS 127 v9 (vs_31.getD 0 undef) (fun _ w=>
 kA 69 (fun v10 w=>
 kS 69 v10 (vs_31.getD 1 undef) (fun _ w=>
 k_33 [v9,v10] w) w) w) w) w))
 (fun vs_31 l_32 u_l_32 kn_34 kr_35 w=>(heldM w (fun C_39 w=>(((true:Bool) = true) ∧ (jL 28 v5 C_39 (fun v38=>
 jF 127 0 (l_32.getD 0 undef) C_39 (fun v39=>
 jL 3 v39 C_39 (fun v40=>
 jI 28 v38 v40 C_39 (fun v41=>
 jL 114 v41 C_39 (fun v42=>
 jF 127 1 (l_32.getD 0 undef) C_39 (fun v43=>
 jL 3 v43 C_39 (fun v44=>
 jI 114 v42 v44 C_39 (fun v45=>
 jL 113 v45 C_39 (fun v46=>
 ∃ S_49:World → WK,∃ R_50:VK,(∀ v w w_1,S_49 w w_1 → R_50 v w → R_50 v w_1) ∧
 (∀ w,C_39 w → (kA 113 (fun v w_1=>C_39 w_1 ∧ S_49 w w_1 ∧ R_50 v w_1) w)) ∧
 (∀ w,C_39 w → ∀ v11,R_50 v11 w → (
 kS 113 v11 v46 (fun _ w=>
 kF 113 0 v11 (fun v47 w=>
 kL 4 v47 (fun v48 w=>
 gT v48 (kL 26 v3) (fun v50 w=>
 gT v48 (kF 113 1 v11) (fun v51 w=>
 gT v48 (kL 24 v51) (fun v52 w=>
 gT v48 (kF 69 0 (l_32.getD 1 undef)) (fun v53 w=>
 gT v48 (kL 3 v53) (fun v54 w=>
 gT v48 (callM prog 140 #[v50,v52,v54]) (fun v55 w=>
 gT v48 (kU v55) (fun v56 w=>
 kP v48 v56 (.bool false) (fun v57 w=>
 condM v57
 (kS 4 v6 (.bool false) (fun _ w=>
 kr_35 w) w)
 (kn_34 w)) w) w) w) w) w) w) w) w) w) w) w))))))))))))))))
 (fun D_36 w=>(kS 4 v6 (.bool true) (fun _ w=>
 w.heap[D_36]? = some (.deferred (some [])) ∧ ∃ r_62,(do loadVar 4 (← asAddr v6):Sem Value).run prog (w.putObj D_36 (.deferred none)) = .ok r_62 (w.putObj D_36 (.deferred none)) ∧ K r_62 (w.putObj D_36 (.deferred none))) w))
 (fun D_36 w=>(w.heap[D_36]? = some (.deferred (some [])) ∧ ∃ r_63,(do loadVar 4 (← asAddr v6):Sem Value).run prog (w.putObj D_36 (.deferred none)) = .ok r_63 (w.putObj D_36 (.deferred none)) ∧ K r_63 (w.putObj D_36 (.deferred none))))) w)) w)) w0_l_12)) w)) w) w) w) w) w) w) w
theorem sh_90_ok {a0 a1 a2:Value} {K:VK} {w:World} (h:sh_90 a0 a1 a2 K w):callM prog 90 #[a0,a1,a2] K w:=
 callsF_of_code (fun i=>bif Nat.beq i 6 then .free [0,1,2,3,4,5,6,7,8] [] [] else bif Nat.beq i 12 then .free [0,1,2,3,4,5,6,7,8] [9] [10] else 0) (fn:=Tryz.f90) (rs:=[.cell 6 4]) Tryz.func90 rfl rfl (by kernel_rfl) (nB rfl) (Eq.mp (by kernel_rfl) h)
def sh_92 (a0 a1 a2:Value) (K:VK) (w:World):Prop:=
 oM prog (.box 26 (.tmp 0)) 0 [a0] (fun v3 w=>
 kN 27 a1 (fun v17 w=>
 oM prog (.makeSlice 120 (.tmp 0) (.tmp 1)) 120 [v17,v17] (fun v18 w=>
 kN 27 a1 (fun v20 w=>
 loopM [undef,undef,undef,undef,(.bool true),(.int .i64 0)] w (fun J_5 m_6 l_7 u_l_7 w0_l_7=>(fun w=>(
 kB .lss 3 0 (l_7.getD 5 undef) v20 (fun v22 w=>
 condM v22
 (kI 27 a1 (l_7.getD 5 undef) (fun v24 w=>
 kL 65 v24 (fun v25 w=>
 kA 65 (fun v11 w=>
 kS 65 v11 v25 (fun _ w=>
 kF 65 0 v11 (fun v26 w=>
 kL 3 v26 (fun v27 w=>
 kF 65 1 v11 (fun v28 w=>
 kL 63 v28 (fun v29 w=>
 kN 63 v29 (fun v30 w=>
 loopM [(l_7.getD 2 undef),(l_7.getD 3 undef),v27,(.int .i64 0)] w (fun J_17 m_18 l_19 u_l_19 w0_l_19=>(fun w=>(
 kB .lss 3 0 (l_19.getD 3 undef) v30 (fun v32 w=>
 condM v32
 (kI 63 v29 (l_19.getD 3 undef) (fun v34 w=>
 kL 69 v34 (fun v35 w=>
 kA 69 (fun v14 w=>
 kS 69 v14 v35 (fun _ w=>
 heldM w (fun C_24 w=>(((true:Bool) = true) ∧ (pureH (l_19.getD 2 undef) C_24 (fun v36=>
 jB .gtr 3 4 v36 (.int .i64 0) C_24 (fun v37=>
 pureH v37 C_24 (fun v38=>
 jT v38 (pureH a2) C_24 (fun v39=>
 jT v38 (pureH (l_7.getD 5 undef)) C_24 (fun v40=>
 jT v38 (jI 28 v39 v40) C_24 (fun v41=>
 jT v38 (jL 114 v41) C_24 (fun v42=>
 jT v38 (pureH (l_19.getD 3 undef)) C_24 (fun v43=>
 jT v38 (jI 114 v42 v43) C_24 (fun v44=>
 jT v38 (jF 113 0 v44) C_24 (fun v45=>
 jT v38 (jL 4 v45) C_24 (fun v46=>
 jP v38 v46 (.bool false) C_24 (fun v47=>
 pureH v47 C_24 (fun v48=>
 jT v48 (jL 26 v3) C_24 (fun v49=>
 jT v48 (jL 69 v14) C_24 (fun v50=>
 jT v48 (pureH a2) C_24 (fun v51=>
 jT v48 (pureH (l_7.getD 5 undef)) C_24 (fun v52=>
 jT v48 (jI 28 v51 v52) C_24 (fun v53=>
 jT v48 (jL 114 v53) C_24 (fun v54=>
 jT v48 (pureH (l_19.getD 3 undef)) C_24 (fun v55=>
 jT v48 (jI 114 v54 v55) C_24 (fun v56=>
 jT v48 (jF 113 1 v56) C_24 (fun v57=>
 jT v48 (jL 24 v57) C_24 (fun v58=>
 ∃ S_48:World → WK,∀ w,C_24 w → (
 gT v48 (callM prog 122 #[v49,v50,v58]) (fun v59 w=>
 kP v48 v59 (.bool false) (fun v60 w=>
 joinM (fun M_51=>(condM v60
 (kB .sub 3 3 (l_19.getD 2 undef) (.int .i64 1) (fun v63 w=>
 M_51 [v63] w) w)
 (M_51 [(l_19.getD 2 undef)] w)))
 (fun l_52 u_l_52 w=>(kI 120 v18 (l_7.getD 5 undef) (fun v68 w=>
 kL 61 v68 (fun v69 w=>
 oM prog (.buildSlice 61 1 #[(0,(.tmp 0))]) 61 [v60] (fun v71 w=>
 oM prog (.call (Go.Call.mk (.builtin .append) #[(.tmp 0),(.tmp 1)] #[61,61])) 61 [v69,v71] (fun v72 w=>
 kI 120 v18 (l_7.getD 5 undef) (fun v73 w=>
 kS 61 v73 v72 (fun _ w=>
 kB .add 3 3 (l_19.getD 3 undef) (.int .i64 1) (fun v74 w=>
 J_17 [(l_19.getD 3 undef),v60,(l_52.getD 0 undef),v74] w ∧ m_18 [(l_19.getD 3 undef),v60,(l_52.getD 0 undef),v74] w < m_18 l_19 w0_l_19) w) w) w) w) w) w) w))) w) w)))))))))))))))))))))))))))) w) w) w) w)
 (gdM (gd (l_7.getD 4 undef) true) (pureM (l_19.getD 2 undef)) (fun v77 w=>
 gdM (gd (l_7.getD 4 undef) true) (kC .eql 3 0 4 v77) (fun v78 w=>
 kP (l_7.getD 4 undef) v78 (.bool false) (fun v79 w=>
 kB .add 3 3 (l_7.getD 5 undef) (.int .i64 1) (fun v80 w=>
 J_5 [(l_7.getD 5 undef),(l_19.getD 2 undef),(l_19.getD 0 undef),(l_19.getD 1 undef),v79,v80] w ∧ m_6 [(l_7.getD 5 undef),(l_19.getD 2 undef),(l_19.getD 0 undef),(l_19.getD 1 undef),v79,v80] w < m_6 l_7 w0_l_7) w) w) w) w)) w)) w0_l_19)) w) w) w) w) w) w) w) w) w)
 (K (.tuple #[v18,(l_7.getD 4 undef)]) w)) w)) w0_l_7)) w) w) w) w
theorem sh_92_ok {a0 a1 a2:Value} {K:VK} {w:World} (h:sh_92 a0 a1 a2 K w):callM prog 92 #[a0,a1,a2] K w:=
 calls_of_code (fun _=>.free [0,1,2,3,4,5,6,7,8,9,10,11,12,13,14,15,16,17,18,19,20,21,22] [] [23,24,25]) (fn:=Tryz.f92) (rs:=[.tmp 6,.tmp 7]) Tryz.func92 rfl rfl (by kernel_rfl) (nB rfl) (Eq.mp (by kernel_rfl) h)
def sh_97 (a0 a1 a2 a3:Value) (K:VK) (w:World):Prop:=
 callM prog 96 #[a1] (fun v13 w=>
 kN 24 a3 (fun v15 w=>
 loopM [undef,undef,(.int .i64 0)] w (fun J_3 m_4 l_5 u_l_5 w0_l_5=>(fun w=>(
 kB .lss 3 0 (l_5.getD 2 undef) v15 (fun v17 w=>
 condM v17
 (kI 24 a3 (l_5.getD 2 undef) (fun v19 w=>
 kL 3 v19 (fun v20 w=>
 heldM w (fun C_9 w=>(((true:Bool) = true) ∧ (pureH v13 C_9 (fun v21=>
 pureH (l_5.getD 2 undef) C_9 (fun v22=>
 pureH a0 C_9 (fun v23=>
 pureH v13 C_9 (fun v24=>
 pureH (l_5.getD 2 undef) C_9 (fun v25=>
 jI 24 v24 v25 C_9 (fun v26=>
 jL 3 v26 C_9 (fun v27=>
 pureH a0 C_9 (fun v28=>
 pureH a2 C_9 (fun v29=>
 pureH v20 C_9 (fun v30=>
 ∃ S_20:World → WK,∃ R_21:VK,(∀ v w w_1,S_20 w w_1 → R_21 v w → R_21 v w_1) ∧
 (∀ w,C_9 w → (callM prog 43 #[v28,v29,v30] (fun v w_1=>C_9 w_1 ∧ S_20 w w_1 ∧ R_21 v w_1) w)) ∧
 (∃ R_22:VK,(∀ v w w_1,S_20 w w_1 → R_22 v w → R_22 v w_1) ∧
 (∀ w,C_9 w → ∀ v31,R_21 v31 w → (callM prog 42 #[v23,v27,v31] (fun v w_1=>C_9 w_1 ∧ S_20 w w_1 ∧ R_22 v w_1) w)) ∧
 (∀ w,C_9 w → ∀ v31,R_21 v31 w → ∀ v32,R_22 v32 w → (
 kI 24 v21 v22 (fun v33 w=>
 kS 3 v33 v32 (fun _ w=>
 kB .add 3 3 (l_5.getD 2 undef) (.int .i64 1) (fun v34 w=>
 J_3 [(l_5.getD 2 undef),v20,v34] w ∧ m_4 [(l_5.getD 2 undef),v20,v34] w < m_4 l_5 w0_l_5) w) w) w))))))))))))))))) w) w)
 (K v13 w)) w)) w0_l_5)) w) w
theorem sh_97_ok {a0 a1 a2 a3:Value} {K:VK} {w:World} (h:sh_97 a0 a1 a2 a3 K w):callM prog 97 #[a0,a1,a2,a3] K w:=
 calls_of_code (fun _=>.free [0,1,2,3,4,5,6,7,8,9] [10,11] [12,13]) (fn:=Tryz.f97) (rs:=[.tmp 8]) Tryz.func97 rfl rfl (by kernel_rfl) (nB rfl) (Eq.mp (by kernel_rfl) h)
def sh_30 (a0 a1 a2 a3:Value) (K:VK) (w:World):Prop:=
 oM prog (.box 26 (.tmp 0)) 0 [a0] (fun v4 w=>
 oM prog (.box 34 (.tmp 0)) 0 [a3] (fun v7 w=>
 kL 26 v4 (fun v15 w=>
 callM prog 23 #[v15,a1] (fun v17 w=>
 kU v17 (fun v18 w=>
 gF v18 (kL 26 v4) (fun v20 w=>
 gF v18 (pureM a1) (fun v21 w=>
 gF v18 (kF 34 0 v7) (fun v22 w=>
 gF v18 (kL 30 v22) (fun v23 w=>
 gF v18 (kF 34 1 v7) (fun v24 w=>
 gF v18 (kL 29 v24) (fun v25 w=>
 gF v18 (callM prog 91 #[v20,v21,v23,v25]) (fun v26 w=>
 gF v18 (kU v26) (fun v27 w=>
 kP v18 (.bool true) v27 (fun v28 w=>
 condM v28
 (K (.bool false) w)
 (kL 26 v4 (fun v29 w=>
 kF 34 0 v7 (fun v32 w=>
 kL 30 v32 (fun v33 w=>
 kF 34 1 v7 (fun v34 w=>
 kL 29 v34 (fun v35 w=>
 callM prog 94 #[v29,a1,a2,v33,v35] (fun v36 w=>
 kN 27 a1 (fun v38 w=>
 loopM [undef,undef,undef,undef,(.bool false),(.int .i64 0)] w (fun J_22 m_23 l_24 u_l_24 w0_l_24=>(fun w=>(
 kB .lss 3 0 (l_24.getD 5 undef) v38 (fun v40 w=>
 condM v40
 (kI 27 a1 (l_24.getD 5 undef) (fun v42 w=>
 kL 65 v42 (fun v43 w=>
 kA 65 (fun v11 w=>
 kS 65 v11 v43 (fun _ w=>
 kF 65 1 v11 (fun v44 w=>
 kL 63 v44 (fun v45 w=>
 kN 63 v45 (fun v46 w=>
 oM prog (.makeSlice 61 (.tmp 0) (.tmp 1)) 61 [v46,v46] (fun v48 w=>
 kF 65 0 v11 (fun v49 w=>
 kL 3 v49 (fun v50 w=>
 loopM [(l_24.getD 3 undef),(.int .i64 0)] w (fun J_35 m_36 l_37 u_l_37 w0_l_37=>(fun w=>(
 kB .lss 3 4 (l_37.getD 1 undef) v50 (fun v52 w=>
 condM v52
 (kB .sub 3 3 v46 (.int .i64 1) (fun v56 w=>
 kB .sub 3 3 v56 (l_37.getD 1 undef) (fun v58 w=>
 kI 61 v48 v58 (fun v59 w=>
 kS 4 v59 (.bool true) (fun _ w=>
 kB .add 3 3 (l_37.getD 1 undef) (.int .i64 1) (fun v60 w=>
 J_35 [(l_37.getD 1 undef),v60] w ∧ m_36 [(l_37.getD 1 undef),v60] w < m_36 l_37 w0_l_37) w) w) w) w) w)
 (heldM w (fun C_43 w=>(((true:Bool) = true) ∧ (jL 26 v4 C_43 (fun v61=>
 pureH v48 C_43 (fun v62=>
 jF 34 0 v7 C_43 (fun v63=>
 jL 30 v63 C_43 (fun v64=>
 pureH (l_24.getD 5 undef) C_43 (fun v65=>
 jI 30 v64 v65 C_43 (fun v66=>
 jL 24 v66 C_43 (fun v67=>
 pureH v36 C_43 (fun v68=>
 jF 34 0 v7 C_43 (fun v70=>
 jL 30 v70 C_43 (fun v71=>
 pureH (l_24.getD 5 undef) C_43 (fun v72=>
 jI 30 v71 v72 C_43 (fun v73=>
 jL 24 v73 C_43 (fun v74=>
 ∃ S_57:World → WK,∃ R_58:VK,(∀ v w w_1,S_57 w w_1 → R_58 v w → R_58 v w_1) ∧
 (∀ w,C_43 w → (callM prog 95 #[v61,v62,v67,v68] (fun v w_1=>C_43 w_1 ∧ S_57 w w_1 ∧ R_58 v w_1) w)) ∧
 (∀ w,C_43 w → ∀ v69,R_58 v69 w → (
 callM prog 117 #[v69,v74] (fun v75 w=>
 kU v75 (fun v76 w=>
 condM v76
 (K (.bool false) w)
 (kB .add 3 3 (l_24.getD 5 undef) (.int .i64 1) (fun v77 w=>
 J_22 [(l_24.getD 5 undef),v46,v48,(l_37.getD 0 undef),(l_24.getD 4 undef),v77] w ∧ m_23 [(l_24.getD 5 undef),v46,v48,(l_37.getD 0 undef),(l_24.getD 4 undef),v77] w < m_23 l_24 w0_l_24) w)) w) w)))))))))))))))))))) w)) w0_l_37)) w) w) w) w) w) w) w) w) w) w)
 (K (.bool true) w)) w)) w0_l_24)) w) w) w) w) w) w) w)) w) w) w) w) w) w) w) w) w) w) w) w) w) w
theorem sh_30_ok {a0 a1 a2 a3:Value} {K:VK} {w:World} (h:sh_30 a0 a1 a2 a3 K w):callM prog 30 #[a0,a1,a2,a3] K w:=
 calls_of_code (fun _=>.free [0,1,2,3,4,5,6,7,9,10,11,12,13] [8] [14,15]) (fn:=Tryz.f30) (rs:=[.tmp 8]) Tryz.func30 rfl rfl (by kernel_rfl) (nB rfl) (Eq.mp (by kernel_rfl) h)
def sh_141 (a0 a1 a2 a3:Value) (K:VK) (w:World):Prop:=
 oM prog (.box 26 (.tmp 0)) 0 [a0] (fun v4 w=>
 oM prog (.box 69 (.tmp 0)) 0 [a1] (fun v5 w=>
 kF 69 1 v5 (fun v12 w=>
 kL 67 v12 (fun v13 w=>
 kN 67 v13 (fun v14 w=>
 loopM [(.slice none 0 0),(.int .i64 0)] w (fun J_6 m_7 l_8 u_l_8 w0_l_8=>(fun w=>(
 kB .lss 3 0 (l_8.getD 1 undef) v14 (fun v16 w=>
 condM v16
 (kI 67 v13 (l_8.getD 1 undef) (fun v17 w=>
 kL 144 v17 (fun v18 w=>
 kA 144 (fun v11 w=>
 kS 144 v11 v18 (fun _ w=>
 heldM w (fun C_13 w=>(((true:Bool) = true) ∧ (pureH (l_8.getD 0 undef) C_13 (fun v19=>
 jF 26 0 v4 C_13 (fun v20=>
 jL 23 v20 C_13 (fun v21=>
 jL 26 v4 C_13 (fun v22=>
 jL 144 v11 C_13 (fun v23=>
 pureH a3 C_13 (fun v24=>
 jF 26 0 v4 C_13 (fun v26=>
 jL 23 v26 C_13 (fun v27=>
 jF 144 0 v11 C_13 (fun v28=>
 jL 3 v28 C_13 (fun v29=>
 pureH a2 C_13 (fun v30=>
 ∃ S_25:World → WK,∃ R_26:VK,(∀ v w w_1,S_25 w w_1 → R_26 v w → R_26 v w_1) ∧
 (∀ w,C_13 w → (callM prog 181 #[v22,v23,v24] (fun v w_1=>C_13 w_1 ∧ S_25 w w_1 ∧ R_26 v w_1) w)) ∧
 (∃ R_27:VK,(∀ v w w_1,S_25 w w_1 → R_27 v w → R_27 v w_1) ∧
 (∀ w,C_13 w → (callM prog 46 #[v27,v29,v30] (fun v w_1=>C_13 w_1 ∧ S_25 w w_1 ∧ R_27 v w_1) w)) ∧
 (∃ R_28:VK,(∀ v w w_1,S_25 w w_1 → R_28 v w → R_28 v w_1) ∧
 (∀ w,C_13 w → ∀ v25,R_26 v25 w → ∀ v31,R_27 v31 w → (callM prog 121 #[v21,v25,v31] (fun v w_1=>C_13 w_1 ∧ S_25 w w_1 ∧ R_28 v w_1) w)) ∧
 (∃ R_31:VK,(∀ v w w_1,S_25 w w_1 → R_31 v w → R_31 v w_1) ∧
 (∀ w,C_13 w → ∀ v32,R_28 v32 w → (oM prog (.buildSlice 24 1 #[(0,(.tmp 0))]) 24 [v32] (fun v w_1=>C_13 w_1 ∧ S_25 w w_1 ∧ R_31 v w_1) w)) ∧
 (∀ w,C_13 w → ∀ v25,R_26 v25 w → ∀ v31,R_27 v31 w → ∀ v32,R_28 v32 w → ∀ v33,R_31 v33 w → (
 oM prog (.call (Go.Call.mk (.builtin .append) #[(.tmp 0),(.tmp 1)] #[24,24])) 24 [v19,v33] (fun v34 w=>
 kB .add 3 3 (l_8.getD 1 undef) (.int .i64 1) (fun v35 w=>
 J_6 [v34,v35] w ∧ m_7 [v34,v35] w < m_7 l_8 w0_l_8) w) w)))))))))))))))))))) w) w) w) w)
 (K (l_8.getD 0 undef) w)) w)) w0_l_8)) w) w) w) w) w
theorem sh_141_ok {a0 a1 a2 a3:Value} {K:VK} {w:World} (h:sh_141 a0 a1 a2 a3 K w):callM prog 141 #[a0,a1,a2,a3] K w:=
 calls_of_code (fun _=>.free [0,1,2,3,4,5,7,8,9,10,11] [6,12,13,14] [15,16]) (fn:=Tryz.f141) (rs:=[.tmp 8]) Tryz.func141 rfl rfl (by kernel_rfl) (nB rfl) (Eq.mp (by kernel_rfl) h)
def sh_93 (a0:Value) (K:VK) (w:World):Prop:=
 oM prog (.box 27 (.tmp 0)) 0 [a0] (fun v1 w=>
 oM prog (.makeFunc (Go.Fn.func 158) #[] #[(.tmp 0)]) 123 [v1] (fun v3 w=>
 K v3 w) w) w
theorem sh_93_ok {a0:Value} {K:VK} {w:World} (h:sh_93 a0 K w):callM prog 93 #[a0] K w:=
 calls_of_code (fun _=>0) (fn:=Tryz.f93) (rs:=[.tmp 2]) Tryz.func93 rfl rfl (by kernel_rfl) (nB rfl) (Eq.mp (by kernel_rfl) h)
def sh_158 (a0 a1:Value) (K:VK) (w:World):Prop:=
 kL 27 a1 (fun v7 w=>
 kN 27 v7 (fun v8 w=>
 loopM [undef,undef,(.int .i64 0)] w (fun J_3 m_4 l_5 u_l_5 w0_l_5=>(fun w=>(
 kB .lss 3 0 (l_5.getD 2 undef) v8 (fun v10 w=>
 condM v10
 (kI 27 v7 (l_5.getD 2 undef) (fun v12 w=>
 kL 65 v12 (fun v13 w=>
 kA 65 (fun v4 w=>
 kS 65 v4 v13 (fun _ w=>
 kF 65 1 v4 (fun v14 w=>
 kL 63 v14 (fun v15 w=>
 kN 63 v15 (fun v16 w=>
 loopM [(l_5.getD 1 undef),(.int .i64 0)] w (fun J_13 m_14 l_15 u_l_15 w0_l_15=>(fun w=>(
 kB .lss 3 0 (l_15.getD 1 undef) v16 (fun v18 w=>
 condM v18
 (kI 63 v15 (l_15.getD 1 undef) (fun v20 w=>
 kL 69 v20 (fun v21 w=>
 kA 69 (fun v6 w=>
 kS 69 v6 v21 (fun _ w=>
 oM prog (.build 127 #[(0,(.tmp 0)),(1,(.tmp 1))]) 127 [(l_5.getD 2 undef),(l_15.getD 1 undef)] (fun v25 w=>
 kL 69 v6 (fun v26 w=>
 yieldM prog a0 [v25,v26] (fun v27 w=>
 kU v27 (fun v28 w=>
 condM v28
 (K (.tuple #[]) w)
 (kB .add 3 3 (l_15.getD 1 undef) (.int .i64 1) (fun v29 w=>
 J_13 [(l_15.getD 1 undef),v29] w ∧ m_14 [(l_15.getD 1 undef),v29] w < m_14 l_15 w0_l_15) w)) w) w) w) w) w) w) w) w)
 (kB .add 3 3 (l_5.getD 2 undef) (.int .i64 1) (fun v30 w=>
 J_3 [(l_5.getD 2 undef),(l_15.getD 0 undef),v30] w ∧ m_4 [(l_5.getD 2 undef),(l_15.getD 0 undef),v30] w < m_4 l_5 w0_l_5) w)) w)) w0_l_15)) w) w) w) w) w) w) w)
 (K (.tuple #[]) w)) w)) w0_l_5)) w) w
theorem sh_158_eq (a0 a1:Value) (K:VK) (w:World):sh_158 a0 a1 K w = codeY prog 31 (Tryz.f158.body.getD .skip) (slotsAt [a0,a1]) (retK prog [] K) w:=by kernel_rfl
theorem sh_158_ok {m:Nat} {a0 a1:Value} {K:VK} {w:World} (h:sh_158 a0 a1 K w):CallsIn Fence.wide (9 + m) prog 158 #[a0,a1] w (fun e w=>∃ v,e = .returned v ∧ K v w):=
 callsY_of_code (fn:=Tryz.f158) (rs:=[]) Tryz.func158 rfl rfl (by kernel_rfl) (nB rfl) ((sh_158_eq a0 a1 K w).mp h)
def sh_198 (a0:Value) (K:VK) (w:World):Prop:=
 oM prog (.box 24 (.tmp 0)) 0 [a0] (fun v1 w=>
 oM prog (.makeFunc (Go.Fn.func 216) #[] #[(.tmp 0)]) 204 [v1] (fun v3 w=>
 K v3 w) w) w
theorem sh_198_ok {a0:Value} {K:VK} {w:World} (h:sh_198 a0 K w):callM prog 198 #[a0] K w:=
 calls_of_code (fun _=>0) (fn:=Tryz.f198) (rs:=[.tmp 2]) Tryz.func198 rfl rfl (by kernel_rfl) (nB rfl) (Eq.mp (by kernel_rfl) h)
def sh_216 (a0 a1:Value) (K:VK) (w:World):Prop:=
 kL 24 a1 (fun v4 w=>
 kN 24 v4 (fun v5 w=>
 kB .sub 3 3 v5 (.int .i64 1) (fun v6 w=>
 loopM [v6] w (fun J_4 m_5 l_6 u_l_6 w0_l_6=>(fun w=>(
 kB .geq 3 4 (l_6.getD 0 undef) (.int .i64 0) (fun v8 w=>
 condM v8
 (kL 24 a1 (fun v13 w=>
 kI 24 v13 (l_6.getD 0 undef) (fun v15 w=>
 kL 3 v15 (fun v16 w=>
 yieldM prog a0 [(l_6.getD 0 undef),v16] (fun v17 w=>
 kU v17 (fun v18 w=>
 condM v18
 (K (.tuple #[]) w)
 (kB .sub 3 3 (l_6.getD 0 undef) (.int .i64 1) (fun v10 w=>
 J_4 [v10] w ∧ m_5 [v10] w < m_5 l_6 w0_l_6) w)) w) w) w) w) w)
 (K (.tuple #[]) w)) w)) w0_l_6)) w) w) w
theorem sh_216_eq (a0 a1:Value) (K:VK) (w:World):sh_216 a0 a1 K w = codeY prog 19 (Tryz.f216.body.getD .skip) (slotsAt [a0,a1]) (retK prog [] K) w:=by kernel_rfl
theorem sh_216_ok {m:Nat} {a0 a1:Value} {K:VK} {w:World} (h:sh_216 a0 a1 K w):CallsIn Fence.wide (9 + m) prog 216 #[a0,a1] w (fun e w=>∃ v,e = .returned v ∧ K v w):=
 callsY_of_code (fn:=Tryz.f216) (rs:=[]) Tryz.func216 rfl rfl (by kernel_rfl) (nB rfl) ((sh_216_eq a0 a1 K w).mp h)
def sh_162 (a0 a1 a2:Value) (K:VK) (w:World):Prop:=
 oM prog (.box 3 (.tmp 0)) 0 [a0] (fun v3 w=>
 oM prog (.box 3 (.tmp 0)) 0 [a2] (fun v5 w=>
 kA 3 (fun v7 w=>
 kS 3 v7 (.int .i64 0) (fun _ w=>
 callM prog 198 #[a1] (fun v11 w=>
 rangeM prog v11 2 w
 (fun vs_5 k_7 w=>(k_7 [(vs_5.getD 1 undef)] w))
 (fun vs_5 l_6 u_l_6 kn_8 kr_9 w=>(heldM w (fun C_11 w=>(((true:Bool) = true) ∧ (jL 3 v3 C_11 (fun v14=>
 jL 3 v3 C_11 (fun v15=>
 jL 3 v7 C_11 (fun v16=>
 jL 3 v5 C_11 (fun v17=>
 pureH (l_6.getD 0 undef) C_11 (fun v19=>
 ∃ S_17:World → WK,∃ R_18:VK,(∀ v w w_1,S_17 w w_1 → R_18 v w → R_18 v w_1) ∧
 (∀ w,C_11 w → (callM prog 43 #[v15,v16,v17] (fun v w_1=>C_11 w_1 ∧ S_17 w w_1 ∧ R_18 v w_1) w)) ∧
 (∀ w,C_11 w → ∀ v18,R_18 v18 w → (
 callM prog 42 #[v14,v18,v19] (fun v20 w=>
 kS 3 v7 v20 (fun _ w=>
 kn_8 w) w) w))))))))))))
 (fun D_10 w=>(kL 3 v7 (fun v21 w=>
 w.heap[D_10]? = some (.deferred (some [])) ∧ K v21 (w.putObj D_10 (.deferred none))) w))
 (fun D_10 w=>(w.heap[D_10]? = some (.deferred (some [])) ∧ K (.int .i64 0) (w.putObj D_10 (.deferred none))))) w) w) w) w) w
theorem sh_162_ok {a0 a1 a2:Value} {K:VK} {w:World} (h:sh_162 a0 a1 a2 K w):callM prog 162 #[a0,a1,a2] K w:=
 callsF_of_code (fun _=>.free [0,1,2,3,5] [4] [6,7]) (fn:=Tryz.f162) (rs:=[.tmp 6]) Tryz.func162 rfl rfl (by kernel_rfl) (nB rfl) (Eq.mp (by kernel_rfl) h)
def sh_161 (a0 a1 a2:Value) (K:VK) (w:World):Prop:=
 callM prog 197 #[a0,a1] (fun v20 w=>
 kU v20 (fun v21 w=>
 gF v21 (pureM a1) (fun v23 w=>
 gF v21 (kN 24 v23) (fun v24 w=>
 gF v21 (pureM a2) (fun v25 w=>
 gF v21 (kN 24 v25) (fun v26 w=>
 gF v21 (kB .neq 3 4 v24 v26) (fun v27 w=>
 kP v21 (.bool true) v27 (fun v28 w=>
 condM v28
 (K (.tuple #[(.slice none 0 0),(.bool false)]) w)
 (kN 24 a2 (fun v30 w=>
 loopM [undef,(.slice none 0 0),(.int .i64 0)] w (fun J_10 m_11 l_12 u_l_12 w0_l_12=>(fun w=>(
 kB .lss 3 0 (l_12.getD 2 undef) v30 (fun v32 w=>
 condM v32
 (kI 24 a2 (l_12.getD 2 undef) (fun v33 w=>
 kL 3 v33 (fun v34 w=>
 callM prog 124 #[a0,v34] (fun v38 w=>
 oM prog (.convert 150 3 (.tmp 0)) 3 [v38] (fun v39 w=>
 oM prog (.buildSlice 24 1 #[(0,(.tmp 0))]) 24 [v39] (fun v40 w=>
 oM prog (.call (Go.Call.mk (.builtin .append) #[(.tmp 0),(.tmp 1)] #[24,24])) 24 [(l_12.getD 1 undef),v40] (fun v41 w=>
 kB .add 3 3 (l_12.getD 2 undef) (.int .i64 1) (fun v42 w=>
 J_10 [v34,v41,v42] w ∧ m_11 [v34,v41,v42] w < m_11 l_12 w0_l_12) w) w) w) w) w) w) w)
 (loopM [undef,undef,undef,(.int .i64 1)] w (fun J_21 m_22 l_23 u_l_23 w0_l_23=>(fun w=>(
 kN 24 a1 (fun v45 w=>
 kB .lss 3 4 (l_23.getD 3 undef) v45 (fun v46 w=>
 condM v46
 (kN 24 a1 (fun v50 w=>
 kB .sub 3 3 v50 (.int .i64 1) (fun v51 w=>
 loopM [(l_23.getD 1 undef),(l_23.getD 2 undef),v51] w (fun J_28 m_29 l_30 u_l_30 w0_l_30=>(fun w=>(
 kB .geq 3 4 (l_30.getD 2 undef) (l_23.getD 3 undef) (fun v54 w=>
 condM v54
 (heldM w (fun C_32 w=>(((true:Bool) = true) ∧ (pureH a0 C_32 (fun v58=>
 pureH a0 C_32 (fun v59=>
 pureH a1 C_32 (fun v60=>
 pureH (l_30.getD 2 undef) C_32 (fun v61=>
 jI 24 v60 v61 C_32 (fun v62=>
 jL 3 v62 C_32 (fun v63=>
 pureH a1 C_32 (fun v64=>
 pureH (l_30.getD 2 undef) C_32 (fun v65=>
 pureH (l_23.getD 3 undef) C_32 (fun v66=>
 jB .sub 3 3 v65 v66 C_32 (fun v67=>
 jI 24 v64 v67 C_32 (fun v68=>
 jL 3 v68 C_32 (fun v69=>
 ∃ S_45:World → WK,∃ R_46:VK,(∀ v w w_1,S_45 w w_1 → R_46 v w → R_46 v w_1) ∧
 (∀ w,C_32 w → (callM prog 48 #[v59,v63,v69] (fun v w_1=>C_32 w_1 ∧ S_45 w w_1 ∧ R_46 v w_1) w)) ∧
 (∃ R_47:VK,(∀ v w w_1,S_45 w w_1 → R_47 v w → R_47 v w_1) ∧
 (∀ w,C_32 w → ∀ v70,R_46 v70 w → (callM prog 143 #[v58,v70] (fun v w_1=>C_32 w_1 ∧ S_45 w w_1 ∧ R_47 v w_1) w)) ∧
 (∃ R_49:VK,(∀ v w w_1,S_45 w w_1 → R_49 v w → R_49 v w_1) ∧
 (∀ w,C_32 w → ∀ v71,R_47 v71 w → (C_32 w ∧ S_45 w w ∧ R_49 v71 w)) ∧
 (∃ R_51:VK,(∀ v w w_1,S_45 w w_1 → R_51 v w → R_51 v w_1) ∧
 (∀ w,C_32 w → ∀ v57,R_49 v57 w → (kE 0 3 v57 (fun v w_1=>C_32 w_1 ∧ S_45 w w_1 ∧ R_51 v w_1) w)) ∧
 (∃ R_53:VK,(∀ v w w_1,S_45 w w_1 → R_53 v w → R_53 v w_1) ∧
 (∀ w,C_32 w → ∀ v57,R_49 v57 w → (kE 1 4 v57 (fun v w_1=>C_32 w_1 ∧ S_45 w w_1 ∧ R_53 v w_1) w)) ∧
 (∃ R_55:VK,(∀ v w w_1,S_45 w w_1 → R_55 v w → R_55 v w_1) ∧
 (∀ w,C_32 w → ∀ v72,R_51 v72 w → (C_32 w ∧ S_45 w w ∧ R_55 v72 w)) ∧
 (∀ w,C_32 w → ∀ v70,R_46 v70 w → ∀ v71,R_47 v71 w → ∀ v57,R_49 v57 w → ∀ v72,R_51 v72 w → ∀ v73,R_53 v73 w → ∀ v13,R_55 v13 w → (
 heldM w (fun C_63 w=>(((true:Bool) = true) ∧ (pureH (l_12.getD 1 undef) C_63 (fun v74=>
 pureH (l_30.getD 2 undef) C_63 (fun v75=>
 pureH a0 C_63 (fun v76=>
 pureH a0 C_63 (fun v77=>
 pureH (l_12.getD 1 undef) C_63 (fun v78=>
 pureH (l_30.getD 2 undef) C_63 (fun v79=>
 jI 24 v78 v79 C_63 (fun v80=>
 jL 3 v80 C_63 (fun v81=>
 pureH (l_12.getD 1 undef) C_63 (fun v82=>
 pureH (l_30.getD 2 undef) C_63 (fun v83=>
 jB .sub 3 3 v83 (.int .i64 1) C_63 (fun v84=>
 jI 24 v82 v84 C_63 (fun v85=>
 jL 3 v85 C_63 (fun v86=>
 pureH v13 C_63 (fun v88=>
 ∃ S_78:World → WK,∃ R_79:VK,(∀ v w w_1,S_78 w w_1 → R_79 v w → R_79 v w_1) ∧
 (∀ w,C_63 w → (callM prog 48 #[v77,v81,v86] (fun v w_1=>C_63 w_1 ∧ S_78 w w_1 ∧ R_79 v w_1) w)) ∧
 (∃ R_80:VK,(∀ v w w_1,S_78 w w_1 → R_80 v w → R_80 v w_1) ∧
 (∀ w,C_63 w → ∀ v87,R_79 v87 w → (callM prog 43 #[v76,v87,v88] (fun v w_1=>C_63 w_1 ∧ S_78 w w_1 ∧ R_80 v w_1) w)) ∧
 (∀ w,C_63 w → ∀ v87,R_79 v87 w → ∀ v89,R_80 v89 w → (
 kI 24 v74 v75 (fun v90 w=>
 kS 3 v90 v89 (fun _ w=>
 kB .sub 3 3 (l_30.getD 2 undef) (.int .i64 1) (fun v56 w=>
 J_28 [v13,v73,v56] w ∧ m_29 [v13,v73,v56] w < m_29 l_30 w0_l_30) w) w) w)))))))))))))))))))))))))))))))))))))))))))
 (kB .add 3 3 (l_23.getD 3 undef) (.int .i64 1) (fun v48 w=>
 J_21 [(l_30.getD 2 undef),(l_30.getD 0 undef),(l_30.getD 1 undef),v48] w ∧ m_22 [(l_30.getD 2 undef),(l_30.getD 0 undef),(l_30.getD 1 undef),v48] w < m_22 l_23 w0_l_23) w)) w)) w0_l_30)) w) w)
 (kN 24 a1 (fun v92 w=>
 oM prog (.makeSlice 24 (.tmp 0) (.tmp 1)) 24 [v92,v92] (fun v93 w=>
 kN 24 a1 (fun v95 w=>
 kB .sub 3 3 v95 (.int .i64 1) (fun v96 w=>
 loopM [undef,v96] w (fun J_91 m_92 l_93 u_l_93 w0_l_93=>(fun w=>(
 kB .geq 3 4 (l_93.getD 1 undef) (.int .i64 0) (fun v98 w=>
 condM v98
 (kN 24 v93 (fun v102 w=>
 kB .sub 3 3 v102 (.int .i64 1) (fun v103 w=>
 loopM [v103] w (fun J_97 m_98 l_99 u_l_99 w0_l_99=>(fun w=>(
 kB .geq 3 4 (l_99.getD 0 undef) (.int .i64 0) (fun v105 w=>
 condM v105
 (joinM (fun M_101=>(heldM w (fun C_103 w=>(((true:Bool) = true) ∧ (pureH v93 C_103 (fun v108=>
 pureH (l_99.getD 0 undef) C_103 (fun v109=>
 pureH a0 C_103 (fun v110=>
 pureH a0 C_103 (fun v111=>
 pureH v93 C_103 (fun v112=>
 pureH (l_99.getD 0 undef) C_103 (fun v113=>
 jI 24 v112 v113 C_103 (fun v114=>
 jL 3 v114 C_103 (fun v115=>
 pureH a1 C_103 (fun v116=>
 pureH (l_93.getD 1 undef) C_103 (fun v117=>
 jI 24 v116 v117 C_103 (fun v118=>
 jL 3 v118 C_103 (fun v119=>
 ∃ S_116:World → WK,∃ R_117:VK,(∀ v w w_1,S_116 w w_1 → R_117 v w → R_117 v w_1) ∧
 (∀ w,C_103 w → (callM prog 43 #[v111,v115,v119] (fun v w_1=>C_103 w_1 ∧ S_116 w w_1 ∧ R_117 v w_1) w)) ∧
 (∃ R_118:VK,(∀ v w w_1,S_116 w w_1 → R_118 v w → R_118 v w_1) ∧
 (∀ w,C_103 w → ∀ v120,R_117 v120 w → (callM prog 48 #[v110,(.int .i64 0),v120] (fun v w_1=>C_103 w_1 ∧ S_116 w w_1 ∧ R_118 v w_1) w)) ∧
 (∀ w,C_103 w → ∀ v120,R_117 v120 w → ∀ v121,R_118 v121 w → (
 kI 24 v108 v109 (fun v122 w=>
 kS 3 v122 v121 (fun _ w=>
 kB .gtr 3 4 (l_99.getD 0 undef) (.int .i64 0) (fun v124 w=>
 condM v124
 (heldM w (fun C_124 w=>(((true:Bool) = true) ∧ (pureH v93 C_124 (fun v125=>
 pureH (l_99.getD 0 undef) C_124 (fun v126=>
 pureH a0 C_124 (fun v127=>
 pureH v93 C_124 (fun v128=>
 pureH (l_99.getD 0 undef) C_124 (fun v129=>
 jI 24 v128 v129 C_124 (fun v130=>
 jL 3 v130 C_124 (fun v131=>
 pureH v93 C_124 (fun v132=>
 pureH (l_99.getD 0 undef) C_124 (fun v133=>
 jB .sub 3 3 v133 (.int .i64 1) C_124 (fun v134=>
 jI 24 v132 v134 C_124 (fun v135=>
 jL 3 v135 C_124 (fun v136=>
 ∃ S_137:World → WK,∃ R_138:VK,(∀ v w w_1,S_137 w w_1 → R_138 v w → R_138 v w_1) ∧
 (∀ w,C_124 w → (callM prog 42 #[v127,v131,v136] (fun v w_1=>C_124 w_1 ∧ S_137 w w_1 ∧ R_138 v w_1) w)) ∧
 (∀ w,C_124 w → ∀ v137,R_138 v137 w → (
 kI 24 v125 v126 (fun v138 w=>
 kS 3 v138 v137 (fun _ w=>
 M_101 [] w) w) w))))))))))))))))))
 (M_101 [] w)) w) w) w))))))))))))))))))))
 (fun l_102 u_l_102 w=>(kB .sub 3 3 (l_99.getD 0 undef) (.int .i64 1) (fun v107 w=>
 J_97 [v107] w ∧ m_98 [v107] w < m_98 l_99 w0_l_99) w)))
 (heldM w (fun C_142 w=>(((true:Bool) = true) ∧ (pureH v93 C_142 (fun v139=>
 pureH a0 C_142 (fun v140=>
 pureH v93 C_142 (fun v141=>
 jI 24 v141 (.int .i64 0) C_142 (fun v142=>
 jL 3 v142 C_142 (fun v143=>
 pureH (l_12.getD 1 undef) C_142 (fun v144=>
 pureH (l_93.getD 1 undef) C_142 (fun v145=>
 jI 24 v144 v145 C_142 (fun v146=>
 jL 3 v146 C_142 (fun v147=>
 ∃ S_152:World → WK,∃ R_153:VK,(∀ v w w_1,S_152 w w_1 → R_153 v w → R_153 v w_1) ∧
 (∀ w,C_142 w → (callM prog 42 #[v140,v143,v147] (fun v w_1=>C_142 w_1 ∧ S_152 w w_1 ∧ R_153 v w_1) w)) ∧
 (∀ w,C_142 w → ∀ v148,R_153 v148 w → (
 kI 24 v139 (.int .i64 0) (fun v149 w=>
 kS 3 v149 v148 (fun _ w=>
 kB .sub 3 3 (l_93.getD 1 undef) (.int .i64 1) (fun v100 w=>
 J_91 [(l_99.getD 0 undef),v100] w ∧ m_92 [(l_99.getD 0 undef),v100] w < m_92 l_93 w0_l_93) w) w) w)))))))))))))))) w)) w0_l_99)) w) w)
 (K (.tuple #[v93,(.bool true)]) w)) w)) w0_l_93)) w) w) w) w)) w) w)) w0_l_23))) w)) w0_l_12)) w)) w) w) w) w) w) w) w) w
theorem sh_161_ok {a0 a1 a2:Value} {K:VK} {w:World} (h:sh_161 a0 a1 a2 K w):callM prog 161 #[a0,a1,a2] K w:=
 calls_of_code (fun i=>bif Nat.beq i 15 then .free [0,1,2,3,4,5,6,7,8,9,10,11] [12,13,14,15,16,17] [18] else bif Nat.beq i 16 then .free [0,1,2,3,4,5,6,7,8,9,10,11,12,14] [13,15] [16,17] else bif Nat.beq i 24 then .free [0,1,2,3,4,5,6,7,8,9,10,11] [12,13] [14,15] else bif Nat.beq i 26 then .free [0,1,2,3,4,5,6,7,8,9,10,11] [12] [13,14] else bif Nat.beq i 27 then .free [0,1,2,3,4,5,6,7,8] [9] [10,11] else 0) (fn:=Tryz.f161) (rs:=[.tmp 6,.tmp 7]) Tryz.func161 rfl rfl (by kernel_rfl) (nB rfl) (Eq.mp (by kernel_rfl) h)
def sh_197 (a0 a1:Value) (K:VK) (w:World):Prop:=
 callM prog 169 #[a0] (fun v9 w=>
 kU v9 (fun v10 w=>
 gF v10 (pureM a1) (fun v12 w=>
 gF v10 (kN 24 v12) (fun v13 w=>
 gF v10 (kB .gtr 3 4 v13 (.int .i64 64)) (fun v14 w=>
 kP v10 (.bool true) v14 (fun v15 w=>
 condM v15
 (K (.bool false) w)
 (oM prog (.makeMap 228 none) 228 [] (fun v16 w=>
 kN 24 a1 (fun v18 w=>
 loopM [undef,(.int .i64 0)] w (fun J_9 m_10 l_11 u_l_11 w0_l_11=>(fun w=>(
 kB .lss 3 0 (l_11.getD 1 undef) v18 (fun v20 w=>
 condM v20
 (kI 24 a1 (l_11.getD 1 undef) (fun v21 w=>
 kL 3 v21 (fun v22 w=>
 callM prog 124 #[a0,v22] (fun v26 w=>
 oM prog (.mapUpdate 228 (.tmp 0) (.tmp 1) (.tmp 2)) 0 [v16,v26,(.bool true)] (fun _ w=>
 kB .add 3 3 (l_11.getD 1 undef) (.int .i64 1) (fun v27 w=>
 J_9 [v22,v27] w ∧ m_10 [v22,v27] w < m_10 l_11 w0_l_11) w) w) w) w) w)
 (kN 228 v16 (fun v29 w=>
 kN 24 a1 (fun v31 w=>
 kB .eql 3 4 v29 v31 (fun v32 w=>
 K v32 w) w) w) w)) w)) w0_l_11)) w) w)) w) w) w) w) w) w
theorem sh_197_ok {a0 a1:Value} {K:VK} {w:World} (h:sh_197 a0 a1 K w):callM prog 197 #[a0,a1] K w:=
 calls_of_code (fun _=>0) (fn:=Tryz.f197) (rs:=[.tmp 4]) Tryz.func197 rfl rfl (by kernel_rfl) (nB rfl) (Eq.mp (by kernel_rfl) h)
end Go.Proofs
namespace Go.Sh
open Go Go.RowKit
section
variable {P:Program} {K:VK} {w:World}
@[go_sem] theorem oM_lookup (t T:TypeId) (x i:Value):oM P (.lookup t (.tmp 0) (.tmp 1) false) T [x,i] K w = rM ((Instr.lookup t x i false).run P w) K:=rM_of rfl
@[go_sem] theorem oM_mapUpdate (t T:TypeId) (m k x:Value):oM P (.mapUpdate t (.tmp 0) (.tmp 1) (.tmp 2)) T [m,k,x] K w = uM ((Instr.mapUpdate t m k x).run P w) K:=by
 rw [oM_unit (S:=Instr.mapUpdate t m k x) rfl]
@[go_sem] theorem oM_mapEntry (t T:TypeId) (m k:Value):oM P (.mapEntry t (.tmp 0) (.tmp 1)) T [m,k] K w = rM ((Instr.mapEntry t m k).run P w) K:=rM_of rfl
@[go_sem] theorem oM_entryStore (t T:TypeId) (m s x:Value):oM P (.entryStore t (.tmp 0) (.tmp 1) (.tmp 2)) T [m,s,x] K w = uM ((Instr.entryStore t m s x).run P w) K:=by
 rw [oM_unit (S:=Instr.entryStore t m s x) rfl]
@[go_sem] theorem oM_makeMap (t T:TypeId):oM P (.makeMap t none) T [] K w = K (.map (some w.heap.size)) (w.alloc (.map #[] 0)):=by
 rw [rM_of (S:=Instr.makeMap t none) rfl,run_makeMap]
 rfl
@[go_sem] theorem oM_range (t T:TypeId) (x:Value):oM P (.range t (.tmp 0)) T [x] K w = rM ((Instr.range t x).run P w) K:=rM_of rfl
@[go_sem] theorem oM_next (T:TypeId) (s:Bool) (x:Value):oM P (.next (.tmp 0) s) T [x] K w = rM ((Instr.next x s T).run P w) K:=rM_of rfl
@[go_sem] theorem oM_entry (T:TypeId) (x:Value):oM P (.entry (.tmp 0)) T [x] K w = rM ((Instr.entry x).run P w) K:=rM_of rfl
@[go_sem] theorem oM_delete (T:TypeId) (ts:Array TypeId) (x y:Value):oM P (.call { callee:=.builtin .delete,args:=#[.tmp 0,.tmp 1],argTypes:=ts }) T [x,y] K w = rM ((Builtin.delete_ ts T #[x,y]).run P w) K:=
 rM_of (by simp [xop,execOp,evalL,evE,resolve,invoke,builtin])
@[go_sem] theorem oM_clear (T:TypeId) (ts:Array TypeId) (x:Value):oM P (.call { callee:=.builtin .clear,args:=#[.tmp 0],argTypes:=ts }) T [x] K w = rM ((Builtin.clear_ ts T #[x]).run P w) K:=
 rM_of (by simp [xop,execOp,evalL,evE,resolve,invoke,builtin])
@[go_sem] theorem oM_copy (T:TypeId) (ts:Array TypeId) (x y:Value):oM P (.call { callee:=.builtin .copy,args:=#[.tmp 0,.tmp 1],argTypes:=ts }) T [x,y] K w = rM ((Builtin.copy_ ts T #[x,y]).run P w) K:=
 rM_of (by simp [xop,execOp,evalL,evE,resolve,invoke,builtin])
theorem oM_append (T:TypeId) (ts:Array TypeId) (x y:Value):oM P (.call { callee:=.builtin .append,args:=#[.tmp 0,.tmp 1],argTypes:=ts }) T [x,y] K w = rM ((Builtin.append_ ts T #[x,y]).run P w) K:=
 rM_of (by simp [xop,execOp,evalL,evE,resolve,invoke,builtin])
@[go_sem] theorem oM_makeSlice (t T:TypeId) (x y:Value):oM P (.makeSlice t (.tmp 0) (.tmp 1)) T [x,y] K w = rM ((Instr.makeSlice t x y).run P w) K:=rM_of rfl
@[go_sem] theorem oM_typeAssert (t u T:TypeId) (x:Value):oM P (.typeAssert (.tmp 0) t u false) T [x] K w = rM ((Instr.typeAssert x t u false).run P w) K:=rM_of rfl
@[go_sem] theorem oM_makeInterface (t T:TypeId) (x:Value):oM P (.makeInterface t (.tmp 0)) T [x] K w = rM ((Instr.makeInterface t x).run P w) K:=rM_of rfl
@[go_sem] theorem oM_buildSlice0 (T t:Nat) (n:Nat):oM P (.buildSlice t n #[]) T [] K w = rM ((Instr.buildSlice t n #[]).run P w) K:=rM_of (by simp [xop,execOp,evalL,evE])
theorem oM_sliceFrom (t T:TypeId) (x i:Value):oM P (.slice t (.tmp 0) (some (.tmp 1)) none none) T [x,i] K w = rM ((Instr.sliceAt t x (some i) none none).run P w) K:=rM_of rfl
theorem oM_sliceTo (t T:TypeId) (x i:Value):oM P (.slice t (.tmp 0) none (some (.tmp 1)) none) T [x,i] K w = rM ((Instr.sliceAt t x none (some i) none).run P w) K:=rM_of rfl
theorem low_bits (n:Nat) (hn:n < 60) (x:Int):IntKind.i64.wrap ((BitVec.ofInt 64 x &&& BitVec.ofInt 64 (2 ^ n - 1)).toNat:Int) = x % 2 ^ n:=by
 have hp:(0:Int) < 2 ^ n:=Int.pow_pos (by omega)
 have hp':(2:Nat) ^ n ≤ 2 ^ 59:=Nat.pow_le_pow_right (by omega) (by omega)
 have hpc:((2:Int) ^ n) = ((2 ^ n:Nat):Int):=by simp
 have hb:(BitVec.ofInt 64 (2 ^ n - 1)).toNat = 2 ^ n - 1:=by
  rw [BitVec.toNat_ofInt,hpc]
  omega
 have ha:(BitVec.ofInt 64 x).toNat = (x % 2 ^ 64).toNat:=by rw [BitVec.toNat_ofInt]; rfl
 rw [BitVec.toNat_and,hb,ha,Nat.and_two_pow_sub_one_eq_mod]
 have hdv:((2:Int) ^ n) ∣ 2 ^ 64:=⟨2 ^ (64 - n),by rw [← Int.pow_add]; congr 1; omega⟩
 have h1:(((x % 2 ^ 64).toNat % 2 ^ n:Nat):Int) = x % 2 ^ n:=by
  rw [Int.natCast_emod,Int.toNat_of_nonneg (Int.emod_nonneg _ (by omega)),← hpc,Int.emod_emod_of_dvd _ hdv]
 rw [h1]
 have h2:=Int.emod_nonneg x (b:=2 ^ n) (by omega)
 have h3:=Int.emod_lt_of_pos x hp
 exact wrapI64 _ (by omega) (by omega)
theorem oM_low (n:Nat) (hn:n < 60) (t t' T:TypeId) (x m:Int) (hm:m = 2 ^ n - 1):oM P (.binOp .and t (.tmp 0) (.tmp 1) t') T [.int .i64 x,.int .i64 m] K w = K (.int .i64 (x % 2 ^ n)) w:=by
 subst hm
 rw [← low_bits n hn x]
 exact oM_of_run rfl
@[go_sem] theorem oM_and1 (t t' T:TypeId) (x:Int):oM P (.binOp .and t (.tmp 0) (.tmp 1) t') T [.int .i64 x,.int .i64 1] K w = K (.int .i64 (x % 2)) w:=oM_low 1 (by omega) t t' T x 1 rfl
@[go_sem] theorem oM_and3 (t t' T:TypeId) (x:Int):oM P (.binOp .and t (.tmp 0) (.tmp 1) t') T [.int .i64 x,.int .i64 3] K w = K (.int .i64 (x % 4)) w:=oM_low 2 (by omega) t t' T x 3 rfl
@[go_sem] theorem oM_and7 (t t' T:TypeId) (x:Int):oM P (.binOp .and t (.tmp 0) (.tmp 1) t') T [.int .i64 x,.int .i64 7] K w = K (.int .i64 (x % 8)) w:=oM_low 3 (by omega) t t' T x 7 rfl
end
end Go.Sh
namespace Go.Sh
open Go Go.RowKit
section
variable {w:World} {B:Nat} {e:TypeId} {sz:Nat} {v:Value} {n:Nat} {xs:List Value}
theorem owns_cells (h:w.ownsRow B e sz v n xs) (hn:0 < n):∃ g cap cur,v = .slice (some ⟨g,0,none⟩) n cap ∧ g < w.heap.size ∧ B ≤ g ∧ w.heap[g]? = some (.cells cur e (0,0)) ∧ cur.size = cap * sz ∧ n ≤ cap ∧ ∀ (k:Nat) (x:Value),xs[k]? = some x → w.cell? ⟨g,k,none⟩ = some x:=by
 rcases h.2 with ⟨_,h0⟩ | ⟨g,cap,cur,hv,hb,hg,hc,hm,hs,ht⟩
 ·omega
 ·refine ⟨g,cap,cur,hv,(Array.getElem?_eq_some_iff.1 hg).1,hb,hg,hs,hc,fun k x hk=>?_⟩
  have hlt:k < n * sz:=by have:=(gS hk).1; rw [h.1] at this; exact this
  rw [← ht,List.getElem?_take_of_lt hlt] at hk
  unfold World.cell?
  rw [hg]
  simpa using hk
theorem owns_own (h:w.ownsRow B e sz v n xs) {i:Nat} (hi:v.ownBlock = some i):i < w.heap.size ∧ B ≤ i ∧ ∃ cur,w.heap[i]? = some (.cells cur e (0,0)):=by
 rcases h.2 with ⟨rfl,h0⟩ | ⟨g,cap,cur,rfl,hb,hg,hc,hm,hs,ht⟩
 ·cases hi
 ·cases hi
  exact ⟨(Array.getElem?_eq_some_iff.1 hg).1,hb,cur,hg⟩
theorem owns_keep {w':World} (h:w.ownsRow B e sz v n xs) (hk:∀ i,v.ownBlock = some i → w'.heap[i]? = w.heap[i]?):w'.ownsRow B e sz v n xs:=by
 refine ⟨h.1,?_⟩
 rcases h.2 with h0 | ⟨g,cap,cur,rfl,hb,hg,hr⟩
 ·exact .inl h0
 ·exact .inr ⟨g,cap,cur,rfl,hb,by rw [hk g rfl]; exact hg,hr⟩
theorem owns_len (h:w.ownsRow B e sz v n xs):∃ a c,v = .slice a n c:=by
 rcases h.2 with ⟨rfl,rfl⟩ | ⟨g,cap,cur,rfl,_⟩
 ·exact ⟨none,0,rfl⟩
 ·exact ⟨_,cap,rfl⟩
end
def flat {α:Type} (mk:α → List Value) (l:List α):List Value:=l.flatMap mk
section
variable {α:Type} {mk:α → List Value} {sz:Nat}
theorem flat_cons (x:α) (l:List α):flat mk (x :: l) = mk x ++ flat mk l:=rfl
theorem flat_append (l m:List α):flat mk (l ++ m) = flat mk l ++ flat mk m:=by simp [flat]
theorem flat_snoc (l:List α) (x:α):flat mk (l ++ [x]) = flat mk l ++ mk x:=by simp [flat]
theorem flat_length (hm:∀ x,(mk x).length = sz) (l:List α):(flat mk l).length = l.length * sz:=by
 induction l with
 | nil=>simp [flat]
 | cons x l ih=>rw [flat_cons,List.length_append,hm,ih,List.length_cons,Nat.succ_mul,Nat.add_comm]
theorem flat_at (hm:∀ x,(mk x).length = sz) (l:List α) (i j:Nat) {x:α} (hi:l[i]? = some x) (hj:j < sz):(flat mk l)[i * sz + j]? = (mk x)[j]?:=by
 induction l generalizing i with
 | nil=>simp at hi
 | cons y l ih=>
  rw [flat_cons]
  cases i with
  | zero=>
   simp only [List.getElem?_cons_zero,Option.some.injEq] at hi
   subst hi
   rw [Nat.zero_mul,Nat.zero_add,List.getElem?_append_left (by rw [hm]; exact hj)]
  | succ i=>
   simp only [List.getElem?_cons_succ] at hi
   rw [Nat.succ_mul,List.getElem?_append_right (by rw [hm]; omega),hm,← ih i hi]
   congr 1
   omega
end
structure Fr (S:Nat → Prop) (w w':World):Prop where
 os:w'.os = w.os
 tape:w'.tape = w.tape
 output:w'.output = w.output
 size:w.heap.size ≤ w'.heap.size
 block:∀ i,i < w.heap.size → ¬ S i → w'.heap[i]? = w.heap[i]?
section
variable {S S':Nat → Prop} {w w1 w2:World}
theorem Fr.refl (S:Nat → Prop) (w:World):Fr S w w:=⟨rfl,rfl,rfl,rL,fun _ _ _=>rfl⟩
theorem Fr.trans (h:Fr S w w1) (k:Fr S' w1 w2) (hs:∀ i,S' i → S i ∨ w.heap.size ≤ i):Fr S w w2:=
 ⟨k.os.trans h.os,k.tape.trans h.tape,k.output.trans h.output,Nat.le_trans h.size k.size,fun i hi hn=>(k.block i (lL hi h.size) (fun hx=>(hs i hx).elim hn (by omega))).trans (h.block i hi hn)⟩
theorem Fr.by (h:Fr S w w1) {b:Option Nat} (k:w1.grownBy w2 b) (hs:∀ i,b = some i → S i ∨ w.heap.size ≤ i):Fr S w w2:=
 ⟨k.os.trans h.os,k.tape.trans h.tape,k.output.trans h.output,Nat.le_trans h.size k.size,fun i hi hn=>(k.block i (lL hi h.size) (fun hx=>(hs i hx.symm).elim hn (by omega))).trans (h.block i hi hn)⟩
theorem Fr.none_by (h:Fr S w w1) (k:w1.grownBy w2 none):Fr S w w2:=h.by k (fun _ h=>by cases h)
theorem Fr.alloc (h:Fr S w w1) (o:Obj):Fr S w (w1.alloc o):=h.none_by (World.grownBy_alloc w1 o none)
theorem Fr.drew (h:Fr S w w1):Fr S w { w1 with drawn:=w1.drawn + 1 }:=⟨h.os,h.tape,h.output,h.size,h.block⟩
theorem Fr.mono (h:Fr S w w1) (hs:∀ i,i < w.heap.size → S i → S' i):Fr S' w w1:=⟨h.os,h.tape,h.output,h.size,fun i hi hn=>h.block i hi (fun hx=>hn (hs i hi hx))⟩
theorem setCell_heap_ne (w:World) (a:Addr) (u:Value) (i:Nat) (h:i ≠ a.block):(w.setCell a u).heap[i]? = w.heap[i]?:=by
 simp only [World.setCell,Array.getElem?_modify]
 rw [if_neg (Ne.symm h)]
theorem grown_setCell (w:World) (a:Addr) (u:Value):w.grownBy (w.setCell a u) (some a.block):=
 ⟨rfl,rfl,rfl,by simp [World.setCell],fun i _ hi=>setCell_heap_ne w a u i (fun e=>hi (by rw [e]))⟩
theorem Fr.set (h:Fr S w w1) (a:Addr) (u:Value) (hs:S a.block ∨ w.heap.size ≤ a.block):Fr S w (w1.setCell a u):=h.by (grown_setCell w1 a u) (fun i e=>by cases e; exact hs)
end
theorem cell_of_block {w:World} {b:Nat} {cs:Array Value} {T:TypeId} {f:Nat × Nat} (h:w.heap[b]? = some (.cells cs T f)) (i:Nat):w.cell? ⟨b,i,none⟩ = cs[i]?:=by
 simp [World.cell?,h]
theorem block_set {w:World} {b i:Nat} {cs:Array Value} {T:TypeId} {f:Nat × Nat} (h:w.heap[b]? = some (.cells cs T f)) (u:Value):(w.setCell ⟨b,i,none⟩ u).heap[b]? = some (.cells (cs.setIfInBounds i u) T f):=by
 simp [World.setCell,Array.getElem?_modify,h]
end Go.Sh
namespace Go.Sh
open Go Go.RowKit
section
variable {P:Program} {w:World} {K:VK}
theorem owns_base {B C:Nat} {e:TypeId} {sz:Nat} {v:Value} {n:Nat} {xs:List Value} (h:w.ownsRow B e sz v n xs) (hc:C ≤ B):w.ownsRow C e sz v n xs:=
 ⟨h.1,h.2.imp id (fun ⟨g,cap,cur,a,b,r⟩=>⟨g,cap,cur,a,Nat.le_trans hc b,r⟩)⟩
theorem run_append_more (t ty e:TypeId) (i:TypeInfo) (z:Value) (size bytes:Nat) (ht:P.underlying t = some (.slice e)) (hi:P.info? e = some i) (hz:i.zero = some z)
  (hsize:i.size = size) (hby:i.bytes = bytes) (hzs:z.cells.size = size) (hsz:0 < size)
  (v:Value) (n:Nat) (xs:List Value) (hown:w.ownsRow 0 e size v n xs)
  (a:Addr) (m c:Nat) (news:List Value) (hl:news.length = m * size) (hnews:∀ j u,news[j]? = some u → w.cell? (a.add j) = some u) (h1:∀ u ∈ news,u.oneCell' = true)
  (h63:n + m ≤ maxLen) (hbytes:(n + m) * bytes ≤ 140737488355328) :
  ∃ v' w',(Builtin.append_ #[t,t] ty #[v,.slice (some a) m c]).run P w = .ok v' w' ∧ w'.ownsRow 0 e size v' (n + m) (xs ++ news) ∧ w.grownBy w' v.ownBlock ∧
   (∀ i,v'.ownBlock = some i → v.ownBlock = some i ∨ w.heap.size ≤ i):=by
 rcases hown.2 with ⟨hv,hn⟩ | ⟨g,cap,cur,hv,hb,hg,hnc,hm,hcs,htk⟩
 ·have h':w.ownsRow w.heap.size e size v n xs:=⟨hown.1,.inl ⟨hv,hn⟩⟩
  obtain ⟨v',w',hr,ho,hgr,_⟩:=run_append_own (P:=P) (w:=w) w.heap.size t ty e i z size bytes ht hi hz hsize hby hzs hsz v n xs h' a m c news hl hnews h1 h63 hbytes (rL)
  exact ⟨v',w',hr,owns_base ho (Nat.zero_le _),hgr,fun j hj=>.inr (owns_own ho hj).2.1⟩
 ·by_cases hroom:n + m ≤ cap
  ·subst hv
   obtain ⟨w',hr,ho,hgr⟩:=run_append_fits (P:=P) (w:=w) 0 t ty e i size ht hi hsize g n cap xs hown a m c news hl hnews h1 hroom
   exact ⟨_,w',hr,ho,hgr,fun j hj=>.inl hj⟩
  ·obtain ⟨v',w',hr,ho,hgr,_⟩:=run_append_own (P:=P) (w:=w) 0 t ty e i z size bytes ht hi hz hsize hby hzs hsz v n xs hown a m c news hl hnews h1 h63 hbytes (Nat.zero_le _)
   subst hsize
   subst hv
   have holds:∀ j u,xs[j]? = some u → w.cell? ((⟨g,0,none⟩:Addr).add j) = some u:=hown.cells (g:=g) rfl
   have hr2:=run_append_grow (P:=P) (w:=w) t ty e i z ht hi hz ⟨g,0,none⟩ n cap xs hown.1 holds a m c news hl hnews (by omega) (by simp only [maxLen] at h63; omega) (growslice_fits (by omega) (by rw [hby]; exact hbytes))
   rw [hr] at hr2
   cases hr2
   exact ⟨_,_,hr,ho,hgr,fun j hj=>by cases hj; exact .inr (rL)⟩
theorem append_at (t T e:TypeId) (i:TypeInfo) (z:Value) (size bytes:Nat) (ht:P.underlying t = some (.slice e)) (hi:P.info? e = some i) (hz:i.zero = some z)
  (hsize:i.size = size) (hby:i.bytes = bytes) (hzs:z.cells.size = size) (hsz:0 < size)
  {v:Value} {n:Nat} {xs:List Value} (hown:w.ownsRow 0 e size v n xs)
  {ad:Option Addr} {m c:Nat} (news:List Value) (hl:news.length = m * size) (had:ad = none → m = 0 ∧ c = 0) (hnews:∀ a,ad = some a → ∀ j u,news[j]? = some u → w.cell? (a.add j) = some u) (h1:∀ u ∈ news,u.oneCell' = true)
  (h63:n + m ≤ maxLen) (hbytes:(n + m) * bytes ≤ 140737488355328)
  (k:∀ v' w',w'.ownsRow 0 e size v' (n + m) (xs ++ news) → w.grownBy w' v.ownBlock → (∀ i,v'.ownBlock = some i → v.ownBlock = some i ∨ w.heap.size ≤ i) → K v' w') :
  oM P (.call { callee:=.builtin .append,args:=#[.tmp 0,.tmp 1],argTypes:=#[t,t] }) T [v,.slice ad m c] K w:=by
 rw [oM_append]
 cases ad with
 | some a=>
  obtain ⟨v',w',hr,h2,h3,h4⟩:=run_append_more (P:=P) (w:=w) t T e i z size bytes ht hi hz hsize hby hzs hsz v n xs hown a m c news hl (hnews a rfl) h1 h63 hbytes
  rw [hr]
  exact k v' w' h2 h3 h4
 | none=>
  obtain ⟨rfl,rfl⟩:=had rfl
  have hn:news = []:=List.eq_nil_of_length_eq_zero (by simpa using hl)
  subst hn
  rw [run_append_owned_none (P:=P) (w:=w) 0 t T e i size ht hi v n xs hown]
  refine k v w ?_ ⟨rfl,rfl,rfl,rL,fun _ _ _=>rfl⟩ (fun i h=>.inl h)
  simpa using hown
end
def RowR {α:Type} (mk:α → List Value) (sz:Nat) (w:World) (v:Value) (l:List α):Prop:=
 ∃ ad c,v = .slice ad l.length c ∧ (ad = none → l.length = 0 ∧ c = 0) ∧ (l = [] ∨ ∃ b o,ad = some ⟨b,o,none⟩ ∧ b < w.heap.size ∧ ∀ (k:Nat) (x:Value),(flat mk l)[k]? = some x → w.cell? ⟨b,o + k,none⟩ = some x)
section
variable {α:Type} {mk:α → List Value} {sz:Nat} {w w':World} {v:Value} {l:List α}
theorem RowR.of_owns {B:Nat} {e:TypeId} (h:w.ownsRow B e sz v l.length (flat mk l)):RowR mk sz w v l:=by
 rcases h.2 with ⟨rfl,h0⟩ | ⟨g,cap,cur,rfl,hb,hg,hn,hm,hcs,ht⟩
 ·exact ⟨none,0,by rw [h0],fun _=>⟨h0,rfl⟩,.inl (List.eq_nil_of_length_eq_zero h0)⟩
 ·refine ⟨_,cap,rfl,by simp,?_⟩
  by_cases h0:l = []
  ·exact .inl h0
  ·obtain ⟨g',cap',cur',hv,hlt,_,_,_,_,hc⟩:=owns_cells h (List.length_pos_iff.2 h0)
   cases hv
   exact .inr ⟨g,0,rfl,hlt,fun k x hk=>by rw [Nat.zero_add]; exact hc k x hk⟩
def Value.inBlock:Value → Option Nat
 | .slice (some a) _ _=>some a.block
 | _=>none
theorem RowR.keep (h:RowR mk sz w v l) (hs:w.heap.size ≤ w'.heap.size) (hk:∀ i,Value.inBlock v = some i → i < w.heap.size → w'.heap[i]? = w.heap[i]?):RowR mk sz w' v l:=by
 obtain ⟨ad,c,rfl,h0,h⟩:=h
 refine ⟨ad,c,rfl,h0,h.imp id ?_⟩
 rintro ⟨b,o,rfl,hlt,hc⟩
 refine ⟨b,o,rfl,lL hlt hs,fun k x hx=>?_⟩
 have:=hc k x hx
 unfold World.cell? at this ⊢
 rw [hk b rfl hlt]
 exact this
end
theorem add_none (b o k:Nat):(⟨b,o,none⟩:Addr).add k = ⟨b,o + k,none⟩:=by
 unfold Addr.add
 split
 ·rename_i h0; rw [h0]; simp
 ·rfl
theorem clone_at {P:Program} {α:Type} {mk:α → List Value} {w:World} {K:VK} (t T e:TypeId) (i:TypeInfo) (z:Value) (size bytes:Nat) (ht:P.underlying t = some (.slice e)) (hi:P.info? e = some i) (hz:i.zero = some z)
  (hsize:i.size = size) (hby:i.bytes = bytes) (hzs:z.cells.size = size) (hsz:0 < size) (hm:∀ x,(mk x).length = size) (h1:∀ x,∀ u ∈ mk x,u.oneCell' = true)
  {v u:Value} {l:List α} (hr:RowR mk size w v l) (hu:w.ownsRow 0 e size u 0 []) {B:Nat} (hB:B ≤ w.heap.size) (hf:∀ i,u.ownBlock = some i → B ≤ i) (hll:l.length ≤ 4611686018427387904) (hb:l.length * bytes ≤ 140737488355328)
  (k:∀ v' w',w'.ownsRow 0 e size v' l.length (flat mk l) → w.grownBy w' u.ownBlock → (∀ i,v'.ownBlock = some i → B ≤ i) → K v' w') :
  oM P (.call { callee:=.builtin .append,args:=#[.tmp 0,.tmp 1],argTypes:=#[t,t] }) T [u,v] K w:=by
 obtain ⟨ad,c,rfl,h0,hc⟩:=hr
 refine append_at t T e i z size bytes ht hi hz hsize hby hzs hsz hu (flat mk l) (flat_length hm l) h0 ?_ ?_ (by simp only [maxLen]; omega) (by rw [Nat.zero_add]; exact hb) ?_
 ·rintro a rfl j x hj
  rcases hc with rfl | ⟨b,o,hbo,hlt,hc⟩
  ·simp [flat] at hj
  ·cases hbo
   rw [add_none]; exact hc j x hj
 ·intro x hx
  unfold flat at hx
  obtain ⟨y,_,hy⟩:=List.mem_flatMap.1 hx
  exact h1 y x hy
 ·intro v' w' ho hg hv
  rw [Nat.zero_add] at ho
  exact k v' w' ho hg (fun i hi=>(hv i hi).elim (hf i) (Nat.le_trans hB))
end Go.Sh
namespace Go.Sh
open Go Go.RowKit
theorem alloc_size (w:World) (o:Obj):(w.alloc o).heap.size = w.heap.size + 1:=by
 show (w.heap.push o).size = _
 simp
theorem grown_setRow (w:World) (g:Nat) (cs:Array Value):w.grownBy (w.setRow g cs) (some g):=
 ⟨rfl,rfl,rfl,by simp [World.setRow],fun i _ hi=>setRow_other w g i cs (fun e=>hi (by rw [e]))⟩
section
variable {P:Program} {w:World} {K:VK}
theorem sliceTo_at {t T:TypeId} {a:Option Addr} {n c:Nat} {sz:Nat} (ht:P.underlying t = some (.slice (P.elem t))) (hs:∀ w,(sizeOf (P.elem t)).run P w = .ok sz w) (i:Nat) (hi:i ≤ c) (k:K (.slice a i c) w) :
  oM P (.slice t (.tmp 0) none (some (.tmp 1)) none) T [.slice a n c,.int .i64 i] K w:=by
 rw [oM_sliceTo,run_sliceAt_slice w t _ _ _ _ ht,run_slice_h w t _ n c ht .i64 i (by omega) (by omega),hs]
 have e:a.map (fun x=>x.add (0 * sz)) = a:=by
  cases a with
  | none=>rfl
  | some a=>simp [Addr.add]
 simp only [Result.andThen_ok,sliced,Int.toNat_natCast,Nat.sub_zero,e,ite_self]
 exact k
end
end Go.Sh
namespace Go.Sh
open Go Go.RowKit
def BufM (w:World) (e:TypeId) (v:Value) (l:List UInt8):Prop:=
 ∃ g cap cur fz,v = .slice (some ⟨g,0,none⟩) l.length cap ∧ w.heap[g]? = some (.cells cur e fz) ∧ (∀ i,i < cur.size → ¬ (fz.1 ≤ i ∧ i < fz.2)) ∧ cur.size = cap ∧ l.length ≤ cap ∧ ∀ j (h:j < l.length),cur[j]? = some (.int .u8 (l[j].toNat:Int))
section
variable {P:Program} {w w':World} {e:TypeId} {v:Value} {l:List UInt8} {K:VK}
theorem BufM.shape (h:BufM w e v l):∃ g c,v = .slice (some ⟨g,0,none⟩) l.length c ∧ g < w.heap.size:=by
 obtain ⟨g,cap,cur,fz,rfl,hg,_⟩:=h
 exact ⟨g,cap,rfl,(Array.getElem?_eq_some_iff.1 hg).1⟩
theorem BufM.keep (h:BufM w e v l) (hk:∀ i,v.ownBlock = some i → w'.heap[i]? = w.heap[i]?):BufM w' e v l:=by
 obtain ⟨g,cap,cur,fz,rfl,hg,r⟩:=h
 exact ⟨g,cap,cur,fz,rfl,by rw [hk g rfl]; exact hg,r⟩
theorem ofStr_at {s d T:TypeId} (hs:P.underlying s = some .string) (hd:P.underlying d = some (.slice e)) (he:P.underlying e = some (.int .u8)) (l:List UInt8)
  (k:∀ v w',BufM w' e v l → w.grownBy w' none → v.ownBlock = some w.heap.size → w.heap.size < w'.heap.size → K v w'):oM P (.convert s d (.tmp 0)) T [.string ⟨l.toArray⟩] K w:=by
 have hr:=run_bytes_of_string (P:=P) w s d e ⟨l.toArray⟩ hs hd he
 rw [rM_of (S:=convert s d (.string ⟨l.toArray⟩)) rfl,hr]
 have hge:l.length ≤ grownCap w (⟨l.toArray⟩:ByteArray).size 0 e:=grownCap_ge w l.length 0 e
 generalize grownCap w (⟨l.toArray⟩:ByteArray).size 0 e = C at *
 have hsz:(bytesRow ⟨l.toArray⟩ C).size = C:=by
  simp only [bytesRow,Array.size_append,Array.size_map,List.size_toArray,Array.size_replicate,ByteArray.size]
  omega
 rw [hsz]
 refine k _ _ ⟨w.heap.size,C,bytesRow ⟨l.toArray⟩ C,(C,C + 1),rfl,heap_alloc_new w.drew _,fun i hi=>by rw [hsz] at hi; simp only; omega,hsz,hge,fun j hj=>?_⟩ ⟨rfl,rfl,rfl,by simp,fun i hi _=>heap_alloc_old w.drew _ hi⟩ rfl (by simp)
 unfold bytesRow
 rw [Array.getElem?_append_left (by simpa using hj)]
 simp [hj]
theorem pushB_at {t T:TypeId} {i:TypeInfo} {x:UInt8} {a:Addr} {c:Nat} (ht:P.underlying t = some (.slice e)) (hi:P.info? e = some i) (hz:i.zero = some (.int .u8 0)) (hs:i.size = 1) (hb:i.bytes = 1) (h:BufM w e v l) (ha:w.cell? a = some (.int .u8 (x.toNat:Int))) (hl:l.length + 1 ≤ 1099511627776)
  (k:∀ v' w',BufM w' e v' (l ++ [x]) → w.grownBy w' v.ownBlock → (v'.ownBlock = v.ownBlock ∨ ∃ g,v'.ownBlock = some g ∧ w.heap.size ≤ g) → K v' w') :
  oM P (.call { callee:=.builtin .append,args:=#[.tmp 0,.tmp 1],argTypes:=#[t,t] }) T [v,.slice (some a) 1 c] K w:=by
 obtain ⟨g,cap,cur,fz,rfl,hg,hfz,hcs,hlc,hcell⟩:=h
 rw [oM_append]
 have hnews:∀ j u,([Value.int .u8 (x.toNat:Int)]:List Value)[j]? = some u → w.cell? (a.add j) = some u:=by
  intro j u hj
  match j,hj with
  | 0,hj=>
   simp only [List.getElem?_cons_zero,Option.some.injEq] at hj
   subst hj
   have:a.add 0 = a:=by simp [Addr.add]
   rw [this]; exact ha
 by_cases hroom:l.length + 1 ≤ cap
 ·have hr:=run_append_room_cells (P:=P) (w:=w) t T e i ht hi g 0 l.length cap a 1 c [.int .u8 (x.toNat:Int)] (by rw [hs]; rfl) hnews (by simp [Value.oneCell']) hroom (by
   intro j hj
   simp only [List.length_cons,List.length_nil] at hj
   rw [cell_of_block hg]
   simp [hs]
   omega) (by
   intro j hj
   simp only [List.length_cons,List.length_nil] at hj
   unfold World.frozen?
   rw [hg]
   have:=hfz (0 + l.length * i.size + j) (by rw [hs]; omega)
   simp only [Bool.and_eq_false_iff,decide_eq_false_iff_not]
   omega)
  rw [hr,hs,Nat.zero_add,Nat.mul_one]
  refine k _ (w.setCell ⟨g,l.length,none⟩ (.int .u8 (x.toNat:Int))) ⟨g,cap,cur.setIfInBounds l.length (.int .u8 (x.toNat:Int)),fz,by rw [List.length_append]; rfl,block_set hg _,by simpa using hfz,by simpa using hcs,by simpa using hroom,fun j hj=>?_⟩ (grown_setCell w ⟨g,l.length,none⟩ _) (.inl rfl)
  rw [List.length_append,List.length_cons,List.length_nil] at hj
  by_cases hjl:j < l.length
  ·rw [Array.getElem?_setIfInBounds_ne (by omega),hcell j hjl,List.getElem_append_left hjl]
  ·obtain rfl:j = l.length:=by omega
   rw [Array.getElem?_setIfInBounds_self_of_lt (by omega)]
   simp
 ·have hholds:∀ j u,(Lib.byteCells l)[j]? = some u → w.cell? ((⟨g,0,none⟩:Addr).add j) = some u:=by
   intro j u hj
   rw [add_none,Nat.zero_add,cell_of_block hg]
   have hjl:j < l.length:=by have:=(gS hj).1; simpa [Lib.byteCells] using this
   rw [hcell j hjl,← hj]
   simp [Lib.byteCells,hjl]
  obtain ⟨v',w',hr,ho,hgr⟩:=run_append_arg_grows (P:=P) (w:=w) t T e i (.int .u8 0) 1 1 ht hi hz hs hb rfl (by omega) ⟨g,0,none⟩ l.length cap (Lib.byteCells l) (by simp [Lib.byteCells]) hholds a 1 c [.int .u8 (x.toNat:Int)] rfl hnews (by omega) (by simp only [maxLen]; omega) (by omega)
  rw [hr]
  rcases ho.2 with ⟨_,h0⟩ | ⟨g',cap',cur',rfl,hb',hg',hnc,hcm,hcs',htk⟩
  ·omega
  ·refine k _ w' ⟨g',cap',cur',(0,0),by rw [List.length_append]; rfl,hg',fun i _=>by omega,by omega,by rw [List.length_append]; exact hnc,fun j hj=>?_⟩ ⟨hgr.os,hgr.tape,hgr.output,hgr.size,fun i hi _=>hgr.block i hi (by simp)⟩ (.inr ⟨g',rfl,hb'⟩)
   have e1:cur'.toList.take (l.length + 1) = Lib.byteCells (l ++ [x]):=by
    rw [Nat.mul_one] at htk
    rw [htk]
    simp [Lib.byteCells]
   have e2:=congrArg (fun q=>q[j]?) e1
   rw [List.length_append,List.length_cons,List.length_nil] at hj
   simp only [List.getElem?_take_of_lt hj,Array.getElem?_toList] at e2
   rw [e2]
   have hj':j < (l ++ [x]).length:=by simpa using hj
   simp only [Lib.byteCells,List.getElem?_map,gE hj',Option.map_some]
theorem BufM.set (h:BufM w e v l) {j:Nat} (hj:j < l.length) (x:UInt8):∃ g c,v = .slice (some ⟨g,0,none⟩) l.length c ∧ w.frozen? ⟨g,j,none⟩ = false ∧ (w.cell? ⟨g,j,none⟩).isSome = true ∧ BufM (w.setCell ⟨g,j,none⟩ (.int .u8 (x.toNat:Int))) e v (l.set j x):=by
 obtain ⟨g,cap,cur,fz,rfl,hg,hfz,hcs,hlc,hcell⟩:=h
 refine ⟨g,cap,rfl,?_,?_,⟨g,cap,cur.setIfInBounds j (.int .u8 (x.toNat:Int)),fz,by rw [List.length_set],block_set hg _,by simpa using hfz,by simpa using hcs,by simpa using hlc,fun k hk=>?_⟩⟩
 ·unfold World.frozen?
  rw [hg]
  have:=hfz j (by omega)
  simp only [Bool.and_eq_false_iff,decide_eq_false_iff_not]
  omega
 ·rw [cell_of_block hg,hcell j hj]; rfl
 ·rw [List.length_set] at hk
  by_cases hkj:k = j
  ·subst hkj
   rw [Array.getElem?_setIfInBounds_self_of_lt (by omega)]
   simp
  ·rw [Array.getElem?_setIfInBounds_ne (Ne.symm hkj),hcell k hk,List.getElem_set_ne (Ne.symm hkj)]
theorem BufM.cell (h:BufM w e v l) {j:Nat} (hj:j < l.length):∃ g c,v = .slice (some ⟨g,0,none⟩) l.length c ∧ w.cell? ⟨g,j,none⟩ = some (.int .u8 (l[j].toNat:Int)):=by
 obtain ⟨g,cap,cur,fz,rfl,hg,hfz,hcs,hlc,hcell⟩:=h
 exact ⟨g,cap,rfl,by rw [cell_of_block hg]; exact hcell j hj⟩
end
end Go.Sh
namespace Go.Sh
open Go Go.RowKit
section
variable {P:Program} {K:VK} {w:World}
@[go_sem] theorem oM_shr64 (t t' T:TypeId) (yk:IntKind) (x y:Int) (h0:0 ≤ y) (h1:y ≤ 64):oM P (.binOp .shr t (.tmp 0) (.tmp 1) t') T [.int .u64 x,.int yk y] = pureM (.int .u64 (x / 2 ^ y.toNat)):=by
 funext K w
 simp [oM,opM,xop,execOp,evalL,evE,binOp]
 rfl
@[go_sem] theorem oM_shl64 (t t' T:TypeId) (yk:IntKind) (x y:Int) (h0:0 ≤ y) (h1:y ≤ 64):oM P (.binOp .shl t (.tmp 0) (.tmp 1) t') T [.int .u64 x,.int yk y] = pureM (.int .u64 (x * 2 ^ y.toNat % 18446744073709551616)):=by
 funext K w
 simp [oM,opM,xop,execOp,evalL,evE,binOp]
 rfl
@[go_sem] theorem oM_shr32 (t t' T:TypeId) (yk:IntKind) (x y:Int) (h0:0 ≤ y) (h1:y ≤ 32):oM P (.binOp .shr t (.tmp 0) (.tmp 1) t') T [.int .u32 x,.int yk y] = pureM (.int .u32 (x / 2 ^ y.toNat)):=by
 funext K w
 simp [oM,opM,xop,execOp,evalL,evE,binOp]
 rfl
@[go_sem] theorem oM_shl32 (t t' T:TypeId) (yk:IntKind) (x y:Int) (h0:0 ≤ y) (h1:y ≤ 32):oM P (.binOp .shl t (.tmp 0) (.tmp 1) t') T [.int .u32 x,.int yk y] = pureM (.int .u32 (x * 2 ^ y.toNat % 4294967296)):=by
 funext K w
 simp [oM,opM,xop,execOp,evalL,evE,binOp]
 rfl
@[go_sem] theorem oM_and64 (t t' T:TypeId) (x y:Int):oM P (.binOp .and t (.tmp 0) (.tmp 1) t') T [.int .u64 x,.int .u64 y] = pureM (.int .u64 (bits .and .u64 x y)):=by
 funext K w
 simp [oM,opM,xop,execOp,evalL,evE,binOp,go_sem]
@[go_sem] theorem oM_or64 (t t' T:TypeId) (x y:Int):oM P (.binOp .or t (.tmp 0) (.tmp 1) t') T [.int .u64 x,.int .u64 y] = pureM (.int .u64 (bits .or .u64 x y)):=by
 funext K w
 simp [oM,opM,xop,execOp,evalL,evE,binOp,go_sem]
end
theorem bits_and64 (x y:Int) (hx:0 ≤ x ∧ x < 18446744073709551616) (hy:0 ≤ y ∧ y < 18446744073709551616):bits .and .u64 x y = ((x.toNat &&& y.toNat:Nat):Int):=by
 obtain ⟨a,rfl⟩:=Int.eq_ofNat_of_zero_le hx.1
 obtain ⟨b,rfl⟩:=Int.eq_ofNat_of_zero_le hy.1
 have ha:a < 2 ^ 64:=by omega
 have hb:b < 2 ^ 64:=by omega
 simp only [bits,Int.toNat_natCast]
 rw [BitVec.ofInt_natCast,BitVec.ofInt_natCast,BitVec.toNat_and]
 simp only [BitVec.toNat_ofNat]
 rw [show IntKind.u64.bits = 64 from rfl,Nat.mod_eq_of_lt ha,Nat.mod_eq_of_lt hb]
 have:a &&& b ≤ a:=Nat.and_le_left
 exact wrapU64 _ (by omega) (by omega)
theorem bits_or64 (x y:Int) (hx:0 ≤ x ∧ x < 18446744073709551616) (hy:0 ≤ y ∧ y < 18446744073709551616):bits .or .u64 x y = ((x.toNat ||| y.toNat:Nat):Int):=by
 obtain ⟨a,rfl⟩:=Int.eq_ofNat_of_zero_le hx.1
 obtain ⟨b,rfl⟩:=Int.eq_ofNat_of_zero_le hy.1
 have ha:a < 2 ^ 64:=by omega
 have hb:b < 2 ^ 64:=by omega
 simp only [bits,Int.toNat_natCast]
 rw [BitVec.ofInt_natCast,BitVec.ofInt_natCast,BitVec.toNat_or]
 simp only [BitVec.toNat_ofNat]
 rw [show IntKind.u64.bits = 64 from rfl,Nat.mod_eq_of_lt ha,Nat.mod_eq_of_lt hb]
 have:=Nat.or_lt_two_pow ha hb
 exact wrapU64 _ (by omega) (by omega)
theorem mask64 (n:Nat) (x m:Int) (hn:n ≤ 64) (hm:m = 2 ^ n - 1) (hx:0 ≤ x ∧ x < 18446744073709551616):bits .and .u64 x m = x % 2 ^ n:=by
 have hp:(0:Int) < 2 ^ n:=Int.pow_pos (by omega)
 have hp':(2:Nat) ^ n ≤ 2 ^ 64:=Nat.pow_le_pow_right (by omega) hn
 have hpc:((2:Int) ^ n) = ((2 ^ n:Nat):Int):=by simp
 rw [bits_and64 x m hx (by rw [hm,hpc]; omega)]
 have:m.toNat = 2 ^ n - 1:=by rw [hm,hpc]; omega
 rw [this,Nat.and_two_pow_sub_one_eq_mod,Int.natCast_emod,Int.toNat_of_nonneg hx.1,hpc]
theorem or_add64 (s:Nat) (x y:Int) (hs:s ≤ 64) (hx:0 ≤ x) (hy:0 ≤ y ∧ y < 2 ^ s) (h:x * 2 ^ s < 18446744073709551616):bits .or .u64 (x * 2 ^ s) y = x * 2 ^ s + y:=by
 obtain ⟨a,rfl⟩:=Int.eq_ofNat_of_zero_le hx
 obtain ⟨b,rfl⟩:=Int.eq_ofNat_of_zero_le hy.1
 have hpc:((2:Int) ^ s) = ((2 ^ s:Nat):Int):=by simp
 rw [hpc] at hy h ⊢
 have hp':(2:Nat) ^ s ≤ 2 ^ 64:=Nat.pow_le_pow_right (by omega) hs
 have hb:b < 2 ^ s:=by omega
 have e:((a:Int) * ((2 ^ s:Nat):Int)) = ((2 ^ s * a:Nat):Int):=by rw [Int.natCast_mul]; exact Int.mul_comm _ _
 rw [e] at h ⊢
 rw [bits_or64 _ _ (by omega) (by omega),Int.toNat_natCast,Int.toNat_natCast,← Nat.two_pow_add_eq_or_of_lt hb]
 simp
end Go.Sh
namespace Go.Sh
open Go Go.RowKit
abbrev Next (w w':World):Prop:=Below w.heap.size w w'
theorem _root_.Go.RowKit.Below.on {a b c:World} (h:Below a.heap.size a b) (k:Below b.heap.size b c):Below a.heap.size a c:=h.trans (k.mono h.size)
theorem _root_.Go.RowKit.Below.drawn {B:Nat} {w:World}:Below B w { w with drawn:=w.drawn + 1 }:=⟨rfl,rfl,rfl,rL,fun _ _=>rfl⟩
def BoxIs (w:World) (g:Nat) (cs:List Value):Prop:=∀ w',Below w.heap.size w w' → ∀ (i:Nat) (v:Value),cs[i]? = some v → w'.cell? ⟨g,i,none⟩ = some v
theorem BoxIs.next {w w':World} {g:Nat} {cs:List Value} (h:BoxIs w g cs) (hb:Below w.heap.size w w'):BoxIs w' g cs:=
 fun w2 h2=>h w2 (Below.on hb h2)
theorem box_in {P:Program} {w:World} {K:VK} {T T':TypeId} {x:Value} {cs:List Value} (hx:x.cells = cs.toArray)
  (k:∀ g W,Below w.heap.size w W → w.heap.size ≤ g → BoxIs W g cs → K (.pointer (some ⟨g,0,none⟩)) W):oM P (.box T (.tmp 0)) T' [x] K w:=by
 rw [oM_box]
 have e:(Instr.box T x).run P w = .ok (.pointer (some ⟨w.heap.size,0,none⟩)) (w.alloc (.cells cs.toArray T)):=by
  rw [← hx]; rfl
 rw [e]
 refine k _ _ ((Below.refl _ w).alloc (rL) _) (rL) (fun w' hb i v hi=>?_)
 have hlt:w.heap.size < (w.alloc (.cells cs.toArray T)).heap.size:=by simp
 rw [hb.cell hlt]
 have:=World.cell?_alloc_at (w:=w) cs.toArray T w.heap.size i rfl
 rw [this]
 simpa using hi
def I64 (n:Int):Prop:=-9223372036854775808 ≤ n ∧ n < 9223372036854775808
def intC (n:Int):List Value:=[.int .i64 n]
structure Ints (w:World) (v:Value) (l:List Int):Prop where
 row:RowR intC 1 w v l
 rng:∀ n ∈ l,I64 n
 len:l.length ≤ 9223372036854775807
theorem Ints.next {w w':World} {v:Value} {l:List Int} (h:Ints w v l) (hb:Below w.heap.size w w'):Ints w' v l:=
 ⟨h.row.keep hb.size (fun i _ hi=>hb.block i hi),h.rng,h.len⟩
theorem Ints.nil (w:World):Ints w (.slice none 0 0) []:=⟨⟨none,0,rfl,fun _=>⟨rfl,rfl⟩,.inl rfl⟩,by simp,by simp⟩
theorem Ints.isSlice {w:World} {v:Value} {l:List Int} (h:Ints w v l):∃ ad c,v = .slice ad l.length c:=by
 obtain ⟨⟨ad,c,hv,_⟩,_⟩:=h; exact ⟨ad,c,hv⟩
theorem flat_int (l:List Int):flat intC l = l.map (fun n=>Value.int .i64 n):=by
 induction l with
 | nil=>rfl
 | cons a l ih=>rw [flat_cons,ih]; rfl
theorem Ints.at {w:World} {ad:Option Addr} {n c:Nat} {l:List Int} (h:Ints w (.slice ad n c) l) {i:Nat} (hi:i < l.length) :
  ∃ b o,ad = some ⟨b,o,none⟩ ∧ b < w.heap.size ∧ (∀ w',Below w.heap.size w w' → w'.cell? ⟨b,o + i,none⟩ = some (.int .i64 l[i])) ∧ I64 l[i] ∧ n = l.length:=by
 obtain ⟨⟨ad',c',hv,h0,hc⟩,hr,_⟩:=h
 cases hv
 rcases hc with rfl | ⟨b,o,rfl,hlt,hc⟩
 ·simp at hi
 ·refine ⟨b,o,rfl,hlt,fun w' hb=>?_,hr _ (List.getElem_mem hi),rfl⟩
  rw [hb.cell hlt]
  exact hc i _ (by rw [flat_int]; simp [hi])
theorem Ints.of_owns {w:World} {B:Nat} {e:TypeId} {v:Value} {l:List Int} (h:w.ownsRow B e 1 v l.length (flat intC l)) (hr:∀ n ∈ l,I64 n) (hl:l.length ≤ 9223372036854775807):Ints w v l:=
 ⟨RowR.of_owns h,hr,hl⟩
@[go_sem] theorem oM_makeFunc2 {P:Program} {K:VK} {w:World} (fn:Fn) (T:TypeId) (x y:Value):oM P (.makeFunc fn #[] #[.tmp 0,.tmp 1]) T [x,y] K w = K (.func fn #[] #[x,y]) w:=oM_of_run (by simp [xop,execOp,evalL,evE,Instr.makeFunc])
@[go_sem] theorem oM_makeFunc01 {P:Program} {K:VK} {w:World} (fn:Fn) (T:TypeId) (x:Value):oM P (.makeFunc fn #[] #[.tmp 0]) T [x] K w = K (.func fn #[] #[x]) w:=oM_of_run (by simp [xop,execOp,evalL,evE,Instr.makeFunc])
end Go.Sh
namespace Go.Sh
open Go
section
variable {P:Program} {K:VK} {w:World} {A B:Prop} {p:Prop} [Decidable p] {b c:Bool} {m:(VK) → WK} {T:TypeId} {x y v:Value} {C:WK} {KQ:Value → Prop}
theorem idGd {g:Bool} (h:gdM g m K w):gdM g m K w:=h
theorem idGdD {q:Prop} {d:Decidable q} (h:gdM (gd (.bool (@decide q d)) c) m K w):gdM (gd (.bool (@decide q d)) c) m K w:=h
theorem idGdN {q:Prop} {d:Decidable q} (h:gdM (gd (.bool (!@decide q d)) c) m K w):gdM (gd (.bool (!@decide q d)) c) m K w:=h
theorem idPick (h:oM P (.pick (.tmp 0) (.tmp 1) (.tmp 2)) T [v,x,y] K w):oM P (.pick (.tmp 0) (.tmp 1) (.tmp 2)) T [v,x,y] K w:=h
theorem idCond (h:condM v A B):condM v A B:=h
theorem idO {o:Op} {l:List Value} (h:oM P o T l K w):oM P o T l K w:=h
theorem idOQ {o:Op} {l:List Value} (h:oQ P o T l C KQ):oQ P o T l C KQ:=h
theorem zF (k:m K w) (h:p:=by first|assumption|omega):gdM (gd (.bool (decide p)) true) m K w:=gdt_pos h k
theorem zG (k:K undef w) (h:¬p:=by first|assumption|omega):gdM (gd (.bool (decide p)) true) m K w:=gdt_neg h k
theorem zI (k:m K w) (h:¬p:=by first|assumption|omega):gdM (gd (.bool (decide p)) false) m K w:=gdf_pos h k
theorem zJ (k:K undef w) (h:p:=by first|assumption|omega):gdM (gd (.bool (decide p)) false) m K w:=gdf_neg h k
theorem zL (k:m K w) (h:¬p:=by first|assumption|omega):gdM (gd (.bool (!decide p)) true) m K w:=gdtn_pos h k
theorem zM (k:K undef w) (h:p:=by first|assumption|omega):gdM (gd (.bool (!decide p)) true) m K w:=gdtn_neg h k
theorem zO (k:m K w) (h:p:=by first|assumption|omega):gdM (gd (.bool (!decide p)) false) m K w:=gdfn_pos h k
theorem zP (k:K undef w) (h:¬p:=by first|assumption|omega):gdM (gd (.bool (!decide p)) false) m K w:=gdfn_neg h k
theorem zS (k:K undef w) (h:b = true:=by assumption):gdM (gd (.bool (!b)) true) m K w:=gdtbn_neg h k
theorem zT (k:m K w) (h:b = true:=by assumption):gdM (gd (.bool (!b)) false) m K w:=gdfbn_pos h k
theorem zA (k:m K w):gdM (gd (.bool true) true) m K w:=gdtT k
theorem zB (k:K undef w):gdM (gd (.bool false) true) m K w:=gdtF k
theorem zC (k:m K w):gdM (gd (.bool false) false) m K w:=gdfF k
theorem zD (k:K undef w):gdM (gd (.bool true) false) m K w:=gdfT k
theorem zE (k:K undef w):gdM (gd undef c) m K w:=gdu k c
theorem zH (h1:p → m K w) (h2:¬p → K undef w):gdM (gd (.bool (decide p)) true) m K w:=gdt_split h1 h2
theorem zK (h1:p → K undef w) (h2:¬p → m K w):gdM (gd (.bool (decide p)) false) m K w:=gdf_split h1 h2
theorem zQ (h1:p → m K w) (h2:¬p → K undef w):gdM (gd (.bool (!decide p)) false) m K w:=gdfn_split h1 h2
theorem yB (k:K x w):oM P (.pick (.tmp 0) (.tmp 1) (.tmp 2)) T [.bool true,x,y] K w:=pickT k
theorem yC (k:K y w):oM P (.pick (.tmp 0) (.tmp 1) (.tmp 2)) T [.bool false,x,y] K w:=pickF k
theorem yD (k:K x w) (h:p:=by first|assumption|omega):oM P (.pick (.tmp 0) (.tmp 1) (.tmp 2)) T [.bool (decide p),x,y] K w:=pick_pos h k
theorem yE (k:K y w) (h:¬p:=by first|assumption|omega):oM P (.pick (.tmp 0) (.tmp 1) (.tmp 2)) T [.bool (decide p),x,y] K w:=pick_neg h k
theorem yF (k:K x w) (h:¬p:=by first|assumption|omega):oM P (.pick (.tmp 0) (.tmp 1) (.tmp 2)) T [.bool (!decide p),x,y] K w:=pickn_pos h k
theorem yG (k:K y w) (h:p:=by first|assumption|omega):oM P (.pick (.tmp 0) (.tmp 1) (.tmp 2)) T [.bool (!decide p),x,y] K w:=pickn_neg h k
theorem yL (k:A):condM (.bool true) A B:=condT k
theorem yM (k:B):condM (.bool false) A B:=condF k
theorem yN (k:A) (h:p:=by first|assumption|omega):condM (.bool (decide p)) A B:=cond_pos h k
theorem yO (k:B) (h:¬p:=by first|assumption|omega):condM (.bool (decide p)) A B:=cond_neg h k
theorem yQ (k:A) (h:¬p:=by first|assumption|omega):condM (.bool (!decide p)) A B:=condn_pos h k
theorem yR (k:B) (h:p:=by first|assumption|omega):condM (.bool (!decide p)) A B:=condn_neg h k
theorem yP (h1:p → A) (h2:¬p → B):condM (.bool (decide p)) A B:=condM_dec h1 h2
theorem wA (k:KQ x):oQ P (.pick (.tmp 0) (.tmp 1) (.tmp 2)) T [.bool true,x,y] C KQ:=pickQT k
theorem wB (k:KQ y):oQ P (.pick (.tmp 0) (.tmp 1) (.tmp 2)) T [.bool false,x,y] C KQ:=pickQF k
theorem wC (k:KQ x) (h:p:=by first|assumption|omega):oQ P (.pick (.tmp 0) (.tmp 1) (.tmp 2)) T [.bool (decide p),x,y] C KQ:=pickQ_pos h k
theorem wD (k:KQ y) (h:¬p:=by first|assumption|omega):oQ P (.pick (.tmp 0) (.tmp 1) (.tmp 2)) T [.bool (decide p),x,y] C KQ:=pickQ_neg h k
end
end Go.Sh
namespace Go.Proofs
abbrev tabName:String:=(YtlmhhgemiknhdaaGreatDoor.Rows.proofTellsRow.laid.map (fun x=>x.1)).getD 2 default
open Go.Shelf
def Tryz.lays169_ren:Go.Shelf.Ren:=⟨fun | 169=>206 | n=>n,fun | 70=>211 | 9=>9 | 0=>0 | 72=>213 | 37=>202 | 127=>234 | 3=>3 | 5=>5 | n=>n,fun | n=>n⟩
theorem Tryz.lays169:Go.Proofs.Lays.n169 Tryz.prog Tryz.lays169_ren:={
 mixed:=by kernel_rfl
 f169:=Tryz.func206.trans (congrArg some (by kernel_rfl))
 t0:=Tryz.underlying0
 a0:=Tryz.isAgg0
 z0:=Tryz.sizeOf0
 v0:=Tryz.zeroValue0
 t3:=Tryz.underlying3
 a3:=Tryz.isAgg3
 z3:=Tryz.sizeOf3
 v3:=Tryz.zeroValue3
 t9:=Tryz.underlying9
 a9:=Tryz.isAgg9
 z9:=Tryz.sizeOf9
 v9:=Tryz.zeroValue9
 t37:=Tryz.underlying202
 a37:=Tryz.isAgg202
 z37:=Tryz.sizeOf202
 v37:=Tryz.zeroValue202
 t70:=Tryz.underlying211
 a70:=Tryz.isAgg211
 z70:=Tryz.sizeOf211
 v70:=Tryz.zeroValue211
 t72:=Tryz.underlying213
 a72:=Tryz.isAgg213
 z72:=Tryz.sizeOf213
 v72:=Tryz.zeroValue213
 t127:=Tryz.underlying234
 a127:=Tryz.isAgg234
 z127:=Tryz.sizeOf234
 v127:=Tryz.zeroValue234 }
theorem Tryz.Builder_Extra_169:Builder.Extra Tryz.prog Tryz.lays169_ren:={
 sizeBuilder:=by kernel_rfl
 liesBuilder:=by kernel_rfl
 t5:=Tryz.underlying5
 a5:=Tryz.isAgg5
 z5:=Tryz.sizeOf5
 v5:=Tryz.zeroValue5
 infoByte:=by kernel_rfl
 cellsByte:=by kernel_rfl
 sizeByte:=by kernel_rfl
 neB5:=by decide }
open Go.RowKit in
theorem Tryz.Builder_String_any (B b:Nat) (l:List UInt8) (w:World) (h:Lib.IsBuilder 213 5 B b (Lib.byteCells l) w) (hBw:B ≤ w.heap.size) :
  Calls Tryz.prog 206 #[.pointer (some ⟨b,0,none⟩)] w fun e w'=>e = .returned (.string ⟨l.toArray⟩) ∧ Below B w w':=Any.Builder_String_any Tryz.lays169 Tryz.Builder_Extra_169 B b l w h hBw
def Tryz.laysM171_ren:Go.Shelf.Ren:=⟨fun | 171=>196 | 243=>215 | 246=>231 | 283=>241 | 284=>242 | 285=>243 | 286=>244 | 129=>236 | 317=>252 | 318=>253 | 319=>254 | 320=>255 | 337=>259 | 338=>220 | n=>n,fun | 3=>3 | 9=>9 | 2=>2 | 4=>4 | 171=>248 | 0=>0 | 53=>150 | 37=>202 | 5=>5 | 173=>250 | 212=>261 | 51=>223 | 20=>20 | 213=>262 | 46=>191 | 232=>275 | 233=>244 | n=>n,fun | 17=>3 | 18=>7 | 19=>2 | n=>n⟩
theorem Tryz.laysM171:Go.Proofs.LaysM.n171 Tryz.prog Tryz.laysM171_ren:={
 mixed:=by kernel_rfl
 f129:=Tryz.func236.trans (congrArg some (by kernel_rfl))
 f171:=Tryz.func196.trans (congrArg some (by kernel_rfl))
 f243:=Tryz.func215.trans (congrArg some (by kernel_rfl))
 f246:=Tryz.func231.trans (congrArg some (by kernel_rfl))
 f283:=Tryz.func241.trans (congrArg some (by kernel_rfl))
 f284:=Tryz.func242.trans (congrArg some (by kernel_rfl))
 f285:=Tryz.func243.trans (congrArg some (by kernel_rfl))
 f286:=Tryz.func244.trans (congrArg some (by kernel_rfl))
 f317:=Tryz.func252.trans (congrArg some (by kernel_rfl))
 f318:=Tryz.func253.trans (congrArg some (by kernel_rfl))
 f319:=Tryz.func254.trans (congrArg some (by kernel_rfl))
 f320:=Tryz.func255.trans (congrArg some (by kernel_rfl))
 f337:=Tryz.func259.trans (congrArg some (by kernel_rfl))
 f338:=Tryz.func220.trans (congrArg some (by kernel_rfl))
 t0:=Tryz.underlying0
 a0:=Tryz.isAgg0
 z0:=Tryz.sizeOf0
 v0:=Tryz.zeroValue0
 t2:=Tryz.underlying2
 a2:=Tryz.isAgg2
 z2:=Tryz.sizeOf2
 v2:=Tryz.zeroValue2
 t3:=Tryz.underlying3
 a3:=Tryz.isAgg3
 z3:=Tryz.sizeOf3
 v3:=Tryz.zeroValue3
 t4:=Tryz.underlying4
 a4:=Tryz.isAgg4
 z4:=Tryz.sizeOf4
 v4:=Tryz.zeroValue4
 t5:=Tryz.underlying5
 a5:=Tryz.isAgg5
 z5:=Tryz.sizeOf5
 v5:=Tryz.zeroValue5
 t9:=Tryz.underlying9
 a9:=Tryz.isAgg9
 z9:=Tryz.sizeOf9
 v9:=Tryz.zeroValue9
 t20:=Tryz.underlying20
 a20:=Tryz.isAgg20
 z20:=Tryz.sizeOf20
 v20:=Tryz.zeroValue20
 t37:=Tryz.underlying202
 a37:=Tryz.isAgg202
 z37:=Tryz.sizeOf202
 v37:=Tryz.zeroValue202
 t46:=Tryz.underlying191
 a46:=Tryz.isAgg191
 z46:=Tryz.sizeOf191
 v46:=Tryz.zeroValue191
 t51:=Tryz.underlying223
 a51:=Tryz.isAgg223
 z51:=Tryz.sizeOf223
 v51:=Tryz.zeroValue223
 t53:=Tryz.underlying150
 a53:=Tryz.isAgg150
 z53:=Tryz.sizeOf150
 v53:=Tryz.zeroValue150
 t171:=Tryz.underlying248
 a171:=Tryz.isAgg248
 z171:=Tryz.sizeOf248
 v171:=Tryz.zeroValue248
 t173:=Tryz.underlying250
 a173:=Tryz.isAgg250
 z173:=Tryz.sizeOf250
 v173:=Tryz.zeroValue250
 t212:=Tryz.underlying261
 a212:=Tryz.isAgg261
 z212:=Tryz.sizeOf261
 v212:=Tryz.zeroValue261
 t213:=Tryz.underlying262
 a213:=Tryz.isAgg262
 z213:=Tryz.sizeOf262
 t232:=Tryz.underlying275
 a232:=Tryz.isAgg275
 z232:=Tryz.sizeOf275
 v232:=Tryz.zeroValue275
 t233:=Tryz.underlying244
 a233:=Tryz.isAgg244
 z233:=Tryz.sizeOf244
 v233:=Tryz.zeroValue244
 g17:=by kernel_rfl
 g18:=by kernel_rfl
 g19:=by kernel_rfl
 i0:=by kernel_rfl
 i2:=by kernel_rfl
 i3:=by kernel_rfl
 i4:=by kernel_rfl
 i5:=by kernel_rfl
 i9:=by kernel_rfl
 i20:=by kernel_rfl
 i37:=by kernel_rfl
 i46:=by kernel_rfl
 i51:=by kernel_rfl
 i53:=by kernel_rfl
 i171:=by kernel_rfl
 i173:=by kernel_rfl
 i212:=by kernel_rfl
 i232:=by kernel_rfl
 i233:=by kernel_rfl
 m17:=by kernel_rfl
 m18:=by kernel_rfl
 m19:=by kernel_rfl }
open Go.RowKit Go.Sort Go.Lib in
theorem Tryz.strconv_Itoa (n:Int) (h0:-9223372036854775808 ≤ n) (h1:n ≤ 9223372036854775807) (w:World) (htab:Lib.TabIs Tryz.prog w tabName .u64 Lib.pow10Tab) :
  Calls Tryz.prog 196 #[.int .i64 n] w fun e w'=>e = .returned (.string ⟨(Lib.itoa n).toArray⟩) ∧ ∃ k os,w' = grow (w.drewN k) os:=Any.strconv_Itoa Tryz.laysM171 n h0 h1 w htab
end Go.Proofs
namespace CodeSpec
open Go.Lib
abbrev Bytes:=List UInt8
def InR (n:Int):Prop:=-9223372036854775808 ≤ n ∧ n ≤ 9223372036854775807
def encInt (n:Int):Bytes:=itoa n ++ [59]
def encText (s:Bytes):Bytes:=itoa s.length ++ 58 :: (s ++ [44])
def encList (l:List Bytes):Bytes:=itoa l.length ++ 91 :: (l.flatten ++ [93])
def encNums (l:List Int):Bytes:=encList (l.map encInt)
structure Rd where
 rest:Bytes
 bad:Bool
theorem decDigits_len (u:Nat) (k:Nat) (hk:1 ≤ k) (h:u < 10 ^ k):(decDigits u).length ≤ k:=by
 induction k generalizing u with
 | zero=>omega
 | succ k ih=>
  rw [decDigits]
  split
  ·simp
  ·rename_i h10
   have hk1:1 ≤ k:=by
    rcases Nat.eq_zero_or_pos k with rfl | h0
    ·simp at h; omega
    ·exact h0
   have:=ih (u / 10) hk1 (by rw [Nat.pow_succ] at h; omega)
   simp only [List.length_append,List.length_singleton]
   omega
theorem itoa_len (n:Int) (h:InR n):(itoa n).length ≤ 20:=by
 obtain ⟨h1,h2⟩:=h
 unfold itoa
 split
 ·have:=decDigits_len n.natAbs 19 (by omega) (by omega)
  simp; omega
 ·have:=decDigits_len n.toNat 19 (by omega) (by omega)
  omega
def Rd.ok (r:Rd):Prop:=r.bad = true → r.rest = []
end CodeSpec
namespace Go.Proofs.Cd
open Go Go.Sh Go.RowKit Go.Lib CodeSpec
theorem ba_extract (l:List UInt8) (i j:Nat):(⟨l.toArray⟩:ByteArray).extract i j = ⟨((l.take j).drop i).toArray⟩:=by
 apply ByteArray.ext
 rw [← Array.toList_inj,ByteArray.data_extract,Array.toList_extract,List.extract_eq_take_drop]
 simp [List.drop_take]
theorem ba_inj (a b:List UInt8):((⟨a.toArray⟩:ByteArray) = ⟨b.toArray⟩) = (a = b):=by
 simp
theorem ba_byteAt (l:List UInt8) (k:Nat):byteAt ⟨l.toArray⟩ k = l.getD k 0:=by
 simp [byteAt]
attribute [go_sem] ba_size ba_append ba_extract ba_byteAt ba_inj
theorem K_eq {K:VK} {w:World} {a b:Value} (h:K a w) (e:b = a):K b w:=by rw [e]; exact h
theorem call_of_calls {f:FuncId} {args:Array Value} {w:World} {v:Value} {Q:WK} {K:VK} (h:Calls Tryz.prog f args w fun e w'=>e = .returned v ∧ Q w') (k:∀ w',Q w' → K v w'):callM Tryz.prog f args K w:=
 Calls.mono h (fun _ w' ⟨he,hq⟩=>⟨v,he,k w' hq⟩)
structure Laid (w:World):Prop where
 tab:TabIs Tryz.prog w tabName .u64 pow10Tab
 size:8 ≤ w.heap.size
structure LaidE (w:World):Prop extends Laid w where
 syn:∃ te pe,w.cell? ⟨5,0,none⟩ = some (.iface te pe)
 ran:∃ te pe,w.cell? ⟨6,0,none⟩ = some (.iface te pe)
theorem gTab:Tryz.prog.globalNamed tabName = some 3:=by kernel_rfl
theorem Laid.keep {w w':World} (h:Laid w) (hb:∀ k,k < 8 → w'.heap[k]? = w.heap[k]?) (hs:w.heap.size ≤ w'.heap.size):Laid w':=by
 refine ⟨?_,Nat.le_trans h.size hs⟩
 have h1:=h.tab
 unfold TabIs World.var? at h1 ⊢
 rw [gTab] at h1 ⊢
 simp only [Option.bind_some] at h1 ⊢
 rw [hb _ (by omega)]
 exact h1
theorem Laid.below {w w':World} (h:Laid w) {B:Nat} (hb:Below B w w') (hB:8 ≤ B):Laid w':=h.keep (fun k hk=>hb.block k (by omega)) hb.size
theorem Laid.grown {w w':World} (h:Laid w) {b:Nat} (hg:w.grownBy w' (some b)) (hb:8 ≤ b):Laid w':=h.keep (fun k hk=>hg.block k (by have:=h.size; omega) (by simp; omega)) hg.size
theorem LaidE.keep {w w':World} (h:LaidE w) (hb:∀ k,k < 8 → w'.heap[k]? = w.heap[k]?) (hs:w.heap.size ≤ w'.heap.size):LaidE w':=by
 have hc:∀ k,k < 8 → w'.cell? ⟨k,0,none⟩ = w.cell? ⟨k,0,none⟩:=fun k hk=>World.cell?_of_block (w:=w) (hb k hk)
 refine ⟨h.toLaid.keep hb hs,?_,?_⟩
 ·rw [hc _ (by omega)]; exact h.syn
 ·rw [hc _ (by omega)]; exact h.ran
theorem LaidE.below {w w':World} (h:LaidE w) {B:Nat} (hb:Below B w w') (hB:8 ≤ B):LaidE w':=h.keep (fun k hk=>hb.block k (by omega)) hb.size
theorem LaidE.grown {w w':World} (h:LaidE w) {b:Nat} (hg:w.grownBy w' (some b)) (hb:8 ≤ b):LaidE w':=h.keep (fun k hk=>hg.block k (by have:=h.toLaid.size; omega) (by simp; omega)) hg.size
theorem grown_of_below {w w':World} (h:Below w.heap.size w w') (b:Option Nat):w.grownBy w' b:=⟨h.os,h.tape,h.output,h.size,fun k hk _=>h.block k hk⟩
theorem below_of_grown {B:Nat} {w w':World} {row:Option Nat} (h:w.grownBy w' row) (hB:B ≤ w.heap.size) (hr:∀ k,row = some k → B ≤ k):Below B w w':=
 (Below.refl B w).grown h hB hr
theorem itoa_ok (n:Int) (hn:InR n) {K:VK} {w:World} (hl:Laid w) (k:∀ w',Below w.heap.size w w' → K (.string ⟨(itoa n).toArray⟩) w'):callM Tryz.prog 196 #[.int .i64 n] K w:=by
 refine call_of_calls (Tryz.strconv_Itoa n hn.1 hn.2 w hl.tab) ?_
 rintro w' ⟨d,os,rfl⟩
 exact k _ (below_grow _ _ (rL) _ _)
theorem infoB:Tryz.prog.info? 213 = some Tryz.t213:=by kernel_rfl
theorem sizeB:Tryz.t213.size = 2:=by kernel_rfl
theorem liesB (b:Nat):liesAt Tryz.prog Tryz.prog.depth 213 (2 / Tryz.prog.cellsOf 213) (⟨b,0,none⟩:Addr).off 213 1 = true:=by kernel_rfl
theorem runNE (x:Value) (w:World):(callFunc 235 #[x]).run Tryz.prog w = .ok (.value x) w:=by kernel_rfl
theorem extNE {x:Value} {K:VK} {w:World} (k:K x w):extM Tryz.prog 235 #[x] K w:=by
 unfold extM opM
 rw [runNE]
 exact k
theorem copyCheck_nil (B b:Nat) (bs:List Value) (w:World) (h:BuilderAt 213 5 B b (.pointer none) bs w) {K:VK}
  (k:K (.tuple #[]) (w.setCell ⟨b,0,none⟩ (.pointer (some ⟨b,0,none⟩)))):callM Tryz.prog 221 #[.pointer (some ⟨b,0,none⟩)] K w:=by
 apply sh_221_ok
 unfold sh_221
 have hc:=h.cell0
 have hf:=h.frozen0
 have hv1:(convert 211 245 (.pointer (some ⟨b,0,none⟩))).run Tryz.prog w = .ok (.pointer (some ⟨b,0,none⟩)) w:=
  run_to_unsafe (P:=Tryz.prog) (w:=w) (a:=⟨b,0,none⟩) Tryz.underlying211 Tryz.underlying245 (t:=213) (j:=Tryz.t213) infoB (by rw [sizeB]; omega) h.shape (by show (0:Nat) < 2; omega)
 have hv2:(convert 245 211 (.pointer (some ⟨b,0,none⟩))).run Tryz.prog w = .ok (.pointer (some ⟨b,0,none⟩)) w:=
  run_from_unsafe (P:=Tryz.prog) (w:=w) (a:=⟨b,0,none⟩) Tryz.underlying245 Tryz.underlying211 (u:=213) (j:=Tryz.t213) infoB h.shape (liesB b)
 repeat (any_goals (first
 | (with_reducible refine extNE ?_)
 | (with_reducible refine yL ?_)
 | ((with_reducible refine oG fun X Y=>?_); simp [go_sem,oM_eqc,eqGuard,hc,hf,hv1,hv2]; apply Y; clear Y X)))
 exact k
theorem copyCheck_self (B b:Nat) (bs:List Value) (w:World) (h:BuilderAt 213 5 B b (.pointer (some ⟨b,0,none⟩)) bs w) {K:VK}
  (k:K (.tuple #[]) w):callM Tryz.prog 221 #[.pointer (some ⟨b,0,none⟩)] K w:=by
 apply sh_221_ok
 unfold sh_221
 have hc:=h.cell0
 have hf:=h.frozen0
 have hn:=run_neq_ptr_same (P:=Tryz.prog) (w:=w) (tp:=211) (te:=213) (j:=Tryz.t213) (a:=⟨b,0,none⟩) Tryz.underlying211 infoB
 repeat (any_goals (first
 | (with_reducible refine yM ?_)
 | ((with_reducible refine oG fun X Y=>?_); simp [go_sem,oM_eqc,oM_net,eqGuard,hc,hf,hn]; apply Y; clear Y X)))
 exact k
theorem copyCheck_ok (B b:Nat) (bs:List Value) (w:World) (h:IsBuilder 213 5 B b bs w) {K:VK}
  (k:∀ w',BuilderAt 213 5 B b (.pointer (some ⟨b,0,none⟩)) bs w' → w.grownBy w' (some b) → w'.heap.size = w.heap.size → K (.tuple #[]) w'):callM Tryz.prog 221 #[.pointer (some ⟨b,0,none⟩)] K w:=by
 rcases h with h | h
 ·refine copyCheck_nil B b bs w h (k _ (h.used _) ⟨rfl,rfl,rfl,by simp [World.setCell],fun i _ hi=>Below.heap_setCell _ _ _ _ (fun e=>hi (by simp [e]))⟩ (by simp [World.setCell]))
 ·exact copyCheck_self B b bs w h (k _ h ⟨rfl,rfl,rfl,rL,fun _ _ _=>rfl⟩ rfl)
theorem ownsRow_slice {w:World} {B:Nat} {e:TypeId} {sz:Nat} {v:Value} {n:Nat} {xs:List Value} (h:w.ownsRow B e sz v n xs):∃ a m c,v = .slice a m c:=by
 rcases h.2 with ⟨h,_⟩ | ⟨g,cap,cur,h,_⟩
 ·exact ⟨_,_,_,h⟩
 ·exact ⟨_,_,_,h⟩
theorem builderString_ok (B b:Nat) (l:List UInt8) (w:World) (h:IsBuilder 213 5 B b (Lib.byteCells l) w) (hBw:B ≤ w.heap.size) {K:VK} (k:∀ w',Below B w w' → K (.string ⟨l.toArray⟩) w'):callM Tryz.prog 206 #[.pointer (some ⟨b,0,none⟩)] K w:=
 call_of_calls (Tryz.Builder_String_any B b l w h hBw) k
theorem writeString_ok (B b:Nat) (l s:List UInt8) (w:World) (h:IsBuilder 213 5 B b (Lib.byteCells l) w) (hlen:l.length + s.length ≤ 140737488355328) (hBw:B ≤ w.heap.size) {K:VK}
  (k:∀ w',IsBuilder 213 5 B b (Lib.byteCells (l ++ s)) w' → Below B w w' → K (.tuple #[.int .i64 s.length,.nilIface]) w'):callM Tryz.prog 205 #[.pointer (some ⟨b,0,none⟩),.string ⟨s.toArray⟩] K w:=by
 apply sh_205_ok
 unfold sh_205
 refine copyCheck_ok B b _ w h ?_
 intro w1 h1 hg1 hs1
 obtain ⟨hB,v,hb,hown,hne⟩:=h1
 have hc1:w1.cell? ⟨b,1,none⟩ = some v:=by simp [World.cell?,hb]
 have hbl:Below B w w1:=below_of_grown hg1 hBw (fun k hk=>by cases hk; exact hB)
 have hbl5:(Lib.byteCells l).length = l.length:=by simp [Lib.byteCells]
 repeat (any_goals ((with_reducible refine oG fun X Y=>?_); simp [go_sem,hc1]; apply Y; clear Y X))
 obtain ⟨v',w2,hrun,ho,hg,_⟩:=run_append_own_string (P:=Tryz.prog) w1 B 202 9 202 5 Tryz.t5 Tryz.underlying202 Tryz.underlying9 (by kernel_rfl) (by kernel_rfl) (by kernel_rfl) (by kernel_rfl) v (Lib.byteCells l).length (Lib.byteCells l) hown ⟨s.toArray⟩ (by unfold maxLen; rw [ba_size]; omega) (by rw [ba_size]; omega) (by omega)
 rw [oM_value (S:=Builtin.append_ #[202,9] 202 #[v,.string ⟨s.toArray⟩]) (by simp [xop,execOp,evalL,evE,resolve,invoke,builtin]),hrun,ok_iff]
 have hb2:w2.heap[b]? = some (.cells #[.pointer (some ⟨b,0,none⟩),v] 213 (0,0)):=by
  rw [hg.block b (by have:=(Array.getElem?_eq_some_iff.1 hb).1; exact this) (fun e=>hne e.symm)]
  exact hb
 have hc2:w2.cell? ⟨b,1,none⟩ = some v:=by simp [World.cell?,hb2]
 have hf2:w2.frozen? ⟨b,1,none⟩ = false:=by simp [World.frozen?,hb2]
 have ho':w2.ownsRow B 5 1 v' (Lib.byteCells (l ++ s)).length (Lib.byteCells (l ++ s)):=by
  have e:Lib.byteCells l ++ strCells ⟨s.toArray⟩ = Lib.byteCells (l ++ s):=by simp [Lib.byteCells,strCells]
  have e2:(Lib.byteCells l).length + (⟨s.toArray⟩:ByteArray).size = (Lib.byteCells (l ++ s)).length:=by rw [ba_size]; simp [Lib.byteCells]
  rw [e,e2] at ho
  exact ho
 have hput:=BuilderAt.put (p:=.pointer (some ⟨b,0,none⟩)) hB hb2 ho' (by decide)
 have hbl2:Below B w w2:=hbl.trans (below_of_grown hg (by omega) (fun k hk=>(hown.lt k hk).1))
 obtain ⟨av,nv,cv,rfl⟩:=ownsRow_slice ho
 repeat (any_goals ((with_reducible refine oG fun X Y=>?_); simp [go_sem,hc2,hf2]; apply Y; clear Y X))
 exact k _ (.inr hput) (hbl2.setCell hB _)
end Go.Proofs.Cd
namespace Go.Proofs.Cd
open Go Go.Sh Go.RowKit Go.Lib CodeSpec
def intV (n:Int):Value:=.int .i64 n
def RowOf {α:Type} (mk:α → Value) (w:World) (v:Value) (l:List α):Prop:=
 ∃ ad c,v = .slice ad l.length c ∧ (l = [] ∨ ∃ b o,ad = some ⟨b,o,none⟩ ∧ b < w.heap.size ∧ ∀ (i:Nat) (h:i < l.length),w.cell? ⟨b,o + i,none⟩ = some (mk l[i]))
theorem RowOf.below {α:Type} {mk:α → Value} {w w':World} {v:Value} {l:List α} (h:RowOf mk w v l) (hb:Below w.heap.size w w'):RowOf mk w' v l:=by
 obtain ⟨ad,c,rfl,h⟩:=h
 refine ⟨ad,c,rfl,h.imp id ?_⟩
 rintro ⟨b,o,rfl,hlt,hc⟩
 exact ⟨b,o,rfl,lL hlt hb.size,fun i hi=>by rw [hb.cell hlt]; exact hc i hi⟩
theorem RowOf.nil {α:Type} (mk:α → Value) (w:World) (ad:Option Addr) (c:Nat):RowOf mk w (.slice ad 0 c) []:=⟨ad,c,rfl,.inl rfl⟩
theorem addr_add (b o k:Nat):(⟨b,o,none⟩:Addr).add k = ⟨b,o + k,none⟩:=by
 unfold Addr.add
 split
 ·rename_i h0; rw [h0]; simp
 ·rfl
theorem RowOf.of_owns {α:Type} {mk:α → Value} {w:World} {B:Nat} {e:TypeId} {v:Value} {l:List α} (h:w.ownsRow B e 1 v l.length (l.map mk)):RowOf mk w v l:=by
 rcases h.2 with ⟨rfl,h0⟩ | ⟨g,cap,cur,rfl,hb,hg,hn,hm,hcs,ht⟩
 ·obtain rfl:l = []:=List.eq_nil_of_length_eq_zero h0
  exact RowOf.nil _ _ _ _
 ·refine ⟨_,cap,rfl,.inr ⟨g,0,rfl,(Array.getElem?_eq_some_iff.1 hg).1,fun i hi=>?_⟩⟩
  have:(l.map mk)[i]? = some (mk l[i]):=by simp [hi]
  rw [← ht,List.getElem?_take_of_lt (by omega)] at this
  unfold World.cell?
  rw [hg]
  simpa using this
theorem idx22 {b o n c k:Nat} (hk:k < n) (w:World):(Instr.indexAt 24 (.slice (some ⟨b,o,none⟩) n c) (.int .i64 k)).run Tryz.prog w = .ok (.pointer (some ⟨b,o + k,none⟩)) w:=by
 rw [run_indexAt_slice (h:=by kernel_rfl),if_pos (by omega)]
 have hs:(sizeOf (Tryz.prog.elem 24)).run Tryz.prog w = .ok 1 w:=by kernel_rfl
 rw [hs]
 simp only [Result.andThen,Int.toNat_natCast,addr_add,Nat.mul_one]
theorem encInt_len (n:Int) (h:InR n):(encInt n).length ≤ 21:=by
 have:=itoa_len n h
 simp [encInt]; omega
theorem pInt_ok (n:Int) (hn:InR n) {K:VK} {w:World} (hl:Laid w) (k:∀ w',Below w.heap.size w w' → K (.string ⟨(encInt n).toArray⟩) w'):callM Tryz.prog 175 #[.int .i64 n] K w:=by
 apply sh_175_ok
 unfold sh_175
 refine itoa_ok n hn hl ?_
 intro w1 hb
 have:=itoa_len n hn
 repeat (any_goals ((with_reducible refine oG fun X Y=>?_); simp [go_sem]; refine And.intro (by omega) (Y _ _ ?_); clear Y X))
 exact K_eq (k _ hb) (by simp [encInt])
theorem encText_len (s:List UInt8) (hs:(s.length:Int) ≤ 9223372036854775807):(encText s).length ≤ s.length + 22:=by
 have:=itoa_len s.length ⟨by omega,hs⟩
 simp [encText]; omega
theorem flat_snoc {α:Type} (enc:α → List UInt8) (xs:List α) (k:Nat) (h:k < xs.length):((xs.take (k + 1)).map enc).flatten = ((xs.take k).map enc).flatten ++ enc xs[k]:=by
 rw [List.take_add_one,gE h]
 simp only [Option.toList_some,List.map_append,List.map_cons,List.map_nil,List.flatten_append,List.flatten_cons,List.flatten_nil,List.append_nil]
theorem flat_le {α:Type} (enc:α → List UInt8) (xs:List α) (k:Nat):((xs.take k).map enc).flatten.length ≤ (xs.map enc).flatten.length:=by
 conv=>rhs; rw [← List.take_append_drop k xs]
 rw [List.map_append,List.flatten_append,List.length_append]
 omega
theorem IsBuilder.below {T e:TypeId} {B b:Nat} {bs:List Value} {w w':World} (h:IsBuilder T e B b bs w) (hb:Below w.heap.size w w'):IsBuilder T e B b bs w':=by
 have key:∀ p,BuilderAt T e B b p bs w → BuilderAt T e B b p bs w':=by
  rintro p ⟨hB,v,hh,hown,hne⟩
  have hlt:=(Array.getElem?_eq_some_iff.1 hh).1
  refine ⟨hB,v,by rw [hb.block _ hlt]; exact hh,?_,hne⟩
  exact hown.kept (grown_of_below hb none) (by
   rcases hown.2 with ⟨rfl,_⟩ | ⟨g,cap,cur,rfl,_⟩
   ·left; rfl
   ·right; simp [Value.ownBlock])
 exact h.imp (key _) (key _)
theorem encodedNum_ok (xs:List (Int)) (v:Value) {K:VK} {w:World} (hl:Laid w) (hrow:RowOf intV w v xs) (hx:∀ x ∈ xs,InR x) (hlen:(encList (xs.map encInt)).length < 2^40)
  (k:∀ w',Below w.heap.size w w' → K (.string ⟨(encList (xs.map encInt)).toArray⟩) w'):callM Tryz.prog 174 #[v,.func (.func 175) #[] #[]] K w:=by
 apply sh_174_ok
 unfold sh_174
 have hsz:(encList (xs.map encInt)).length = (itoa (xs.length:Nat)).length + 1 + ((xs.map encInt).flatten).length + 1:=by simp [encList]; omega
 have hxl:xs.length ≤ (xs.map encInt).flatten.length:=by
  rw [List.length_flatten]
  clear hrow hlen hsz k
  induction xs with
  | nil=>simp
  | cons x xs ih=>
   have:=ih (fun y hy=>hx y (List.mem_cons_of_mem _ hy))
   have h1:1 ≤ (encInt x).length:=by simp [encInt]; try omega
   simp only [List.length_cons,List.map_cons,List.sum_cons]
   omega
 have hin:InR (xs.length:Nat):=⟨by omega,by omega⟩
 have hil:=itoa_len _ hin
 obtain ⟨ad,c,rfl,hcell⟩:=hrow
 have hl0:Laid (w.alloc (.cells #[.pointer none,.slice none 0 0] 213)):=hl.below ((Below.refl _ _).alloc (rL) _) hl.size
 repeat (any_goals ((with_reducible refine oG fun X Y=>?_); simp [go_sem]; apply Y; clear Y X))
 refine itoa_ok _ hin hl0 (fun w1 hb1=>?_)
 have hb1':Below w.heap.size w w1:=((Below.refl _ _).alloc (rL) _).trans (hb1.mono (by simp))
 have hB1:=IsBuilder.below (fresh_isBuilder 213 5 w) hb1
 have hz1:=hb1'.size
 repeat (any_goals ((with_reducible refine oG fun X Y=>?_); simp [go_sem]; refine And.intro (by omega) (Y _ _ ?_); clear Y X))
 refine writeString_ok w.heap.size _ [] _ _ hB1 (by simp; omega) (by omega) ?_
 intro w2 hB2 hb2
 have hb2':=hb1'.trans hb2
 repeat (any_goals ((with_reducible refine oG fun X Y=>?_); simp [go_sem]; apply Y; clear Y X))
 refine ⟨fun l w'=>∃ (x:Value) (k:Nat),l = [x,.int .i64 k] ∧ k ≤ xs.length ∧ IsBuilder 213 5 w.heap.size w.heap.size (Lib.byteCells (itoa (xs.length:Nat) ++ 91 :: ((xs.take k).map encInt).flatten)) w' ∧ Below w.heap.size w w',fun l _=>xs.length - (match l with | [_,.int _ n]=>n.toNat | _=>0),⟨_,0,rfl,by omega,by simpa using hB2,hb2'⟩,?_⟩
 rintro _ _ w3 ⟨x,j,rfl,hj,hB3,hb3⟩
 have hz3:=hb3.size
 simp only [List.getD_cons_zero,List.getD_cons_succ]
 have hfl:=flat_le encInt xs j
 by_cases hlt:j < xs.length
 ·rcases hcell with rfl | ⟨b,o,rfl,hbw,hcells⟩
  ·simp at hlt
  have hc:=hcells j hlt
  rw [← hb3.cell hbw] at hc
  simp only [intV] at hc
  have hix:=idx22 (b:=b) (o:=o) (c:=c) hlt w3
  have hl3:Laid w3:=hl.below hb3 hl.size
  have hP:=hx xs[j] (List.getElem_mem hlt)
  have hfl1:=flat_le encInt xs (j + 1)
  rw [flat_snoc _ _ _ hlt,List.length_append] at hfl1
  repeat (any_goals (first
  | (rw [kI,oM_indexAddr,hix,rM_ok])
  | (with_reducible refine yN ?_)
  | ((with_reducible refine oG fun X Y=>?_); simp [go_sem,hc]; apply Y; clear Y X)))
  refine oM_callv1 (by kernel_rfl) ?_
  refine pInt_ok _ hP hl3 ?_
  intro w4 hb4
  have hz4:=hb4.size
  have hB4:IsBuilder 213 5 w.heap.size w.heap.size (Lib.byteCells (itoa (xs.length:Nat) ++ 91 :: ((xs.take j).map encInt).flatten)) w4:=IsBuilder.below hB3 hb4
  refine writeString_ok w.heap.size _ _ _ _ hB4 (by simp only [List.length_append,List.length_cons]; omega) (by omega) ?_
  intro w5 hB5 hb5
  repeat (any_goals ((with_reducible refine oG fun X Y=>?_); simp [go_sem]; (try simp (disch:=omega) only [wrapI64,wrapU8,wrapU32,wrapU64]); apply Y; clear Y X))
  refine ⟨⟨_,j + 1,rfl,hlt,?_,(hb3.trans (hb4.mono hz3)).trans hb5⟩,by simp; omega⟩
  rw [flat_snoc _ _ _ hlt]
  simpa using hB5
 ·obtain rfl:j = xs.length:=by omega
  rw [List.take_length] at hB3 hfl
  obtain ⟨F,hF⟩:∃ F,F = (xs.map encInt).flatten:=⟨_,rfl⟩
  rw [← hF] at hB3 hfl hsz
  repeat (any_goals (first
  | (with_reducible refine yM ?_)
  | ((with_reducible refine oG fun X Y=>?_); simp [go_sem]; apply Y; clear Y X)))
  refine builderString_ok _ _ _ _ hB3 (by omega) ?_
  intro w4 hb4
  repeat (any_goals ((with_reducible refine oG fun X Y=>?_); simp [go_sem]; refine And.intro (by omega) (Y _ _ ?_); clear Y X))
  exact K_eq (k _ (hb3.trans hb4)) (by simp [encList,hF])
theorem pNums_ok (xs:List (Int)) (v:Value) {K:VK} {w:World} (hl:Laid w) (hrow:RowOf intV w v xs) (hx:∀ x ∈ xs,InR x) (hlen:(encList (xs.map encInt)).length < 2^40)
  (k:∀ w',Below w.heap.size w w' → K (.string ⟨(encList (xs.map encInt)).toArray⟩) w'):callM Tryz.prog 114 #[v] K w:=by
 apply sh_114_ok
 unfold sh_114
 skip
 exact encodedNum_ok xs v hl hrow hx hlen k
end Go.Proofs.Cd
namespace Go.Proofs.Cd
open Go Go.Sh Go.RowKit Go.Lib CodeSpec
def IsRd (w:World) (b:Nat) (r:Rd):Prop:=w.heap[b]? = some (.cells #[.string ⟨r.rest.toArray⟩,.bool r.bad] 193 (0,0))
theorem IsRd.c0 {w:World} {b:Nat} {r:Rd} (h:IsRd w b r):w.cell? ⟨b,0,none⟩ = some (.string ⟨r.rest.toArray⟩):=by
 unfold IsRd at h; simp [World.cell?,h]
theorem IsRd.c1 {w:World} {b:Nat} {r:Rd} (h:IsRd w b r):w.cell? ⟨b,1,none⟩ = some (.bool r.bad):=by
 unfold IsRd at h; simp [World.cell?,h]
theorem IsRd.fz {w:World} {b:Nat} {r:Rd} (h:IsRd w b r) (i:Nat):w.frozen? ⟨b,i,none⟩ = false:=by
 unfold IsRd at h; simp [World.frozen?,h]
theorem IsRd.lt {w:World} {b:Nat} {r:Rd} (h:IsRd w b r):b < w.heap.size:=(Array.getElem?_eq_some_iff.1 h).1
theorem heap_set {w:World} {b i:Nat} {cs:Array Value} {T:TypeId} {f:Nat × Nat} (h:w.heap[b]? = some (.cells cs T f)) (u:Value):(w.setCell ⟨b,i,none⟩ u).heap[b]? = some (.cells (cs.setIfInBounds i u) T f):=by
 simp [World.setCell,Array.getElem?_modify,h]
theorem IsRd.set1 {w:World} {b:Nat} {r:Rd} (h:IsRd w b r) (t:Bool):IsRd (w.setCell ⟨b,1,none⟩ (.bool t)) b ⟨r.rest,t⟩:=by
 unfold IsRd at h ⊢
 rw [heap_set h]; rfl
theorem IsRd.below {w w':World} {b:Nat} {r:Rd} (h:IsRd w b r) {B:Nat} (hb:Below B w w') (hB:b < B):IsRd w' b r:=by
 unfold IsRd at h ⊢
 rw [hb.block _ hB]; exact h
theorem IsRd.drew {w:World} {b:Nat} {r:Rd} (h:IsRd w b r):IsRd w.drew b r:=h
end Go.Proofs.Cd
namespace Go.Proofs.Cd
open Go Go.Sh Go.RowKit Go.Lib CodeSpec
end Go.Proofs.Cd
namespace Go.Proofs.Cd
open Go Go.Sh Go.RowKit Go.Lib CodeSpec
theorem IsRd.own {w2 w3:World} {b B:Nat} {e:TypeId} {sz n:Nat} {v:Value} {xs:List Value} {r:Rd} (h:IsRd w2 b r) (hown:w2.ownsRow B e sz v n xs) (hB:b < B) (hg:w2.grownBy w3 v.ownBlock):IsRd w3 b r:=by
 have hlt:=h.lt
 unfold IsRd at h ⊢
 rw [hg.block b hlt (fun e=>by have:=(hown.lt b e.symm).1; omega)]
 exact h
end Go.Proofs.Cd
namespace FdSpec
def okN (n:Int):Prop:=1 ≤ n ∧ n < 2305843009213693952
instance (n:Int):Decidable (okN n):=inferInstanceAs (Decidable (_ ∧ _))
def addM (n a b:Int):Int:=if okN n then (a + b) % n else 0
def subM (n a b:Int):Int:=if okN n then (a - b) % n else 0
def mulM (n a b:Int):Int:=if okN n then a * b % n else 0
def pw (n a:Int) (b:Nat):Int:=a ^ b % n
def euc (n:Int):Nat → Int → Int → Int → Int → Int × Int
 | 0,r,_,x,_=>(r,x)
 | k + 1,r,s,x,y=>if s = 0 then (r,x) else euc n k s (r % s) y (subM n x (mulM n (r / s) y))
def eucAll (n r s x y:Int):Int × Int:=euc n (s.toNat + 1) r s x y
def invM (n a:Int):Option Int:=if okN n then (if (eucAll n n (a % n) 0 1).1 = 1 then some ((eucAll n n (a % n) 0 1).2 % n) else none) else none
def powM (n a b:Int):Int:=
 if okN n then (if 0 ≤ b then pw n a b.toNat else match invM n a with | some x=>pw n x (-b).toNat | none=>0) else 0
theorem euc_zero (n:Int) (k:Nat) (r x y:Int):euc n k r 0 x y = (r,x):=by
 cases k <;> simp [euc]
theorem euc_more (n:Int) (k:Nat) (r s x y:Int) (hs:0 ≤ s) (hk:s.toNat + 1 ≤ k):euc n k r s x y = eucAll n r s x y:=by
 unfold eucAll
 induction k using Nat.strongRecOn generalizing r s x y with
 | _ k ih=>
  cases k with
  | zero=>omega
  | succ k=>
   by_cases h0:s = 0
   ·subst h0; simp [euc]
   ·have h1:=Int.emod_nonneg r h0
    have h2:=Int.emod_lt_of_pos r (b:=s) (by omega)
    have e1:euc n (k + 1) r s x y = euc n k s (r % s) y (subM n x (mulM n (r / s) y)):=by
     rw [euc,if_neg h0]
    have e2:euc n (s.toNat + 1) r s x y = euc n s.toNat s (r % s) y (subM n x (mulM n (r / s) y)):=by
     rw [euc,if_neg h0]
    rw [e1,e2]
    have h3:(r % s).toNat + 1 ≤ s.toNat:=by omega
    rw [ih k (by omega) s (r % s) _ _ h1 (by omega)]
    by_cases hks:s.toNat = k
    ·rw [hks,ih k (by omega) s (r % s) _ _ h1 (by omega)]
    ·rw [ih s.toNat (by omega) s (r % s) _ _ h1 h3]
theorem euc_step (n r s x y:Int) (hs:0 < s):eucAll n r s x y = eucAll n s (r % s) y (subM n x (mulM n (r / s) y)):=by
 have h1:=Int.emod_nonneg r (b:=s) (by omega)
 have h2:=Int.emod_lt_of_pos r (b:=s) hs
 rw [← euc_more n s.toNat s (r % s) _ _ h1 (by omega)]
 unfold eucAll
 rw [euc,if_neg (by omega)]
def tz:Nat → Nat → Nat
 | 0,_=>0
 | k + 1,m=>if m % 2 = 0 then tz k (m / 2) + 1 else 0
def mrUp (n:Int):Nat → Int → Bool
 | 0,_=>false
 | k + 1,x=>if x = n - 1 then true else mrUp n k (x * x % n)
def passes (n b:Int):Bool:=
 let k:=tz 64 (n - 1).toNat
 let x:=pw n b ((n - 1).toNat / 2 ^ k)
 if x = 1 then true else mrUp n k x
def smallP:List Int:=[2,3,5,7,11,13,17,19,23,29,31,37]
def primeM (n:Int):Bool:=
 if n < 2 ∨ 2305843009213693952 ≤ n then false
 else match smallP.find? (fun p=>decide (n % p = 0)) with
  | some p=>decide (n = p)
  | none=>smallP.all (fun p=>passes n p)
structure Grp where
 P:Int
 Q:Int
 G:Int
deriving DecidableEq
def validG (g:Grp):Bool:=
 if g.Q < 5 ∨ 1152921504606846976 ≤ g.Q ∨ g.P ≠ 2 * g.Q + 1 ∨ g.G < 2 ∨ g.P ≤ g.G then false
 else primeM g.Q && primeM g.P && decide (pw g.P g.G g.Q.toNat = 1)
def elemG (g:Grp) (x:Int):Bool:=decide (1 ≤ x) && decide (x < g.P) && validG g && decide (pw g.P x g.Q.toNat = 1)
def powerG (g:Grp) (x k:Int):Int:=if okN g.P ∧ okN g.Q then pw g.P x (k % g.Q).toNat else 0
def timesG (g:Grp) (a b:Int):Int:=if okN g.Q then mulM g.P a b else 0
def overG (g:Grp) (a b:Int):Int:=timesG g a (powM g.P b (-1))
def prodL (g:Grp):Int → List (Int × Int) → Int
 | out,[]=>out
 | out,(b,e) :: l=>prodL g (mulM g.P out (powerG g b e)) l
def prodG (g:Grp) (bases exps:List Int):Int × Bool:=
 if okN g.P ∧ okN g.Q ∧ bases.length = exps.length then (prodL g (1 % g.P) (bases.zip exps),true) else (0,false)
end FdSpec
namespace FdSpec
theorem emod_pow (a n:Int) (k:Nat):(a % n) ^ k % n = a ^ k % n:=by
 induction k with
 | zero=>rw [Int.pow_zero,Int.pow_zero]
 | succ k ih=>rw [Int.pow_succ,Int.pow_succ,Int.mul_emod,ih,Int.emod_emod_of_dvd a (Int.dvd_refl n),← Int.mul_emod]
theorem pow_half (a:Int) (b:Nat):a ^ b = (a * a) ^ (b / 2) * a ^ (b % 2):=by
 have h1:b = 2 * (b / 2) + b % 2:=(Nat.div_add_mod b 2).symm
 have h2:∀ k,a ^ (2 * k) = (a * a) ^ k:=by
  intro k
  induction k with
  | zero=>rw [Nat.mul_zero,Int.pow_zero,Int.pow_zero]
  | succ k ih=>rw [Nat.mul_succ,Int.pow_succ,Int.pow_succ,Int.pow_succ,ih,Int.mul_assoc]
 conv=>lhs; rw [h1]
 rw [Int.pow_add,h2]
theorem pw_even (n a out:Int) (b:Nat) (hb:b % 2 = 0):out * (a * a % n) ^ (b / 2) % n = out * a ^ b % n:=by
 rw [pow_half a b,hb,Int.pow_zero,Int.mul_one,Int.mul_emod,emod_pow,← Int.mul_emod]
theorem pw_odd (n a out:Int) (b:Nat) (hb:b % 2 = 1):out * a % n * (a * a % n) ^ (b / 2) % n = out * a ^ b % n:=by
 have e:a ^ (1:Nat) = a:=by rw [show (1:Nat) = 0 + 1 from rfl,Int.pow_succ,Int.pow_zero,Int.one_mul]
 rw [pow_half a b,hb,e,Int.mul_emod,Int.emod_emod_of_dvd _ (Int.dvd_refl n),emod_pow,← Int.mul_emod]
 congr 1
 rw [Int.mul_comm ((a * a) ^ (b / 2)) a,← Int.mul_assoc]
theorem pw_emod (n a:Int) (b:Nat):pw n (a % n) b = pw n a b:=emod_pow a n b
theorem pw_nonneg (n a:Int) (b:Nat) (hn:0 < n):0 ≤ pw n a b ∧ pw n a b < n:=⟨Int.emod_nonneg _ (by omega),Int.emod_lt_of_pos _ hn⟩
theorem tz_lt (k m:Nat) (hm:0 < m) (h:m < 2 ^ k):tz k m < k ∧ ∃ j,m = 2 ^ tz k m * (2 * j + 1):=by
 induction k generalizing m with
 | zero=>omega
 | succ k ih=>
  unfold tz
  split
  ·rename_i h2
   obtain ⟨h3,j,h4⟩:=ih (m / 2) (by omega) (by rw [Nat.pow_succ] at h; omega)
   refine ⟨by omega,j,?_⟩
   have h5:m = 2 * (m / 2):=by omega
   rw [Nat.pow_succ,Nat.mul_comm (2 ^ _) 2,Nat.mul_assoc,← h4]
   exact h5
  ·exact ⟨by omega,m / 2,by rw [Nat.pow_zero]; omega⟩
theorem addM_eq (n a b:Int) (hn:okN n):(a % n + b % n) % n = addM n a b:=by
 rw [addM,if_pos hn,← Int.add_emod]
theorem subM_eq (n a b:Int) (hn:okN n):(a % n + n - b % n) % n = subM n a b:=by
 rw [subM,if_pos hn,Int.sub_emod,Int.add_emod,Int.emod_self,Int.add_zero,Int.emod_emod_of_dvd _ (Int.dvd_refl n),Int.emod_emod_of_dvd _ (Int.dvd_refl n),Int.emod_emod_of_dvd _ (Int.dvd_refl n),← Int.sub_emod]
theorem mulM_eq (n a b:Int) (hn:okN n):a % n * (b % n) % n = mulM n a b:=by
 rw [mulM,if_pos hn,← Int.mul_emod]
theorem mulM_range (n a b:Int) (hn:okN n):0 ≤ mulM n a b ∧ mulM n a b < n:=by
 rw [mulM,if_pos hn]; exact ⟨Int.emod_nonneg _ (by have:=hn.1; omega),Int.emod_lt_of_pos _ (by have:=hn.1; omega)⟩
theorem subM_range (n a b:Int) (hn:okN n):0 ≤ subM n a b ∧ subM n a b < n:=by
 rw [subM,if_pos hn]; exact ⟨Int.emod_nonneg _ (by have:=hn.1; omega),Int.emod_lt_of_pos _ (by have:=hn.1; omega)⟩
theorem addM_range (n a b:Int) (hn:okN n):0 ≤ addM n a b ∧ addM n a b < n:=by
 rw [addM,if_pos hn]; exact ⟨Int.emod_nonneg _ (by have:=hn.1; omega),Int.emod_lt_of_pos _ (by have:=hn.1; omega)⟩
theorem residue_eq (n a:Int) (hn:0 < n):(if a.tmod n < 0 then a.tmod n + n else a.tmod n) = a % n:=by
 have h1:=Int.emod_nonneg a (b:=n) (by omega)
 have h2:=Int.emod_lt_of_pos a hn
 have h3:=Int.tmod_add_mul_tdiv a n
 have h4:=Int.emod_add_mul_ediv a n
 have h5:a.tmod n < n:=by have:=Int.tmod_lt_of_pos a hn; omega
 have h6:-n < a.tmod n:=by
  have:=Int.lt_tmod_of_pos a hn
  omega
 have h7:n ∣ a.tmod n - a % n:=by
  refine ⟨a / n - a.tdiv n,?_⟩
  rw [Int.mul_sub]; omega
 obtain ⟨k,hk⟩:=h7
 have hk2:k = 0 ∨ k = -1 ∨ 1 ≤ k ∨ k ≤ -2:=by omega
 rcases hk2 with rfl | rfl | hk2 | hk2
 ·simp at hk; split <;> omega
 ·rw [Int.mul_neg,Int.mul_one] at hk; split <;> omega
 ·have:=Int.mul_le_mul_of_nonneg_left hk2 (by omega:0 ≤ n); omega
 ·have:=Int.mul_le_mul_of_nonneg_left hk2 (by omega:0 ≤ n); omega
end FdSpec
namespace FdSpec
structure Digit (h l u d q r:Nat):Prop where
 sum:q * h + r = u
 up:u * 4294967296 + d < (q + 1) * (h * 4294967296 + l)
 le:q ≤ 4294967297
section
variable {h l u d q r:Nat}
theorem digit_start (hh:2147483648 ≤ h) (hh2:h < 4294967296) (hl:l < 4294967296) (hd:d < 4294967296) (hu:u < h * 4294967296 + l):Digit h l u d (u / h) (u - u / h * h):=by
 have h1:u / h * h ≤ u:=Nat.div_mul_le_self u h
 have h2:u < (u / h + 1) * h:=by rw [Nat.add_mul,Nat.one_mul]; have:=Nat.mod_lt u (show h > 0 by omega); have:=Nat.div_add_mod u h; rw [Nat.mul_comm] at this; omega
 have h3:u / h < 4294967298:=by
  rw [Nat.div_lt_iff_lt_mul (by omega)]
  omega
 refine ⟨by omega,?_,by omega⟩
 have h4:(u + 1) * 4294967296 ≤ (u / h + 1) * h * 4294967296:=Nat.mul_le_mul_right _ h2
 have h5:(u / h + 1) * (h * 4294967296 + l) = (u / h + 1) * h * 4294967296 + (u / h + 1) * l:=by rw [Nat.mul_add,Nat.mul_assoc]
 rw [h5]
 omega
theorem digit_test (D:Digit h l u d q r):(4294967296 * r + d < q * l) ↔ u * 4294967296 + d < q * (h * 4294967296 + l):=by
 have h5:q * (h * 4294967296 + l) = q * h * 4294967296 + q * l:=by rw [Nat.mul_add,Nat.mul_assoc]
 have:=D.sum
 rw [h5]
 generalize q * h = a at *
 generalize q * l = b at *
 omega
theorem digit_big (hu:u < h * 4294967296 + l) (hd:d < 4294967296) (hq:4294967296 ≤ q):u * 4294967296 + d < q * (h * 4294967296 + l):=by
 have h1:4294967296 * (h * 4294967296 + l) ≤ q * (h * 4294967296 + l):=Nat.mul_le_mul_right _ hq
 have h2:(u + 1) * 4294967296 ≤ (h * 4294967296 + l) * 4294967296:=Nat.mul_le_mul_right _ hu
 omega
theorem digit_pos (D:Digit h l u d q r) (ht:u * 4294967296 + d < q * (h * 4294967296 + l)):0 < q:=by
 rcases Nat.eq_zero_or_pos q with rfl | h
 ·simp at ht
 ·exact h
theorem digit_step (D:Digit h l u d q r) (ht:u * 4294967296 + d < q * (h * 4294967296 + l)):Digit h l u d (q - 1) (r + h):=by
 have hq:=digit_pos D ht
 have:=D.sum
 refine ⟨?_,?_,by have:=D.le; omega⟩
 ·obtain ⟨p,rfl⟩:∃ p,q = p + 1:=⟨q - 1,by omega⟩
  rw [Nat.add_mul] at this
  simp only [Nat.add_sub_cancel]
  omega
 ·rw [show q - 1 + 1 = q by omega]; exact ht
theorem digit_end (D:Digit h l u d q r) (ht:¬ u * 4294967296 + d < q * (h * 4294967296 + l)):q = (u * 4294967296 + d) / (h * 4294967296 + l):=
 (Nat.div_eq_of_lt_le (by omega) D.up).symm
theorem digit_break (D:Digit h l u d q r) (hl:l < 4294967296) (hq:q ≤ 4294967296) (hr:4294967296 ≤ r):¬ u * 4294967296 + d < q * (h * 4294967296 + l):=by
 rw [← digit_test D]
 have h1:q * l ≤ 4294967296 * 4294967295:=Nat.mul_le_mul hq (by omega)
 omega
end
theorem div_total (x y s:Nat):x * 2 ^ s % (y * 2 ^ s) / 2 ^ s = x % y:=by
 rw [Nat.mul_mod_mul_right,Nat.mul_div_cancel _ (Nat.pow_pos (by omega))]
theorem two_digits (N d y:Nat):(N * 4294967296 + d) % y = ((N % y) * 4294967296 + d) % y:=by
 have h:N * 4294967296 % y = N % y * 4294967296 % y:=by simp
 rw [Nat.add_mod,h,← Nat.add_mod]
theorem split32 (X D:Nat):(X * 4294967296 + D / 4294967296) * 4294967296 + D % 4294967296 = X * 18446744073709551616 + D:=by
 rw [Nat.add_mul,Nat.mul_assoc,Nat.add_assoc,Nat.mul_comm (D / 4294967296),Nat.div_add_mod]
theorem norm_gen (a c M y s:Nat) (h:a * 4294967296 + c = M * 2 ^ s):(a % (y * 2 ^ s) * 4294967296 + c) % (y * 2 ^ s) / 2 ^ s = M % y:=by
 have t:=two_digits a c (y * 2 ^ s)
 have u:=div_total M y s
 rw [h] at t
 rw [← t,u]
theorem norm_rest (hi lo y s X D:Nat) (hN:X * 18446744073709551616 + D = (hi * 18446744073709551616 + lo) * 2 ^ s):(((X * 4294967296 + D / 4294967296) % (y * 2 ^ s)) * 4294967296 + D % 4294967296) % (y * 2 ^ s) / 2 ^ s = (hi * 18446744073709551616 + lo) % y:=by
 rw [← split32 X D] at hN
 exact norm_gen _ _ _ y s hN
end FdSpec
namespace Go.Proofs
open Go Go.Sh Go.RowKit FdSpec
section
variable {K:VK} {w:World}
theorem K_eq {a b:Value} (h:K a w) (e:b = a):K b w:=e ▸ h
@[reducible] def u64V (n:Int):Value:=.int .u64 n
theorem valid_ok (n:Int) (h:K (.bool (decide (okN n))) w):callM Tryz.prog 123 #[.int .i64 n] K w:=by
 apply sh_123_ok
 unfold sh_123
 have e:decide (okN n) = (decide (1 ≤ n) && decide (n < 2305843009213693952)):=by
  by_cases h1:1 ≤ n <;> by_cases h2:n < 2305843009213693952 <;> simp [okN,h1,h2]
 rw [e] at h
 by_cases h1:1 ≤ n
 ·repeat (any_goals (first
  | (with_reducible first|refine pureM_in ?_|refine zA ?_|refine yB ?_)
  | ((with_reducible refine oG fun X Y=>?_); simp [go_sem,h1]; apply Y; clear Y X)))
  simpa [h1] using h
 ·repeat (any_goals (first
  | (with_reducible first|refine zB ?_|refine yC ?_)
  | ((with_reducible refine oG fun X Y=>?_); simp [go_sem,h1]; apply Y; clear Y X)))
  simpa [h1] using h
theorem residue_ok (n a:Int) (hn:okN n) (h:K (.int .u64 (a % n)) w):callM Tryz.prog 124 #[.int .i64 n,.int .i64 a] K w:=by
 apply sh_124_ok
 unfold sh_124
 obtain ⟨h1,h2⟩:=hn
 have e:=residue_eq n a (by omega)
 have h3:=Int.emod_nonneg a (b:=n) (by omega)
 have h4:=Int.emod_lt_of_pos a (b:=n) (by omega)
 obtain ⟨r,hr⟩:∃ r,r = a.tmod n:=⟨_,rfl⟩
 rw [← hr] at e
 repeat (any_goals (first
 | (with_reducible ((refine idCond ?_); refine yP (fun hg=>?_) fun hg=>?_))
 | ((with_reducible refine oG fun X Y=>?_); simp [go_sem,← hr]; (try simp (disch:=omega) only [wrapI64,wrapU8,wrapU32,wrapU64]); (first|refine Y _ _ ?_|refine And.intro (by omega) (Y _ _ ?_)); clear Y X)))
 ·rw [if_pos (by assumption)] at e; rw [e]; exact h
 ·rw [if_neg (by assumption)] at e; rw [e]; exact h
theorem natN (x:Int) (h:0 ≤ x):∃ a:Nat,x = a:=⟨x.toNat,by omega⟩
theorem maskU (a:Nat) (ha:a < 18446744073709551616):bits .and .u64 (a:Int) 4294967295 = ((a % 4294967296:Nat):Int):=by
 rw [mask64 32 a 4294967295 (by omega) (by decide) (by omega)]; omega
theorem divU (a:Nat):(a:Int) / 4294967296 = ((a / 4294967296:Nat):Int):=by omega
theorem modU (a:Nat):(a:Int) % 4294967296 = ((a % 4294967296:Nat):Int):=by omega
theorem mulU (a b:Nat):(a:Int) * (b:Int) = ((a * b:Nat):Int):=(Int.natCast_mul a b).symm
theorem addU (a b:Nat):(a:Int) + (b:Int) = ((a + b:Nat):Int):=(Int.natCast_add a b).symm
theorem wrapU (a:Nat) (ha:a < 18446744073709551616):IntKind.u64.wrap (a:Int) = (a:Int):=wrapU64 _ (by omega) (by omega)
theorem wrapUM (a:Nat):IntKind.u64.wrap (a:Int) = ((a % 18446744073709551616:Nat):Int):=by rw [IntKind.wrap_u64]; omega
theorem mul64_ok (x y:Int) (hx:0 ≤ x ∧ x < 18446744073709551616) (hy:0 ≤ y ∧ y < 18446744073709551616) (h:K (.tuple #[.int .u64 (x * y / 18446744073709551616),.int .u64 (x * y % 18446744073709551616)]) w):callM Tryz.prog 182 #[.int .u64 x,.int .u64 y] K w:=by
 apply sh_182_ok
 unfold sh_182
 have mx:=mask64 32 x 4294967295 (by omega) (by decide) hx
 have my:=mask64 32 y 4294967295 (by omega) (by decide) hy
 obtain ⟨a,rfl⟩:=natN x hx.1
 obtain ⟨b,rfl⟩:=natN y hy.1
 repeat (any_goals ((with_reducible refine oG fun X Y=>?_); simp [go_sem,mx,my]; apply Y; clear Y X))
 clear mx my
 have hx:a < 18446744073709551616:=by omega
 have hy:b < 18446744073709551616:=by omega
 obtain ⟨bd,bt,bw,hhi⟩:=Lib.mul64_hi a b hx hy
 have ba:=Lib.half_mul_le (a:=a / 4294967296) (b:=b / 4294967296) (by omega) (by omega)
 have bb:=Lib.half_mul_le (a:=a / 4294967296) (b:=b % 4294967296) (by omega) (by omega)
 have bc:=Lib.half_mul_le (a:=a % 4294967296) (b:=b / 4294967296) (by omega) (by omega)
 have ba':a / 4294967296 * (b / 4294967296) < 18446744073709551616:=by omega
 have bb':a / 4294967296 * (b % 4294967296) < 18446744073709551616:=by omega
 have bc':a % 4294967296 * (b / 4294967296) < 18446744073709551616:=by omega
 have bh1:a / 4294967296 * (b / 4294967296) + (a / 4294967296 * (b % 4294967296) + a % 4294967296 * (b % 4294967296) / 4294967296) / 4294967296 < 18446744073709551616:=by omega
 have bh:a / 4294967296 * (b / 4294967296) + (a / 4294967296 * (b % 4294967296) + a % 4294967296 * (b % 4294967296) / 4294967296) / 4294967296 + ((a / 4294967296 * (b % 4294967296) + a % 4294967296 * (b % 4294967296) / 4294967296) % 4294967296 + a % 4294967296 * (b / 4294967296)) / 4294967296 < 18446744073709551616:=by omega
 simp only [modU,divU,mulU,addU,wrapU _ bd,wrapU _ bb',wrapU _ bt,maskU _ bt,wrapU _ bc',wrapU _ bw,wrapU _ ba',wrapU _ bh1,wrapU _ bh,wrapUM (a * b)]
 rw [hhi]
 exact K_eq h (by simp)
def len8:ByteArray:=⟨#[0,1,2,2,3,3,3,3,4,4,4,4,4,4,4,4,5,5,5,5,5,5,5,5,5,5,5,5,5,5,5,5,6,6,6,6,6,6,6,6,6,6,6,6,6,6,6,6,6,6,6,6,6,6,6,6,6,6,6,6,6,6,6,6,7,7,7,7,7,7,7,7,7,7,7,7,7,7,7,7,7,7,7,7,7,7,7,7,7,7,7,7,7,7,7,7,7,7,7,7,7,7,7,7,7,7,7,7,7,7,7,7,7,7,7,7,7,7,7,7,7,7,7,7,7,7,7,7,8,8,8,8,8,8,8,8,8,8,8,8,8,8,8,8,8,8,8,8,8,8,8,8,8,8,8,8,8,8,8,8,8,8,8,8,8,8,8,8,8,8,8,8,8,8,8,8,8,8,8,8,8,8,8,8,8,8,8,8,8,8,8,8,8,8,8,8,8,8,8,8,8,8,8,8,8,8,8,8,8,8,8,8,8,8,8,8,8,8,8,8,8,8,8,8,8,8,8,8,8,8,8,8,8,8,8,8,8,8,8,8,8,8,8,8,8,8,8,8,8,8,8,8,8,8,8,8]⟩
theorem len8_size:len8.size = 256:=by decide +kernel
theorem len_bits (x:Nat) (hx:x < 256):x < 2 ^ (byteAt len8 x).toNat ∧ (x ≠ 0 → 1 ≤ (byteAt len8 x).toNat ∧ 2 ^ ((byteAt len8 x).toNat - 1) ≤ x) ∧ (byteAt len8 x).toNat ≤ 8 ∧ (x = 0 → (byteAt len8 x).toNat = 0):=by
 have:∀ x,x < 256 → x < 2 ^ (byteAt len8 x).toNat ∧ (x ≠ 0 → 1 ≤ (byteAt len8 x).toNat ∧ 2 ^ ((byteAt len8 x).toNat - 1) ≤ x) ∧ (byteAt len8 x).toNat ≤ 8 ∧ (x = 0 → (byteAt len8 x).toNat = 0):=by decide +kernel
 exact this x hx
theorem oM_index_len8 (i:Int) (T:TypeId):oM Tryz.prog (.index 9 (.tmp 0) (.tmp 1)) T [.string len8,.int .u8 i] = onM (0 ≤ i ∧ i < 256) (.int .u8 (byteAt len8 i.toNat).toNat):=by
 funext K w
 rw [oM_value (S:=Instr.index 9 (.string len8) (.int .u8 i)) rfl,run_index_string (P:=Tryz.prog) (w:=w) 9 len8 .u8 i (by kernel_rfl)]
 have e:=len8_size
 by_cases hi:0 ≤ i ∧ i < len8.size
 ·rw [dif_pos hi,ok_iff,← byteAt_get]
  exact propext ⟨fun hk=>⟨⟨hi.1,by omega⟩,hk⟩,fun ⟨_,hk⟩=>hk⟩
 ·rw [dif_neg hi]
  obtain ⟨e',w',he⟩:=halts Value Tryz.prog .u8 i len8.size .index w
  rw [he,halt_iff]
  exact propext ⟨fun h=>h.elim,fun ⟨h,_⟩=>hi ⟨h.1,by omega⟩⟩
theorem stage (x k s:Nat) (h:2 ^ s ≤ x / 2 ^ k):x / 2 ^ (k + s) = x / 2 ^ k / 2 ^ s ∧ 2 ^ (k + s) ≤ x:=by
 refine ⟨by rw [Nat.pow_add,Nat.div_div_eq_div_mul],?_⟩
 rw [Nat.pow_add,Nat.mul_comm]
 exact (Nat.le_div_iff_mul_le (Nat.pow_pos (by omega))).1 h
structure BitLen (x L:Nat):Prop where
 lt:x < 2 ^ L
 ge:x ≠ 0 → 1 ≤ L ∧ 2 ^ (L - 1) ≤ x
 le:L ≤ 64
def BlM (x B m:Nat) (w:World) (l:List Value) (w':World):Prop:=w' = w ∧ ∃ k:Nat,l = [.int .u64 ((x / 2 ^ k:Nat):Int),.int .i64 (k:Int)] ∧ x / 2 ^ k < B ∧ (k = 0 ∨ 2 ^ k ≤ x) ∧ k ≤ m
theorem len64_ok (x:Nat) (hx:x < 18446744073709551616) (h:∀ L,BitLen x L → K (.int .i64 (L:Nat)) w):callM Tryz.prog 236 #[.int .u64 (x:Int)] K w:=by
 apply sh_236_ok
 unfold sh_236
 rw [show (⟨#[0,1,2,2,3,3,3,3,4,4,4,4,4,4,4,4,5,5,5,5,5,5,5,5,5,5,5,5,5,5,5,5,6,6,6,6,6,6,6,6,6,6,6,6,6,6,6,6,6,6,6,6,6,6,6,6,6,6,6,6,6,6,6,6,7,7,7,7,7,7,7,7,7,7,7,7,7,7,7,7,7,7,7,7,7,7,7,7,7,7,7,7,7,7,7,7,7,7,7,7,7,7,7,7,7,7,7,7,7,7,7,7,7,7,7,7,7,7,7,7,7,7,7,7,7,7,7,7,8,8,8,8,8,8,8,8,8,8,8,8,8,8,8,8,8,8,8,8,8,8,8,8,8,8,8,8,8,8,8,8,8,8,8,8,8,8,8,8,8,8,8,8,8,8,8,8,8,8,8,8,8,8,8,8,8,8,8,8,8,8,8,8,8,8,8,8,8,8,8,8,8,8,8,8,8,8,8,8,8,8,8,8,8,8,8,8,8,8,8,8,8,8,8,8,8,8,8,8,8,8,8,8,8,8,8,8,8,8,8,8,8,8,8,8,8,8,8,8,8,8,8,8,8,8,8,8]⟩:ByteArray) = len8 from rfl]
 refine ⟨BlM x 4294967296 32 w,?_,?_⟩
 ·repeat (any_goals (first
  | (with_reducible ((refine idCond ?_); refine yP (fun hg=>?_) fun hg=>?_))
  | ((with_reducible refine oG fun X Y=>?_); simp [go_sem]; apply Y; clear Y X)))
  ·exact ⟨rfl,32,by simp,by omega,by omega,by omega⟩
  ·exact ⟨rfl,0,by simp,by simp; omega,by omega,by omega⟩
 rintro _ _ w1 ⟨e1,k,rfl,h1,h2,h3⟩
 rw [e1]
 clear e1 w1
 refine ⟨BlM x 65536 48 w,?_,?_⟩
 ·have hs:=stage x k 16
  obtain ⟨y,hy⟩:∃ y,y = x / 2 ^ k:=⟨_,rfl⟩
  rw [← hy] at hs h1 ⊢
  repeat (any_goals (first
  | (with_reducible ((refine idCond ?_); refine yP (fun hg=>?_) fun hg=>?_))
  | ((with_reducible refine oG fun X Y=>?_); simp [go_sem]; (try simp (disch:=omega) only [wrapI64,wrapU8,wrapU32,wrapU64]); apply Y; clear Y X)))
  ·have hs:=hs (by omega)
   exact ⟨rfl,k + 16,by rw [hs.1]; simp,by rw [hs.1]; omega,.inr hs.2,by omega⟩
  ·exact ⟨rfl,k,by rw [hy]; rfl,by omega,h2,by omega⟩
 clear h1 h2 h3 k
 rintro _ _ w1 ⟨e1,k,rfl,h1,h2,h3⟩
 rw [e1]
 clear e1 w1
 refine ⟨BlM x 256 56 w,?_,?_⟩
 ·have hs:=stage x k 8
  obtain ⟨y,hy⟩:∃ y,y = x / 2 ^ k:=⟨_,rfl⟩
  rw [← hy] at hs h1 ⊢
  repeat (any_goals (first
  | (with_reducible ((refine idCond ?_); refine yP (fun hg=>?_) fun hg=>?_))
  | ((with_reducible refine oG fun X Y=>?_); simp [go_sem]; (try simp (disch:=omega) only [wrapI64,wrapU8,wrapU32,wrapU64]); apply Y; clear Y X)))
  ·have hs:=hs (by omega)
   exact ⟨rfl,k + 8,by rw [hs.1]; simp,by rw [hs.1]; omega,.inr hs.2,by omega⟩
  ·exact ⟨rfl,k,by rw [hy]; rfl,by omega,h2,by omega⟩
 clear h1 h2 h3 k
 rintro _ _ w1 ⟨e1,k,rfl,h1,h2,h3⟩
 rw [e1]
 clear e1 w1
 obtain ⟨l1,l2,l3,l4⟩:=len_bits (x / 2 ^ k) h1
 have hL:BitLen x (k + (byteAt len8 (x / 2 ^ k)).toNat):=by
  generalize (byteAt len8 (x / 2 ^ k)).toNat = L at *
  have hp:0 < 2 ^ k:=Nat.pow_pos (by omega)
  refine ⟨?_,?_,by omega⟩
  ·rw [Nat.pow_add,Nat.mul_comm]
   exact (Nat.div_lt_iff_lt_mul hp).1 l1
  ·intro h0
   by_cases hy:x / 2 ^ k = 0
   ·rw [Nat.div_eq_zero_iff] at hy
    rcases h2 with rfl | h2 <;> simp at hy <;> omega
   ·obtain ⟨a,b⟩:=l2 hy
    refine ⟨by omega,?_⟩
    rw [show k + L - 1 = k + (L - 1) by omega,Nat.pow_add,Nat.mul_comm]
    exact (Nat.le_div_iff_mul_le hp).1 b
 obtain ⟨y,hy⟩:∃ y,y = x / 2 ^ k:=⟨_,rfl⟩
 have hk:=h _ hL
 simp only [← hy] at hk h1 l3 ⊢
 repeat (any_goals ((with_reducible refine oG fun X Y=>?_); simp [go_sem,oM_index_len8]; (try simp (disch:=omega) only [wrapI64,wrapU8,wrapU32,wrapU64]); (first|refine Y _ _ ?_|refine And.intro (by omega) (Y _ _ ?_)); clear Y X))
 exact K_eq hk (by simp)
def dgLoop (vh vl vd:Value) (M:List Value → World → Prop) (x:List Value) (w:World):Prop:=
 (loopM x w (fun J_30 m_31 l u_l w0_l=>(fun w=>(
 oM Tryz.prog (Go.Op.binOp Go.BinOp.geq 150 (.tmp 0) (.tmp 1) 150) 4 [(l.getD 0 undef),(.int .u64 4294967296)] (fun v68_33 w=>
 gdM (gd v68_33 false) (pureM (l.getD 0 undef)) (fun v70_34 w=>
 gdM (gd v68_33 false) (pureM vl) (fun v71_35 w=>
 gdM (gd v68_33 false) (oM Tryz.prog (Go.Op.binOp Go.BinOp.mul 150 (.tmp 0) (.tmp 1) 150) 150 [v70_34,v71_35]) (fun v72_36 w=>
 gdM (gd v68_33 false) (pureM (l.getD 1 undef)) (fun v73_37 w=>
 gdM (gd v68_33 false) (oM Tryz.prog (Go.Op.binOp Go.BinOp.mul 150 (.tmp 0) (.tmp 1) 150) 150 [(.int .u64 4294967296),v73_37]) (fun v74_38 w=>
 gdM (gd v68_33 false) (pureM vd) (fun v75_39 w=>
 gdM (gd v68_33 false) (oM Tryz.prog (Go.Op.binOp Go.BinOp.add 150 (.tmp 0) (.tmp 1) 150) 150 [v74_38,v75_39]) (fun v76_40 w=>
 gdM (gd v68_33 false) (oM Tryz.prog (Go.Op.binOp Go.BinOp.gtr 150 (.tmp 0) (.tmp 1) 150) 4 [v72_36,v76_40]) (fun v77_41 w=>
 oM Tryz.prog (Go.Op.pick (.tmp 0) (.tmp 1) (.tmp 2)) 4 [v68_33,(.bool true),v77_41] (fun v78_42 w=>
 condM v78_42
 (oM Tryz.prog (Go.Op.binOp Go.BinOp.sub 150 (.tmp 0) (.tmp 1) 150) 150 [(l.getD 0 undef),(.int .u64 1)] (fun v80_43 w=>
 oM Tryz.prog (Go.Op.binOp Go.BinOp.add 150 (.tmp 0) (.tmp 1) 150) 150 [(l.getD 1 undef),vh] (fun v83_44 w=>
 oM Tryz.prog (Go.Op.binOp Go.BinOp.geq 150 (.tmp 0) (.tmp 1) 150) 4 [v83_44,(.int .u64 4294967296)] (fun v85_45 w=>
 condM v85_45
 (M [v80_43,v83_44] w)
 (J_30 [v80_43,v83_44] w ∧ m_31 [v80_43,v83_44] w < m_31 l w0_l)) w) w) w)
 (M [(l.getD 0 undef),(l.getD 1 undef)] w)) w) w) w) w) w) w) w) w) w) w)) w0_l))
def DgJ (h l u d:Nat) (w:World) (x:List Value) (w':World):Prop:=w' = w ∧ ∃ q r:Nat,x = [.int .u64 (q:Int),.int .u64 (r:Int)] ∧ Digit h l u d q r ∧ r < 4294967296
theorem dg_ok (h l u d:Nat) (M:List Value → World → Prop) (hh:2147483648 ≤ h) (hh2:h < 4294967296) (hl:l < 4294967296) (hd:d < 4294967296) (hu:u < h * 4294967296 + l)
  (hM:∀ r:Nat,M [.int .u64 (((u * 4294967296 + d) / (h * 4294967296 + l):Nat):Int),.int .u64 (r:Int)] w):dgLoop (.int .u64 (h:Int)) (.int .u64 (l:Int)) (.int .u64 (d:Int)) M [.int .u64 ((u / h:Nat):Int),.int .u64 ((u - u / h * h:Nat):Int)] w:=by
 unfold dgLoop
 refine ⟨DgJ h l u d w,fun x _=>match x with | [.int _ q,_]=>q.toNat | _=>0,⟨rfl,_,_,rfl,digit_start hh hh2 hl hd hu,?_⟩,?_⟩
 ·have h1:=Nat.mod_lt u (show h > 0 by omega)
  have h2:=Nat.div_add_mod u h
  rw [Nat.mul_comm] at h2
  omega
 rintro _ _ w1 ⟨e1,q,r,rfl,D,hr⟩
 rw [e1]
 clear e1 w1
 have hq:=D.le
 have ht:=digit_test D
 have hbig:=fun hb:4294967296 ≤ q=>digit_big hu hd hb
 have hstep:=fun hb=>digit_step D hb
 have hpos:=fun hb=>digit_pos D hb
 have hend:=fun hb=>digit_end D hb
 have hbr:∀ hb,4294967296 ≤ r + h → q - 1 = (u * 4294967296 + d) / (h * 4294967296 + l):=fun hb hg=>digit_end (hstep hb) (digit_break (hstep hb) hl (by omega) hg)
 have hql:q < 4294967296 → q * l < 18446744073709551616:=fun hb=>by
  have:=Nat.mul_le_mul (show q ≤ 4294967295 by omega) (show l ≤ 4294967295 by omega)
  omega
 generalize (u * 4294967296 + d) / (h * 4294967296 + l) = Q at *
 generalize (u * 4294967296 + d < q * (h * 4294967296 + l)) = T at *
 have hmul:(q:Int) * (l:Int) = ((q * l:Nat):Int):=(Int.natCast_mul q l).symm
 generalize q * l = ql at *
 have fin1:(4294967296 ≤ r + h → q - 1 = Q) → 0 < q → 4294967296 ≤ r + h → M [.int .u64 ((q:Int) - 1),.int .u64 ((r:Int) + h)] w:=fun a b c=>by
  rw [show (q:Int) - 1 = ((q - 1:Nat):Int) by omega,show (r:Int) + h = ((r + h:Nat):Int) by omega,a c]; exact hM _
 have fin2:Digit h l u d (q - 1) (r + h) → 0 < q → ¬ 4294967296 ≤ r + h → DgJ h l u d w [.int .u64 ((q:Int) - 1),.int .u64 ((r:Int) + h)] w ∧ ((q:Int) - 1).toNat < (q:Int).toNat:=fun a b c=>by
  rw [show (q:Int) - 1 = ((q - 1:Nat):Int) by omega,show (r:Int) + h = ((r + h:Nat):Int) by omega]
  exact ⟨⟨rfl,_,_,rfl,a,by omega⟩,by omega⟩
 by_cases hb:4294967296 ≤ q
 ·have hT:=hbig hb
  have hst:=hstep hT
  have hps:=hpos hT
  have hbr:=hbr hT
  repeat (any_goals (first
  | (with_reducible first|((refine idGd ?_); ((refine idGdD ?_); refine zJ ?_))|refine yD ?_|((refine idCond ?_); first|refine yL ?_|refine yP (fun hg=>?_) fun hg=>?_))
  | ((with_reducible refine oG fun Kv hK=>?_); simp [go_sem,hb]; (try simp (disch:=omega) only [wrapI64,wrapU8,wrapU32,wrapU64]); apply hK; clear hK Kv)))
  ·exact fin1 hbr hps (by omega)
  ·exact fin2 hst hps (by omega)
 ·have hql:=hql (by omega)
  by_cases hT:T
  ·have hst:=hstep hT
   have hps:=hpos hT
   have hbr:=hbr hT
   have htt:=ht.2 hT
   repeat (any_goals (first
   | (with_reducible first|refine pureM_in ?_|((refine idGd ?_); ((refine idGdD ?_); refine zI ?_))|refine yE ?_|((refine idCond ?_); first|refine yN ?_|refine yP (fun hg=>?_) fun hg=>?_))
   | ((with_reducible refine oG fun Kv hK=>?_); simp [go_sem,hb,hmul]; (try simp (disch:=omega) only [wrapI64,wrapU8,wrapU32,wrapU64]); apply hK; clear hK Kv)))
   ·exact fin1 hbr hps (by omega)
   ·exact fin2 hst hps (by omega)
  ·have he:=hend hT
   have htt:¬ _:=fun h=>hT (ht.1 h)
   repeat (any_goals (first
   | (with_reducible first|refine pureM_in ?_|((refine idGd ?_); ((refine idGdD ?_); refine zI ?_))|refine yE ?_|refine yO ?_)
   | ((with_reducible refine oG fun Kv hK=>?_); simp [go_sem,hb,hmul]; (try simp (disch:=omega) only [wrapI64,wrapU8,wrapU32,wrapU64]); apply hK; clear hK Kv)))
   simp only [List.getD_cons_zero,List.getD_cons_succ]
   rw [he]
   exact hM _
theorem lead64_ok (x:Nat) (hx:x < 18446744073709551616) (h:∀ L,BitLen x L → K (.int .i64 (64 - (L:Int))) w):callM Tryz.prog 222 #[.int .u64 (x:Int)] K w:=by
 apply sh_222_ok
 unfold sh_222
 refine len64_ok x hx ?_
 intro L hL
 have:=hL.le
 repeat (any_goals ((with_reducible refine oG fun Kv hK=>?_); simp [go_sem]; (try simp (disch:=omega) only [wrapI64,wrapU8,wrapU32,wrapU64]); apply hK; clear hK Kv))
 exact h L hL
theorem norm_len (y L:Nat) (hy:0 < y) (hL:BitLen y L):9223372036854775808 ≤ y * 2 ^ (64 - L) ∧ y * 2 ^ (64 - L) < 18446744073709551616:=by
 obtain ⟨a,b⟩:=hL.ge (by omega)
 have h64:=hL.le
 have h1:2 ^ (L - 1) * 2 ^ (64 - L) = 9223372036854775808:=by
  rw [← Nat.pow_add,show L - 1 + (64 - L) = 63 by omega]
 have h2:2 ^ L * 2 ^ (64 - L) = 18446744073709551616:=by
  rw [← Nat.pow_add,show L + (64 - L) = 64 by omega]
 have hp:0 < 2 ^ (64 - L):=Nat.pow_pos (by omega)
 exact ⟨by rw [← h1]; exact Nat.mul_le_mul_right _ b,by rw [← h2]; exact (Nat.mul_lt_mul_right hp).2 hL.lt⟩
theorem norm_top (hi lo s:Nat) (hs:s ≤ 64) (hlo:lo < 18446744073709551616):(hi * 2 ^ s + lo / 2 ^ (64 - s)) * 18446744073709551616 + lo * 2 ^ s % 18446744073709551616 = (hi * 18446744073709551616 + lo) * 2 ^ s ∧ lo / 2 ^ (64 - s) < 2 ^ s:=by
 have h2:2 ^ (64 - s) * 2 ^ s = 18446744073709551616:=by rw [← Nat.pow_add,show 64 - s + s = 64 by omega]
 have hp:0 < 2 ^ s:=Nat.pow_pos (by omega)
 have hq:0 < 2 ^ (64 - s):=Nat.pow_pos (by omega)
 have h3:lo * 2 ^ s / 18446744073709551616 = lo / 2 ^ (64 - s):=by
  rw [← h2,Nat.mul_div_mul_right _ _ hp]
 have h4:=Nat.div_add_mod (lo * 2 ^ s) 18446744073709551616
 refine ⟨?_,?_⟩
 ·rw [h3] at h4
  rw [Nat.add_mul,Nat.add_mul,Nat.mul_right_comm hi,Nat.add_assoc,Nat.mul_comm (lo / _) 18446744073709551616,h4]
 ·rw [Nat.div_lt_iff_lt_mul hq,Nat.mul_comm,h2]; exact hlo
def EqW (w:World) (l:List Value) (w':World):Prop:=w' = w
def DgE (Q:Nat) (w:World) (l:List Value) (w':World):Prop:=w' = w ∧ ∃ r:Nat,l = [.int .u64 (Q:Int),.int .u64 (r:Int)]
theorem left_wrap (X d Y Q U:Nat) (hs:Q * Y + U = X * 4294967296 + d) (hU:U < 18446744073709551616):IntKind.u64.wrap (IntKind.u64.wrap (IntKind.u64.wrap ((X:Int) * 4294967296) + (d:Int)) - IntKind.u64.wrap ((Q:Int) * (Y:Int))) = (U:Int):=by
 have hm:(Q:Int) * (Y:Int) = ((Q * Y:Nat):Int):=(Int.natCast_mul Q Y).symm
 rw [hm]
 generalize Q * Y = P at *
 simp only [IntKind.wrap_u64]
 omega
theorem half_div (X h:Nat) (hX:X < 18446744073709551616) (hh:2147483648 ≤ h):∃ q p r:Nat,X / h = q ∧ q * h = p ∧ X - p = r ∧ p ≤ X ∧ q < 18446744073709551616 ∧ (X:Int).tdiv (h:Int) = (q:Int) ∧ (q:Int) * (h:Int) = (p:Int) ∧ (X:Int) - (p:Int) = (r:Int):=by
 have h1:=Nat.div_mul_le_self X h
 have h2:=Nat.div_le_self X h
 refine ⟨_,_,_,rfl,rfl,rfl,h1,by omega,?_,(Int.natCast_mul _ _).symm,by omega⟩
 rw [Int.tdiv_eq_ediv_of_nonneg (by omega)]; rfl
set_option maxHeartbeats 1000000 in
theorem div64_ok (hi lo y:Nat) (hlt:hi < y) (hy:y < 18446744073709551616) (hlo:lo < 18446744073709551616) (k:∀ (q:Int) w',Below w.heap.size w w' → K (.tuple #[.int .u64 q,.int .u64 (((hi * 18446744073709551616 + lo) % y:Nat):Int)]) w'):callM Tryz.prog 208 #[.int .u64 (hi:Int),.int .u64 (lo:Int),.int .u64 (y:Int)] K w:=by
 apply sh_208_ok
 unfold sh_208
 refine ⟨EqW w,?_,?_⟩
 ·repeat (any_goals (first
  | (with_reducible refine yO ?_)
  | ((with_reducible refine oG fun Kv hK=>?_); simp [go_sem]; apply hK; clear hK Kv)))
  exact rfl
 rintro _ _ w1 e1
 rw [show w1 = w from e1]
 clear e1 w1
 refine ⟨EqW w,?_,?_⟩
 ·repeat (any_goals (first
  | (with_reducible refine yO ?_)
  | ((with_reducible refine oG fun Kv hK=>?_); simp [go_sem]; apply hK; clear hK Kv)))
  exact rfl
 rintro _ _ w1 e1
 rw [show w1 = w from e1]
 clear e1 w1
 by_cases h0:hi = 0
 ·subst h0
  have k0:=k ((lo / y:Nat):Int) _ (Below.drew (Below.refl _ w))
  have t1:((lo:Int).tdiv (y:Int)) = ((lo / y:Nat):Int):=by rw [Int.tdiv_eq_ediv_of_nonneg (by omega)]; rfl
  have t2:((lo:Int).tmod (y:Int)) = ((lo % y:Nat):Int):=by rw [Int.tmod_eq_emod_of_nonneg (by omega)]; rfl
  have t3:=Nat.div_le_self lo y
  simp only [Nat.zero_mul,Nat.zero_add] at k0
  generalize lo / y = a at *
  generalize lo % y = b at *
  repeat (any_goals (first
  | (with_reducible refine yL ?_)
  | ((with_reducible refine oG fun Kv hK=>?_); simp [go_sem,t1,t2]; apply hK; clear hK Kv)))
  refine quietM_one ?_
  repeat (any_goals (first
  | (with_reducible first|refine And.intro (Eq.refl (α:=World) _) ?_|refine forall_one ?_)
  | ((with_reducible refine idOQ ?_); ((with_reducible refine oQ_one ?_ ?_); exact ⟨_,rfl⟩))
  | ((with_reducible refine oG fun Kv hK=>?_); simp [go_sem,t1,t2]; (try simp (disch:=omega) only [wrapI64,wrapU8,wrapU32,wrapU64]); refine And.intro (by omega) (hK _ _ ?_); clear hK Kv)))
  exact k0
 obtain ⟨s,hs⟩:∃ s,s = 64:=⟨_,rfl⟩
 repeat (any_goals (first
 | (with_reducible refine yO ?_)
 | ((with_reducible refine oG fun Kv hK=>?_); simp [go_sem]; apply hK; clear hK Kv)))
 refine lead64_ok y hy ?_
 intro L hL
 clear s hs
 have hn:=norm_len y L (by omega) hL
 have hL64:=hL.le
 obtain ⟨s,hs⟩:∃ s,s = 64 - L:=⟨_,rfl⟩
 rw [← hs] at hn
 have hs64:s ≤ 64:=by omega
 obtain ⟨hN,hB⟩:=norm_top hi lo s hs64 hlo
 have hres:=norm_rest hi lo y s _ _ hN
 have hAB:hi * 2 ^ s + lo / 2 ^ (64 - s) < y * 2 ^ s:=by
  have:=Nat.mul_le_mul_right (2 ^ s) (show hi + 1 ≤ y by omega)
  rw [Nat.add_mul,Nat.one_mul] at this
  omega
 have hsub:(64:Int) - (L:Int) = (s:Int):=by omega
 have hpow:∀ a:Nat,(a:Int) * 2 ^ s = ((a * 2 ^ s:Nat):Int):=fun a=>by rw [Int.natCast_mul,Int.natCast_pow]; rfl
 have hdiv:∀ a:Nat,(a:Int) / 2 ^ (64 - s) = ((a / 2 ^ (64 - s):Nat):Int):=fun a=>by rw [Int.natCast_ediv,Int.natCast_pow]; rfl
 have hBi:((lo / 2 ^ (64 - s):Nat):Int) < 2 ^ s:=by
  have:=Int.ofNat_lt.2 hB
  rw [Int.natCast_pow] at this
  exact this
 have hor:=or_add64 s (hi:Int) ((lo / 2 ^ (64 - s):Nat):Int) hs64 (Int.natCast_nonneg _) ⟨Int.natCast_nonneg _,hBi⟩
 have hD:lo * 2 ^ s % 18446744073709551616 < 18446744073709551616:=Nat.mod_lt _ (by omega)
 have hDi:((lo * 2 ^ s:Nat):Int) % 18446744073709551616 = ((lo * 2 ^ s % 18446744073709551616:Nat):Int):=by rw [Int.natCast_emod]; rfl
 have hsub2:((64:Int) - (s:Int)).toNat = 64 - s:=by omega
 rw [hpow] at hor
 clear hN hB hBi hL
 generalize lo * 2 ^ s % 18446744073709551616 = D at *
 generalize hlo2:lo * 2 ^ s = lo2 at *
 generalize hA:hi * 2 ^ s = A at *
 generalize hB:lo / 2 ^ (64 - s) = B at *
 generalize hY:y * 2 ^ s = Y at *
 have hor:=hor (by omega)
 have hAm:(A:Int) % 18446744073709551616 = (A:Int):=by omega
 have hYm:(Y:Int) % 18446744073709551616 = (Y:Int):=by omega
 have hpa:=hpow hi
 have hpl:=hpow lo
 have hpy:=hpow y
 have hdl:=hdiv lo
 rw [hA] at hpa
 rw [hlo2] at hpl
 rw [hY] at hpy
 rw [hB] at hdl
 rw [hsub]
 obtain ⟨t,ht⟩:∃ t,t = 64 - s:=⟨_,rfl⟩
 have ht2:(64:Int) - (s:Int) = (t:Int):=by omega
 rw [← ht] at hdl
 have rl:=fun x=>oM_shl64 (P:=Tryz.prog) 150 191 150 .u64 x (s:Int) (by omega) (by omega)
 have rr:=fun x=>oM_shr64 (P:=Tryz.prog) 150 191 150 .u64 x (s:Int) (by omega) (by omega)
 have rt:=fun x=>oM_shr64 (P:=Tryz.prog) 150 191 150 .u64 x (t:Int) (by omega) (by omega)
 simp only [Int.toNat_natCast] at rl rr rt
 obtain ⟨h,hh⟩:∃ h,h = Y / 4294967296:=⟨_,rfl⟩
 obtain ⟨l,hl⟩:∃ l,l = Y % 4294967296:=⟨_,rfl⟩
 obtain ⟨d1,hd1⟩:∃ d1,d1 = D / 4294967296:=⟨_,rfl⟩
 obtain ⟨d0,hd0⟩:∃ d0,d0 = D % 4294967296:=⟨_,rfl⟩
 obtain ⟨X,hX⟩:∃ X,X = A + B:=⟨_,rfl⟩
 have hhi:(Y:Int) / 4294967296 = (h:Int):=by omega
 have hli:bits .and .u64 (Y:Int) 4294967295 = (l:Int):=by rw [maskU Y (by omega),← hl]
 have hd1i:(D:Int) / 4294967296 = (d1:Int):=by omega
 have hd0i:bits .and .u64 (D:Int) 4294967295 = (d0:Int):=by rw [maskU D (by omega),← hd0]
 have hXi:(A:Int) + (B:Int) = (X:Int):=by omega
 have hhl:h * 4294967296 + l = Y:=by omega
 rw [← hX,← hd1,← hd0] at hres
 obtain ⟨q1,p1,r1,e1,e2,e3,e4,e5,e6,e7,e8⟩:=half_div X h (by omega) (by omega)
 obtain ⟨Q,hQ⟩:∃ Q,Q = (X * 4294967296 + d1) / Y:=⟨_,rfl⟩
 obtain ⟨U,hU⟩:∃ U,U = (X * 4294967296 + d1) % Y:=⟨_,rfl⟩
 have hUY:U < Y:=by rw [hU]; exact Nat.mod_lt _ (by omega)
 have dg:=dg_ok (w:=w) h l X d1 (DgE Q w) (by omega) (by omega) (by omega) (by omega) (by omega) (fun r=>⟨rfl,r,by rw [hhl,← hQ]⟩)
 have lw:=left_wrap X d1 Y Q U (by rw [hQ,hU]; exact Nat.div_add_mod' _ _) (by omega)
 obtain ⟨q2,p2,r2,f1,f2,f3,f4,f5,f6,f7,f8⟩:=half_div U h (by omega) (by omega)
 obtain ⟨Q2,hQ2⟩:∃ Q2,Q2 = (U * 4294967296 + d0) / Y:=⟨_,rfl⟩
 obtain ⟨R,hR⟩:∃ R,R = (U * 4294967296 + d0) % Y:=⟨_,rfl⟩
 have hRY:R < Y:=by rw [hR]; exact Nat.mod_lt _ (by omega)
 have dg2:=dg_ok (w:=w) h l U d0 (DgE Q2 w) (by omega) (by omega) (by omega) (by omega) (by omega) (fun r=>⟨rfl,r,by rw [hhl,← hQ2]⟩)
 have lw2:=left_wrap U d0 Y Q2 R (by rw [hQ2,hR]; exact Nat.div_add_mod' _ _) (by omega)
 rw [← hU,← hR] at hres
 rw [e1,e2,e3] at dg
 rw [f1,f2,f3] at dg2
 have hRi:(R:Int) / 2 ^ s = ((R / 2 ^ s:Nat):Int):=by rw [Int.natCast_ediv,Int.natCast_pow]; rfl
 rw [hres] at hRi
 clear hres hR hU hQ hQ2 e1 e2 e3 f1 f2 f3 hh hl hd1 hd0 hX
 repeat (any_goals ((with_reducible refine oG fun Kv hK=>?_); simp [go_sem,rl,rr,rt,ht2,hpa,hpl,hpy,hdl,hor,hAm,hYm,hDi,hXi,hhi,hli,hd1i,hd0i,e6,e7,e8]; (try simp (disch:=omega) only [wrapI64,wrapU8,wrapU32,wrapU64]); (first|refine hK _ _ ?_|refine And.intro (by omega) (hK _ _ ?_)); clear hK Kv))
 refine ⟨DgE Q w,dg,?_⟩
 rintro _ _ w1 ⟨e1,r,rfl⟩
 rw [e1]
 clear e1 w1
 repeat (any_goals ((with_reducible refine oG fun Kv hK=>?_); simp [go_sem,rl,rr,rt,lw,f6,f7,f8]; (try simp (disch:=omega) only [wrapI64,wrapU8,wrapU32,wrapU64]); (first|refine hK _ _ ?_|refine And.intro (by omega) (hK _ _ ?_)); clear hK Kv))
 refine ⟨DgE Q2 w,dg2,?_⟩
 rintro _ _ w1 ⟨e1,r',rfl⟩
 rw [e1]
 clear e1 w1
 repeat (any_goals ((with_reducible refine oG fun Kv hK=>?_); simp [go_sem,rl,rr,rt,lw2,hRi]; apply hK; clear hK Kv))
 exact k _ _ (Below.refl _ _)
theorem rem64_ok (hi lo y:Nat) (hhi:hi < 18446744073709551616) (hy0:0 < y) (hy:y < 18446744073709551616) (hlo:lo < 18446744073709551616) (k:∀ w',Below w.heap.size w w' → K (.int .u64 (((hi * 18446744073709551616 + lo) % y:Nat):Int)) w'):callM Tryz.prog 183 #[.int .u64 (hi:Int),.int .u64 (lo:Int),.int .u64 (y:Int)] K w:=by
 apply sh_183_ok
 unfold sh_183
 have e1:(hi:Int).tmod (y:Int) = ((hi % y:Nat):Int):=by rw [Int.tmod_eq_emod_of_nonneg (by omega)]; rfl
 have e2:(hi % y * 18446744073709551616 + lo) % y = (hi * 18446744073709551616 + lo) % y:=by
  rw [Nat.add_mod,Nat.mul_mod,Nat.mod_mod,← Nat.mul_mod,← Nat.add_mod]
 have hlt:=Nat.mod_lt hi hy0
 rw [← e2] at k
 generalize hi % y = r at *
 repeat (any_goals ((with_reducible refine oG fun X Y=>?_); simp [go_sem,e1]; refine And.intro (by omega) (Y _ _ ?_); clear Y X))
 refine div64_ok r lo y hlt hy hlo ?_
 intro q w1 hb
 repeat (any_goals ((with_reducible refine oG fun X Y=>?_); simp [go_sem]; apply Y; clear Y X))
 exact k _ hb
theorem product_ok (n a b:Int) (hn:okN n) (ha:0 ≤ a ∧ a < n) (hb:0 ≤ b ∧ b < n) (k:∀ w',Below w.heap.size w w' → K (.int .u64 (a * b % n)) w'):callM Tryz.prog 125 #[.int .i64 n,.int .u64 a,.int .u64 b] K w:=by
 apply sh_125_ok
 unfold sh_125
 obtain ⟨h1,h2⟩:=hn
 skip
 refine mul64_ok a b ⟨ha.1,by omega⟩ ⟨hb.1,by omega⟩ ?_
 obtain ⟨a,rfl⟩:=natN a ha.1
 obtain ⟨b,rfl⟩:=natN b hb.1
 obtain ⟨n,rfl⟩:=natN n (by omega)
 rw [mulU]
 have hab:a * b < 18446744073709551616 * 18446744073709551616:=Nat.mul_lt_mul'' (by omega) (by omega)
 have e1:((a * b:Nat):Int) / 18446744073709551616 = ((a * b / 18446744073709551616:Nat):Int):=by omega
 have e2:((a * b:Nat):Int) % 18446744073709551616 = ((a * b % 18446744073709551616:Nat):Int):=by omega
 have e3:((a * b % n:Nat):Int) = (a:Int) * (b:Int) % (n:Int):=by rw [Int.natCast_emod,Int.natCast_mul]
 rw [e1,e2]
 have h5:a * b / 18446744073709551616 * 18446744073709551616 + a * b % 18446744073709551616 = a * b:=Nat.div_add_mod' _ _
 have h3:a * b / 18446744073709551616 < 18446744073709551616:=by omega
 have h4:a * b % 18446744073709551616 < 18446744073709551616:=by omega
 rw [← e3,← h5] at k
 generalize a * b / 18446744073709551616 = hi at *
 generalize a * b % 18446744073709551616 = lo at *
 repeat (any_goals ((with_reducible refine oG fun X Y=>?_); simp [go_sem]; (try simp (disch:=omega) only [wrapI64,wrapU8,wrapU32,wrapU64]); apply Y; clear Y X))
 exact rem64_ok hi lo n h3 (by omega) (by omega) h4 k
def PwJ (n R:Int) (w:World) (l:List Value) (w':World):Prop:=Below w.heap.size w w' ∧ ∃ (out a:Int) (b:Nat),l = [.int .u64 out,.int .u64 a,.int .u64 (b:Int)] ∧ (0 ≤ out ∧ out < n) ∧ (0 ≤ a ∧ a < n) ∧ b < 18446744073709551616 ∧ out * a ^ b % n = R
def PwM (n R a:Int) (b:Nat) (w:World) (l:List Value) (w':World):Prop:=Below w.heap.size w w' ∧ ∃ out:Int,l = [.int .u64 out] ∧ (0 ≤ out ∧ out < n) ∧ out * (a * a % n) ^ (b / 2) % n = R
def pwMu (l:List Value) (_:World):Nat:=match l with | [_,_,.int _ b]=>b.toNat | _=>0
theorem pwMu_eq (x y:Value) (k:IntKind) (b:Int) (w:World):pwMu [x,y,.int k b] w = b.toNat:=rfl
theorem power_ok (n a:Int) (b:Nat) (hn:okN n) (ha:0 ≤ a ∧ a < n) (hb:b < 18446744073709551616) (k:∀ w',Below w.heap.size w w' → K (.int .u64 (pw n a b)) w'):callM Tryz.prog 129 #[.int .i64 n,.int .u64 a,.int .u64 (b:Int)] K w:=by
 apply sh_129_ok
 unfold sh_129
 have hn':=hn
 obtain ⟨h1,h2⟩:=hn
 have e1:(1:Int).tmod n = 1 % n:=Int.tmod_eq_emod_of_nonneg (by omega)
 have e2:=Int.emod_nonneg 1 (b:=n) (by omega)
 have e3:=Int.emod_lt_of_pos 1 (b:=n) (by omega)
 have e4:1 % n * a ^ b % n = pw n a b:=by
  rw [Int.mul_emod,Int.emod_emod_of_dvd _ (Int.dvd_refl n),← Int.mul_emod,Int.one_mul]; rfl
 generalize 1 % n = o at *
 repeat (any_goals ((with_reducible refine oG fun X Y=>?_); simp [go_sem,e1]; (try simp (disch:=omega) only [wrapI64,wrapU8,wrapU32,wrapU64]); (first|refine Y _ _ ?_|refine And.intro (by omega) (Y _ _ ?_)); clear Y X))
 refine ⟨PwJ n (pw n a b) w,pwMu,⟨Below.refl _ _,o,a,b,rfl,⟨e2,e3⟩,ha,hb,e4⟩,?_⟩
 generalize hR:pw n a b = R at *
 clear e1 e2 e3 e4 o hb ha
 rintro _ _ w1 ⟨hb1,out,x,c,rfl,ho,hx,hc,hinv⟩
 have hz:=hb1.size
 by_cases h0:c = 0
 ·subst h0
  rw [Int.pow_zero,Int.mul_one,Int.emod_eq_of_lt ho.1 ho.2] at hinv
  repeat (any_goals (first
  | (with_reducible refine yM ?_)
  | ((with_reducible refine oG fun X Y=>?_); simp [go_sem]; apply Y; clear Y X)))
  rw [hinv]
  exact k _ hb1
 ·have hm:bits .and .u64 (c:Int) 1 = ((c % 2:Nat):Int):=by
   rw [mask64 1 c 1 (by omega) (by decide) (by omega)]; omega
  have hsh:(c:Int) / 2 = ((c / 2:Nat):Int):=by omega
  have h1:=pw_even n x out c
  have h3:=pw_odd n x out c
  obtain ⟨m,hm2⟩:∃ m,m = c % 2:=⟨_,rfl⟩
  rw [← hm2] at hm h1 h3
  obtain ⟨d,hd⟩:∃ d,d = c / 2:=⟨_,rfl⟩
  rw [← hd] at hsh h1 h3
  repeat (any_goals (first
  | (with_reducible refine yN ?_)
  | ((with_reducible refine oG fun X Y=>?_); simp [go_sem]; apply Y; clear Y X)))
  refine ⟨PwM n R x c w,?_,?_⟩
  ·repeat (any_goals (first
   | (with_reducible ((refine idCond ?_); refine yP (fun hg=>?_) fun hg=>?_))
   | ((with_reducible refine oG fun X Y=>?_); simp [go_sem,hm]; apply Y; clear Y X)))
   ·refine product_ok n out x hn' ho hx ?_
    intro w2 hb2
    skip
    refine ⟨hb1.trans (hb2.mono hz),_,rfl,⟨Int.emod_nonneg _ (by omega),Int.emod_lt_of_pos _ (by omega)⟩,?_⟩
    rw [← hd,h3 (by omega)]; exact hinv
   ·refine ⟨hb1,_,rfl,ho,?_⟩
    rw [← hd,h1 (by omega)]; exact hinv
  ·rintro _ _ w2 ⟨hb2,out',rfl,ho',hi'⟩
   have hz2:=hb2.size
   refine product_ok n x x hn' hx hx ?_
   intro w3 hb3
   repeat (any_goals ((with_reducible refine oG fun X Y=>?_); simp [go_sem,hsh]; apply Y; clear Y X))
   refine ⟨⟨hb2.trans (hb3.mono hz2),_,_,_,rfl,ho',⟨Int.emod_nonneg _ (by omega),Int.emod_lt_of_pos _ (by omega)⟩,by omega,by rw [hd]; exact hi'⟩,?_⟩
   simp only [pwMu_eq]
   omega
theorem Add_ok (n a b:Int) (h:K (.int .i64 (addM n a b)) w):callM Tryz.prog 42 #[.int .i64 n,.int .i64 a,.int .i64 b] K w:=by
 apply sh_42_ok
 unfold sh_42
 refine valid_ok n ?_
 by_cases hn:okN n
 ·have hn':=hn
  obtain ⟨h1,h2⟩:=hn'
  have ha:=Int.emod_nonneg a (b:=n) (by omega)
  have ha2:=Int.emod_lt_of_pos a (b:=n) (by omega)
  have hb:=Int.emod_nonneg b (b:=n) (by omega)
  have hb2:=Int.emod_lt_of_pos b (b:=n) (by omega)
  have e:=addM_eq n a b hn
  have e2:=addM_range n a b hn
  have e1:(a % n + b % n).tmod n = (a % n + b % n) % n:=Int.tmod_eq_emod_of_nonneg (by omega)
  rw [e] at e1
  repeat (any_goals (first
  | (with_reducible refine yM ?_)
  | ((with_reducible refine oG fun X Y=>?_); simp [go_sem,hn]; apply Y; clear Y X)))
  refine residue_ok n a hn ?_
  refine residue_ok n b hn ?_
  generalize a % n = x at *
  generalize b % n = y at *
  generalize addM n a b = z at *
  repeat (any_goals ((with_reducible refine oG fun X Y=>?_); simp [go_sem,e1]; (try simp (disch:=omega) only [wrapI64,wrapU8,wrapU32,wrapU64]); (first|refine Y _ _ ?_|refine And.intro (by omega) (Y _ _ ?_)); clear Y X))
  exact h
 ·rw [addM,if_neg hn] at h
  repeat (any_goals (first
  | (with_reducible refine yL ?_)
  | ((with_reducible refine oG fun X Y=>?_); simp [go_sem,hn]; apply Y; clear Y X)))
  exact h
theorem Sub_ok (n a b:Int) (h:K (.int .i64 (subM n a b)) w):callM Tryz.prog 48 #[.int .i64 n,.int .i64 a,.int .i64 b] K w:=by
 apply sh_48_ok
 unfold sh_48
 refine valid_ok n ?_
 by_cases hn:okN n
 ·have hn':=hn
  obtain ⟨h1,h2⟩:=hn'
  have ha:=Int.emod_nonneg a (b:=n) (by omega)
  have ha2:=Int.emod_lt_of_pos a (b:=n) (by omega)
  have hb:=Int.emod_nonneg b (b:=n) (by omega)
  have hb2:=Int.emod_lt_of_pos b (b:=n) (by omega)
  have e:=subM_eq n a b hn
  have e2:=subM_range n a b hn
  have e1:(a % n + n - b % n).tmod n = (a % n + n - b % n) % n:=Int.tmod_eq_emod_of_nonneg (by omega)
  rw [e] at e1
  repeat (any_goals (first
  | (with_reducible refine yM ?_)
  | ((with_reducible refine oG fun X Y=>?_); simp [go_sem,hn]; apply Y; clear Y X)))
  refine residue_ok n a hn ?_
  repeat (any_goals ((with_reducible refine oG fun X Y=>?_); simp [go_sem]; (try simp (disch:=omega) only [wrapI64,wrapU8,wrapU32,wrapU64]); apply Y; clear Y X))
  refine residue_ok n b hn ?_
  generalize a % n = x at *
  generalize b % n = y at *
  generalize subM n a b = z at *
  repeat (any_goals ((with_reducible refine oG fun X Y=>?_); simp [go_sem,e1]; (try simp (disch:=omega) only [wrapI64,wrapU8,wrapU32,wrapU64]); (first|refine Y _ _ ?_|refine And.intro (by omega) (Y _ _ ?_)); clear Y X))
  exact h
 ·rw [subM,if_neg hn] at h
  repeat (any_goals (first
  | (with_reducible refine yL ?_)
  | ((with_reducible refine oG fun X Y=>?_); simp [go_sem,hn]; apply Y; clear Y X)))
  exact h
theorem Mul_ok (n a b:Int) (k:∀ w',Below w.heap.size w w' → K (.int .i64 (mulM n a b)) w'):callM Tryz.prog 43 #[.int .i64 n,.int .i64 a,.int .i64 b] K w:=by
 apply sh_43_ok
 unfold sh_43
 refine valid_ok n ?_
 by_cases hn:okN n
 ·have hn':=hn
  obtain ⟨h1,h2⟩:=hn'
  have ha:=Int.emod_nonneg a (b:=n) (by omega)
  have ha2:=Int.emod_lt_of_pos a (b:=n) (by omega)
  have hb:=Int.emod_nonneg b (b:=n) (by omega)
  have hb2:=Int.emod_lt_of_pos b (b:=n) (by omega)
  have e:=mulM_eq n a b hn
  have e2:=mulM_range n a b hn
  repeat (any_goals (first
  | (with_reducible refine yM ?_)
  | ((with_reducible refine oG fun X Y=>?_); simp [go_sem,hn]; apply Y; clear Y X)))
  refine residue_ok n a hn ?_
  refine residue_ok n b hn ?_
  refine product_ok n _ _ hn ⟨ha,ha2⟩ ⟨hb,hb2⟩ ?_
  intro w1 hb1
  rw [e]
  have k:=k w1 hb1
  generalize mulM n a b = z at *
  repeat (any_goals ((with_reducible refine oG fun X Y=>?_); simp [go_sem]; (try simp (disch:=omega) only [wrapI64,wrapU8,wrapU32,wrapU64]); apply Y; clear Y X))
  exact k
 ·rw [mulM,if_neg hn] at k
  repeat (any_goals (first
  | (with_reducible refine yL ?_)
  | ((with_reducible refine oG fun X Y=>?_); simp [go_sem,hn]; apply Y; clear Y X)))
  exact k _ (Below.refl _ _)
def InJ (n:Int) (E:Int × Int) (w:World) (l:List Value) (w':World):Prop:=Below w.heap.size w w' ∧ ∃ (v:Value) (r s x y:Int),l = [v,.int .i64 r,.int .i64 s,.int .i64 x,.int .i64 y] ∧ (0 ≤ s ∧ s < n) ∧ (0 ≤ r ∧ r ≤ n) ∧ (0 ≤ x ∧ x < 2305843009213693952) ∧ (0 ≤ y ∧ y < 2305843009213693952) ∧ eucAll n r s x y = E
def inMu (l:List Value) (_:World):Nat:=match l with | [_,_,.int _ s,_,_]=>s.toNat | _=>0
theorem inMu_eq (v r x y:Value) (k:IntKind) (s:Int) (w:World):inMu [v,r,.int k s,x,y] w = s.toNat:=rfl
theorem eucAll_zero (n r x y:Int):eucAll n r 0 x y = (r,x):=euc_zero n _ r x y
theorem Inv_ok (n a:Int) (k:∀ w',Below w.heap.size w w' → K (.tuple #[.int .i64 ((invM n a).getD 0),.bool (invM n a).isSome]) w'):callM Tryz.prog 143 #[.int .i64 n,.int .i64 a] K w:=by
 apply sh_143_ok
 unfold sh_143
 refine valid_ok n ?_
 by_cases hn:okN n
 ·have hn':=hn
  obtain ⟨h1,h2⟩:=hn'
  have ha:=Int.emod_nonneg a (b:=n) (by omega)
  have ha2:=Int.emod_lt_of_pos a (b:=n) (by omega)
  have kk:∀ r x w',(r,x) = eucAll n n (a % n) 0 1 → Below w.heap.size w w' → K (.tuple #[.int .i64 (if r = 1 then x % n else 0),.bool (decide (r = 1))]) w':=fun r x w' e hb=>by
   have k:=k w' hb
   unfold invM at k
   rw [if_pos hn,← e] at k
   by_cases hr:r = 1
   ·simpa [hr] using k
   ·simpa [hr] using k
  clear k
  repeat (any_goals (first
  | (with_reducible refine yM ?_)
  | ((with_reducible refine oG fun X Y=>?_); simp [go_sem,hn]; apply Y; clear Y X)))
  refine residue_ok n a hn ?_
  generalize a % n = s0 at *
  generalize hE:eucAll n n s0 0 1 = E at *
  repeat (any_goals ((with_reducible refine oG fun X Y=>?_); simp [go_sem]; (try simp (disch:=omega) only [wrapI64,wrapU8,wrapU32,wrapU64]); apply Y; clear Y X))
  refine ⟨InJ n E w,inMu,⟨Below.refl _ _,_,n,s0,0,1,rfl,⟨ha,ha2⟩,⟨by omega,by omega⟩,⟨by omega,by omega⟩,⟨by omega,by omega⟩,hE⟩,?_⟩
  clear hE ha ha2 s0
  rintro _ _ w1 ⟨hb1,v,r,s,x,y,rfl,hs,hr,hx,hy,he⟩
  have hz:=hb1.size
  by_cases h0:s = 0
  ·subst h0
   rw [eucAll_zero] at he
   have kk:=kk r x w1 he hb1
   have e1:x.tmod n = x % n:=Int.tmod_eq_emod_of_nonneg hx.1
   by_cases hr1:r = 1
   ·simp only [hr1] at kk
    repeat (any_goals (first
    | (with_reducible refine yM ?_)
    | ((with_reducible refine oG fun X Y=>?_); simp [go_sem,hr1,e1]; (first|refine Y _ _ ?_|refine And.intro (by omega) (Y _ _ ?_)); clear Y X)))
    simpa using kk
   ·simp only [hr1] at kk
    repeat (any_goals (first
    | (with_reducible ((refine idCond ?_); first|refine yL ?_|refine yM ?_))
    | ((with_reducible refine oG fun X Y=>?_); simp [go_sem,hr1]; apply Y; clear Y X)))
    simpa using kk
  ·rw [euc_step n r s x y (by omega)] at he
   have q1:r.tdiv s = r / s:=Int.tdiv_eq_ediv_of_nonneg hr.1
   have q2:=Int.emod_add_mul_ediv r s
   have q3:=Int.emod_nonneg r (b:=s) (by omega)
   have q4:=Int.emod_lt_of_pos r (b:=s) (by omega)
   have q5:0 ≤ r / s:=Int.ediv_nonneg hr.1 hs.1
   have q6:r / s ≤ r:=Int.ediv_le_self _ hr.1
   have q7:r / s * s = r - r % s:=by rw [Int.mul_comm]; omega
   have m1:=mulM_range n (r / s) y hn
   have m2:=subM_range n x (mulM n (r / s) y) hn
   generalize r % s = t at *
   generalize r / s = q at *
   clear q2
   have q8:r - (r - t) = t:=by omega
   repeat (any_goals (first
   | (with_reducible refine yQ ?_)
   | ((with_reducible refine oG fun X Y=>?_); simp [go_sem,q1,q7,q8]; (try simp (disch:=omega) only [wrapI64,wrapU8,wrapU32,wrapU64]); (first|refine Y _ _ ?_|refine And.intro (by omega) (Y _ _ ?_)); clear Y X)))
   refine Mul_ok n q y (fun w2 hb2=>?_)
   refine Sub_ok n x _ ?_
   generalize subM n x (mulM n q y) = z at *
   skip
   refine ⟨⟨hb1.trans (hb2.mono hz),_,s,t,y,z,rfl,⟨q3,by omega⟩,⟨hs.1,by omega⟩,hy,⟨m2.1,by omega⟩,he⟩,?_⟩
   simp only [inMu_eq]
   omega
 ·have k:=k _ (Below.refl _ _)
  unfold invM at k
  rw [if_neg hn] at k
  repeat (any_goals (first
  | (with_reducible refine yL ?_)
  | ((with_reducible refine oG fun X Y=>?_); simp [go_sem,hn]; apply Y; clear Y X)))
  exact k
theorem Pow_ok (n a b:Int) (hbr:-9223372036854775808 ≤ b ∧ b < 9223372036854775808) (k:∀ w',Below w.heap.size w w' → K (.int .i64 (powM n a b)) w'):callM Tryz.prog 170 #[.int .i64 n,.int .i64 a,.int .i64 b] K w:=by
 apply sh_170_ok
 unfold sh_170
 refine valid_ok n ?_
 unfold powM at k
 by_cases hn:okN n
 ·have hn':=hn
  obtain ⟨h1,h2⟩:=hn'
  rw [if_pos hn] at k
  by_cases h0:0 ≤ b
  ·rw [if_pos h0] at k
   have ha:=Int.emod_nonneg a (b:=n) (by omega)
   have ha2:=Int.emod_lt_of_pos a (b:=n) (by omega)
   obtain ⟨c,rfl⟩:=natN b h0
   rw [Int.toNat_natCast,← pw_emod] at k
   repeat (any_goals (first
   | (with_reducible ((refine idCond ?_); first|refine yL ?_|refine yM ?_))
   | ((with_reducible refine oG fun X Y=>?_); simp [go_sem,hn]; apply Y; clear Y X)))
   refine residue_ok n a hn ?_
   generalize a % n = x at *
   repeat (any_goals ((with_reducible refine oG fun X Y=>?_); simp [go_sem]; (try simp (disch:=omega) only [wrapI64,wrapU8,wrapU32,wrapU64]); apply Y; clear Y X))
   refine power_ok n x c hn ⟨ha,ha2⟩ (by omega) (fun w1 hb1=>?_)
   have hr:=pw_nonneg n x c (by omega)
   have k:=k w1 hb1
   generalize pw n x c = z at *
   repeat (any_goals ((with_reducible refine oG fun X Y=>?_); simp [go_sem]; (try simp (disch:=omega) only [wrapI64,wrapU8,wrapU32,wrapU64]); apply Y; clear Y X))
   exact k
  ·rw [if_neg h0] at k
   repeat (any_goals (first
   | (with_reducible ((refine idCond ?_); first|refine yM ?_|refine yO ?_))
   | ((with_reducible refine oG fun X Y=>?_); simp [go_sem,hn]; apply Y; clear Y X)))
   refine Inv_ok n a (fun w1 hb1=>?_)
   have hz:=hb1.size
   cases hi:invM n a with
   | none=>
    rw [hi] at k
    have k:=k w1 hb1
    repeat (any_goals (first
    | (with_reducible refine yL ?_)
    | ((with_reducible refine oG fun X Y=>?_); simp [go_sem]; apply Y; clear Y X)))
    exact k
   | some x=>
    rw [hi] at k
    have hx:0 ≤ x ∧ x < n:=by
     unfold invM at hi
     rw [if_pos hn] at hi
     split at hi
     ·cases hi; exact ⟨Int.emod_nonneg _ (by omega),Int.emod_lt_of_pos _ (by omega)⟩
     ·cases hi
    obtain ⟨c,hc⟩:=natN (-b) (by omega)
    rw [hc,Int.toNat_natCast] at k
    have hw:IntKind.u64.wrap (-(IntKind.u64.wrap b)) = (c:Int):=by
     simp only [IntKind.wrap_u64]; omega
    have hw2:b % 18446744073709551616 = b + 18446744073709551616:=by omega
    simp only [Option.getD_some,Option.isSome_some]
    repeat (any_goals (first
    | (with_reducible refine yM ?_)
    | ((with_reducible refine oG fun X Y=>?_); simp [go_sem,hw]; (try simp (disch:=omega) only [wrapI64,wrapU8,wrapU32,wrapU64]); apply Y; clear Y X)))
    refine power_ok n x c hn hx (by omega) (fun w2 hb2=>?_)
    have hr:=pw_nonneg n x c (by omega)
    have k:K (.int .i64 (pw n x c)) w2:=k w2 (hb1.trans (hb2.mono hz))
    generalize pw n x c = z at *
    repeat (any_goals ((with_reducible refine oG fun X Y=>?_); simp [go_sem]; (try simp (disch:=omega) only [wrapI64,wrapU8,wrapU32,wrapU64]); apply Y; clear Y X))
    exact k
 ·rw [if_neg hn] at k
  repeat (any_goals (first
  | (with_reducible refine yL ?_)
  | ((with_reducible refine oG fun X Y=>?_); simp [go_sem,hn]; apply Y; clear Y X)))
  exact k _ (Below.refl _ _)
def DbT (w:World):Prop:=2 < w.heap.size ∧ ∀ j,j < 64 → w.cell? ⟨2,j,none⟩ = some (.int .u8 (Lib.deBruijn64tab.getD j 0:Nat))
theorem DbT.below {w w':World} {B:Nat} (h:DbT w) (hb:Below B w w') (hB:w.heap.size ≤ B):DbT w':=
 ⟨lL h.1 hb.size,fun j hj=>by rw [hb.cell (show 2 < B from lL h.1 hB)]; exact h.2 j hj⟩
theorem tz_ctz (k m:Nat):tz k m = Lib.ctzFrom k m:=by
 induction k generalizing m with
 | zero=>rfl
 | succ k ih=>
  unfold tz Lib.ctzFrom
  rw [ih]
  by_cases h:m % 2 = 0
  ·rw [if_pos h,if_neg (by omega),Nat.add_comm]
  ·rw [if_neg h,if_pos (by omega)]
theorem tz_key (q:Nat):IntKind.u64.wrap ((q:Int) * 285870213051353865) / 288230376151711744 = ((q * 285870213051353865 % 18446744073709551616 / 288230376151711744:Nat):Int):=by
 rw [IntKind.wrap_u64]; omega
theorem idx_tab {j:Nat} (hj:j < 64) (w:World):(Instr.indexAt 244 (.pointer (some ⟨2,0,none⟩)) (.int .u64 j)).run Tryz.prog w = .ok (.pointer (some ⟨2,j,none⟩)) w:=by
 rw [run_indexAt_array (h:=by kernel_rfl)]
 have hs:(sizeOf (Tryz.prog.elem 244)).run Tryz.prog w = .ok 1 w:=by kernel_rfl
 have hl:Tryz.prog.arrayLen 244 = 64:=by kernel_rfl
 rw [hl,if_pos (by omega),hs]
 simp only [Result.andThen,Int.toNat_natCast,add_none,Nat.zero_add,Nat.mul_one]
theorem tz64_ok (x:Nat) (hx0:0 < x) (hx:x < 18446744073709551616) (hT:DbT w) (h:K (.int .i64 (tz 64 x:Nat)) w):callM Tryz.prog 220 #[.int .u64 (x:Int)] K w:=by
 apply sh_220_ok
 unfold sh_220
 obtain ⟨hlow,hk⟩:=Lib.lowest_bit 64 x (by omega) (by omega)
 obtain ⟨hi,htab⟩:=Lib.deBruijn64_at _ hk
 have e0:Lib.ctz 64 x = tz 64 x:=by rw [tz_ctz,Lib.ctz,if_neg (by omega)]
 rw [e0] at hlow htab hi
 have e1:IntKind.u64.wrap (-(x:Int)) = ((18446744073709551616 - x:Nat):Int):=by rw [IntKind.wrap_u64]; omega
 have e2:bits .and .u64 (x:Int) ((18446744073709551616 - x:Nat):Int) = ((2 ^ tz 64 x:Nat):Int):=by
  rw [bits_and64 _ _ (by omega) (by omega),Int.toNat_natCast,Int.toNat_natCast]
  exact congrArg _ hlow
 have e3:=tz_key (2 ^ tz 64 x)
 have hc:=hT.2 _ hi
 rw [htab] at hc
 have hix:=idx_tab hi w
 generalize 2 ^ tz 64 x * 285870213051353865 % 18446744073709551616 / 288230376151711744 = j at *
 generalize (2 ^ tz 64 x:Nat) = q at *
 have hk2:tz 64 x < 64:=by rw [← e0]; exact hk
 generalize tz 64 x = t at *
 repeat (any_goals (first
 | (rw [kI,oM_indexAddr,hix,rM_ok])
 | (with_reducible refine yO ?_)
 | ((with_reducible refine oG fun X Y=>?_); simp [go_sem,e1,e2,e3,hc]; (try simp (disch:=omega) only [wrapI64,wrapU8,wrapU32,wrapU64]); apply Y; clear Y X)))
 exact h
def WiJ (n:Int) (k:Nat) (R:Bool) (w:World) (l:List Value) (w':World):Prop:=Below w.heap.size w w' ∧ ∃ (v:Value) (x:Int) (i:Nat),l = [v,.int .u64 x,.int .i64 (i:Int)] ∧ i ≤ k ∧ (0 ≤ x ∧ x < n) ∧ mrUp n (k - i) x = R
def wiMu (k:Nat) (l:List Value) (_:World):Nat:=match l with | [_,_,.int _ i]=>k - i.toNat | _=>0
theorem wiMu_eq (k:Nat) (x y:Value) (q:IntKind) (i:Int) (w:World):wiMu k [x,y,.int q i] w = k - i.toNat:=rfl
theorem witness_ok (n b:Int) (hn:okN n) (h2:2 ≤ n) (hb:0 ≤ b ∧ b < n) (hT:DbT w) (k:∀ w',Below w.heap.size w w' → K (.bool (!passes n b)) w'):callM Tryz.prog 202 #[.int .i64 n,.int .u64 b] K w:=by
 apply sh_202_ok
 unfold sh_202
 have hn':=hn
 obtain ⟨h1,h3⟩:=hn'
 obtain ⟨m,hm⟩:=natN (n - 1) (by omega)
 have hm2:(n - 1).toNat = m:=by omega
 have ht:=tz_lt 64 m (by omega) (by omega)
 obtain ⟨t,htt⟩:∃ t,t = tz 64 m:=⟨_,rfl⟩
 have ht64:t < 64:=by rw [htt]; exact ht.1
 clear ht
 have hsh:((m:Int)) / 2 ^ t = ((m / 2 ^ t:Nat):Int):=by rw [Int.natCast_ediv,Int.natCast_pow]; rfl
 have hdl:=Nat.div_le_self m (2 ^ t)
 have rr:=fun x=>oM_shr64 (P:=Tryz.prog) 150 3 150 .i64 x (t:Int) (by omega) (by omega)
 simp only [Int.toNat_natCast] at rr
 repeat (any_goals ((with_reducible refine oG fun X Y=>?_); simp [go_sem,hm]; (try simp (disch:=omega) only [wrapI64,wrapU8,wrapU32,wrapU64]); apply Y; clear Y X))
 refine tz64_ok m (by omega) (by omega) hT ?_
 rw [← htt]
 obtain ⟨d,hd⟩:∃ d,d = m / 2 ^ t:=⟨_,rfl⟩
 rw [← hd] at hsh hdl
 have k:∀ w',Below w.heap.size w w' → K (.bool (!(if pw n b d = 1 then true else mrUp n t (pw n b d)))) w':=by
  rw [hd,htt,← hm2]; exact k
 have hp:=pw_nonneg n b d (by omega)
 repeat (any_goals ((with_reducible refine oG fun X Y=>?_); simp [go_sem,hm,rr,hsh]; (try simp (disch:=omega) only [wrapI64,wrapU8,wrapU32,wrapU64]); apply Y; clear Y X))
 refine power_ok n b d hn hb (by omega) (fun w1 hb1=>?_)
 generalize pw n b d = x at *
 have hz:=hb1.size
 by_cases hx1:x = 1
 ·have k:K (.bool false) w1:=by
   have k:=k w1 hb1
   rw [if_pos hx1] at k
   exact k
  rw [hx1]
  clear rr hsh hdl
  repeat (any_goals (first
  | (with_reducible refine yL ?_)
  | ((with_reducible refine oG fun X Y=>?_); simp [go_sem]; apply Y; clear Y X)))
  exact k
 ·have k:∀ w',Below w.heap.size w w' → K (.bool (!mrUp n t x)) w':=fun w' hb=>by
   have k:=k w' hb
   rw [if_neg hx1] at k
   exact k
  clear rr hsh hdl
  repeat (any_goals (first
  | (with_reducible refine yM ?_)
  | ((with_reducible refine oG fun X Y=>?_); simp [go_sem,hx1]; apply Y; clear Y X)))
  refine ⟨WiJ n t (mrUp n t x) w,wiMu t,⟨hb1,_,x,0,rfl,by omega,hp,rfl⟩,?_⟩
  generalize mrUp n t x = R at *
  clear hp hx1 hb1 hz w1
  rintro _ _ w1 ⟨hb1,v,y,i,rfl,hi,hx,hR⟩
  have hz:=hb1.size
  by_cases hit:i = t
  ·subst hit
   rw [Nat.sub_self] at hR
   have hR2:R = false:=by rw [← hR]; rfl
   subst hR2
   repeat (any_goals (first
   | (with_reducible refine yM ?_)
   | ((with_reducible refine oG fun X Y=>?_); simp [go_sem]; apply Y; clear Y X)))
   exact k _ hb1
  ·obtain ⟨j,hj⟩:∃ j,t - i = j + 1:=⟨t - i - 1,by omega⟩
   rw [hj] at hR
   unfold mrUp at hR
   by_cases hxn:y = n - 1
   ·rw [if_pos hxn] at hR
    subst hR
    have k:=k _ hb1
    rw [hm] at hxn
    repeat (any_goals (first
    | (with_reducible ((refine idCond ?_); first|refine yL ?_|refine yN ?_))
    | ((with_reducible refine oG fun X Y=>?_); simp [go_sem,hm,hxn]; (try simp (disch:=omega) only [wrapI64,wrapU8,wrapU32,wrapU64]); apply Y; clear Y X)))
    simpa using k
   ·rw [if_neg hxn] at hR
    rw [hm] at hxn
    repeat (any_goals (first
    | (with_reducible ((refine idCond ?_); first|refine yM ?_|refine yN ?_))
    | ((with_reducible refine oG fun X Y=>?_); simp [go_sem,hm,hxn]; (try simp (disch:=omega) only [wrapI64,wrapU8,wrapU32,wrapU64]); apply Y; clear Y X)))
    refine product_ok n y y hn hx hx (fun w2 hb2=>?_)
    repeat (any_goals ((with_reducible refine oG fun X Y=>?_); simp [go_sem]; (try simp (disch:=omega) only [wrapI64,wrapU8,wrapU32,wrapU64]); apply Y; clear Y X))
    refine ⟨⟨hb1.trans (hb2.mono hz),_,_,i + 1,rfl,by omega,⟨Int.emod_nonneg _ (by omega),Int.emod_lt_of_pos _ (by omega)⟩,?_⟩,?_⟩
    ·rw [show t - (i + 1) = j by omega]; exact hR
    ·simp only [wiMu_eq]; omega
def smallV:Array Value:=#[.int .i64 2,.int .i64 3,.int .i64 5,.int .i64 7,.int .i64 11,.int .i64 13,.int .i64 17,.int .i64 19,.int .i64 23,.int .i64 29,.int .i64 31,.int .i64 37]
def PrJ (n:Int) (W:World) (l:List Value) (w':World):Prop:=w' = W ∧ ∃ (v u:Value) (i:Nat),l = [v,u,.int .i64 (i:Int)] ∧ i ≤ 12 ∧ smallP.find? (fun p=>decide (n % p = 0)) = (smallP.drop i).find? (fun p=>decide (n % p = 0))
def PrJ2 (n:Int) (W:World) (l:List Value) (w':World):Prop:=Below W.heap.size W w' ∧ ∃ (v u:Value) (i:Nat),l = [v,u,.int .i64 (i:Int)] ∧ i ≤ 12 ∧ smallP.all (fun p=>passes n p) = (smallP.drop i).all (fun p=>passes n p)
def prMu (l:List Value) (_:World):Nat:=match l with | [_,_,.int _ i]=>12 - i.toNat | _=>0
theorem prMu_eq (x y:Value) (q:IntKind) (i:Int) (w:World):prMu [x,y,.int q i] w = 12 - i.toNat:=rfl
theorem small_at (i:Nat) (hi:i < 12):∃ p,(∀ w,(Instr.index 208 (.agg smallV) (.int .i64 (i:Int))).run Tryz.prog w = .ok (.int .i64 p) w) ∧ smallP.drop i = p :: smallP.drop (i + 1) ∧ 2 ≤ p ∧ p ≤ 37:=by
 rcases i with _ | _ | _ | _ | _ | _ | _ | _ | _ | _ | _ | _ | i
 ·exact ⟨2,fun w=>by kernel_rfl,rfl,by decide,by decide⟩
 ·exact ⟨3,fun w=>by kernel_rfl,rfl,by decide,by decide⟩
 ·exact ⟨5,fun w=>by kernel_rfl,rfl,by decide,by decide⟩
 ·exact ⟨7,fun w=>by kernel_rfl,rfl,by decide,by decide⟩
 ·exact ⟨11,fun w=>by kernel_rfl,rfl,by decide,by decide⟩
 ·exact ⟨13,fun w=>by kernel_rfl,rfl,by decide,by decide⟩
 ·exact ⟨17,fun w=>by kernel_rfl,rfl,by decide,by decide⟩
 ·exact ⟨19,fun w=>by kernel_rfl,rfl,by decide,by decide⟩
 ·exact ⟨23,fun w=>by kernel_rfl,rfl,by decide,by decide⟩
 ·exact ⟨29,fun w=>by kernel_rfl,rfl,by decide,by decide⟩
 ·exact ⟨31,fun w=>by kernel_rfl,rfl,by decide,by decide⟩
 ·exact ⟨37,fun w=>by kernel_rfl,rfl,by decide,by decide⟩
 ·omega
theorem build_small:oM Tryz.prog (Go.Op.build 208 #[(0,(.tmp 0)),(1,(.tmp 1)),(2,(.tmp 2)),(3,(.tmp 3)),(4,(.tmp 4)),(5,(.tmp 5)),(6,(.tmp 6)),(7,(.tmp 7)),(8,(.tmp 8)),(9,(.tmp 9)),(10,(.tmp 10)),(11,(.tmp 11))]) 208 smallV.toList = pureM (.agg smallV):=by
 funext K w
 kernel_rfl
theorem Prime_ok (n:Int) (hT:DbT w) (k:∀ w',Below w.heap.size w w' → K (.bool (primeM n)) w'):callM Tryz.prog 169 #[.int .i64 n] K w:=by
 apply sh_169_ok
 unfold sh_169
 unfold primeM at k
 by_cases h1:n < 2
 ·rw [if_pos (.inl h1)] at k
  repeat (any_goals (first
  | (with_reducible first|refine zD ?_|refine yB ?_|refine yL ?_)
  | ((with_reducible refine oG fun X Y=>?_); simp [go_sem,h1]; apply Y; clear Y X)))
  exact k _ (Below.refl _ _)
 by_cases h2:2305843009213693952 ≤ n
 ·rw [if_pos (.inr h2)] at k
  repeat (any_goals (first
  | (with_reducible first|refine pureM_in ?_|refine zC ?_|refine yC ?_|refine yL ?_)
  | ((with_reducible refine oG fun X Y=>?_); simp [go_sem,h1,h2]; apply Y; clear Y X)))
  exact k _ (Below.refl _ _)
 rw [if_neg (by omega)] at k
 have hn:okN n:=⟨by omega,by omega⟩
 repeat (any_goals (first
 | (with_reducible first|refine pureM_in ?_|refine zC ?_|refine yC ?_|refine yM ?_)
 | ((with_reducible refine oG fun X Y=>?_); simp [go_sem,h1,h2]; apply Y; clear Y X)))
 have bs:=build_small
 unfold smallV at bs
 simp only at bs
 repeat (any_goals ((with_reducible refine oG fun X Y=>?_); simp [go_sem,bs]; apply Y; clear Y X))
 clear bs
 have hbW:Below w.heap.size w (w.alloc (Obj.cells #[.int .i64 2,.int .i64 3,.int .i64 5,.int .i64 7,.int .i64 11,.int .i64 13,.int .i64 17,.int .i64 19,.int .i64 23,.int .i64 29,.int .i64 31,.int .i64 37] 208)):=(Below.refl _ _).alloc (rL) _
 have hTW:DbT (w.alloc (Obj.cells #[.int .i64 2,.int .i64 3,.int .i64 5,.int .i64 7,.int .i64 11,.int .i64 13,.int .i64 17,.int .i64 19,.int .i64 23,.int .i64 29,.int .i64 31,.int .i64 37] 208)):=hT.below hbW (rL)
 refine ⟨PrJ n (w.alloc (Obj.cells #[.int .i64 2,.int .i64 3,.int .i64 5,.int .i64 7,.int .i64 11,.int .i64 13,.int .i64 17,.int .i64 19,.int .i64 23,.int .i64 29,.int .i64 31,.int .i64 37] 208)),prMu,⟨rfl,_,_,0,rfl,by omega,rfl⟩,?_⟩
 rintro _ _ w1 ⟨e1,v,u,i,rfl,hi,hf⟩
 rw [e1]
 clear e1 w1
 by_cases h12:i = 12
 ·subst h12
  rw [show smallP.drop 12 = [] from rfl,List.find?_nil] at hf
  rw [hf] at k
  simp only at k
  have hnd:=List.find?_eq_none.1 hf
  have hbig:37 < n:=by
   have g:∀ p ∈ smallP,¬ n % p = 0:=fun p hp=>by simpa using hnd p hp
   have hs:∀ m:Nat,m < 38 → 2 ≤ m → ∃ p ∈ smallP,(m:Int) % p = 0:=by decide +kernel
   obtain ⟨m,rfl⟩:=natN n (by omega)
   by_cases hm:m < 38
   ·obtain ⟨p,hp,hp0⟩:=hs m hm (by omega)
    exact absurd hp0 (g p hp)
   ·omega
  clear hnd hf
  repeat (any_goals (first
  | (with_reducible refine yM ?_)
  | ((with_reducible refine oG fun X Y=>?_); simp [go_sem]; apply Y; clear Y X)))
  refine ⟨PrJ2 n (w.alloc (Obj.cells #[.int .i64 2,.int .i64 3,.int .i64 5,.int .i64 7,.int .i64 11,.int .i64 13,.int .i64 17,.int .i64 19,.int .i64 23,.int .i64 29,.int .i64 31,.int .i64 37] 208)),prMu,⟨Below.refl _ _,_,_,0,rfl,by omega,rfl⟩,?_⟩
  rintro _ _ w2 ⟨hb2,v2,u2,i,rfl,hi2,hall⟩
  have hb3:=hbW.trans (hb2.mono (by simp))
  have hT2:DbT w2:=hTW.below hb2 (rL)
  by_cases hi12:i = 12
  ·subst hi12
   rw [show smallP.drop 12 = [] from rfl,List.all_nil] at hall
   rw [hall] at k
   repeat (any_goals (first
   | (with_reducible refine yM ?_)
   | ((with_reducible refine oG fun X Y=>?_); simp [go_sem]; apply Y; clear Y X)))
   exact k _ hb3
  ·obtain ⟨p,hix,hdr,hp2,hp37⟩:=small_at i (by omega)
   unfold smallV at hix
   rw [hdr,List.all_cons] at hall
   have hz2:=hb2.size
   repeat (any_goals (first
   | (with_reducible refine yN ?_)
   | ((with_reducible refine oG fun X Y=>?_); simp [go_sem,hix]; (try simp (disch:=omega) only [wrapI64,wrapU8,wrapU32,wrapU64]); apply Y; clear Y X)))
   refine witness_ok n p hn (by omega) ⟨by omega,by omega⟩ hT2 (fun w3 hb4=>?_)
   cases hps:passes n p with
   | false=>
    rw [hps,bF] at hall
    rw [hall] at k
    simp only [Bool.not_false]
    repeat (any_goals (with_reducible refine yL ?_))
    exact k _ (hb3.trans (hb4.mono hb3.size))
   | true=>
    rw [hps,bT] at hall
    simp only [Bool.not_true]
    repeat (any_goals (first
    | (with_reducible refine yM ?_)
    | ((with_reducible refine oG fun X Y=>?_); simp [go_sem]; (try simp (disch:=omega) only [wrapI64,wrapU8,wrapU32,wrapU64]); apply Y; clear Y X)))
    refine ⟨⟨hb2.trans (hb4.mono hz2),_,_,i + 1,rfl,by omega,hall⟩,?_⟩
    simp only [prMu_eq]; omega
 ·obtain ⟨p,hix,hdr,hp2,hp37⟩:=small_at i (by omega)
  unfold smallV at hix
  rw [hdr] at hf
  have er:n.tmod p = n % p:=Int.tmod_eq_emod_of_nonneg (by omega)
  by_cases hd:n % p = 0
  ·rw [List.find?_cons_of_pos (by simpa using hd)] at hf
   rw [hf] at k
   have k:=k _ hbW
   simp only at k
   repeat (any_goals (first
   | (with_reducible ((refine idCond ?_); first|refine yL ?_|refine yN ?_))
   | ((with_reducible refine oG fun X Y=>?_); simp [go_sem,hix,er,hd]; (first|refine Y _ _ ?_|refine And.intro (by omega) (Y _ _ ?_)); clear Y X)))
   exact k
  ·rw [List.find?_cons_of_neg (by simpa using hd)] at hf
   repeat (any_goals (first
   | (with_reducible ((refine idCond ?_); first|refine yM ?_|refine yN ?_))
   | ((with_reducible refine oG fun X Y=>?_); simp [go_sem,hix,er,hd]; (try simp (disch:=omega) only [wrapI64,wrapU8,wrapU32,wrapU64]); (first|refine Y _ _ ?_|refine And.intro (by omega) (Y _ _ ?_)); clear Y X)))
   refine ⟨⟨rfl,_,_,i + 1,rfl,by omega,hf⟩,?_⟩
   simp only [prMu_eq]; omega
@[reducible] def grpV (g:Grp):Value:=.agg #[.int .i64 g.P,.int .i64 g.Q,.int .i64 g.G]
def GrpR (g:Grp):Prop:=I64 g.P ∧ I64 g.Q ∧ I64 g.G
theorem validG_not {g:Grp} (h:g.Q < 5 ∨ 1152921504606846976 ≤ g.Q ∨ g.P ≠ 2 * g.Q + 1 ∨ g.G < 2 ∨ g.P ≤ g.G):validG g = false:=by
 unfold validG; rw [if_pos h]
theorem validG_yes {g:Grp} (h:¬ (g.Q < 5 ∨ 1152921504606846976 ≤ g.Q ∨ g.P ≠ 2 * g.Q + 1 ∨ g.G < 2 ∨ g.P ≤ g.G)):validG g = (primeM g.Q && primeM g.P && decide (pw g.P g.G g.Q.toNat = 1)):=by
 unfold validG; rw [if_neg h]
theorem box_grp {T T':TypeId} (g:Grp) (k:∀ b W,Below w.heap.size w W → w.heap.size ≤ b → (∀ w',Below W.heap.size W w' → w'.cell? ⟨b,0,none⟩ = some (.int .i64 g.P)) → (∀ w',Below W.heap.size W w' → w'.cell? ⟨b,1,none⟩ = some (.int .i64 g.Q)) → (∀ w',Below W.heap.size W w' → w'.cell? ⟨b,2,none⟩ = some (.int .i64 g.G)) → K (.pointer (some ⟨b,0,none⟩)) W):oM Tryz.prog (.box T (.tmp 0)) T' [grpV g] K w:=
 box_in (cs:=[.int .i64 g.P,.int .i64 g.Q,.int .i64 g.G]) rfl fun b W h1 h2 hB=>k b W h1 h2 (fun w' h=>hB w' h 0 _ rfl) (fun w' h=>hB w' h 1 _ rfl) (fun w' h=>hB w' h 2 _ rfl)
set_option maxHeartbeats 2000000 in
theorem ValidGroup_ok (g:Grp) (hg:GrpR g) (hT:DbT w) (k:∀ w',Below w.heap.size w w' → K (.bool (validG g)) w'):callM Tryz.prog 107 #[grpV g] K w:=by
 apply sh_107_ok
 unfold sh_107
 refine box_grp g fun b W hW hb c0 c1 c2=>?_
 have n1:=validG_not (g:=g)
 have n2:=validG_yes (g:=g)
 obtain ⟨P,Q,G⟩:=g
 obtain ⟨hP,hQ,hG⟩:=hg
 unfold I64 at hP hQ hG
 simp only at hP hQ hG n1 n2 c0 c1 c2
 have hr:=Below.refl W.heap.size W
 have hTW:DbT W:=hT.below hW (rL)
 have k1:∀ w',validG ⟨P,Q,G⟩ = false → Below W.heap.size W w' → K (.bool false) w':=fun w' e hb=>by rw [e] at k; exact k w' (hW.on hb)
 have k2:∀ w' v,validG ⟨P,Q,G⟩ = v → Below W.heap.size W w' → K (.bool v) w':=fun w' v e hb=>by rw [e] at k; exact k w' (hW.on hb)
 clear k
 repeat (any_goals (first
 | (with_reducible first|((refine idGd ?_); first|refine zD ?_|((refine idGdD ?_); first|refine zI ?_|refine zJ ?_|refine zK (fun hg=>?_) fun hg=>?_)|((refine idGdN ?_); first|refine zO ?_|refine zP ?_|refine zQ (fun hg=>?_) fun hg=>?_))|((refine idPick ?_); first|refine yB ?_|refine yD ?_|refine yE ?_|refine yF ?_|refine yG ?_)|((refine idCond ?_); first|refine yL ?_|refine yP (fun hg=>?_) fun hg=>?_))
 | ((with_reducible refine oG fun X Y=>?_); simp [go_sem,c0,c1,c2,hr]; (try simp (disch:=omega) only [wrapI64,wrapU8,wrapU32,wrapU64]); apply Y; clear Y X)))
 all_goals try exact k1 _ (n1 (by omega)) hr
 refine Prime_ok Q hTW (fun w1 h1=>?_)
 have n2:=n2 (by omega)
 cases hq:primeM Q with
 | false=>
  have n2:validG ⟨P,Q,G⟩ = false:=by rw [n2,hq]; rfl
  repeat (any_goals (with_reducible first|refine zB ?_|refine yC ?_))
  exact k1 _ n2 h1
 | true=>
  rw [hq,bT] at n2
  repeat (any_goals (first
  | (with_reducible refine zA ?_)
  | ((with_reducible refine oG fun X Y=>?_); simp [go_sem,c0,h1]; apply Y; clear Y X)))
  refine Prime_ok P (hTW.below h1 (rL)) (fun w2 h2=>?_)
  have h2:=h1.on h2
  cases hp:primeM P with
  | false=>
   have n2:validG ⟨P,Q,G⟩ = false:=by rw [n2,hp]; rfl
   repeat (any_goals (with_reducible first|refine zB ?_|((refine idPick ?_); first|refine yB ?_|refine yC ?_)))
   exact k1 _ n2 h2
  | true=>
   rw [hp,bT] at n2
   repeat (any_goals (first
   | (with_reducible first|refine zA ?_|refine yB ?_)
   | ((with_reducible refine oG fun X Y=>?_); simp [go_sem,c0,c1,c2,h2]; apply Y; clear Y X)))
   refine Pow_ok P G Q hQ (fun w3 h3=>?_)
   have e:powM P G Q = pw P G Q.toNat:=by unfold powM; rw [if_pos (by unfold okN; omega),if_pos (by omega)]
   rw [e]
   generalize pw P G Q.toNat = z at *
   have h3:=h2.on h3
   repeat (any_goals (first
   | (with_reducible first|refine zA ?_|refine yB ?_)
   | ((with_reducible refine oG fun X Y=>?_); simp [go_sem]; apply Y; clear Y X)))
   exact k2 _ _ n2 h3
theorem Element_ok (g:Grp) (x:Int) (hgr:GrpR g) (hT:DbT w) (k:∀ w',Below w.heap.size w w' → K (.bool (elemG g x)) w'):callM Tryz.prog 109 #[grpV g,.int .i64 x] K w:=by
 apply sh_109_ok
 unfold sh_109
 refine box_grp g fun b W hW hb c0 c1 c2=>?_
 have hr:=Below.refl W.heap.size W
 have hTW:DbT W:=hT.below hW (rL)
 have k2:∀ w' v,elemG g x = v → Below W.heap.size W w' → K (.bool v) w':=fun w' v e hb=>by rw [← e]; exact k w' (hW.on hb)
 have e0:elemG g x = (decide (1 ≤ x) && decide (x < g.P) && validG g && decide (pw g.P x g.Q.toNat = 1)):=rfl
 clear k
 repeat (any_goals (first
 | (with_reducible first|refine pureM_in ?_|((refine idGd ?_); first|refine zB ?_|((refine idGdD ?_); first|refine zF ?_|refine zG ?_|refine zH (fun hg=>?_) fun hg=>?_))|((refine idPick ?_); first|refine yC ?_|refine yD ?_|refine yE ?_))
 | ((with_reducible refine oG fun X Y=>?_); simp [go_sem,c0,c1,c2,hr]; apply Y; clear Y X)))
 ·refine ValidGroup_ok g hgr hTW (fun w1 h1=>?_)
  cases hv:validG g with
  | false=>
   repeat (any_goals (with_reducible first|refine zB ?_|((refine idPick ?_); first|refine yC ?_|refine yD ?_)))
   exact k2 _ _ (by rw [e0,hv]; simp) h1
  | true=>
   have hv2:=hv
   unfold validG at hv2
   split at hv2
   ·cases hv2
   rename_i hn
   repeat (any_goals (first
   | (with_reducible first|refine pureM_in ?_|refine zA ?_|refine yD ?_)
   | ((with_reducible refine oG fun X Y=>?_); simp [go_sem,c0,c1,h1]; apply Y; clear Y X)))
   refine Pow_ok g.P x g.Q hgr.2.1 (fun w3 h3=>?_)
   have e:powM g.P x g.Q = pw g.P x g.Q.toNat:=by unfold powM; rw [if_pos (by unfold okN; omega),if_pos (by omega)]
   rw [e]
   have e1:elemG g x = decide (pw g.P x g.Q.toNat = 1):=by rw [e0,hv]; simp; omega
   generalize pw g.P x g.Q.toNat = z at *
   repeat (any_goals (first
   | (with_reducible first|refine zA ?_|refine yB ?_)
   | ((with_reducible refine oG fun X Y=>?_); simp [go_sem]; apply Y; clear Y X)))
   exact k2 _ _ e1 (h1.on h3)
 ·exact k2 _ _ (by rw [e0]; simp; omega) hr
 ·exact k2 _ _ (by rw [e0]; simp; omega) hr
theorem Power_ok (g:Grp) (x n:Int) (k:∀ w',Below w.heap.size w w' → K (.int .i64 (powerG g x n)) w'):callM Tryz.prog 46 #[grpV g,.int .i64 x,.int .i64 n] K w:=by
 apply sh_46_ok
 unfold sh_46
 refine box_grp g fun b W hW hb c0 c1 c2=>?_
 have hr:=Below.refl W.heap.size W
 have k2:∀ w' v,powerG g x n = v → Below W.heap.size W w' → K (.int .i64 v) w':=fun w' v e hb=>by rw [← e]; exact k w' (hW.on hb)
 clear k
 repeat (any_goals ((with_reducible refine oG fun X Y=>?_); simp [go_sem,c0,c1,c2,hr]; apply Y; clear Y X))
 refine valid_ok g.P ?_
 by_cases hp:okN g.P
 ·by_cases hq:okN g.Q
  ·repeat (any_goals (first
   | (with_reducible ((refine idGd ?_); ((refine idGdN ?_); refine zO ?_)))
   | ((with_reducible refine oG fun X Y=>?_); simp [go_sem,c0,c1,c2,hr]; apply Y; clear Y X)))
   refine valid_ok g.Q ?_
   repeat (any_goals (first
   | (with_reducible first|((refine idGd ?_); ((refine idGdN ?_); refine zO ?_))|refine yG ?_|refine yR ?_)
   | ((with_reducible refine oG fun X Y=>?_); simp [go_sem,c0,c1,c2,hr]; apply Y; clear Y X)))
   refine ⟨Below W.heap.size W,.drawn,?_⟩
   have hp':=hp
   have hq':=hq
   obtain ⟨h1,h2⟩:=hp'
   obtain ⟨h3,h4⟩:=hq'
   have a1:=Int.emod_nonneg x (b:=g.P) (by omega)
   have a2:=Int.emod_lt_of_pos x (b:=g.P) (by omega)
   have a3:=Int.emod_nonneg n (b:=g.Q) (by omega)
   have a4:=Int.emod_lt_of_pos n (b:=g.Q) (by omega)
   have e0:powerG g x n = pw g.P (x % g.P) (n % g.Q).toNat:=by unfold powerG; rw [if_pos ⟨hp,hq⟩,pw_emod]
   obtain ⟨m,hm⟩:=natN (n % g.Q) a3
   rw [hm,Int.toNat_natCast] at e0
   have hr:=pw_nonneg g.P (x % g.P) m (by omega)
   repeat (any_goals ((with_reducible refine idOQ ?_); (with_reducible refine oQ_of ⟨_,rfl⟩ (fun W0 hW0=>by (refine oG (fun X Y=>?_)); simp [go_sem,c0 _ hW0,c1 _ hW0,c2 _ hW0]; (first | exact Y _ _ ⟨rfl,rfl⟩ | exact ⟨by omega,Y _ _ ⟨rfl,rfl⟩⟩)) ?_)))
   refine callQ_of (fun W0 hW0=>residue_ok g.P x hp ⟨rfl,hW0⟩) ?_
   repeat (any_goals ((with_reducible refine idOQ ?_); (with_reducible refine oQ_of ⟨_,rfl⟩ (fun W0 hW0=>by (refine oG (fun X Y=>?_)); simp [go_sem,c0 _ hW0,c1 _ hW0,c2 _ hW0]; (first | exact Y _ _ ⟨rfl,rfl⟩ | exact ⟨by omega,Y _ _ ⟨rfl,rfl⟩⟩)) ?_)))
   refine callQ_of (fun W0 hW0=>residue_ok g.Q n hq ⟨rfl,hW0⟩) ?_
   rw [hm]
   refine callQ_of (fun W0 hW0=>power_ok g.P (x % g.P) m hp ⟨a1,a2⟩ (by omega) (fun w' hw'=>⟨rfl,hW0.on hw'⟩)) ?_
   generalize pw g.P (x % g.P) m = z at *
   have e3:IntKind.i64.wrap z = z:=wrapI64 z (by omega) (by omega)
   repeat (any_goals ((with_reducible refine idOQ ?_); (with_reducible refine oQ_of ⟨_,rfl⟩ (fun W0 hW0=>by (refine oG (fun X Y=>?_)); simp [go_sem,e3]; (first | exact Y _ _ ⟨rfl,rfl⟩ | exact ⟨by omega,Y _ _ ⟨rfl,rfl⟩⟩)) ?_)))
   intro w' hw'
   exact k2 _ _ e0 hw'
  ·have e0:powerG g x n = 0:=by unfold powerG; rw [if_neg (fun h=>hq h.2)]
   repeat (any_goals (first
   | (with_reducible ((refine idGd ?_); ((refine idGdN ?_); refine zO ?_)))
   | ((with_reducible refine oG fun X Y=>?_); simp [go_sem,c0,c1,c2,hr]; apply Y; clear Y X)))
   refine valid_ok g.Q ?_
   repeat (any_goals (first
   | (with_reducible first|((refine idGd ?_); ((refine idGdN ?_); refine zO ?_))|refine yG ?_|refine yQ ?_)
   | ((with_reducible refine oG fun X Y=>?_); simp [go_sem,c0,c1,c2,hr]; apply Y; clear Y X)))
   exact k2 _ _ e0 hr
 ·have e0:powerG g x n = 0:=by unfold powerG; rw [if_neg (fun h=>hp h.1)]
  repeat (any_goals (first
  | (with_reducible first|((refine idGd ?_); ((refine idGdN ?_); refine zP ?_))|refine yF ?_|refine yL ?_)
  | ((with_reducible refine oG fun X Y=>?_); simp [go_sem,c0,c1,c2,hr]; apply Y; clear Y X)))
  exact k2 _ _ e0 hr
theorem Times_ok (g:Grp) (x n:Int) (k:∀ w',Below w.heap.size w w' → K (.int .i64 (timesG g x n)) w'):callM Tryz.prog 178 #[grpV g,.int .i64 x,.int .i64 n] K w:=by
 apply sh_178_ok
 unfold sh_178
 refine box_grp g fun b W hW hb c0 c1 c2=>?_
 have hr:=Below.refl W.heap.size W
 have k2:∀ w' v,timesG g x n = v → Below W.heap.size W w' → K (.int .i64 v) w':=fun w' v e hb=>by rw [← e]; exact k w' (hW.on hb)
 clear k
 repeat (any_goals ((with_reducible refine oG fun X Y=>?_); simp [go_sem,c0,c1,c2,hr]; apply Y; clear Y X))
 refine valid_ok g.Q ?_
 by_cases hq:okN g.Q
 ·repeat (any_goals (first
  | (with_reducible refine yR ?_)
  | ((with_reducible refine oG fun X Y=>?_); simp [go_sem,c0,c1,c2,hr]; apply Y; clear Y X)))
  refine Mul_ok g.P x n (fun w1 h1=>?_)
  exact k2 _ _ (by unfold timesG; rw [if_pos hq]) h1
 ·repeat (any_goals (first
  | (with_reducible refine yQ ?_)
  | ((with_reducible refine oG fun X Y=>?_); simp [go_sem,c0,c1,c2,hr]; apply Y; clear Y X)))
  exact k2 _ _ (by unfold timesG; rw [if_neg hq]) hr
def PdJ (g:Grp) (R:Int) (ps:List (Int × Int)) (W:World) (l:List Value) (w':World):Prop:=Below W.heap.size W w' ∧ ∃ (v u:Value) (o:Int) (i:Nat),l = [v,u,.int .i64 o,.int .i64 (i:Int)] ∧ i ≤ ps.length ∧ prodL g o (ps.drop i) = R
def pdMu (n:Nat) (l:List Value) (_:World):Nat:=match l with | [_,_,_,.int _ i]=>n - i.toNat | _=>0
theorem pdMu_eq (n:Nat) (x y z:Value) (q:IntKind) (i:Int) (w:World):pdMu n [x,y,z,.int q i] w = n - i.toNat:=rfl
theorem zip_drop (a b:List Int) (i:Nat) (h1:i < a.length) (h2:i < b.length):(a.zip b).drop i = (a[i],b[i]) :: (a.zip b).drop (i + 1):=by
 rw [List.drop_eq_getElem_cons (by rw [List.length_zip]; omega),List.getElem_zip]
@[go_sem] theorem oM_index_ints (T:TypeId) (b o n c:Nat) (x:Int):oM Tryz.prog (.indexAddr 24 (.tmp 0) (.tmp 1)) T [.slice (some ⟨b,o,none⟩) n c,.int .i64 x] = onM (0 ≤ x ∧ x < n) (.pointer (some ⟨b,o + x.toNat,none⟩)):=by
 funext K w
 rw [oM_indexAddr,run_indexAt_slice (h:=by kernel_rfl)]
 have hs:(sizeOf (Tryz.prog.elem 24)).run Tryz.prog w = .ok 1 w:=by kernel_rfl
 by_cases hi:0 ≤ x ∧ x < n
 ·rw [if_pos hi,hs]
  simp only [Result.andThen,add_none,Nat.mul_one,rM_ok]
  exact propext ⟨fun h=>⟨hi,h⟩,fun h=>h.2⟩
 ·rw [if_neg hi]
  obtain ⟨e',w',he⟩:=halts Value Tryz.prog .i64 x n .index w
  rw [he]
  exact propext ⟨fun h=>h.elim,fun h=>hi h.1⟩
theorem Product_ok (g:Grp) {bv ev:Value} {bs es:List Int} (hbs:Ints w bv bs) (hes:Ints w ev es) (k:∀ w',Below w.heap.size w w' → K (.tuple #[.int .i64 (prodG g bs es).1,.bool (prodG g bs es).2]) w'):callM Tryz.prog 126 #[grpV g,bv,ev] K w:=by
 apply sh_126_ok
 unfold sh_126
 refine box_grp g fun b W hW hb c0 c1 c2=>?_
 have hr:=Below.refl W.heap.size W
 have k2:∀ w' v,prodG g bs es = v → Below W.heap.size W w' → K (.tuple #[.int .i64 v.1,.bool v.2]) w':=fun w' v e hb=>by rw [← e]; exact k w' (hW.on hb)
 clear k
 obtain ⟨bad,bc,rfl⟩:=hbs.isSlice
 obtain ⟨ead,ec,rfl⟩:=hes.isSlice
 have hbs:=hbs.next hW
 have hes:=hes.next hW
 have l1:=hbs.len
 have l2:=hes.len
 repeat (any_goals ((with_reducible refine oG fun X Y=>?_); simp [go_sem,c0,c1,c2,hr]; apply Y; clear Y X))
 refine valid_ok g.P ?_
 by_cases hp:okN g.P
 ·by_cases hq:okN g.Q
  ·repeat (any_goals (first
   | (with_reducible ((refine idGd ?_); ((refine idGdN ?_); refine zO ?_)))
   | ((with_reducible refine oG fun X Y=>?_); simp [go_sem,c0,c1,c2,hr]; apply Y; clear Y X)))
   refine valid_ok g.Q ?_
   by_cases hl:bs.length = es.length
   ·have e1:(1:Int).tmod g.P = 1 % g.P:=Int.tmod_eq_emod_of_nonneg (by omega)
    have hp0:=hp.1
    have e0:prodG g bs es = (prodL g (1 % g.P) (bs.zip es),true):=by unfold prodG; rw [if_pos ⟨hp,hq,hl⟩]
    have hzl:(bs.zip es).length = bs.length:=by rw [List.length_zip]; omega
    repeat (any_goals (first
    | (with_reducible first|refine pureM_in ?_|((refine idGd ?_); ((refine idGdN ?_); refine zO ?_))|refine yG ?_|refine yM ?_)
    | ((with_reducible refine oG fun X Y=>?_); simp [go_sem,c0,c1,c2,hr,hl,e1]; (first|refine Y _ _ ?_|refine And.intro (by omega) (Y _ _ ?_)); clear Y X)))
    refine ⟨PdJ g (prodL g (1 % g.P) (bs.zip es)) (bs.zip es) W,pdMu es.length,⟨hr,_,_,_,0,rfl,by omega,rfl⟩,?_⟩
    generalize prodL g (1 % g.P) (bs.zip es) = R at *
    rintro _ _ w1 ⟨h1,v,u,o,i,rfl,hi,he⟩
    rw [hzl] at hi
    by_cases hin:i = es.length
    ·rw [List.drop_of_length_le (by omega)] at he
     unfold prodL at he
     repeat (any_goals (first
     | (with_reducible refine yO ?_)
     | ((with_reducible refine oG fun X Y=>?_); simp [go_sem]; apply Y; clear Y X)))
     rw [he]
     exact k2 _ _ e0 h1
    ·rw [zip_drop bs es i (by omega) (by omega)] at he
     unfold prodL at he
     obtain ⟨b1,o1,rfl,hb1,ca,ra,_⟩:=hbs.at (i:=i) (by omega)
     obtain ⟨b2,o2,rfl,hb2,cb,rb,_⟩:=hes.at (i:=i) (by omega)
     repeat (any_goals (first
     | (with_reducible refine yN ?_)
     | ((with_reducible refine oG fun X Y=>?_); simp [go_sem,ca _ h1,c0,h1]; (first|refine Y _ _ ?_|refine And.intro (by omega) (Y _ _ ?_)); clear Y X)))
     refine ⟨Below W.heap.size W,h1.trans .drawn,?_⟩
     repeat (any_goals ((with_reducible refine idOQ ?_); (with_reducible refine oQ_of ⟨_,rfl⟩ (fun W0 hW0=>by (refine oG (fun X Y=>?_)); simp [go_sem,c0 _ hW0,c1 _ hW0,c2 _ hW0,cb _ hW0]; (first | exact Y _ _ ⟨rfl,rfl⟩ | exact ⟨by omega,Y _ _ ⟨rfl,rfl⟩⟩)) ?_)))
     refine callQ_of (fun W0 hW0=>Power_ok g _ _ (fun w' hw'=>⟨rfl,hW0.on hw'⟩)) ?_
     refine callQ_of (fun W0 hW0=>Mul_ok _ _ _ (fun w' hw'=>⟨rfl,hW0.on hw'⟩)) ?_
     intro w2 h2
     repeat (any_goals ((with_reducible refine oG fun X Y=>?_); simp [go_sem]; (try simp (disch:=omega) only [wrapI64,wrapU8,wrapU32,wrapU64]); apply Y; clear Y X))
     refine ⟨⟨h2,_,_,_,i + 1,rfl,by rw [hzl]; omega,he⟩,?_⟩
     simp only [pdMu_eq]; omega
   ·have e0:prodG g bs es = (0,false):=by unfold prodG; rw [if_neg (fun h=>hl h.2.2)]
    have hl':¬ (bs.length:Int) = es.length:=by omega
    repeat (any_goals (first
    | (with_reducible first|refine pureM_in ?_|((refine idGd ?_); ((refine idGdN ?_); refine zO ?_))|refine yG ?_|refine yL ?_)
    | ((with_reducible refine oG fun X Y=>?_); simp [go_sem,c0,c1,c2,hr,hl']; apply Y; clear Y X)))
    exact k2 _ _ e0 hr
  ·have e0:prodG g bs es = (0,false):=by unfold prodG; rw [if_neg (fun h=>hq h.2.1)]
   repeat (any_goals (first
   | (with_reducible ((refine idGd ?_); ((refine idGdN ?_); refine zO ?_)))
   | ((with_reducible refine oG fun X Y=>?_); simp [go_sem,c0,c1,c2,hr]; apply Y; clear Y X)))
   refine valid_ok g.Q ?_
   repeat (any_goals (first
   | (with_reducible first|((refine idGd ?_); ((refine idGdN ?_); first|refine zO ?_|refine zP ?_))|((refine idPick ?_); first|refine yF ?_|refine yG ?_)|refine yL ?_)
   | ((with_reducible refine oG fun X Y=>?_); simp [go_sem,c0,c1,c2,hr]; apply Y; clear Y X)))
   exact k2 _ _ e0 hr
 ·have e0:prodG g bs es = (0,false):=by unfold prodG; rw [if_neg (fun h=>hp h.1)]
  repeat (any_goals (first
  | (with_reducible first|((refine idGd ?_); first|refine zD ?_|((refine idGdN ?_); refine zP ?_))|((refine idPick ?_); first|refine yB ?_|refine yF ?_)|refine yL ?_)
  | ((with_reducible refine oG fun X Y=>?_); simp [go_sem,c0,c1,c2,hr]; apply Y; clear Y X)))
  exact k2 _ _ e0 hr
end
end Go.Proofs
namespace Go.Sh
open Go Go.RowKit
@[reducible] def cellsAre (w:World):List (Addr × Value) → Prop
 | []=>True
 | p :: l=>w.cell? p.1 = some p.2 ∧ cellsAre w l
theorem cellsAre_keep {w w':World}:∀ {L:List (Addr × Value)},cellsAre w L → (∀ (a:Addr),a.block < w.heap.size → w'.cell? a = w.cell? a) → cellsAre w' L
 | [],_,_=>trivial
 | p :: l,h,k=>by
  refine ⟨?_,cellsAre_keep h.2 k⟩
  have hlt:p.1.block < w.heap.size:=by
   have h1:=h.1
   by_cases hc:p.1.block < w.heap.size
   ·exact hc
   ·unfold World.cell? at h1
    rw [Array.getElem?_eq_none (by omega)] at h1
    simp at h1
  rw [k _ hlt]; exact h.1
theorem cellsAre_keepBut {w w':World} {g:Nat}:∀ {L:List (Addr × Value)},cellsAre w L → (∀ p ∈ L,p.1.block ≠ g) → (∀ (a:Addr),a.block < w.heap.size → a.block ≠ g → w'.cell? a = w.cell? a) → cellsAre w' L
 | [],_,_,_=>trivial
 | p :: l,h,hn,k=>by
  refine ⟨?_,cellsAre_keepBut h.2 (fun q hq=>hn q (List.mem_cons_of_mem _ hq)) k⟩
  have hlt:p.1.block < w.heap.size:=by
   have h1:=h.1
   by_cases hc:p.1.block < w.heap.size
   ·exact hc
   ·unfold World.cell? at h1
    rw [Array.getElem?_eq_none (by omega)] at h1
    simp at h1
  rw [k _ hlt (hn p (List.mem_cons_self ..))]; exact h.1
structure Kn (w0:World) (L:List (Addr × Value)) (w':World):Prop where
 below:Below w0.heap.size w0 w'
 cells:cellsAre w' L
namespace Kn
variable {w0 w w':World} {L:List (Addr × Value)}
theorem start (w:World):Kn w [] w:=⟨Below.refl _ _,trivial⟩
theorem next (h:Kn w0 L w) (hb:Below w.heap.size w w'):Kn w0 L w':=⟨h.below.on hb,cellsAre_keep h.cells fun a ha=>hb.cell ha⟩
theorem drew (h:Kn w0 L w):Kn w0 L { w with drawn:=w.drawn + 1 }:=h.next .drawn
theorem wrote (h:Kn w0 L w) {g:Nat} (hg:w.grownBy w' (some g)) (h0:w0.heap.size ≤ g) (hn:∀ p ∈ L,p.1.block ≠ g):Kn w0 L w':=
 ⟨h.below.grown hg h.below.size (fun k hk=>by cases hk; exact h0),
  cellsAre_keepBut h.cells hn fun a ha hna=>World.cell?_of_block (w:=w) (hg.block _ ha (fun e=>hna (oI e)))⟩
theorem less {A:List (Addr × Value)} (h:Kn w0 (A ++ L) w):Kn w0 L w:=⟨h.below,by
 have:=h.cells
 clear h
 induction A with
 | nil=>exact this
 | cons a A ih=>exact ih this.2⟩
end Kn
@[reducible] def cellsOf (L:List (Addr × Value)) (b:Nat):Nat → List Value → List (Addr × Value)
 | _,[]=>L
 | i,v :: l=>(⟨b,i,none⟩,v) :: cellsOf L b (i + 1) l
theorem cellsOf_are {w:World} {b:Nat} {xs:List Value} {L:List (Addr × Value)} (hL:cellsAre w L) (h:∀ (i:Nat) (v:Value),xs[i]? = some v → w.cell? ⟨b,i,none⟩ = some v):∀ (l:List Value) (i:Nat),xs.drop i = l → cellsAre w (cellsOf L b i l)
 | [],_,_=>hL
 | v :: l,i,e=>by
  have hv:xs[i]? = some v:=by
   have:=congrArg (·[0]?) e
   simpa using this
  refine ⟨h i v hv,cellsOf_are hL h l (i + 1) ?_⟩
  have:=congrArg List.tail e
  simpa using this
def Mine (w:World) (g:Nat) (n:Nat):Prop:=∃ cur T,w.heap[g]? = some (.cells cur T (0,0)) ∧ cur.size = n
theorem Mine.next {w w':World} {g n:Nat} (h:Mine w g n) (hb:Below w.heap.size w w'):Mine w' g n:=by
 obtain ⟨cur,T,h1,h2⟩:=h
 refine ⟨cur,T,?_,h2⟩
 rw [hb.block g (Array.getElem?_eq_some_iff.1 h1).1]; exact h1
section
variable {P:Program} {w0 w:World} {K:VK} {T T':TypeId} {L:List (Addr × Value)}
theorem box_kn {x:Value} {cs:List Value} (hx:x.cells = cs.toArray) (hk:Kn w0 L w) (k:∀ b W,Kn w0 (cellsOf L b 0 cs) W → Below w.heap.size w W → w.heap.size ≤ b → K (.pointer (some ⟨b,0,none⟩)) W):oM P (.box T (.tmp 0)) T' [x] K w:=
 box_in hx fun g W h1 h2 h3=>k g W ⟨(hk.next h1).below,cellsOf_are (xs:=cs) (hk.next h1).cells (fun i v hi=>h3 W (Below.refl _ _) i v hi) cs 0 rfl⟩ h1 h2
end
end Go.Sh
namespace TkSpec
open FdSpec
structure Stp where
 g:Grp
 bases:List Int
 blind:Int
deriving DecidableEq
structure Bld where
 s:Int
 u:Int
 v:Int
 ys:List Int
deriving DecidableEq
structure Tkt where
 mark:Int
 first:Int
 z:Int
 a:Int
 b:Int
 r:Int
deriving DecidableEq
structure Spd where
 dare:Int
 answers:List Int
deriving DecidableEq
structure Off where
 z:Int
 a:Int
 b:Int
deriving DecidableEq
def otherM (g:Grp) (x:Int):Bool:=!decide (x = 1) && elemG g x
def validS (s:Stp):Bool:=validG s.g && decide (2 ≤ s.bases.length) && decide (s.bases.length ≤ 7) && s.bases.all (otherM s.g) && otherM s.g s.blind
def numsM (s:Stp) (least:Int) (l:List Int):Bool:=l.all fun n=>decide (least ≤ n) && decide (n < s.g.Q)
def elementsM (s:Stp) (l:List Int):Bool:=l.all (elemG s.g)
def keyM (s:Stp) (k:Int):Bool:=!decide (k = 1) && elementsM s [k]
def genM (s:Stp) (k:Int):Int:=powerG s.g s.g.G k
def timesM (s:Stp) (first:Int) (l:List Int):Int:=l.foldl (fun a x=>timesG s.g a x) first
def mulQ (s:Stp) (first:Int) (l:List Int):Int:=l.foldl (fun a x=>mulM s.g.Q a x) first
def overQ (s:Stp) (a b:Int):Int:=mulQ s a [powM s.g.Q b (-1)]
def plusQ (s:Stp) (a b:Int):Int:=addM s.g.Q a b
def lessQ (s:Stp) (a b:Int):Int:=subM s.g.Q a b
def expsM (attrs:List Int):List Int:=1 :: attrs
def markM (s:Stp) (attrs:List Int):Int × Bool:=
 if validS s && decide (attrs.length + 1 = s.bases.length) && numsM s 0 attrs && !decide (attrs.headD 0 = 0) then ((prodG s.g s.bases (expsM attrs)).1,true) else (0,false)
def usableM (s:Stp) (attrs:List Int):Int × Bool:=((markM s attrs).1,(markM s attrs).2 && !decide ((markM s attrs).1 = 1))
def blindsM (s:Stp) (b:Bld):Bool:=numsM s 1 [b.s,b.u] && numsM s 0 [b.v] && decide (b.ys.length = s.bases.length) && numsM s 0 b.ys
def useM (s:Stp) (attrs:List Int) (b:Bld) (dare:Int):Spd × Bool:=
 if (usableM s attrs).2 && blindsM s b && numsM s 1 [dare] then (⟨dare,((expsM attrs).zip b.ys).map fun p=>plusQ s p.2 (mulQ s dare [b.s,p.1])⟩,true) else (⟨0,[]⟩,false)
def s0:Stp:=⟨⟨23,11,4⟩,[4,16,18],3⟩
def b0:Bld:=⟨4,1,0,[1,2,3]⟩
def t0:Tkt:=⟨8,18,9,16,13,0⟩
end TkSpec
namespace Go.Proofs
open Go Go.Sh Go.RowKit FdSpec TkSpec
section
variable {K:VK} {w:World}
@[reducible] def stpV (s:Stp) (v:Value):Value:=.agg #[.int .i64 s.g.P,.int .i64 s.g.Q,.int .i64 s.g.G,v,.int .i64 s.blind]
@[reducible] def stpC (s:Stp) (v:Value):List Value:=[.int .i64 s.g.P,.int .i64 s.g.Q,.int .i64 s.g.G,v,.int .i64 s.blind]
structure SetR (w:World) (s:Stp) (v:Value):Prop where
 grp:GrpR s.g
 ints:Ints w v s.bases
 blind:I64 s.blind
 db:DbT w
theorem DbT.next {w w':World} (h:DbT w) (hb:Below w.heap.size w w'):DbT w':=h.below hb (rL)
theorem SetR.next {w w':World} {s:Stp} {v:Value} (h:SetR w s v) (hb:Below w.heap.size w w'):SetR w' s v:=⟨h.grp,h.ints.next hb,h.blind,h.db.next hb⟩
theorem other_ok (g:Grp) (x:Int) {b:Nat} (hg:GrpR g) (hT:DbT w) (h0:w.cell? ⟨b,0,none⟩ = some (.int .i64 g.P)) (h1:w.cell? ⟨b,1,none⟩ = some (.int .i64 g.Q)) (h2:w.cell? ⟨b,2,none⟩ = some (.int .i64 g.G))
  (k:∀ w',Below w.heap.size w w' → K (.bool (otherM g x)) w'):callM Tryz.prog 108 #[.int .i64 x,.pointer (some ⟨b,0,none⟩)] K w:=by
 apply sh_108_ok
 unfold sh_108
 unfold otherM at k
 by_cases hx:x = 1
 ·have k:=k w (Below.refl _ _)
  repeat (any_goals (first
  | (with_reducible first|((refine idGd ?_); ((refine idGdN ?_); refine zM ?_))|refine yG ?_)
  | ((with_reducible refine oG fun X Y=>?_); simp [go_sem,h0,h1,h2]; apply Y; clear Y X)))
  simpa [hx] using k
 ·repeat (any_goals (first
  | (with_reducible first|refine pureM_in ?_|((refine idGd ?_); ((refine idGdN ?_); refine zL ?_)))
  | ((with_reducible refine oG fun X Y=>?_); simp [go_sem,h0,h1,h2]; apply Y; clear Y X)))
  refine Element_ok g x hg hT (fun w' hw=>?_)
  have k:=k w' hw
  repeat (any_goals (with_reducible refine yF ?_))
  simpa [hx] using k
def VsJ (s:Stp) (L:List (Addr × Value)) (R:Bool) (w0:World) (l:List Value) (w':World):Prop:=Kn w0 L w' ∧ ∃ (v u:Value) (i:Nat),l = [v,u,.int .i64 (i:Int)] ∧ i ≤ s.bases.length ∧ (s.bases.drop i).all (otherM s.g) = R
def vsMu (n:Nat) (l:List Value) (_:World):Nat:=match l with | [_,_,.int _ i]=>n - i.toNat | _=>0
theorem vsMu_eq (n:Nat) (x y:Value) (q:IntKind) (i:Int) (w:World):vsMu n [x,y,.int q i] w = n - i.toNat:=rfl
theorem ValidSetup_ok (s:Stp) {v:Value} (hs:SetR w s v) (k:∀ w',Below w.heap.size w w' → K (.bool (validS s)) w'):callM Tryz.prog 21 #[stpV s v] K w:=by
 apply sh_21_ok
 unfold sh_21
 obtain ⟨ad,c,rfl⟩:=hs.ints.isSlice
 refine box_kn (cs:=stpC s (.slice ad s.bases.length c)) rfl (.start w) fun b W hk hb1 hb=>?_
 have k2:∀ w' r,validS s = r → Below w.heap.size w w' → K (.bool r) w':=fun w' r e hb=>by rw [← e]; exact k w' hb
 have e0:validS s = (validG s.g && decide (2 ≤ s.bases.length) && decide (s.bases.length ≤ 7) && s.bases.all (otherM s.g) && otherM s.g s.blind):=rfl
 have hl:=hs.ints.len
 clear k
 repeat (any_goals ((with_reducible refine oG fun X Y=>?_); simp [go_sem,hk.cells]; apply Y; clear Y X))
 refine ValidGroup_ok s.g hs.grp (hs.db.next hk.below) (fun w1 h1=>?_)
 have hk:=hk.next h1
 clear h1 hb1
 cases hv:validG s.g with
 | false=>
  repeat (any_goals (first
  | (with_reducible first|refine zD ?_|refine yB ?_|refine yL ?_)
  | ((with_reducible refine oG fun X Y=>?_); simp [go_sem]; apply Y; clear Y X)))
  exact k2 _ _ (by rw [e0,hv]; simp) hk.below
 | true=>
  repeat (any_goals (first
  | (with_reducible first|((refine idGd ?_); first|refine zC ?_|((refine idGdD ?_); first|refine zI ?_|refine zJ ?_|refine zK (fun hg=>?_) fun hg=>?_))|((refine idPick ?_); first|refine yC ?_|refine yD ?_|refine yE ?_)|((refine idCond ?_); first|refine yL ?_|refine yP (fun hg=>?_) fun hg=>?_))
  | ((with_reducible refine oG fun X Y=>?_); simp [go_sem,hk.cells]; apply Y; clear Y X)))
  ·exact k2 _ _ (by rw [e0]; simp; omega) hk.below
  ·exact k2 _ _ (by rw [e0]; simp; omega) hk.below
  have e1:validS s = (s.bases.all (otherM s.g) && otherM s.g s.blind):=by
   rw [e0,hv,decide_eq_true (by omega:2 ≤ s.bases.length),decide_eq_true (by omega:s.bases.length ≤ 7)]; rfl
  refine ⟨VsJ s _ (s.bases.all (otherM s.g)) w,vsMu s.bases.length,⟨hk,_,_,0,rfl,by omega,rfl⟩,?_⟩
  generalize s.bases.all (otherM s.g) = R at *
  rintro _ _ w2 ⟨hk,u1,u2,i,rfl,hi,hall⟩
  have hc:=hk.cells
  by_cases hin:i = s.bases.length
  ·rw [List.drop_of_length_le (by omega),List.all_nil] at hall
   subst hall
   repeat (any_goals (first
   | (with_reducible refine yO ?_)
   | ((with_reducible refine oG fun X Y=>?_); simp [go_sem,hc]; apply Y; clear Y X)))
   refine oM_callv1 (by kernel_rfl) ?_
   refine other_ok s.g s.blind hs.grp (hs.db.next hk.below) hc.1 hc.2.1 hc.2.2.1 (fun w3 h3=>?_)
   exact k2 _ _ (by rw [e1,bT]) (hk.next h3).below
  ·rw [List.drop_eq_getElem_cons (by omega),List.all_cons] at hall
   obtain ⟨b1,o1,rfl,hb1,ca,ra,_⟩:=hs.ints.at (i:=i) (by omega)
   repeat (any_goals (first
   | (with_reducible refine yN ?_)
   | ((with_reducible refine oG fun X Y=>?_); simp [go_sem,ca _ hk.below]; (first|refine Y _ _ ?_|refine And.intro (by omega) (Y _ _ ?_)); clear Y X)))
   refine oM_callv1 (by kernel_rfl) ?_
   refine other_ok s.g _ hs.grp (hs.db.next hk.below) hc.1 hc.2.1 hc.2.2.1 (fun w3 h3=>?_)
   cases ho:otherM s.g s.bases[i] with
   | false=>
    rw [ho,bF] at hall
    subst hall
    repeat (any_goals (first
    | (with_reducible refine yL ?_)
    | ((with_reducible refine oG fun X Y=>?_); simp [go_sem]; apply Y; clear Y X)))
    exact k2 _ _ (by rw [e1,bF]) (hk.next h3).below
   | true=>
    rw [ho,bT] at hall
    repeat (any_goals (first
    | (with_reducible refine yM ?_)
    | ((with_reducible refine oG fun X Y=>?_); simp [go_sem]; (try simp (disch:=omega) only [wrapI64,wrapU8,wrapU32,wrapU64]); apply Y; clear Y X)))
    refine ⟨⟨hk.next h3,_,_,i + 1,rfl,by omega,hall⟩,?_⟩
    simp only [vsMu_eq]; omega
end
section
variable {K:VK} {w w0:World} {L:List (Addr × Value)}
theorem ints_alloc (w:World) (l:List Int) (T:TypeId) (c:Nat) (hr:∀ n ∈ l,I64 n) (hl:l.length ≤ 9223372036854775807):Ints (w.alloc (.cells (l.map (Value.int .i64)).toArray T)) (.slice (some ⟨w.heap.size,0,none⟩) l.length c) l:=by
 refine ⟨⟨_,c,rfl,by simp,?_⟩,hr,hl⟩
 by_cases h0:l = []
 ·exact .inl h0
 ·refine .inr ⟨_,0,rfl,by simp,fun k x hk=>?_⟩
  rw [flat_int] at hk
  rw [Nat.zero_add]
  have:=World.cell?_alloc_at (w:=w) (l.map (Value.int .i64)).toArray T w.heap.size k rfl
  rw [this]
  simpa using hk
theorem mk1 {T:TypeId} (x:Int) (hx:I64 x) (k:∀ v W,Below w.heap.size w W → Ints W v [x] → K v W):oM Tryz.prog (.buildSlice 24 1 #[(0,.tmp 0)]) T [.int .i64 x] K w:=by
 rw [oM_buildSlice1]
 have e:(Instr.buildSlice 24 1 #[(0,.int .i64 x)]).run Tryz.prog w = .ok (.slice (some ⟨w.heap.size,0,none⟩) 1 1) (w.alloc (.cells #[.int .i64 x] 3)):=by kernel_rfl
 rw [e]
 exact k _ _ ((Below.refl _ w).alloc (rL) _) (ints_alloc w [x] _ 1 (by simpa using hx) (by simp))
theorem mk2 {T:TypeId} (x y:Int) (hx:I64 x) (hy:I64 y) (k:∀ v W,Below w.heap.size w W → Ints W v [x,y] → K v W):oM Tryz.prog (.buildSlice 24 2 #[(0,.tmp 0),(1,.tmp 1)]) T [.int .i64 x,.int .i64 y] K w:=by
 rw [oM_buildSlice2]
 have e:(Instr.buildSlice 24 2 #[(0,.int .i64 x),(1,.int .i64 y)]).run Tryz.prog w = .ok (.slice (some ⟨w.heap.size,0,none⟩) 2 2) (w.alloc (.cells #[.int .i64 x,.int .i64 y] 3)):=by kernel_rfl
 rw [e]
 exact k _ _ ((Below.refl _ w).alloc (rL) _) (ints_alloc w [x,y] _ 2 (by simp; exact ⟨hx,hy⟩) (by simp))
def IfJ (p:Int → Bool) (l:List Int) (R:Bool) (w0:World) (vs:List Value) (w':World):Prop:=Below w0.heap.size w0 w' ∧ ∃ (v u:Value) (i:Nat),vs = [v,u,.int .i64 (i:Int)] ∧ i ≤ l.length ∧ (l.drop i).any p = R
theorem IndexFunc_ok {v F:Value} {l:List Int} (p:Int → Bool) (hl:Ints w v l)
  (hF:∀ (w':World) (x:Int) (K':VK) (T:TypeId),Below w.heap.size w w' → I64 x → (∀ w'',Below w'.heap.size w' w'' → K' (.bool (p x)) w'') → oM Tryz.prog (.call { callee:=.value (.tmp 0),args:=#[.tmp 1],argTypes:=#[3] }) T [F,.int .i64 x] K' w')
  (k:∀ w' (r:Int),Below w.heap.size w w' → decide (0 ≤ r) = l.any p → K (.int .i64 r) w'):callM Tryz.prog 186 #[v,F] K w:=by
 apply sh_186_ok
 unfold sh_186
 obtain ⟨ad,c,rfl⟩:=hl.isSlice
 have hll:=hl.len
 repeat (any_goals ((with_reducible refine oG fun X Y=>?_); simp [go_sem]; apply Y; clear Y X))
 refine ⟨IfJ p l (l.any p) w,vsMu l.length,⟨Below.refl _ _,_,_,0,rfl,by omega,rfl⟩,?_⟩
 generalize l.any p = R at *
 rintro _ _ w1 ⟨h1,u1,u2,i,rfl,hi,ha⟩
 by_cases hin:i = l.length
 ·rw [List.drop_of_length_le (by omega),List.any_nil] at ha
  repeat (any_goals (first
  | (with_reducible refine yO ?_)
  | ((with_reducible refine oG fun X Y=>?_); simp [go_sem]; apply Y; clear Y X)))
  exact k _ _ h1 (by rw [← ha]; rfl)
 ·rw [List.drop_eq_getElem_cons (by omega),List.any_cons] at ha
  obtain ⟨b1,o1,rfl,hb1,ca,ra,_⟩:=hl.at (i:=i) (by omega)
  repeat (any_goals (first
  | (with_reducible refine yN ?_)
  | ((with_reducible refine oG fun X Y=>?_); simp [go_sem,ca _ h1]; (first|refine Y _ _ ?_|refine And.intro (by omega) (Y _ _ ?_)); clear Y X)))
  refine hF w1 _ _ _ h1 ra (fun w2 h2=>?_)
  cases hp:p l[i] with
  | true=>
   rw [hp,Bool.true_or] at ha
   repeat (any_goals (with_reducible refine yL ?_))
   exact k _ _ (h1.on h2) (by rw [← ha]; simp)
  | false=>
   rw [hp,Bool.false_or] at ha
   repeat (any_goals (first
   | (with_reducible refine yM ?_)
   | ((with_reducible refine oG fun X Y=>?_); simp [go_sem]; (try simp (disch:=omega) only [wrapI64,wrapU8,wrapU32,wrapU64]); apply Y; clear Y X)))
   refine ⟨⟨h1.on h2,_,_,i + 1,rfl,by omega,ha⟩,?_⟩
   simp only [vsMu_eq]; omega
theorem ContainsFunc_ok {v F:Value} {l:List Int} (p:Int → Bool) (hl:Ints w v l)
  (hF:∀ (w':World) (x:Int) (K':VK) (T:TypeId),Below w.heap.size w w' → I64 x → (∀ w'',Below w'.heap.size w' w'' → K' (.bool (p x)) w'') → oM Tryz.prog (.call { callee:=.value (.tmp 0),args:=#[.tmp 1],argTypes:=#[3] }) T [F,.int .i64 x] K' w')
  (k:∀ w',Below w.heap.size w w' → K (.bool (l.any p)) w'):callM Tryz.prog 136 #[v,F] K w:=by
 apply sh_136_ok
 unfold sh_136
 refine IndexFunc_ok p hl hF (fun w' r hb hr=>?_)
 repeat (any_goals ((with_reducible refine oG fun X Y=>?_); simp [go_sem]; apply Y; clear Y X))
 rw [hr]
 exact k _ hb
end
end Go.Proofs
namespace ShaSpec
abbrev W:=BitVec 32
def rotr (x:W) (k:Nat):W:=x >>> k ||| x <<< (32 - k)
theorem rotl_rotr (x:W) (k:Nat):x <<< (32 - k) ||| x >>> k = rotr x k:=BitVec.or_comm _ _
def ch (e f g:W):W:=g ^^^ (e &&& (f ^^^ g))
def maj (a b c:W):W:=(a &&& b) ||| (c &&& (a ||| b))
def w8 (b:UInt8):W:=BitVec.ofNat 32 b.toNat
def word (b:List UInt8) (k:Nat):W:=w8 (b.getD (4 * k) 0) <<< 24 ||| w8 (b.getD (4 * k + 1) 0) <<< 16 ||| w8 (b.getD (4 * k + 2) 0) <<< 8 ||| w8 (b.getD (4 * k + 3) 0)
def sig0 (x:W):W:=rotr x 7 ^^^ rotr x 18 ^^^ x >>> 3
def sig1 (y:W):W:=rotr y 17 ^^^ rotr y 19 ^^^ y >>> 10
def at' (l:List W) (k:Nat):W:=l.getD k 0
def nextW (b:List UInt8) (l:List W) (k:Nat):W:=
 if k < 16 then word b k else at' l (k - 16) + sig0 (at' l (k - 15)) + at' l (k - 7) + sig1 (at' l (k - 2))
def sched (b:List UInt8):Nat → List W
 | 0=>[]
 | n + 1=>sched b n ++ [nextW b (sched b n) n]
theorem sched_length (b:List UInt8) (n:Nat):(sched b n).length = n:=by
 induction n with
 | zero=>rfl
 | succ n ih=>simp [sched,ih]
structure St where
 a:W
 b:W
 c:W
 d:W
 e:W
 f:W
 g:W
 h:W
def St.list (s:St):List W:=[s.a,s.b,s.c,s.d,s.e,s.f,s.g,s.h]
def round (s:St) (k w:W):St:=
 let t1:=s.h + (rotr s.e 6 ^^^ rotr s.e 11 ^^^ rotr s.e 25) + ch s.e s.f s.g + k + w
 ⟨t1 + (rotr s.a 2 ^^^ rotr s.a 13 ^^^ rotr s.a 22) + maj s.a s.b s.c,s.a,s.b,s.c,s.d + t1,s.e,s.f,s.g⟩
def consts:List W:=[
 0x428a2f98,0x71374491,0xb5c0fbcf,0xe9b5dba5,0x3956c25b,0x59f111f1,0x923f82a4,0xab1c5ed5,
 0xd807aa98,0x12835b01,0x243185be,0x550c7dc3,0x72be5d74,0x80deb1fe,0x9bdc06a7,0xc19bf174,
 0xe49b69c1,0xefbe4786,0x0fc19dc6,0x240ca1cc,0x2de92c6f,0x4a7484aa,0x5cb0a9dc,0x76f988da,
 0x983e5152,0xa831c66d,0xb00327c8,0xbf597fc7,0xc6e00bf3,0xd5a79147,0x06ca6351,0x14292967,
 0x27b70a85,0x2e1b2138,0x4d2c6dfc,0x53380d13,0x650a7354,0x766a0abb,0x81c2c92e,0x92722c85,
 0xa2bfe8a1,0xa81a664b,0xc24b8b70,0xc76c51a3,0xd192e819,0xd6990624,0xf40e3585,0x106aa070,
 0x19a4c116,0x1e376c08,0x2748774c,0x34b0bcb5,0x391c0cb3,0x4ed8aa4a,0x5b9cca4f,0x682e6ff3,
 0x748f82ee,0x78a5636f,0x84c87814,0x8cc70208,0x90befffa,0xa4506ceb,0xbef9a3f7,0xc67178f2]
theorem consts_length:consts.length = 64:=by decide
def rounds (b:List UInt8) (s:St):Nat → St
 | 0=>s
 | n + 1=>round (rounds b s n) (at' consts n) (at' (sched b 64) n)
def mix (s:St) (b:List UInt8):St:=
 let v:=rounds b s 64
 ⟨v.a + s.a,v.b + s.b,v.c + s.c,v.d + s.d,v.e + s.e,v.f + s.f,v.g + s.g,v.h + s.h⟩
def first:St:=⟨0x6a09e667,0xbb67ae85,0x3c6ef372,0xa54ff53a,0x510e527f,0x9b05688c,0x1f83d9ab,0x5be0cd19⟩
def lenBytes (n:Nat):List UInt8:=[7,6,5,4,3,2,1,0].map fun k=>UInt8.ofNat (8 * n / 2 ^ (8 * k))
def zeros (n:Nat):Nat:=(119 - n % 64) % 64
def padded (s:List UInt8):List UInt8:=s ++ [128] ++ List.replicate (zeros s.length) 0 ++ lenBytes s.length
theorem lenBytes_length (n:Nat):(lenBytes n).length = 8:=rfl
theorem padded_length (s:List UInt8):(padded s).length % 64 = 0:=by
 simp only [padded,zeros,List.length_append,List.length_replicate,lenBytes_length,List.length_singleton]
 omega
def blocks:Nat → St → List UInt8 → St
 | 0,s,_=>s
 | n + 1,s,b=>blocks n (mix s (b.take 64)) (b.drop 64)
def out1 (w:W):List UInt8:=[UInt8.ofNat (w.toNat / 16777216),UInt8.ofNat (w.toNat / 65536),UInt8.ofNat (w.toNat / 256),UInt8.ofNat w.toNat]
def sha (s:List UInt8):List UInt8:=((blocks ((padded s).length / 64) first (padded s)).list.map out1).flatten
theorem sha_length (s:List UInt8):(sha s).length = 32:=by
 simp [sha,St.list,out1]
end ShaSpec
namespace Go.Sh
open Go Go.RowKit
def w32 (x:BitVec 32):Value:=.int .u32 (x.toNat:Int)
theorem w32_wrap (n:Nat):IntKind.u32.wrap (n:Int) = ((BitVec.ofNat 32 n).toNat:Int):=by
 rw [IntKind.wrap_u32,BitVec.toNat_ofNat]; omega
theorem w32_ofInt (x:BitVec 32):BitVec.ofInt 32 (x.toNat:Int) = x:=by
 rw [BitVec.ofInt_natCast,BitVec.ofNat_toNat,BitVec.setWidth_eq]
theorem bits32_and (x y:BitVec 32):bits .and .u32 (x.toNat:Int) (y.toNat:Int) = ((x &&& y).toNat:Int):=by
 show IntKind.u32.wrap (((BitVec.ofInt 32 (x.toNat:Int) &&& BitVec.ofInt 32 (y.toNat:Int)).toNat:Nat):Int) = _
 rw [w32_ofInt,w32_ofInt,w32_wrap,BitVec.ofNat_toNat,BitVec.setWidth_eq]
theorem bits32_or (x y:BitVec 32):bits .or .u32 (x.toNat:Int) (y.toNat:Int) = ((x ||| y).toNat:Int):=by
 show IntKind.u32.wrap (((BitVec.ofInt 32 (x.toNat:Int) ||| BitVec.ofInt 32 (y.toNat:Int)).toNat:Nat):Int) = _
 rw [w32_ofInt,w32_ofInt,w32_wrap,BitVec.ofNat_toNat,BitVec.setWidth_eq]
theorem bits32_xor (x y:BitVec 32):bits .xor .u32 (x.toNat:Int) (y.toNat:Int) = ((x ^^^ y).toNat:Int):=by
 show IntKind.u32.wrap (((BitVec.ofInt 32 (x.toNat:Int) ^^^ BitVec.ofInt 32 (y.toNat:Int)).toNat:Nat):Int) = _
 rw [w32_ofInt,w32_ofInt,w32_wrap,BitVec.ofNat_toNat,BitVec.setWidth_eq]
section
variable {P:Program} {K:VK} {w:World}
theorem wadd (t t' T:TypeId) (x y:BitVec 32):oM P (.binOp .add t (.tmp 0) (.tmp 1) t') T [w32 x,w32 y] = pureM (w32 (x + y)):=by
 have e:IntKind.u32.wrap ((x.toNat:Int) + (y.toNat:Int)) = ((x + y).toNat:Int):=by
  rw [← Int.natCast_add,w32_wrap]
  congr 1
 unfold w32
 rw [oM_add',e]
theorem wand (t t' T:TypeId) (x y:BitVec 32):oM P (.binOp .and t (.tmp 0) (.tmp 1) t') T [w32 x,w32 y] = pureM (w32 (x &&& y)):=by
 funext K w
 unfold w32
 rw [← bits32_and]
 simp [oM,opM,xop,execOp,evalL,evE,binOp,go_sem]
theorem wor (t t' T:TypeId) (x y:BitVec 32):oM P (.binOp .or t (.tmp 0) (.tmp 1) t') T [w32 x,w32 y] = pureM (w32 (x ||| y)):=by
 funext K w
 unfold w32
 rw [← bits32_or]
 simp [oM,opM,xop,execOp,evalL,evE,binOp,go_sem]
theorem wxor (t t' T:TypeId) (x y:BitVec 32):oM P (.binOp .xor t (.tmp 0) (.tmp 1) t') T [w32 x,w32 y] = pureM (w32 (x ^^^ y)):=by
 funext K w
 unfold w32
 rw [← bits32_xor]
 simp [oM,opM,xop,execOp,evalL,evE,binOp,go_sem]
theorem wshr (t t' T:TypeId) (yk:IntKind) (x:BitVec 32) (n:Nat) (h:n ≤ 32):oM P (.binOp .shr t (.tmp 0) (.tmp 1) t') T [w32 x,.int yk (n:Int)] = pureM (w32 (x >>> n)):=by
 unfold w32
 rw [oM_shr32 t t' T yk _ _ (by omega) (by omega)]
 congr 2
 rw [BitVec.toNat_ushiftRight,Nat.shiftRight_eq_div_pow,Int.toNat_natCast,Int.natCast_ediv,Int.natCast_pow]
 rfl
theorem wshl (t t' T:TypeId) (yk:IntKind) (x:BitVec 32) (n:Nat) (h:n ≤ 32):oM P (.binOp .shl t (.tmp 0) (.tmp 1) t') T [w32 x,.int yk (n:Int)] = pureM (w32 (x <<< n)):=by
 unfold w32
 rw [oM_shl32 t t' T yk _ _ (by omega) (by omega)]
 congr 2
 rw [BitVec.toNat_shiftLeft,Nat.shiftLeft_eq,Int.toNat_natCast,Int.natCast_emod,Int.natCast_mul,Int.natCast_pow]
 rfl
end
end Go.Sh
namespace Go.Proofs
open Go Go.Sh Go.RowKit ShaSpec
section
variable {K:VK} {w:World}
theorem rotl_ok (x:W) (r:Nat) (h0:0 < r) (h1:r < 32) (h:K (w32 (rotr x r)) w):callM Tryz.prog 230 #[w32 x,.int .i64 (-(r:Int))] K w:=by
 apply sh_230_ok
 unfold sh_230
 have e1:IntKind.u64.wrap (-(r:Int)) = 18446744073709551616 - (r:Int):=by rw [IntKind.wrap_u64]; omega
 have e2:bits .and .u64 (18446744073709551616 - (r:Int)) 31 = ((32 - r:Nat):Int):=by
  rw [mask64 5 _ 31 (by omega) (by decide) (by omega)]; omega
 have e3:IntKind.u64.wrap (32 - ((32 - r:Nat):Int)) = (r:Int):=by rw [IntKind.wrap_u64]; omega
 have s1:=fun t t' T=>wshl (P:=Tryz.prog) t t' T .u64 x (32 - r) (by omega)
 have s2:=fun t t' T=>wshr (P:=Tryz.prog) t t' T .u64 x r (by omega)
 rw [← rotl_rotr] at h
 obtain ⟨m,hm⟩:∃ m,m = 32 - r:=⟨_,rfl⟩
 rw [← hm] at e2 e3 s1 h
 repeat (any_goals ((with_reducible refine oG fun X Y=>?_); simp [go_sem,e1,e2,e3,s1,s2,wor]; apply Y; clear Y X))
 exact h
end
end Go.Proofs
namespace Go.Sh
open Go Go.RowKit
theorem cells_lt {w:World}:∀ {L:List (Addr × Value)},cellsAre w L → ∀ p ∈ L,p.1.block < w.heap.size
 | p :: l,h,q,hq=>by
  rcases List.mem_cons.1 hq with rfl | hq
  ·have h1:=h.1
   by_cases hc:q.1.block < w.heap.size
   ·exact hc
   ·unfold World.cell? at h1
    rw [Array.getElem?_eq_none (by omega)] at h1
    simp at h1
  ·exact cells_lt h.2 q hq
structure KnM (w0:World) (L:List (Addr × Value)) (g n:Nat) (w':World):Prop where
 kn:Kn w0 L w'
 mine:Mine w' g n
 base:w0.heap.size ≤ g
 off:∀ p ∈ L,p.1.block ≠ g
theorem mine_lt {w:World} {g n:Nat} (h:Mine w g n):g < w.heap.size:=by
 obtain ⟨cur,T,h1,_⟩:=h
 exact (Array.getElem?_eq_some_iff.1 h1).1
theorem cellsOf_mem {L:List (Addr × Value)} {b:Nat}:∀ (cs:List Value) (i:Nat) (p:Addr × Value),p ∈ cellsOf L b i cs → p.1.block = b ∨ p ∈ L
 | [],_,_,h=>.inr h
 | _ :: l,i,p,h=>by
  rcases List.mem_cons.1 h with rfl | h
  ·exact .inl rfl
  ·exact cellsOf_mem l (i + 1) p h
namespace KnM
variable {w0 w w':World} {L:List (Addr × Value)} {g n:Nat}
theorem next (h:KnM w0 L g n w) (hb:Below w.heap.size w w'):KnM w0 L g n w':=⟨h.kn.next hb,h.mine.next hb,h.base,h.off⟩
theorem drew (h:KnM w0 L g n w):KnM w0 L g n { w with drawn:=w.drawn + 1 }:=h.next .drawn
theorem cells (h:KnM w0 L g n w):cellsAre w L:=h.kn.cells
theorem below (h:KnM w0 L g n w):Below w0.heap.size w0 w:=h.kn.below
end KnM
section
variable {P:Program} {w0 w:World} {K:VK} {T T':TypeId} {L:List (Addr × Value)} {g n:Nat}
theorem alloc_mine {zs:List Value} (hA:∀ w,(Instr.alloc T true (.tuple #[])).run P w = .ok (.pointer (some ⟨w.heap.size,0,none⟩)) (w.alloc (.cells zs.toArray T))) (hn:zs.length = n) (hk:Kn w0 L w)
  (k:∀ g W,KnM w0 L g n W → Below w.heap.size w W → w.heap.size ≤ g → K (.pointer (some ⟨g,0,none⟩)) W):oM P (.alloc T) T' [] K w:=by
 rw [oM_alloc,hA]
 have hb:=(Below.refl w.heap.size w).alloc (rL) (.cells zs.toArray T)
 refine k _ _ ⟨hk.next hb,⟨zs.toArray,T,?_,by simpa using hn⟩,hk.below.size,fun p hp=>?_⟩ hb (rL)
 ·show (w.heap.push _)[w.heap.size]? = _
  simp
 ·have:=cells_lt hk.cells p hp
  omega
theorem store_run {x:Value} {xs:List Value} {W:World} (hT:∀ w,(sizeOf T).run P w = .ok n w) (hx:x.cells = xs.toArray) (hl:xs.length = n) (h1:∀ u ∈ xs,u.oneCell' = true) (hm:Mine w g n) :
  ∃ W,(Instr.storeAt T (.pointer (some ⟨g,0,none⟩)) x).run P w = .ok () W ∧ w.grownBy W (some g) ∧ Mine W g n ∧ cellsAre W (cellsOf [] g 0 xs):=by
 obtain ⟨cur,T0,hg,hc⟩:=hm
 have hst:=run_storeCells_at P g 0 T0 xs 0 cur w hg (by omega) h1
 have e1:(cur.toList.take (0 + 0) ++ xs ++ cur.toList.drop (0 + 0 + xs.length)).toArray = xs.toArray:=by
  rw [List.drop_of_length_le (by simp; omega)]
  simp
 rw [e1] at hst
 have hh:=setRow_heap w g cur xs.toArray T0 (0,0) hg
 refine ⟨w.setRow g xs.toArray,?_,grown_setRow _ _ _,⟨_,_,hh,by simpa using hl⟩,cellsOf_are (xs:=xs) (L:=[]) trivial (fun i v hi=>?_) xs 0 rfl⟩
 ·have e2:x.cells.toList = xs:=by rw [hx]
  have e3:x.cells.size = n:=by rw [hx]; simpa using hl
  unfold Instr.storeAt storeVar
  rw [e2,e3]
  simp [hT,go_sem]
  exact hst
 ·unfold World.cell?
  rw [hh]
  simpa using hi
theorem local_kn {zs:List Value} {x:Value} {xs:List Value} {T2:TypeId} {K:VK} (hA:∀ w,(Instr.alloc T true (.tuple #[])).run P w = .ok (.pointer (some ⟨w.heap.size,0,none⟩)) (w.alloc (.cells zs.toArray T))) (hn:zs.length = n)
  (hT:∀ w,(sizeOf T).run P w = .ok n w) (hx:x.cells = xs.toArray) (hl:xs.length = n) (h1:∀ u ∈ xs,u.oneCell' = true) (hk:Kn w0 L w)
  (k:∀ b W,Kn w0 (cellsOf L b 0 xs) W → Below w.heap.size w W → w.heap.size ≤ b → K (.pointer (some ⟨b,0,none⟩)) W) :
  oM P (.alloc T) T' [] (fun v w=>oM P (.store T (.tmp 0) (.tmp 1)) T2 [v,x] (fun _ w=>K v w) w) w:=by
 refine alloc_mine hA hn hk fun g W hk2 hb hg=>?_
 obtain ⟨W2,e,hgr,hm,hc⟩:=store_run (W:=w) hT hx hl h1 hk2.mine
 rw [oM_store,e]
 have hb2:Below w.heap.size w W2:=hb.grown hgr hb.size (fun k hk=>by cases hk; exact hg)
 refine k g W2 ⟨(hk2.kn.wrote hgr hk2.base hk2.off).below,?_⟩ hb2 hg
 have hL:=(hk2.kn.wrote hgr hk2.base hk2.off).cells
 clear e k
 have:∀ (l:List Value) (i:Nat),cellsAre W2 (cellsOf [] g i l) → cellsAre W2 (cellsOf L g i l):=by
  intro l
  induction l with
  | nil=>intro i _; exact hL
  | cons a l ih=>intro i h; exact ⟨h.1,ih (i + 1) h.2⟩
 exact this xs 0 hc
theorem local_knm {zs:List Value} {x:Value} {xs:List Value} {T2:TypeId} {K:VK} {m:Nat} (hA:∀ w,(Instr.alloc T true (.tuple #[])).run P w = .ok (.pointer (some ⟨w.heap.size,0,none⟩)) (w.alloc (.cells zs.toArray T))) (hn:zs.length = m)
  (hT:∀ w,(sizeOf T).run P w = .ok m w) (hx:x.cells = xs.toArray) (hl:xs.length = m) (h1:∀ u ∈ xs,u.oneCell' = true) (hk:KnM w0 L g n w)
  (k:∀ b W,KnM w0 (cellsOf L b 0 xs) g n W → Below w.heap.size w W → w.heap.size ≤ b → K (.pointer (some ⟨b,0,none⟩)) W) :
  oM P (.alloc T) T' [] (fun v w=>oM P (.store T (.tmp 0) (.tmp 1)) T2 [v,x] (fun _ w=>K v w) w) w:=
 local_kn hA hn hT hx hl h1 hk.kn fun b W hk' h1 h2=>k b W ⟨hk',hk.mine.next h1,hk.base,fun p hp=>(cellsOf_mem xs 0 p hp).elim (fun e=>by have:=mine_lt hk.mine; omega) (hk.off p)⟩ h1 h2
variable {C:WK} {KQ:Value → Prop} {x y v:Value} {p:Prop} [Decidable p]
theorem idOH {o:Op} {l:List Value} (h:oH P o T l C KQ):oH P o T l C KQ:=h
theorem idGdH {c:Bool} {m:(WK) → (Value → Prop) → Prop} (h:gdH c m C KQ):gdH c m C KQ:=h
theorem gdH_conv {c:Bool} {m:(WK) → (Value → Prop) → Prop} (h:∀ W0,gdM c (fun K' w=>m C (fun v=>K' v w)) (fun v _=>KQ v) W0):gdH c m C KQ:=by
 have h:=h ⟨#[],default,0,default,default⟩
 cases c <;> exact h
theorem pickH {b:Bool} (k:KQ (bif b then x else y)):oH P (.pick (.tmp 0) (.tmp 1) (.tmp 2)) T [.bool b,x,y] C KQ:=by
 refine ⟨_,fun w _=>?_,k⟩
 simp [xop,execOp,evalL,evE,asBool]
theorem pickHT (k:KQ x):oH P (.pick (.tmp 0) (.tmp 1) (.tmp 2)) T [.bool true,x,y] C KQ:=pickH k
theorem pickHF (k:KQ y):oH P (.pick (.tmp 0) (.tmp 1) (.tmp 2)) T [.bool false,x,y] C KQ:=pickH k
theorem vA (k:KQ x):oH P (.pick (.tmp 0) (.tmp 1) (.tmp 2)) T [.bool true,x,y] C KQ:=pickHT k
theorem vB (k:KQ y):oH P (.pick (.tmp 0) (.tmp 1) (.tmp 2)) T [.bool false,x,y] C KQ:=pickHF k
end
end Go.Sh
