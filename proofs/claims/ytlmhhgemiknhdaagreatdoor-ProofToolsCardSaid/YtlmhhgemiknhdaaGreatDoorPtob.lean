/- Parts of the proof of the seat's statements (HTh, HTc, HSha, HPr, ShelfT4, CodeSpec, TcB, TcE, TcR, TcR2, TcI, FdSpec, FdPow, FdDiv, FdA, FdB, FdC, FdE, FdF, FdG, FdH, FdI, FdJ, FdK, FdL, TkSpec, TkA, TkB, ShaSpec, ShW, SaA, SaB, SaC, SaD, SaE, TkSpec2, TkSpec3, FdPoly, FdInv): lemmas about the given translation and plain laws. No condition of their own. -/
import Derived.Test.YtlmhhgemiknhdaaGreatDoorPtoa
import Derived.Test.YtlmhhgemiknhdaaGreatDoorProg
import Derived.Shelf.Strings.Builder1
import Derived.Shelf.Small.Strs
import Derived.Shelf.Small.Wraps
import Derived.Shelf.Strings.BuilderF
import Derived.Shelf.Strings.BuilderK
import Derived.Shelf.Strconv.Atoi
import Derived.Shelf.Strconv.Itoa0
import Derived.Shelf.Strconv.Itoa1
import Derived.Shelf.LaysM
import Derived.Shelf.Strconv.Itoa2
import Derived.Shelf.Strconv.Itoa3
import Derived.Shelf.Strconv.AtoiErrFast
import Derived.Shelf.Strconv.ParseIntEmpty
import Derived.Shelf.Strconv.AtoiFail
import Derived.Shelf.Strconv.Clone
import Derived.Shelf.Strconv.SyntaxError
import Derived.Shelf.LaysC
import Derived.Shelf.Strconv.ToError
import Derived.Shelf.Strconv.Lower
import Derived.Shelf.Strconv.ParseUint10
import Derived.Shelf.Strconv.ParseUint10Empty
import Derived.Shelf.Strconv.ParseUint10Any
import Derived.Shelf.Strconv.ParseInt10
import Derived.Shelf.Strconv.AtoiLong
import Derived.Shelf.Strconv.AtoiInnerAll
import Derived.Shelf.Strconv.RangeError
import Derived.Shelf.Strconv.ToErrorRange
import Derived.Shelf.Strconv.AtoiAll
import Derived.Shelf.Strconv.ErrVarAll
import Derived.Shelf.Strings.Search1
import Derived.Shelf.Strings.Prefix
import Derived.Shelf.Bits.Mul64
import Derived.Test.YtlmhhgemiknhdaaGreatDoorRows
import Derived.Lib.ItoaNum
import Derived.Lib.AtoiAllCases
import Derived.Lib.Builder
import Derived.Lib.AppendStr
import Derived.Lib.AppendIntMem
import Derived.Lib.Mul64
import Derived.Lib.TrailingZeros
set_option linter.all false
set_option maxRecDepth 100000
namespace Go.Proofs
open Go.Sh Tryz
def sh_127 (a0 a1:Value) (K:VK) (w:World):Prop:=
 oM prog (.box 26 (.tmp 0)) 0 [a0] (fun v2 w=>
 kB .geq 3 4 a1 (.int .i64 0) (fun v6 w=>
 gT v6 (pureM a1) (fun v8 w=>
 gT v6 (kF 26 0 v2) (fun v9 w=>
 gT v6 (kF 23 1 v9) (fun v10 w=>
 gT v6 (kL 3 v10) (fun v11 w=>
 gT v6 (kB .lss 3 4 v8 v11) (fun v12 w=>
 kP v6 v12 (.bool false) (fun v13 w=>
 K v13 w) w) w) w) w) w) w) w) w
theorem sh_127_ok {a0 a1:Value} {K:VK} {w:World} (h:sh_127 a0 a1 K w):callM prog 127 #[a0,a1] K w:=
 calls_of_code (fun _=>0) (fn:=Tryz.f127) (rs:=[.tmp 4]) Tryz.func127 rfl rfl (by kernel_rfl) (nB rfl) (Eq.mp (by kernel_rfl) h)
def sh_140 (a0 a1 a2:Value) (K:VK) (w:World):Prop:=
 oM prog (.box 26 (.tmp 0)) 0 [a0] (fun v3 w=>
 kN 24 a1 (fun v8 w=>
 kB .eql 3 4 v8 a2 (fun v10 w=>
 gT v10 (pureM a1) (fun v12 w=>
 gT v10 (oM prog (.makeFunc (Go.Fn.func 187) #[] #[(.tmp 0)]) 141 [v3]) (fun v13 w=>
 gT v10 (callM prog 136 #[v12,v13]) (fun v14 w=>
 gT v10 (kU v14) (fun v15 w=>
 kP v10 v15 (.bool false) (fun v16 w=>
 K v16 w) w) w) w) w) w) w) w) w
theorem sh_140_ok {a0 a1 a2:Value} {K:VK} {w:World} (h:sh_140 a0 a1 a2 K w):callM prog 140 #[a0,a1,a2] K w:=
 calls_of_code (fun _=>0) (fn:=Tryz.f140) (rs:=[.tmp 6]) Tryz.func140 rfl rfl (by kernel_rfl) (nB rfl) (Eq.mp (by kernel_rfl) h)
def sh_187 (a0 a1:Value) (K:VK) (w:World):Prop:=
 kL 26 a1 (fun v4 w=>
 callM prog 127 #[v4,a0] (fun v6 w=>
 kU v6 (fun v7 w=>
 K v7 w) w) w) w
theorem sh_187_ok {a0 a1:Value} {K:VK} {w:World} (h:sh_187 a0 a1 K w):callM prog 187 #[a0,a1] K w:=
 calls_of_code (fun _=>0) (fn:=Tryz.f187) (rs:=[.tmp 3]) Tryz.func187 rfl rfl (by kernel_rfl) (nB rfl) (Eq.mp (by kernel_rfl) h)
def sh_112 (a0 a1:Value) (K:VK) (w:World):Prop:=
 oM prog (.box 26 (.tmp 0)) 0 [a0] (fun v2 w=>
 oM prog (.box 69 (.tmp 0)) 0 [a1] (fun v3 w=>
 kF 69 0 v3 (fun v9 w=>
 kL 3 v9 (fun v10 w=>
 kB .lss 3 4 v10 (.int .i64 0) (fun v11 w=>
 gF v11 (kF 69 0 v3) (fun v13 w=>
 gF v11 (kL 3 v13) (fun v14 w=>
 gF v11 (kB .gtr 3 4 v14 (.int .i64 120)) (fun v15 w=>
 kP v11 (.bool true) v15 (fun v16 w=>
 gF v16 (kF 69 1 v3) (fun v18 w=>
 gF v16 (kL 67 v18) (fun v19 w=>
 gF v16 (kN 67 v19) (fun v20 w=>
 gF v16 (kB .lss 3 4 v20 (.int .i64 1)) (fun v21 w=>
 kP v16 (.bool true) v21 (fun v22 w=>
 gF v22 (kF 69 1 v3) (fun v24 w=>
 gF v22 (kL 67 v24) (fun v25 w=>
 gF v22 (kN 67 v25) (fun v26 w=>
 gF v22 (kB .gtr 3 4 v26 (.int .i64 60)) (fun v27 w=>
 kP v22 (.bool true) v27 (fun v28 w=>
 condM v28
 (K (.bool false) w)
 (kF 69 1 v3 (fun v29 w=>
 kL 67 v29 (fun v30 w=>
 kN 67 v30 (fun v31 w=>
 loopM [(.bool false),(.int .i64 0)] w (fun J_23 m_24 l_25 u_l_25 w0_l_25=>(fun w=>(
 kB .lss 3 0 (l_25.getD 1 undef) v31 (fun v33 w=>
 condM v33
 (kI 67 v30 (l_25.getD 1 undef) (fun v34 w=>
 kL 144 v34 (fun v35 w=>
 kA 144 (fun v6 w=>
 kS 144 v6 v35 (fun _ w=>
 kF 26 0 v2 (fun v36 w=>
 kL 23 v36 (fun v37 w=>
 kF 144 0 v6 (fun v38 w=>
 kL 3 v38 (fun v39 w=>
 callM prog 109 #[v37,v39] (fun v40 w=>
 kU v40 (fun v41 w=>
 gF v41 (kF 144 1 v6) (fun v43 w=>
 gF v41 (kL 142 v43) (fun v44 w=>
 gF v41 (kN 142 v44) (fun v45 w=>
 gF v41 (kB .gtr 3 4 v45 (.int .i64 80)) (fun v46 w=>
 kP v41 (.bool true) v46 (fun v47 w=>
 condM v47
 (K (.bool false) w)
 (kF 144 1 v6 (fun v48 w=>
 kL 142 v48 (fun v49 w=>
 kN 142 v49 (fun v50 w=>
 loopM [(l_25.getD 0 undef),(.int .i64 0)] w (fun J_44 m_45 l_46 u_l_46 w0_l_46=>(fun w=>(
 kB .lss 3 0 (l_46.getD 1 undef) v50 (fun v52 w=>
 condM v52
 (kI 142 v49 (l_46.getD 1 undef) (fun v53 w=>
 kL 146 v53 (fun v54 w=>
 kA 146 (fun v8 w=>
 kS 146 v8 v54 (fun _ w=>
 kF 146 0 v8 (fun v55 w=>
 kL 3 v55 (fun v56 w=>
 kB .lss 3 4 v56 (.int .i64 0) (fun v57 w=>
 gF v57 (kF 146 0 v8) (fun v59 w=>
 gF v57 (kL 3 v59) (fun v60 w=>
 gF v57 (kF 69 0 v3) (fun v61 w=>
 gF v57 (kL 3 v61) (fun v62 w=>
 gF v57 (kB .geq 3 4 v60 v62) (fun v63 w=>
 kP v57 (.bool true) v63 (fun v64 w=>
 gF v64 (kF 26 0 v2) (fun v66 w=>
 gF v64 (kL 23 v66) (fun v67 w=>
 gF v64 (kF 146 1 v8) (fun v68 w=>
 gF v64 (kL 3 v68) (fun v69 w=>
 gF v64 (callM prog 109 #[v67,v69]) (fun v70 w=>
 gF v64 (kU v70) (fun v71 w=>
 kP v64 (.bool true) v71 (fun v72 w=>
 condM v72
 (K (.bool false) w)
 (kB .add 3 3 (l_46.getD 1 undef) (.int .i64 1) (fun v73 w=>
 J_44 [(l_46.getD 0 undef),v73] w ∧ m_45 [(l_46.getD 0 undef),v73] w < m_45 l_46 w0_l_46) w)) w) w) w) w) w) w) w) w) w) w) w) w) w) w) w) w) w) w) w) w)
 (kB .add 3 3 (l_25.getD 1 undef) (.int .i64 1) (fun v74 w=>
 J_23 [(l_46.getD 0 undef),v74] w ∧ m_24 [(l_46.getD 0 undef),v74] w < m_24 l_25 w0_l_25) w)) w)) w0_l_46)) w) w) w)) w) w) w) w) w) w) w) w) w) w) w) w) w) w) w)
 (K (.bool true) w)) w)) w0_l_25)) w) w) w)) w) w) w) w) w) w) w) w) w) w) w) w) w) w) w) w) w) w) w
theorem sh_112_ok {a0 a1:Value} {K:VK} {w:World} (h:sh_112 a0 a1 K w):callM prog 112 #[a0,a1] K w:=
 calls_of_code (fun _=>0) (fn:=Tryz.f112) (rs:=[.tmp 4]) Tryz.func112 rfl rfl (by kernel_rfl) (nB rfl) (Eq.mp (by kernel_rfl) h)
def sh_181 (a0 a1 a2:Value) (K:VK) (w:World):Prop:=
 oM prog (.box 26 (.tmp 0)) 0 [a0] (fun v3 w=>
 oM prog (.box 144 (.tmp 0)) 0 [a1] (fun v4 w=>
 kF 144 1 v4 (fun v13 w=>
 kL 142 v13 (fun v14 w=>
 kN 142 v14 (fun v15 w=>
 loopM [(.slice none 0 0),(.slice none 0 0),(.int .i64 0)] w (fun J_6 m_7 l_8 u_l_8 w0_l_8=>(fun w=>(
 kB .lss 3 0 (l_8.getD 2 undef) v15 (fun v17 w=>
 condM v17
 (kI 142 v14 (l_8.getD 2 undef) (fun v18 w=>
 kL 146 v18 (fun v19 w=>
 kA 146 (fun v10 w=>
 kS 146 v10 v19 (fun _ w=>
 heldM w (fun C_13 w=>(pureH (l_8.getD 0 undef) C_13 (fun v20=>
 jF 146 1 v10 C_13 (fun v21=>
 jL 3 v21 C_13 (fun v22=>
 pureH (l_8.getD 1 undef) C_13 (fun v25=>
 pureH a2 C_13 (fun v26=>
 jF 146 0 v10 C_13 (fun v27=>
 jL 3 v27 C_13 (fun v28=>
 jI 24 v26 v28 C_13 (fun v29=>
 jL 3 v29 C_13 (fun v30=>
 (oM prog (.buildSlice 24 1 #[(0,(.tmp 0))]) 24 [v22] (fun v23 w=>C_13 w ∧ (
 (oM prog (.call (Go.Call.mk (.builtin .append) #[(.tmp 0),(.tmp 1)] #[24,24])) 24 [v20,v23] (fun v24 w=>C_13 w ∧ (
 oM prog (.buildSlice 24 1 #[(0,(.tmp 0))]) 24 [v30] (fun v31 w=>C_13 w ∧ (
 oM prog (.call (Go.Call.mk (.builtin .append) #[(.tmp 0),(.tmp 1)] #[24,24])) 24 [v25,v31] (fun v32 w=>C_13 w ∧ (
 C_13 w ∧ (C_13 w ∧ (kB .add 3 3 (l_8.getD 2 undef) (.int .i64 1) (fun v33 w=>
 J_6 [v24,v32,v33] w ∧ m_7 [v24,v32,v33] w < m_7 l_8 w0_l_8) w)))) w)) w)) w) ∧
 (oM prog (.buildSlice 24 1 #[(0,(.tmp 0))]) 24 [v30] (fun v31 w=>C_13 w ∧ (
 oM prog (.call (Go.Call.mk (.builtin .append) #[(.tmp 0),(.tmp 1)] #[24,24])) 24 [v20,v23] (fun v24 w=>C_13 w ∧ (
 oM prog (.call (Go.Call.mk (.builtin .append) #[(.tmp 0),(.tmp 1)] #[24,24])) 24 [v25,v31] (fun v32 w=>C_13 w ∧ (
 C_13 w ∧ (C_13 w ∧ (kB .add 3 3 (l_8.getD 2 undef) (.int .i64 1) (fun v33 w=>
 J_6 [v24,v32,v33] w ∧ m_7 [v24,v32,v33] w < m_7 l_8 w0_l_8) w)))) w)) w)) w))) w) ∧
 (oM prog (.buildSlice 24 1 #[(0,(.tmp 0))]) 24 [v30] (fun v31 w=>C_13 w ∧ (
 oM prog (.buildSlice 24 1 #[(0,(.tmp 0))]) 24 [v22] (fun v23 w=>C_13 w ∧ (
 oM prog (.call (Go.Call.mk (.builtin .append) #[(.tmp 0),(.tmp 1)] #[24,24])) 24 [v20,v23] (fun v24 w=>C_13 w ∧ (
 oM prog (.call (Go.Call.mk (.builtin .append) #[(.tmp 0),(.tmp 1)] #[24,24])) 24 [v25,v31] (fun v32 w=>C_13 w ∧ (
 C_13 w ∧ (C_13 w ∧ (kB .add 3 3 (l_8.getD 2 undef) (.int .i64 1) (fun v33 w=>
 J_6 [v24,v32,v33] w ∧ m_7 [v24,v32,v33] w < m_7 l_8 w0_l_8) w)))) w)) w)) w)) w))))))))))))) w) w) w) w)
 (kF 26 0 v3 (fun v35 w=>
 kL 23 v35 (fun v36 w=>
 callM prog 126 #[v36,(l_8.getD 0 undef),(l_8.getD 1 undef)] (fun v39 w=>
 kE 0 3 v39 (fun v40 w=>
 kE 1 4 v39 (fun v41 w=>
 K v40 w) w) w) w) w) w)) w)) w0_l_8)) w) w) w) w) w
theorem sh_181_ok {a0 a1 a2:Value} {K:VK} {w:World} (h:sh_181 a0 a1 a2 K w):callM prog 181 #[a0,a1,a2] K w:=
 calls_of_code (fun _=>.tree (.look 0 (.look 1 (.look 2 (.look 5 (.look 6 (.look 7 (.look 8 (.look 9 (.look 10 (.alt 3 (.alt 4 (.only 11 (.only 12 (.only 13 (.only 14 (.done))))) (.only 11 (.only 4 (.only 12 (.only 13 (.only 14 (.done))))))) (.only 11 (.only 3 (.only 4 (.only 12 (.only 13 (.only 14 (.done)))))))))))))))))) (fn:=Tryz.f181) (rs:=[.tmp 6]) Tryz.func181 rfl rfl (by kernel_rfl) (nB rfl) (Eq.mp (by kernel_rfl) h)
def sh_207 (a0 a1:Value) (K:VK) (w:World):Prop:=
 kN 67 a0 (fun v7 w=>
 loopM [undef,(.int .i64 0),(.int .i64 0)] w (fun J_2 m_3 l_4 u_l_4 w0_l_4=>(fun w=>(
 kB .lss 3 0 (l_4.getD 2 undef) v7 (fun v9 w=>
 condM v9
 (kI 67 a0 (l_4.getD 2 undef) (fun v14 w=>
 kL 144 v14 (fun v15 w=>
 oM prog (.call (Go.Call.mk (.value (.tmp 0)) #[(.tmp 1)] #[144])) 4 [a1,v15] (fun v16 w=>
 condM v16
 (K (l_4.getD 2 undef) w)
 (kB .add 3 3 (l_4.getD 2 undef) (.int .i64 1) (fun v18 w=>
 J_2 [(l_4.getD 2 undef),(l_4.getD 1 undef),v18] w ∧ m_3 [(l_4.getD 2 undef),(l_4.getD 1 undef),v18] w < m_3 l_4 w0_l_4) w)) w) w) w)
 (K (.int .i64 (-1)) w)) w)) w0_l_4)) w
theorem sh_207_ok {a0 a1:Value} {K:VK} {w:World} (h:sh_207 a0 a1 K w):callM prog 207 #[a0,a1] K w:=
 calls_of_code (fun _=>0) (fn:=Tryz.f207) (rs:=[.tmp 4]) Tryz.func207 rfl rfl (by kernel_rfl) (nB rfl) (Eq.mp (by kernel_rfl) h)
def sh_179 (a0 a1:Value) (K:VK) (w:World):Prop:=
 callM prog 207 #[a0,a1] (fun v7 w=>
 kB .geq 3 4 v7 (.int .i64 0) (fun v8 w=>
 K v8 w) w) w
theorem sh_179_ok {a0 a1:Value} {K:VK} {w:World} (h:sh_179 a0 a1 K w):callM prog 179 #[a0,a1] K w:=
 calls_of_code (fun _=>0) (fn:=Tryz.f179) (rs:=[.tmp 4]) Tryz.func179 rfl rfl (by kernel_rfl) (nB rfl) (Eq.mp (by kernel_rfl) h)
def sh_122 (a0 a1 a2:Value) (K:VK) (w:World):Prop:=
 oM prog (.box 26 (.tmp 0)) 0 [a0] (fun v3 w=>
 oM prog (.box 69 (.tmp 0)) 0 [a1] (fun v4 w=>
 oM prog (.box 24 (.tmp 0)) 0 [a2] (fun v5 w=>
 kL 26 v3 (fun v7 w=>
 kL 24 v5 (fun v8 w=>
 kF 69 0 v4 (fun v9 w=>
 kL 3 v9 (fun v10 w=>
 callM prog 140 #[v7,v8,v10] (fun v11 w=>
 kU v11 (fun v12 w=>
 condM v12
 (K (.bool false) w)
 (kF 69 1 v4 (fun v13 w=>
 kL 67 v13 (fun v14 w=>
 oM prog (.makeFunc (Go.Fn.func 180) #[] #[(.tmp 0),(.tmp 1)]) 187 [v3,v5] (fun v15 w=>
 callM prog 179 #[v14,v15] (fun v16 w=>
 kU v16 (fun v17 w=>
 K v17 w) w) w) w) w) w)) w) w) w) w) w) w) w) w) w
theorem sh_122_ok {a0 a1 a2:Value} {K:VK} {w:World} (h:sh_122 a0 a1 a2 K w):callM prog 122 #[a0,a1,a2] K w:=
 calls_of_code (fun _=>0) (fn:=Tryz.f122) (rs:=[.tmp 6]) Tryz.func122 rfl rfl (by kernel_rfl) (nB rfl) (Eq.mp (by kernel_rfl) h)
def sh_180 (a0 a1 a2:Value) (K:VK) (w:World):Prop:=
 oM prog (.box 144 (.tmp 0)) 0 [a0] (fun v3 w=>
 heldM w (fun C_2 w=>(((true:Bool) = true) ∧ (jL 26 a1 C_2 (fun v5=>
 jL 144 v3 C_2 (fun v6=>
 jL 24 a2 C_2 (fun v7=>
 jF 144 0 v3 C_2 (fun v9=>
 jL 3 v9 C_2 (fun v10=>
 ∃ S_8:World → WK,∃ R_9:VK,(∀ v w w_1,S_8 w w_1 → R_9 v w → R_9 v w_1) ∧
 (∀ w,C_2 w → (callM prog 181 #[v5,v6,v7] (fun v w_1=>C_2 w_1 ∧ S_8 w w_1 ∧ R_9 v w_1) w)) ∧
 (∀ w,C_2 w → ∀ v8,R_9 v8 w → (
 kB .neq 3 4 v8 v10 (fun v11 w=>
 K v11 w) w))))))))))) w
theorem sh_180_ok {a0 a1 a2:Value} {K:VK} {w:World} (h:sh_180 a0 a1 a2 K w):callM prog 180 #[a0,a1,a2] K w:=
 calls_of_code (fun _=>.free [0,1,2,4,5] [3] [6,7]) (fn:=Tryz.f180) (rs:=[.tmp 4]) Tryz.func180 rfl rfl (by kernel_rfl) (nB rfl) (Eq.mp (by kernel_rfl) h)
def sh_41 (a0 a1 a2:Value) (K:VK) (w:World):Prop:=
 oM prog (.box 26 (.tmp 0)) 0 [a0] (fun v3 w=>
 oM prog (.box 69 (.tmp 0)) 0 [a1] (fun v4 w=>
 kL 26 v3 (fun v7 w=>
 callM prog 21 #[v7] (fun v8 w=>
 gT v8 (kL 26 v3) (fun v10 w=>
 gT v8 (kL 69 v4) (fun v11 w=>
 gT v8 (callM prog 112 #[v10,v11]) (fun v12 w=>
 kP v8 v12 (.bool false) (fun v13 w=>
 gT v13 (kL 26 v3) (fun v15 w=>
 gT v13 (kL 69 v4) (fun v16 w=>
 gT v13 (pureM a2) (fun v17 w=>
 gT v13 (callM prog 122 #[v15,v16,v17]) (fun v18 w=>
 kP v13 v18 (.bool false) (fun v19 w=>
 K v19 w) w) w) w) w) w) w) w) w) w) w) w) w) w
theorem sh_41_ok {a0 a1 a2:Value} {K:VK} {w:World} (h:sh_41 a0 a1 a2 K w):callM prog 41 #[a0,a1,a2] K w:=
 calls_of_code (fun _=>0) (fn:=Tryz.f41) (rs:=[.tmp 6]) Tryz.func41 rfl rfl (by kernel_rfl) (nB rfl) (Eq.mp (by kernel_rfl) h)
def sh_221 (a0:Value) (K:VK) (w:World):Prop:=
 oM prog (.nilCheck (.tmp 0)) 0 [a0] (fun v3 w=>
 kF 213 0 v3 (fun v4 w=>
 kL 211 v4 (fun v5 w=>
 oM prog (.binOp .eql 211 (.tmp 0) (.const (.pointer none)) 211) 4 [v5] (fun v6 w=>
 condM v6
 (oM prog (.convert 211 245 (.tmp 0)) 245 [a0] (fun v9 w=>
 extM prog 235 #[v9] (fun v10 w=>
 oM prog (.convert 245 211 (.tmp 0)) 211 [v10] (fun v11 w=>
 oM prog (.nilCheck (.tmp 0)) 0 [a0] (fun v12 w=>
 kF 213 0 v12 (fun v13 w=>
 kS 211 v13 v11 (fun _ w=>
 K (.tuple #[]) w) w) w) w) w) w) w)
 (oM prog (.nilCheck (.tmp 0)) 0 [a0] (fun v15 w=>
 kF 213 0 v15 (fun v16 w=>
 kL 211 v16 (fun v17 w=>
 kB .neq 211 4 v17 a0 (fun v19 w=>
 condM v19
 (False)
 (K (.tuple #[]) w)) w) w) w) w)) w) w) w) w
theorem sh_221_ok {a0:Value} {K:VK} {w:World} (h:sh_221 a0 K w):callM prog 221 #[a0] K w:=
 calls_of_code (fun _=>0) (fn:=Tryz.f221) (rs:=[]) Tryz.func221 rfl rfl (by kernel_rfl) (nB rfl) (Eq.mp (by kernel_rfl) h)
def sh_205 (a0 a1:Value) (K:VK) (w:World):Prop:=
 callM prog 221 #[a0] (fun v7 w=>
 oM prog (.nilCheck (.tmp 0)) 0 [a0] (fun v10 w=>
 kF 213 1 v10 (fun v11 w=>
 kL 202 v11 (fun v12 w=>
 oM prog (.call (Go.Call.mk (.builtin .append) #[(.tmp 0),(.tmp 1)] #[202,9])) 202 [v12,a1] (fun v14 w=>
 oM prog (.nilCheck (.tmp 0)) 0 [a0] (fun v15 w=>
 kF 213 1 v15 (fun v16 w=>
 kS 202 v16 v14 (fun _ w=>
 kN 9 a1 (fun v18 w=>
 K (.tuple #[v18,.nilIface]) w) w) w) w) w) w) w) w) w) w
theorem sh_205_ok {a0 a1:Value} {K:VK} {w:World} (h:sh_205 a0 a1 K w):callM prog 205 #[a0,a1] K w:=
 calls_of_code (fun _=>0) (fn:=Tryz.f205) (rs:=[.tmp 4,.tmp 5]) Tryz.func205 rfl rfl (by kernel_rfl) (nB rfl) (Eq.mp (by kernel_rfl) h)
def sh_175 (a0:Value) (K:VK) (w:World):Prop:=
 callM prog 196 #[a0] (fun v4 w=>
 oM prog (.binOp .add 9 (.tmp 0) (.tmp 1) 9) 9 [v4,(.string ⟨#[59]⟩)] (fun v5 w=>
 K v5 w) w) w
theorem sh_175_ok {a0:Value} {K:VK} {w:World} (h:sh_175 a0 K w):callM prog 175 #[a0] K w:=
 calls_of_code (fun _=>0) (fn:=Tryz.f175) (rs:=[.tmp 2]) Tryz.func175 rfl rfl (by kernel_rfl) (nB rfl) (Eq.mp (by kernel_rfl) h)
def sh_174 (a0 a1:Value) (K:VK) (w:World):Prop:=
 kA 213 (fun v5 w=>
 kN 24 a0 (fun v9 w=>
 callM prog 196 #[v9] (fun v10 w=>
 oM prog (.binOp .add 9 (.tmp 0) (.tmp 1) 9) 9 [v10,(.string ⟨#[91]⟩)] (fun v11 w=>
 callM prog 205 #[v5,v11] (fun v12 w=>
 kN 24 a0 (fun v14 w=>
 loopM [undef,(.int .i64 0)] w (fun J_7 m_8 l_9 u_l_9 w0_l_9=>(fun w=>(
 kB .lss 3 0 (l_9.getD 1 undef) v14 (fun v16 w=>
 condM v16
 (kI 24 a0 (l_9.getD 1 undef) (fun v17 w=>
 kL 3 v17 (fun v18 w=>
 oM prog (.call (Go.Call.mk (.value (.tmp 0)) #[(.tmp 1)] #[3])) 9 [a1,v18] (fun v21 w=>
 callM prog 205 #[v5,v21] (fun v22 w=>
 kB .add 3 3 (l_9.getD 1 undef) (.int .i64 1) (fun v23 w=>
 J_7 [v18,v23] w ∧ m_8 [v18,v23] w < m_8 l_9 w0_l_9) w) w) w) w) w)
 (callM prog 206 #[v5] (fun v24 w=>
 oM prog (.binOp .add 9 (.tmp 0) (.tmp 1) 9) 9 [v24,(.string ⟨#[93]⟩)] (fun v25 w=>
 K v25 w) w) w)) w)) w0_l_9)) w) w) w) w) w) w
theorem sh_174_ok {a0 a1:Value} {K:VK} {w:World} (h:sh_174 a0 a1 K w):callM prog 174 #[a0,a1] K w:=
 calls_of_code (fun _=>0) (fn:=Tryz.f174) (rs:=[.tmp 4]) Tryz.func174 rfl rfl (by kernel_rfl) (nB rfl) (Eq.mp (by kernel_rfl) h)
def sh_114 (a0:Value) (K:VK) (w:World):Prop:=
 callM prog 174 #[a0,(.func (.func 175) #[] #[])] (fun v4 w=>
 K v4 w) w
theorem sh_114_ok {a0:Value} {K:VK} {w:World} (h:sh_114 a0 K w):callM prog 114 #[a0] K w:=
 calls_of_code (fun _=>0) (fn:=Tryz.f114) (rs:=[.tmp 2]) Tryz.func114 rfl rfl (by kernel_rfl) (nB rfl) (Eq.mp (by kernel_rfl) h)
def sh_184 (a0 a1:Value) (K:VK) (w:World):Prop:=
 callM prog 209 #[a0,(.int .u8 91),(.int .i64 0)] (fun v8 w=>
 loopM [(.slice none 0 0),v8] w (fun J_2 m_3 l_4 u_l_4 w0_l_4=>(fun w=>(
 kB .gtr 3 4 (l_4.getD 1 undef) (.int .i64 0) (fun v10 w=>
 gT v10 (pureM a0) (fun v12 w=>
 gT v10 (oM prog (.nilCheck (.tmp 0)) 0 [v12]) (fun v13 w=>
 gT v10 (kF 193 1 v13) (fun v14 w=>
 gT v10 (kL 4 v14) (fun v15 w=>
 gT v10 (kU v15) (fun v16 w=>
 kP v10 v16 (.bool false) (fun v17 w=>
 condM v17
 (oM prog (.call (Go.Call.mk (.value (.tmp 0)) #[] #[])) 3 [a1] (fun v22 w=>
 oM prog (.buildSlice 24 1 #[(0,(.tmp 0))]) 24 [v22] (fun v23 w=>
 oM prog (.call (Go.Call.mk (.builtin .append) #[(.tmp 0),(.tmp 1)] #[24,24])) 24 [(l_4.getD 0 undef),v23] (fun v24 w=>
 kB .sub 3 3 (l_4.getD 1 undef) (.int .i64 1) (fun v19 w=>
 J_2 [v24,v19] w ∧ m_3 [v24,v19] w < m_3 l_4 w0_l_4) w) w) w) w)
 (callM prog 210 #[a0,(.string ⟨#[93]⟩)] (fun v26 w=>
 oM prog (.nilCheck (.tmp 0)) 0 [a0] (fun v28 w=>
 kF 193 1 v28 (fun v29 w=>
 kL 4 v29 (fun v30 w=>
 condM v30
 (K (.slice none 0 0) w)
 (K (l_4.getD 0 undef) w)) w) w) w) w)) w) w) w) w) w) w) w)) w0_l_4)) w
theorem sh_184_ok {a0 a1:Value} {K:VK} {w:World} (h:sh_184 a0 a1 K w):callM prog 184 #[a0,a1] K w:=
 calls_of_code (fun _=>0) (fn:=Tryz.f184) (rs:=[.tmp 4]) Tryz.func184 rfl rfl (by kernel_rfl) (nB rfl) (Eq.mp (by kernel_rfl) h)
def sh_131 (a0:Value) (K:VK) (w:World):Prop:=
 oM prog (.makeFunc (Go.Fn.func 185) #[(.tmp 0)] #[]) 161 [a0] (fun v5 w=>
 callM prog 184 #[a0,v5] (fun v6 w=>
 K v6 w) w) w
theorem sh_131_ok {a0:Value} {K:VK} {w:World} (h:sh_131 a0 K w):callM prog 131 #[a0] K w:=
 calls_of_code (fun _=>0) (fn:=Tryz.f131) (rs:=[.tmp 2]) Tryz.func131 rfl rfl (by kernel_rfl) (nB rfl) (Eq.mp (by kernel_rfl) h)
def sh_130 (a0:Value) (K:VK) (w:World):Prop:=
 oM prog (.build 193 #[(0,(.tmp 0))]) 193 [a0] (fun v4 w=>
 oM prog (.box 193 (.tmp 0)) 155 [v4] (fun v5 w=>
 K v5 w) w) w
theorem sh_130_ok {a0:Value} {K:VK} {w:World} (h:sh_130 a0 K w):callM prog 130 #[a0] K w:=
 calls_of_code (fun _=>0) (fn:=Tryz.f130) (rs:=[.tmp 2]) Tryz.func130 rfl rfl (by kernel_rfl) (nB rfl) (Eq.mp (by kernel_rfl) h)
def sh_132 (a0:Value) (K:VK) (w:World):Prop:=
 oM prog (.nilCheck (.tmp 0)) 0 [a0] (fun v4 w=>
 kF 193 1 v4 (fun v5 w=>
 kL 4 v5 (fun v6 w=>
 kU v6 (fun v7 w=>
 gT v7 (pureM a0) (fun v9 w=>
 gT v7 (oM prog (.nilCheck (.tmp 0)) 0 [v9]) (fun v10 w=>
 gT v7 (kF 193 0 v10) (fun v11 w=>
 gT v7 (kL 9 v11) (fun v12 w=>
 gT v7 (oM prog (.binOp .eql 9 (.tmp 0) (.const (.string ⟨#[]⟩)) 9) 4 [v12]) (fun v13 w=>
 kP v7 v13 (.bool false) (fun v14 w=>
 K v14 w) w) w) w) w) w) w) w) w) w) w
theorem sh_132_ok {a0:Value} {K:VK} {w:World} (h:sh_132 a0 K w):callM prog 132 #[a0] K w:=
 calls_of_code (fun _=>0) (fn:=Tryz.f132) (rs:=[.tmp 2]) Tryz.func132 rfl rfl (by kernel_rfl) (nB rfl) (Eq.mp (by kernel_rfl) h)
def sh_185 (a0:Value) (K:VK) (w:World):Prop:=
 callM prog 209 #[a0,(.int .u8 59),(.int .i64 (-9223372036854775808))] (fun v4 w=>
 K v4 w) w
theorem sh_185_ok {a0:Value} {K:VK} {w:World} (h:sh_185 a0 K w):callM prog 185 #[a0] K w:=
 calls_of_code (fun _=>0) (fn:=Tryz.f185) (rs:=[.tmp 2]) Tryz.func185 rfl rfl (by kernel_rfl) (nB rfl) (Eq.mp (by kernel_rfl) h)
def sh_209 (a0 a1 a2:Value) (K:VK) (w:World):Prop:=
 quietM w (fun C_1=>(oQ prog (.nilCheck (.tmp 0)) 0 [a0] C_1 (fun v12=>
 oQ prog (.fieldAddr 193 (.tmp 0) 0) 0 [v12] C_1 (fun v13=>
 oQ prog (.load 9 (.tmp 0)) 9 [v13] C_1 (fun v14=>
 oQ prog (.nilCheck (.tmp 0)) 0 [a0] C_1 (fun v16=>
 oQ prog (.fieldAddr 193 (.tmp 0) 0) 0 [v16] C_1 (fun v17=>
 oQ prog (.load 9 (.tmp 0)) 9 [v17] C_1 (fun v18=>
 oQ prog (.call (Go.Call.mk (.builtin .len) #[(.tmp 0)] #[9])) 3 [v18] C_1 (fun v19=>
 oQ prog (.call (Go.Call.mk (.builtin .min) #[(.tmp 0),(.tmp 1)] #[3,3])) 3 [v19,(.int .i64 21)] C_1 (fun v20=>
 oQ prog (.slice 9 (.tmp 0) none (some (.tmp 1)) none) 9 [v14,v20] C_1 (fun v21=>
 ∀ w,C_1 w → (callM prog 223 #[v21,a1] (fun v24 w=>
 kB .lss 3 4 v24 (.int .i64 0) (fun v26 w=>
 condM v26
 (callM prog 224 #[a0] (fun v28 w=>
 K (.int .i64 0) w) w)
 (oM prog (.slice 9 (.tmp 0) none (some (.tmp 1)) none) 9 [v21,v24] (fun v32 w=>
 callM prog 225 #[v32] (fun v33 w=>
 kE 0 3 v33 (fun v34 w=>
 kE 1 215 v33 (fun v35 w=>
 quietM w (fun C_18=>(oQ prog (.binOp .neq 215 (.tmp 0) (.const .nilIface) 215) 4 [v35] C_18 (fun v37=>
 gdQ (gd v37 false) (pureQ v34) C_18 (fun v39=>
 gdQ (gd v37 false) (callQ prog 196 #[v39]) C_18 (fun v40=>
 gdQ (gd v37 false) (pureQ v21) C_18 (fun v41=>
 gdQ (gd v37 false) (pureQ v24) C_18 (fun v42=>
 gdQ (gd v37 false) (oQ prog (.slice 9 (.tmp 0) none (some (.tmp 1)) none) 9 [v41,v42]) C_18 (fun v43=>
 gdQ (gd v37 false) (oQ prog (.binOp .neq 9 (.tmp 0) (.tmp 1) 9) 4 [v40,v43]) C_18 (fun v44=>
 oQ prog (.pick (.tmp 0) (.tmp 1) (.tmp 2)) 4 [v37,(.bool true),v44] C_18 (fun v45=>
 gdQ (gd v45 false) (pureQ v34) C_18 (fun v47=>
 gdQ (gd v45 false) (pureQ a2) C_18 (fun v48=>
 gdQ (gd v45 false) (oQ prog (.binOp .lss 3 (.tmp 0) (.tmp 1) 3) 4 [v47,v48]) C_18 (fun v49=>
 oQ prog (.pick (.tmp 0) (.tmp 1) (.tmp 2)) 4 [v45,(.bool true),v49] C_18 (fun v50=>
 ∀ w,C_18 w → (condM v50
 (callM prog 224 #[a0] (fun v52 w=>
 K (.int .i64 0) w) w)
 (oM prog (.nilCheck (.tmp 0)) 0 [a0] (fun v55 w=>
 kF 193 0 v55 (fun v56 w=>
 kL 9 v56 (fun v57 w=>
 kB .add 3 3 v24 (.int .i64 1) (fun v59 w=>
 oM prog (.slice 9 (.tmp 0) (some (.tmp 1)) none none) 9 [v57,v59] (fun v60 w=>
 oM prog (.nilCheck (.tmp 0)) 0 [a0] (fun v61 w=>
 kF 193 0 v61 (fun v62 w=>
 kS 9 v62 v60 (fun _ w=>
 K v34 w) w) w) w) w) w) w) w) w))))))))))))))))) w) w) w) w)) w) w))))))))))))
theorem sh_209_ok {a0 a1 a2:Value} {K:VK} {w:World} (h:sh_209 a0 a1 a2 K w):callM prog 209 #[a0,a1,a2] K w:=
 calls_of_code (fun _=>0) (fn:=Tryz.f209) (rs:=[.tmp 6]) Tryz.func209 rfl rfl (by kernel_rfl) (nB rfl) (Eq.mp (by kernel_rfl) h)
def sh_210 (a0 a1:Value) (K:VK) (w:World):Prop:=
 oM prog (.nilCheck (.tmp 0)) 0 [a0] (fun v8 w=>
 kF 193 0 v8 (fun v9 w=>
 kL 9 v9 (fun v10 w=>
 callM prog 226 #[v10,a1] (fun v12 w=>
 kE 0 9 v12 (fun v13 w=>
 kE 1 4 v12 (fun v14 w=>
 oM prog (.nilCheck (.tmp 0)) 0 [a0] (fun v17 w=>
 kF 193 0 v17 (fun v18 w=>
 kS 9 v18 v13 (fun _ w=>
 kU v14 (fun v20 w=>
 condM v20
 (callM prog 224 #[a0] (fun v22 w=>
 K (.tuple #[]) w) w)
 (K (.tuple #[]) w)) w) w) w) w) w) w) w) w) w) w
theorem sh_210_ok {a0 a1:Value} {K:VK} {w:World} (h:sh_210 a0 a1 K w):callM prog 210 #[a0,a1] K w:=
 calls_of_code (fun _=>0) (fn:=Tryz.f210) (rs:=[]) Tryz.func210 rfl rfl (by kernel_rfl) (nB rfl) (Eq.mp (by kernel_rfl) h)
def sh_224 (a0:Value) (K:VK) (w:World):Prop:=
 oM prog (.nilCheck (.tmp 0)) 0 [a0] (fun v4 w=>
 kF 193 0 v4 (fun v5 w=>
 oM prog (.store 9 (.tmp 0) (.tmp 1)) 0 [v5,(.string ⟨#[]⟩)] (fun _ w=>
 oM prog (.nilCheck (.tmp 0)) 0 [a0] (fun v6 w=>
 kF 193 1 v6 (fun v7 w=>
 kS 4 v7 (.bool true) (fun _ w=>
 K (.tuple #[]) w) w) w) w) w) w) w
theorem sh_224_ok {a0:Value} {K:VK} {w:World} (h:sh_224 a0 K w):callM prog 224 #[a0] K w:=
 calls_of_code (fun _=>0) (fn:=Tryz.f224) (rs:=[]) Tryz.func224 rfl rfl (by kernel_rfl) (nB rfl) (Eq.mp (by kernel_rfl) h)
def sh_160 (a0:Value) (K:VK) (w:World):Prop:=
 kN 9 a0 (fun v4 w=>
 callM prog 196 #[v4] (fun v5 w=>
 oM prog (.binOp .add 9 (.tmp 0) (.tmp 1) 9) 9 [v5,(.string ⟨#[58]⟩)] (fun v6 w=>
 kB .add 9 9 v6 a0 (fun v8 w=>
 oM prog (.binOp .add 9 (.tmp 0) (.tmp 1) 9) 9 [v8,(.string ⟨#[44]⟩)] (fun v9 w=>
 K v9 w) w) w) w) w) w
theorem sh_160_ok {a0:Value} {K:VK} {w:World} (h:sh_160 a0 K w):callM prog 160 #[a0] K w:=
 calls_of_code (fun _=>0) (fn:=Tryz.f160) (rs:=[.tmp 2]) Tryz.func160 rfl rfl (by kernel_rfl) (nB rfl) (Eq.mp (by kernel_rfl) h)
def sh_195 (a0:Value) (K:VK) (w:World):Prop:=
 oM prog (.convert 9 202 (.tmp 0)) 202 [a0] (fun v10 w=>
 oM prog (.buildSlice 202 1 #[(0,(.tmp 0))]) 202 [(.int .u8 128)] (fun v11 w=>
 oM prog (.call (Go.Call.mk (.builtin .append) #[(.tmp 0),(.tmp 1)] #[202,202])) 202 [v10,v11] (fun v12 w=>
 loopM [v12] w (fun J_4 m_5 l_6 u_l_6 w0_l_6=>(fun w=>(
 kN 202 (l_6.getD 0 undef) (fun v14 w=>
 kB .rem 3 3 v14 (.int .i64 64) (fun v15 w=>
 kC .neq 3 56 4 v15 (fun v16 w=>
 condM v16
 (oM prog (.buildSlice 202 1 #[(0,(.tmp 0))]) 202 [(.int .u8 0)] (fun v18 w=>
 oM prog (.call (Go.Call.mk (.builtin .append) #[(.tmp 0),(.tmp 1)] #[202,202])) 202 [(l_6.getD 0 undef),v18] (fun v19 w=>
 J_4 [v19] w ∧ m_5 [v19] w < m_5 l_6 w0_l_6) w) w)
 (loopM [(l_6.getD 0 undef),(.int .i64 56)] w (fun J_12 m_13 l_14 u_l_14 w0_l_14=>(fun w=>(
 kB .geq 3 4 (l_14.getD 1 undef) (.int .i64 0) (fun v21 w=>
 condM v21
 (kN 9 a0 (fun v26 w=>
 oM prog (.convert 3 150 (.tmp 0)) 150 [v26] (fun v27 w=>
 kB .mul 150 150 (.int .u64 8) v27 (fun v28 w=>
 oM prog (.binOp .shr 150 (.tmp 0) (.tmp 1) 3) 150 [v28,(l_14.getD 1 undef)] (fun v30 w=>
 oM prog (.convert 150 5 (.tmp 0)) 5 [v30] (fun v31 w=>
 oM prog (.buildSlice 202 1 #[(0,(.tmp 0))]) 202 [v31] (fun v32 w=>
 oM prog (.call (Go.Call.mk (.builtin .append) #[(.tmp 0),(.tmp 1)] #[202,202])) 202 [(l_14.getD 0 undef),v32] (fun v33 w=>
 kB .sub 3 3 (l_14.getD 1 undef) (.int .i64 8) (fun v23 w=>
 J_12 [v33,v23] w ∧ m_13 [v33,v23] w < m_13 l_14 w0_l_14) w) w) w) w) w) w) w) w)
 (callM prog 213 #[] (fun v34 w=>
 kA 225 (fun v5 w=>
 kS 225 v5 v34 (fun _ w=>
 loopM [(l_14.getD 0 undef)] w (fun J_26 m_27 l_28 u_l_28 w0_l_28=>(fun w=>(
 kN 202 (l_28.getD 0 undef) (fun v36 w=>
 kB .gtr 3 4 v36 (.int .i64 0) (fun v37 w=>
 condM v37
 (heldM w (fun C_31 w=>(((true:Bool) = true) ∧ (jL 225 v5 C_31 (fun v40=>
 pureH (l_28.getD 0 undef) C_31 (fun v41=>
 oH prog (.slice 202 (.tmp 0) none (some (.tmp 1)) none) 202 [v41,(.int .i64 64)] C_31 (fun v42=>
 ∃ S_35:World → WK,∀ w,C_31 w → (
 callM prog 214 #[v40,v42] (fun v43 w=>
 kS 225 v5 v43 (fun _ w=>
 oM prog (.slice 202 (.tmp 0) (some (.tmp 1)) none none) 202 [(l_28.getD 0 undef),(.int .i64 64)] (fun v39 w=>
 J_26 [v39] w ∧ m_27 [v39] w < m_27 l_28 w0_l_28) w) w) w))))))))
 (kL 225 v5 (fun v44 w=>
 loopM [undef,(.slice none 0 0),(.int .i64 0)] w (fun J_39 m_40 l_41 u_l_41 w0_l_41=>(fun w=>(
 kB .lss 3 0 (l_41.getD 2 undef) (.int .i64 8) (fun v46 w=>
 condM v46
 (oM prog (.index 225 (.tmp 0) (.tmp 1)) 223 [v44,(l_41.getD 2 undef)] (fun v47 w=>
 oM prog (.binOp .shr 223 (.tmp 0) (.tmp 1) 191) 223 [v47,(.int .u64 24)] (fun v50 w=>
 oM prog (.convert 223 5 (.tmp 0)) 5 [v50] (fun v51 w=>
 oM prog (.binOp .shr 223 (.tmp 0) (.tmp 1) 191) 223 [v47,(.int .u64 16)] (fun v53 w=>
 oM prog (.convert 223 5 (.tmp 0)) 5 [v53] (fun v54 w=>
 oM prog (.binOp .shr 223 (.tmp 0) (.tmp 1) 191) 223 [v47,(.int .u64 8)] (fun v56 w=>
 oM prog (.convert 223 5 (.tmp 0)) 5 [v56] (fun v57 w=>
 oM prog (.convert 223 5 (.tmp 0)) 5 [v47] (fun v59 w=>
 oM prog (.buildSlice 202 4 #[(0,(.tmp 0)),(1,(.tmp 1)),(2,(.tmp 2)),(3,(.tmp 3))]) 202 [v51,v54,v57,v59] (fun v60 w=>
 oM prog (.call (Go.Call.mk (.builtin .append) #[(.tmp 0),(.tmp 1)] #[202,202])) 202 [(l_41.getD 1 undef),v60] (fun v61 w=>
 kB .add 3 3 (l_41.getD 2 undef) (.int .i64 1) (fun v62 w=>
 J_39 [v47,v61,v62] w ∧ m_40 [v47,v61,v62] w < m_40 l_41 w0_l_41) w) w) w) w) w) w) w) w) w) w) w)
 (oM prog (.convert 202 9 (.tmp 0)) 9 [(l_41.getD 1 undef)] (fun v64 w=>
 K v64 w) w)) w)) w0_l_41)) w)) w) w)) w0_l_28)) w) w) w)) w)) w0_l_14))) w) w) w)) w0_l_6)) w) w) w
theorem sh_195_ok {a0:Value} {K:VK} {w:World} (h:sh_195 a0 K w):callM prog 195 #[a0] K w:=
 calls_of_code (fun _=>.free [0,1,2] [] [3,4]) (fn:=Tryz.f195) (rs:=[.tmp 2]) Tryz.func195 rfl rfl (by kernel_rfl) (nB rfl) (Eq.mp (by kernel_rfl) h)
def sh_213 (K:VK) (w:World):Prop:=
 kA 225 (fun v0 w=>
 oM prog (.build 225 #[(0,(.tmp 0)),(1,(.tmp 1)),(2,(.tmp 2)),(3,(.tmp 3)),(4,(.tmp 4)),(5,(.tmp 5)),(6,(.tmp 6)),(7,(.tmp 7))]) 225 [(.int .u32 1779033703),(.int .u32 3144134277),(.int .u32 1013904242),(.int .u32 2773480762),(.int .u32 1359893119),(.int .u32 2600822924),(.int .u32 528734635),(.int .u32 1541459225)] (fun v1 w=>
 kS 225 v0 v1 (fun _ w=>
 ∃ r_3,(do loadVar 225 (← asAddr v0):Sem Value).run prog w = .ok r_3 w ∧ K r_3 w) w) w) w
theorem sh_213_ok {K:VK} {w:World} (h:sh_213 K w):callM prog 213 #[] K w:=
 calls_of_code (fun _=>0) (fn:=Tryz.f213) (rs:=[.cell 0 225]) Tryz.func213 rfl rfl (by kernel_rfl) (nB rfl) (Eq.mp (by kernel_rfl) h)
def sh_214 (a0 a1:Value) (K:VK) (w:World):Prop:=
 oM prog (.box 225 (.tmp 0)) 0 [a0] (fun v2 w=>
 kA 225 (fun v4 w=>
 callM prog 228 #[a1] (fun v15 w=>
 callM prog 229 #[] (fun v16 w=>
 kA 238 (fun v5 w=>
 kA 238 (fun v6 w=>
 kS 238 v5 v15 (fun _ w=>
 kS 238 v6 v16 (fun _ w=>
 kL 225 v2 (fun v17 w=>
 kA 225 (fun v7 w=>
 kS 225 v7 v17 (fun _ w=>
 loopM [undef,undef,undef,undef,undef,(.int .i64 0)] w (fun J_9 m_10 l_11 u_l_11 w0_l_11=>(fun w=>(
 kB .lss 3 0 (l_11.getD 5 undef) (.int .i64 64) (fun v19 w=>
 condM v19
 (quietM w (fun C_13=>(oQ prog (.indexAddr 225 (.tmp 0) (.tmp 1)) 0 [v7,(.int .i64 4)] C_13 (fun v21=>
 oQ prog (.load 223 (.tmp 0)) 223 [v21] C_13 (fun v22=>
 callQ prog 230 #[v22,(.int .i64 (-6))] C_13 (fun v23=>
 oQ prog (.indexAddr 225 (.tmp 0) (.tmp 1)) 0 [v7,(.int .i64 4)] C_13 (fun v24=>
 oQ prog (.load 223 (.tmp 0)) 223 [v24] C_13 (fun v25=>
 callQ prog 230 #[v25,(.int .i64 (-11))] C_13 (fun v26=>
 oQ prog (.binOp .xor 223 (.tmp 0) (.tmp 1) 223) 223 [v23,v26] C_13 (fun v27=>
 oQ prog (.indexAddr 225 (.tmp 0) (.tmp 1)) 0 [v7,(.int .i64 4)] C_13 (fun v28=>
 oQ prog (.load 223 (.tmp 0)) 223 [v28] C_13 (fun v29=>
 callQ prog 230 #[v29,(.int .i64 (-25))] C_13 (fun v30=>
 oQ prog (.binOp .xor 223 (.tmp 0) (.tmp 1) 223) 223 [v27,v30] C_13 (fun v31=>
 ∀ w,C_13 w → (quietM w (fun C_25=>(oQ prog (.indexAddr 225 (.tmp 0) (.tmp 1)) 0 [v7,(.int .i64 7)] C_25 (fun v32=>
 oQ prog (.load 223 (.tmp 0)) 223 [v32] C_25 (fun v33=>
 oQ prog (.binOp .add 223 (.tmp 0) (.tmp 1) 223) 223 [v33,v31] C_25 (fun v35=>
 oQ prog (.indexAddr 225 (.tmp 0) (.tmp 1)) 0 [v7,(.int .i64 6)] C_25 (fun v36=>
 oQ prog (.load 223 (.tmp 0)) 223 [v36] C_25 (fun v37=>
 oQ prog (.indexAddr 225 (.tmp 0) (.tmp 1)) 0 [v7,(.int .i64 4)] C_25 (fun v38=>
 oQ prog (.load 223 (.tmp 0)) 223 [v38] C_25 (fun v39=>
 oQ prog (.indexAddr 225 (.tmp 0) (.tmp 1)) 0 [v7,(.int .i64 5)] C_25 (fun v40=>
 oQ prog (.load 223 (.tmp 0)) 223 [v40] C_25 (fun v41=>
 oQ prog (.indexAddr 225 (.tmp 0) (.tmp 1)) 0 [v7,(.int .i64 6)] C_25 (fun v42=>
 oQ prog (.load 223 (.tmp 0)) 223 [v42] C_25 (fun v43=>
 oQ prog (.binOp .xor 223 (.tmp 0) (.tmp 1) 223) 223 [v41,v43] C_25 (fun v44=>
 oQ prog (.binOp .and 223 (.tmp 0) (.tmp 1) 223) 223 [v39,v44] C_25 (fun v45=>
 oQ prog (.binOp .xor 223 (.tmp 0) (.tmp 1) 223) 223 [v37,v45] C_25 (fun v46=>
 oQ prog (.binOp .add 223 (.tmp 0) (.tmp 1) 223) 223 [v35,v46] C_25 (fun v47=>
 oQ prog (.indexAddr 238 (.tmp 0) (.tmp 1)) 0 [v6,(l_11.getD 5 undef)] C_25 (fun v49=>
 oQ prog (.load 223 (.tmp 0)) 223 [v49] C_25 (fun v50=>
 oQ prog (.binOp .add 223 (.tmp 0) (.tmp 1) 223) 223 [v47,v50] C_25 (fun v51=>
 oQ prog (.indexAddr 238 (.tmp 0) (.tmp 1)) 0 [v5,(l_11.getD 5 undef)] C_25 (fun v53=>
 oQ prog (.load 223 (.tmp 0)) 223 [v53] C_25 (fun v54=>
 oQ prog (.binOp .add 223 (.tmp 0) (.tmp 1) 223) 223 [v51,v54] C_25 (fun v55=>
 ∀ w,C_25 w → (quietM w (fun C_47=>(oQ prog (.indexAddr 225 (.tmp 0) (.tmp 1)) 0 [v7,(.int .i64 0)] C_47 (fun v56=>
 oQ prog (.load 223 (.tmp 0)) 223 [v56] C_47 (fun v57=>
 callQ prog 230 #[v57,(.int .i64 (-2))] C_47 (fun v58=>
 oQ prog (.indexAddr 225 (.tmp 0) (.tmp 1)) 0 [v7,(.int .i64 0)] C_47 (fun v59=>
 oQ prog (.load 223 (.tmp 0)) 223 [v59] C_47 (fun v60=>
 callQ prog 230 #[v60,(.int .i64 (-13))] C_47 (fun v61=>
 oQ prog (.binOp .xor 223 (.tmp 0) (.tmp 1) 223) 223 [v58,v61] C_47 (fun v62=>
 oQ prog (.indexAddr 225 (.tmp 0) (.tmp 1)) 0 [v7,(.int .i64 0)] C_47 (fun v63=>
 oQ prog (.load 223 (.tmp 0)) 223 [v63] C_47 (fun v64=>
 callQ prog 230 #[v64,(.int .i64 (-22))] C_47 (fun v65=>
 oQ prog (.binOp .xor 223 (.tmp 0) (.tmp 1) 223) 223 [v62,v65] C_47 (fun v66=>
 ∀ w,C_47 w → (kI 225 v7 (.int .i64 0) (fun v67 w=>
 kL 223 v67 (fun v68 w=>
 kI 225 v7 (.int .i64 1) (fun v69 w=>
 kL 223 v69 (fun v70 w=>
 kB .and 223 223 v68 v70 (fun v71 w=>
 kI 225 v7 (.int .i64 2) (fun v72 w=>
 kL 223 v72 (fun v73 w=>
 kI 225 v7 (.int .i64 0) (fun v74 w=>
 kL 223 v74 (fun v75 w=>
 kI 225 v7 (.int .i64 1) (fun v76 w=>
 kL 223 v76 (fun v77 w=>
 kB .or 223 223 v75 v77 (fun v78 w=>
 kB .and 223 223 v73 v78 (fun v79 w=>
 kB .or 223 223 v71 v79 (fun v80 w=>
 kB .add 223 223 v55 v66 (fun v83 w=>
 kB .add 223 223 v83 v80 (fun v85 w=>
 kI 225 v7 (.int .i64 0) (fun v86 w=>
 kL 223 v86 (fun v87 w=>
 kI 225 v7 (.int .i64 1) (fun v88 w=>
 kL 223 v88 (fun v89 w=>
 kI 225 v7 (.int .i64 2) (fun v90 w=>
 kL 223 v90 (fun v91 w=>
 kI 225 v7 (.int .i64 3) (fun v92 w=>
 kL 223 v92 (fun v93 w=>
 kB .add 223 223 v93 v55 (fun v95 w=>
 kI 225 v7 (.int .i64 4) (fun v96 w=>
 kL 223 v96 (fun v97 w=>
 kI 225 v7 (.int .i64 5) (fun v98 w=>
 kL 223 v98 (fun v99 w=>
 kI 225 v7 (.int .i64 6) (fun v100 w=>
 kL 223 v100 (fun v101 w=>
 oM prog (.build 225 #[(0,(.tmp 0)),(1,(.tmp 1)),(2,(.tmp 2)),(3,(.tmp 3)),(4,(.tmp 4)),(5,(.tmp 5)),(6,(.tmp 6)),(7,(.tmp 7))]) 225 [v85,v87,v89,v91,v95,v97,v99,v101] (fun v102 w=>
 kS 225 v7 v102 (fun _ w=>
 kB .add 3 3 (l_11.getD 5 undef) (.int .i64 1) (fun v103 w=>
 J_9 [(l_11.getD 5 undef),v31,v55,v66,v80,v103] w ∧ m_10 [(l_11.getD 5 undef),v31,v55,v66,v80,v103] w < m_10 l_11 w0_l_11) w) w) w) w) w) w) w) w) w) w) w) w) w) w) w) w) w) w) w) w) w) w) w) w) w) w) w) w) w) w) w) w) w) w)))))))))))))))))))))))))))))))))))))))))))))))))))))
 (loopM [undef,(.int .i64 0)] w (fun J_92 m_93 l_94 u_l_94 w0_l_94=>(fun w=>(
 kB .lss 3 0 (l_94.getD 1 undef) (.int .i64 8) (fun v105 w=>
 condM v105
 (heldM w (fun C_96 w=>(((true:Bool) = true) ∧ (pureH (l_94.getD 1 undef) C_96 (fun v107=>
 jI 225 v7 v107 C_96 (fun v108=>
 jL 223 v108 C_96 (fun v109=>
 pureH (l_94.getD 1 undef) C_96 (fun v110=>
 jI 225 v2 v110 C_96 (fun v111=>
 jL 223 v111 C_96 (fun v112=>
 jB .add 223 223 v109 v112 C_96 (fun v113=>
 jI 225 v7 v107 C_96 (fun v114=>
 ∃ S_105:World → WK,∀ w,C_96 w → (
 kS 223 v114 v113 (fun _ w=>
 kB .add 3 3 (l_94.getD 1 undef) (.int .i64 1) (fun v115 w=>
 J_92 [(l_94.getD 1 undef),v115] w ∧ m_93 [(l_94.getD 1 undef),v115] w < m_93 l_94 w0_l_94) w) w)))))))))))))
 (kL 225 v7 (fun v116 w=>
 kS 225 v4 v116 (fun _ w=>
 ∃ r_108,(do loadVar 225 (← asAddr v4):Sem Value).run prog w = .ok r_108 w ∧ K r_108 w) w) w)) w)) w0_l_94))) w)) w0_l_11)) w) w) w) w) w) w) w) w) w) w) w
theorem sh_214_ok {a0 a1:Value} {K:VK} {w:World} (h:sh_214 a0 a1 K w):callM prog 214 #[a0,a1] K w:=
 calls_of_code (fun i=>bif Nat.beq i 15 then .free [0,1,2,3,4,5,6,7] [] [8] else 0) (fn:=Tryz.f214) (rs:=[.cell 4 225]) Tryz.func214 rfl rfl (by kernel_rfl) (nB rfl) (Eq.mp (by kernel_rfl) h)
def sh_228 (a0:Value) (K:VK) (w:World):Prop:=
 kA 238 (fun v2 w=>
 loopM [undef,undef,undef,undef,undef,(.int .i64 0)] w (fun J_2 m_3 l_4 u_l_4 w0_l_4=>(fun w=>(
 kB .lss 3 0 (l_4.getD 5 undef) (.int .i64 64) (fun v9 w=>
 condM v9
 (joinM (fun M_6=>(kB .lss 3 4 (l_4.getD 5 undef) (.int .i64 16) (fun v12 w=>
 condM v12
 (heldM w (fun C_9 w=>(pureH (l_4.getD 5 undef) C_9 (fun v13=>
 pureH a0 C_9 (fun v14=>
 pureH (l_4.getD 5 undef) C_9 (fun v15=>
 jB .mul 3 3 (.int .i64 4) v15 C_9 (fun v16=>
 jI 202 v14 v16 C_9 (fun v17=>
 jL 5 v17 C_9 (fun v18=>
 oH prog (.convert 5 223 (.tmp 0)) 223 [v18] C_9 (fun v19=>
 oH prog (.binOp .shl 223 (.tmp 0) (.tmp 1) 191) 223 [v19,(.int .u64 24)] C_9 (fun v20=>
 pureH a0 C_9 (fun v21=>
 pureH (l_4.getD 5 undef) C_9 (fun v22=>
 jB .mul 3 3 (.int .i64 4) v22 C_9 (fun v23=>
 jB .add 3 3 v23 (.int .i64 1) C_9 (fun v24=>
 jI 202 v21 v24 C_9 (fun v25=>
 jL 5 v25 C_9 (fun v26=>
 oH prog (.convert 5 223 (.tmp 0)) 223 [v26] C_9 (fun v27=>
 oH prog (.binOp .shl 223 (.tmp 0) (.tmp 1) 191) 223 [v27,(.int .u64 16)] C_9 (fun v28=>
 jB .or 223 223 v20 v28 C_9 (fun v29=>
 pureH a0 C_9 (fun v30=>
 pureH (l_4.getD 5 undef) C_9 (fun v31=>
 jB .mul 3 3 (.int .i64 4) v31 C_9 (fun v32=>
 jB .add 3 3 v32 (.int .i64 2) C_9 (fun v33=>
 jI 202 v30 v33 C_9 (fun v34=>
 jL 5 v34 C_9 (fun v35=>
 oH prog (.convert 5 223 (.tmp 0)) 223 [v35] C_9 (fun v36=>
 oH prog (.binOp .shl 223 (.tmp 0) (.tmp 1) 191) 223 [v36,(.int .u64 8)] C_9 (fun v37=>
 jB .or 223 223 v29 v37 C_9 (fun v38=>
 pureH a0 C_9 (fun v39=>
 pureH (l_4.getD 5 undef) C_9 (fun v40=>
 jB .mul 3 3 (.int .i64 4) v40 C_9 (fun v41=>
 jB .add 3 3 v41 (.int .i64 3) C_9 (fun v42=>
 jI 202 v39 v42 C_9 (fun v43=>
 jL 5 v43 C_9 (fun v44=>
 oH prog (.convert 5 223 (.tmp 0)) 223 [v44] C_9 (fun v45=>
 jB .or 223 223 v38 v45 C_9 (fun v46=>
 jI 238 v2 v13 C_9 (fun v47=>
 kS 223 v47 v46 (fun _ w=>C_9 w ∧ (
 M_6 [(l_4.getD 5 undef),(l_4.getD 1 undef),(l_4.getD 2 undef),(l_4.getD 3 undef),(l_4.getD 4 undef)] w)) w))))))))))))))))))))))))))))))))))))))
 (quietM w (fun C_45=>(oQ prog (.binOp .sub 3 (.tmp 0) (.tmp 1) 3) 3 [(l_4.getD 5 undef),(.int .i64 15)] C_45 (fun v49=>
 oQ prog (.indexAddr 238 (.tmp 0) (.tmp 1)) 0 [v2,v49] C_45 (fun v50=>
 oQ prog (.load 223 (.tmp 0)) 223 [v50] C_45 (fun v51=>
 oQ prog (.binOp .sub 3 (.tmp 0) (.tmp 1) 3) 3 [(l_4.getD 5 undef),(.int .i64 2)] C_45 (fun v53=>
 oQ prog (.indexAddr 238 (.tmp 0) (.tmp 1)) 0 [v2,v53] C_45 (fun v54=>
 oQ prog (.load 223 (.tmp 0)) 223 [v54] C_45 (fun v55=>
 ∀ w,C_45 w → (callM prog 230 #[v51,(.int .i64 (-7))] (fun v57 w=>
 callM prog 230 #[v51,(.int .i64 (-18))] (fun v59 w=>
 kB .xor 223 223 v57 v59 (fun v60 w=>
 oM prog (.binOp .shr 223 (.tmp 0) (.tmp 1) 191) 223 [v51,(.int .u64 3)] (fun v62 w=>
 kB .xor 223 223 v60 v62 (fun v63 w=>
 callM prog 230 #[v55,(.int .i64 (-17))] (fun v65 w=>
 callM prog 230 #[v55,(.int .i64 (-19))] (fun v67 w=>
 kB .xor 223 223 v65 v67 (fun v68 w=>
 oM prog (.binOp .shr 223 (.tmp 0) (.tmp 1) 191) 223 [v55,(.int .u64 10)] (fun v70 w=>
 kB .xor 223 223 v68 v70 (fun v71 w=>
 heldM w (fun C_62 w=>(pureH (l_4.getD 5 undef) C_62 (fun v72=>
 pureH (l_4.getD 5 undef) C_62 (fun v73=>
 jB .sub 3 3 v73 (.int .i64 16) C_62 (fun v74=>
 jI 238 v2 v74 C_62 (fun v75=>
 jL 223 v75 C_62 (fun v76=>
 pureH v63 C_62 (fun v77=>
 jB .add 223 223 v76 v77 C_62 (fun v78=>
 pureH (l_4.getD 5 undef) C_62 (fun v79=>
 jB .sub 3 3 v79 (.int .i64 7) C_62 (fun v80=>
 jI 238 v2 v80 C_62 (fun v81=>
 jL 223 v81 C_62 (fun v82=>
 jB .add 223 223 v78 v82 C_62 (fun v83=>
 pureH v71 C_62 (fun v84=>
 jB .add 223 223 v83 v84 C_62 (fun v85=>
 jI 238 v2 v72 C_62 (fun v86=>
 kS 223 v86 v85 (fun _ w=>C_62 w ∧ (
 M_6 [(l_4.getD 5 undef),v51,v55,v63,v71] w)) w)))))))))))))))))) w) w) w) w) w) w) w) w) w) w))))))))))) w))
 (fun l_7 u_l_7 w=>(kB .add 3 3 (l_4.getD 5 undef) (.int .i64 1) (fun v87 w=>
 J_2 [(l_7.getD 0 undef),(l_7.getD 1 undef),(l_7.getD 2 undef),(l_7.getD 3 undef),(l_7.getD 4 undef),v87] w ∧ m_3 [(l_7.getD 0 undef),(l_7.getD 1 undef),(l_7.getD 2 undef),(l_7.getD 3 undef),(l_7.getD 4 undef),v87] w < m_3 l_4 w0_l_4) w)))
 (kL 238 v2 (fun v88 w=>
 kS 238 v2 v88 (fun _ w=>
 ∃ r_80,(do loadVar 238 (← asAddr v2):Sem Value).run prog w = .ok r_80 w ∧ K r_80 w) w) w)) w)) w0_l_4)) w
theorem sh_228_ok {a0:Value} {K:VK} {w:World} (h:sh_228 a0 K w):callM prog 228 #[a0] K w:=
 calls_of_code (fun i=>bif Nat.beq i 5 then .tree (.look 0 (.look 1 (.look 2 (.look 3 (.look 4 (.look 5 (.look 6 (.look 7 (.look 8 (.look 9 (.look 10 (.look 11 (.look 12 (.look 13 (.look 14 (.look 15 (.look 16 (.look 17 (.look 18 (.look 19 (.look 20 (.look 21 (.look 22 (.look 23 (.look 24 (.look 25 (.look 26 (.look 27 (.look 28 (.look 29 (.look 30 (.look 31 (.look 32 (.look 33 (.look 34 (.only 35 (.done))))))))))))))))))))))))))))))))))))) else bif Nat.beq i 9 then 2 else 0) (fn:=Tryz.f228) (rs:=[.cell 2 238]) Tryz.func228 rfl rfl (by kernel_rfl) (nB rfl) (Eq.mp (by kernel_rfl) h)
def sh_229 (K:VK) (w:World):Prop:=
 kA 238 (fun v0 w=>
 oM prog (.build 238 #[(0,(.tmp 0)),(1,(.tmp 1)),(2,(.tmp 2)),(3,(.tmp 3)),(4,(.tmp 4)),(5,(.tmp 5)),(6,(.tmp 6)),(7,(.tmp 7)),(8,(.tmp 8)),(9,(.tmp 9)),(10,(.tmp 10)),(11,(.tmp 11)),(12,(.tmp 12)),(13,(.tmp 13)),(14,(.tmp 14)),(15,(.tmp 15)),(16,(.tmp 16)),(17,(.tmp 17)),(18,(.tmp 18)),(19,(.tmp 19)),(20,(.tmp 20)),(21,(.tmp 21)),(22,(.tmp 22)),(23,(.tmp 23)),(24,(.tmp 24)),(25,(.tmp 25)),(26,(.tmp 26)),(27,(.tmp 27)),(28,(.tmp 28)),(29,(.tmp 29)),(30,(.tmp 30)),(31,(.tmp 31)),(32,(.tmp 32)),(33,(.tmp 33)),(34,(.tmp 34)),(35,(.tmp 35)),(36,(.tmp 36)),(37,(.tmp 37)),(38,(.tmp 38)),(39,(.tmp 39)),(40,(.tmp 40)),(41,(.tmp 41)),(42,(.tmp 42)),(43,(.tmp 43)),(44,(.tmp 44)),(45,(.tmp 45)),(46,(.tmp 46)),(47,(.tmp 47)),(48,(.tmp 48)),(49,(.tmp 49)),(50,(.tmp 50)),(51,(.tmp 51)),(52,(.tmp 52)),(53,(.tmp 53)),(54,(.tmp 54)),(55,(.tmp 55)),(56,(.tmp 56)),(57,(.tmp 57)),(58,(.tmp 58)),(59,(.tmp 59)),(60,(.tmp 60)),(61,(.tmp 61)),(62,(.tmp 62)),(63,(.tmp 63))]) 238 [(.int .u32 1116352408),(.int .u32 1899447441),(.int .u32 3049323471),(.int .u32 3921009573),(.int .u32 961987163),(.int .u32 1508970993),(.int .u32 2453635748),(.int .u32 2870763221),(.int .u32 3624381080),(.int .u32 310598401),(.int .u32 607225278),(.int .u32 1426881987),(.int .u32 1925078388),(.int .u32 2162078206),(.int .u32 2614888103),(.int .u32 3248222580),(.int .u32 3835390401),(.int .u32 4022224774),(.int .u32 264347078),(.int .u32 604807628),(.int .u32 770255983),(.int .u32 1249150122),(.int .u32 1555081692),(.int .u32 1996064986),(.int .u32 2554220882),(.int .u32 2821834349),(.int .u32 2952996808),(.int .u32 3210313671),(.int .u32 3336571891),(.int .u32 3584528711),(.int .u32 113926993),(.int .u32 338241895),(.int .u32 666307205),(.int .u32 773529912),(.int .u32 1294757372),(.int .u32 1396182291),(.int .u32 1695183700),(.int .u32 1986661051),(.int .u32 2177026350),(.int .u32 2456956037),(.int .u32 2730485921),(.int .u32 2820302411),(.int .u32 3259730800),(.int .u32 3345764771),(.int .u32 3516065817),(.int .u32 3600352804),(.int .u32 4094571909),(.int .u32 275423344),(.int .u32 430227734),(.int .u32 506948616),(.int .u32 659060556),(.int .u32 883997877),(.int .u32 958139571),(.int .u32 1322822218),(.int .u32 1537002063),(.int .u32 1747873779),(.int .u32 1955562222),(.int .u32 2024104815),(.int .u32 2227730452),(.int .u32 2361852424),(.int .u32 2428436474),(.int .u32 2756734187),(.int .u32 3204031479),(.int .u32 3329325298)] (fun v1 w=>
 kS 238 v0 v1 (fun _ w=>
 ∃ r_3,(do loadVar 238 (← asAddr v0):Sem Value).run prog w = .ok r_3 w ∧ K r_3 w) w) w) w
theorem sh_229_ok {K:VK} {w:World} (h:sh_229 K w):callM prog 229 #[] K w:=
 calls_of_code (fun _=>0) (fn:=Tryz.f229) (rs:=[.cell 0 238]) Tryz.func229 rfl rfl (by kernel_rfl) (nB rfl) (Eq.mp (by kernel_rfl) h)
def sh_230 (a0 a1:Value) (K:VK) (w:World):Prop:=
 oM prog (.convert 3 191 (.tmp 0)) 191 [a1] (fun v7 w=>
 kB .and 191 191 v7 (.int .u64 31) (fun v8 w=>
 oM prog (.binOp .shl 223 (.tmp 0) (.tmp 1) 191) 223 [a0,v8] (fun v11 w=>
 kB .sub 191 191 (.int .u64 32) v8 (fun v14 w=>
 oM prog (.binOp .shr 223 (.tmp 0) (.tmp 1) 191) 223 [a0,v14] (fun v15 w=>
 kB .or 223 223 v11 v15 (fun v16 w=>
 K v16 w) w) w) w) w) w) w
theorem sh_230_ok {a0 a1:Value} {K:VK} {w:World} (h:sh_230 a0 a1 K w):callM prog 230 #[a0,a1] K w:=
 calls_of_code (fun _=>0) (fn:=Tryz.f230) (rs:=[.tmp 4]) Tryz.func230 rfl rfl (by kernel_rfl) (nB rfl) (Eq.mp (by kernel_rfl) h)
def sh_159 (a0 a1:Value) (K:VK) (w:World):Prop:=
 callM prog 123 #[a1] (fun v9 w=>
 kU v9 (fun v10 w=>
 condM v10
 (K (.int .i64 0) w)
 (callM prog 195 #[a0] (fun v12 w=>
 oM prog (.convert 9 202 (.tmp 0)) 202 [v12] (fun v13 w=>
 kN 202 v13 (fun v14 w=>
 loopM [undef,(.int .i64 0),(.int .i64 0)] w (fun J_6 m_7 l_8 u_l_8 w0_l_8=>(fun w=>(
 kB .lss 3 0 (l_8.getD 2 undef) v14 (fun v16 w=>
 condM v16
 (kI 202 v13 (l_8.getD 2 undef) (fun v17 w=>
 kL 5 v17 (fun v18 w=>
 callM prog 43 #[a1,(l_8.getD 1 undef),(.int .i64 256)] (fun v22 w=>
 oM prog (.convert 5 3 (.tmp 0)) 3 [v18] (fun v24 w=>
 callM prog 42 #[a1,v22,v24] (fun v25 w=>
 kB .add 3 3 (l_8.getD 2 undef) (.int .i64 1) (fun v26 w=>
 J_6 [v18,v25,v26] w ∧ m_7 [v18,v25,v26] w < m_7 l_8 w0_l_8) w) w) w) w) w) w)
 (K (l_8.getD 1 undef) w)) w)) w0_l_8)) w) w) w)) w) w
theorem sh_159_ok {a0 a1:Value} {K:VK} {w:World} (h:sh_159 a0 a1 K w):callM prog 159 #[a0,a1] K w:=
 calls_of_code (fun _=>0) (fn:=Tryz.f159) (rs:=[.tmp 4]) Tryz.func159 rfl rfl (by kernel_rfl) (nB rfl) (Eq.mp (by kernel_rfl) h)
def sh_55 (a0 a1:Value) (K:VK) (w:World):Prop:=
 oM prog (.box 23 (.tmp 0)) 0 [a0] (fun v2 w=>
 oM prog (.box 88 (.tmp 0)) 0 [a1] (fun v3 w=>
 kA 26 (fun v4 w=>
 oM prog (.makeFunc (Go.Fn.func 135) #[] #[(.tmp 0)]) 141 [v2] (fun v10 w=>
 kL 23 v2 (fun v11 w=>
 callM prog 107 #[v11] (fun v12 w=>
 kU v12 (fun v13 w=>
 gF v13 (kF 88 0 v3) (fun v15 w=>
 gF v13 (kL 24 v15) (fun v16 w=>
 gF v13 (kN 24 v16) (fun v17 w=>
 gF v13 (kB .lss 3 4 v17 (.int .i64 2)) (fun v18 w=>
 kP v13 (.bool true) v18 (fun v19 w=>
 gF v19 (kF 88 0 v3) (fun v21 w=>
 gF v19 (kL 24 v21) (fun v22 w=>
 gF v19 (kN 24 v22) (fun v23 w=>
 gF v19 (kB .gtr 3 4 v23 (.int .i64 7)) (fun v24 w=>
 kP v19 (.bool true) v24 (fun v25 w=>
 gF v25 (kF 88 0 v3) (fun v27 w=>
 gF v25 (kL 24 v27) (fun v28 w=>
 gF v25 (pureM v10) (fun v29 w=>
 gF v25 (callM prog 136 #[v28,v29]) (fun v30 w=>
 kP v25 (.bool true) v30 (fun v31 w=>
 gF v31 (pureM v10) (fun v33 w=>
 gF v31 (kF 88 1 v3) (fun v34 w=>
 gF v31 (kL 3 v34) (fun v35 w=>
 gF v31 (oM prog (.call (Go.Call.mk (.value (.tmp 0)) #[(.tmp 1)] #[3])) 4 [v33,v35]) (fun v36 w=>
 kP v31 (.bool true) v36 (fun v37 w=>
 condM v37
 (oM prog (.build 26 #[]) 26 [] (fun v38 w=>
 kS 26 v4 v38 (fun _ w=>
 ∃ r_29,(do loadVar 26 (← asAddr v4):Sem Value).run prog w = .ok r_29 w ∧ K (.tuple #[r_29,(.bool false)]) w) w) w)
 (heldM w (fun C_30 w=>(((true:Bool) = true) ∧ (jL 23 v2 C_30 (fun v39=>
 jL 23 v2 C_30 (fun v40=>
 jF 23 2 v2 C_30 (fun v41=>
 jL 3 v41 C_30 (fun v42=>
 jF 88 1 v3 C_30 (fun v43=>
 jL 3 v43 C_30 (fun v44=>
 ∃ S_37:World → WK,∃ R_38:VK,(∀ v w w_1,S_37 w w_1 → R_38 v w → R_38 v w_1) ∧
 (∀ w,C_30 w → (callM prog 46 #[v40,v42,v44] (fun v w_1=>C_30 w_1 ∧ S_37 w w_1 ∧ R_38 v w_1) w)) ∧
 (∃ R_39:VK,(∀ v w w_1,S_37 w w_1 → R_39 v w → R_39 v w_1) ∧
 (∀ w,C_30 w → ∀ v45,R_38 v45 w → (oM prog (.build 26 #[(0,(.tmp 0)),(2,(.tmp 1))]) 26 [v39,v45] (fun v w_1=>C_30 w_1 ∧ S_37 w w_1 ∧ R_39 v w_1) w)) ∧
 (∃ R_41:VK,(∀ v w w_1,S_37 w w_1 → R_41 v w → R_41 v w_1) ∧
 (∀ w,C_30 w → (kA 26 (fun v w_1=>C_30 w_1 ∧ S_37 w w_1 ∧ R_41 v w_1) w)) ∧
 (∀ w,C_30 w → ∀ v45,R_38 v45 w → ∀ v46,R_39 v46 w → ∀ v7,R_41 v7 w → (
 kS 26 v7 v46 (fun _ w=>
 kF 88 0 v3 (fun v47 w=>
 kL 24 v47 (fun v48 w=>
 kN 24 v48 (fun v49 w=>
 loopM [undef,(.int .i64 0)] w (fun J_48 m_49 l_50 u_l_50 w0_l_50=>(fun w=>(
 kB .lss 3 0 (l_50.getD 1 undef) v49 (fun v51 w=>
 condM v51
 (kI 24 v48 (l_50.getD 1 undef) (fun v52 w=>
 kL 3 v52 (fun v53 w=>
 heldM w (fun C_54 w=>(((true:Bool) = true) ∧ (jF 26 1 v7 C_54 (fun v54=>
 jL 24 v54 C_54 (fun v55=>
 jL 23 v2 C_54 (fun v56=>
 jF 23 2 v2 C_54 (fun v57=>
 jL 3 v57 C_54 (fun v58=>
 pureH v53 C_54 (fun v59=>
 ∃ S_61:World → WK,∃ R_62:VK,(∀ v w w_1,S_61 w w_1 → R_62 v w → R_62 v w_1) ∧
 (∀ w,C_54 w → (callM prog 46 #[v56,v58,v59] (fun v w_1=>C_54 w_1 ∧ S_61 w w_1 ∧ R_62 v w_1) w)) ∧
 (∃ R_63:VK,(∀ v w w_1,S_61 w w_1 → R_63 v w → R_63 v w_1) ∧
 (∀ w,C_54 w → ∀ v60,R_62 v60 w → (oM prog (.buildSlice 24 1 #[(0,(.tmp 0))]) 24 [v60] (fun v w_1=>C_54 w_1 ∧ S_61 w w_1 ∧ R_63 v w_1) w)) ∧
 (∀ w,C_54 w → ∀ v60,R_62 v60 w → ∀ v61,R_63 v61 w → (
 oM prog (.call (Go.Call.mk (.builtin .append) #[(.tmp 0),(.tmp 1)] #[24,24])) 24 [v55,v61] (fun v62 w=>
 kF 26 1 v7 (fun v63 w=>
 kS 24 v63 v62 (fun _ w=>
 kB .add 3 3 (l_50.getD 1 undef) (.int .i64 1) (fun v64 w=>
 J_48 [v53,v64] w ∧ m_49 [v53,v64] w < m_49 l_50 w0_l_50) w) w) w) w))))))))))))) w) w)
 (kL 26 v7 (fun v65 w=>
 kS 26 v4 v65 (fun _ w=>
 ∃ r_71,(do loadVar 26 (← asAddr v4):Sem Value).run prog w = .ok r_71 w ∧ K (.tuple #[r_71,(.bool true)]) w) w) w)) w)) w0_l_50)) w) w) w) w))))))))))))))) w) w) w) w) w) w) w) w) w) w) w) w) w) w) w) w) w) w) w) w) w) w) w) w) w) w) w
theorem sh_55_ok {a0 a1:Value} {K:VK} {w:World} (h:sh_55 a0 a1 K w):callM prog 55 #[a0,a1] K w:=
 calls_of_code (fun i=>bif Nat.beq i 4 then .free [0,1,2,3,4,5] [6,7,8] [9] else bif Nat.beq i 8 then .free [0,1,2,3,4,5] [6,7] [8,9,10] else 0) (fn:=Tryz.f55) (rs:=[.cell 4 26,.tmp 5]) Tryz.func55 rfl rfl (by kernel_rfl) (nB rfl) (Eq.mp (by kernel_rfl) h)
def sh_135 (a0 a1:Value) (K:VK) (w:World):Prop:=
 kB .lss 3 4 a0 (.int .i64 1) (fun v5 w=>
 gF v5 (pureM a0) (fun v7 w=>
 gF v5 (kF 23 1 a1) (fun v8 w=>
 gF v5 (kL 3 v8) (fun v9 w=>
 gF v5 (kB .geq 3 4 v7 v9) (fun v10 w=>
 kP v5 (.bool true) v10 (fun v11 w=>
 K v11 w) w) w) w) w) w) w
theorem sh_135_ok {a0 a1:Value} {K:VK} {w:World} (h:sh_135 a0 a1 K w):callM prog 135 #[a0,a1] K w:=
 calls_of_code (fun _=>0) (fn:=Tryz.f135) (rs:=[.tmp 3]) Tryz.func135 rfl rfl (by kernel_rfl) (nB rfl) (Eq.mp (by kernel_rfl) h)
def sh_58 (a0 a1:Value) (K:VK) (w:World):Prop:=
 oM prog (.box 26 (.tmp 0)) 0 [a0] (fun v2 w=>
 oM prog (.box 88 (.tmp 0)) 0 [a1] (fun v3 w=>
 kF 26 0 v2 (fun v8 w=>
 kL 23 v8 (fun v9 w=>
 kL 88 v3 (fun v10 w=>
 callM prog 55 #[v9,v10] (fun v11 w=>
 kE 0 26 v11 (fun v12 w=>
 kE 1 4 v11 (fun v13 w=>
 kA 26 (fun v5 w=>
 kS 26 v5 v12 (fun _ w=>
 gT v13 (kF 26 2 v5) (fun v16 w=>
 gT v13 (kL 3 v16) (fun v17 w=>
 gT v13 (kF 26 2 v2) (fun v18 w=>
 gT v13 (kL 3 v18) (fun v19 w=>
 gT v13 (kB .eql 3 4 v17 v19) (fun v20 w=>
 kP v13 v20 (.bool false) (fun v21 w=>
 gT v21 (kF 26 1 v5) (fun v23 w=>
 gT v21 (kL 24 v23) (fun v24 w=>
 gT v21 (kF 26 1 v2) (fun v25 w=>
 gT v21 (kL 24 v25) (fun v26 w=>
 gT v21 (callM prog 117 #[v24,v26]) (fun v27 w=>
 kP v21 v27 (.bool false) (fun v28 w=>
 K v28 w) w) w) w) w) w) w) w) w) w) w) w) w) w) w) w) w) w) w) w) w) w) w
theorem sh_58_ok {a0 a1:Value} {K:VK} {w:World} (h:sh_58 a0 a1 K w):callM prog 58 #[a0,a1] K w:=
 calls_of_code (fun _=>0) (fn:=Tryz.f58) (rs:=[.tmp 4]) Tryz.func58 rfl rfl (by kernel_rfl) (nB rfl) (Eq.mp (by kernel_rfl) h)
def sh_117 (a0 a1:Value) (K:VK) (w:World):Prop:=
 kN 24 a0 (fun v7 w=>
 kN 24 a1 (fun v9 w=>
 kB .neq 3 4 v7 v9 (fun v10 w=>
 condM v10
 (K (.bool false) w)
 (kN 24 a0 (fun v12 w=>
 loopM [undef,(.bool false),(.int .i64 0)] w (fun J_5 m_6 l_7 u_l_7 w0_l_7=>(fun w=>(
 kB .lss 3 0 (l_7.getD 2 undef) v12 (fun v14 w=>
 condM v14
 (heldM w (fun C_9 w=>(((true:Bool) = true) ∧ (pureH a0 C_9 (fun v16=>
 pureH (l_7.getD 2 undef) C_9 (fun v17=>
 jI 24 v16 v17 C_9 (fun v18=>
 jL 3 v18 C_9 (fun v19=>
 pureH a1 C_9 (fun v20=>
 pureH (l_7.getD 2 undef) C_9 (fun v21=>
 jI 24 v20 v21 C_9 (fun v22=>
 jL 3 v22 C_9 (fun v23=>
 jB .neq 3 4 v19 v23 C_9 (fun v24=>
 ∃ S_19:World → WK,∀ w,C_9 w → (
 condM v24
 (K (.bool false) w)
 (kB .add 3 3 (l_7.getD 2 undef) (.int .i64 1) (fun v25 w=>
 J_5 [(l_7.getD 2 undef),(l_7.getD 1 undef),v25] w ∧ m_6 [(l_7.getD 2 undef),(l_7.getD 1 undef),v25] w < m_6 l_7 w0_l_7) w)))))))))))))))
 (K (.bool true) w)) w)) w0_l_7)) w)) w) w) w
theorem sh_117_ok {a0 a1:Value} {K:VK} {w:World} (h:sh_117 a0 a1 K w):callM prog 117 #[a0,a1] K w:=
 calls_of_code (fun _=>.free [0,1,2,3,4,5,6,7,8] [] []) (fn:=Tryz.f117) (rs:=[.tmp 4]) Tryz.func117 rfl rfl (by kernel_rfl) (nB rfl) (Eq.mp (by kernel_rfl) h)
def sh_63 (a0 a1 a2 a3:Value) (K:VK) (w:World):Prop:=
 oM prog (.box 26 (.tmp 0)) 0 [a0] (fun v4 w=>
 oM prog (.box 69 (.tmp 0)) 0 [a1] (fun v5 w=>
 kL 26 v4 (fun v9 w=>
 callM prog 21 #[v9] (fun v10 w=>
 kU v10 (fun v11 w=>
 gF v11 (kL 26 v4) (fun v13 w=>
 gF v11 (kL 69 v5) (fun v14 w=>
 gF v11 (callM prog 112 #[v13,v14]) (fun v15 w=>
 gF v11 (kU v15) (fun v16 w=>
 kP v11 (.bool true) v16 (fun v17 w=>
 gF v17 (kL 26 v4) (fun v19 w=>
 gF v17 (pureM a2) (fun v20 w=>
 gF v17 (callM prog 127 #[v19,v20]) (fun v21 w=>
 gF v17 (kU v21) (fun v22 w=>
 kP v17 (.bool true) v22 (fun v23 w=>
 gF v23 (kL 26 v4) (fun v25 w=>
 gF v23 (pureM a3) (fun v26 w=>
 gF v23 (kF 69 0 v5) (fun v27 w=>
 gF v23 (kL 3 v27) (fun v28 w=>
 gF v23 (callM prog 140 #[v25,v26,v28]) (fun v29 w=>
 gF v23 (kU v29) (fun v30 w=>
 kP v23 (.bool true) v30 (fun v31 w=>
 condM v31
 (K (.slice none 0 0) w)
 (kL 26 v4 (fun v32 w=>
 kL 69 v5 (fun v33 w=>
 callM prog 141 #[v32,v33,a2,a3] (fun v36 w=>
 K v36 w) w) w) w)) w) w) w) w) w) w) w) w) w) w) w) w) w) w) w) w) w) w) w) w) w) w
theorem sh_63_ok {a0 a1 a2 a3:Value} {K:VK} {w:World} (h:sh_63 a0 a1 a2 a3 K w):callM prog 63 #[a0,a1,a2,a3] K w:=
 calls_of_code (fun _=>0) (fn:=Tryz.f63) (rs:=[.tmp 8]) Tryz.func63 rfl rfl (by kernel_rfl) (nB rfl) (Eq.mp (by kernel_rfl) h)
def sh_141 (a0 a1 a2 a3:Value) (K:VK) (w:World):Prop:=
 oM prog (.box 26 (.tmp 0)) 0 [a0] (fun v4 w=>
 oM prog (.box 69 (.tmp 0)) 0 [a1] (fun v5 w=>
 kF 69 1 v5 (fun v12 w=>
 kL 67 v12 (fun v13 w=>
 kN 67 v13 (fun v14 w=>
 loopM [(.slice none 0 0),(.int .i64 0)] w (fun J_6 m_7 l_8 u_l_8 w0_l_8=>(fun w=>(
 kB .lss 3 0 (l_8.getD 1 undef) v14 (fun v16 w=>
 condM v16
 (kI 67 v13 (l_8.getD 1 undef) (fun v17 w=>
 kL 144 v17 (fun v18 w=>
 kA 144 (fun v11 w=>
 kS 144 v11 v18 (fun _ w=>
 heldM w (fun C_13 w=>(((true:Bool) = true) ∧ (pureH (l_8.getD 0 undef) C_13 (fun v19=>
 jF 26 0 v4 C_13 (fun v20=>
 jL 23 v20 C_13 (fun v21=>
 jL 26 v4 C_13 (fun v22=>
 jL 144 v11 C_13 (fun v23=>
 pureH a3 C_13 (fun v24=>
 jF 26 0 v4 C_13 (fun v26=>
 jL 23 v26 C_13 (fun v27=>
 jF 144 0 v11 C_13 (fun v28=>
 jL 3 v28 C_13 (fun v29=>
 pureH a2 C_13 (fun v30=>
 ∃ S_25:World → WK,∃ R_26:VK,(∀ v w w_1,S_25 w w_1 → R_26 v w → R_26 v w_1) ∧
 (∀ w,C_13 w → (callM prog 181 #[v22,v23,v24] (fun v w_1=>C_13 w_1 ∧ S_25 w w_1 ∧ R_26 v w_1) w)) ∧
 (∃ R_27:VK,(∀ v w w_1,S_25 w w_1 → R_27 v w → R_27 v w_1) ∧
 (∀ w,C_13 w → (callM prog 46 #[v27,v29,v30] (fun v w_1=>C_13 w_1 ∧ S_25 w w_1 ∧ R_27 v w_1) w)) ∧
 (∃ R_28:VK,(∀ v w w_1,S_25 w w_1 → R_28 v w → R_28 v w_1) ∧
 (∀ w,C_13 w → ∀ v25,R_26 v25 w → ∀ v31,R_27 v31 w → (callM prog 121 #[v21,v25,v31] (fun v w_1=>C_13 w_1 ∧ S_25 w w_1 ∧ R_28 v w_1) w)) ∧
 (∃ R_31:VK,(∀ v w w_1,S_25 w w_1 → R_31 v w → R_31 v w_1) ∧
 (∀ w,C_13 w → ∀ v32,R_28 v32 w → (oM prog (.buildSlice 24 1 #[(0,(.tmp 0))]) 24 [v32] (fun v w_1=>C_13 w_1 ∧ S_25 w w_1 ∧ R_31 v w_1) w)) ∧
 (∀ w,C_13 w → ∀ v25,R_26 v25 w → ∀ v31,R_27 v31 w → ∀ v32,R_28 v32 w → ∀ v33,R_31 v33 w → (
 oM prog (.call (Go.Call.mk (.builtin .append) #[(.tmp 0),(.tmp 1)] #[24,24])) 24 [v19,v33] (fun v34 w=>
 kB .add 3 3 (l_8.getD 1 undef) (.int .i64 1) (fun v35 w=>
 J_6 [v34,v35] w ∧ m_7 [v34,v35] w < m_7 l_8 w0_l_8) w) w)))))))))))))))))))) w) w) w) w)
 (K (l_8.getD 0 undef) w)) w)) w0_l_8)) w) w) w) w) w
theorem sh_141_ok {a0 a1 a2 a3:Value} {K:VK} {w:World} (h:sh_141 a0 a1 a2 a3 K w):callM prog 141 #[a0,a1,a2,a3] K w:=
 calls_of_code (fun _=>.free [0,1,2,3,4,5,7,8,9,10,11] [6,12,13,14] [15,16]) (fn:=Tryz.f141) (rs:=[.tmp 8]) Tryz.func141 rfl rfl (by kernel_rfl) (nB rfl) (Eq.mp (by kernel_rfl) h)
end Go.Proofs
namespace Go.Proofs
abbrev tabName:String:=(YtlmhhgemiknhdaaGreatDoor.Rows.proofTellsRow.laid.map (fun x=>x.1)).getD 2 default
open Go.Shelf
def Tryz.lays169_ren:Go.Shelf.Ren:=⟨fun | 169=>206 | n=>n,fun | 70=>211 | 9=>9 | 0=>0 | 72=>213 | 37=>202 | 127=>234 | 3=>3 | 5=>5 | n=>n,fun | n=>n⟩
theorem Tryz.lays169:Go.Proofs.Lays.n169 Tryz.prog Tryz.lays169_ren:={
 mixed:=by kernel_rfl
 f169:=Tryz.func206.trans (congrArg some (by kernel_rfl))
 t0:=Tryz.underlying0
 a0:=Tryz.isAgg0
 z0:=Tryz.sizeOf0
 v0:=Tryz.zeroValue0
 t3:=Tryz.underlying3
 a3:=Tryz.isAgg3
 z3:=Tryz.sizeOf3
 v3:=Tryz.zeroValue3
 t9:=Tryz.underlying9
 a9:=Tryz.isAgg9
 z9:=Tryz.sizeOf9
 v9:=Tryz.zeroValue9
 t37:=Tryz.underlying202
 a37:=Tryz.isAgg202
 z37:=Tryz.sizeOf202
 v37:=Tryz.zeroValue202
 t70:=Tryz.underlying211
 a70:=Tryz.isAgg211
 z70:=Tryz.sizeOf211
 v70:=Tryz.zeroValue211
 t72:=Tryz.underlying213
 a72:=Tryz.isAgg213
 z72:=Tryz.sizeOf213
 v72:=Tryz.zeroValue213
 t127:=Tryz.underlying234
 a127:=Tryz.isAgg234
 z127:=Tryz.sizeOf234
 v127:=Tryz.zeroValue234 }
theorem Tryz.Builder_Extra_169:Builder.Extra Tryz.prog Tryz.lays169_ren:={
 sizeBuilder:=by kernel_rfl
 liesBuilder:=by kernel_rfl
 t5:=Tryz.underlying5
 a5:=Tryz.isAgg5
 z5:=Tryz.sizeOf5
 v5:=Tryz.zeroValue5
 infoByte:=by kernel_rfl
 cellsByte:=by kernel_rfl
 sizeByte:=by kernel_rfl
 neB5:=by decide }
open Go.RowKit in
theorem Tryz.Builder_String_any (B b:Nat) (l:List UInt8) (w:World) (h:Lib.IsBuilder 213 5 B b (Lib.byteCells l) w) (hBw:B ≤ w.heap.size) :
  Calls Tryz.prog 206 #[.pointer (some ⟨b,0,none⟩)] w fun e w'=>e = .returned (.string ⟨l.toArray⟩) ∧ Below B w w':=Any.Builder_String_any Tryz.lays169 Tryz.Builder_Extra_169 B b l w h hBw
def Tryz.lays137_ren:Go.Shelf.Ren:=⟨fun | 137=>223 | 217=>237 | 266=>245 | n=>n,fun | 9=>9 | 5=>5 | 3=>3 | n=>n,fun | n=>n⟩
theorem Tryz.lays137:Go.Proofs.Lays.n137 Tryz.prog Tryz.lays137_ren:={
 mixed:=by kernel_rfl
 f137:=Tryz.func223.trans (congrArg some (by kernel_rfl))
 f217:=Tryz.func237.trans (congrArg some (by kernel_rfl))
 f266:=Tryz.func245.trans (congrArg some (by kernel_rfl))
 t3:=Tryz.underlying3
 a3:=Tryz.isAgg3
 z3:=Tryz.sizeOf3
 v3:=Tryz.zeroValue3
 t5:=Tryz.underlying5
 a5:=Tryz.isAgg5
 z5:=Tryz.sizeOf5
 v5:=Tryz.zeroValue5
 t9:=Tryz.underlying9
 a9:=Tryz.isAgg9
 z9:=Tryz.sizeOf9
 v9:=Tryz.zeroValue9 }
open Go.RowKit in
theorem Tryz.strings_IndexByte (s:ByteArray) (c:Int) (w:World) :
  Calls Tryz.prog 223 #[.string s,.int .u8 c] w fun e w'=>e = .returned (.int .i64 (Lib.indexByte s.data.toList c.toNat.toUInt8)) ∧ w' = w:=Any.strings_IndexByte Tryz.lays137 s c w
def Tryz.lays103_ren:Go.Shelf.Ren:=⟨fun | 103=>226 | 210=>240 | 206=>251 | n=>n,fun | 9=>9 | 4=>4 | 24=>81 | 3=>3 | n=>n,fun | n=>n⟩
theorem Tryz.lays103:Go.Proofs.Lays.n103 Tryz.prog Tryz.lays103_ren:={
 mixed:=by kernel_rfl
 f103:=Tryz.func226.trans (congrArg some (by kernel_rfl))
 f206:=Tryz.func251.trans (congrArg some (by kernel_rfl))
 f210:=Tryz.func240.trans (congrArg some (by kernel_rfl))
 t3:=Tryz.underlying3
 a3:=Tryz.isAgg3
 z3:=Tryz.sizeOf3
 v3:=Tryz.zeroValue3
 t4:=Tryz.underlying4
 a4:=Tryz.isAgg4
 z4:=Tryz.sizeOf4
 v4:=Tryz.zeroValue4
 t9:=Tryz.underlying9
 a9:=Tryz.isAgg9
 z9:=Tryz.sizeOf9
 v9:=Tryz.zeroValue9
 t24:=Tryz.underlying81
 a24:=Tryz.isAgg81
 z24:=Tryz.sizeOf81
 v24:=Tryz.zeroValue81 }
open Go.RowKit in
theorem Tryz.strings_CutPrefix (s p:ByteArray) (w:World) :
  Calls Tryz.prog 226 #[.string s,.string p] w fun e w'=>e = .returned (.tuple #[.string ⟨(Lib.trimPrefix s.data.toList p.data.toList).toArray⟩,.bool (Lib.hasPrefix s.data.toList p.data.toList)]) ∧ w' = w:=Any.strings_CutPrefix Tryz.lays103 s p w
def Tryz.laysM171_ren:Go.Shelf.Ren:=⟨fun | 171=>196 | 243=>215 | 246=>231 | 283=>241 | 284=>242 | 285=>243 | 286=>244 | 129=>236 | 317=>252 | 318=>253 | 319=>254 | 320=>255 | 337=>259 | 338=>220 | n=>n,fun | 3=>3 | 9=>9 | 2=>2 | 4=>4 | 171=>248 | 0=>0 | 53=>150 | 37=>202 | 5=>5 | 173=>250 | 212=>261 | 51=>223 | 20=>20 | 213=>262 | 46=>191 | 232=>275 | 233=>244 | n=>n,fun | 17=>3 | 18=>7 | 19=>2 | n=>n⟩
theorem Tryz.laysM171:Go.Proofs.LaysM.n171 Tryz.prog Tryz.laysM171_ren:={
 mixed:=by kernel_rfl
 f129:=Tryz.func236.trans (congrArg some (by kernel_rfl))
 f171:=Tryz.func196.trans (congrArg some (by kernel_rfl))
 f243:=Tryz.func215.trans (congrArg some (by kernel_rfl))
 f246:=Tryz.func231.trans (congrArg some (by kernel_rfl))
 f283:=Tryz.func241.trans (congrArg some (by kernel_rfl))
 f284:=Tryz.func242.trans (congrArg some (by kernel_rfl))
 f285:=Tryz.func243.trans (congrArg some (by kernel_rfl))
 f286:=Tryz.func244.trans (congrArg some (by kernel_rfl))
 f317:=Tryz.func252.trans (congrArg some (by kernel_rfl))
 f318:=Tryz.func253.trans (congrArg some (by kernel_rfl))
 f319:=Tryz.func254.trans (congrArg some (by kernel_rfl))
 f320:=Tryz.func255.trans (congrArg some (by kernel_rfl))
 f337:=Tryz.func259.trans (congrArg some (by kernel_rfl))
 f338:=Tryz.func220.trans (congrArg some (by kernel_rfl))
 t0:=Tryz.underlying0
 a0:=Tryz.isAgg0
 z0:=Tryz.sizeOf0
 v0:=Tryz.zeroValue0
 t2:=Tryz.underlying2
 a2:=Tryz.isAgg2
 z2:=Tryz.sizeOf2
 v2:=Tryz.zeroValue2
 t3:=Tryz.underlying3
 a3:=Tryz.isAgg3
 z3:=Tryz.sizeOf3
 v3:=Tryz.zeroValue3
 t4:=Tryz.underlying4
 a4:=Tryz.isAgg4
 z4:=Tryz.sizeOf4
 v4:=Tryz.zeroValue4
 t5:=Tryz.underlying5
 a5:=Tryz.isAgg5
 z5:=Tryz.sizeOf5
 v5:=Tryz.zeroValue5
 t9:=Tryz.underlying9
 a9:=Tryz.isAgg9
 z9:=Tryz.sizeOf9
 v9:=Tryz.zeroValue9
 t20:=Tryz.underlying20
 a20:=Tryz.isAgg20
 z20:=Tryz.sizeOf20
 v20:=Tryz.zeroValue20
 t37:=Tryz.underlying202
 a37:=Tryz.isAgg202
 z37:=Tryz.sizeOf202
 v37:=Tryz.zeroValue202
 t46:=Tryz.underlying191
 a46:=Tryz.isAgg191
 z46:=Tryz.sizeOf191
 v46:=Tryz.zeroValue191
 t51:=Tryz.underlying223
 a51:=Tryz.isAgg223
 z51:=Tryz.sizeOf223
 v51:=Tryz.zeroValue223
 t53:=Tryz.underlying150
 a53:=Tryz.isAgg150
 z53:=Tryz.sizeOf150
 v53:=Tryz.zeroValue150
 t171:=Tryz.underlying248
 a171:=Tryz.isAgg248
 z171:=Tryz.sizeOf248
 v171:=Tryz.zeroValue248
 t173:=Tryz.underlying250
 a173:=Tryz.isAgg250
 z173:=Tryz.sizeOf250
 v173:=Tryz.zeroValue250
 t212:=Tryz.underlying261
 a212:=Tryz.isAgg261
 z212:=Tryz.sizeOf261
 v212:=Tryz.zeroValue261
 t213:=Tryz.underlying262
 a213:=Tryz.isAgg262
 z213:=Tryz.sizeOf262
 t232:=Tryz.underlying275
 a232:=Tryz.isAgg275
 z232:=Tryz.sizeOf275
 v232:=Tryz.zeroValue275
 t233:=Tryz.underlying244
 a233:=Tryz.isAgg244
 z233:=Tryz.sizeOf244
 v233:=Tryz.zeroValue244
 g17:=by kernel_rfl
 g18:=by kernel_rfl
 g19:=by kernel_rfl
 i0:=by kernel_rfl
 i2:=by kernel_rfl
 i3:=by kernel_rfl
 i4:=by kernel_rfl
 i5:=by kernel_rfl
 i9:=by kernel_rfl
 i20:=by kernel_rfl
 i37:=by kernel_rfl
 i46:=by kernel_rfl
 i51:=by kernel_rfl
 i53:=by kernel_rfl
 i171:=by kernel_rfl
 i173:=by kernel_rfl
 i212:=by kernel_rfl
 i232:=by kernel_rfl
 i233:=by kernel_rfl
 m17:=by kernel_rfl
 m18:=by kernel_rfl
 m19:=by kernel_rfl }
open Go.RowKit Go.Sort Go.Lib in
theorem Tryz.strconv_Itoa (n:Int) (h0:-9223372036854775808 ≤ n) (h1:n ≤ 9223372036854775807) (w:World) (htab:Lib.TabIs Tryz.prog w tabName .u64 Lib.pow10Tab) :
  Calls Tryz.prog 196 #[.int .i64 n] w fun e w'=>e = .returned (.string ⟨(Lib.itoa n).toArray⟩) ∧ ∃ k os,w' = grow (w.drewN k) os:=Any.strconv_Itoa Tryz.laysM171 n h0 h1 w htab
def Tryz.laysC172_ren:Go.Shelf.Ren:=⟨fun | 172=>225 | 244=>238 | 245=>239 | 247=>246 | 279=>247 | 280=>248 | 281=>249 | 282=>250 | 287=>256 | 316=>257 | 171=>196 | 205=>258 | 321=>260 | 322=>261 | 243=>215 | 246=>231 | 283=>241 | 284=>242 | 285=>243 | 286=>244 | 129=>236 | 317=>252 | 318=>253 | 319=>254 | 320=>255 | 337=>259 | 338=>220 | n=>n,fun | 9=>9 | 3=>3 | 75=>215 | 76=>216 | 4=>4 | 5=>5 | 167=>252 | 37=>202 | 0=>0 | 85=>253 | 2=>2 | 168=>255 | 53=>150 | 175=>264 | 46=>191 | 210=>267 | 127=>234 | 145=>274 | 143=>272 | 21=>21 | 171=>248 | 173=>250 | 212=>261 | 51=>223 | 20=>20 | 213=>262 | 232=>275 | 233=>244 | 80=>218 | n=>n,fun | 15=>5 | 16=>6 | 17=>3 | 18=>7 | 19=>2 | n=>n⟩
theorem Tryz.laysC172:Go.Proofs.LaysC.n172 Tryz.prog Tryz.laysC172_ren:={
 mixed:=by kernel_rfl
 f129:=Tryz.func236.trans (congrArg some (by kernel_rfl))
 f171:=Tryz.func196.trans (congrArg some (by kernel_rfl))
 f172:=Tryz.func225.trans (congrArg some (by kernel_rfl))
 f205:=Tryz.func258.trans (congrArg some (by kernel_rfl))
 f243:=Tryz.func215.trans (congrArg some (by kernel_rfl))
 f244:=Tryz.func238.trans (congrArg some (by kernel_rfl))
 f245:=Tryz.func239.trans (congrArg some (by kernel_rfl))
 f246:=Tryz.func231.trans (congrArg some (by kernel_rfl))
 f247:=Tryz.func246.trans (congrArg some (by kernel_rfl))
 f279:=Tryz.func247.trans (congrArg some (by kernel_rfl))
 f280:=Tryz.func248.trans (congrArg some (by kernel_rfl))
 f281:=Tryz.func249.trans (congrArg some (by kernel_rfl))
 f282:=Tryz.func250.trans (congrArg some (by kernel_rfl))
 f283:=Tryz.func241.trans (congrArg some (by kernel_rfl))
 f284:=Tryz.func242.trans (congrArg some (by kernel_rfl))
 f285:=Tryz.func243.trans (congrArg some (by kernel_rfl))
 f286:=Tryz.func244.trans (congrArg some (by kernel_rfl))
 f287:=Tryz.func256.trans (congrArg some (by kernel_rfl))
 f316:=Tryz.func257.trans (congrArg some (by kernel_rfl))
 f317:=Tryz.func252.trans (congrArg some (by kernel_rfl))
 f318:=Tryz.func253.trans (congrArg some (by kernel_rfl))
 f319:=Tryz.func254.trans (congrArg some (by kernel_rfl))
 f320:=Tryz.func255.trans (congrArg some (by kernel_rfl))
 f321:=Tryz.func260.trans (congrArg some (by kernel_rfl))
 f322:=Tryz.func261.trans (congrArg some (by kernel_rfl))
 f337:=Tryz.func259.trans (congrArg some (by kernel_rfl))
 f338:=Tryz.func220.trans (congrArg some (by kernel_rfl))
 t0:=Tryz.underlying0
 a0:=Tryz.isAgg0
 z0:=Tryz.sizeOf0
 v0:=Tryz.zeroValue0
 t2:=Tryz.underlying2
 a2:=Tryz.isAgg2
 z2:=Tryz.sizeOf2
 v2:=Tryz.zeroValue2
 t3:=Tryz.underlying3
 a3:=Tryz.isAgg3
 z3:=Tryz.sizeOf3
 v3:=Tryz.zeroValue3
 t4:=Tryz.underlying4
 a4:=Tryz.isAgg4
 z4:=Tryz.sizeOf4
 v4:=Tryz.zeroValue4
 t5:=Tryz.underlying5
 a5:=Tryz.isAgg5
 z5:=Tryz.sizeOf5
 v5:=Tryz.zeroValue5
 t9:=Tryz.underlying9
 a9:=Tryz.isAgg9
 z9:=Tryz.sizeOf9
 v9:=Tryz.zeroValue9
 t20:=Tryz.underlying20
 a20:=Tryz.isAgg20
 z20:=Tryz.sizeOf20
 v20:=Tryz.zeroValue20
 t21:=Tryz.underlying21
 a21:=Tryz.isAgg21
 z21:=Tryz.sizeOf21
 v21:=Tryz.zeroValue21
 t37:=Tryz.underlying202
 a37:=Tryz.isAgg202
 z37:=Tryz.sizeOf202
 v37:=Tryz.zeroValue202
 t46:=Tryz.underlying191
 a46:=Tryz.isAgg191
 z46:=Tryz.sizeOf191
 v46:=Tryz.zeroValue191
 t51:=Tryz.underlying223
 a51:=Tryz.isAgg223
 z51:=Tryz.sizeOf223
 v51:=Tryz.zeroValue223
 t53:=Tryz.underlying150
 a53:=Tryz.isAgg150
 z53:=Tryz.sizeOf150
 v53:=Tryz.zeroValue150
 t75:=Tryz.underlying215
 a75:=Tryz.isAgg215
 z75:=Tryz.sizeOf215
 v75:=Tryz.zeroValue215
 t76:=Tryz.underlying216
 a76:=Tryz.isAgg216
 z76:=Tryz.sizeOf216
 v76:=Tryz.zeroValue216
 t85:=Tryz.underlying253
 a85:=Tryz.isAgg253
 z85:=Tryz.sizeOf253
 v85:=Tryz.zeroValue253
 t127:=Tryz.underlying234
 a127:=Tryz.isAgg234
 z127:=Tryz.sizeOf234
 v127:=Tryz.zeroValue234
 t143:=Tryz.underlying272
 a143:=Tryz.isAgg272
 z143:=Tryz.sizeOf272
 v143:=Tryz.zeroValue272
 t145:=Tryz.underlying274
 a145:=Tryz.isAgg274
 z145:=Tryz.sizeOf274
 v145:=Tryz.zeroValue274
 t167:=Tryz.underlying252
 a167:=Tryz.isAgg252
 z167:=Tryz.sizeOf252
 v167:=Tryz.zeroValue252
 t168:=Tryz.underlying255
 a168:=Tryz.isAgg255
 z168:=Tryz.sizeOf255
 v168:=Tryz.zeroValue255
 t171:=Tryz.underlying248
 a171:=Tryz.isAgg248
 z171:=Tryz.sizeOf248
 v171:=Tryz.zeroValue248
 t173:=Tryz.underlying250
 a173:=Tryz.isAgg250
 z173:=Tryz.sizeOf250
 v173:=Tryz.zeroValue250
 t175:=Tryz.underlying264
 a175:=Tryz.isAgg264
 z175:=Tryz.sizeOf264
 v175:=Tryz.zeroValue264
 t210:=Tryz.underlying267
 a210:=Tryz.isAgg267
 z210:=Tryz.sizeOf267
 v210:=Tryz.zeroValue267
 t212:=Tryz.underlying261
 a212:=Tryz.isAgg261
 z212:=Tryz.sizeOf261
 v212:=Tryz.zeroValue261
 t213:=Tryz.underlying262
 a213:=Tryz.isAgg262
 z213:=Tryz.sizeOf262
 t232:=Tryz.underlying275
 a232:=Tryz.isAgg275
 z232:=Tryz.sizeOf275
 v232:=Tryz.zeroValue275
 t233:=Tryz.underlying244
 a233:=Tryz.isAgg244
 z233:=Tryz.sizeOf244
 v233:=Tryz.zeroValue244
 g15:=by kernel_rfl
 g16:=by kernel_rfl
 g17:=by kernel_rfl
 g18:=by kernel_rfl
 g19:=by kernel_rfl
 t80:=Tryz.underlying218
 a80:=Tryz.isAgg218
 z80:=Tryz.sizeOf218
 v80:=Tryz.zeroValue218
 i0:=by kernel_rfl
 i2:=by kernel_rfl
 i3:=by kernel_rfl
 i4:=by kernel_rfl
 i5:=by kernel_rfl
 i9:=by kernel_rfl
 i20:=by kernel_rfl
 i21:=by kernel_rfl
 i37:=by kernel_rfl
 i46:=by kernel_rfl
 i51:=by kernel_rfl
 i53:=by kernel_rfl
 i75:=by kernel_rfl
 i76:=by kernel_rfl
 i80:=by kernel_rfl
 i85:=by kernel_rfl
 i127:=by kernel_rfl
 i143:=by kernel_rfl
 i145:=by kernel_rfl
 i167:=by kernel_rfl
 i168:=by kernel_rfl
 i171:=by kernel_rfl
 i173:=by kernel_rfl
 i175:=by kernel_rfl
 i210:=by kernel_rfl
 i212:=by kernel_rfl
 i232:=by kernel_rfl
 i233:=by kernel_rfl
 m15:=by kernel_rfl
 m16:=by kernel_rfl
 m17:=by kernel_rfl
 m18:=by kernel_rfl
 m19:=by kernel_rfl
 c0:=by kernel_rfl
 c2:=by kernel_rfl
 c3:=by kernel_rfl
 c4:=by kernel_rfl
 c5:=by kernel_rfl
 c9:=by kernel_rfl
 c20:=by kernel_rfl
 c21:=by kernel_rfl
 c37:=by kernel_rfl
 c46:=by kernel_rfl
 c51:=by kernel_rfl
 c53:=by kernel_rfl
 c75:=by kernel_rfl
 c76:=by kernel_rfl
 c80:=by kernel_rfl
 c85:=by kernel_rfl
 c127:=by kernel_rfl
 c143:=by kernel_rfl
 c145:=by kernel_rfl
 c167:=by kernel_rfl
 c168:=by kernel_rfl
 c171:=by kernel_rfl
 c173:=by kernel_rfl
 c175:=by kernel_rfl
 c210:=by kernel_rfl
 c212:=by kernel_rfl
 c213:=by kernel_rfl
 c232:=by kernel_rfl
 c233:=by kernel_rfl }
open Go.RowKit in
theorem Tryz.strconv_Atoi_ok (s:ByteArray) (hmax:s.size ≤ 9223372036854775806) (v:Int) (h:Lib.atoiAll s.data.toList = .ok v) (w:World) :
  Calls Tryz.prog 225 #[.string s] w fun e w'=>e = .returned (.tuple #[.int .i64 v,.nilIface]) ∧ (w' = w ∨ ∃ t,w' = Lib.bytesWorld w 5 t):=Any.strconv_Atoi_ok Tryz.laysC172 s hmax v h w
open Go.RowKit in
theorem Tryz.strconv_Atoi_syntax (s:ByteArray) (hlim:s.size ≤ 281474976710656) (h:Lib.atoiAll s.data.toList = .«syntax») (ev:Value) (w:World) (hv:w.cell? ⟨5,0,none⟩ = some ev) (hev:ev = .nilIface ∨ ∃ te pe,ev = .iface te pe) :
  Calls Tryz.prog 225 #[.string s] w fun e w'=>∃ N,e = .returned (.tuple #[.int .i64 (0),.iface 255 (.pointer (some ⟨N,0,none⟩))]) ∧ w.heap.size ≤ N ∧ w'.heap[N]? = some (.cells #[.string ⟨#[65,116,111,105]⟩,.string s,ev] 267 (0,0)) ∧ Below w.heap.size w w':=Any.strconv_Atoi_syntax Tryz.laysC172 s hlim h ev w hv hev
open Go.RowKit in
theorem Tryz.strconv_Atoi_range (s:ByteArray) (hlim:s.size ≤ 281474976710656) (h:Lib.atoiAll s.data.toList = .range) (ev:Value) (w:World) (hv:w.cell? ⟨6,0,none⟩ = some ev) (hev:ev = .nilIface ∨ ∃ te pe,ev = .iface te pe) :
  Calls Tryz.prog 225 #[.string s] w fun e w'=>∃ N,e = .returned (.tuple #[.int .i64 (Lib.atoiSat s.data.toList),.iface 255 (.pointer (some ⟨N,0,none⟩))]) ∧ w.heap.size ≤ N ∧ w'.heap[N]? = some (.cells #[.string ⟨#[65,116,111,105]⟩,.string s,ev] 267 (0,0)) ∧ Below w.heap.size w w':=Any.strconv_Atoi_range Tryz.laysC172 s hlim h ev w hv hev
end Go.Proofs
namespace CodeSpec
open Go.Lib
abbrev Bytes:=List UInt8
def InR (n:Int):Prop:=-9223372036854775808 ≤ n ∧ n ≤ 9223372036854775807
def encInt (n:Int):Bytes:=itoa n ++ [59]
def encText (s:Bytes):Bytes:=itoa s.length ++ 58 :: (s ++ [44])
def encList (l:List Bytes):Bytes:=itoa l.length ++ 91 :: (l.flatten ++ [93])
def encNums (l:List Int):Bytes:=encList (l.map encInt)
def canon (l:Bytes):Option Int:=match atoiAll l with
 | .ok v=>if itoa v = l then some v else none
 | _=>none
structure Rd where
 rest:Bytes
 bad:Bool
def failed:Rd:=⟨[],true⟩
def rdNumber (r:Rd) (e:UInt8) (least:Int):Int × Rd:=
 if ((r.rest.take 21).takeWhile (· != e)).length < (r.rest.take 21).length then
  match canon ((r.rest.take 21).takeWhile (· != e)) with
  | some n=>if n < least then (0,failed) else (n,⟨r.rest.drop (((r.rest.take 21).takeWhile (· != e)).length + 1),r.bad⟩)
  | none=>(0,failed)
 else (0,failed)
def rdClose (r:Rd) (c:UInt8):Rd:=match r.rest with
 | []=>failed
 | x :: t=>if x = c then ⟨t,r.bad⟩ else failed
def rdInt (r:Rd):Int × Rd:=rdNumber r 59 (-9223372036854775808)
def itemsGo {α:Type} (one:Rd → α × Rd):Nat → Rd → List α × Rd
 | 0,r=>([],r)
 | n + 1,r=>if r.bad then ([],r) else ((one r).1 :: (itemsGo one n (one r).2).1,(itemsGo one n (one r).2).2)
def rdItems {α:Type} (one:Rd → α × Rd) (r:Rd):List α × Rd:=
 if (rdClose (itemsGo one (rdNumber r 91 0).1.toNat (rdNumber r 91 0).2).2 93).bad then ([],rdClose (itemsGo one (rdNumber r 91 0).1.toNat (rdNumber r 91 0).2).2 93)
 else ((itemsGo one (rdNumber r 91 0).1.toNat (rdNumber r 91 0).2).1,rdClose (itemsGo one (rdNumber r 91 0).1.toNat (rdNumber r 91 0).2).2 93)
def rdNums:Rd → List Int × Rd:=rdItems rdInt
theorem digit_toNat (d:Nat) (h:d < 10):(UInt8.ofNat (48 + d)).toNat = 48 + d:=by
 rw [UInt8.toNat_ofNat']; omega
theorem decDigits_digit (u:Nat):∀ c ∈ decDigits u,48 ≤ c.toNat ∧ c.toNat ≤ 57:=by
 induction u using Nat.strongRecOn with
 | ind u ih=>
  rw [decDigits]
  split
  ·rename_i h
   intro c hc
   simp only [List.mem_singleton] at hc
   subst hc
   rw [digit_toNat u h]; omega
  ·rename_i h
   intro c hc
   rcases List.mem_append.1 hc with hc | hc
   ·exact ih (u / 10) (by omega) c hc
   ·simp only [List.mem_singleton] at hc
    subst hc
    rw [digit_toNat _ (by omega)]; omega
theorem decDigits_ne (u:Nat):decDigits u ≠ []:=by
 rw [decDigits]
 split <;> simp
theorem decDigits_len (u:Nat) (k:Nat) (hk:1 ≤ k) (h:u < 10 ^ k):(decDigits u).length ≤ k:=by
 induction k generalizing u with
 | zero=>omega
 | succ k ih=>
  rw [decDigits]
  split
  ·simp
  ·rename_i h10
   have hk1:1 ≤ k:=by
    rcases Nat.eq_zero_or_pos k with rfl | h0
    ·simp at h; omega
    ·exact h0
   have:=ih (u / 10) hk1 (by rw [Nat.pow_succ] at h; omega)
   simp only [List.length_append,List.length_singleton]
   omega
theorem parse_append (l m:Bytes) (acc:Nat):parseUint10 acc (l ++ m) = match parseUint10 acc l with | .ok u=>parseUint10 u m | .range=>.range | .syntax=>.syntax:=by
 induction l generalizing acc with
 | nil=>rfl
 | cons c l ih=>
  simp only [List.cons_append,parseUint10]
  by_cases h1:48 ≤ c.toNat ∧ c.toNat ≤ 57
  ·by_cases h2:1844674407370955162 ≤ acc
   ·simp only [if_pos h1,if_pos h2]
   ·by_cases h3:18446744073709551616 ≤ acc * 10 + (c.toNat - 48)
    ·simp only [if_pos h1,if_neg h2,if_pos h3]
    ·simp only [if_pos h1,if_neg h2,if_neg h3]
     exact ih _
  ·simp only [if_neg h1]
theorem parse_dec (u:Nat) (h:u < 18446744073709551616):parseUint10 0 (decDigits u) = .ok u:=by
 induction u using Nat.strongRecOn with
 | ind u ih=>
  rw [decDigits]
  split
  ·rename_i h10
   simp only [parseUint10,digit_toNat u h10]
   rw [if_pos (by omega),if_neg (by omega),if_neg (by omega)]
   congr 1; omega
  ·rename_i h10
   rw [parse_append,ih (u / 10) (by omega) (by omega)]
   simp only [parseUint10,digit_toNat (u % 10) (by omega)]
   rw [if_pos (by omega),if_neg (by omega),if_neg (by omega)]
   congr 1; omega
theorem atoi_itoa (n:Int) (h:InR n):atoiAll (itoa n) = .ok n:=by
 obtain ⟨h1,h2⟩:=h
 unfold itoa
 split
 ·rename_i hn
  rw [atoiAll_minus]
  have hp:parseMag (decDigits n.natAbs) = .ok n.natAbs:=by
   unfold parseMag
   rw [if_neg (decDigits_ne _),parse_dec _ (by omega)]
  rw [hp]
  simp only [signed]
  rw [if_neg (by omega)]
  congr 1; omega
 ·rename_i hn
  obtain ⟨c,r,hc⟩:∃ c r,decDigits n.toNat = c :: r:=by
   cases hd:decDigits n.toNat with
   | nil=>exact absurd hd (decDigits_ne _)
   | cons c r=>exact ⟨c,r,rfl⟩
  have hcd:=decDigits_digit n.toNat c (by rw [hc]; simp)
  rw [hc,atoiAll_plain c r (by omega) (by omega),← hc]
  have hp:parseMag (decDigits n.toNat) = .ok n.toNat:=by
   unfold parseMag
   rw [if_neg (decDigits_ne _),parse_dec _ (by omega)]
  rw [hp]
  simp only [signless]
  rw [if_neg (by omega)]
  congr 1; omega
theorem canon_itoa (n:Int) (h:InR n):canon (itoa n) = some n:=by
 unfold canon
 rw [atoi_itoa n h]
 simp
theorem canon_some (l:Bytes) (n:Int) (h:canon l = some n):l = itoa n ∧ InR n:=by
 unfold canon at h
 split at h
 ·rename_i v hv
  split at h
  ·rename_i he
   cases h
   exact ⟨he.symm,atoiAll_bounds hv⟩
  ·cases h
 ·cases h
theorem itoa_len (n:Int) (h:InR n):(itoa n).length ≤ 20:=by
 obtain ⟨h1,h2⟩:=h
 unfold itoa
 split
 ·have:=decDigits_len n.natAbs 19 (by omega) (by omega)
  simp; omega
 ·have:=decDigits_len n.toNat 19 (by omega) (by omega)
  omega
theorem itoa_byte (n:Int):∀ c ∈ itoa n,c.toNat = 45 ∨ (48 ≤ c.toNat ∧ c.toNat ≤ 57):=by
 intro c hc
 unfold itoa at hc
 split at hc
 ·rcases List.mem_cons.1 hc with rfl | hc
  ·left; rfl
  ·right; exact decDigits_digit _ c hc
 ·right; exact decDigits_digit _ c hc
theorem takeWhile_num (n:Int) (hn:InR n) (e:UInt8) (he:58 ≤ e.toNat) (t:Bytes):((itoa n ++ e :: t).take 21).takeWhile (· != e) = itoa n ∧ (itoa n).length < ((itoa n ++ e :: t).take 21).length:=by
 have hl:=itoa_len n hn
 have h1:(itoa n ++ e :: t).take 21 = itoa n ++ (e :: t).take (21 - (itoa n).length):=by
  rw [List.take_append,List.take_of_length_le (by omega)]
 obtain ⟨k,hk⟩:∃ k,21 - (itoa n).length = k + 1:=⟨20 - (itoa n).length,by omega⟩
 rw [hk,List.take_succ_cons] at h1
 rw [h1]
 refine ⟨?_,by simp⟩
 rw [List.takeWhile_append_of_pos]
 ·simp
 ·intro c hc
  have:=itoa_byte n c hc
  simp only [bne_iff_ne,ne_eq]
  rintro rfl
  omega
theorem rdNumber_enc (n:Int) (hn:InR n) (e:UInt8) (he:58 ≤ e.toNat) (least:Int) (hl:least ≤ n) (t:Bytes) (b:Bool):rdNumber ⟨itoa n ++ e :: t,b⟩ e least = (n,⟨t,b⟩):=by
 obtain ⟨h1,h2⟩:=takeWhile_num n hn e he t
 unfold rdNumber
 simp only [h1]
 rw [if_pos h2,canon_itoa n hn]
 simp only
 rw [if_neg (by omega)]
 have:(itoa n ++ e :: t).drop ((itoa n).length + 1) = t:=by
  rw [← List.drop_drop,List.drop_left]; rfl
 rw [this]
theorem rdNumber_some (r:Rd) (e:UInt8) (least:Int):rdNumber r e least = (0,failed) ∨ ∃ n t,rdNumber r e least = (n,⟨t,r.bad⟩) ∧ r.rest = itoa n ++ e :: t ∧ InR n ∧ least ≤ n:=by
 unfold rdNumber
 split
 ·rename_i hlt
  split
  ·rename_i n hc
   split
   ·exact .inl rfl
   ·rename_i hle
    obtain ⟨h1,h2⟩:=canon_some _ _ hc
    refine .inr ⟨n,_,rfl,?_,h2,by omega⟩
    generalize hp:(r.rest.take 21).takeWhile (· != e) = p at *
    have hpre:r.rest.take 21 = p ++ (r.rest.take 21).drop p.length:=by
     have:=List.takeWhile_append_dropWhile (p:=(· != e)) (l:=r.rest.take 21)
     rw [hp] at this
     conv=>lhs; rw [← this]
     congr 1
     conv=>rhs; rw [← this]
     rw [List.drop_left]
    have hdw:(r.rest.take 21).dropWhile (· != e) = (r.rest.take 21).drop p.length:=by
     have:=List.takeWhile_append_dropWhile (p:=(· != e)) (l:=r.rest.take 21)
     rw [hp] at this
     conv=>rhs; rw [← this]
     rw [List.drop_left]
    have hpl:p.length < r.rest.length:=by
     have:=List.length_take_le 21 r.rest
     rw [List.length_take] at hlt
     omega
    have hhead:∃ t',(r.rest.take 21).drop p.length = e :: t':=by
     cases hd:(r.rest.take 21).drop p.length with
     | nil=>rw [List.drop_eq_nil_iff] at hd; omega
     | cons x t'=>
      rw [hd] at hdw
      have:=List.head_dropWhile_not (· != e) (l:=r.rest.take 21) (by rw [hdw]; simp)
      simp only [hdw,List.head_cons] at this
      have hx:x = e:=by simpa using this
      exact ⟨t',by rw [hx]⟩
    obtain ⟨t',ht'⟩:=hhead
    have hget:r.rest[p.length]? = some e:=by
     have h3:(r.rest.take 21)[p.length]? = some e:=by
      have:=congrArg (fun l=>l[0]?) ht'
      simpa using this
     rw [List.getElem?_take] at h3
     split at h3
     ·exact h3
     ·cases h3
    have htk:r.rest.take p.length = p:=by
     have h4:=congrArg (List.take p.length) hpre
     rw [List.take_left,List.take_take,Nat.min_eq_left (by rw [List.length_take] at hlt; omega)] at h4
     exact h4
    have hsplit:r.rest = r.rest.take p.length ++ r.rest.drop p.length:=(List.take_append_drop _ _).symm
    have hdrop:r.rest.drop p.length = e :: r.rest.drop (p.length + 1):=by
     rw [List.drop_eq_getElem_cons hpl]
     congr 1
     rw [List.getElem?_eq_getElem hpl] at hget
     simpa using hget
    rw [htk,hdrop] at hsplit
    rw [← h1]
    exact hsplit
  ·exact .inl rfl
 ·exact .inl rfl
theorem failed_bad:failed.bad = true:=rfl
def Rd.ok (r:Rd):Prop:=r.bad = true → r.rest = []
theorem Rd.ok_failed:failed.ok:=fun _=>rfl
theorem Rd.ok_good {t:Bytes}:Rd.ok ⟨t,false⟩:=fun h=>by cases h
theorem Rd.eq_failed {r:Rd} (h:r.ok) (hb:r.bad = true):r = failed:=by
 cases r with
 | mk rest bad=>
  have:=h hb
  simp only at hb this
  subst hb; subst this; rfl
theorem rdNumber_ok (r:Rd) (h:r.ok) (e:UInt8) (least:Int):(rdNumber r e least).2.ok:=by
 rcases rdNumber_some r e least with h1 | ⟨n,t,h1,h2,_⟩
 ·rw [h1]; exact Rd.ok_failed
 ·rw [h1]
  intro hb
  have:=h hb
  rw [this] at h2
  simp at h2
theorem rdClose_some (r:Rd) (c:UInt8):rdClose r c = failed ∨ ∃ t,r.rest = c :: t ∧ rdClose r c = ⟨t,r.bad⟩:=by
 unfold rdClose
 split
 ·exact .inl rfl
 ·rename_i x t hx
  split
  ·rename_i hc
   subst hc
   exact .inr ⟨t,hx,rfl⟩
  ·exact .inl rfl
theorem rdClose_cons (c:UInt8) (t:Bytes) (b:Bool):rdClose ⟨c :: t,b⟩ c = ⟨t,b⟩:=by simp [rdClose]
theorem rdClose_failed (c:UInt8):rdClose failed c = failed:=rfl
theorem rdInt_some (r:Rd) (hr:r.ok):rdInt r = (0,failed) ∨ ∃ n t,rdInt r = (n,⟨t,false⟩) ∧ r = ⟨encInt n ++ t,false⟩ ∧ InR n:=by
 rcases rdNumber_some r 59 (-9223372036854775808) with h1 | ⟨n,t,h1,h2,h3,h4⟩
 ·exact .inl h1
 ·rcases hb:r.bad with _ | _
  ·right
   rw [hb] at h1
   obtain ⟨rest,bad⟩:=r
   simp only at hb h2
   subst hb
   exact ⟨n,t,h1,by rw [h2]; simp [encInt],h3⟩
  ·rw [hr hb] at h2; simp at h2
theorem rdInt_enc (n:Int) (hn:InR n) (t:Bytes):rdInt ⟨encInt n ++ t,false⟩ = (n,⟨t,false⟩):=by
 have:=rdNumber_enc n hn 59 (by decide) (-9223372036854775808) hn.1 t false
 simpa [rdInt,encInt] using this
theorem itemsGo_some {α:Type} (one:Rd → α × Rd) (enc:α → Bytes) (P:α → Prop) (hone:∀ r:Rd,r.ok → (one r).2 = failed ∨ ∃ v t,one r = (v,⟨t,false⟩) ∧ r = ⟨enc v ++ t,false⟩ ∧ P v):∀ (n:Nat) (r:Rd),r.ok →
  (itemsGo one n r).2 = failed ∨ ∃ vs t,itemsGo one n r = (vs,⟨t,r.bad⟩) ∧ vs.length = n ∧ r.rest = (vs.map enc).flatten ++ t ∧ ∀ v ∈ vs,P v
 | 0,r,_=>.inr ⟨[],r.rest,rfl,rfl,by simp,by simp⟩
 | n + 1,r,hr=>by
  unfold itemsGo
  split
  ·rename_i hb
   left
   exact Rd.eq_failed hr hb
  ·rename_i hb
   have hb:r.bad = false:=by simpa using hb
   rcases hone r hr with h1 | ⟨v,t,h1,h2,h3⟩
   ·left
    rw [h1]
    have:∀ n,(itemsGo one n failed).2 = failed:=by
     intro n
     cases n with
     | zero=>rfl
     | succ n=>rfl
    exact this n
   ·rw [h1]
    have hok:Rd.ok ⟨t,false⟩:=Rd.ok_good
    rcases itemsGo_some one enc P hone n _ hok with h4 | ⟨vs,t',h4,h5,h6,h7⟩
    ·left; exact h4
    ·right
     rw [h4]
     refine ⟨v :: vs,t',by rw [hb],by simp [h5],?_,?_⟩
     ·rw [h2]
      simp only at h6
      simp [h6]
     ·intro x hx
      rcases List.mem_cons.1 hx with rfl | hx
      ·exact h3
      ·exact h7 x hx
theorem rdItems_some {α:Type} (one:Rd → α × Rd) (enc:α → Bytes) (P:α → Prop) (hone:∀ r:Rd,r.ok → (one r).2 = failed ∨ ∃ v t,one r = (v,⟨t,false⟩) ∧ r = ⟨enc v ++ t,false⟩ ∧ P v) (r:Rd) (hr:r.ok) :
  rdItems one r = ([],failed) ∨ ∃ vs t,rdItems one r = (vs,⟨t,false⟩) ∧ r = ⟨encList (vs.map enc) ++ t,false⟩ ∧ (vs.length:Int) ≤ 9223372036854775807 ∧ ∀ v ∈ vs,P v:=by
 have hf:∀ {q:Rd},q = failed → (if (rdClose q 93).bad = true then (([]:List α),rdClose q 93) else ((itemsGo one (rdNumber r 91 0).1.toNat (rdNumber r 91 0).2).1,rdClose q 93)) = ([],failed):=by
  rintro q rfl
  rw [rdClose_failed]; rfl
 rcases rdNumber_some r 91 0 with h1 | ⟨n,t,h1,h2,h3,h4⟩
 ·left
  unfold rdItems
  exact hf (by rw [h1]; rfl)
 ·rcases hb:r.bad with _ | _
  ·rw [hb] at h1
   rcases itemsGo_some one enc P hone n.toNat ⟨t,false⟩ Rd.ok_good with h5 | ⟨vs,t',h5,h6,h7,h8⟩
   ·left
    unfold rdItems
    exact hf (by rw [h1]; exact h5)
   ·unfold rdItems
    rw [h1]
    dsimp only
    rw [h5]
    dsimp only
    rcases rdClose_some ⟨t',false⟩ 93 with h9 | ⟨t'',h9,h10⟩
    ·left; rw [h9]; rfl
    ·right
     rw [h10]
     refine ⟨vs,t'',rfl,?_,by have:=h3.2; omega,h8⟩
     have hn:(vs.length:Int) = n:=by omega
     obtain ⟨rest,bad⟩:=r
     simp only at hb h2 h7 h9
     subst hb
     rw [h2,h7,h9]
     simp [encList,hn]
  ·rw [hr hb] at h2; simp at h2
theorem itemsGo_enc {α:Type} (one:Rd → α × Rd) (enc:α → Bytes) (vs:List α) (t:Bytes) (h:∀ v ∈ vs,∀ t,one ⟨enc v ++ t,false⟩ = (v,⟨t,false⟩)):itemsGo one vs.length ⟨(vs.map enc).flatten ++ t,false⟩ = (vs,⟨t,false⟩):=by
 induction vs with
 | nil=>rfl
 | cons v vs ih=>
  have h1:=h v (by simp) ((vs.map enc).flatten ++ t)
  have h2:=ih (fun x hx=>h x (by simp [hx]))
  have e:((v :: vs).map enc).flatten ++ t = enc v ++ ((vs.map enc).flatten ++ t):=by simp
  rw [e,List.length_cons]
  unfold itemsGo
  rw [if_neg (by simp),h1]
  dsimp only
  rw [h2]
theorem rdItems_enc {α:Type} (one:Rd → α × Rd) (enc:α → Bytes) (vs:List α) (t:Bytes) (hl:(vs.length:Int) ≤ 9223372036854775807) (h:∀ v ∈ vs,∀ t,one ⟨enc v ++ t,false⟩ = (v,⟨t,false⟩)):rdItems one ⟨encList (vs.map enc) ++ t,false⟩ = (vs,⟨t,false⟩):=by
 have h1:=rdNumber_enc vs.length ⟨by omega,hl⟩ 91 (by decide) 0 (by omega) ((vs.map enc).flatten ++ 93 :: t) false
 have e:encList (vs.map enc) ++ t = itoa vs.length ++ 91 :: ((vs.map enc).flatten ++ 93 :: t):=by simp [encList]
 have h2:=itemsGo_enc one enc vs (93 :: t) h
 have h3:((vs.length:Int)).toNat = vs.length:=by simp
 unfold rdItems
 rw [e,h1]
 dsimp only
 rw [h3,h2]
 dsimp only
 rw [rdClose_cons]
 rfl
theorem rdNums_enc (vs:List Int) (t:Bytes) (hl:(vs.length:Int) ≤ 9223372036854775807) (h:∀ v ∈ vs,InR v):rdNums ⟨encNums vs ++ t,false⟩ = (vs,⟨t,false⟩):=
 rdItems_enc rdInt encInt vs t hl (fun v hv t=>rdInt_enc v (h v hv) t)
theorem rdNums_some (r:Rd) (hr:r.ok):rdNums r = ([],failed) ∨ ∃ vs t,rdNums r = (vs,⟨t,false⟩) ∧ r = ⟨encNums vs ++ t,false⟩ ∧ (vs.length:Int) ≤ 9223372036854775807 ∧ ∀ v ∈ vs,InR v:=
 rdItems_some rdInt encInt InR (fun r hr=>by
  rcases rdInt_some r hr with h | ⟨n,t,h1,h2,h3⟩
  ·left; rw [h]
  ·right; exact ⟨n,t,h1,h2,h3⟩) r hr
end CodeSpec
namespace Go.Proofs.Cd
open Go Go.Sh Go.RowKit Go.Lib CodeSpec
theorem ba_extract (l:List UInt8) (i j:Nat):(⟨l.toArray⟩:ByteArray).extract i j = ⟨((l.take j).drop i).toArray⟩:=by
 apply ByteArray.ext
 rw [← Array.toList_inj,ByteArray.data_extract,Array.toList_extract,List.extract_eq_take_drop]
 simp [List.drop_take]
theorem ba_inj (a b:List UInt8):((⟨a.toArray⟩:ByteArray) = ⟨b.toArray⟩) = (a = b):=by
 simp
theorem ba_byteAt (l:List UInt8) (k:Nat):byteAt ⟨l.toArray⟩ k = l.getD k 0:=by
 simp [byteAt]
attribute [go_sem] ba_size ba_append ba_extract ba_byteAt ba_inj
theorem K_eq {K:VK} {w:World} {a b:Value} (h:K a w) (e:b = a):K b w:=by rw [e]; exact h
theorem call_of_calls {f:FuncId} {args:Array Value} {w:World} {v:Value} {Q:WK} {K:VK} (h:Calls Tryz.prog f args w fun e w'=>e = .returned v ∧ Q w') (k:∀ w',Q w' → K v w'):callM Tryz.prog f args K w:=
 Calls.mono h (fun _ w' ⟨he,hq⟩=>⟨v,he,k w' hq⟩)
structure Laid (w:World):Prop where
 tab:TabIs Tryz.prog w tabName .u64 pow10Tab
 size:8 ≤ w.heap.size
structure LaidE (w:World):Prop extends Laid w where
 syn:∃ te pe,w.cell? ⟨5,0,none⟩ = some (.iface te pe)
 ran:∃ te pe,w.cell? ⟨6,0,none⟩ = some (.iface te pe)
theorem gTab:Tryz.prog.globalNamed tabName = some 3:=by kernel_rfl
theorem Laid.keep {w w':World} (h:Laid w) (hb:∀ k,k < 8 → w'.heap[k]? = w.heap[k]?) (hs:w.heap.size ≤ w'.heap.size):Laid w':=by
 refine ⟨?_,Nat.le_trans h.size hs⟩
 have h1:=h.tab
 unfold TabIs World.var? at h1 ⊢
 rw [gTab] at h1 ⊢
 simp only [Option.bind_some] at h1 ⊢
 rw [hb _ (by omega)]
 exact h1
theorem Laid.below {w w':World} (h:Laid w) {B:Nat} (hb:Below B w w') (hB:8 ≤ B):Laid w':=h.keep (fun k hk=>hb.block k (by omega)) hb.size
theorem Laid.grown {w w':World} (h:Laid w) {b:Nat} (hg:w.grownBy w' (some b)) (hb:8 ≤ b):Laid w':=h.keep (fun k hk=>hg.block k (by have:=h.size; omega) (by simp; omega)) hg.size
theorem LaidE.keep {w w':World} (h:LaidE w) (hb:∀ k,k < 8 → w'.heap[k]? = w.heap[k]?) (hs:w.heap.size ≤ w'.heap.size):LaidE w':=by
 have hc:∀ k,k < 8 → w'.cell? ⟨k,0,none⟩ = w.cell? ⟨k,0,none⟩:=fun k hk=>World.cell?_of_block (w:=w) (hb k hk)
 refine ⟨h.toLaid.keep hb hs,?_,?_⟩
 ·rw [hc _ (by omega)]; exact h.syn
 ·rw [hc _ (by omega)]; exact h.ran
theorem LaidE.below {w w':World} (h:LaidE w) {B:Nat} (hb:Below B w w') (hB:8 ≤ B):LaidE w':=h.keep (fun k hk=>hb.block k (by omega)) hb.size
theorem LaidE.grown {w w':World} (h:LaidE w) {b:Nat} (hg:w.grownBy w' (some b)) (hb:8 ≤ b):LaidE w':=h.keep (fun k hk=>hg.block k (by have:=h.toLaid.size; omega) (by simp; omega)) hg.size
theorem grown_of_below {w w':World} (h:Bw w w') (b:Option Nat):w.grownBy w' b:=⟨h.os,h.tape,h.output,h.size,fun k hk _=>h.block k hk⟩
theorem below_of_grown {B:Nat} {w w':World} {row:Option Nat} (h:w.grownBy w' row) (hB:B ≤ w.heap.size) (hr:∀ k,row = some k → B ≤ k):Below B w w':=
 (Below.refl B w).grown h hB hr
theorem itoa_ok (n:Int) (hn:InR n) {K:VK} {w:World} (hl:Laid w) (k:∀ w',Bw w w' → K (.string ⟨(itoa n).toArray⟩) w'):callM Tryz.prog 196 #[.int .i64 n] K w:=by
 refine call_of_calls (Tryz.strconv_Itoa n hn.1 hn.2 w hl.tab) ?_
 rintro w' ⟨d,os,rfl⟩
 exact k _ (below_grow _ _ (rL) _ _)
theorem below_bytesWorld (w:World) (T:TypeId) (t:ByteArray):Below w.heap.size w (bytesWorld w T t):=
 ⟨rfl,rfl,rfl,by rw [bytesWorld_size]; omega,fun k hk=>bytesWorld_at_old w T t k hk⟩
theorem atoi_ok (s:List UInt8) (hs:s.length ≤ 281474976710656) {K:VK} {w:World} (hl:LaidE w)
  (k1:∀ n w',atoiAll s = .ok n → Bw w w' → K (.tuple #[.int .i64 n,.nilIface]) w')
  (k2:∀ v te pe w',(∀ n,atoiAll s ≠ .ok n) → Bw w w' → K (.tuple #[.int .i64 v,.iface te pe]) w'):callM Tryz.prog 225 #[.string ⟨s.toArray⟩] K w:=by
 cases h:atoiAll s with
 | ok n=>
  refine call_of_calls (Tryz.strconv_Atoi_ok ⟨s.toArray⟩ (by rw [ba_size]; omega) n (by rw [ba_list]; exact h) w) ?_
  rintro w' (rfl | ⟨t,rfl⟩)
  ·exact k1 n _ h (bR)
  ·exact k1 n _ h (below_bytesWorld _ _ _)
 | «syntax»=>
  obtain ⟨te,pe,he⟩:=hl.syn
  refine Calls.mono (Tryz.strconv_Atoi_syntax ⟨s.toArray⟩ (by rw [ba_size]; omega) (by rw [ba_list]; exact h) _ w he (.inr ⟨_,_,rfl⟩)) ?_
  rintro e w' ⟨N,rfl,_,_,hb⟩
  exact ⟨_,rfl,k2 _ _ _ _ (fun n e=>by rw [h] at e; cases e) hb⟩
 | range=>
  obtain ⟨te,pe,he⟩:=hl.ran
  refine Calls.mono (Tryz.strconv_Atoi_range ⟨s.toArray⟩ (by rw [ba_size]; omega) (by rw [ba_list]; exact h) _ w he (.inr ⟨_,_,rfl⟩)) ?_
  rintro e w' ⟨N,rfl,_,_,hb⟩
  exact ⟨_,rfl,k2 _ _ _ _ (fun n e=>by rw [h] at e; cases e) hb⟩
theorem indexByte_ok (s:List UInt8) (c:UInt8) {K:VK} {w:World} (h:K (.int .i64 (indexByte s c)) w):callM Tryz.prog 223 #[.string ⟨s.toArray⟩,.int .u8 c.toNat] K w:=by
 refine call_of_calls (Tryz.strings_IndexByte ⟨s.toArray⟩ c.toNat w) ?_
 rintro w' rfl
 have:((c.toNat:Int)).toNat.toUInt8 = c:=by simp
 rw [ba_list,this]
 exact h
theorem cutPrefix_ok (s p:List UInt8) {K:VK} {w:World} (h:K (.tuple #[.string ⟨(trimPrefix s p).toArray⟩,.bool (hasPrefix s p)]) w):callM Tryz.prog 226 #[.string ⟨s.toArray⟩,.string ⟨p.toArray⟩] K w:=by
 refine call_of_calls (Tryz.strings_CutPrefix ⟨s.toArray⟩ ⟨p.toArray⟩ w) ?_
 rintro w' rfl
 exact h
theorem infoB:Tryz.prog.info? 213 = some Tryz.t213:=by kernel_rfl
theorem sizeB:Tryz.t213.size = 2:=by kernel_rfl
theorem liesB (b:Nat):liesAt Tryz.prog Tryz.prog.depth 213 (2 / Tryz.prog.cellsOf 213) (⟨b,0,none⟩:Addr).off 213 1 = true:=by kernel_rfl
theorem runNE (x:Value) (w:World):(callFunc 235 #[x]).run Tryz.prog w = .ok (.value x) w:=by kernel_rfl
theorem extNE {x:Value} {K:VK} {w:World} (k:K x w):extM Tryz.prog 235 #[x] K w:=by
 unfold extM opM
 rw [runNE]
 exact k
theorem copyCheck_nil (B b:Nat) (bs:List Value) (w:World) (h:BuilderAt 213 5 B b (.pointer none) bs w) {K:VK}
  (k:K (.tuple #[]) (w.setCell ⟨b,0,none⟩ (.pointer (some ⟨b,0,none⟩)))):callM Tryz.prog 221 #[.pointer (some ⟨b,0,none⟩)] K w:=by
 apply sh_221_ok
 unfold sh_221
 have hc:=h.cell0
 have hf:=h.frozen0
 have hv1:(convert 211 245 (.pointer (some ⟨b,0,none⟩))).run Tryz.prog w = .ok (.pointer (some ⟨b,0,none⟩)) w:=
  run_to_unsafe (P:=Tryz.prog) (w:=w) (a:=⟨b,0,none⟩) Tryz.underlying211 Tryz.underlying245 (t:=213) (j:=Tryz.t213) infoB (by rw [sizeB]; omega) h.shape (by show (0:Nat) < 2; omega)
 have hv2:(convert 245 211 (.pointer (some ⟨b,0,none⟩))).run Tryz.prog w = .ok (.pointer (some ⟨b,0,none⟩)) w:=
  run_from_unsafe (P:=Tryz.prog) (w:=w) (a:=⟨b,0,none⟩) Tryz.underlying245 Tryz.underlying211 (u:=213) (j:=Tryz.t213) infoB h.shape (liesB b)
 repeat (any_goals (first
 | (with_reducible refine extNE ?_)
 | (with_reducible refine yL ?_)
 | ((with_reducible refine oG fun X Y=>?_); simp [go_sem,oM_eqc,eqGuard,hc,hf,hv1,hv2]; apply Y; clear Y X)))
 exact k
theorem copyCheck_self (B b:Nat) (bs:List Value) (w:World) (h:BuilderAt 213 5 B b (.pointer (some ⟨b,0,none⟩)) bs w) {K:VK}
  (k:K (.tuple #[]) w):callM Tryz.prog 221 #[.pointer (some ⟨b,0,none⟩)] K w:=by
 apply sh_221_ok
 unfold sh_221
 have hc:=h.cell0
 have hf:=h.frozen0
 have hn:=run_neq_ptr_same (P:=Tryz.prog) (w:=w) (tp:=211) (te:=213) (j:=Tryz.t213) (a:=⟨b,0,none⟩) Tryz.underlying211 infoB
 repeat (any_goals (first
 | (with_reducible refine yM ?_)
 | ((with_reducible refine oG fun X Y=>?_); simp [go_sem,oM_eqc,oM_net,eqGuard,hc,hf,hn]; apply Y; clear Y X)))
 exact k
theorem copyCheck_ok (B b:Nat) (bs:List Value) (w:World) (h:IsBuilder 213 5 B b bs w) {K:VK}
  (k:∀ w',BuilderAt 213 5 B b (.pointer (some ⟨b,0,none⟩)) bs w' → w.grownBy w' (some b) → w'.heap.size = w.heap.size → K (.tuple #[]) w'):callM Tryz.prog 221 #[.pointer (some ⟨b,0,none⟩)] K w:=by
 rcases h with h | h
 ·refine copyCheck_nil B b bs w h (k _ (h.used _) ⟨rfl,rfl,rfl,by simp [World.setCell],fun i _ hi=>Below.heap_setCell _ _ _ _ (fun e=>hi (by simp [e]))⟩ (by simp [World.setCell]))
 ·exact copyCheck_self B b bs w h (k _ h ⟨rfl,rfl,rfl,rL,fun _ _ _=>rfl⟩ rfl)
theorem ownsRow_slice {w:World} {B:Nat} {e:TypeId} {sz:Nat} {v:Value} {n:Nat} {xs:List Value} (h:w.ownsRow B e sz v n xs):∃ a m c,v = .slice a m c:=by
 rcases h.2 with ⟨h,_⟩ | ⟨g,cap,cur,h,_⟩
 ·exact ⟨_,_,_,h⟩
 ·exact ⟨_,_,_,h⟩
theorem builderString_ok (B b:Nat) (l:List UInt8) (w:World) (h:IsBuilder 213 5 B b (Lib.byteCells l) w) (hBw:B ≤ w.heap.size) {K:VK} (k:∀ w',Below B w w' → K (.string ⟨l.toArray⟩) w'):callM Tryz.prog 206 #[.pointer (some ⟨b,0,none⟩)] K w:=
 call_of_calls (Tryz.Builder_String_any B b l w h hBw) k
theorem writeString_ok (B b:Nat) (l s:List UInt8) (w:World) (h:IsBuilder 213 5 B b (Lib.byteCells l) w) (hlen:l.length + s.length ≤ 140737488355328) (hBw:B ≤ w.heap.size) {K:VK}
  (k:∀ w',IsBuilder 213 5 B b (Lib.byteCells (l ++ s)) w' → Below B w w' → K (.tuple #[.int .i64 s.length,.nilIface]) w'):callM Tryz.prog 205 #[.pointer (some ⟨b,0,none⟩),.string ⟨s.toArray⟩] K w:=by
 apply sh_205_ok
 unfold sh_205
 refine copyCheck_ok B b _ w h ?_
 intro w1 h1 hg1 hs1
 obtain ⟨hB,v,hb,hown,hne⟩:=h1
 have hc1:w1.cell? ⟨b,1,none⟩ = some v:=by simp [World.cell?,hb]
 have hbl:Below B w w1:=below_of_grown hg1 hBw (fun k hk=>by cases hk; exact hB)
 have hbl5:(Lib.byteCells l).length = l.length:=by simp [Lib.byteCells]
 refine Xa @hc1 ?_
 obtain ⟨v',w2,hrun,ho,hg,_⟩:=run_append_own_string (P:=Tryz.prog) w1 B 202 9 202 5 Tryz.t5 Tryz.underlying202 Tryz.underlying9 (by kernel_rfl) (by kernel_rfl) (by kernel_rfl) (by kernel_rfl) v (Lib.byteCells l).length (Lib.byteCells l) hown ⟨s.toArray⟩ (by unfold maxLen; rw [ba_size]; omega) (by rw [ba_size]; omega) (by omega)
 rw [oM_value (S:=Builtin.append_ #[202,9] 202 #[v,.string ⟨s.toArray⟩]) (by simp [xop,execOp,evalL,evE,resolve,invoke,builtin]),hrun,ok_iff]
 have hb2:w2.heap[b]? = some (.cells #[.pointer (some ⟨b,0,none⟩),v] 213 (0,0)):=by
  rw [hg.block b (by have:=(Array.getElem?_eq_some_iff.1 hb).1; exact this) (fun e=>hne e.symm)]
  exact hb
 have hc2:w2.cell? ⟨b,1,none⟩ = some v:=by simp [World.cell?,hb2]
 have hf2:w2.frozen? ⟨b,1,none⟩ = false:=by simp [World.frozen?,hb2]
 have ho':w2.ownsRow B 5 1 v' (Lib.byteCells (l ++ s)).length (Lib.byteCells (l ++ s)):=by
  have e:Lib.byteCells l ++ strCells ⟨s.toArray⟩ = Lib.byteCells (l ++ s):=by simp [Lib.byteCells,strCells]
  have e2:(Lib.byteCells l).length + (⟨s.toArray⟩:ByteArray).size = (Lib.byteCells (l ++ s)).length:=by rw [ba_size]; simp [Lib.byteCells]
  rw [e,e2] at ho
  exact ho
 have hput:=BuilderAt.put (p:=.pointer (some ⟨b,0,none⟩)) hB hb2 ho' (by decide)
 have hbl2:Below B w w2:=hbl.trans (below_of_grown hg (by omega) (fun k hk=>(hown.lt k hk).1))
 obtain ⟨av,nv,cv,rfl⟩:=ownsRow_slice ho
 refine Xa (An2 @hc2 @hf2) ?_
 exact k _ (.inr hput) (hbl2.setCell hB _)
end Go.Proofs.Cd
namespace Go.Proofs.Cd
open Go Go.Sh Go.RowKit Go.Lib CodeSpec
def intV (n:Int):Value:=.int .i64 n
def RowOf {α:Type} (mk:α → Value) (w:World) (v:Value) (l:List α):Prop:=
 ∃ ad c,v = .slice ad l.length c ∧ (l = [] ∨ ∃ b o,ad = some ⟨b,o,none⟩ ∧ b < w.heap.size ∧ ∀ (i:Nat) (h:i < l.length),w.cell? ⟨b,o + i,none⟩ = some (mk l[i]))
theorem RowOf.below {α:Type} {mk:α → Value} {w w':World} {v:Value} {l:List α} (h:RowOf mk w v l) (hb:Bw w w'):RowOf mk w' v l:=by
 obtain ⟨ad,c,rfl,h⟩:=h
 refine ⟨ad,c,rfl,h.imp id ?_⟩
 rintro ⟨b,o,rfl,hlt,hc⟩
 exact ⟨b,o,rfl,lL hlt hb.size,fun i hi=>by rw [hb.cell hlt]; exact hc i hi⟩
theorem RowOf.nil {α:Type} (mk:α → Value) (w:World) (ad:Option Addr) (c:Nat):RowOf mk w (.slice ad 0 c) []:=⟨ad,c,rfl,.inl rfl⟩
theorem addr_add (b o k:Nat):(⟨b,o,none⟩:Addr).add k = ⟨b,o + k,none⟩:=by
 unfold Addr.add
 split
 ·rename_i h0; rw [h0]; simp
 ·rfl
theorem RowOf.of_owns {α:Type} {mk:α → Value} {w:World} {B:Nat} {e:TypeId} {v:Value} {l:List α} (h:w.ownsRow B e 1 v l.length (l.map mk)):RowOf mk w v l:=by
 rcases h.2 with ⟨rfl,h0⟩ | ⟨g,cap,cur,rfl,hb,hg,hn,hm,hcs,ht⟩
 ·obtain rfl:l = []:=List.eq_nil_of_length_eq_zero h0
  exact RowOf.nil _ _ _ _
 ·refine ⟨_,cap,rfl,.inr ⟨g,0,rfl,(Array.getElem?_eq_some_iff.1 hg).1,fun i hi=>?_⟩⟩
  have:(l.map mk)[i]? = some (mk l[i]):=by simp [hi]
  rw [← ht,List.getElem?_take_of_lt (by omega)] at this
  unfold World.cell?
  rw [hg]
  simpa using this
theorem idx22 {b o n c k:Nat} (hk:k < n) (w:World):(Instr.indexAt 24 (.slice (some ⟨b,o,none⟩) n c) (.int .i64 k)).run Tryz.prog w = .ok (.pointer (some ⟨b,o + k,none⟩)) w:=by
 rw [run_indexAt_slice (h:=by kernel_rfl),if_pos (by omega)]
 have hs:(sizeOf (Tryz.prog.elem 24)).run Tryz.prog w = .ok 1 w:=by kernel_rfl
 rw [hs]
 simp only [Result.andThen,Int.toNat_natCast,addr_add,Nat.mul_one]
theorem encInt_len (n:Int) (h:InR n):(encInt n).length ≤ 21:=by
 have:=itoa_len n h
 simp [encInt]; omega
theorem pInt_ok (n:Int) (hn:InR n) {K:VK} {w:World} (hl:Laid w) (k:∀ w',Bw w w' → K (.string ⟨(encInt n).toArray⟩) w'):callM Tryz.prog 175 #[.int .i64 n] K w:=by
 apply sh_175_ok
 unfold sh_175
 refine itoa_ok n hn hl ?_
 intro w1 hb
 have:=itoa_len n hn
 refine Xa0 ?_
 exact K_eq (k _ hb) (by simp [encInt])
theorem encText_len (s:List UInt8) (hs:(s.length:Int) ≤ 9223372036854775807):(encText s).length ≤ s.length + 22:=by
 have:=itoa_len s.length ⟨by omega,hs⟩
 simp [encText]; omega
theorem flat_snoc {α:Type} (enc:α → List UInt8) (xs:List α) (k:Nat) (h:k < xs.length):((xs.take (k + 1)).map enc).flatten = ((xs.take k).map enc).flatten ++ enc xs[k]:=by
 rw [List.take_add_one,gE h]
 simp only [Option.toList_some,List.map_append,List.map_cons,List.map_nil,List.flatten_append,List.flatten_cons,List.flatten_nil,List.append_nil]
theorem flat_le {α:Type} (enc:α → List UInt8) (xs:List α) (k:Nat):((xs.take k).map enc).flatten.length ≤ (xs.map enc).flatten.length:=by
 conv=>rhs; rw [← List.take_append_drop k xs]
 rw [List.map_append,List.flatten_append,List.length_append]
 omega
theorem IsBuilder.below {T e:TypeId} {B b:Nat} {bs:List Value} {w w':World} (h:IsBuilder T e B b bs w) (hb:Bw w w'):IsBuilder T e B b bs w':=by
 have key:∀ p,BuilderAt T e B b p bs w → BuilderAt T e B b p bs w':=by
  rintro p ⟨hB,v,hh,hown,hne⟩
  have hlt:=(Array.getElem?_eq_some_iff.1 hh).1
  refine ⟨hB,v,by rw [hb.block _ hlt]; exact hh,?_,hne⟩
  exact hown.kept (grown_of_below hb none) (by
   rcases hown.2 with ⟨rfl,_⟩ | ⟨g,cap,cur,rfl,_⟩
   ·left; rfl
   ·right; simp [Value.ownBlock])
 exact h.imp (key _) (key _)
theorem encodedNum_ok (xs:List (Int)) (v:Value) {K:VK} {w:World} (hl:Laid w) (hrow:RowOf intV w v xs) (hx:∀ x ∈ xs,InR x) (hlen:(encList (xs.map encInt)).length < 2^40)
  (k:∀ w',Bw w w' → K (.string ⟨(encList (xs.map encInt)).toArray⟩) w'):callM Tryz.prog 174 #[v,.func (.func 175) #[] #[]] K w:=by
 apply sh_174_ok
 unfold sh_174
 have hsz:(encList (xs.map encInt)).length = (itoa (xs.length:Nat)).length + 1 + ((xs.map encInt).flatten).length + 1:=by simp [encList]; omega
 have hxl:xs.length ≤ (xs.map encInt).flatten.length:=by
  rw [List.length_flatten]
  clear hrow hlen hsz k
  induction xs with
  | nil=>simp
  | cons x xs ih=>
   have:=ih (fun y hy=>hx y (List.mem_cons_of_mem _ hy))
   have h1:1 ≤ (encInt x).length:=by simp [encInt]; try omega
   simp only [List.length_cons,List.map_cons,List.sum_cons]
   omega
 have hin:InR (xs.length:Nat):=⟨by omega,by omega⟩
 have hil:=itoa_len _ hin
 obtain ⟨ad,c,rfl,hcell⟩:=hrow
 have hl0:Laid (w.alloc (.cells #[.pointer none,.slice none 0 0] 213)):=hl.below ((bR).alloc (rL) _) hl.size
 refine Xa0 ?_
 refine itoa_ok _ hin hl0 (fun w1 hb1=>?_)
 have hb1':Bw w w1:=((bR).alloc (rL) _).trans (hb1.mono (by simp))
 have hB1:=IsBuilder.below (fresh_isBuilder 213 5 w) hb1
 have hz1:=hb1'.size
 refine Xa0 ?_
 refine writeString_ok w.heap.size _ [] _ _ hB1 (by simp; omega) (by omega) ?_
 intro w2 hB2 hb2
 have hb2':=hb1'.trans hb2
 refine Xa0 ?_
 refine ⟨fun l w'=>∃ (x:Value) (k:Nat),l = [x,.int .i64 k] ∧ k ≤ xs.length ∧ IsBuilder 213 5 w.heap.size w.heap.size (Lib.byteCells (itoa (xs.length:Nat) ++ 91 :: ((xs.take k).map encInt).flatten)) w' ∧ Bw w w',fun l _=>xs.length - (match l with | [_,.int _ n]=>n.toNat | _=>0),⟨_,0,rfl,by omega,by simpa using hB2,hb2'⟩,?_⟩
 rintro _ _ w3 ⟨x,j,rfl,hj,hB3,hb3⟩
 have hz3:=hb3.size
 simp only [List.getD_cons_zero,List.getD_cons_succ]
 have hfl:=flat_le encInt xs j
 by_cases hlt:j < xs.length
 ·rcases hcell with rfl | ⟨b,o,rfl,hbw,hcells⟩
  ·simp at hlt
  have hc:=hcells j hlt
  rw [← hb3.cell hbw] at hc
  simp only [intV] at hc
  have hix:=idx22 (b:=b) (o:=o) (c:=c) hlt w3
  have hl3:Laid w3:=hl.below hb3 hl.size
  have hP:=hx xs[j] (List.getElem_mem hlt)
  have hfl1:=flat_le encInt xs (j + 1)
  rw [flat_snoc _ _ _ hlt,List.length_append] at hfl1
  repeat (any_goals (first
  | (rw [kI,oM_indexAddr,hix,rM_ok])
  | (with_reducible refine yN ?_)
  | ((with_reducible refine oG fun X Y=>?_); simp [go_sem,hc]; apply Y; clear Y X)))
  refine oM_callv1 (by kernel_rfl) ?_
  refine pInt_ok _ hP hl3 ?_
  intro w4 hb4
  have hz4:=hb4.size
  have hB4:IsBuilder 213 5 w.heap.size w.heap.size (Lib.byteCells (itoa (xs.length:Nat) ++ 91 :: ((xs.take j).map encInt).flatten)) w4:=IsBuilder.below hB3 hb4
  refine writeString_ok w.heap.size _ _ _ _ hB4 (by simp only [List.length_append,List.length_cons]; omega) (by omega) ?_
  intro w5 hB5 hb5
  refine Xa0 ?_
  refine ⟨⟨_,j + 1,rfl,hlt,?_,(hb3.trans (hb4.mono hz3)).trans hb5⟩,by simp; omega⟩
  rw [flat_snoc _ _ _ hlt]
  simpa using hB5
 ·obtain rfl:j = xs.length:=by omega
  rw [List.take_length] at hB3 hfl
  obtain ⟨F,hF⟩:∃ F,F = (xs.map encInt).flatten:=⟨_,rfl⟩
  rw [← hF] at hB3 hfl hsz
  refine Xa0 ?_
  refine builderString_ok _ _ _ _ hB3 (by omega) ?_
  intro w4 hb4
  refine Xa0 ?_
  exact K_eq (k _ (hb3.trans hb4)) (by simp [encList,hF])
theorem pNums_ok (xs:List (Int)) (v:Value) {K:VK} {w:World} (hl:Laid w) (hrow:RowOf intV w v xs) (hx:∀ x ∈ xs,InR x) (hlen:(encList (xs.map encInt)).length < 2^40)
  (k:∀ w',Bw w w' → K (.string ⟨(encList (xs.map encInt)).toArray⟩) w'):callM Tryz.prog 114 #[v] K w:=by
 apply sh_114_ok
 unfold sh_114
 refine Xa0 ?_
 exact encodedNum_ok xs v hl hrow hx hlen k
end Go.Proofs.Cd
namespace Go.Proofs.Cd
open Go Go.Sh Go.RowKit Go.Lib CodeSpec
def IsRd (w:World) (b:Nat) (r:Rd):Prop:=w.heap[b]? = some (.cells #[.string ⟨r.rest.toArray⟩,.bool r.bad] 193 (0,0))
theorem IsRd.c0 {w:World} {b:Nat} {r:Rd} (h:IsRd w b r):w.cell? ⟨b,0,none⟩ = some (.string ⟨r.rest.toArray⟩):=by
 unfold IsRd at h; simp [World.cell?,h]
theorem IsRd.c1 {w:World} {b:Nat} {r:Rd} (h:IsRd w b r):w.cell? ⟨b,1,none⟩ = some (.bool r.bad):=by
 unfold IsRd at h; simp [World.cell?,h]
theorem IsRd.fz {w:World} {b:Nat} {r:Rd} (h:IsRd w b r) (i:Nat):w.frozen? ⟨b,i,none⟩ = false:=by
 unfold IsRd at h; simp [World.frozen?,h]
theorem IsRd.lt {w:World} {b:Nat} {r:Rd} (h:IsRd w b r):b < w.heap.size:=(Array.getElem?_eq_some_iff.1 h).1
theorem heap_set {w:World} {b i:Nat} {cs:Array Value} {T:TypeId} {f:Nat × Nat} (h:w.heap[b]? = some (.cells cs T f)) (u:Value):(w.setCell ⟨b,i,none⟩ u).heap[b]? = some (.cells (cs.setIfInBounds i u) T f):=by
 simp [World.setCell,Array.getElem?_modify,h]
theorem IsRd.set0 {w:World} {b:Nat} {r:Rd} (h:IsRd w b r) (l:List UInt8):IsRd (w.setCell ⟨b,0,none⟩ (.string ⟨l.toArray⟩)) b ⟨l,r.bad⟩:=by
 unfold IsRd at h ⊢
 rw [heap_set h]; rfl
theorem IsRd.set1 {w:World} {b:Nat} {r:Rd} (h:IsRd w b r) (t:Bool):IsRd (w.setCell ⟨b,1,none⟩ (.bool t)) b ⟨r.rest,t⟩:=by
 unfold IsRd at h ⊢
 rw [heap_set h]; rfl
theorem IsRd.below {w w':World} {b:Nat} {r:Rd} (h:IsRd w b r) {B:Nat} (hb:Below B w w') (hB:b < B):IsRd w' b r:=by
 unfold IsRd at h ⊢
 rw [hb.block _ hB]; exact h
theorem IsRd.drew {w:World} {b:Nat} {r:Rd} (h:IsRd w b r):IsRd w.drew b r:=h
theorem grown_set (w:World) (b i:Nat) (u:Value):w.grownBy (w.setCell ⟨b,i,none⟩ u) (some b):=
 ⟨rfl,rfl,rfl,by simp [World.setCell],fun k _ hk=>Below.heap_setCell _ _ _ _ (fun e=>hk (by simp [e]))⟩
theorem grown_drew (w:World) (b:Option Nat):w.grownBy w.drew b:=⟨rfl,rfl,rfl,rL,fun _ _ _=>rfl⟩
theorem fail_ok (b:Nat) (r:Rd) {K:VK} {w:World} (hr:IsRd w b r) (k:∀ w',IsRd w' b failed → w.grownBy w' (some b) → K (.tuple #[]) w'):callM Tryz.prog 224 #[.pointer (some ⟨b,0,none⟩)] K w:=by
 apply sh_224_ok
 unfold sh_224
 have h0:=hr.c0
 have f0:=hr.fz 0
 have hr1:=hr.set0 []
 have f1:=hr1.fz 1
 have h1:=hr1.c1
 refine Xg (An4 @h0 @f0 @h1 @f1) ?_
 exact k _ (hr1.set1 true) (grownBy_trans (grown_set _ _ _ _) (grown_set _ _ _ _))
theorem close_ok (b:Nat) (r:Rd) (c:UInt8) {K:VK} {w:World} (hr:IsRd w b r) (k:∀ w',IsRd w' b (rdClose r c) → w.grownBy w' (some b) → K (.tuple #[]) w'):callM Tryz.prog 210 #[.pointer (some ⟨b,0,none⟩),.string ⟨#[c]⟩] K w:=by
 apply sh_210_ok
 unfold sh_210
 have h0:=hr.c0
 have f0:=hr.fz 0
 repeat (any_goals (first
 | (with_reducible refine cutPrefix_ok r.rest [c] ?_)
 | (with_reducible ((refine idCond ?_); refine yV (fun hg=>?_) fun hg=>?_))
 | ((with_reducible refine oG fun X Y=>?_); simp [go_sem,h0,f0]; apply Y; clear Y X)))
 ·skip
  obtain ⟨t,ht⟩:∃ t,r.rest = c :: t:=by
   unfold hasPrefix at hg
   rw [List.isPrefixOf_iff_prefix] at hg
   obtain ⟨t,ht⟩:=hg
   exact ⟨t,by rw [← ht]; rfl⟩
  have e:trimPrefix r.rest [c] = t:=by simp [trimPrefix,hasPrefix,ht]
  refine k _ ?_ (grown_set _ _ _ _)
  have:=hr.set0 t
  rw [e]
  have e2:rdClose r c = ⟨t,r.bad⟩:=by simp [rdClose,ht]
  rw [e2]
  exact this
 ·skip
  refine fail_ok b _ (hr.set0 _) ?_
  intro w1 hr1 hg1
  refine k w1 ?_ (grownBy_trans (grown_set _ _ _ _) hg1)
  have e2:rdClose r c = failed:=by
   rcases rdClose_some r c with h | ⟨t,h,_⟩
   ·exact h
   ·rw [h] at hg; simp [hasPrefix] at hg
  rw [e2]
  exact hr1
theorem indexByte_take (l:List UInt8) (c:UInt8):indexByte l c = if (l.takeWhile (· != c)).length < l.length then ((l.takeWhile (· != c)).length:Int) else -1:=by
 induction l with
 | nil=>rfl
 | cons x l ih=>
  unfold indexByte
  by_cases hx:x = c
  ·subst hx; simp
  ·have h1:(x == c) = false:=by simp [hx]
   have tw:(x :: l).takeWhile (· != c) = x :: l.takeWhile (· != c):=by simp [hx]
   rw [tw,List.length_cons,List.length_cons,h1,if_neg (by simp)]
   by_cases hlt:(l.takeWhile (· != c)).length < l.length
   ·rw [if_pos hlt] at ih
    have e:(indexByte l c == -1) = false:=by
     rw [ih,beq_eq_false_iff_ne]
     omega
    rw [e,if_neg (by simp),ih,if_pos (by omega)]
    omega
   ·rw [if_neg hlt] at ih
    rw [ih,if_pos (by simp),if_neg (by omega)]
theorem take_twl (l:List UInt8) (c:UInt8):l.take (l.takeWhile (· != c)).length = l.takeWhile (· != c):=by
 exact (List.prefix_iff_eq_take.1 (List.takeWhile_prefix _)).symm
set_option maxHeartbeats 1600000 in
theorem number_ok (b:Nat) (r:Rd) (e:UInt8) (least:Int) {K:VK} {w:World} (hl:LaidE w) (hlen:r.rest.length < 2^60) (hr:IsRd w b r) (k:∀ w',IsRd w' b (rdNumber r e least).2 → w.grownBy w' (some b) → K (.int .i64 (rdNumber r e least).1) w'):callM Tryz.prog 209 #[.pointer (some ⟨b,0,none⟩),.int .u8 e.toNat,.int .i64 least] K w:=by
 apply sh_209_ok
 unfold sh_209
 refine quietM_one ?_
 have hr1:IsRd { w with drawn:=w.drawn + 1 } b r:=hr
 have hl1:LaidE { w with drawn:=w.drawn + 1 }:=hl.keep (fun _ _=>rfl) (rL)
 have hg1:w.grownBy { w with drawn:=w.drawn + 1 } (some b):=grown_drew _ _
 generalize { w with drawn:=w.drawn + 1 } = w1 at *
 have h0:=hr1.c0
 have hmin:(min (r.rest.length:Int) 21).toNat = min r.rest.length 21:=by omega
 obtain ⟨q,hq⟩:∃ q,q = r.rest.take 21:=⟨_,rfl⟩
 obtain ⟨p,hp⟩:∃ p,p = q.takeWhile (· != e):=⟨_,rfl⟩
 have htk:r.rest.take (min r.rest.length 21) = q:=by
  rw [hq,List.take_eq_take_iff]; omega
 have hix:=indexByte_take q e
 rw [← hp] at hix
 have hple:p.length ≤ q.length:=by rw [hp]; exact (List.takeWhile_prefix _).length_le
 have hpl21:q.length ≤ 21:=by rw [hq]; exact List.length_take_le ..
 have hpr:q.length ≤ r.rest.length:=by rw [hq,List.length_take]; omega
 have hnum:rdNumber r e least = if p.length < q.length then (match canon p with | some n=>if n < least then (0,failed) else (n,⟨r.rest.drop (p.length + 1),r.bad⟩) | none=>(0,failed)) else (0,failed):=by rw [hp,hq]; rfl
 have hsl:q.take p.length = p:=by rw [hp]; exact take_twl _ _
 have fin:∀ w2,Bw w1 w2 → rdNumber r e least = (0,failed) → callM Tryz.prog 224 #[.pointer (some ⟨b,0,none⟩)] (fun _ w=>K (.int .i64 0) w) w2:=by
  intro w2 hb2 hn
  refine fail_ok b _ (hr1.below hb2 hr1.lt) ?_
  intro w3 hr3 hg3
  have:=k w3 (by rw [hn]; exact hr3) (grownBy_trans hg1 (grownBy_trans (grown_of_below hb2 _) hg3))
  rw [hn] at this
  exact this
 clear hp hq
 refine Xg (An3 @h0 @hmin @htk) ?_
 refine indexByte_ok _ e ?_
 rw [hix]
 by_cases hlt:p.length < q.length
 ·rw [if_pos hlt] at hnum ⊢
  refine Xg @hsl ?_
  refine atoi_ok p (by omega) hl1 (fun n w2 hn hb2=>?_) (fun v te pe w2 hn hb2=>?_)
  ·have hinr:=atoiAll_bounds hn
   have hcan:canon p = if itoa n = p then some n else none:=by unfold canon; rw [hn]
   refine Xc0 ?_
   refine ⟨fun w'=>Bw w2 w',⟨rfl,rfl,rfl,rL,fun _ _=>rfl⟩,?_⟩
   repeat (any_goals (first
   | (with_reducible first|refine pureQ_in ?_|((refine idGdQ ?_); refine gdQ_conv fun _=>?_)|refine zC ?_)
   | ((with_reducible refine idOQ ?_); (with_reducible refine oQ_of ⟨_,rfl⟩ (fun W0 hW0=>by (refine oG (fun X Y=>?_)); simp [go_sem,oM_nec,eqGuard]; (first | exact Y _ _ ⟨rfl,rfl⟩ | exact ⟨by omega,Y _ _ ⟨rfl,rfl⟩⟩)) ?_))))
   refine callQ_of (C:=fun w0=>Bw w2 w0) (v:=.string ⟨(itoa n).toArray⟩) (fun w3 hw3=>itoa_ok n hinr (hl1.toLaid.below (hb2.trans (hw3.mono hb2.size)) hl1.size) (fun w4 hb4=>⟨rfl,hw3.trans (hb4.mono hw3.size)⟩)) ?_
   repeat (any_goals (first
   | (with_reducible first|refine pureQ_in ?_|((refine idGdQ ?_); refine gdQ_conv fun _=>?_)|((refine idGd ?_); first|refine zC ?_|((refine idGdN ?_); first|refine zO ?_|refine zP ?_|refine zQ (fun hg=>?_) fun hg=>?_)))
   | ((with_reducible refine idOQ ?_); first|(with_reducible first|refine wB ?_|refine wE ?_|refine wF ?_)|(with_reducible refine oQ_of ⟨_,rfl⟩ (fun W0 hW0=>by (refine oG (fun X Y=>?_)); simp [go_sem,hsl]; (first | exact Y _ _ ⟨rfl,rfl⟩ | exact ⟨by omega,Y _ _ ⟨rfl,rfl⟩⟩)) ?_))))
   ·rw [hcan,if_pos hg] at hnum
    intro w3 hw3
    have hb3:Bw w1 w3:=hb2.trans (hw3.mono hb2.size)
    have hr3:=hr1.below hb3 hr1.lt
    have h3:=hr3.c0
    have f3:=hr3.fz 0
    simp only at hnum
    by_cases hle:n < least
    ·rw [if_pos hle] at hnum
     repeat (any_goals (first
     | (with_reducible refine fin _ hb3 hnum)
     | (with_reducible refine yN ?_)))
    ·rw [if_neg hle] at hnum
     repeat (any_goals (first
     | (with_reducible refine yO ?_)
     | ((with_reducible refine oG fun X Y=>?_); simp [go_sem,h3,f3]; (try simp (disch:=omega) only [wrapI64,wrapU8,wrapU32,wrapU64]); (first|refine Y _ _ ?_|refine And.intro (by omega) (Y _ _ ?_)); clear Y X)))
     have:=k _ (by rw [hnum]; exact hr3.set0 _) (grownBy_trans hg1 (grownBy_trans (grown_of_below hb3 _) (grown_set _ _ _ _)))
     rw [hnum] at this
     exact this
   ·rw [hcan,if_neg hg] at hnum
    simp only at hnum
    intro w3 hw3
    repeat (any_goals (first
    | (with_reducible refine fin _ (hb2.trans (hw3.mono hb2.size)) hnum)
    | (with_reducible refine yL ?_)))
  ·have hcan:canon p = none:=by
    unfold canon
    cases hc:atoiAll p with
    | ok n=>exact absurd hc (hn n)
    | «syntax»=>rfl
    | range=>rfl
   rw [hcan] at hnum
   simp only at hnum
   refine Xc0 ?_
   refine quietM_one ?_
   repeat (any_goals (first
   | (with_reducible first|((refine idGdQ ?_); refine gdQ_conv fun _=>?_)|refine And.intro (Eq.refl (α:=World) _) ?_|refine forall_one ?_|refine zD ?_|refine yL ?_)
   | ((with_reducible refine idOQ ?_); first|(with_reducible refine wA ?_)|((with_reducible refine oQ_one ?_ ?_); exact ⟨_,rfl⟩))
   | ((with_reducible refine oG fun X Y=>?_); simp [go_sem,oM_nec,eqGuard]; apply Y; clear Y X)))
   exact fin _ hb2.drew hnum
 ·rw [if_neg hlt] at hnum ⊢
  repeat (any_goals (first
  | (with_reducible refine fin _ (bR) hnum)
  | (with_reducible refine yL ?_)
  | ((with_reducible refine oG fun X Y=>?_); simp [go_sem]; apply Y; clear Y X)))
end Go.Proofs.Cd
namespace Go.Proofs.Cd
open Go Go.Sh Go.RowKit Go.Lib CodeSpec
theorem rest_le (r:Rd) (e:UInt8) (least:Int):(rdNumber r e least).2.rest.length ≤ r.rest.length:=by
 rcases rdNumber_some r e least with h | ⟨n,t,h,h2,_⟩
 ·rw [h]; simp [failed]
 ·rw [h,h2]; simp; omega
theorem rint_ok (b:Nat) (r:Rd) {K:VK} {w:World} (hl:LaidE w) (hlen:r.rest.length < 2^60) (hr:IsRd w b r) (k:∀ w',IsRd w' b (rdInt r).2 → w.grownBy w' (some b) → K (.int .i64 (rdInt r).1) w'):callM Tryz.prog 185 #[.pointer (some ⟨b,0,none⟩)] K w:=by
 apply sh_185_ok
 unfold sh_185
 exact number_ok b r 59 (-9223372036854775808) hl hlen hr k
theorem open_ok (s:List UInt8) {K:VK} {w:World} (k:∀ w',IsRd w' w.heap.size ⟨s,false⟩ → Bw w w' → K (.pointer (some ⟨w.heap.size,0,none⟩)) w'):callM Tryz.prog 130 #[.string ⟨s.toArray⟩] K w:=by
 apply sh_130_ok
 unfold sh_130
 refine Xa0 ?_
 exact k _ (by unfold IsRd; exact heap_alloc_new _ _) ((bR).alloc (rL) _)
def rdDone (r:Rd):Bool:=!r.bad && decide (r.rest = [])
theorem done_ok (b:Nat) (r:Rd) {K:VK} {w:World} (hr:IsRd w b r) (k:K (.bool (rdDone r)) w):callM Tryz.prog 132 #[.pointer (some ⟨b,0,none⟩)] K w:=by
 apply sh_132_ok
 unfold sh_132
 have h0:=hr.c0
 have h1:=hr.c1
 repeat (any_goals (first
 | (with_reducible first|refine pureM_in ?_|((refine idGd ?_); first|refine zV ?_|refine zW ?_|refine zX (fun hg=>?_) fun hg=>?_)|((refine idPick ?_); first|refine yJ ?_|refine yK ?_))
 | ((with_reducible refine oG fun X Y=>?_); simp [go_sem,h0,h1]; apply Y; clear Y X)))
 ·exact K_eq k (by unfold rdDone; rw [hg]; simp)
 ·exact K_eq k (by unfold rdDone; rw [hg]; simp)
end Go.Proofs.Cd
namespace Go.Proofs.Cd
open Go Go.Sh Go.RowKit Go.Lib CodeSpec
theorem grown_own {w w2 w3:World} {b B:Nat} {e:TypeId} {sz n:Nat} {v:Value} {xs:List Value} (h:w.grownBy w2 (some b)) (hown:w2.ownsRow B e sz v n xs) (hB:w.heap.size ≤ B) (hg:w2.grownBy w3 v.ownBlock):w.grownBy w3 (some b):=
 ⟨hg.os.trans h.os,hg.tape.trans h.tape,hg.output.trans h.output,Nat.le_trans h.size hg.size,fun i hi hne=>
  (hg.block i (lL hi h.size) (fun e=>by have:=(hown.lt i e.symm).1; omega)).trans (h.block i hi hne)⟩
theorem IsRd.own {w2 w3:World} {b B:Nat} {e:TypeId} {sz n:Nat} {v:Value} {xs:List Value} {r:Rd} (h:IsRd w2 b r) (hown:w2.ownsRow B e sz v n xs) (hB:b < B) (hg:w2.grownBy w3 v.ownBlock):IsRd w3 b r:=by
 have hlt:=h.lt
 unfold IsRd at h ⊢
 rw [hg.block b hlt (fun e=>by have:=(hown.lt b e.symm).1; omega)]
 exact h
theorem owns_rd {w2 w3:World} {b B:Nat} {e:TypeId} {sz n:Nat} {v:Value} {xs:List Value} (hown:w2.ownsRow B e sz v n xs) (hB:b < B) (hg:w2.grownBy w3 (some b)):w3.ownsRow B e sz v n xs:=
 hown.kept hg (by
  cases ho:v.ownBlock with
  | none=>left; rfl
  | some g=>right; intro e; cases e; have:=(hown.lt b ho).1; omega)
theorem itemsGo_stop {α:Type} (one:Rd → α × Rd) (n:Nat) (r:Rd) (h:n = 0 ∨ r.bad = true):itemsGo one n r = ([],r):=by
 rcases h with rfl | h
 ·rfl
 ·cases n with
  | zero=>rfl
  | succ n=>unfold itemsGo; rw [if_pos h]
theorem itemsGo_step {α:Type} (one:Rd → α × Rd) (n:Nat) (r:Rd) (h:r.bad = false):itemsGo one (n + 1) r = ((one r).1 :: (itemsGo one n (one r).2).1,(itemsGo one n (one r).2).2):=by
 conv=>lhs; unfold itemsGo
 rw [if_neg (by simp [h])]
theorem rdNum_less (r:Rd) (hr:r.ok) (_hb:r.bad = false):(rdInt r).2 = failed ∨ (rdInt r).2.rest.length < r.rest.length ∧ (rdInt r).2.bad = false:=by
 rcases rdInt_some r hr with h | ⟨v,t,h,h2,_⟩
 ·left; rw [h]
 ·right
  rw [h,h2]
  simp [encInt]
  try omega
set_option maxHeartbeats 1600000 in
theorem itemsNum_ok (b:Nat) (r:Rd) {K:VK} {w:World} (hl:LaidE w) (hb6:8 ≤ b) (hlen:r.rest.length < 2^40) (hok:r.ok) (hr:IsRd w b r)
  (k:∀ v w',IsRd w' b (rdNums r).2 → w.grownBy w' (some b) → w'.ownsRow w.heap.size 3 1 v (rdNums r).1.length ((rdNums r).1.map intV) → K v w'):callM Tryz.prog 131 #[.pointer (some ⟨b,0,none⟩)] K w:=by
 apply sh_131_ok
 unfold sh_131
 refine Xa0 ?_
 apply sh_184_ok
 unfold sh_184
 refine number_ok b r 91 0 hl (by omega) hr ?_
 intro w1 hr1 hg1
 have hle:=rest_le r 91 0
 have hok1:=rdNumber_ok r hok 91 0
 have hnum:rdNums r = if (rdClose (itemsGo rdInt (rdNumber r 91 0).1.toNat (rdNumber r 91 0).2).2 93).bad then ([],rdClose (itemsGo rdInt (rdNumber r 91 0).1.toNat (rdNumber r 91 0).2).2 93)
  else ((itemsGo rdInt (rdNumber r 91 0).1.toNat (rdNumber r 91 0).2).1,rdClose (itemsGo rdInt (rdNumber r 91 0).1.toNat (rdNumber r 91 0).2).2 93):=rfl
 have hnr:InR (rdNumber r 91 0).1:=by
  rcases rdNumber_some r 91 0 with h | ⟨n,t,h,_,h3,_⟩
  ·rw [h]; exact ⟨by simp,by simp⟩
  ·rw [h]; exact h3
 generalize (rdNumber r 91 0).2 = r1 at *
 generalize (rdNumber r 91 0).1 = n at *
 have hbw:=hr.lt
 obtain ⟨hn1,hn2⟩:=hnr
 refine ⟨fun l w'=>∃ (v:Value) (j:Int) (r':Rd) (xs:List (Int)),l = [v,.int .i64 j] ∧ -9223372036854775808 ≤ j ∧ j ≤ 9223372036854775807 ∧ IsRd w' b r' ∧ r'.ok ∧ w.grownBy w' (some b) ∧ w'.ownsRow w.heap.size 3 1 v xs.length (xs.map intV) ∧
  itemsGo rdInt n.toNat r1 = (xs ++ (itemsGo rdInt j.toNat r').1,(itemsGo rdInt j.toNat r').2) ∧ (xs.length + r'.rest.length ≤ r1.rest.length + 1) ∧ (r'.bad = false → xs.length + r'.rest.length ≤ r1.rest.length),fun l _=>(match l with | [_,.int _ n]=>n.toNat | _=>0),
  ⟨_,n,r1,[],rfl,hn1,hn2,hr1,hok1,hg1,World.ownsRow_nil _ _ _ _,by simp,(by simp only [List.length_nil]; omega),by simp⟩,?_⟩
 rintro _ _ w2 ⟨v,j,r',xs,rfl,hj1,hj2,hr2,hok2,hg2,hown,hgo,hlx,hlx2⟩
 simp only [List.getD_cons_zero,List.getD_cons_succ]
 have h2:=hr2.c1
 have hl2:=hl.grown hg2 hb6
 by_cases hrun:0 < j ∧ r'.bad = false
 ·obtain ⟨hj,hbad⟩:=hrun
  rw [hbad] at h2
  have hlx2:=hlx2 hbad
  refine Xa @h2 ?_
  refine oM_callv0 (by kernel_rfl) ?_
  refine rint_ok b r' hl2 (by omega) hr2 ?_
  intro w3 hr3 hg3
  have hown3:=owns_rd hown hbw hg3
  have hg03:=grownBy_trans hg2 hg3
  have hz3:=hg03.size
  have hless:=rdNum_less r' hok2 hbad
  obtain ⟨j',hj'⟩:∃ j':Nat,j.toNat = j' + 1:=⟨j.toNat - 1,by omega⟩
  have hjj:(j - 1).toNat = j':=by omega
  rw [hj',itemsGo_step _ _ _ hbad] at hgo
  have hok3:(rdInt r').2.ok:=by
   rcases hless with h | ⟨_,h⟩
   ·rw [h]; exact Rd.ok_failed
   ·intro e; rw [h] at e; cases e
  have hby:(xs.length + 1) * Tryz.t3.bytes ≤ 140737488355328:=by
   have:Tryz.t3.bytes = 8:=by kernel_rfl
   rw [this]
   omega
  refine Xa0 ?_
  refine oM_append_new (base:=w.heap.size) (n:=xs.length) (xs:=xs.map intV) (i:=Tryz.t3) (z:=.int .i64 0) (cs:=#[intV (rdInt r').1]) Tryz.underlying24 (by kernel_rfl) (by kernel_rfl) rfl rfl (by simp) (by simp [Value.oneCell',intV]) hown3 (by omega) (by unfold maxLen; omega) hby ?_
  intro v' w4 ho4 hg4
  refine Xa0 ?_
  refine ⟨⟨v',j - 1,(rdInt r').2,xs ++ [(rdInt r').1],rfl,by omega,by omega,hr3.own hown3 hbw hg4,hok3,grown_own hg03 hown3 (rL) hg4,by simpa using ho4,?_,?_,?_⟩,by simp; omega⟩
  ·rw [hjj,hgo]; simp
  ·rcases hless with h | ⟨h,_⟩
   ·rw [h,List.length_append]; simp [failed]; omega
   ·rw [List.length_append]; simp; omega
  ·intro hb
   rcases hless with h | ⟨h,_⟩
   ·rw [h] at hb; cases hb
   ·rw [List.length_append]; simp; omega
 ·have hstop:=itemsGo_stop rdInt j.toNat r' (by
   cases hb:r'.bad with
   | true=>right; rfl
   | false=>left; have:¬ 0 < j:=fun h=>hrun ⟨h,hb⟩; omega)
  rw [hstop,List.append_nil] at hgo
  rw [hgo] at hnum
  have rest:callM Tryz.prog 210 #[.pointer (some ⟨b,0,none⟩),.string ⟨#[93]⟩] (fun v26_16 w=>
    oM Tryz.prog (Go.Op.nilCheck (.tmp 0)) 0 [.pointer (some ⟨b,0,none⟩)] (fun v28_17 w=>
    oM Tryz.prog (Go.Op.fieldAddr 193 (.tmp 0) 1) 0 [v28_17] (fun v29_18 w=>
    oM Tryz.prog (Go.Op.load 4 (.tmp 0)) 4 [v29_18] (fun v30_19 w=>
    condM v30_19 (K (.slice none 0 0) w) (K v w)) w) w) w) w2:=by
   refine close_ok b r' 93 hr2 ?_
   intro w3 hr3 hg3
   have h3:=hr3.c1
   have hg03:=grownBy_trans hg2 hg3
   cases hbad:(rdClose r' 93).bad with
   | true=>
    rw [hbad] at hnum h3
    rw [if_pos rfl] at hnum
    refine Xa @h3 ?_
    exact k _ w3 (by rw [hnum]; exact hr3) hg03 (by rw [hnum]; exact World.ownsRow_nil _ _ _ _)
   | false=>
    rw [hbad] at hnum h3
    rw [if_neg (by simp)] at hnum
    refine Xa @h3 ?_
    exact k _ w3 (by rw [hnum]; exact hr3) hg03 (by rw [hnum]; exact owns_rd hown hbw hg3)
  by_cases hj:0 < j
  ·have hbad:r'.bad = true:=by
    cases hb:r'.bad with
    | true=>rfl
    | false=>exact absurd ⟨hj,hb⟩ hrun
   rw [hbad] at h2
   repeat (any_goals (first
   | (with_reducible exact rest)
   | (with_reducible first|refine pureM_in ?_|((refine idGd ?_); ((refine idGdD ?_); refine zF ?_))|refine yD ?_|refine yM ?_)
   | ((with_reducible refine oG fun X Y=>?_); simp [go_sem,h2]; apply Y; clear Y X)))
  ·repeat (any_goals (first
   | (with_reducible exact rest)
   | (with_reducible first|((refine idGd ?_); ((refine idGdD ?_); refine zG ?_))|refine yE ?_|refine yM ?_)
   | ((with_reducible refine oG fun X Y=>?_); simp [go_sem]; apply Y; clear Y X)))
end Go.Proofs.Cd
namespace FdSpec
def okN (n:Int):Prop:=1 ≤ n ∧ n < 2305843009213693952
instance (n:Int):Decidable (okN n):=inferInstanceAs (Decidable (_ ∧ _))
def addM (n a b:Int):Int:=if okN n then (a + b) % n else 0
def subM (n a b:Int):Int:=if okN n then (a - b) % n else 0
def mulM (n a b:Int):Int:=if okN n then a * b % n else 0
def pw (n a:Int) (b:Nat):Int:=a ^ b % n
def euc (n:Int):Nat → Int → Int → Int → Int → Int × Int
 | 0,r,_,x,_=>(r,x)
 | k + 1,r,s,x,y=>if s = 0 then (r,x) else euc n k s (r % s) y (subM n x (mulM n (r / s) y))
def eucAll (n r s x y:Int):Int × Int:=euc n (s.toNat + 1) r s x y
def invM (n a:Int):Option Int:=if okN n then (if (eucAll n n (a % n) 0 1).1 = 1 then some ((eucAll n n (a % n) 0 1).2 % n) else none) else none
def powM (n a b:Int):Int:=
 if okN n then (if 0 ≤ b then pw n a b.toNat else match invM n a with | some x=>pw n x (-b).toNat | none=>0) else 0
theorem euc_zero (n:Int) (k:Nat) (r x y:Int):euc n k r 0 x y = (r,x):=by
 cases k <;> simp [euc]
theorem euc_more (n:Int) (k:Nat) (r s x y:Int) (hs:0 ≤ s) (hk:s.toNat + 1 ≤ k):euc n k r s x y = eucAll n r s x y:=by
 unfold eucAll
 induction k using Nat.strongRecOn generalizing r s x y with
 | _ k ih=>
  cases k with
  | zero=>omega
  | succ k=>
   by_cases h0:s = 0
   ·subst h0; simp [euc]
   ·have h1:=Int.emod_nonneg r h0
    have h2:=Int.emod_lt_of_pos r (b:=s) (by omega)
    have e1:euc n (k + 1) r s x y = euc n k s (r % s) y (subM n x (mulM n (r / s) y)):=by
     rw [euc,if_neg h0]
    have e2:euc n (s.toNat + 1) r s x y = euc n s.toNat s (r % s) y (subM n x (mulM n (r / s) y)):=by
     rw [euc,if_neg h0]
    rw [e1,e2]
    have h3:(r % s).toNat + 1 ≤ s.toNat:=by omega
    rw [ih k (by omega) s (r % s) _ _ h1 (by omega)]
    by_cases hks:s.toNat = k
    ·rw [hks,ih k (by omega) s (r % s) _ _ h1 (by omega)]
    ·rw [ih s.toNat (by omega) s (r % s) _ _ h1 h3]
theorem euc_step (n r s x y:Int) (hs:0 < s):eucAll n r s x y = eucAll n s (r % s) y (subM n x (mulM n (r / s) y)):=by
 have h1:=Int.emod_nonneg r (b:=s) (by omega)
 have h2:=Int.emod_lt_of_pos r (b:=s) hs
 rw [← euc_more n s.toNat s (r % s) _ _ h1 (by omega)]
 unfold eucAll
 rw [euc,if_neg (by omega)]
def tz:Nat → Nat → Nat
 | 0,_=>0
 | k + 1,m=>if m % 2 = 0 then tz k (m / 2) + 1 else 0
def mrUp (n:Int):Nat → Int → Bool
 | 0,_=>false
 | k + 1,x=>if x = n - 1 then true else mrUp n k (x * x % n)
def passes (n b:Int):Bool:=
 let k:=tz 64 (n - 1).toNat
 let x:=pw n b ((n - 1).toNat / 2 ^ k)
 if x = 1 then true else mrUp n k x
def smallP:List Int:=[2,3,5,7,11,13,17,19,23,29,31,37]
def primeM (n:Int):Bool:=
 if n < 2 ∨ 2305843009213693952 ≤ n then false
 else match smallP.find? (fun p=>decide (n % p = 0)) with
  | some p=>decide (n = p)
  | none=>smallP.all (fun p=>passes n p)
structure Grp where
 P:Int
 Q:Int
 G:Int
deriving DecidableEq
def validG (g:Grp):Bool:=
 if g.Q < 5 ∨ 1152921504606846976 ≤ g.Q ∨ g.P ≠ 2 * g.Q + 1 ∨ g.G < 2 ∨ g.P ≤ g.G then false
 else primeM g.Q && primeM g.P && decide (pw g.P g.G g.Q.toNat = 1)
def elemG (g:Grp) (x:Int):Bool:=decide (1 ≤ x) && decide (x < g.P) && validG g && decide (pw g.P x g.Q.toNat = 1)
def powerG (g:Grp) (x k:Int):Int:=if okN g.P ∧ okN g.Q then pw g.P x (k % g.Q).toNat else 0
def timesG (g:Grp) (a b:Int):Int:=if okN g.Q then mulM g.P a b else 0
def overG (g:Grp) (a b:Int):Int:=timesG g a (powM g.P b (-1))
def prodL (g:Grp):Int → List (Int × Int) → Int
 | out,[]=>out
 | out,(b,e) :: l=>prodL g (mulM g.P out (powerG g b e)) l
def prodG (g:Grp) (bases exps:List Int):Int × Bool:=
 if okN g.P ∧ okN g.Q ∧ bases.length = exps.length then (prodL g (1 % g.P) (bases.zip exps),true) else (0,false)
end FdSpec
namespace FdSpec
theorem emod_pow (a n:Int) (k:Nat):(a % n) ^ k % n = a ^ k % n:=by
 induction k with
 | zero=>rw [Int.pow_zero,Int.pow_zero]
 | succ k ih=>rw [Int.pow_succ,Int.pow_succ,Int.mul_emod,ih,Int.emod_emod_of_dvd a (Int.dvd_refl n),← Int.mul_emod]
theorem pow_half (a:Int) (b:Nat):a ^ b = (a * a) ^ (b / 2) * a ^ (b % 2):=by
 have h1:b = 2 * (b / 2) + b % 2:=(Nat.div_add_mod b 2).symm
 have h2:∀ k,a ^ (2 * k) = (a * a) ^ k:=by
  intro k
  induction k with
  | zero=>rw [Nat.mul_zero,Int.pow_zero,Int.pow_zero]
  | succ k ih=>rw [Nat.mul_succ,Int.pow_succ,Int.pow_succ,Int.pow_succ,ih,Int.mul_assoc]
 conv=>lhs; rw [h1]
 rw [Int.pow_add,h2]
theorem pw_even (n a out:Int) (b:Nat) (hb:b % 2 = 0):out * (a * a % n) ^ (b / 2) % n = out * a ^ b % n:=by
 rw [pow_half a b,hb,Int.pow_zero,Int.mul_one,Int.mul_emod,emod_pow,← Int.mul_emod]
theorem pw_odd (n a out:Int) (b:Nat) (hb:b % 2 = 1):out * a % n * (a * a % n) ^ (b / 2) % n = out * a ^ b % n:=by
 have e:a ^ (1:Nat) = a:=by rw [show (1:Nat) = 0 + 1 from rfl,Int.pow_succ,Int.pow_zero,Int.one_mul]
 rw [pow_half a b,hb,e,Int.mul_emod,Int.emod_emod_of_dvd _ (Int.dvd_refl n),emod_pow,← Int.mul_emod]
 congr 1
 rw [Int.mul_comm ((a * a) ^ (b / 2)) a,← Int.mul_assoc]
theorem pw_emod (n a:Int) (b:Nat):pw n (a % n) b = pw n a b:=emod_pow a n b
theorem pw_nonneg (n a:Int) (b:Nat) (hn:0 < n):0 ≤ pw n a b ∧ pw n a b < n:=⟨Int.emod_nonneg _ (by omega),Int.emod_lt_of_pos _ hn⟩
theorem tz_lt (k m:Nat) (hm:0 < m) (h:m < 2 ^ k):tz k m < k ∧ ∃ j,m = 2 ^ tz k m * (2 * j + 1):=by
 induction k generalizing m with
 | zero=>omega
 | succ k ih=>
  unfold tz
  split
  ·rename_i h2
   obtain ⟨h3,j,h4⟩:=ih (m / 2) (by omega) (by rw [Nat.pow_succ] at h; omega)
   refine ⟨by omega,j,?_⟩
   have h5:m = 2 * (m / 2):=by omega
   rw [Nat.pow_succ,Nat.mul_comm (2 ^ _) 2,Nat.mul_assoc,← h4]
   exact h5
  ·exact ⟨by omega,m / 2,by rw [Nat.pow_zero]; omega⟩
theorem addM_eq (n a b:Int) (hn:okN n):(a % n + b % n) % n = addM n a b:=by
 rw [addM,if_pos hn,← Int.add_emod]
theorem subM_eq (n a b:Int) (hn:okN n):(a % n + n - b % n) % n = subM n a b:=by
 rw [subM,if_pos hn,Int.sub_emod,Int.add_emod,Int.emod_self,Int.add_zero,Int.emod_emod_of_dvd _ (Int.dvd_refl n),Int.emod_emod_of_dvd _ (Int.dvd_refl n),Int.emod_emod_of_dvd _ (Int.dvd_refl n),← Int.sub_emod]
theorem mulM_eq (n a b:Int) (hn:okN n):a % n * (b % n) % n = mulM n a b:=by
 rw [mulM,if_pos hn,← Int.mul_emod]
theorem mulM_range (n a b:Int) (hn:okN n):0 ≤ mulM n a b ∧ mulM n a b < n:=by
 rw [mulM,if_pos hn]; exact ⟨Int.emod_nonneg _ (by have:=hn.1; omega),Int.emod_lt_of_pos _ (by have:=hn.1; omega)⟩
theorem subM_range (n a b:Int) (hn:okN n):0 ≤ subM n a b ∧ subM n a b < n:=by
 rw [subM,if_pos hn]; exact ⟨Int.emod_nonneg _ (by have:=hn.1; omega),Int.emod_lt_of_pos _ (by have:=hn.1; omega)⟩
theorem addM_range (n a b:Int) (hn:okN n):0 ≤ addM n a b ∧ addM n a b < n:=by
 rw [addM,if_pos hn]; exact ⟨Int.emod_nonneg _ (by have:=hn.1; omega),Int.emod_lt_of_pos _ (by have:=hn.1; omega)⟩
theorem residue_eq (n a:Int) (hn:0 < n):(if a.tmod n < 0 then a.tmod n + n else a.tmod n) = a % n:=by
 have h1:=Int.emod_nonneg a (b:=n) (by omega)
 have h2:=Int.emod_lt_of_pos a hn
 have h3:=Int.tmod_add_mul_tdiv a n
 have h4:=Int.emod_add_mul_ediv a n
 have h5:a.tmod n < n:=by have:=Int.tmod_lt_of_pos a hn; omega
 have h6:-n < a.tmod n:=by
  have:=Int.lt_tmod_of_pos a hn
  omega
 have h7:n ∣ a.tmod n - a % n:=by
  refine ⟨a / n - a.tdiv n,?_⟩
  rw [Int.mul_sub]; omega
 obtain ⟨k,hk⟩:=h7
 have hk2:k = 0 ∨ k = -1 ∨ 1 ≤ k ∨ k ≤ -2:=by omega
 rcases hk2 with rfl | rfl | hk2 | hk2
 ·simp at hk; split <;> omega
 ·rw [Int.mul_neg,Int.mul_one] at hk; split <;> omega
 ·have:=Int.mul_le_mul_of_nonneg_left hk2 (by omega:0 ≤ n); omega
 ·have:=Int.mul_le_mul_of_nonneg_left hk2 (by omega:0 ≤ n); omega
end FdSpec
namespace FdSpec
structure Digit (h l u d q r:Nat):Prop where
 sum:q * h + r = u
 up:u * 4294967296 + d < (q + 1) * (h * 4294967296 + l)
 le:q ≤ 4294967297
section
variable {h l u d q r:Nat}
theorem digit_start (hh:2147483648 ≤ h) (hh2:h < 4294967296) (hl:l < 4294967296) (hd:d < 4294967296) (hu:u < h * 4294967296 + l):Digit h l u d (u / h) (u - u / h * h):=by
 have h1:u / h * h ≤ u:=Nat.div_mul_le_self u h
 have h2:u < (u / h + 1) * h:=by rw [Nat.add_mul,Nat.one_mul]; have:=Nat.mod_lt u (show h > 0 by omega); have:=Nat.div_add_mod u h; rw [Nat.mul_comm] at this; omega
 have h3:u / h < 4294967298:=by
  rw [Nat.div_lt_iff_lt_mul (by omega)]
  omega
 refine ⟨by omega,?_,by omega⟩
 have h4:(u + 1) * 4294967296 ≤ (u / h + 1) * h * 4294967296:=Nat.mul_le_mul_right _ h2
 have h5:(u / h + 1) * (h * 4294967296 + l) = (u / h + 1) * h * 4294967296 + (u / h + 1) * l:=by rw [Nat.mul_add,Nat.mul_assoc]
 rw [h5]
 omega
theorem digit_test (D:Digit h l u d q r):(4294967296 * r + d < q * l) ↔ u * 4294967296 + d < q * (h * 4294967296 + l):=by
 have h5:q * (h * 4294967296 + l) = q * h * 4294967296 + q * l:=by rw [Nat.mul_add,Nat.mul_assoc]
 have:=D.sum
 rw [h5]
 generalize q * h = a at *
 generalize q * l = b at *
 omega
theorem digit_big (hu:u < h * 4294967296 + l) (hd:d < 4294967296) (hq:4294967296 ≤ q):u * 4294967296 + d < q * (h * 4294967296 + l):=by
 have h1:4294967296 * (h * 4294967296 + l) ≤ q * (h * 4294967296 + l):=Nat.mul_le_mul_right _ hq
 have h2:(u + 1) * 4294967296 ≤ (h * 4294967296 + l) * 4294967296:=Nat.mul_le_mul_right _ hu
 omega
theorem digit_pos (D:Digit h l u d q r) (ht:u * 4294967296 + d < q * (h * 4294967296 + l)):0 < q:=by
 rcases Nat.eq_zero_or_pos q with rfl | h
 ·simp at ht
 ·exact h
theorem digit_step (D:Digit h l u d q r) (ht:u * 4294967296 + d < q * (h * 4294967296 + l)):Digit h l u d (q - 1) (r + h):=by
 have hq:=digit_pos D ht
 have:=D.sum
 refine ⟨?_,?_,by have:=D.le; omega⟩
 ·obtain ⟨p,rfl⟩:∃ p,q = p + 1:=⟨q - 1,by omega⟩
  rw [Nat.add_mul] at this
  simp only [Nat.add_sub_cancel]
  omega
 ·rw [show q - 1 + 1 = q by omega]; exact ht
theorem digit_end (D:Digit h l u d q r) (ht:¬ u * 4294967296 + d < q * (h * 4294967296 + l)):q = (u * 4294967296 + d) / (h * 4294967296 + l):=
 (Nat.div_eq_of_lt_le (by omega) D.up).symm
theorem digit_break (D:Digit h l u d q r) (hl:l < 4294967296) (hq:q ≤ 4294967296) (hr:4294967296 ≤ r):¬ u * 4294967296 + d < q * (h * 4294967296 + l):=by
 rw [← digit_test D]
 have h1:q * l ≤ 4294967296 * 4294967295:=Nat.mul_le_mul hq (by omega)
 omega
end
theorem div_total (x y s:Nat):x * 2 ^ s % (y * 2 ^ s) / 2 ^ s = x % y:=by
 rw [Nat.mul_mod_mul_right,Nat.mul_div_cancel _ (Nat.pow_pos (by omega))]
theorem two_digits (N d y:Nat):(N * 4294967296 + d) % y = ((N % y) * 4294967296 + d) % y:=by
 have h:N * 4294967296 % y = N % y * 4294967296 % y:=by simp
 rw [Nat.add_mod,h,← Nat.add_mod]
theorem split32 (X D:Nat):(X * 4294967296 + D / 4294967296) * 4294967296 + D % 4294967296 = X * 18446744073709551616 + D:=by
 rw [Nat.add_mul,Nat.mul_assoc,Nat.add_assoc,Nat.mul_comm (D / 4294967296),Nat.div_add_mod]
theorem norm_gen (a c M y s:Nat) (h:a * 4294967296 + c = M * 2 ^ s):(a % (y * 2 ^ s) * 4294967296 + c) % (y * 2 ^ s) / 2 ^ s = M % y:=by
 have t:=two_digits a c (y * 2 ^ s)
 have u:=div_total M y s
 rw [h] at t
 rw [← t,u]
theorem norm_rest (hi lo y s X D:Nat) (hN:X * 18446744073709551616 + D = (hi * 18446744073709551616 + lo) * 2 ^ s):(((X * 4294967296 + D / 4294967296) % (y * 2 ^ s)) * 4294967296 + D % 4294967296) % (y * 2 ^ s) / 2 ^ s = (hi * 18446744073709551616 + lo) % y:=by
 rw [← split32 X D] at hN
 exact norm_gen _ _ _ y s hN
end FdSpec
namespace Go.Proofs
open Go Go.Sh Go.RowKit FdSpec
section
variable {K:VK} {w:World}
theorem K_eq {a b:Value} (h:K a w) (e:b = a):K b w:=e ▸ h
@[reducible] def u64V (n:Int):Value:=.int .u64 n
theorem valid_ok (n:Int) (h:K (.bool (decide (okN n))) w):callM Tryz.prog 123 #[.int .i64 n] K w:=by
 apply sh_123_ok
 unfold sh_123
 have e:decide (okN n) = (decide (1 ≤ n) && decide (n < 2305843009213693952)):=by
  by_cases h1:1 ≤ n <;> by_cases h2:n < 2305843009213693952 <;> simp [okN,h1,h2]
 rw [e] at h
 by_cases h1:1 ≤ n
 ·refine Xa @h1 ?_
  simpa [h1] using h
 ·refine Xa @h1 ?_
  simpa [h1] using h
theorem residue_ok (n a:Int) (hn:okN n) (h:K (.int .u64 (a % n)) w):callM Tryz.prog 124 #[.int .i64 n,.int .i64 a] K w:=by
 apply sh_124_ok
 unfold sh_124
 obtain ⟨h1,h2⟩:=hn
 have e:=residue_eq n a (by omega)
 have h3:=Int.emod_nonneg a (b:=n) (by omega)
 have h4:=Int.emod_lt_of_pos a (b:=n) (by omega)
 obtain ⟨r,hr⟩:∃ r,r = a.tmod n:=⟨_,rfl⟩
 rw [← hr] at e
 repeat (any_goals (first
 | (with_reducible ((refine idCond ?_); refine yP (fun hg=>?_) fun hg=>?_))
 | ((with_reducible refine oG fun X Y=>?_); simp [go_sem,← hr]; (try simp (disch:=omega) only [wrapI64,wrapU8,wrapU32,wrapU64]); (first|refine Y _ _ ?_|refine And.intro (by omega) (Y _ _ ?_)); clear Y X)))
 ·rw [if_pos (by assumption)] at e; rw [e]; exact h
 ·rw [if_neg (by assumption)] at e; rw [e]; exact h
theorem natN (x:Int) (h:0 ≤ x):∃ a:Nat,x = a:=⟨x.toNat,by omega⟩
theorem maskU (a:Nat) (ha:a < 18446744073709551616):bits .and .u64 (a:Int) 4294967295 = ((a % 4294967296:Nat):Int):=by
 rw [mask64 32 a 4294967295 (by omega) (by decide) (by omega)]; omega
theorem divU (a:Nat):(a:Int) / 4294967296 = ((a / 4294967296:Nat):Int):=by omega
theorem modU (a:Nat):(a:Int) % 4294967296 = ((a % 4294967296:Nat):Int):=by omega
theorem mulU (a b:Nat):(a:Int) * (b:Int) = ((a * b:Nat):Int):=(Int.natCast_mul a b).symm
theorem addU (a b:Nat):(a:Int) + (b:Int) = ((a + b:Nat):Int):=(Int.natCast_add a b).symm
theorem wrapU (a:Nat) (ha:a < 18446744073709551616):IntKind.u64.wrap (a:Int) = (a:Int):=wrapU64 _ (by omega) (by omega)
theorem wrapUM (a:Nat):IntKind.u64.wrap (a:Int) = ((a % 18446744073709551616:Nat):Int):=by rw [IntKind.wrap_u64]; omega
theorem mul64_ok (x y:Int) (hx:0 ≤ x ∧ x < 18446744073709551616) (hy:0 ≤ y ∧ y < 18446744073709551616) (h:K (.tuple #[.int .u64 (x * y / 18446744073709551616),.int .u64 (x * y % 18446744073709551616)]) w):callM Tryz.prog 182 #[.int .u64 x,.int .u64 y] K w:=by
 apply sh_182_ok
 unfold sh_182
 have mx:=mask64 32 x 4294967295 (by omega) (by decide) hx
 have my:=mask64 32 y 4294967295 (by omega) (by decide) hy
 obtain ⟨a,rfl⟩:=natN x hx.1
 obtain ⟨b,rfl⟩:=natN y hy.1
 refine Xa (An2 @mx @my) ?_
 clear mx my
 have hx:a < 18446744073709551616:=by omega
 have hy:b < 18446744073709551616:=by omega
 obtain ⟨bd,bt,bw,hhi⟩:=Lib.mul64_hi a b hx hy
 have ba:=Lib.half_mul_le (a:=a / 4294967296) (b:=b / 4294967296) (by omega) (by omega)
 have bb:=Lib.half_mul_le (a:=a / 4294967296) (b:=b % 4294967296) (by omega) (by omega)
 have bc:=Lib.half_mul_le (a:=a % 4294967296) (b:=b / 4294967296) (by omega) (by omega)
 have ba':a / 4294967296 * (b / 4294967296) < 18446744073709551616:=by omega
 have bb':a / 4294967296 * (b % 4294967296) < 18446744073709551616:=by omega
 have bc':a % 4294967296 * (b / 4294967296) < 18446744073709551616:=by omega
 have bh1:a / 4294967296 * (b / 4294967296) + (a / 4294967296 * (b % 4294967296) + a % 4294967296 * (b % 4294967296) / 4294967296) / 4294967296 < 18446744073709551616:=by omega
 have bh:a / 4294967296 * (b / 4294967296) + (a / 4294967296 * (b % 4294967296) + a % 4294967296 * (b % 4294967296) / 4294967296) / 4294967296 + ((a / 4294967296 * (b % 4294967296) + a % 4294967296 * (b % 4294967296) / 4294967296) % 4294967296 + a % 4294967296 * (b / 4294967296)) / 4294967296 < 18446744073709551616:=by omega
 simp only [modU,divU,mulU,addU,wrapU _ bd,wrapU _ bb',wrapU _ bt,maskU _ bt,wrapU _ bc',wrapU _ bw,wrapU _ ba',wrapU _ bh1,wrapU _ bh,wrapUM (a * b)]
 rw [hhi]
 exact K_eq h (by simp)
def len8:ByteArray:=⟨#[0,1,2,2,3,3,3,3,4,4,4,4,4,4,4,4,5,5,5,5,5,5,5,5,5,5,5,5,5,5,5,5,6,6,6,6,6,6,6,6,6,6,6,6,6,6,6,6,6,6,6,6,6,6,6,6,6,6,6,6,6,6,6,6,7,7,7,7,7,7,7,7,7,7,7,7,7,7,7,7,7,7,7,7,7,7,7,7,7,7,7,7,7,7,7,7,7,7,7,7,7,7,7,7,7,7,7,7,7,7,7,7,7,7,7,7,7,7,7,7,7,7,7,7,7,7,7,7,8,8,8,8,8,8,8,8,8,8,8,8,8,8,8,8,8,8,8,8,8,8,8,8,8,8,8,8,8,8,8,8,8,8,8,8,8,8,8,8,8,8,8,8,8,8,8,8,8,8,8,8,8,8,8,8,8,8,8,8,8,8,8,8,8,8,8,8,8,8,8,8,8,8,8,8,8,8,8,8,8,8,8,8,8,8,8,8,8,8,8,8,8,8,8,8,8,8,8,8,8,8,8,8,8,8,8,8,8,8,8,8,8,8,8,8,8,8,8,8,8,8,8,8,8,8,8,8]⟩
theorem len8_size:len8.size = 256:=by decide +kernel
theorem len_bits (x:Nat) (hx:x < 256):x < 2 ^ (byteAt len8 x).toNat ∧ (x ≠ 0 → 1 ≤ (byteAt len8 x).toNat ∧ 2 ^ ((byteAt len8 x).toNat - 1) ≤ x) ∧ (byteAt len8 x).toNat ≤ 8 ∧ (x = 0 → (byteAt len8 x).toNat = 0):=by
 have:∀ x,x < 256 → x < 2 ^ (byteAt len8 x).toNat ∧ (x ≠ 0 → 1 ≤ (byteAt len8 x).toNat ∧ 2 ^ ((byteAt len8 x).toNat - 1) ≤ x) ∧ (byteAt len8 x).toNat ≤ 8 ∧ (x = 0 → (byteAt len8 x).toNat = 0):=by decide +kernel
 exact this x hx
theorem oM_index_len8 (i:Int) (T:TypeId):oM Tryz.prog (.index 9 (.tmp 0) (.tmp 1)) T [.string len8,.int .u8 i] = onM (0 ≤ i ∧ i < 256) (.int .u8 (byteAt len8 i.toNat).toNat):=by
 funext K w
 rw [oM_value (S:=Instr.index 9 (.string len8) (.int .u8 i)) rfl,run_index_string (P:=Tryz.prog) (w:=w) 9 len8 .u8 i (by kernel_rfl)]
 have e:=len8_size
 by_cases hi:0 ≤ i ∧ i < len8.size
 ·rw [dif_pos hi,ok_iff,← byteAt_get]
  exact propext ⟨fun hk=>⟨⟨hi.1,by omega⟩,hk⟩,fun ⟨_,hk⟩=>hk⟩
 ·rw [dif_neg hi]
  obtain ⟨e',w',he⟩:=halts Value Tryz.prog .u8 i len8.size .index w
  rw [he,halt_iff]
  exact propext ⟨fun h=>h.elim,fun ⟨h,_⟩=>hi ⟨h.1,by omega⟩⟩
theorem stage (x k s:Nat) (h:2 ^ s ≤ x / 2 ^ k):x / 2 ^ (k + s) = x / 2 ^ k / 2 ^ s ∧ 2 ^ (k + s) ≤ x:=by
 refine ⟨by rw [Nat.pow_add,Nat.div_div_eq_div_mul],?_⟩
 rw [Nat.pow_add,Nat.mul_comm]
 exact (Nat.le_div_iff_mul_le (Nat.pow_pos (by omega))).1 h
structure BitLen (x L:Nat):Prop where
 lt:x < 2 ^ L
 ge:x ≠ 0 → 1 ≤ L ∧ 2 ^ (L - 1) ≤ x
 le:L ≤ 64
def BlM (x B m:Nat) (w:World) (l:List Value) (w':World):Prop:=w' = w ∧ ∃ k:Nat,l = [.int .u64 ((x / 2 ^ k:Nat):Int),.int .i64 (k:Int)] ∧ x / 2 ^ k < B ∧ (k = 0 ∨ 2 ^ k ≤ x) ∧ k ≤ m
theorem len64_ok (x:Nat) (hx:x < 18446744073709551616) (h:∀ L,BitLen x L → K (.int .i64 (L:Nat)) w):callM Tryz.prog 236 #[.int .u64 (x:Int)] K w:=by
 apply sh_236_ok
 unfold sh_236
 rw [show (⟨#[0,1,2,2,3,3,3,3,4,4,4,4,4,4,4,4,5,5,5,5,5,5,5,5,5,5,5,5,5,5,5,5,6,6,6,6,6,6,6,6,6,6,6,6,6,6,6,6,6,6,6,6,6,6,6,6,6,6,6,6,6,6,6,6,7,7,7,7,7,7,7,7,7,7,7,7,7,7,7,7,7,7,7,7,7,7,7,7,7,7,7,7,7,7,7,7,7,7,7,7,7,7,7,7,7,7,7,7,7,7,7,7,7,7,7,7,7,7,7,7,7,7,7,7,7,7,7,7,8,8,8,8,8,8,8,8,8,8,8,8,8,8,8,8,8,8,8,8,8,8,8,8,8,8,8,8,8,8,8,8,8,8,8,8,8,8,8,8,8,8,8,8,8,8,8,8,8,8,8,8,8,8,8,8,8,8,8,8,8,8,8,8,8,8,8,8,8,8,8,8,8,8,8,8,8,8,8,8,8,8,8,8,8,8,8,8,8,8,8,8,8,8,8,8,8,8,8,8,8,8,8,8,8,8,8,8,8,8,8,8,8,8,8,8,8,8,8,8,8,8,8,8,8,8,8,8]⟩:ByteArray) = len8 from rfl]
 refine ⟨BlM x 4294967296 32 w,?_,?_⟩
 ·repeat (any_goals (first
  | (with_reducible ((refine idCond ?_); refine yP (fun hg=>?_) fun hg=>?_))
  | ((with_reducible refine oG fun X Y=>?_); simp [go_sem]; apply Y; clear Y X)))
  ·exact ⟨rfl,32,by simp,by omega,by omega,by omega⟩
  ·exact ⟨rfl,0,by simp,by simp; omega,by omega,by omega⟩
 rintro _ _ w1 ⟨e1,k,rfl,h1,h2,h3⟩
 rw [e1]
 clear e1 w1
 refine ⟨BlM x 65536 48 w,?_,?_⟩
 ·have hs:=stage x k 16
  obtain ⟨y,hy⟩:∃ y,y = x / 2 ^ k:=⟨_,rfl⟩
  rw [← hy] at hs h1 ⊢
  repeat (any_goals (first
  | (with_reducible ((refine idCond ?_); refine yP (fun hg=>?_) fun hg=>?_))
  | ((with_reducible refine oG fun X Y=>?_); simp [go_sem]; (try simp (disch:=omega) only [wrapI64,wrapU8,wrapU32,wrapU64]); apply Y; clear Y X)))
  ·have hs:=hs (by omega)
   exact ⟨rfl,k + 16,by rw [hs.1]; simp,by rw [hs.1]; omega,.inr hs.2,by omega⟩
  ·exact ⟨rfl,k,by rw [hy]; rfl,by omega,h2,by omega⟩
 clear h1 h2 h3 k
 rintro _ _ w1 ⟨e1,k,rfl,h1,h2,h3⟩
 rw [e1]
 clear e1 w1
 refine ⟨BlM x 256 56 w,?_,?_⟩
 ·have hs:=stage x k 8
  obtain ⟨y,hy⟩:∃ y,y = x / 2 ^ k:=⟨_,rfl⟩
  rw [← hy] at hs h1 ⊢
  repeat (any_goals (first
  | (with_reducible ((refine idCond ?_); refine yP (fun hg=>?_) fun hg=>?_))
  | ((with_reducible refine oG fun X Y=>?_); simp [go_sem]; (try simp (disch:=omega) only [wrapI64,wrapU8,wrapU32,wrapU64]); apply Y; clear Y X)))
  ·have hs:=hs (by omega)
   exact ⟨rfl,k + 8,by rw [hs.1]; simp,by rw [hs.1]; omega,.inr hs.2,by omega⟩
  ·exact ⟨rfl,k,by rw [hy]; rfl,by omega,h2,by omega⟩
 clear h1 h2 h3 k
 rintro _ _ w1 ⟨e1,k,rfl,h1,h2,h3⟩
 rw [e1]
 clear e1 w1
 obtain ⟨l1,l2,l3,l4⟩:=len_bits (x / 2 ^ k) h1
 have hL:BitLen x (k + (byteAt len8 (x / 2 ^ k)).toNat):=by
  generalize (byteAt len8 (x / 2 ^ k)).toNat = L at *
  have hp:0 < 2 ^ k:=Nat.pow_pos (by omega)
  refine ⟨?_,?_,by omega⟩
  ·rw [Nat.pow_add,Nat.mul_comm]
   exact (Nat.div_lt_iff_lt_mul hp).1 l1
  ·intro h0
   by_cases hy:x / 2 ^ k = 0
   ·rw [Nat.div_eq_zero_iff] at hy
    rcases h2 with rfl | h2 <;> simp at hy <;> omega
   ·obtain ⟨a,b⟩:=l2 hy
    refine ⟨by omega,?_⟩
    rw [show k + L - 1 = k + (L - 1) by omega,Nat.pow_add,Nat.mul_comm]
    exact (Nat.le_div_iff_mul_le hp).1 b
 obtain ⟨y,hy⟩:∃ y,y = x / 2 ^ k:=⟨_,rfl⟩
 have hk:=h _ hL
 simp only [← hy] at hk h1 l3 ⊢
 refine Xa @oM_index_len8 ?_
 exact K_eq hk (by simp)
def dgLoop (vh vl vd:Value) (M:List Value → World → Prop) (x:List Value) (w:World):Prop:=
 (loopM x w (fun J_30 m_31 l u_l w0_l=>(fun w=>(
 oM Tryz.prog (Go.Op.binOp Go.BinOp.geq 150 (.tmp 0) (.tmp 1) 150) 4 [(l.getD 0 undef),(.int .u64 4294967296)] (fun v68_33 w=>
 gdM (gd v68_33 false) (pureM (l.getD 0 undef)) (fun v70_34 w=>
 gdM (gd v68_33 false) (pureM vl) (fun v71_35 w=>
 gdM (gd v68_33 false) (oM Tryz.prog (Go.Op.binOp Go.BinOp.mul 150 (.tmp 0) (.tmp 1) 150) 150 [v70_34,v71_35]) (fun v72_36 w=>
 gdM (gd v68_33 false) (pureM (l.getD 1 undef)) (fun v73_37 w=>
 gdM (gd v68_33 false) (oM Tryz.prog (Go.Op.binOp Go.BinOp.mul 150 (.tmp 0) (.tmp 1) 150) 150 [(.int .u64 4294967296),v73_37]) (fun v74_38 w=>
 gdM (gd v68_33 false) (pureM vd) (fun v75_39 w=>
 gdM (gd v68_33 false) (oM Tryz.prog (Go.Op.binOp Go.BinOp.add 150 (.tmp 0) (.tmp 1) 150) 150 [v74_38,v75_39]) (fun v76_40 w=>
 gdM (gd v68_33 false) (oM Tryz.prog (Go.Op.binOp Go.BinOp.gtr 150 (.tmp 0) (.tmp 1) 150) 4 [v72_36,v76_40]) (fun v77_41 w=>
 oM Tryz.prog (Go.Op.pick (.tmp 0) (.tmp 1) (.tmp 2)) 4 [v68_33,(.bool true),v77_41] (fun v78_42 w=>
 condM v78_42
 (oM Tryz.prog (Go.Op.binOp Go.BinOp.sub 150 (.tmp 0) (.tmp 1) 150) 150 [(l.getD 0 undef),(.int .u64 1)] (fun v80_43 w=>
 oM Tryz.prog (Go.Op.binOp Go.BinOp.add 150 (.tmp 0) (.tmp 1) 150) 150 [(l.getD 1 undef),vh] (fun v83_44 w=>
 oM Tryz.prog (Go.Op.binOp Go.BinOp.geq 150 (.tmp 0) (.tmp 1) 150) 4 [v83_44,(.int .u64 4294967296)] (fun v85_45 w=>
 condM v85_45
 (M [v80_43,v83_44] w)
 (J_30 [v80_43,v83_44] w ∧ m_31 [v80_43,v83_44] w < m_31 l w0_l)) w) w) w)
 (M [(l.getD 0 undef),(l.getD 1 undef)] w)) w) w) w) w) w) w) w) w) w) w)) w0_l))
def DgJ (h l u d:Nat) (w:World) (x:List Value) (w':World):Prop:=w' = w ∧ ∃ q r:Nat,x = [.int .u64 (q:Int),.int .u64 (r:Int)] ∧ Digit h l u d q r ∧ r < 4294967296
theorem dg_ok (h l u d:Nat) (M:List Value → World → Prop) (hh:2147483648 ≤ h) (hh2:h < 4294967296) (hl:l < 4294967296) (hd:d < 4294967296) (hu:u < h * 4294967296 + l)
  (hM:∀ r:Nat,M [.int .u64 (((u * 4294967296 + d) / (h * 4294967296 + l):Nat):Int),.int .u64 (r:Int)] w):dgLoop (.int .u64 (h:Int)) (.int .u64 (l:Int)) (.int .u64 (d:Int)) M [.int .u64 ((u / h:Nat):Int),.int .u64 ((u - u / h * h:Nat):Int)] w:=by
 unfold dgLoop
 refine ⟨DgJ h l u d w,fun x _=>match x with | [.int _ q,_]=>q.toNat | _=>0,⟨rfl,_,_,rfl,digit_start hh hh2 hl hd hu,?_⟩,?_⟩
 ·have h1:=Nat.mod_lt u (show h > 0 by omega)
  have h2:=Nat.div_add_mod u h
  rw [Nat.mul_comm] at h2
  omega
 rintro _ _ w1 ⟨e1,q,r,rfl,D,hr⟩
 rw [e1]
 clear e1 w1
 have hq:=D.le
 have ht:=digit_test D
 have hbig:=fun hb:4294967296 ≤ q=>digit_big hu hd hb
 have hstep:=fun hb=>digit_step D hb
 have hpos:=fun hb=>digit_pos D hb
 have hend:=fun hb=>digit_end D hb
 have hbr:∀ hb,4294967296 ≤ r + h → q - 1 = (u * 4294967296 + d) / (h * 4294967296 + l):=fun hb hg=>digit_end (hstep hb) (digit_break (hstep hb) hl (by omega) hg)
 have hql:q < 4294967296 → q * l < 18446744073709551616:=fun hb=>by
  have:=Nat.mul_le_mul (show q ≤ 4294967295 by omega) (show l ≤ 4294967295 by omega)
  omega
 generalize (u * 4294967296 + d) / (h * 4294967296 + l) = Q at *
 generalize (u * 4294967296 + d < q * (h * 4294967296 + l)) = T at *
 have hmul:(q:Int) * (l:Int) = ((q * l:Nat):Int):=(Int.natCast_mul q l).symm
 generalize q * l = ql at *
 have fin1:(4294967296 ≤ r + h → q - 1 = Q) → 0 < q → 4294967296 ≤ r + h → M [.int .u64 ((q:Int) - 1),.int .u64 ((r:Int) + h)] w:=fun a b c=>by
  rw [show (q:Int) - 1 = ((q - 1:Nat):Int) by omega,show (r:Int) + h = ((r + h:Nat):Int) by omega,a c]; exact hM _
 have fin2:Digit h l u d (q - 1) (r + h) → 0 < q → ¬ 4294967296 ≤ r + h → DgJ h l u d w [.int .u64 ((q:Int) - 1),.int .u64 ((r:Int) + h)] w ∧ ((q:Int) - 1).toNat < (q:Int).toNat:=fun a b c=>by
  rw [show (q:Int) - 1 = ((q - 1:Nat):Int) by omega,show (r:Int) + h = ((r + h:Nat):Int) by omega]
  exact ⟨⟨rfl,_,_,rfl,a,by omega⟩,by omega⟩
 by_cases hb:4294967296 ≤ q
 ·have hT:=hbig hb
  have hst:=hstep hT
  have hps:=hpos hT
  have hbr:=hbr hT
  repeat (any_goals (first
  | (with_reducible first|((refine idGd ?_); ((refine idGdD ?_); refine zJ ?_))|refine yD ?_|((refine idCond ?_); first|refine yL ?_|refine yP (fun hg=>?_) fun hg=>?_))
  | ((with_reducible refine oG fun Kv hK=>?_); simp [go_sem,hb]; (try simp (disch:=omega) only [wrapI64,wrapU8,wrapU32,wrapU64]); apply hK; clear hK Kv)))
  ·exact fin1 hbr hps (by omega)
  ·exact fin2 hst hps (by omega)
 ·have hql:=hql (by omega)
  by_cases hT:T
  ·have hst:=hstep hT
   have hps:=hpos hT
   have hbr:=hbr hT
   have htt:=ht.2 hT
   repeat (any_goals (first
   | (with_reducible first|refine pureM_in ?_|((refine idGd ?_); ((refine idGdD ?_); refine zI ?_))|refine yE ?_|((refine idCond ?_); first|refine yN ?_|refine yP (fun hg=>?_) fun hg=>?_))
   | ((with_reducible refine oG fun Kv hK=>?_); simp [go_sem,hb,hmul]; (try simp (disch:=omega) only [wrapI64,wrapU8,wrapU32,wrapU64]); apply hK; clear hK Kv)))
   ·exact fin1 hbr hps (by omega)
   ·exact fin2 hst hps (by omega)
  ·have he:=hend hT
   have htt:¬ _:=fun h=>hT (ht.1 h)
   refine Xg (An2 @hb @hmul) ?_
   simp only [List.getD_cons_zero,List.getD_cons_succ]
   rw [he]
   exact hM _
theorem lead64_ok (x:Nat) (hx:x < 18446744073709551616) (h:∀ L,BitLen x L → K (.int .i64 (64 - (L:Int))) w):callM Tryz.prog 222 #[.int .u64 (x:Int)] K w:=by
 apply sh_222_ok
 unfold sh_222
 refine len64_ok x hx ?_
 intro L hL
 have:=hL.le
 refine Xc0 ?_
 exact h L hL
theorem norm_len (y L:Nat) (hy:0 < y) (hL:BitLen y L):9223372036854775808 ≤ y * 2 ^ (64 - L) ∧ y * 2 ^ (64 - L) < 18446744073709551616:=by
 obtain ⟨a,b⟩:=hL.ge (by omega)
 have h64:=hL.le
 have h1:2 ^ (L - 1) * 2 ^ (64 - L) = 9223372036854775808:=by
  rw [← Nat.pow_add,show L - 1 + (64 - L) = 63 by omega]
 have h2:2 ^ L * 2 ^ (64 - L) = 18446744073709551616:=by
  rw [← Nat.pow_add,show L + (64 - L) = 64 by omega]
 have hp:0 < 2 ^ (64 - L):=Nat.pow_pos (by omega)
 exact ⟨by rw [← h1]; exact Nat.mul_le_mul_right _ b,by rw [← h2]; exact (Nat.mul_lt_mul_right hp).2 hL.lt⟩
theorem norm_top (hi lo s:Nat) (hs:s ≤ 64) (hlo:lo < 18446744073709551616):(hi * 2 ^ s + lo / 2 ^ (64 - s)) * 18446744073709551616 + lo * 2 ^ s % 18446744073709551616 = (hi * 18446744073709551616 + lo) * 2 ^ s ∧ lo / 2 ^ (64 - s) < 2 ^ s:=by
 have h2:2 ^ (64 - s) * 2 ^ s = 18446744073709551616:=by rw [← Nat.pow_add,show 64 - s + s = 64 by omega]
 have hp:0 < 2 ^ s:=Nat.pow_pos (by omega)
 have hq:0 < 2 ^ (64 - s):=Nat.pow_pos (by omega)
 have h3:lo * 2 ^ s / 18446744073709551616 = lo / 2 ^ (64 - s):=by
  rw [← h2,Nat.mul_div_mul_right _ _ hp]
 have h4:=Nat.div_add_mod (lo * 2 ^ s) 18446744073709551616
 refine ⟨?_,?_⟩
 ·rw [h3] at h4
  rw [Nat.add_mul,Nat.add_mul,Nat.mul_right_comm hi,Nat.add_assoc,Nat.mul_comm (lo / _) 18446744073709551616,h4]
 ·rw [Nat.div_lt_iff_lt_mul hq,Nat.mul_comm,h2]; exact hlo
def EqW (w:World) (l:List Value) (w':World):Prop:=w' = w
def DgE (Q:Nat) (w:World) (l:List Value) (w':World):Prop:=w' = w ∧ ∃ r:Nat,l = [.int .u64 (Q:Int),.int .u64 (r:Int)]
theorem left_wrap (X d Y Q U:Nat) (hs:Q * Y + U = X * 4294967296 + d) (hU:U < 18446744073709551616):IntKind.u64.wrap (IntKind.u64.wrap (IntKind.u64.wrap ((X:Int) * 4294967296) + (d:Int)) - IntKind.u64.wrap ((Q:Int) * (Y:Int))) = (U:Int):=by
 have hm:(Q:Int) * (Y:Int) = ((Q * Y:Nat):Int):=(Int.natCast_mul Q Y).symm
 rw [hm]
 generalize Q * Y = P at *
 simp only [IntKind.wrap_u64]
 omega
theorem half_div (X h:Nat) (hX:X < 18446744073709551616) (hh:2147483648 ≤ h):∃ q p r:Nat,X / h = q ∧ q * h = p ∧ X - p = r ∧ p ≤ X ∧ q < 18446744073709551616 ∧ (X:Int).tdiv (h:Int) = (q:Int) ∧ (q:Int) * (h:Int) = (p:Int) ∧ (X:Int) - (p:Int) = (r:Int):=by
 have h1:=Nat.div_mul_le_self X h
 have h2:=Nat.div_le_self X h
 refine ⟨_,_,_,rfl,rfl,rfl,h1,by omega,?_,(Int.natCast_mul _ _).symm,by omega⟩
 rw [Int.tdiv_eq_ediv_of_nonneg (by omega)]; rfl
set_option maxHeartbeats 1000000 in
theorem div64_ok (hi lo y:Nat) (hlt:hi < y) (hy:y < 18446744073709551616) (hlo:lo < 18446744073709551616) (k:∀ (q:Int) w',Bw w w' → K (.tuple #[.int .u64 q,.int .u64 (((hi * 18446744073709551616 + lo) % y:Nat):Int)]) w'):callM Tryz.prog 208 #[.int .u64 (hi:Int),.int .u64 (lo:Int),.int .u64 (y:Int)] K w:=by
 apply sh_208_ok
 unfold sh_208
 refine ⟨EqW w,?_,?_⟩
 ·refine Xc0 ?_
  exact rfl
 rintro _ _ w1 e1
 rw [show w1 = w from e1]
 clear e1 w1
 refine ⟨EqW w,?_,?_⟩
 ·refine Xc0 ?_
  exact rfl
 rintro _ _ w1 e1
 rw [show w1 = w from e1]
 clear e1 w1
 by_cases h0:hi = 0
 ·subst h0
  have k0:=k ((lo / y:Nat):Int) _ (Below.drew (Below.refl _ w))
  have t1:((lo:Int).tdiv (y:Int)) = ((lo / y:Nat):Int):=by rw [Int.tdiv_eq_ediv_of_nonneg (by omega)]; rfl
  have t2:((lo:Int).tmod (y:Int)) = ((lo % y:Nat):Int):=by rw [Int.tmod_eq_emod_of_nonneg (by omega)]; rfl
  have t3:=Nat.div_le_self lo y
  simp only [Nat.zero_mul,Nat.zero_add] at k0
  generalize lo / y = a at *
  generalize lo % y = b at *
  refine Xg (An2 @t1 @t2) ?_
  refine quietM_one ?_
  refine Xg (An2 @t1 @t2) ?_
  exact k0
 obtain ⟨s,hs⟩:∃ s,s = 64:=⟨_,rfl⟩
 refine Xc0 ?_
 refine lead64_ok y hy ?_
 intro L hL
 clear s hs
 have hn:=norm_len y L (by omega) hL
 have hL64:=hL.le
 obtain ⟨s,hs⟩:∃ s,s = 64 - L:=⟨_,rfl⟩
 rw [← hs] at hn
 have hs64:s ≤ 64:=by omega
 obtain ⟨hN,hB⟩:=norm_top hi lo s hs64 hlo
 have hres:=norm_rest hi lo y s _ _ hN
 have hAB:hi * 2 ^ s + lo / 2 ^ (64 - s) < y * 2 ^ s:=by
  have:=Nat.mul_le_mul_right (2 ^ s) (show hi + 1 ≤ y by omega)
  rw [Nat.add_mul,Nat.one_mul] at this
  omega
 have hsub:(64:Int) - (L:Int) = (s:Int):=by omega
 have hpow:∀ a:Nat,(a:Int) * 2 ^ s = ((a * 2 ^ s:Nat):Int):=fun a=>by rw [Int.natCast_mul,Int.natCast_pow]; rfl
 have hdiv:∀ a:Nat,(a:Int) / 2 ^ (64 - s) = ((a / 2 ^ (64 - s):Nat):Int):=fun a=>by rw [Int.natCast_ediv,Int.natCast_pow]; rfl
 have hBi:((lo / 2 ^ (64 - s):Nat):Int) < 2 ^ s:=by
  have:=Int.ofNat_lt.2 hB
  rw [Int.natCast_pow] at this
  exact this
 have hor:=or_add64 s (hi:Int) ((lo / 2 ^ (64 - s):Nat):Int) hs64 (Int.natCast_nonneg _) ⟨Int.natCast_nonneg _,hBi⟩
 have hD:lo * 2 ^ s % 18446744073709551616 < 18446744073709551616:=Nat.mod_lt _ (by omega)
 have hDi:((lo * 2 ^ s:Nat):Int) % 18446744073709551616 = ((lo * 2 ^ s % 18446744073709551616:Nat):Int):=by rw [Int.natCast_emod]; rfl
 have hsub2:((64:Int) - (s:Int)).toNat = 64 - s:=by omega
 rw [hpow] at hor
 clear hN hB hBi hL
 generalize lo * 2 ^ s % 18446744073709551616 = D at *
 generalize hlo2:lo * 2 ^ s = lo2 at *
 generalize hA:hi * 2 ^ s = A at *
 generalize hB:lo / 2 ^ (64 - s) = B at *
 generalize hY:y * 2 ^ s = Y at *
 have hor:=hor (by omega)
 have hAm:(A:Int) % 18446744073709551616 = (A:Int):=by omega
 have hYm:(Y:Int) % 18446744073709551616 = (Y:Int):=by omega
 have hpa:=hpow hi
 have hpl:=hpow lo
 have hpy:=hpow y
 have hdl:=hdiv lo
 rw [hA] at hpa
 rw [hlo2] at hpl
 rw [hY] at hpy
 rw [hB] at hdl
 rw [hsub]
 obtain ⟨t,ht⟩:∃ t,t = 64 - s:=⟨_,rfl⟩
 have ht2:(64:Int) - (s:Int) = (t:Int):=by omega
 rw [← ht] at hdl
 have rl:=fun x=>oM_shl64 (P:=Tryz.prog) 150 191 150 .u64 x (s:Int) (by omega) (by omega)
 have rr:=fun x=>oM_shr64 (P:=Tryz.prog) 150 191 150 .u64 x (s:Int) (by omega) (by omega)
 have rt:=fun x=>oM_shr64 (P:=Tryz.prog) 150 191 150 .u64 x (t:Int) (by omega) (by omega)
 simp only [Int.toNat_natCast] at rl rr rt
 obtain ⟨h,hh⟩:∃ h,h = Y / 4294967296:=⟨_,rfl⟩
 obtain ⟨l,hl⟩:∃ l,l = Y % 4294967296:=⟨_,rfl⟩
 obtain ⟨d1,hd1⟩:∃ d1,d1 = D / 4294967296:=⟨_,rfl⟩
 obtain ⟨d0,hd0⟩:∃ d0,d0 = D % 4294967296:=⟨_,rfl⟩
 obtain ⟨X,hX⟩:∃ X,X = A + B:=⟨_,rfl⟩
 have hhi:(Y:Int) / 4294967296 = (h:Int):=by omega
 have hli:bits .and .u64 (Y:Int) 4294967295 = (l:Int):=by rw [maskU Y (by omega),← hl]
 have hd1i:(D:Int) / 4294967296 = (d1:Int):=by omega
 have hd0i:bits .and .u64 (D:Int) 4294967295 = (d0:Int):=by rw [maskU D (by omega),← hd0]
 have hXi:(A:Int) + (B:Int) = (X:Int):=by omega
 have hhl:h * 4294967296 + l = Y:=by omega
 rw [← hX,← hd1,← hd0] at hres
 obtain ⟨q1,p1,r1,e1,e2,e3,e4,e5,e6,e7,e8⟩:=half_div X h (by omega) (by omega)
 obtain ⟨Q,hQ⟩:∃ Q,Q = (X * 4294967296 + d1) / Y:=⟨_,rfl⟩
 obtain ⟨U,hU⟩:∃ U,U = (X * 4294967296 + d1) % Y:=⟨_,rfl⟩
 have hUY:U < Y:=by rw [hU]; exact Nat.mod_lt _ (by omega)
 have dg:=dg_ok (w:=w) h l X d1 (DgE Q w) (by omega) (by omega) (by omega) (by omega) (by omega) (fun r=>⟨rfl,r,by rw [hhl,← hQ]⟩)
 have lw:=left_wrap X d1 Y Q U (by rw [hQ,hU]; exact Nat.div_add_mod' _ _) (by omega)
 obtain ⟨q2,p2,r2,f1,f2,f3,f4,f5,f6,f7,f8⟩:=half_div U h (by omega) (by omega)
 obtain ⟨Q2,hQ2⟩:∃ Q2,Q2 = (U * 4294967296 + d0) / Y:=⟨_,rfl⟩
 obtain ⟨R,hR⟩:∃ R,R = (U * 4294967296 + d0) % Y:=⟨_,rfl⟩
 have hRY:R < Y:=by rw [hR]; exact Nat.mod_lt _ (by omega)
 have dg2:=dg_ok (w:=w) h l U d0 (DgE Q2 w) (by omega) (by omega) (by omega) (by omega) (by omega) (fun r=>⟨rfl,r,by rw [hhl,← hQ2]⟩)
 have lw2:=left_wrap U d0 Y Q2 R (by rw [hQ2,hR]; exact Nat.div_add_mod' _ _) (by omega)
 rw [← hU,← hR] at hres
 rw [e1,e2,e3] at dg
 rw [f1,f2,f3] at dg2
 have hRi:(R:Int) / 2 ^ s = ((R / 2 ^ s:Nat):Int):=by rw [Int.natCast_ediv,Int.natCast_pow]; rfl
 rw [hres] at hRi
 clear hres hR hU hQ hQ2 e1 e2 e3 f1 f2 f3 hh hl hd1 hd0 hX
 refine Xg (An20 @rl @rr @rt @ht2 @hpa @hpl @hpy @hdl @hor @hAm @hYm @hDi @hXi @hhi @hli @hd1i @hd0i @e6 @e7 @e8) ?_
 refine ⟨DgE Q w,dg,?_⟩
 rintro _ _ w1 ⟨e1,r,rfl⟩
 rw [e1]
 clear e1 w1
 refine Xg (An7 @rl @rr @rt @lw @f6 @f7 @f8) ?_
 refine ⟨DgE Q2 w,dg2,?_⟩
 rintro _ _ w1 ⟨e1,r',rfl⟩
 rw [e1]
 clear e1 w1
 refine Xg (An5 @rl @rr @rt @lw2 @hRi) ?_
 exact k _ _ (bR)
theorem rem64_ok (hi lo y:Nat) (hhi:hi < 18446744073709551616) (hy0:0 < y) (hy:y < 18446744073709551616) (hlo:lo < 18446744073709551616) (k:∀ w',Bw w w' → K (.int .u64 (((hi * 18446744073709551616 + lo) % y:Nat):Int)) w'):callM Tryz.prog 183 #[.int .u64 (hi:Int),.int .u64 (lo:Int),.int .u64 (y:Int)] K w:=by
 apply sh_183_ok
 unfold sh_183
 have e1:(hi:Int).tmod (y:Int) = ((hi % y:Nat):Int):=by rw [Int.tmod_eq_emod_of_nonneg (by omega)]; rfl
 have e2:(hi % y * 18446744073709551616 + lo) % y = (hi * 18446744073709551616 + lo) % y:=by
  rw [Nat.add_mod,Nat.mul_mod,Nat.mod_mod,← Nat.mul_mod,← Nat.add_mod]
 have hlt:=Nat.mod_lt hi hy0
 rw [← e2] at k
 generalize hi % y = r at *
 refine Xa @e1 ?_
 refine div64_ok r lo y hlt hy hlo ?_
 intro q w1 hb
 refine Xa0 ?_
 exact k _ hb
theorem product_ok (n a b:Int) (hn:okN n) (ha:0 ≤ a ∧ a < n) (hb:0 ≤ b ∧ b < n) (k:∀ w',Bw w w' → K (.int .u64 (a * b % n)) w'):callM Tryz.prog 125 #[.int .i64 n,.int .u64 a,.int .u64 b] K w:=by
 apply sh_125_ok
 unfold sh_125
 obtain ⟨h1,h2⟩:=hn
 refine Xa0 ?_
 refine mul64_ok a b ⟨ha.1,by omega⟩ ⟨hb.1,by omega⟩ ?_
 obtain ⟨a,rfl⟩:=natN a ha.1
 obtain ⟨b,rfl⟩:=natN b hb.1
 obtain ⟨n,rfl⟩:=natN n (by omega)
 rw [mulU]
 have hab:a * b < 18446744073709551616 * 18446744073709551616:=Nat.mul_lt_mul'' (by omega) (by omega)
 have e1:((a * b:Nat):Int) / 18446744073709551616 = ((a * b / 18446744073709551616:Nat):Int):=by omega
 have e2:((a * b:Nat):Int) % 18446744073709551616 = ((a * b % 18446744073709551616:Nat):Int):=by omega
 have e3:((a * b % n:Nat):Int) = (a:Int) * (b:Int) % (n:Int):=by rw [Int.natCast_emod,Int.natCast_mul]
 rw [e1,e2]
 have h5:a * b / 18446744073709551616 * 18446744073709551616 + a * b % 18446744073709551616 = a * b:=Nat.div_add_mod' _ _
 have h3:a * b / 18446744073709551616 < 18446744073709551616:=by omega
 have h4:a * b % 18446744073709551616 < 18446744073709551616:=by omega
 rw [← e3,← h5] at k
 generalize a * b / 18446744073709551616 = hi at *
 generalize a * b % 18446744073709551616 = lo at *
 refine Xa0 ?_
 exact rem64_ok hi lo n h3 (by omega) (by omega) h4 k
def PwJ (n R:Int) (w:World) (l:List Value) (w':World):Prop:=Bw w w' ∧ ∃ (out a:Int) (b:Nat),l = [.int .u64 out,.int .u64 a,.int .u64 (b:Int)] ∧ (0 ≤ out ∧ out < n) ∧ (0 ≤ a ∧ a < n) ∧ b < 18446744073709551616 ∧ out * a ^ b % n = R
def PwM (n R a:Int) (b:Nat) (w:World) (l:List Value) (w':World):Prop:=Bw w w' ∧ ∃ out:Int,l = [.int .u64 out] ∧ (0 ≤ out ∧ out < n) ∧ out * (a * a % n) ^ (b / 2) % n = R
def pwMu (l:List Value) (_:World):Nat:=match l with | [_,_,.int _ b]=>b.toNat | _=>0
theorem pwMu_eq (x y:Value) (k:IntKind) (b:Int) (w:World):pwMu [x,y,.int k b] w = b.toNat:=rfl
theorem power_ok (n a:Int) (b:Nat) (hn:okN n) (ha:0 ≤ a ∧ a < n) (hb:b < 18446744073709551616) (k:∀ w',Bw w w' → K (.int .u64 (pw n a b)) w'):callM Tryz.prog 129 #[.int .i64 n,.int .u64 a,.int .u64 (b:Int)] K w:=by
 apply sh_129_ok
 unfold sh_129
 have hn':=hn
 obtain ⟨h1,h2⟩:=hn
 have e1:(1:Int).tmod n = 1 % n:=Int.tmod_eq_emod_of_nonneg (by omega)
 have e2:=Int.emod_nonneg 1 (b:=n) (by omega)
 have e3:=Int.emod_lt_of_pos 1 (b:=n) (by omega)
 have e4:1 % n * a ^ b % n = pw n a b:=by
  rw [Int.mul_emod,Int.emod_emod_of_dvd _ (Int.dvd_refl n),← Int.mul_emod,Int.one_mul]; rfl
 generalize 1 % n = o at *
 refine Xa @e1 ?_
 refine ⟨PwJ n (pw n a b) w,pwMu,⟨bR,o,a,b,rfl,⟨e2,e3⟩,ha,hb,e4⟩,?_⟩
 generalize hR:pw n a b = R at *
 clear e1 e2 e3 e4 o hb ha
 rintro _ _ w1 ⟨hb1,out,x,c,rfl,ho,hx,hc,hinv⟩
 have hz:=hb1.size
 by_cases h0:c = 0
 ·subst h0
  rw [Int.pow_zero,Int.mul_one,Int.emod_eq_of_lt ho.1 ho.2] at hinv
  refine Xa0 ?_
  rw [hinv]
  exact k _ hb1
 ·have hm:bits .and .u64 (c:Int) 1 = ((c % 2:Nat):Int):=by
   rw [mask64 1 c 1 (by omega) (by decide) (by omega)]; omega
  have hsh:(c:Int) / 2 = ((c / 2:Nat):Int):=by omega
  have h1:=pw_even n x out c
  have h3:=pw_odd n x out c
  obtain ⟨m,hm2⟩:∃ m,m = c % 2:=⟨_,rfl⟩
  rw [← hm2] at hm h1 h3
  obtain ⟨d,hd⟩:∃ d,d = c / 2:=⟨_,rfl⟩
  rw [← hd] at hsh h1 h3
  refine Xa0 ?_
  refine ⟨PwM n R x c w,?_,?_⟩
  ·repeat (any_goals (first
   | (with_reducible ((refine idCond ?_); refine yP (fun hg=>?_) fun hg=>?_))
   | ((with_reducible refine oG fun X Y=>?_); simp [go_sem,hm]; apply Y; clear Y X)))
   ·refine product_ok n out x hn' ho hx ?_
    intro w2 hb2
    skip
    refine ⟨hb1.trans (hb2.mono hz),_,rfl,⟨Int.emod_nonneg _ (by omega),Int.emod_lt_of_pos _ (by omega)⟩,?_⟩
    rw [← hd,h3 (by omega)]; exact hinv
   ·refine ⟨hb1,_,rfl,ho,?_⟩
    rw [← hd,h1 (by omega)]; exact hinv
  ·rintro _ _ w2 ⟨hb2,out',rfl,ho',hi'⟩
   have hz2:=hb2.size
   refine product_ok n x x hn' hx hx ?_
   intro w3 hb3
   refine Xa @hsh ?_
   refine ⟨⟨hb2.trans (hb3.mono hz2),_,_,_,rfl,ho',⟨Int.emod_nonneg _ (by omega),Int.emod_lt_of_pos _ (by omega)⟩,by omega,by rw [hd]; exact hi'⟩,?_⟩
   simp only [pwMu_eq]
   omega
theorem Add_ok (n a b:Int) (h:K (.int .i64 (addM n a b)) w):callM Tryz.prog 42 #[.int .i64 n,.int .i64 a,.int .i64 b] K w:=by
 apply sh_42_ok
 unfold sh_42
 refine valid_ok n ?_
 by_cases hn:okN n
 ·have hn':=hn
  obtain ⟨h1,h2⟩:=hn'
  have ha:=Int.emod_nonneg a (b:=n) (by omega)
  have ha2:=Int.emod_lt_of_pos a (b:=n) (by omega)
  have hb:=Int.emod_nonneg b (b:=n) (by omega)
  have hb2:=Int.emod_lt_of_pos b (b:=n) (by omega)
  have e:=addM_eq n a b hn
  have e2:=addM_range n a b hn
  have e1:(a % n + b % n).tmod n = (a % n + b % n) % n:=Int.tmod_eq_emod_of_nonneg (by omega)
  rw [e] at e1
  refine Xa @hn ?_
  refine residue_ok n a hn ?_
  refine residue_ok n b hn ?_
  generalize a % n = x at *
  generalize b % n = y at *
  generalize addM n a b = z at *
  refine Xa @e1 ?_
  exact h
 ·rw [addM,if_neg hn] at h
  refine Xa @hn ?_
  exact h
theorem Sub_ok (n a b:Int) (h:K (.int .i64 (subM n a b)) w):callM Tryz.prog 48 #[.int .i64 n,.int .i64 a,.int .i64 b] K w:=by
 apply sh_48_ok
 unfold sh_48
 refine valid_ok n ?_
 by_cases hn:okN n
 ·have hn':=hn
  obtain ⟨h1,h2⟩:=hn'
  have ha:=Int.emod_nonneg a (b:=n) (by omega)
  have ha2:=Int.emod_lt_of_pos a (b:=n) (by omega)
  have hb:=Int.emod_nonneg b (b:=n) (by omega)
  have hb2:=Int.emod_lt_of_pos b (b:=n) (by omega)
  have e:=subM_eq n a b hn
  have e2:=subM_range n a b hn
  have e1:(a % n + n - b % n).tmod n = (a % n + n - b % n) % n:=Int.tmod_eq_emod_of_nonneg (by omega)
  rw [e] at e1
  refine Xa @hn ?_
  refine residue_ok n a hn ?_
  refine Xa0 ?_
  refine residue_ok n b hn ?_
  generalize a % n = x at *
  generalize b % n = y at *
  generalize subM n a b = z at *
  refine Xa @e1 ?_
  exact h
 ·rw [subM,if_neg hn] at h
  refine Xa @hn ?_
  exact h
theorem Mul_ok (n a b:Int) (k:∀ w',Bw w w' → K (.int .i64 (mulM n a b)) w'):callM Tryz.prog 43 #[.int .i64 n,.int .i64 a,.int .i64 b] K w:=by
 apply sh_43_ok
 unfold sh_43
 refine valid_ok n ?_
 by_cases hn:okN n
 ·have hn':=hn
  obtain ⟨h1,h2⟩:=hn'
  have ha:=Int.emod_nonneg a (b:=n) (by omega)
  have ha2:=Int.emod_lt_of_pos a (b:=n) (by omega)
  have hb:=Int.emod_nonneg b (b:=n) (by omega)
  have hb2:=Int.emod_lt_of_pos b (b:=n) (by omega)
  have e:=mulM_eq n a b hn
  have e2:=mulM_range n a b hn
  refine Xa @hn ?_
  refine residue_ok n a hn ?_
  refine residue_ok n b hn ?_
  refine product_ok n _ _ hn ⟨ha,ha2⟩ ⟨hb,hb2⟩ ?_
  intro w1 hb1
  rw [e]
  have k:=k w1 hb1
  generalize mulM n a b = z at *
  refine Xa0 ?_
  exact k
 ·rw [mulM,if_neg hn] at k
  refine Xa @hn ?_
  exact k _ (bR)
def InJ (n:Int) (E:Int × Int) (w:World) (l:List Value) (w':World):Prop:=Bw w w' ∧ ∃ (v:Value) (r s x y:Int),l = [v,.int .i64 r,.int .i64 s,.int .i64 x,.int .i64 y] ∧ (0 ≤ s ∧ s < n) ∧ (0 ≤ r ∧ r ≤ n) ∧ (0 ≤ x ∧ x < 2305843009213693952) ∧ (0 ≤ y ∧ y < 2305843009213693952) ∧ eucAll n r s x y = E
def inMu (l:List Value) (_:World):Nat:=match l with | [_,_,.int _ s,_,_]=>s.toNat | _=>0
theorem inMu_eq (v r x y:Value) (k:IntKind) (s:Int) (w:World):inMu [v,r,.int k s,x,y] w = s.toNat:=rfl
theorem eucAll_zero (n r x y:Int):eucAll n r 0 x y = (r,x):=euc_zero n _ r x y
theorem Inv_ok (n a:Int) (k:∀ w',Bw w w' → K (.tuple #[.int .i64 ((invM n a).getD 0),.bool (invM n a).isSome]) w'):callM Tryz.prog 143 #[.int .i64 n,.int .i64 a] K w:=by
 apply sh_143_ok
 unfold sh_143
 refine valid_ok n ?_
 by_cases hn:okN n
 ·have hn':=hn
  obtain ⟨h1,h2⟩:=hn'
  have ha:=Int.emod_nonneg a (b:=n) (by omega)
  have ha2:=Int.emod_lt_of_pos a (b:=n) (by omega)
  have kk:∀ r x w',(r,x) = eucAll n n (a % n) 0 1 → Bw w w' → K (.tuple #[.int .i64 (if r = 1 then x % n else 0),.bool (decide (r = 1))]) w':=fun r x w' e hb=>by
   have k:=k w' hb
   unfold invM at k
   rw [if_pos hn,← e] at k
   by_cases hr:r = 1
   ·simpa [hr] using k
   ·simpa [hr] using k
  clear k
  refine Xa @hn ?_
  refine residue_ok n a hn ?_
  generalize a % n = s0 at *
  generalize hE:eucAll n n s0 0 1 = E at *
  refine Xa0 ?_
  refine ⟨InJ n E w,inMu,⟨bR,_,n,s0,0,1,rfl,⟨ha,ha2⟩,⟨by omega,by omega⟩,⟨by omega,by omega⟩,⟨by omega,by omega⟩,hE⟩,?_⟩
  clear hE ha ha2 s0
  rintro _ _ w1 ⟨hb1,v,r,s,x,y,rfl,hs,hr,hx,hy,he⟩
  have hz:=hb1.size
  by_cases h0:s = 0
  ·subst h0
   rw [eucAll_zero] at he
   have kk:=kk r x w1 he hb1
   have e1:x.tmod n = x % n:=Int.tmod_eq_emod_of_nonneg hx.1
   by_cases hr1:r = 1
   ·simp only [hr1] at kk
    refine Xa (An2 @hr1 @e1) ?_
    simpa using kk
   ·simp only [hr1] at kk
    refine Xa @hr1 ?_
    simpa using kk
  ·rw [euc_step n r s x y (by omega)] at he
   have q1:r.tdiv s = r / s:=Int.tdiv_eq_ediv_of_nonneg hr.1
   have q2:=Int.emod_add_mul_ediv r s
   have q3:=Int.emod_nonneg r (b:=s) (by omega)
   have q4:=Int.emod_lt_of_pos r (b:=s) (by omega)
   have q5:0 ≤ r / s:=Int.ediv_nonneg hr.1 hs.1
   have q6:r / s ≤ r:=Int.ediv_le_self _ hr.1
   have q7:r / s * s = r - r % s:=by rw [Int.mul_comm]; omega
   have m1:=mulM_range n (r / s) y hn
   have m2:=subM_range n x (mulM n (r / s) y) hn
   generalize r % s = t at *
   generalize r / s = q at *
   clear q2
   have q8:r - (r - t) = t:=by omega
   refine Xa (An3 @q1 @q7 @q8) ?_
   refine Mul_ok n q y (fun w2 hb2=>?_)
   refine Sub_ok n x _ ?_
   generalize subM n x (mulM n q y) = z at *
   refine Xa0 ?_
   refine ⟨⟨hb1.trans (hb2.mono hz),_,s,t,y,z,rfl,⟨q3,by omega⟩,⟨hs.1,by omega⟩,hy,⟨m2.1,by omega⟩,he⟩,?_⟩
   simp only [inMu_eq]
   omega
 ·have k:=k _ (bR)
  unfold invM at k
  rw [if_neg hn] at k
  refine Xa @hn ?_
  exact k
theorem Pow_ok (n a b:Int) (hbr:-9223372036854775808 ≤ b ∧ b < 9223372036854775808) (k:∀ w',Bw w w' → K (.int .i64 (powM n a b)) w'):callM Tryz.prog 170 #[.int .i64 n,.int .i64 a,.int .i64 b] K w:=by
 apply sh_170_ok
 unfold sh_170
 refine valid_ok n ?_
 unfold powM at k
 by_cases hn:okN n
 ·have hn':=hn
  obtain ⟨h1,h2⟩:=hn'
  rw [if_pos hn] at k
  by_cases h0:0 ≤ b
  ·rw [if_pos h0] at k
   have ha:=Int.emod_nonneg a (b:=n) (by omega)
   have ha2:=Int.emod_lt_of_pos a (b:=n) (by omega)
   obtain ⟨c,rfl⟩:=natN b h0
   rw [Int.toNat_natCast,← pw_emod] at k
   refine Xa @hn ?_
   refine residue_ok n a hn ?_
   generalize a % n = x at *
   refine Xa0 ?_
   refine power_ok n x c hn ⟨ha,ha2⟩ (by omega) (fun w1 hb1=>?_)
   have hr:=pw_nonneg n x c (by omega)
   have k:=k w1 hb1
   generalize pw n x c = z at *
   refine Xa0 ?_
   exact k
  ·rw [if_neg h0] at k
   refine Xa @hn ?_
   refine Inv_ok n a (fun w1 hb1=>?_)
   have hz:=hb1.size
   cases hi:invM n a with
   | none=>
    rw [hi] at k
    have k:=k w1 hb1
    refine Xa0 ?_
    exact k
   | some x=>
    rw [hi] at k
    have hx:0 ≤ x ∧ x < n:=by
     unfold invM at hi
     rw [if_pos hn] at hi
     split at hi
     ·cases hi; exact ⟨Int.emod_nonneg _ (by omega),Int.emod_lt_of_pos _ (by omega)⟩
     ·cases hi
    obtain ⟨c,hc⟩:=natN (-b) (by omega)
    rw [hc,Int.toNat_natCast] at k
    have hw:IntKind.u64.wrap (-(IntKind.u64.wrap b)) = (c:Int):=by
     simp only [IntKind.wrap_u64]; omega
    have hw2:b % 18446744073709551616 = b + 18446744073709551616:=by omega
    simp only [Option.getD_some,Option.isSome_some]
    refine Xa @hw ?_
    refine power_ok n x c hn hx (by omega) (fun w2 hb2=>?_)
    have hr:=pw_nonneg n x c (by omega)
    have k:K (.int .i64 (pw n x c)) w2:=k w2 (hb1.trans (hb2.mono hz))
    generalize pw n x c = z at *
    refine Xa0 ?_
    exact k
 ·rw [if_neg hn] at k
  refine Xa @hn ?_
  exact k _ (bR)
def DbT (w:World):Prop:=2 < w.heap.size ∧ ∀ j,j < 64 → w.cell? ⟨2,j,none⟩ = some (.int .u8 (Lib.deBruijn64tab.getD j 0:Nat))
theorem DbT.below {w w':World} {B:Nat} (h:DbT w) (hb:Below B w w') (hB:w.heap.size ≤ B):DbT w':=
 ⟨lL h.1 hb.size,fun j hj=>by rw [hb.cell (show 2 < B from lL h.1 hB)]; exact h.2 j hj⟩
theorem tz_ctz (k m:Nat):tz k m = Lib.ctzFrom k m:=by
 induction k generalizing m with
 | zero=>rfl
 | succ k ih=>
  unfold tz Lib.ctzFrom
  rw [ih]
  by_cases h:m % 2 = 0
  ·rw [if_pos h,if_neg (by omega),Nat.add_comm]
  ·rw [if_neg h,if_pos (by omega)]
theorem tz_key (q:Nat):IntKind.u64.wrap ((q:Int) * 285870213051353865) / 288230376151711744 = ((q * 285870213051353865 % 18446744073709551616 / 288230376151711744:Nat):Int):=by
 rw [IntKind.wrap_u64]; omega
theorem idx_tab {j:Nat} (hj:j < 64) (w:World):(Instr.indexAt 244 (.pointer (some ⟨2,0,none⟩)) (.int .u64 j)).run Tryz.prog w = .ok (.pointer (some ⟨2,j,none⟩)) w:=by
 rw [run_indexAt_array (h:=by kernel_rfl)]
 have hs:(sizeOf (Tryz.prog.elem 244)).run Tryz.prog w = .ok 1 w:=by kernel_rfl
 have hl:Tryz.prog.arrayLen 244 = 64:=by kernel_rfl
 rw [hl,if_pos (by omega),hs]
 simp only [Result.andThen,Int.toNat_natCast,add_none,Nat.zero_add,Nat.mul_one]
theorem tz64_ok (x:Nat) (hx0:0 < x) (hx:x < 18446744073709551616) (hT:DbT w) (h:K (.int .i64 (tz 64 x:Nat)) w):callM Tryz.prog 220 #[.int .u64 (x:Int)] K w:=by
 apply sh_220_ok
 unfold sh_220
 obtain ⟨hlow,hk⟩:=Lib.lowest_bit 64 x (by omega) (by omega)
 obtain ⟨hi,htab⟩:=Lib.deBruijn64_at _ hk
 have e0:Lib.ctz 64 x = tz 64 x:=by rw [tz_ctz,Lib.ctz,if_neg (by omega)]
 rw [e0] at hlow htab hi
 have e1:IntKind.u64.wrap (-(x:Int)) = ((18446744073709551616 - x:Nat):Int):=by rw [IntKind.wrap_u64]; omega
 have e2:bits .and .u64 (x:Int) ((18446744073709551616 - x:Nat):Int) = ((2 ^ tz 64 x:Nat):Int):=by
  rw [bits_and64 _ _ (by omega) (by omega),Int.toNat_natCast,Int.toNat_natCast]
  exact congrArg _ hlow
 have e3:=tz_key (2 ^ tz 64 x)
 have hc:=hT.2 _ hi
 rw [htab] at hc
 have hix:=idx_tab hi w
 generalize 2 ^ tz 64 x * 285870213051353865 % 18446744073709551616 / 288230376151711744 = j at *
 generalize (2 ^ tz 64 x:Nat) = q at *
 have hk2:tz 64 x < 64:=by rw [← e0]; exact hk
 generalize tz 64 x = t at *
 repeat (any_goals (first
 | (rw [kI,oM_indexAddr,hix,rM_ok])
 | (with_reducible refine yO ?_)
 | ((with_reducible refine oG fun X Y=>?_); simp [go_sem,e1,e2,e3,hc]; (try simp (disch:=omega) only [wrapI64,wrapU8,wrapU32,wrapU64]); apply Y; clear Y X)))
 exact h
def WiJ (n:Int) (k:Nat) (R:Bool) (w:World) (l:List Value) (w':World):Prop:=Bw w w' ∧ ∃ (v:Value) (x:Int) (i:Nat),l = [v,.int .u64 x,.int .i64 (i:Int)] ∧ i ≤ k ∧ (0 ≤ x ∧ x < n) ∧ mrUp n (k - i) x = R
def wiMu (k:Nat) (l:List Value) (_:World):Nat:=match l with | [_,_,.int _ i]=>k - i.toNat | _=>0
theorem wiMu_eq (k:Nat) (x y:Value) (q:IntKind) (i:Int) (w:World):wiMu k [x,y,.int q i] w = k - i.toNat:=rfl
theorem witness_ok (n b:Int) (hn:okN n) (h2:2 ≤ n) (hb:0 ≤ b ∧ b < n) (hT:DbT w) (k:∀ w',Bw w w' → K (.bool (!passes n b)) w'):callM Tryz.prog 202 #[.int .i64 n,.int .u64 b] K w:=by
 apply sh_202_ok
 unfold sh_202
 have hn':=hn
 obtain ⟨h1,h3⟩:=hn'
 obtain ⟨m,hm⟩:=natN (n - 1) (by omega)
 have hm2:(n - 1).toNat = m:=by omega
 have ht:=tz_lt 64 m (by omega) (by omega)
 obtain ⟨t,htt⟩:∃ t,t = tz 64 m:=⟨_,rfl⟩
 have ht64:t < 64:=by rw [htt]; exact ht.1
 clear ht
 have hsh:((m:Int)) / 2 ^ t = ((m / 2 ^ t:Nat):Int):=by rw [Int.natCast_ediv,Int.natCast_pow]; rfl
 have hdl:=Nat.div_le_self m (2 ^ t)
 have rr:=fun x=>oM_shr64 (P:=Tryz.prog) 150 3 150 .i64 x (t:Int) (by omega) (by omega)
 simp only [Int.toNat_natCast] at rr
 refine Xa @hm ?_
 refine tz64_ok m (by omega) (by omega) hT ?_
 rw [← htt]
 obtain ⟨d,hd⟩:∃ d,d = m / 2 ^ t:=⟨_,rfl⟩
 rw [← hd] at hsh hdl
 have k:∀ w',Bw w w' → K (.bool (!(if pw n b d = 1 then true else mrUp n t (pw n b d)))) w':=by
  rw [hd,htt,← hm2]; exact k
 have hp:=pw_nonneg n b d (by omega)
 refine Xa (An3 @hm @rr @hsh) ?_
 refine power_ok n b d hn hb (by omega) (fun w1 hb1=>?_)
 generalize pw n b d = x at *
 have hz:=hb1.size
 by_cases hx1:x = 1
 ·have k:K (.bool false) w1:=by
   have k:=k w1 hb1
   rw [if_pos hx1] at k
   exact k
  rw [hx1]
  clear rr hsh hdl
  refine Xa0 ?_
  exact k
 ·have k:∀ w',Bw w w' → K (.bool (!mrUp n t x)) w':=fun w' hb=>by
   have k:=k w' hb
   rw [if_neg hx1] at k
   exact k
  clear rr hsh hdl
  refine Xa @hx1 ?_
  refine ⟨WiJ n t (mrUp n t x) w,wiMu t,⟨hb1,_,x,0,rfl,by omega,hp,rfl⟩,?_⟩
  generalize mrUp n t x = R at *
  clear hp hx1 hb1 hz w1
  rintro _ _ w1 ⟨hb1,v,y,i,rfl,hi,hx,hR⟩
  have hz:=hb1.size
  by_cases hit:i = t
  ·subst hit
   rw [Nat.sub_self] at hR
   have hR2:R = false:=by rw [← hR]; rfl
   subst hR2
   refine Xa0 ?_
   exact k _ hb1
  ·obtain ⟨j,hj⟩:∃ j,t - i = j + 1:=⟨t - i - 1,by omega⟩
   rw [hj] at hR
   unfold mrUp at hR
   by_cases hxn:y = n - 1
   ·rw [if_pos hxn] at hR
    subst hR
    have k:=k _ hb1
    rw [hm] at hxn
    refine Xa (An2 @hm @hxn) ?_
    simpa using k
   ·rw [if_neg hxn] at hR
    rw [hm] at hxn
    refine Xa (An2 @hm @hxn) ?_
    refine product_ok n y y hn hx hx (fun w2 hb2=>?_)
    refine Xa0 ?_
    refine ⟨⟨hb1.trans (hb2.mono hz),_,_,i + 1,rfl,by omega,⟨Int.emod_nonneg _ (by omega),Int.emod_lt_of_pos _ (by omega)⟩,?_⟩,?_⟩
    ·rw [show t - (i + 1) = j by omega]; exact hR
    ·simp only [wiMu_eq]; omega
def smallV:Array Value:=#[.int .i64 2,.int .i64 3,.int .i64 5,.int .i64 7,.int .i64 11,.int .i64 13,.int .i64 17,.int .i64 19,.int .i64 23,.int .i64 29,.int .i64 31,.int .i64 37]
def PrJ (n:Int) (W:World) (l:List Value) (w':World):Prop:=w' = W ∧ ∃ (v u:Value) (i:Nat),l = [v,u,.int .i64 (i:Int)] ∧ i ≤ 12 ∧ smallP.find? (fun p=>decide (n % p = 0)) = (smallP.drop i).find? (fun p=>decide (n % p = 0))
def PrJ2 (n:Int) (W:World) (l:List Value) (w':World):Prop:=Bw W w' ∧ ∃ (v u:Value) (i:Nat),l = [v,u,.int .i64 (i:Int)] ∧ i ≤ 12 ∧ smallP.all (fun p=>passes n p) = (smallP.drop i).all (fun p=>passes n p)
def prMu (l:List Value) (_:World):Nat:=match l with | [_,_,.int _ i]=>12 - i.toNat | _=>0
theorem prMu_eq (x y:Value) (q:IntKind) (i:Int) (w:World):prMu [x,y,.int q i] w = 12 - i.toNat:=rfl
theorem small_at (i:Nat) (hi:i < 12):∃ p,(∀ w,(Instr.index 208 (.agg smallV) (.int .i64 (i:Int))).run Tryz.prog w = .ok (.int .i64 p) w) ∧ smallP.drop i = p :: smallP.drop (i + 1) ∧ 2 ≤ p ∧ p ≤ 37:=by
 rcases i with _ | _ | _ | _ | _ | _ | _ | _ | _ | _ | _ | _ | i
 ·exact ⟨2,fun w=>by kernel_rfl,rfl,by decide,by decide⟩
 ·exact ⟨3,fun w=>by kernel_rfl,rfl,by decide,by decide⟩
 ·exact ⟨5,fun w=>by kernel_rfl,rfl,by decide,by decide⟩
 ·exact ⟨7,fun w=>by kernel_rfl,rfl,by decide,by decide⟩
 ·exact ⟨11,fun w=>by kernel_rfl,rfl,by decide,by decide⟩
 ·exact ⟨13,fun w=>by kernel_rfl,rfl,by decide,by decide⟩
 ·exact ⟨17,fun w=>by kernel_rfl,rfl,by decide,by decide⟩
 ·exact ⟨19,fun w=>by kernel_rfl,rfl,by decide,by decide⟩
 ·exact ⟨23,fun w=>by kernel_rfl,rfl,by decide,by decide⟩
 ·exact ⟨29,fun w=>by kernel_rfl,rfl,by decide,by decide⟩
 ·exact ⟨31,fun w=>by kernel_rfl,rfl,by decide,by decide⟩
 ·exact ⟨37,fun w=>by kernel_rfl,rfl,by decide,by decide⟩
 ·omega
theorem build_small:oM Tryz.prog (Go.Op.build 208 #[(0,(.tmp 0)),(1,(.tmp 1)),(2,(.tmp 2)),(3,(.tmp 3)),(4,(.tmp 4)),(5,(.tmp 5)),(6,(.tmp 6)),(7,(.tmp 7)),(8,(.tmp 8)),(9,(.tmp 9)),(10,(.tmp 10)),(11,(.tmp 11))]) 208 smallV.toList = pureM (.agg smallV):=by
 funext K w
 kernel_rfl
theorem Prime_ok (n:Int) (hT:DbT w) (k:∀ w',Bw w w' → K (.bool (primeM n)) w'):callM Tryz.prog 169 #[.int .i64 n] K w:=by
 apply sh_169_ok
 unfold sh_169
 unfold primeM at k
 by_cases h1:n < 2
 ·rw [if_pos (.inl h1)] at k
  refine Xa @h1 ?_
  exact k _ (bR)
 by_cases h2:2305843009213693952 ≤ n
 ·rw [if_pos (.inr h2)] at k
  refine Xa (An2 @h1 @h2) ?_
  exact k _ (bR)
 rw [if_neg (by omega)] at k
 have hn:okN n:=⟨by omega,by omega⟩
 refine Xa (An2 @h1 @h2) ?_
 have bs:=build_small
 unfold smallV at bs
 simp only at bs
 refine Xa @bs ?_
 clear bs
 have hbW:Below w.heap.size w (w.alloc (Obj.cells #[.int .i64 2,.int .i64 3,.int .i64 5,.int .i64 7,.int .i64 11,.int .i64 13,.int .i64 17,.int .i64 19,.int .i64 23,.int .i64 29,.int .i64 31,.int .i64 37] 208)):=(bR).alloc (rL) _
 have hTW:DbT (w.alloc (Obj.cells #[.int .i64 2,.int .i64 3,.int .i64 5,.int .i64 7,.int .i64 11,.int .i64 13,.int .i64 17,.int .i64 19,.int .i64 23,.int .i64 29,.int .i64 31,.int .i64 37] 208)):=hT.below hbW (rL)
 refine ⟨PrJ n (w.alloc (Obj.cells #[.int .i64 2,.int .i64 3,.int .i64 5,.int .i64 7,.int .i64 11,.int .i64 13,.int .i64 17,.int .i64 19,.int .i64 23,.int .i64 29,.int .i64 31,.int .i64 37] 208)),prMu,⟨rfl,_,_,0,rfl,by omega,rfl⟩,?_⟩
 rintro _ _ w1 ⟨e1,v,u,i,rfl,hi,hf⟩
 rw [e1]
 clear e1 w1
 by_cases h12:i = 12
 ·subst h12
  rw [show smallP.drop 12 = [] from rfl,List.find?_nil] at hf
  rw [hf] at k
  simp only at k
  have hnd:=List.find?_eq_none.1 hf
  have hbig:37 < n:=by
   have g:∀ p ∈ smallP,¬ n % p = 0:=fun p hp=>by simpa using hnd p hp
   have hs:∀ m:Nat,m < 38 → 2 ≤ m → ∃ p ∈ smallP,(m:Int) % p = 0:=by decide +kernel
   obtain ⟨m,rfl⟩:=natN n (by omega)
   by_cases hm:m < 38
   ·obtain ⟨p,hp,hp0⟩:=hs m hm (by omega)
    exact absurd hp0 (g p hp)
   ·omega
  clear hnd hf
  refine Xa0 ?_
  refine ⟨PrJ2 n (w.alloc (Obj.cells #[.int .i64 2,.int .i64 3,.int .i64 5,.int .i64 7,.int .i64 11,.int .i64 13,.int .i64 17,.int .i64 19,.int .i64 23,.int .i64 29,.int .i64 31,.int .i64 37] 208)),prMu,⟨bR,_,_,0,rfl,by omega,rfl⟩,?_⟩
  rintro _ _ w2 ⟨hb2,v2,u2,i,rfl,hi2,hall⟩
  have hb3:=hbW.trans (hb2.mono (by simp))
  have hT2:DbT w2:=hTW.below hb2 (rL)
  by_cases hi12:i = 12
  ·subst hi12
   rw [show smallP.drop 12 = [] from rfl,List.all_nil] at hall
   rw [hall] at k
   refine Xa0 ?_
   exact k _ hb3
  ·obtain ⟨p,hix,hdr,hp2,hp37⟩:=small_at i (by omega)
   unfold smallV at hix
   rw [hdr,List.all_cons] at hall
   have hz2:=hb2.size
   refine Xa @hix ?_
   refine witness_ok n p hn (by omega) ⟨by omega,by omega⟩ hT2 (fun w3 hb4=>?_)
   cases hps:passes n p with
   | false=>
    rw [hps,bF] at hall
    rw [hall] at k
    simp only [Bool.not_false]
    refine Xa0 ?_
    exact k _ (hb3.trans (hb4.mono hb3.size))
   | true=>
    rw [hps,bT] at hall
    simp only [Bool.not_true]
    refine Xa0 ?_
    refine ⟨⟨hb2.trans (hb4.mono hz2),_,_,i + 1,rfl,by omega,hall⟩,?_⟩
    simp only [prMu_eq]; omega
 ·obtain ⟨p,hix,hdr,hp2,hp37⟩:=small_at i (by omega)
  unfold smallV at hix
  rw [hdr] at hf
  have er:n.tmod p = n % p:=Int.tmod_eq_emod_of_nonneg (by omega)
  by_cases hd:n % p = 0
  ·rw [List.find?_cons_of_pos (by simpa using hd)] at hf
   rw [hf] at k
   have k:=k _ hbW
   simp only at k
   refine Xa (An3 @hix @er @hd) ?_
   exact k
  ·rw [List.find?_cons_of_neg (by simpa using hd)] at hf
   refine Xa (An3 @hix @er @hd) ?_
   refine ⟨⟨rfl,_,_,i + 1,rfl,by omega,hf⟩,?_⟩
   simp only [prMu_eq]; omega
@[reducible] def grpV (g:Grp):Value:=.agg #[.int .i64 g.P,.int .i64 g.Q,.int .i64 g.G]
def GrpR (g:Grp):Prop:=I64 g.P ∧ I64 g.Q ∧ I64 g.G
theorem validG_not {g:Grp} (h:g.Q < 5 ∨ 1152921504606846976 ≤ g.Q ∨ g.P ≠ 2 * g.Q + 1 ∨ g.G < 2 ∨ g.P ≤ g.G):validG g = false:=by
 unfold validG; rw [if_pos h]
theorem validG_yes {g:Grp} (h:¬ (g.Q < 5 ∨ 1152921504606846976 ≤ g.Q ∨ g.P ≠ 2 * g.Q + 1 ∨ g.G < 2 ∨ g.P ≤ g.G)):validG g = (primeM g.Q && primeM g.P && decide (pw g.P g.G g.Q.toNat = 1)):=by
 unfold validG; rw [if_neg h]
theorem box_grp {T T':TypeId} (g:Grp) (k:∀ b W,Bw w W → w.heap.size ≤ b → (∀ w',Bw W w' → w'.cell? ⟨b,0,none⟩ = some (.int .i64 g.P)) → (∀ w',Bw W w' → w'.cell? ⟨b,1,none⟩ = some (.int .i64 g.Q)) → (∀ w',Bw W w' → w'.cell? ⟨b,2,none⟩ = some (.int .i64 g.G)) → K (.pointer (some ⟨b,0,none⟩)) W):oM Tryz.prog (.box T (.tmp 0)) T' [grpV g] K w:=
 box_in (cs:=[.int .i64 g.P,.int .i64 g.Q,.int .i64 g.G]) rfl fun b W h1 h2 hB=>k b W h1 h2 (fun w' h=>hB w' h 0 _ rfl) (fun w' h=>hB w' h 1 _ rfl) (fun w' h=>hB w' h 2 _ rfl)
set_option maxHeartbeats 2000000 in
theorem ValidGroup_ok (g:Grp) (hg:GrpR g) (hT:DbT w) (k:∀ w',Bw w w' → K (.bool (validG g)) w'):callM Tryz.prog 107 #[grpV g] K w:=by
 apply sh_107_ok
 unfold sh_107
 refine box_grp g fun b W hW hb c0 c1 c2=>?_
 have n1:=validG_not (g:=g)
 have n2:=validG_yes (g:=g)
 obtain ⟨P,Q,G⟩:=g
 obtain ⟨hP,hQ,hG⟩:=hg
 unfold I64 at hP hQ hG
 simp only at hP hQ hG n1 n2 c0 c1 c2
 have hr:=Below.refl W.heap.size W
 have hTW:DbT W:=hT.below hW (rL)
 have k1:∀ w',validG ⟨P,Q,G⟩ = false → Bw W w' → K (.bool false) w':=fun w' e hb=>by rw [e] at k; exact k w' (hW.on hb)
 have k2:∀ w' v,validG ⟨P,Q,G⟩ = v → Bw W w' → K (.bool v) w':=fun w' v e hb=>by rw [e] at k; exact k w' (hW.on hb)
 clear k
 repeat (any_goals (first
 | (with_reducible first|((refine idGd ?_); first|refine zD ?_|((refine idGdD ?_); first|refine zI ?_|refine zJ ?_|refine zK (fun hg=>?_) fun hg=>?_)|((refine idGdN ?_); first|refine zO ?_|refine zP ?_|refine zQ (fun hg=>?_) fun hg=>?_))|((refine idPick ?_); first|refine yB ?_|refine yD ?_|refine yE ?_|refine yF ?_|refine yG ?_)|((refine idCond ?_); first|refine yL ?_|refine yP (fun hg=>?_) fun hg=>?_))
 | ((with_reducible refine oG fun X Y=>?_); simp [go_sem,c0,c1,c2,hr]; (try simp (disch:=omega) only [wrapI64,wrapU8,wrapU32,wrapU64]); apply Y; clear Y X)))
 all_goals try exact k1 _ (n1 (by omega)) hr
 refine Prime_ok Q hTW (fun w1 h1=>?_)
 have n2:=n2 (by omega)
 cases hq:primeM Q with
 | false=>
  have n2:validG ⟨P,Q,G⟩ = false:=by rw [n2,hq]; rfl
  refine Xa0 ?_
  exact k1 _ n2 h1
 | true=>
  rw [hq,bT] at n2
  refine Xa (An2 @c0 @h1) ?_
  refine Prime_ok P (hTW.below h1 (rL)) (fun w2 h2=>?_)
  have h2:=h1.on h2
  cases hp:primeM P with
  | false=>
   have n2:validG ⟨P,Q,G⟩ = false:=by rw [n2,hp]; rfl
   refine Xa0 ?_
   exact k1 _ n2 h2
  | true=>
   rw [hp,bT] at n2
   refine Xa (An4 @c0 @c1 @c2 @h2) ?_
   refine Pow_ok P G Q hQ (fun w3 h3=>?_)
   have e:powM P G Q = pw P G Q.toNat:=by unfold powM; rw [if_pos (by unfold okN; omega),if_pos (by omega)]
   rw [e]
   generalize pw P G Q.toNat = z at *
   have h3:=h2.on h3
   refine Xa0 ?_
   exact k2 _ _ n2 h3
theorem Element_ok (g:Grp) (x:Int) (hgr:GrpR g) (hT:DbT w) (k:∀ w',Bw w w' → K (.bool (elemG g x)) w'):callM Tryz.prog 109 #[grpV g,.int .i64 x] K w:=by
 apply sh_109_ok
 unfold sh_109
 refine box_grp g fun b W hW hb c0 c1 c2=>?_
 have hr:=Below.refl W.heap.size W
 have hTW:DbT W:=hT.below hW (rL)
 have k2:∀ w' v,elemG g x = v → Bw W w' → K (.bool v) w':=fun w' v e hb=>by rw [← e]; exact k w' (hW.on hb)
 have e0:elemG g x = (decide (1 ≤ x) && decide (x < g.P) && validG g && decide (pw g.P x g.Q.toNat = 1)):=rfl
 clear k
 repeat (any_goals (first
 | (with_reducible first|refine pureM_in ?_|((refine idGd ?_); first|refine zB ?_|((refine idGdD ?_); first|refine zF ?_|refine zG ?_|refine zH (fun hg=>?_) fun hg=>?_))|((refine idPick ?_); first|refine yC ?_|refine yD ?_|refine yE ?_))
 | ((with_reducible refine oG fun X Y=>?_); simp [go_sem,c0,c1,c2,hr]; apply Y; clear Y X)))
 ·refine ValidGroup_ok g hgr hTW (fun w1 h1=>?_)
  cases hv:validG g with
  | false=>
   refine Xa0 ?_
   exact k2 _ _ (by rw [e0,hv]; simp) h1
  | true=>
   have hv2:=hv
   unfold validG at hv2
   split at hv2
   ·cases hv2
   rename_i hn
   repeat (any_goals (first
   | (with_reducible first|refine pureM_in ?_|refine zA ?_|refine yD ?_)
   | ((with_reducible refine oG fun X Y=>?_); simp [go_sem,c0,c1,h1]; apply Y; clear Y X)))
   refine Pow_ok g.P x g.Q hgr.2.1 (fun w3 h3=>?_)
   have e:powM g.P x g.Q = pw g.P x g.Q.toNat:=by unfold powM; rw [if_pos (by unfold okN; omega),if_pos (by omega)]
   rw [e]
   have e1:elemG g x = decide (pw g.P x g.Q.toNat = 1):=by rw [e0,hv]; simp; omega
   generalize pw g.P x g.Q.toNat = z at *
   repeat (any_goals (first
   | (with_reducible first|refine zA ?_|refine yB ?_)
   | ((with_reducible refine oG fun X Y=>?_); simp [go_sem]; apply Y; clear Y X)))
   exact k2 _ _ e1 (h1.on h3)
 ·exact k2 _ _ (by rw [e0]; simp; omega) hr
 ·exact k2 _ _ (by rw [e0]; simp; omega) hr
theorem Power_ok (g:Grp) (x n:Int) (k:∀ w',Bw w w' → K (.int .i64 (powerG g x n)) w'):callM Tryz.prog 46 #[grpV g,.int .i64 x,.int .i64 n] K w:=by
 apply sh_46_ok
 unfold sh_46
 refine box_grp g fun b W hW hb c0 c1 c2=>?_
 have hr:=Below.refl W.heap.size W
 have k2:∀ w' v,powerG g x n = v → Bw W w' → K (.int .i64 v) w':=fun w' v e hb=>by rw [← e]; exact k w' (hW.on hb)
 clear k
 refine Xa (An4 @c0 @c1 @c2 @hr) ?_
 refine valid_ok g.P ?_
 by_cases hp:okN g.P
 ·by_cases hq:okN g.Q
  ·refine Xa (An4 @c0 @c1 @c2 @hr) ?_
   refine valid_ok g.Q ?_
   refine Xa (An4 @c0 @c1 @c2 @hr) ?_
   refine ⟨Below W.heap.size W,.drawn,?_⟩
   have hp':=hp
   have hq':=hq
   obtain ⟨h1,h2⟩:=hp'
   obtain ⟨h3,h4⟩:=hq'
   have a1:=Int.emod_nonneg x (b:=g.P) (by omega)
   have a2:=Int.emod_lt_of_pos x (b:=g.P) (by omega)
   have a3:=Int.emod_nonneg n (b:=g.Q) (by omega)
   have a4:=Int.emod_lt_of_pos n (b:=g.Q) (by omega)
   have e0:powerG g x n = pw g.P (x % g.P) (n % g.Q).toNat:=by unfold powerG; rw [if_pos ⟨hp,hq⟩,pw_emod]
   obtain ⟨m,hm⟩:=natN (n % g.Q) a3
   rw [hm,Int.toNat_natCast] at e0
   have hr:=pw_nonneg g.P (x % g.P) m (by omega)
   refine Xc (fun W0 hW0=>An3 (c0 _ hW0) (c1 _ hW0) (c2 _ hW0)) ?_
   refine callQ_of (fun W0 hW0=>residue_ok g.P x hp ⟨rfl,hW0⟩) ?_
   refine Xc (fun W0 hW0=>An3 (c0 _ hW0) (c1 _ hW0) (c2 _ hW0)) ?_
   refine callQ_of (fun W0 hW0=>residue_ok g.Q n hq ⟨rfl,hW0⟩) ?_
   rw [hm]
   refine callQ_of (fun W0 hW0=>power_ok g.P (x % g.P) m hp ⟨a1,a2⟩ (by omega) (fun w' hw'=>⟨rfl,hW0.on hw'⟩)) ?_
   generalize pw g.P (x % g.P) m = z at *
   have e3:IntKind.i64.wrap z = z:=wrapI64 z (by omega) (by omega)
   refine Xg @e3 ?_
   intro w' hw'
   exact k2 _ _ e0 hw'
  ·have e0:powerG g x n = 0:=by unfold powerG; rw [if_neg (fun h=>hq h.2)]
   refine Xa (An4 @c0 @c1 @c2 @hr) ?_
   refine valid_ok g.Q ?_
   refine Xa (An4 @c0 @c1 @c2 @hr) ?_
   exact k2 _ _ e0 hr
 ·have e0:powerG g x n = 0:=by unfold powerG; rw [if_neg (fun h=>hp h.1)]
  refine Xa (An4 @c0 @c1 @c2 @hr) ?_
  exact k2 _ _ e0 hr
theorem Times_ok (g:Grp) (x n:Int) (k:∀ w',Bw w w' → K (.int .i64 (timesG g x n)) w'):callM Tryz.prog 178 #[grpV g,.int .i64 x,.int .i64 n] K w:=by
 apply sh_178_ok
 unfold sh_178
 refine box_grp g fun b W hW hb c0 c1 c2=>?_
 have hr:=Below.refl W.heap.size W
 have k2:∀ w' v,timesG g x n = v → Bw W w' → K (.int .i64 v) w':=fun w' v e hb=>by rw [← e]; exact k w' (hW.on hb)
 clear k
 refine Xa (An4 @c0 @c1 @c2 @hr) ?_
 refine valid_ok g.Q ?_
 by_cases hq:okN g.Q
 ·refine Xa (An4 @c0 @c1 @c2 @hr) ?_
  refine Mul_ok g.P x n (fun w1 h1=>?_)
  exact k2 _ _ (by unfold timesG; rw [if_pos hq]) h1
 ·refine Xa (An4 @c0 @c1 @c2 @hr) ?_
  exact k2 _ _ (by unfold timesG; rw [if_neg hq]) hr
def PdJ (g:Grp) (R:Int) (ps:List (Int × Int)) (W:World) (l:List Value) (w':World):Prop:=Bw W w' ∧ ∃ (v u:Value) (o:Int) (i:Nat),l = [v,u,.int .i64 o,.int .i64 (i:Int)] ∧ i ≤ ps.length ∧ prodL g o (ps.drop i) = R
def pdMu (n:Nat) (l:List Value) (_:World):Nat:=match l with | [_,_,_,.int _ i]=>n - i.toNat | _=>0
theorem pdMu_eq (n:Nat) (x y z:Value) (q:IntKind) (i:Int) (w:World):pdMu n [x,y,z,.int q i] w = n - i.toNat:=rfl
theorem zip_drop (a b:List Int) (i:Nat) (h1:i < a.length) (h2:i < b.length):(a.zip b).drop i = (a[i],b[i]) :: (a.zip b).drop (i + 1):=by
 rw [List.drop_eq_getElem_cons (by rw [List.length_zip]; omega),List.getElem_zip]
@[go_sem] theorem oM_index_ints (T:TypeId) (b o n c:Nat) (x:Int):oM Tryz.prog (.indexAddr 24 (.tmp 0) (.tmp 1)) T [.slice (some ⟨b,o,none⟩) n c,.int .i64 x] = onM (0 ≤ x ∧ x < n) (.pointer (some ⟨b,o + x.toNat,none⟩)):=by
 funext K w
 rw [oM_indexAddr,run_indexAt_slice (h:=by kernel_rfl)]
 have hs:(sizeOf (Tryz.prog.elem 24)).run Tryz.prog w = .ok 1 w:=by kernel_rfl
 by_cases hi:0 ≤ x ∧ x < n
 ·rw [if_pos hi,hs]
  simp only [Result.andThen,add_none,Nat.mul_one,rM_ok]
  exact propext ⟨fun h=>⟨hi,h⟩,fun h=>h.2⟩
 ·rw [if_neg hi]
  obtain ⟨e',w',he⟩:=halts Value Tryz.prog .i64 x n .index w
  rw [he]
  exact propext ⟨fun h=>h.elim,fun h=>hi h.1⟩
theorem Product_ok (g:Grp) {bv ev:Value} {bs es:List Int} (hbs:Ints w bv bs) (hes:Ints w ev es) (k:∀ w',Bw w w' → K (.tuple #[.int .i64 (prodG g bs es).1,.bool (prodG g bs es).2]) w'):callM Tryz.prog 126 #[grpV g,bv,ev] K w:=by
 apply sh_126_ok
 unfold sh_126
 refine box_grp g fun b W hW hb c0 c1 c2=>?_
 have hr:=Below.refl W.heap.size W
 have k2:∀ w' v,prodG g bs es = v → Bw W w' → K (.tuple #[.int .i64 v.1,.bool v.2]) w':=fun w' v e hb=>by rw [← e]; exact k w' (hW.on hb)
 clear k
 obtain ⟨bad,bc,rfl⟩:=hbs.isSlice
 obtain ⟨ead,ec,rfl⟩:=hes.isSlice
 have hbs:=hbs.next hW
 have hes:=hes.next hW
 have l1:=hbs.len
 have l2:=hes.len
 refine Xa (An4 @c0 @c1 @c2 @hr) ?_
 refine valid_ok g.P ?_
 by_cases hp:okN g.P
 ·by_cases hq:okN g.Q
  ·refine Xa (An4 @c0 @c1 @c2 @hr) ?_
   refine valid_ok g.Q ?_
   by_cases hl:bs.length = es.length
   ·have e1:(1:Int).tmod g.P = 1 % g.P:=Int.tmod_eq_emod_of_nonneg (by omega)
    have hp0:=hp.1
    have e0:prodG g bs es = (prodL g (1 % g.P) (bs.zip es),true):=by unfold prodG; rw [if_pos ⟨hp,hq,hl⟩]
    have hzl:(bs.zip es).length = bs.length:=by rw [List.length_zip]; omega
    refine Xa (An6 @c0 @c1 @c2 @hr @hl @e1) ?_
    refine ⟨PdJ g (prodL g (1 % g.P) (bs.zip es)) (bs.zip es) W,pdMu es.length,⟨hr,_,_,_,0,rfl,by omega,rfl⟩,?_⟩
    generalize prodL g (1 % g.P) (bs.zip es) = R at *
    rintro _ _ w1 ⟨h1,v,u,o,i,rfl,hi,he⟩
    rw [hzl] at hi
    by_cases hin:i = es.length
    ·rw [List.drop_of_length_le (by omega)] at he
     unfold prodL at he
     refine Xa0 ?_
     rw [he]
     exact k2 _ _ e0 h1
    ·rw [zip_drop bs es i (by omega) (by omega)] at he
     unfold prodL at he
     obtain ⟨b1,o1,rfl,hb1,ca,ra,_⟩:=hbs.at (i:=i) (by omega)
     obtain ⟨b2,o2,rfl,hb2,cb,rb,_⟩:=hes.at (i:=i) (by omega)
     refine Xa (An3 (ca _ h1) @c0 @h1) ?_
     refine ⟨Below W.heap.size W,h1.trans .drawn,?_⟩
     refine Xc (fun W0 hW0=>An4 (c0 _ hW0) (c1 _ hW0) (c2 _ hW0) (cb _ hW0)) ?_
     refine callQ_of (fun W0 hW0=>Power_ok g _ _ (fun w' hw'=>⟨rfl,hW0.on hw'⟩)) ?_
     refine callQ_of (fun W0 hW0=>Mul_ok _ _ _ (fun w' hw'=>⟨rfl,hW0.on hw'⟩)) ?_
     intro w2 h2
     refine Xa0 ?_
     refine ⟨⟨h2,_,_,_,i + 1,rfl,by rw [hzl]; omega,he⟩,?_⟩
     simp only [pdMu_eq]; omega
   ·have e0:prodG g bs es = (0,false):=by unfold prodG; rw [if_neg (fun h=>hl h.2.2)]
    have hl':¬ (bs.length:Int) = es.length:=by omega
    refine Xa (An5 @c0 @c1 @c2 @hr @hl') ?_
    exact k2 _ _ e0 hr
  ·have e0:prodG g bs es = (0,false):=by unfold prodG; rw [if_neg (fun h=>hq h.2.1)]
   refine Xa (An4 @c0 @c1 @c2 @hr) ?_
   refine valid_ok g.Q ?_
   refine Xa (An4 @c0 @c1 @c2 @hr) ?_
   exact k2 _ _ e0 hr
 ·have e0:prodG g bs es = (0,false):=by unfold prodG; rw [if_neg (fun h=>hp h.1)]
  refine Xa (An4 @c0 @c1 @c2 @hr) ?_
  exact k2 _ _ e0 hr
end
end Go.Proofs
namespace TkSpec
open FdSpec
structure Stp where
 g:Grp
 bases:List Int
 blind:Int
deriving DecidableEq
structure Bld where
 s:Int
 u:Int
 v:Int
 ys:List Int
deriving DecidableEq
structure Tkt where
 mark:Int
 first:Int
 z:Int
 a:Int
 b:Int
 r:Int
deriving DecidableEq
structure Spd where
 dare:Int
 answers:List Int
deriving DecidableEq
structure Off where
 z:Int
 a:Int
 b:Int
deriving DecidableEq
def otherM (g:Grp) (x:Int):Bool:=!decide (x = 1) && elemG g x
def validS (s:Stp):Bool:=validG s.g && decide (2 ≤ s.bases.length) && decide (s.bases.length ≤ 7) && s.bases.all (otherM s.g) && otherM s.g s.blind
def genM (s:Stp) (k:Int):Int:=powerG s.g s.g.G k
def timesM (s:Stp) (first:Int) (l:List Int):Int:=l.foldl (fun a x=>timesG s.g a x) first
def s0:Stp:=⟨⟨23,11,4⟩,[4,16,18],3⟩
def b0:Bld:=⟨4,1,0,[1,2,3]⟩
def t0:Tkt:=⟨8,18,9,16,13,0⟩
end TkSpec
namespace Go.Proofs
open Go Go.Sh Go.RowKit FdSpec TkSpec
section
variable {K:VK} {w:World}
@[reducible] def stpV (s:Stp) (v:Value):Value:=.agg #[.int .i64 s.g.P,.int .i64 s.g.Q,.int .i64 s.g.G,v,.int .i64 s.blind]
@[reducible] def stpC (s:Stp) (v:Value):List Value:=[.int .i64 s.g.P,.int .i64 s.g.Q,.int .i64 s.g.G,v,.int .i64 s.blind]
structure SetR (w:World) (s:Stp) (v:Value):Prop where
 grp:GrpR s.g
 ints:Ints w v s.bases
 blind:I64 s.blind
 db:DbT w
theorem DbT.next {w w':World} (h:DbT w) (hb:Bw w w'):DbT w':=h.below hb (rL)
theorem SetR.next {w w':World} {s:Stp} {v:Value} (h:SetR w s v) (hb:Bw w w'):SetR w' s v:=⟨h.grp,h.ints.next hb,h.blind,h.db.next hb⟩
theorem other_ok (g:Grp) (x:Int) {b:Nat} (hg:GrpR g) (hT:DbT w) (h0:w.cell? ⟨b,0,none⟩ = some (.int .i64 g.P)) (h1:w.cell? ⟨b,1,none⟩ = some (.int .i64 g.Q)) (h2:w.cell? ⟨b,2,none⟩ = some (.int .i64 g.G))
  (k:∀ w',Bw w w' → K (.bool (otherM g x)) w'):callM Tryz.prog 108 #[.int .i64 x,.pointer (some ⟨b,0,none⟩)] K w:=by
 apply sh_108_ok
 unfold sh_108
 unfold otherM at k
 by_cases hx:x = 1
 ·have k:=k w (bR)
  refine Xa (An3 @h0 @h1 @h2) ?_
  simpa [hx] using k
 ·refine Xa (An3 @h0 @h1 @h2) ?_
  refine Element_ok g x hg hT (fun w' hw=>?_)
  have k:=k w' hw
  refine Xa0 ?_
  simpa [hx] using k
def VsJ (s:Stp) (L:List (Addr × Value)) (R:Bool) (w0:World) (l:List Value) (w':World):Prop:=Kn w0 L w' ∧ ∃ (v u:Value) (i:Nat),l = [v,u,.int .i64 (i:Int)] ∧ i ≤ s.bases.length ∧ (s.bases.drop i).all (otherM s.g) = R
def vsMu (n:Nat) (l:List Value) (_:World):Nat:=match l with | [_,_,.int _ i]=>n - i.toNat | _=>0
theorem vsMu_eq (n:Nat) (x y:Value) (q:IntKind) (i:Int) (w:World):vsMu n [x,y,.int q i] w = n - i.toNat:=rfl
theorem ValidSetup_ok (s:Stp) {v:Value} (hs:SetR w s v) (k:∀ w',Bw w w' → K (.bool (validS s)) w'):callM Tryz.prog 21 #[stpV s v] K w:=by
 apply sh_21_ok
 unfold sh_21
 obtain ⟨ad,c,rfl⟩:=hs.ints.isSlice
 refine box_kn (cs:=stpC s (.slice ad s.bases.length c)) rfl (.start w) fun b W hk hb1 hb=>?_
 have k2:∀ w' r,validS s = r → Bw w w' → K (.bool r) w':=fun w' r e hb=>by rw [← e]; exact k w' hb
 have e0:validS s = (validG s.g && decide (2 ≤ s.bases.length) && decide (s.bases.length ≤ 7) && s.bases.all (otherM s.g) && otherM s.g s.blind):=rfl
 have hl:=hs.ints.len
 clear k
 refine Xa hk.cells ?_
 refine ValidGroup_ok s.g hs.grp (hs.db.next hk.below) (fun w1 h1=>?_)
 have hk:=hk.next h1
 clear h1 hb1
 cases hv:validG s.g with
 | false=>
  refine Xa0 ?_
  exact k2 _ _ (by rw [e0,hv]; simp) hk.below
 | true=>
  repeat (any_goals (first
  | (with_reducible first|((refine idGd ?_); first|refine zC ?_|((refine idGdD ?_); first|refine zI ?_|refine zJ ?_|refine zK (fun hg=>?_) fun hg=>?_))|((refine idPick ?_); first|refine yC ?_|refine yD ?_|refine yE ?_)|((refine idCond ?_); first|refine yL ?_|refine yP (fun hg=>?_) fun hg=>?_))
  | ((with_reducible refine oG fun X Y=>?_); simp [go_sem,hk.cells]; apply Y; clear Y X)))
  ·exact k2 _ _ (by rw [e0]; simp; omega) hk.below
  ·exact k2 _ _ (by rw [e0]; simp; omega) hk.below
  have e1:validS s = (s.bases.all (otherM s.g) && otherM s.g s.blind):=by
   rw [e0,hv,decide_eq_true (by omega:2 ≤ s.bases.length),decide_eq_true (by omega:s.bases.length ≤ 7)]; rfl
  refine ⟨VsJ s _ (s.bases.all (otherM s.g)) w,vsMu s.bases.length,⟨hk,_,_,0,rfl,by omega,rfl⟩,?_⟩
  generalize s.bases.all (otherM s.g) = R at *
  rintro _ _ w2 ⟨hk,u1,u2,i,rfl,hi,hall⟩
  have hc:=hk.cells
  by_cases hin:i = s.bases.length
  ·rw [List.drop_of_length_le (by omega),List.all_nil] at hall
   subst hall
   refine Xa @hc ?_
   refine oM_callv1 (by kernel_rfl) ?_
   refine other_ok s.g s.blind hs.grp (hs.db.next hk.below) hc.1 hc.2.1 hc.2.2.1 (fun w3 h3=>?_)
   exact k2 _ _ (by rw [e1,bT]) (hk.next h3).below
  ·rw [List.drop_eq_getElem_cons (by omega),List.all_cons] at hall
   obtain ⟨b1,o1,rfl,hb1,ca,ra,_⟩:=hs.ints.at (i:=i) (by omega)
   refine Xa (ca _ hk.below) ?_
   refine oM_callv1 (by kernel_rfl) ?_
   refine other_ok s.g _ hs.grp (hs.db.next hk.below) hc.1 hc.2.1 hc.2.2.1 (fun w3 h3=>?_)
   cases ho:otherM s.g s.bases[i] with
   | false=>
    rw [ho,bF] at hall
    subst hall
    refine Xa0 ?_
    exact k2 _ _ (by rw [e1,bF]) (hk.next h3).below
   | true=>
    rw [ho,bT] at hall
    refine Xa0 ?_
    refine ⟨⟨hk.next h3,_,_,i + 1,rfl,by omega,hall⟩,?_⟩
    simp only [vsMu_eq]; omega
end
section
variable {K:VK} {w w0:World} {L:List (Addr × Value)}
theorem ints_alloc (w:World) (l:List Int) (T:TypeId) (c:Nat) (hr:∀ n ∈ l,I64 n) (hl:l.length ≤ 9223372036854775807):Ints (w.alloc (.cells (l.map (Value.int .i64)).toArray T)) (.slice (some ⟨w.heap.size,0,none⟩) l.length c) l:=by
 refine ⟨⟨_,c,rfl,by simp,?_⟩,hr,hl⟩
 by_cases h0:l = []
 ·exact .inl h0
 ·refine .inr ⟨_,0,rfl,by simp,fun k x hk=>?_⟩
  rw [flat_int] at hk
  rw [Nat.zero_add]
  have:=World.cell?_alloc_at (w:=w) (l.map (Value.int .i64)).toArray T w.heap.size k rfl
  rw [this]
  simpa using hk
theorem mk1 {T:TypeId} (x:Int) (hx:I64 x) (k:∀ v W,Bw w W → Ints W v [x] → K v W):oM Tryz.prog (.buildSlice 24 1 #[(0,.tmp 0)]) T [.int .i64 x] K w:=by
 rw [oM_buildSlice1]
 have e:(Instr.buildSlice 24 1 #[(0,.int .i64 x)]).run Tryz.prog w = .ok (.slice (some ⟨w.heap.size,0,none⟩) 1 1) (w.alloc (.cells #[.int .i64 x] 3)):=by kernel_rfl
 rw [e]
 exact k _ _ ((Below.refl _ w).alloc (rL) _) (ints_alloc w [x] _ 1 (by simpa using hx) (by simp))
theorem mk2 {T:TypeId} (x y:Int) (hx:I64 x) (hy:I64 y) (k:∀ v W,Bw w W → Ints W v [x,y] → K v W):oM Tryz.prog (.buildSlice 24 2 #[(0,.tmp 0),(1,.tmp 1)]) T [.int .i64 x,.int .i64 y] K w:=by
 rw [oM_buildSlice2]
 have e:(Instr.buildSlice 24 2 #[(0,.int .i64 x),(1,.int .i64 y)]).run Tryz.prog w = .ok (.slice (some ⟨w.heap.size,0,none⟩) 2 2) (w.alloc (.cells #[.int .i64 x,.int .i64 y] 3)):=by kernel_rfl
 rw [e]
 exact k _ _ ((Below.refl _ w).alloc (rL) _) (ints_alloc w [x,y] _ 2 (by simp; exact ⟨hx,hy⟩) (by simp))
def IfJ (p:Int → Bool) (l:List Int) (R:Bool) (w0:World) (vs:List Value) (w':World):Prop:=Bw w0 w' ∧ ∃ (v u:Value) (i:Nat),vs = [v,u,.int .i64 (i:Int)] ∧ i ≤ l.length ∧ (l.drop i).any p = R
theorem IndexFunc_ok {v F:Value} {l:List Int} (p:Int → Bool) (hl:Ints w v l)
  (hF:∀ (w':World) (x:Int) (K':VK) (T:TypeId),Bw w w' → I64 x → (∀ w'',Below w'.heap.size w' w'' → K' (.bool (p x)) w'') → oM Tryz.prog (.call { callee:=.value (.tmp 0),args:=#[.tmp 1],argTypes:=#[3] }) T [F,.int .i64 x] K' w')
  (k:∀ w' (r:Int),Bw w w' → decide (0 ≤ r) = l.any p → K (.int .i64 r) w'):callM Tryz.prog 186 #[v,F] K w:=by
 apply sh_186_ok
 unfold sh_186
 obtain ⟨ad,c,rfl⟩:=hl.isSlice
 have hll:=hl.len
 refine Xa0 ?_
 refine ⟨IfJ p l (l.any p) w,vsMu l.length,⟨bR,_,_,0,rfl,by omega,rfl⟩,?_⟩
 generalize l.any p = R at *
 rintro _ _ w1 ⟨h1,u1,u2,i,rfl,hi,ha⟩
 by_cases hin:i = l.length
 ·rw [List.drop_of_length_le (by omega),List.any_nil] at ha
  refine Xa0 ?_
  exact k _ _ h1 (by rw [← ha]; rfl)
 ·rw [List.drop_eq_getElem_cons (by omega),List.any_cons] at ha
  obtain ⟨b1,o1,rfl,hb1,ca,ra,_⟩:=hl.at (i:=i) (by omega)
  refine Xa (ca _ h1) ?_
  refine hF w1 _ _ _ h1 ra (fun w2 h2=>?_)
  cases hp:p l[i] with
  | true=>
   rw [hp,Bool.true_or] at ha
   refine Xa0 ?_
   exact k _ _ (h1.on h2) (by rw [← ha]; simp)
  | false=>
   rw [hp,Bool.false_or] at ha
   refine Xa0 ?_
   refine ⟨⟨h1.on h2,_,_,i + 1,rfl,by omega,ha⟩,?_⟩
   simp only [vsMu_eq]; omega
theorem ContainsFunc_ok {v F:Value} {l:List Int} (p:Int → Bool) (hl:Ints w v l)
  (hF:∀ (w':World) (x:Int) (K':VK) (T:TypeId),Bw w w' → I64 x → (∀ w'',Below w'.heap.size w' w'' → K' (.bool (p x)) w'') → oM Tryz.prog (.call { callee:=.value (.tmp 0),args:=#[.tmp 1],argTypes:=#[3] }) T [F,.int .i64 x] K' w')
  (k:∀ w',Bw w w' → K (.bool (l.any p)) w'):callM Tryz.prog 136 #[v,F] K w:=by
 apply sh_136_ok
 unfold sh_136
 refine IndexFunc_ok p hl hF (fun w' r hb hr=>?_)
 refine Xa0 ?_
 rw [hr]
 exact k _ hb
end
end Go.Proofs
namespace ShaSpec
abbrev W:=BitVec 32
def rotr (x:W) (k:Nat):W:=x >>> k ||| x <<< (32 - k)
theorem rotl_rotr (x:W) (k:Nat):x <<< (32 - k) ||| x >>> k = rotr x k:=BitVec.or_comm _ _
def ch (e f g:W):W:=g ^^^ (e &&& (f ^^^ g))
def maj (a b c:W):W:=(a &&& b) ||| (c &&& (a ||| b))
theorem ch_eq (e f g:W):(e &&& f) ^^^ (~~~ e &&& g) = ch e f g:=by
 unfold ch
 ext i hi
 simp only [BitVec.getElem_xor,BitVec.getElem_and,BitVec.getElem_not]
 cases e[i] <;> cases f[i] <;> cases g[i] <;> rfl
theorem maj_eq (a b c:W):(a &&& b) ^^^ (a &&& c) ^^^ (b &&& c) = maj a b c:=by
 unfold maj
 ext i hi
 simp only [BitVec.getElem_xor,BitVec.getElem_and,BitVec.getElem_or]
 cases a[i] <;> cases b[i] <;> cases c[i] <;> rfl
def w8 (b:UInt8):W:=BitVec.ofNat 32 b.toNat
def word (b:List UInt8) (k:Nat):W:=w8 (b.getD (4 * k) 0) <<< 24 ||| w8 (b.getD (4 * k + 1) 0) <<< 16 ||| w8 (b.getD (4 * k + 2) 0) <<< 8 ||| w8 (b.getD (4 * k + 3) 0)
def sig0 (x:W):W:=rotr x 7 ^^^ rotr x 18 ^^^ x >>> 3
def sig1 (y:W):W:=rotr y 17 ^^^ rotr y 19 ^^^ y >>> 10
def at' (l:List W) (k:Nat):W:=l.getD k 0
def nextW (b:List UInt8) (l:List W) (k:Nat):W:=
 if k < 16 then word b k else at' l (k - 16) + sig0 (at' l (k - 15)) + at' l (k - 7) + sig1 (at' l (k - 2))
def sched (b:List UInt8):Nat → List W
 | 0=>[]
 | n + 1=>sched b n ++ [nextW b (sched b n) n]
theorem sched_length (b:List UInt8) (n:Nat):(sched b n).length = n:=by
 induction n with
 | zero=>rfl
 | succ n ih=>simp [sched,ih]
structure St where
 a:W
 b:W
 c:W
 d:W
 e:W
 f:W
 g:W
 h:W
def St.list (s:St):List W:=[s.a,s.b,s.c,s.d,s.e,s.f,s.g,s.h]
def round (s:St) (k w:W):St:=
 let t1:=s.h + (rotr s.e 6 ^^^ rotr s.e 11 ^^^ rotr s.e 25) + ch s.e s.f s.g + k + w
 ⟨t1 + (rotr s.a 2 ^^^ rotr s.a 13 ^^^ rotr s.a 22) + maj s.a s.b s.c,s.a,s.b,s.c,s.d + t1,s.e,s.f,s.g⟩
def consts:List W:=[
 0x428a2f98,0x71374491,0xb5c0fbcf,0xe9b5dba5,0x3956c25b,0x59f111f1,0x923f82a4,0xab1c5ed5,
 0xd807aa98,0x12835b01,0x243185be,0x550c7dc3,0x72be5d74,0x80deb1fe,0x9bdc06a7,0xc19bf174,
 0xe49b69c1,0xefbe4786,0x0fc19dc6,0x240ca1cc,0x2de92c6f,0x4a7484aa,0x5cb0a9dc,0x76f988da,
 0x983e5152,0xa831c66d,0xb00327c8,0xbf597fc7,0xc6e00bf3,0xd5a79147,0x06ca6351,0x14292967,
 0x27b70a85,0x2e1b2138,0x4d2c6dfc,0x53380d13,0x650a7354,0x766a0abb,0x81c2c92e,0x92722c85,
 0xa2bfe8a1,0xa81a664b,0xc24b8b70,0xc76c51a3,0xd192e819,0xd6990624,0xf40e3585,0x106aa070,
 0x19a4c116,0x1e376c08,0x2748774c,0x34b0bcb5,0x391c0cb3,0x4ed8aa4a,0x5b9cca4f,0x682e6ff3,
 0x748f82ee,0x78a5636f,0x84c87814,0x8cc70208,0x90befffa,0xa4506ceb,0xbef9a3f7,0xc67178f2]
theorem consts_length:consts.length = 64:=by decide
def rounds (b:List UInt8) (s:St):Nat → St
 | 0=>s
 | n + 1=>round (rounds b s n) (at' consts n) (at' (sched b 64) n)
def mix (s:St) (b:List UInt8):St:=
 let v:=rounds b s 64
 ⟨v.a + s.a,v.b + s.b,v.c + s.c,v.d + s.d,v.e + s.e,v.f + s.f,v.g + s.g,v.h + s.h⟩
def first:St:=⟨0x6a09e667,0xbb67ae85,0x3c6ef372,0xa54ff53a,0x510e527f,0x9b05688c,0x1f83d9ab,0x5be0cd19⟩
def lenBytes (n:Nat):List UInt8:=[7,6,5,4,3,2,1,0].map fun k=>UInt8.ofNat (8 * n / 2 ^ (8 * k))
def zeros (n:Nat):Nat:=(119 - n % 64) % 64
def padded (s:List UInt8):List UInt8:=s ++ [128] ++ List.replicate (zeros s.length) 0 ++ lenBytes s.length
theorem lenBytes_length (n:Nat):(lenBytes n).length = 8:=rfl
theorem padded_length (s:List UInt8):(padded s).length % 64 = 0:=by
 simp only [padded,zeros,List.length_append,List.length_replicate,lenBytes_length,List.length_singleton]
 omega
def blocks:Nat → St → List UInt8 → St
 | 0,s,_=>s
 | n + 1,s,b=>blocks n (mix s (b.take 64)) (b.drop 64)
def out1 (w:W):List UInt8:=[UInt8.ofNat (w.toNat / 16777216),UInt8.ofNat (w.toNat / 65536),UInt8.ofNat (w.toNat / 256),UInt8.ofNat w.toNat]
def sha (s:List UInt8):List UInt8:=((blocks ((padded s).length / 64) first (padded s)).list.map out1).flatten
theorem sha_length (s:List UInt8):(sha s).length = 32:=by
 simp [sha,St.list,out1]
end ShaSpec
namespace Go.Sh
open Go Go.RowKit
def w32 (x:BitVec 32):Value:=.int .u32 (x.toNat:Int)
theorem w32_wrap (n:Nat):IntKind.u32.wrap (n:Int) = ((BitVec.ofNat 32 n).toNat:Int):=by
 rw [IntKind.wrap_u32,BitVec.toNat_ofNat]; omega
theorem w32_ofInt (x:BitVec 32):BitVec.ofInt 32 (x.toNat:Int) = x:=by
 rw [BitVec.ofInt_natCast,BitVec.ofNat_toNat,BitVec.setWidth_eq]
theorem bits32_and (x y:BitVec 32):bits .and .u32 (x.toNat:Int) (y.toNat:Int) = ((x &&& y).toNat:Int):=by
 show IntKind.u32.wrap (((BitVec.ofInt 32 (x.toNat:Int) &&& BitVec.ofInt 32 (y.toNat:Int)).toNat:Nat):Int) = _
 rw [w32_ofInt,w32_ofInt,w32_wrap,BitVec.ofNat_toNat,BitVec.setWidth_eq]
theorem bits32_or (x y:BitVec 32):bits .or .u32 (x.toNat:Int) (y.toNat:Int) = ((x ||| y).toNat:Int):=by
 show IntKind.u32.wrap (((BitVec.ofInt 32 (x.toNat:Int) ||| BitVec.ofInt 32 (y.toNat:Int)).toNat:Nat):Int) = _
 rw [w32_ofInt,w32_ofInt,w32_wrap,BitVec.ofNat_toNat,BitVec.setWidth_eq]
theorem bits32_xor (x y:BitVec 32):bits .xor .u32 (x.toNat:Int) (y.toNat:Int) = ((x ^^^ y).toNat:Int):=by
 show IntKind.u32.wrap (((BitVec.ofInt 32 (x.toNat:Int) ^^^ BitVec.ofInt 32 (y.toNat:Int)).toNat:Nat):Int) = _
 rw [w32_ofInt,w32_ofInt,w32_wrap,BitVec.ofNat_toNat,BitVec.setWidth_eq]
section
variable {P:Program} {K:VK} {w:World}
theorem wadd (t t' T:TypeId) (x y:BitVec 32):oM P (.binOp .add t (.tmp 0) (.tmp 1) t') T [w32 x,w32 y] = pureM (w32 (x + y)):=by
 have e:IntKind.u32.wrap ((x.toNat:Int) + (y.toNat:Int)) = ((x + y).toNat:Int):=by
  rw [← Int.natCast_add,w32_wrap]
  congr 1
 unfold w32
 rw [oM_add',e]
theorem wand (t t' T:TypeId) (x y:BitVec 32):oM P (.binOp .and t (.tmp 0) (.tmp 1) t') T [w32 x,w32 y] = pureM (w32 (x &&& y)):=by
 funext K w
 unfold w32
 rw [← bits32_and]
 simp [oM,opM,xop,execOp,evalL,evE,binOp,go_sem]
theorem wor (t t' T:TypeId) (x y:BitVec 32):oM P (.binOp .or t (.tmp 0) (.tmp 1) t') T [w32 x,w32 y] = pureM (w32 (x ||| y)):=by
 funext K w
 unfold w32
 rw [← bits32_or]
 simp [oM,opM,xop,execOp,evalL,evE,binOp,go_sem]
theorem wxor (t t' T:TypeId) (x y:BitVec 32):oM P (.binOp .xor t (.tmp 0) (.tmp 1) t') T [w32 x,w32 y] = pureM (w32 (x ^^^ y)):=by
 funext K w
 unfold w32
 rw [← bits32_xor]
 simp [oM,opM,xop,execOp,evalL,evE,binOp,go_sem]
theorem wshr (t t' T:TypeId) (yk:IntKind) (x:BitVec 32) (n:Nat) (h:n ≤ 32):oM P (.binOp .shr t (.tmp 0) (.tmp 1) t') T [w32 x,.int yk (n:Int)] = pureM (w32 (x >>> n)):=by
 unfold w32
 rw [oM_shr32 t t' T yk _ _ (by omega) (by omega)]
 congr 2
 rw [BitVec.toNat_ushiftRight,Nat.shiftRight_eq_div_pow,Int.toNat_natCast,Int.natCast_ediv,Int.natCast_pow]
 rfl
theorem wshl (t t' T:TypeId) (yk:IntKind) (x:BitVec 32) (n:Nat) (h:n ≤ 32):oM P (.binOp .shl t (.tmp 0) (.tmp 1) t') T [w32 x,.int yk (n:Int)] = pureM (w32 (x <<< n)):=by
 unfold w32
 rw [oM_shl32 t t' T yk _ _ (by omega) (by omega)]
 congr 2
 rw [BitVec.toNat_shiftLeft,Nat.shiftLeft_eq,Int.toNat_natCast,Int.natCast_emod,Int.natCast_mul,Int.natCast_pow]
 rfl
end
end Go.Sh
namespace Go.Proofs
open Go Go.Sh Go.RowKit ShaSpec
section
variable {K:VK} {w:World}
theorem rotl_ok (x:W) (r:Nat) (h0:0 < r) (h1:r < 32) (h:K (w32 (rotr x r)) w):callM Tryz.prog 230 #[w32 x,.int .i64 (-(r:Int))] K w:=by
 apply sh_230_ok
 unfold sh_230
 have e1:IntKind.u64.wrap (-(r:Int)) = 18446744073709551616 - (r:Int):=by rw [IntKind.wrap_u64]; omega
 have e2:bits .and .u64 (18446744073709551616 - (r:Int)) 31 = ((32 - r:Nat):Int):=by
  rw [mask64 5 _ 31 (by omega) (by decide) (by omega)]; omega
 have e3:IntKind.u64.wrap (32 - ((32 - r:Nat):Int)) = (r:Int):=by rw [IntKind.wrap_u64]; omega
 have s1:=fun t t' T=>wshl (P:=Tryz.prog) t t' T .u64 x (32 - r) (by omega)
 have s2:=fun t t' T=>wshr (P:=Tryz.prog) t t' T .u64 x r (by omega)
 rw [← rotl_rotr] at h
 obtain ⟨m,hm⟩:∃ m,m = 32 - r:=⟨_,rfl⟩
 rw [← hm] at e2 e3 s1 h
 refine Xa (An6 @e1 @e2 @e3 @s1 @s2 @wor) ?_
 exact h
@[reducible] def ws (l:List W):List Value:=l.map w32
theorem ws_one (l:List W):∀ u ∈ ws l,u.oneCell' = true:=by
 intro u hu
 obtain ⟨x,_,rfl⟩:=List.mem_map.1 hu
 rfl
@[reducible] def stV (s:St):Value:=.agg (ws s.list).toArray
theorem sz_words (w:World):(sizeOf 225).run Tryz.prog w = .ok 8 w:=by kernel_rfl
theorem sz_64 (w:World):(sizeOf 238).run Tryz.prog w = .ok 64 w:=by kernel_rfl
theorem sz_u32 (w:World):(sizeOf 223).run Tryz.prog w = .ok 1 w:=by kernel_rfl
theorem al_words (w:World):(Instr.alloc 225 true (.tuple #[])).run Tryz.prog w = .ok (.pointer (some ⟨w.heap.size,0,none⟩)) (w.alloc (.cells (ws (List.replicate 8 0)).toArray 225)):=by kernel_rfl
theorem al_64 (w:World):(Instr.alloc 238 true (.tuple #[])).run Tryz.prog w = .ok (.pointer (some ⟨w.heap.size,0,none⟩)) (w.alloc (.cells (ws (List.replicate 64 0)).toArray 238)):=by kernel_rfl
theorem un_words:Tryz.prog.underlying 225 = some (.array (Tryz.prog.arrayLen 225) (Tryz.prog.elem 225)):=by kernel_rfl
theorem un_64:Tryz.prog.underlying 238 = some (.array (Tryz.prog.arrayLen 238) (Tryz.prog.elem 238)):=by kernel_rfl
@[go_sem] theorem idx_words (T:TypeId) (b o:Nat) (x:Int):oM Tryz.prog (.indexAddr 225 (.tmp 0) (.tmp 1)) T [.pointer (some ⟨b,o,none⟩),.int .i64 x] = onM (0 ≤ x ∧ x < (8:Nat)) (.pointer (some ⟨b,o + x.toNat,none⟩)):=
 oM_idx_arr _ un_words (by kernel_rfl) (by decide) (fun w=>by kernel_rfl) T b o x
@[go_sem] theorem idx_64 (T:TypeId) (b o:Nat) (x:Int):oM Tryz.prog (.indexAddr 238 (.tmp 0) (.tmp 1)) T [.pointer (some ⟨b,o,none⟩),.int .i64 x] = onM (0 ≤ x ∧ x < (64:Nat)) (.pointer (some ⟨b,o + x.toNat,none⟩)):=
 oM_idx_arr _ un_64 (by kernel_rfl) (by decide) (fun w=>by kernel_rfl) T b o x
theorem build_first:oM Tryz.prog (Go.Op.build 225 #[(0,(.tmp 0)),(1,(.tmp 1)),(2,(.tmp 2)),(3,(.tmp 3)),(4,(.tmp 4)),(5,(.tmp 5)),(6,(.tmp 6)),(7,(.tmp 7))]) 225 [(.int .u32 1779033703),(.int .u32 3144134277),(.int .u32 1013904242),(.int .u32 2773480762),(.int .u32 1359893119),(.int .u32 2600822924),(.int .u32 528734635),(.int .u32 1541459225)] = pureM (stV first):=by
 funext K w
 kernel_rfl
theorem first_ok (k:∀ w',Bw w w' → K (stV first) w'):callM Tryz.prog 213 #[] K w:=by
 apply sh_213_ok
 unfold sh_213
 refine arr_alloc al_words fun g W hb hg hh=>?_
 rw [build_first]
 refine pureM_in ?_
 refine arr_store sz_words (xs:=ws first.list) rfl rfl (ws_one _) hh rfl (fun W2 hg2 hh=>?_)
 exact arr_ret hh un_words rfl (by kernel_rfl) (k _ (grown_below hb hg2 hg))
theorem build_table:∀ K w,oM Tryz.prog (Go.Op.build 238 ((List.range 64).map fun i=>(i,Operand.tmp i)).toArray) 238 (ws consts) K w = pureM (.agg (ws consts).toArray) K w:=by
 intro K w
 kernel_rfl
theorem table_ok (k:∀ w',Bw w w' → K (.agg (ws consts).toArray) w'):callM Tryz.prog 229 #[] K w:=by
 apply sh_229_ok
 unfold sh_229
 refine arr_alloc al_64 fun g W hb hg hh=>?_
 refine (build_table _ W).symm ▸ ?_
 refine pureM_in ?_
 refine arr_store sz_64 (xs:=ws consts) rfl rfl (ws_one _) hh rfl (fun W2 hg2 hh=>?_)
 exact arr_ret hh un_64 rfl (by kernel_rfl) (k _ (grown_below hb hg2 hg))
def ByR (w:World) (b o:Nat) (l:List UInt8):Prop:=b < w.heap.size ∧ ∀ i,i < l.length → w.cell? ⟨b,o + i,none⟩ = some (.int .u8 ((l.getD i 0).toNat:Int))
theorem ByR.next {w w':World} {b o:Nat} {l:List UInt8} (h:ByR w b o l) (hb:Bw w w'):ByR w' b o l:=
 ⟨lL h.1 hb.size,fun i hi=>by rw [hb.cell h.1]; exact h.2 i hi⟩
theorem conv_u8 (T:TypeId) (x:UInt8):oM Tryz.prog (.convert 5 223 (.tmp 0)) T [.int .u8 (x.toNat:Int)] = pureM (w32 (w8 x)):=by
 funext K w
 have e:IntKind.u32.wrap (x.toNat:Int) = ((w8 x).toNat:Int):=by
  have:=x.toNat_lt
  rw [IntKind.wrap_u32]
  unfold w8
  rw [BitVec.toNat_ofNat]
  omega
 have e2:(convert 5 223 (.int .u8 (x.toNat:Int))).run Tryz.prog w = .ok (.int .u32 (IntKind.u32.wrap (x.toNat:Int))) w:=by kernel_rfl
 rw [oM_convert,e2,e]
 rfl
@[go_sem] theorem idx_bytes (T:TypeId) (b o n c:Nat) (x:Int):oM Tryz.prog (.indexAddr 202 (.tmp 0) (.tmp 1)) T [.slice (some ⟨b,o,none⟩) n c,.int .i64 x] = onM (0 ≤ x ∧ x < n) (.pointer (some ⟨b,o + x.toNat,none⟩)):=by
 funext K w
 rw [oM_indexAddr,run_indexAt_slice (h:=by kernel_rfl)]
 have hs:(sizeOf (Tryz.prog.elem 202)).run Tryz.prog w = .ok 1 w:=by kernel_rfl
 by_cases hi:0 ≤ x ∧ x < n
 ·rw [if_pos hi,hs]
  simp only [Result.andThen,add_none,Nat.mul_one,rM_ok]
  exact propext ⟨fun h=>⟨hi,h⟩,fun h=>h.2⟩
 ·rw [if_neg hi]
  obtain ⟨e',w',he⟩:=halts Value Tryz.prog .i64 x n .index w
  rw [he]
  exact propext ⟨fun h=>h.elim,fun h=>hi h.1⟩
theorem shl24 (t t' T:TypeId) (x:W):oM Tryz.prog (.binOp .shl t (.tmp 0) (.tmp 1) t') T [w32 x,.int .u64 24] = pureM (w32 (x <<< 24)):=wshl t t' T .u64 x 24 (by omega)
theorem shl16 (t t' T:TypeId) (x:W):oM Tryz.prog (.binOp .shl t (.tmp 0) (.tmp 1) t') T [w32 x,.int .u64 16] = pureM (w32 (x <<< 16)):=wshl t t' T .u64 x 16 (by omega)
theorem shl8 (t t' T:TypeId) (x:W):oM Tryz.prog (.binOp .shl t (.tmp 0) (.tmp 1) t') T [w32 x,.int .u64 8] = pureM (w32 (x <<< 8)):=wshl t t' T .u64 x 8 (by omega)
theorem shr3 (t t' T:TypeId) (x:W):oM Tryz.prog (.binOp .shr t (.tmp 0) (.tmp 1) t') T [w32 x,.int .u64 3] = pureM (w32 (x >>> 3)):=wshr t t' T .u64 x 3 (by omega)
theorem shr10 (t t' T:TypeId) (x:W):oM Tryz.prog (.binOp .shr t (.tmp 0) (.tmp 1) t') T [w32 x,.int .u64 10] = pureM (w32 (x >>> 10)):=wshr t t' T .u64 x 10 (by omega)
theorem shr24 (t t' T:TypeId) (x:W):oM Tryz.prog (.binOp .shr t (.tmp 0) (.tmp 1) t') T [w32 x,.int .u64 24] = pureM (w32 (x >>> 24)):=wshr t t' T .u64 x 24 (by omega)
theorem shr16 (t t' T:TypeId) (x:W):oM Tryz.prog (.binOp .shr t (.tmp 0) (.tmp 1) t') T [w32 x,.int .u64 16] = pureM (w32 (x >>> 16)):=wshr t t' T .u64 x 16 (by omega)
theorem shr8 (t t' T:TypeId) (x:W):oM Tryz.prog (.binOp .shr t (.tmp 0) (.tmp 1) t') T [w32 x,.int .u64 8] = pureM (w32 (x >>> 8)):=wshr t t' T .u64 x 8 (by omega)
theorem rot6 (x:W) (h:K (w32 (rotr x 6)) w):callM Tryz.prog 230 #[w32 x,.int .i64 (-6)] K w:=rotl_ok x 6 (by omega) (by omega) h
theorem rot11 (x:W) (h:K (w32 (rotr x 11)) w):callM Tryz.prog 230 #[w32 x,.int .i64 (-11)] K w:=rotl_ok x 11 (by omega) (by omega) h
theorem rot25 (x:W) (h:K (w32 (rotr x 25)) w):callM Tryz.prog 230 #[w32 x,.int .i64 (-25)] K w:=rotl_ok x 25 (by omega) (by omega) h
theorem rot2 (x:W) (h:K (w32 (rotr x 2)) w):callM Tryz.prog 230 #[w32 x,.int .i64 (-2)] K w:=rotl_ok x 2 (by omega) (by omega) h
theorem rot13 (x:W) (h:K (w32 (rotr x 13)) w):callM Tryz.prog 230 #[w32 x,.int .i64 (-13)] K w:=rotl_ok x 13 (by omega) (by omega) h
theorem rot22 (x:W) (h:K (w32 (rotr x 22)) w):callM Tryz.prog 230 #[w32 x,.int .i64 (-22)] K w:=rotl_ok x 22 (by omega) (by omega) h
theorem rot7 (x:W) (h:K (w32 (rotr x 7)) w):callM Tryz.prog 230 #[w32 x,.int .i64 (-7)] K w:=rotl_ok x 7 (by omega) (by omega) h
theorem rot18 (x:W) (h:K (w32 (rotr x 18)) w):callM Tryz.prog 230 #[w32 x,.int .i64 (-18)] K w:=rotl_ok x 18 (by omega) (by omega) h
theorem rot17 (x:W) (h:K (w32 (rotr x 17)) w):callM Tryz.prog 230 #[w32 x,.int .i64 (-17)] K w:=rotl_ok x 17 (by omega) (by omega) h
theorem rot19 (x:W) (h:K (w32 (rotr x 19)) w):callM Tryz.prog 230 #[w32 x,.int .i64 (-19)] K w:=rotl_ok x 19 (by omega) (by omega) h
def schL (b:List UInt8) (k:Nat):List W:=sched b k ++ List.replicate (64 - k) 0
theorem schL_length (b:List UInt8) (k:Nat) (hk:k ≤ 64):(schL b k).length = 64:=by simp [schL,sched_length]; omega
theorem schL_next (b:List UInt8) (k:Nat) (hk:k < 64):(schL b k).set k (nextW b (sched b k) k) = schL b (k + 1):=by
 unfold schL
 rw [List.set_append_right _ _ (by rw [sched_length]; omega),sched_length,Nat.sub_self]
 obtain ⟨m,hm⟩:∃ m,64 - k = m + 1:=⟨63 - k,by omega⟩
 rw [hm,List.replicate_succ,List.set_cons_zero,show 64 - (k + 1) = m by omega]
 simp [sched]
structure SchI (b:List UInt8) (g:Nat) (w0:World) (k:Nat) (w':World):Prop where
 below:Bw w0 w'
 holds:Holds w' g 238 (ws (schL b k))
structure SchC (b:List UInt8) (g:Nat) (w0:World) (k:Nat) (w':World):Prop where
 one:Bw w0 w'
 two:∀ j,j < k → w'.cell? ⟨g,j,none⟩ = some (w32 (at' (sched b k) j))
theorem SchC.less {b:List UInt8} {g:Nat} {w0 w':World} {k:Nat} (h:SchC b g w0 (k + 1) w'):SchC b g w0 k w':=by
 refine ⟨h.one,fun j hj=>?_⟩
 rw [h.two j (by omega)]
 have e:at' (sched b (k + 1)) j = at' (sched b k) j:=by
  show (sched b k ++ [nextW b (sched b k) k]).getD j 0 = (sched b k).getD j 0
  rw [List.getD_eq_getElem?_getD,List.getElem?_append_left (by rw [sched_length]; omega),← List.getD_eq_getElem?_getD]
 rw [e]
theorem schL_at (b:List UInt8) (k j:Nat) (hj:j < k):(schL b k).getD j 0 = at' (sched b k) j:=by
 unfold schL at'
 rw [List.getD_eq_getElem?_getD,List.getElem?_append_left (by rw [sched_length]; omega),← List.getD_eq_getElem?_getD]
theorem SchI.c {b:List UInt8} {g:Nat} {w0 w':World} {k:Nat} (hk:k ≤ 64) (h:SchI b g w0 k w'):SchC b g w0 k w':=by
 refine ⟨h.below,fun j hj=>?_⟩
 have hl:=schL_length b k hk
 rw [h.holds.cell j (by simp [hl]; omega),← schL_at b k j hj]
 simp [List.getD_eq_getElem?_getD,hl,show j < 64 by omega]
def SchJ (b:List UInt8) (g:Nat) (w0:World) (l:List Value) (w':World):Prop:=∃ (v0 v1 v2 v3 v4:Value) (k:Nat),l = [v0,v1,v2,v3,v4,.int .i64 (k:Int)] ∧ k ≤ 64 ∧ SchI b g w0 k w'
def schMu (l:List Value) (_:World):Nat:=match l with | [_,_,_,_,_,.int _ i]=>64 - i.toNat | _=>0
theorem schMu_eq (a b c d e:Value) (q:IntKind) (i:Int) (w:World):schMu [a,b,c,d,e,.int q i] w = 64 - i.toNat:=rfl
theorem SchI.drew {b:List UInt8} {g:Nat} {w0 w':World} {k:Nat} (h:SchI b g w0 k w'):SchI b g w0 k { w' with drawn:=w'.drawn + 1 }:=
 ⟨h.below.on .drawn,h.holds.next .drawn⟩
theorem SchI.set {b:List UInt8} {g:Nat} {w0 w' W:World} {k:Nat} (h:SchI b g w0 k w') (h0:w0.heap.size ≤ g) (hk:k < 64) (hg:w'.grownBy W (some g)) (hh:Holds W g 238 ((ws (schL b k)).set k (w32 (nextW b (sched b k) k)))):SchI b g w0 (k + 1) W:=by
 refine ⟨grown_below h.below hg h0,?_⟩
 rw [← schL_next b k hk]
 unfold ws at hh ⊢
 rw [List.map_set]
 exact hh
theorem schedule_ok (b:List UInt8) {B o c:Nat} (hl:b.length = 64) (hb:ByR w B o b) (k:∀ w',Bw w w' → K (.agg (ws (sched b 64)).toArray) w'):callM Tryz.prog 228 #[.slice (some ⟨B,o,none⟩) 64 c] K w:=by
 apply sh_228_ok
 unfold sh_228
 refine arr_alloc al_64 fun g W hbW hgW hh=>?_
 refine ⟨SchJ b g w,schMu,⟨_,_,_,_,_,0,rfl,by omega,hbW,hh⟩,?_⟩
 clear hh hbW W
 rintro _ _ w1 ⟨v0,v1,v2,v3,v4,i,rfl,hi,hI⟩
 have hc:=(hI.c hi)
 by_cases hi64:i < 64
 ·refine Xa0 ?_
  refine ⟨fun _ w'=>SchI b g w (i + 1) w',?_,?_⟩
  ·by_cases h16:i < 16
   ·refine Xa0 ?_
    refine ⟨fun w'=>Bw w w',hI.drew.below,?_⟩
    have hI:=hI.drew
    have cb:∀ j,j < 64 → ∀ w',Bw w w' → w'.cell? ⟨B,o + j,none⟩ = some (.int .u8 ((b.getD j 0).toNat:Int)):=fun j hj w' hw=>(hb.next hw).2 j (by omega)
    have t1:(4 * (i:Int)).toNat = 4 * i:=by omega
    have t2:(4 * (i:Int) + 1).toNat = 4 * i + 1:=by omega
    have t3:(4 * (i:Int) + 2).toNat = 4 * i + 2:=by omega
    have t4:(4 * (i:Int) + 3).toNat = 4 * i + 3:=by omega
    have c1:=cb (4 * i) (by omega)
    have c2:=cb (4 * i + 1) (by omega)
    have c3:=cb (4 * i + 2) (by omega)
    have c4:=cb (4 * i + 3) (by omega)
    have w1:IntKind.i64.wrap (4 * (i:Int)) = 4 * i:=wrapI64 _ (by omega) (by omega)
    have w2:IntKind.i64.wrap (4 * (i:Int) + 1) = 4 * i + 1:=wrapI64 _ (by omega) (by omega)
    have w3:IntKind.i64.wrap (4 * (i:Int) + 2) = 4 * i + 2:=wrapI64 _ (by omega) (by omega)
    have w4:IntKind.i64.wrap (4 * (i:Int) + 3) = 4 * i + 3:=wrapI64 _ (by omega) (by omega)
    refine Xf (fun W0 hW0=>An4 (c1 _ hW0) (c2 _ hW0) (c3 _ hW0) (c4 _ hW0)) (An13 @w1 @w2 @w3 @w4 @t1 @t2 @t3 @t4 @conv_u8 @shl24 @shl16 @shl8 @wor) ?_
    have en:nextW b (sched b i) i = w8 (b[4 * i]?.getD 0) <<< 24 ||| w8 (b[4 * i + 1]?.getD 0) <<< 16 ||| w8 (b[4 * i + 2]?.getD 0) <<< 8 ||| w8 (b[4 * i + 3]?.getD 0):=by
     unfold nextW word
     rw [if_pos h16]
     simp only [List.getD_eq_getElem?_getD]
    rw [← en]
    refine arr_set sz_u32 rfl rfl hI.holds (by simp [schL_length b i hi,hi64]) (fun W hg2 hh=>?_)
    have hI2:=hI.set hgW hi64 hg2 hh
    exact ⟨hI2.below,hI2⟩
   ·refine Xa0 ?_
    have hI:=hI.drew
    refine ⟨fun w'=>w' = { w1 with drawn:=w1.drawn + 1 },rfl,?_⟩
    generalize ({ w1 with drawn:=w1.drawn + 1 }:World) = w2 at hI ⊢
    have hc:=hI.c hi
    have w1:IntKind.i64.wrap ((i:Int) - 15) = (i:Int) - 15:=wrapI64 _ (by omega) (by omega)
    have w2:IntKind.i64.wrap ((i:Int) - 2) = (i:Int) - 2:=wrapI64 _ (by omega) (by omega)
    have w3:IntKind.i64.wrap ((i:Int) - 16) = (i:Int) - 16:=wrapI64 _ (by omega) (by omega)
    have w4:IntKind.i64.wrap ((i:Int) - 7) = (i:Int) - 7:=wrapI64 _ (by omega) (by omega)
    have t1:((i:Int) - 15).toNat = i - 15:=by omega
    have t2:((i:Int) - 2).toNat = i - 2:=by omega
    have t3:((i:Int) - 16).toNat = i - 16:=by omega
    have t4:((i:Int) - 7).toNat = i - 7:=by omega
    have c1:=hc.two (i - 15) (by omega)
    have c2:=hc.two (i - 2) (by omega)
    refine Xg (An4 @t1 @t2 @c1 @c2) ?_
    repeat (any_goals (first
    | (with_reducible refine rot7 _ ?_) | (with_reducible refine rot18 _ ?_) | (with_reducible refine rot17 _ ?_) | (with_reducible refine rot19 _ ?_)
    | ((with_reducible refine oG fun X Y=>?_); simp [go_sem,shr3,shr10,wxor]; apply Y; clear Y X)))
    refine ⟨SchC b g w i,hI.drew.c hi,?_⟩
    have hI:=hI.drew
    repeat (any_goals (first
    | (with_reducible refine pX ?_)
    | ((with_reducible refine idOH ?_); (with_reducible refine oH_of ⟨_,rfl⟩ (fun W0 hW0=>by (refine oG (fun X Y=>?_)); simp [go_sem,w3,w4,t3,t4,hW0.two (i - 16) (by omega),hW0.two (i - 7) (by omega),wadd]; (first | exact Y _ _ ⟨rfl,rfl⟩ | exact ⟨by omega,Y _ _ ⟨rfl,rfl⟩⟩)) ?_))))
    have en:nextW b (sched b i) i = at' (sched b i) (i - 16) + sig0 (at' (sched b i) (i - 15)) + at' (sched b i) (i - 7) + sig1 (at' (sched b i) (i - 2)):=by
     unfold nextW
     rw [if_neg h16]
    unfold sig0 sig1 at en
    rw [← en]
    refine arr_set sz_u32 rfl rfl hI.holds (by simp [schL_length b i hi,hi64]) (fun W hg2 hh=>?_)
    have hI2:=hI.set hgW hi64 hg2 hh
    exact ⟨(hI2.c hi64).less,hI2⟩
  ·rintro l u w2 hI2
   refine Xa0 ?_
   refine ⟨⟨_,_,_,_,_,i + 1,rfl,hi64,hI2⟩,?_⟩
   simp only [schMu_eq]; omega
 ·obtain rfl:i = 64:=by omega
  refine Xa0 ?_
  have hh:=hI.holds
  have e64:schL b 64 = sched b 64:=by simp [schL]
  rw [e64] at hh
  have hl64:=sched_length b 64
  generalize sched b 64 = sl at *
  refine arr_load hh un_64 rfl (by rw [List.length_map,hl64]; kernel_rfl) ?_
  refine arr_store sz_64 (xs:=ws sl) rfl (by rw [List.length_map,hl64]) (ws_one _) hh (by rw [List.length_map,hl64]) (fun W hg2 hh=>?_)
  exact arr_ret hh un_64 rfl (by rw [List.length_map,hl64]; kernel_rfl) (k _ (grown_below hI.below hg2 hgW))
theorem build8 (T:TypeId) (a b c d e f g h:W):oM Tryz.prog (Go.Op.build 225 #[(0,(.tmp 0)),(1,(.tmp 1)),(2,(.tmp 2)),(3,(.tmp 3)),(4,(.tmp 4)),(5,(.tmp 5)),(6,(.tmp 6)),(7,(.tmp 7))]) T [w32 a,w32 b,w32 c,w32 d,w32 e,w32 f,w32 g,w32 h] = pureM (stV ⟨a,b,c,d,e,f,g,h⟩):=by
 funext K w
 kernel_rfl
structure MixI (w0:World) (gh gr gs gt gv:Nat) (s:St) (sl:List W) (v:List W) (w':World):Prop where
 below:Bw w0 w'
 h:Holds w' gh 225 (ws s.list)
 r:∃ zs,zs.length = 8 ∧ Holds w' gr 225 zs
 sch:Holds w' gs 238 (ws sl)
 tab:Holds w' gt 238 (ws consts)
 v:Holds w' gv 225 (ws v)
variable {w0 w':World} {gh gr gs gt gv:Nat} {s:St} {sl v:List W}
theorem MixI.next {w2:World} (h:MixI w0 gh gr gs gt gv s sl v w') (hb:Bw w' w2):MixI w0 gh gr gs gt gv s sl v w2:=
 ⟨h.below.on hb,h.h.next hb,h.r.imp fun _ h=>⟨h.1,h.2.next hb⟩,h.sch.next hb,h.tab.next hb,h.v.next hb⟩
theorem MixI.drew (h:MixI w0 gh gr gs gt gv s sl v w'):MixI w0 gh gr gs gt gv s sl v { w' with drawn:=w'.drawn + 1 }:=h.next .drawn
structure Apart (n gh gr gs gt gv:Nat):Prop where
 h:gh ≠ gv
 r:gr ≠ gv
 s:gs ≠ gv
 t:gt ≠ gv
 v:n ≤ gv
 r0:n ≤ gr
theorem MixI.wrote {W2:World} {u:List W} (ha:Apart w0.heap.size gh gr gs gt gv) (h:MixI w0 gh gr gs gt gv s sl v w') (hg:w'.grownBy W2 (some gv)) (hh:Holds W2 gv 225 (ws u)):MixI w0 gh gr gs gt gv s sl u W2:=
 ⟨grown_below h.below hg ha.v,h.h.other hg ha.h,h.r.imp fun _ h=>⟨h.1,h.2.other hg ha.r⟩,h.sch.other hg ha.s,h.tab.other hg ha.t,hh⟩
theorem holds_at {g:Nat} {T:TypeId} {l:List W} (h:Holds w' g T (ws l)) (i:Nat) (hi:i < l.length):w'.cell? ⟨g,i,none⟩ = some (w32 (at' l i)):=by
 rw [h.cell i (by simpa using hi)]
 simp [at',List.getD_eq_getElem?_getD,hi]
def MixJ (w0:World) (gh gr gs gt gv:Nat) (s:St) (b:List UInt8) (sl:List W) (l:List Value) (w':World):Prop:=∃ (v0 v1 v2 v3 v4:Value) (k:Nat),l = [v0,v1,v2,v3,v4,.int .i64 (k:Int)] ∧ k ≤ 64 ∧ MixI w0 gh gr gs gt gv s sl (rounds b s k).list w'
def adL (v s:St) (i:Nat):List W:=(List.range 8).map fun j=>if j < i then at' v.list j + at' s.list j else at' v.list j
theorem adL_length (v s:St) (i:Nat):(adL v s i).length = 8:=by simp [adL]
theorem adL_at (v s:St) {i:Nat} (hi:i < 8):at' (adL v s i) i = at' v.list i:=by
 unfold adL
 conv=>lhs; unfold at'
 rw [List.getD_eq_getElem?_getD,List.getElem?_map,List.getElem?_range hi]
 simp [at',List.getD_eq_getElem?_getD]
theorem adL_set (v s:St) {i:Nat} (hi:i < 8):(adL v s i).set i (at' v.list i + at' s.list i) = adL v s (i + 1):=by
 unfold adL
 apply List.ext_getElem
 ·simp
 ·intro j h1 h2
  rw [List.getElem_set]
  simp only [List.getElem_map,List.getElem_range]
  by_cases hji:i = j
  ·subst hji; simp
  ·rw [if_neg hji]
   by_cases hlt:j < i
   ·rw [if_pos hlt,if_pos (by omega)]
   ·rw [if_neg hlt,if_neg (by omega)]
def AdJ (w0:World) (gh gr gs gt gv:Nat) (s:St) (sl:List W) (v:St) (l:List Value) (w':World):Prop:=∃ (v0:Value) (k:Nat),l = [v0,.int .i64 (k:Int)] ∧ k ≤ 8 ∧ MixI w0 gh gr gs gt gv s sl (adL v s k) w'
def adMu (l:List Value) (_:World):Nat:=match l with | [_,.int _ i]=>8 - i.toNat | _=>0
theorem adMu_eq (a:Value) (q:IntKind) (i:Int) (w:World):adMu [a,.int q i] w = 8 - i.toNat:=rfl
theorem rotQ6 {C:WK} {KQ:Value → Prop} (x:W) (u:Unit) (k:KQ (w32 (rotr x 6))):callQ Tryz.prog 230 #[w32 x,.int .i64 (-6)] C KQ:=callQ_of (v:=w32 (rotr x 6)) (fun w hw=>rot6 x ⟨rfl,hw⟩) k
theorem rotQ11 {C:WK} {KQ:Value → Prop} (x:W) (u:Unit) (k:KQ (w32 (rotr x 11))):callQ Tryz.prog 230 #[w32 x,.int .i64 (-11)] C KQ:=callQ_of (v:=w32 (rotr x 11)) (fun w hw=>rot11 x ⟨rfl,hw⟩) k
theorem rotQ25 {C:WK} {KQ:Value → Prop} (x:W) (u:Unit) (k:KQ (w32 (rotr x 25))):callQ Tryz.prog 230 #[w32 x,.int .i64 (-25)] C KQ:=callQ_of (v:=w32 (rotr x 25)) (fun w hw=>rot25 x ⟨rfl,hw⟩) k
theorem rotQ2 {C:WK} {KQ:Value → Prop} (x:W) (u:Unit) (k:KQ (w32 (rotr x 2))):callQ Tryz.prog 230 #[w32 x,.int .i64 (-2)] C KQ:=callQ_of (v:=w32 (rotr x 2)) (fun w hw=>rot2 x ⟨rfl,hw⟩) k
theorem rotQ13 {C:WK} {KQ:Value → Prop} (x:W) (u:Unit) (k:KQ (w32 (rotr x 13))):callQ Tryz.prog 230 #[w32 x,.int .i64 (-13)] C KQ:=callQ_of (v:=w32 (rotr x 13)) (fun w hw=>rot13 x ⟨rfl,hw⟩) k
theorem rotQ22 {C:WK} {KQ:Value → Prop} (x:W) (u:Unit) (k:KQ (w32 (rotr x 22))):callQ Tryz.prog 230 #[w32 x,.int .i64 (-22)] C KQ:=callQ_of (v:=w32 (rotr x 22)) (fun w hw=>rot22 x ⟨rfl,hw⟩) k
theorem schedule_ok' (b:List UInt8) {B o c:Nat} (hl:b.length = 64) (hb:ByR w B o b) (k:∀ sl w',sl = sched b 64 → Bw w w' → K (.agg (ws sl).toArray) w'):callM Tryz.prog 228 #[.slice (some ⟨B,o,none⟩) 64 c] K w:=
 schedule_ok b hl hb fun w' h=>k _ w' rfl h
theorem mix_ok (s:St) (b:List UInt8) {B o c:Nat} (hl:b.length = 64) (hb:ByR w B o b) (k:∀ w',Bw w w' → K (stV (mix s b)) w'):callM Tryz.prog 214 #[stV s,.slice (some ⟨B,o,none⟩) 64 c] K w:=by
 apply sh_214_ok
 unfold sh_214
 refine arr_box (cs:=ws s.list) rfl fun gh w1 hb1 hg1 h1=>?_
 refine arr_alloc al_words fun gr w2 hb2 hg2 h2=>?_
 refine schedule_ok' b hl ((hb.next hb1).next hb2) fun sl w3 hsl hb3=>?_
 refine table_ok fun w4 hb4=>?_
 refine arr_alloc al_64 fun gs w5 hb5 hg5 h5=>?_
 refine arr_alloc al_64 fun gt w6 hb6 hg6 h6=>?_
 have hl64:sl.length = 64:=by rw [hsl]; exact sched_length b 64
 refine arr_store sz_64 (xs:=ws (sl)) rfl (by rw [List.length_map,hl64]) (ws_one _) (h5.next hb6) rfl (fun w7 hg7 h7=>?_)
 have l5:=h5.lt
 have l2:=h2.lt
 have l1:=h1.lt
 have z2:=hb2.size
 have z3:=hb3.size
 have z4:=hb4.size
 have z5:=hb5.size
 have z6:=hb6.size
 have h6':=h6.other hg7 (show gt ≠ gs by omega)
 have z7:=hg7.size
 have l6:=h6.lt
 refine arr_store sz_64 (xs:=ws consts) rfl rfl (ws_one _) h6' rfl (fun w8 hg8 h8=>?_)
 have z8:=hg8.size
 have h7':=h7.other hg8 (show gs ≠ gt by omega)
 have q1:Holds w8 gh 225 (ws s.list):=(((((((h1.next hb2).next hb3).next hb4).next hb5).next hb6).other hg7 (by omega)).other hg8 (by omega))
 have q2:Holds w8 gr 225 (ws (List.replicate 8 0)):=((((((h2.next hb3).next hb4).next hb5).next hb6).other hg7 (by omega)).other hg8 (by omega))
 have qb:Bw w w8:=grown_below (grown_below (((((hb1.on hb2).on hb3).on hb4).on hb5).on hb6) hg7 (by have:=hb1.size; omega)) hg8 (by have:=hb1.size; omega)
 refine arr_load q1 un_words rfl (by kernel_rfl) ?_
 refine arr_alloc al_words fun gv w9 hb9 hg9 h9=>?_
 refine arr_store sz_words (xs:=ws s.list) rfl rfl (ws_one _) h9 rfl (fun w10 hg10 h10=>?_)
 have hA:Apart w.heap.size gh gr gs gt gv:=by
  have:=hb1.size
  constructor <;> omega
 have hI:MixI w gh gr gs gt gv s (sl) s.list w10:=
  ⟨grown_below (qb.on hb9) hg10 hA.v,(q1.next hb9).other hg10 hA.h,⟨_,rfl,(q2.next hb9).other hg10 hA.r⟩,(h7'.next hb9).other hg10 hA.s,(h8.next hb9).other hg10 hA.t,h10⟩
 refine ⟨MixJ w gh gr gs gt gv s b sl,schMu,⟨_,_,_,_,_,0,rfl,by omega,hI⟩,?_⟩
 clear hI h10 hg10 h9 hb9 qb q2 q1 h7' z8 h8 hg8 l6 z7 h6' z6 z5 z4 z3 z2 l1 l2 l5 h7 hg7 h6 hb6 h5 hb5 hb4 hb3 h2 hb2 h1 hb1
 rintro _ _ w1 ⟨v0,v1,v2,v3,v4,i,rfl,hi,hI⟩
 by_cases hi64:i < 64
 ·have e1:rounds b s (i + 1) = round (rounds b s i) (at' consts i) (at' sl i):=by rw [hsl]; rfl
  obtain ⟨v',e2⟩:∃ v',v' = rounds b s (i + 1):=⟨_,rfl⟩
  rw [← e2] at e1
  generalize rounds b s i = v at *
  refine Xa0 ?_
  refine ⟨fun w'=>w' = { w1 with drawn:=w1.drawn + 1 },rfl,?_⟩
  have hI:=hI.drew
  generalize ({ w1 with drawn:=w1.drawn + 1 }:World) = w2 at hI ⊢
  have c4:w2.cell? ⟨gv,4,none⟩ = some (w32 v.e):=holds_at hI.v 4 (show (4:Nat) < 8 by decide)
  repeat (any_goals (first
  | (with_reducible refine rotQ6 _ () ?_) | (with_reducible refine rotQ11 _ () ?_) | (with_reducible refine rotQ25 _ () ?_) | (with_reducible refine rotQ2 _ () ?_) | (with_reducible refine rotQ13 _ () ?_) | (with_reducible refine rotQ22 _ () ?_)
  | (with_reducible first|refine And.intro (Eq.refl (α:=World) _) ?_|refine forall_one ?_)
  | ((with_reducible refine idOQ ?_); ((with_reducible refine oQ_one ?_ ?_); exact ⟨_,rfl⟩))
  | ((with_reducible refine oG fun X Y=>?_); simp [go_sem,c4,wxor]; apply Y; clear Y X)))
  have hI:=hI.drew
  clear c4
  refine ⟨fun w'=>w' = { w2 with drawn:=w2.drawn + 1 },rfl,?_⟩
  generalize ({ w2 with drawn:=w2.drawn + 1 }:World) = w3 at hI ⊢
  have c4:w3.cell? ⟨gv,4,none⟩ = some (w32 v.e):=holds_at hI.v 4 (show (4:Nat) < 8 by decide)
  have c5:w3.cell? ⟨gv,5,none⟩ = some (w32 v.f):=holds_at hI.v 5 (show (5:Nat) < 8 by decide)
  have c6:w3.cell? ⟨gv,6,none⟩ = some (w32 v.g):=holds_at hI.v 6 (show (6:Nat) < 8 by decide)
  have c7:w3.cell? ⟨gv,7,none⟩ = some (w32 v.h):=holds_at hI.v 7 (show (7:Nat) < 8 by decide)
  have ck:=holds_at hI.tab i (by rw [consts_length]; exact hi64)
  have cs:=holds_at hI.sch i (by rw [hl64]; exact hi64)
  refine Xg (An9 @c4 @c5 @c6 @c7 @ck @cs @wxor @wadd @wand) ?_
  clear c4 c5 c6 c7 ck cs
  have hI:=hI.drew
  refine ⟨fun w'=>w' = { w3 with drawn:=w3.drawn + 1 },rfl,?_⟩
  generalize ({ w3 with drawn:=w3.drawn + 1 }:World) = w4 at hI ⊢
  have c0:w4.cell? ⟨gv,0,none⟩ = some (w32 v.a):=holds_at hI.v 0 (show (0:Nat) < 8 by decide)
  have c1:w4.cell? ⟨gv,1,none⟩ = some (w32 v.b):=holds_at hI.v 1 (show (1:Nat) < 8 by decide)
  have c2:w4.cell? ⟨gv,2,none⟩ = some (w32 v.c):=holds_at hI.v 2 (show (2:Nat) < 8 by decide)
  have c3:w4.cell? ⟨gv,3,none⟩ = some (w32 v.d):=holds_at hI.v 3 (show (3:Nat) < 8 by decide)
  have c4:w4.cell? ⟨gv,4,none⟩ = some (w32 v.e):=holds_at hI.v 4 (show (4:Nat) < 8 by decide)
  have c5:w4.cell? ⟨gv,5,none⟩ = some (w32 v.f):=holds_at hI.v 5 (show (5:Nat) < 8 by decide)
  have c6:w4.cell? ⟨gv,6,none⟩ = some (w32 v.g):=holds_at hI.v 6 (show (6:Nat) < 8 by decide)
  repeat (any_goals (first
  | (with_reducible refine rotQ6 _ () ?_) | (with_reducible refine rotQ11 _ () ?_) | (with_reducible refine rotQ25 _ () ?_) | (with_reducible refine rotQ2 _ () ?_) | (with_reducible refine rotQ13 _ () ?_) | (with_reducible refine rotQ22 _ () ?_)
  | (with_reducible first|refine And.intro (Eq.refl (α:=World) _) ?_|refine forall_one ?_)
  | ((with_reducible refine idOQ ?_); ((with_reducible refine oQ_one ?_ ?_); exact ⟨_,rfl⟩))
  | ((with_reducible refine oG fun X Y=>?_); simp [go_sem,c0,c1,c2,c3,c4,c5,c6,wxor,wadd,wand,wor,build8]; apply Y; clear Y X)))
  refine arr_store sz_words (xs:=ws v'.list) (by rw [e1]; rfl) rfl (ws_one _) hI.v rfl (fun w5 hg5 h5=>?_)
  have hI:=hI.wrote hA hg5 h5
  refine Xa0 ?_
  refine ⟨⟨_,_,_,_,_,i + 1,rfl,hi64,by rw [← e2]; exact hI⟩,?_⟩
  simp only [schMu_eq]; omega
 ·obtain rfl:i = 64:=by omega
  have em:stV (mix s b) = .agg (ws (adL (rounds b s 64) s 8)).toArray:=rfl
  rw [em] at k
  clear em
  generalize rounds b s 64 = v at *
  refine Xa0 ?_
  refine ⟨AdJ w gh gr gs gt gv s sl v,adMu,⟨_,0,rfl,by omega,hI⟩,?_⟩
  clear hI
  rintro _ _ w2 ⟨v0,j,rfl,hj,hI⟩
  by_cases hj8:j < 8
  ·refine Xa0 ?_
   have hI:=hI.drew
   refine ⟨Nx { w2 with drawn:=w2.drawn + 1 },bR,rfl,?_⟩
   generalize ({ w2 with drawn:=w2.drawn + 1 }:World) = w3 at hI ⊢
   have cv:∀ w',Nx w3 w' → w'.cell? ⟨gv,j,none⟩ = some (w32 (at' v.list j)):=fun w' h=>by rw [holds_at (hI.next h).v j (by rw [adL_length]; exact hj8),adL_at v s hj8]
   have ch:∀ w',Nx w3 w' → w'.cell? ⟨gh,j,none⟩ = some (w32 (at' s.list j)):=fun w' h=>holds_at (hI.next h).h j (show j < 8 from hj8)
   refine Xf (fun W0 hW0=>An2 (cv _ hW0) (ch _ hW0)) @wadd ?_
   refine ⟨Nx,fun w9 h9=>?_⟩
   have hI:=hI.next h9
   refine arr_set sz_u32 rfl rfl hI.v (by simp [adL,hj8]) (fun W hg2 hh=>?_)
   have hI:=hI.wrote hA hg2 (u:=adL v s (j + 1)) (by rw [← adL_set v s hj8]; unfold ws at hh ⊢; rw [List.map_set]; exact hh)
   refine Xa0 ?_
   refine ⟨⟨_,j + 1,rfl,hj8,hI⟩,?_⟩
   simp only [adMu_eq]; omega
  ·obtain rfl:j = 8:=by omega
   refine Xa0 ?_
   refine arr_load hI.v un_words rfl (by kernel_rfl) ?_
   obtain ⟨zs,hz,hr⟩:=hI.r
   refine arr_store sz_words (xs:=ws (adL v s 8)) rfl rfl (ws_one _) hr hz (fun W hg2 hh=>?_)
   exact arr_ret hh un_words rfl (by kernel_rfl) (k _ (grown_below hI.below hg2 hA.r0))
end
section
variable {K:VK} {w w0:World}
structure Buf (w0:World) (v:Value) (l:List UInt8) (w:World):Prop where
 below:Bw w0 w
 row:BufM w 5 v l
 own:∀ i,v.ownBlock = some i → w0.heap.size ≤ i
theorem Buf.next {v:Value} {l:List UInt8} {w':World} (h:Buf w0 v l w) (hb:Bw w w'):Buf w0 v l w':=by
 refine ⟨h.below.on hb,h.row.keep (fun i hi=>?_),h.own⟩
 obtain ⟨g,c,rfl,hlt⟩:=h.row.shape
 cases hi
 exact hb.block g hlt
def lo8 (x:W):UInt8:=UInt8.ofNat x.toNat
theorem conv_w8 (T:TypeId) (x:W):oM Tryz.prog (.convert 223 5 (.tmp 0)) T [w32 x] = pureM (.int .u8 ((lo8 x).toNat:Int)):=by
 unfold lo8
 funext K w
 have e:IntKind.u8.wrap (x.toNat:Int) = ((UInt8.ofNat x.toNat).toNat:Int):=by
  rw [IntKind.wrap_u8,UInt8.toNat_ofNat']
  omega
 have e2:(convert 223 5 (w32 x)).run Tryz.prog w = .ok (.int .u8 (IntKind.u8.wrap (x.toNat:Int))) w:=by kernel_rfl
 rw [oM_convert,e2,e]
 rfl
theorem idx_st (T:TypeId) (s:St) (i:Nat) (hi:i < 8):oM Tryz.prog (.index 225 (.tmp 0) (.tmp 1)) T [stV s,.int .i64 (i:Int)] = pureM (w32 (at' s.list i)):=by
 have e:∀ w,(Instr.index 225 (stV s) (.int .i64 (i:Int))).run Tryz.prog w = .ok (w32 (at' s.list i)) w:=by
  intro w
  rcases i with _ | _ | _ | _ | _ | _ | _ | _ | i
  all_goals first | omega | kernel_rfl
 funext K w
 rw [rM_of (S:=Instr.index 225 (stV s) (.int .i64 (i:Int))) rfl,e]
 rfl
theorem mkB4 {T:TypeId} (a b c d:UInt8) (k:∀ g W,Bw w W → (∀ j u,(Lib.byteCells [a,b,c,d])[j]? = some u → W.cell? ⟨g,j,none⟩ = some u) → K (.slice (some ⟨g,0,none⟩) 4 4) W) :
  oM Tryz.prog (.buildSlice 202 4 #[(0,.tmp 0),(1,.tmp 1),(2,.tmp 2),(3,.tmp 3)]) T [.int .u8 (a.toNat:Int),.int .u8 (b.toNat:Int),.int .u8 (c.toNat:Int),.int .u8 (d.toNat:Int)] K w:=by
 have e:(Instr.buildSlice 202 4 #[(0,.int .u8 (a.toNat:Int)),(1,.int .u8 (b.toNat:Int)),(2,.int .u8 (c.toNat:Int)),(3,.int .u8 (d.toNat:Int))]).run Tryz.prog w = .ok (.slice (some ⟨w.heap.size,0,none⟩) 4 4) (w.alloc (.cells (Lib.byteCells [a,b,c,d]).toArray 5)):=by kernel_rfl
 rw [rM_of (S:=Instr.buildSlice 202 4 #[(0,.int .u8 (a.toNat:Int)),(1,.int .u8 (b.toNat:Int)),(2,.int .u8 (c.toNat:Int)),(3,.int .u8 (d.toNat:Int))]) (by simp [xop,execOp,evalL,evE]),e]
 refine k _ _ ((Below.refl _ w).alloc (rL) _) (fun j u hj=>?_)
 have:=World.cell?_alloc_at (w:=w) (Lib.byteCells [a,b,c,d]).toArray 5 w.heap.size j rfl
 rw [this]
 simpa using hj
abbrev OwnB (w:World) (B:Nat) (v:Value) (l:List UInt8):Prop:=w.ownsRow B 5 1 v l.length (Lib.byteCells l)
theorem pushW {B:Nat} {T T':TypeId} {v:Value} {l:List UInt8} (a b c d:UInt8) (ho:OwnB w B v l) (hB:B ≤ w.heap.size) (hl:l.length < 1099511627776) (k:∀ v' w',OwnB w' B v' (l ++ [a,b,c,d]) → Below B w w' → K v' w') :
  oM Tryz.prog (.buildSlice 202 4 #[(0,.tmp 0),(1,.tmp 1),(2,.tmp 2),(3,.tmp 3)]) T [.int .u8 (a.toNat:Int),.int .u8 (b.toNat:Int),.int .u8 (c.toNat:Int),.int .u8 (d.toNat:Int)] (fun u w=>oM Tryz.prog (.call { callee:=.builtin .append,args:=#[.tmp 0,.tmp 1],argTypes:=#[202,202] }) T' [v,u] K w) w:=by
 refine mkB4 a b c d fun g W hb hc=>?_
 have ho2:OwnB W B v l:=owns_keep ho (fun i hi=>hb.block i (owns_own ho hi).1)
 refine append_at 202 T' 5 ((Tryz.prog.info? 5).getD default) (.int .u8 0) 1 1 (by kernel_rfl) (by kernel_rfl) (by kernel_rfl) (by kernel_rfl) (by kernel_rfl) (by kernel_rfl) (by omega) (owns_base ho2 (Nat.zero_le _)) (Lib.byteCells [a,b,c,d]) rfl (by simp) ?_ ?_ (by simp only [maxLen]; omega) (by omega) ?_
 ·rintro ad ha j u hj
  cases ha
  rw [add_none,Nat.zero_add]
  exact hc j u hj
 ·intro u hu
  simp only [Lib.byteCells,List.mem_map] at hu
  obtain ⟨x,_,rfl⟩:=hu
  rfl
 ·intro v' w' ho' hg hv
  have hbl:∀ i,v.ownBlock = some i → B ≤ i:=fun i hi=>(owns_own ho hi).2.1
  have hBW:=Nat.le_trans hB hb.size
  refine k v' w' ?_ ((hb.mono hB).grown hg hBW hbl)
  have e2:Lib.byteCells (l ++ [a,b,c,d]) = Lib.byteCells l ++ Lib.byteCells [a,b,c,d]:=by simp [Lib.byteCells]
  show w'.ownsRow B 5 1 v' (l ++ [a,b,c,d]).length (Lib.byteCells (l ++ [a,b,c,d]))
  rw [List.length_append,e2]
  refine ⟨ho'.1,ho'.2.imp id ?_⟩
  rintro ⟨g,cap,cur,rfl,hb',hr⟩
  exact ⟨g,cap,cur,rfl,(hv g rfl).elim (hbl g) (fun h=>Nat.le_trans hBW h),hr⟩
theorem toStrB {B:Nat} {T:TypeId} {v:Value} {l:List UInt8} (ho:OwnB w B v l) (hne:0 < l.length) (k:K (.string ⟨l.toArray⟩) w):oM Tryz.prog (.convert 202 9 (.tmp 0)) T [v] K w:=by
 obtain ⟨g,cap,cur,rfl,hlt,_,_,_,_,hc⟩:=owns_cells ho hne
 have:=run_convert_bytes_back (P:=Tryz.prog) w 202 9 5 ⟨g,0,none⟩ cap l (by kernel_rfl) (by kernel_rfl) (by kernel_rfl) (fun j hj=>by
  rw [add_none,Nat.zero_add]
  exact hc j _ (by simp [Lib.byteCells,hj]))
 rw [rM_of (S:=convert 202 9 (.slice (some ⟨g,0,none⟩) l.length cap)) rfl,this]
 exact k
theorem sliceTo64 {T:TypeId} {a:Option Addr} {n c:Nat} (hc:64 ≤ c) (k:K (.slice a 64 c) w):oM Tryz.prog (.slice 202 (.tmp 0) none (some (.tmp 1)) none) T [.slice a n c,.int .i64 64] K w:=
 sliceTo_at (by kernel_rfl) (sz:=1) (fun w=>by kernel_rfl) 64 hc k
theorem sliceFrom64 {T:TypeId} {g o n c:Nat} (hn:64 ≤ n) (hc:n ≤ c) (k:∀ ad,(64 < c → ad = some ⟨g,o + 64,none⟩) → K (.slice ad (n - 64) (c - 64)) w):oM Tryz.prog (.slice 202 (.tmp 0) (some (.tmp 1)) none none) T [.slice (some ⟨g,o,none⟩) n c,.int .i64 64] K w:=by
 have hs:∀ w,(sizeOf (Tryz.prog.elem 202)).run Tryz.prog w = .ok 1 w:=fun w=>by kernel_rfl
 rw [oM_sliceFrom,run_sliceAt_slice w 202 _ _ _ _ (by kernel_rfl),run_slice_l w 202 _ n c (by kernel_rfl) .i64 64 (by omega) (by omega),hs]
 simp only [Result.andThen_ok,sliced]
 refine k _ (fun h=>?_)
 rw [if_neg (show ¬ c = (64:Int).toNat by show ¬ c = 64; omega)]
 rfl
theorem ofStr (l:List UInt8) {T:TypeId} (k:∀ v w',Buf w v l w' → K v w'):oM Tryz.prog (.convert 9 202 (.tmp 0)) T [.string ⟨l.toArray⟩] K w:=by
 refine ofStr_at (e:=5) (by kernel_rfl) (by kernel_rfl) (by kernel_rfl) l (fun v w' hb hg ho hs=>k v w' ⟨(bR).grown hg (rL) (fun i hi=>by cases hi),hb,fun i hi=>?_⟩)
 rw [ho] at hi
 cases hi
 exact rL
theorem mkB1 {T:TypeId} (x:UInt8) (k:∀ g W,Bw w W → W.cell? ⟨g,0,none⟩ = some (.int .u8 (x.toNat:Int)) → K (.slice (some ⟨g,0,none⟩) 1 1) W):oM Tryz.prog (.buildSlice 202 1 #[(0,.tmp 0)]) T [.int .u8 (x.toNat:Int)] K w:=by
 rw [oM_buildSlice1]
 have e:(Instr.buildSlice 202 1 #[(0,.int .u8 (x.toNat:Int))]).run Tryz.prog w = .ok (.slice (some ⟨w.heap.size,0,none⟩) 1 1) (w.alloc (.cells #[.int .u8 (x.toNat:Int)] 5)):=by kernel_rfl
 rw [e]
 refine k _ _ ((Below.refl _ w).alloc (rL) _) ?_
 have:=World.cell?_alloc_at (w:=w) #[.int .u8 (x.toNat:Int)] 5 w.heap.size 0 rfl
 rw [this]
 rfl
theorem push {T T':TypeId} {v:Value} {l:List UInt8} (x:UInt8) {n:Int} (hx:n = (x.toNat:Int)) (h:Buf w0 v l w) (hl:l.length + 1 ≤ 1099511627776) (k:∀ v' w',Buf w0 v' (l ++ [x]) w' → K v' w') :
  oM Tryz.prog (.buildSlice 202 1 #[(0,.tmp 0)]) T [.int .u8 n] (fun u w=>oM Tryz.prog (.call { callee:=.builtin .append,args:=#[.tmp 0,.tmp 1],argTypes:=#[202,202] }) T' [v,u] K w) w:=by
 subst hx
 refine mkB1 x fun g W hb hc=>?_
 have h:=h.next hb
 refine pushB_at (e:=5) (i:=(Tryz.prog.info? 5).getD default) (by kernel_rfl) (by kernel_rfl) (by kernel_rfl) (by kernel_rfl) (by kernel_rfl) h.row hc hl (fun v' w' hb' hg hv=>k v' w' ⟨h.below.grown hg h.below.size h.own,hb',fun i hi=>?_⟩)
 rcases hv with hv | ⟨g',hv,hlt⟩
 ·exact h.own i (by rw [← hv]; exact hi)
 ·rw [hv] at hi
  cases hi
  exact Nat.le_trans h.below.size hlt
theorem bufByR {g n c:Nat} {l:List UInt8} (h:BufM w 5 (.slice (some ⟨g,0,none⟩) n c) l):ByR w g 0 l:=by
 obtain ⟨g',cap,cur,fz,hv,hg,hfz,hcs,hlc,hcell⟩:=h
 cases hv
 refine ⟨(Array.getElem?_eq_some_iff.1 hg).1,fun i hi=>?_⟩
 rw [Nat.zero_add,cell_of_block hg,hcell i hi]
 simp [List.getD_eq_getElem?_getD,hi]
theorem bufCap {g n c:Nat} {l:List UInt8} {v:Value} (h:BufM w 5 v l) (e:v = .slice (some ⟨g,0,none⟩) n c):l.length ≤ c:=by
 obtain ⟨g',cap,cur,fz,hv,hg,hfz,hcs,hlc,hcell⟩:=h
 rw [e] at hv
 cases hv
 exact hlc
theorem ByR.other {b o g:Nat} {l:List UInt8} {w':World} (h:ByR w b o l) (hg:w.grownBy w' (some g)) (hne:b ≠ g):ByR w' b o l:=
 ⟨lL h.1 hg.size,fun i hi=>by
  rw [← h.2 i hi]
  unfold World.cell?
  rw [hg.block b h.1 (fun e=>hne (by cases e; rfl))]⟩
theorem ByR.part {b o:Nat} {l:List UInt8} (h:ByR w b o l) (i n:Nat) (hn:i + n ≤ l.length):ByR w b (o + i) ((l.drop i).take n):=by
 refine ⟨h.1,fun j hj=>?_⟩
 have hj':j < n:=by rw [List.length_take,List.length_drop] at hj; omega
 rw [Nat.add_assoc,h.2 (i + j) (by omega)]
 congr 3
 rw [List.getD_eq_getElem?_getD,List.getD_eq_getElem?_getD,List.getElem?_take_of_lt hj',List.getElem?_drop]
def BkJ (w0:World) (g gb:Nat) (p:List UInt8) (m:Nat) (R:St) (l:List Value) (w':World):Prop:=
 ∃ (ad:Option Addr) (c t:Nat) (st:St),l = [.slice ad (64 * (m - t)) c] ∧ t ≤ m ∧ 64 * (m - t) ≤ c ∧ (t < m → ad = some ⟨gb,64 * t,none⟩) ∧ Bw w0 w' ∧ ByR w' gb 0 p ∧ Holds w' g 225 (ws st.list) ∧ blocks (m - t) st (p.drop (64 * t)) = R
def bkMu (l:List Value) (_:World):Nat:=match l with | [.slice _ m _]=>m | _=>0
theorem bkMu_eq (m c:Nat) (a:Option Addr) (w:World):bkMu [.slice a m c] w = m:=rfl
def outL (st:St) (i:Nat):List UInt8:=((st.list.take i).map out1).flatten
theorem outL_length (st:St) (i:Nat) (hi:i ≤ 8):(outL st i).length = 4 * i:=by
 unfold outL St.list
 rcases i with _ | _ | _ | _ | _ | _ | _ | _ | _ | i
 all_goals first | omega | rfl
theorem out1_eq (x:W):out1 x = [lo8 (x >>> 24),lo8 (x >>> 16),lo8 (x >>> 8),lo8 x]:=by
 simp only [out1,lo8,BitVec.toNat_ushiftRight,Nat.shiftRight_eq_div_pow]
theorem outL_next (st:St) (i:Nat) (hi:i < 8):outL st (i + 1) = outL st i ++ [lo8 (at' st.list i >>> 24),lo8 (at' st.list i >>> 16),lo8 (at' st.list i >>> 8),lo8 (at' st.list i)]:=by
 rw [← out1_eq]
 unfold outL
 have hl:i < st.list.length:=hi
 rw [List.take_add_one,gE hl,List.map_append,List.flatten_append]
 simp [at',List.getD_eq_getElem?_getD,hl]
def OutJ (w0:World) (st:St) (l:List Value) (w':World):Prop:=∃ (u v:Value) (i:Nat),l = [u,v,.int .i64 (i:Int)] ∧ i ≤ 8 ∧ OwnB w' w0.heap.size v (outL st i) ∧ Bw w0 w'
def outMu (l:List Value) (_:World):Nat:=match l with | [_,_,.int _ i]=>8 - i.toNat | _=>0
theorem outMu_eq (a b:Value) (q:IntKind) (i:Int) (w:World):outMu [a,b,.int q i] w = 8 - i.toNat:=rfl
def ZeJ (w0:World) (s:List UInt8) (l:List Value) (w':World):Prop:=∃ v j,l = [v] ∧ j ≤ zeros s.length ∧ Buf w0 v (s ++ [128] ++ List.replicate j 0) w'
theorem sha_len (s:List UInt8) (j:Nat):(s ++ [(128:UInt8)] ++ List.replicate j 0).length = s.length + 1 + j:=by simp; omega
def zeMu (n:Nat) (l:List Value) (_:World):Nat:=match l with | [.slice _ m _]=>n - m | _=>0
theorem zeMu_eq (n m c:Nat) (a:Option Addr) (w:World):zeMu n [.slice a m c] w = n - m:=rfl
def LeJ (w0:World) (s:List UInt8) (l:List Value) (w':World):Prop:=∃ (v:Value) (j:Nat),l = [v,.int .i64 (56 - 8 * (j:Int))] ∧ j ≤ 8 ∧ Buf w0 v (s ++ [128] ++ List.replicate (zeros s.length) 0 ++ (lenBytes s.length).take j) w'
def leMu (l:List Value) (_:World):Nat:=match l with | [_,.int _ i]=>(i + 8).toNat | _=>0
theorem leMu_eq (a:Value) (q:IntKind) (i:Int) (w:World):leMu [a,.int q i] w = (i + 8).toNat:=rfl
theorem lenByte (n j:Nat) (hj:j < 8) (hn:n < 1099511627776):(IntKind.u8.wrap (8 * (n:Int) / 2 ^ (56 - 8 * (j:Int)).toNat)) = (((lenBytes n).getD j 0).toNat:Int):=by
 have e1:8 * (n:Int) = ((8 * n:Nat):Int):=by omega
 have e2:(56 - 8 * (j:Int)).toNat = 8 * (7 - j):=by omega
 have e3:(lenBytes n).getD j 0 = UInt8.ofNat (8 * n / 2 ^ (8 * (7 - j))):=by
  unfold lenBytes
  rcases j with _ | _ | _ | _ | _ | _ | _ | _ | j <;> first | rfl | omega
 rw [e1,e2,e3,IntKind.wrap_u8,UInt8.toNat_ofNat']
 generalize 8 * (7 - j) = q
 have:((8 * n:Nat):Int) / 2 ^ q = ((8 * n / 2 ^ q:Nat):Int):=by
  rw [Int.natCast_ediv,Int.natCast_pow]; rfl
 rw [this]
 omega
theorem take_next (l:List UInt8) (j:Nat) (hj:j < l.length):l.take (j + 1) = l.take j ++ [l.getD j 0]:=by
 rw [List.take_add_one,List.getD_eq_getElem?_getD,gE hj]
 rfl
theorem Sha_ok (s:List UInt8) (hs:s.length ≤ 1000000000) (k:∀ w',Bw w w' → K (.string ⟨(sha s).toArray⟩) w'):callM Tryz.prog 195 #[.string ⟨s.toArray⟩] K w:=by
 apply sh_195_ok
 unfold sh_195
 refine ofStr s fun v1 w1 h1=>?_
 refine push 128 rfl h1 (by omega) (fun v2 w2 h2=>?_)
 refine ⟨ZeJ w s,zeMu (s.length + 1 + zeros s.length),⟨_,0,rfl,by omega,by simpa using h2⟩,?_⟩
 clear h2 w2 v2 h1 w1 v1
 rintro _ _ w1 ⟨v1,j,rfl,hj,h1⟩
 obtain ⟨g1,c1,rfl,hlt1⟩:=h1.row.shape
 have hz:zeros s.length < 64:=by unfold zeros; omega
 by_cases hjz:j < zeros s.length
 ·have hm:¬ ((s.length:Int) + 1 + (j:Int)).tmod 64 = 56:=by
   rw [Int.tmod_eq_emod_of_nonneg (by omega)]; unfold zeros at hjz; omega
  rw [sha_len] at *
  repeat (any_goals (first
  | ((with_reducible refine push 0 rfl h1 (by rw [sha_len]; omega) ?_); intro v2 w2 h2)
  | (with_reducible refine yL ?_)
  | ((with_reducible refine oG fun X Y=>?_); simp [go_sem,hm]; apply Y; clear Y X)))
  have e:s ++ [(128:UInt8)] ++ List.replicate j 0 ++ [0] = s ++ [128] ++ List.replicate (j + 1) 0:=by
   simp [List.replicate_succ',List.append_assoc]
  rw [e] at h2
  obtain ⟨g2,c2,rfl,hlt2⟩:=h2.row.shape
  refine ⟨⟨_,j + 1,rfl,hjz,h2⟩,?_⟩
  rw [sha_len]
  simp only [zeMu_eq]; omega
 ·obtain rfl:j = zeros s.length:=by omega
  have hm:((s.length:Int) + 1 + (zeros s.length:Int)).tmod 64 = 56:=by
   rw [Int.tmod_eq_emod_of_nonneg (by omega)]; unfold zeros; omega
  rw [sha_len] at *
  refine Xa @hm ?_
  refine ⟨LeJ w s,leMu,⟨_,0,rfl,by omega,by simpa using h1⟩,?_⟩
  clear h1 hlt1 hm
  rintro _ _ w1 ⟨v1,j,rfl,hj,h1⟩
  have hle:(s ++ [(128:UInt8)] ++ List.replicate (zeros s.length) 0 ++ (lenBytes s.length).take j).length = s.length + 1 + zeros s.length + j:=by
   rw [List.length_append,sha_len,List.length_take,lenBytes_length]; omega
  by_cases hj8:j < 8
  ·have hq:IntKind.u64.wrap (s.length:Int) = (s.length:Int):=wrapU64 _ (by omega) (by omega)
   have hsh:=fun t t' T x=>oM_shr64 (P:=Tryz.prog) t t' T .i64 x (56 - 8 * (j:Int)) (by omega) (by omega)
   repeat (any_goals (first
   | ((with_reducible refine push ((lenBytes s.length).getD j 0) (lenByte _ _ hj8 (by omega)) h1 (by omega) ?_); intro v2 w2 h2)
   | (with_reducible refine yN ?_)
   | ((with_reducible refine oG fun X Y=>?_); simp [go_sem,hq,hsh]; (try simp (disch:=omega) only [wrapI64,wrapU8,wrapU32,wrapU64]); apply Y; clear Y X)))
   refine ⟨⟨_,j + 1,by rw [show 56 - 8 * (j:Int) - 8 = 56 - 8 * ((j + 1:Nat):Int) by omega],hj8,?_⟩,?_⟩
   ·rw [take_next _ _ (by rw [lenBytes_length]; exact hj8),← List.append_assoc]
    exact h2
   ·simp only [leMu_eq]; omega
  ·obtain rfl:j = 8:=by omega
   rw [List.take_of_length_le (by rw [lenBytes_length]; omega)] at h1 hle
   have hpad:s ++ [(128:UInt8)] ++ List.replicate (zeros s.length) 0 ++ lenBytes s.length = padded s:=rfl
   rw [hpad] at h1 hle
   have hp64:=padded_length s
   obtain ⟨m,hm⟩:∃ m,(padded s).length = 64 * m:=⟨(padded s).length / 64,by omega⟩
   refine Xa0 ?_
   refine first_ok fun w2 hb2=>?_
   have h2:=h1.next hb2
   refine arr_alloc al_words fun g w3 hb3 hg3 h3=>?_
   have h4:=h2.next hb3
   obtain ⟨gb,c,rfl,hlt⟩:=h2.row.shape
   refine arr_store sz_words (xs:=ws first.list) rfl rfl (ws_one _) h3 rfl (fun w4 hg4 hh=>?_)
   have zb:=h1.below.size
   have hby:=(bufByR h4.row).other hg4 (by omega)
   have hbw:Bw w w4:=grown_below h4.below hg4 (by have:=hb2.size; have:=h2.below.size; omega)
   have ef:sha s = ((blocks m first (padded s)).list.map out1).flatten:=by
    unfold sha
    rw [hm,Nat.mul_div_cancel_left m (by omega)]
   refine ⟨BkJ w g gb (padded s) m (blocks m first (padded s)),bkMu,⟨_,_,0,first,by rw [hm]; rfl,by omega,by have:=bufCap h4.row rfl; omega,fun _=>rfl,hbw,hby,hh,rfl⟩,?_⟩
   have hgw:w.heap.size ≤ g:=Nat.le_trans h2.below.size hg3
   have hgb:gb ≠ g:=by omega
   clear hh hby hbw hg4 h4 hlt h3 hg3 hb3 h2 hb2 h1 zb w4 w3 w2
   rintro _ _ w2 ⟨ad,c,t,st,rfl,ht,hc,had,hbw,hby,hh,hbl⟩
   by_cases htm:t < m
   ·obtain ⟨r,hr⟩:∃ r,m - t = r + 1:=⟨m - t - 1,by omega⟩
    obtain rfl:=had htm
    rw [hr] at hbl hc ⊢
    refine Xa0 ?_
    refine ⟨Nx { w2 with drawn:=w2.drawn + 1 },bR,rfl,?_⟩
    have hh:=hh.next (.drawn (B:=w2.heap.size))
    have hby:=hby.next (.drawn (B:=w2.heap.size))
    have hbw:=hbw.on (.drawn (B:=w2.heap.size))
    generalize ({ w2 with drawn:=w2.drawn + 1 }:World) = w3 at hh hby hbw ⊢
    refine oH_of (v:=stV st) ⟨_,rfl⟩ (fun W0 hW0=>arr_load (hh.next hW0) un_words rfl (by kernel_rfl) ⟨rfl,rfl⟩) ?_
    refine pX ?_
    refine oH_of (v:=.slice (some ⟨gb,64 * t,none⟩) 64 c) ⟨_,rfl⟩ (fun W0 hW0=>sliceTo64 (by omega) ⟨rfl,rfl⟩) ?_
    refine ⟨Nx,fun w9 h9=>?_⟩
    have hh:=hh.next h9
    have hby:=hby.next h9
    have hbw:=hbw.on h9
    have hpart:=hby.part (64 * t) 64 (by omega)
    rw [Nat.zero_add] at hpart
    refine mix_ok st _ (by rw [List.length_take,List.length_drop]; omega) hpart (fun w4 hb4=>?_)
    refine arr_store sz_words (xs:=ws (mix st _).list) rfl rfl (ws_one _) (hh.next hb4) rfl (fun w5 hg5 hh5=>?_)
    refine sliceFrom64 (by omega) (by omega) (fun ad' had'=>?_)
    have e1:64 * (r + 1) - 64 = 64 * (m - (t + 1)):=by omega
    rw [e1]
    refine ⟨⟨ad',c - 64,t + 1,_,rfl,by omega,by omega,fun h=>had' (by omega),grown_below (hbw.on hb4) hg5 hgw,(hby.next hb4).other hg5 hgb,hh5,?_⟩,?_⟩
    ·rw [show m - (t + 1) = r by omega,← hbl]
     show _ = blocks r (mix st ((List.drop (64 * t) (padded s)).take 64)) ((List.drop (64 * t) (padded s)).drop 64)
     rw [List.drop_drop,show 64 * t + 64 = 64 * (t + 1) by omega]
    ·simp only [bkMu_eq]; omega
   ·obtain rfl:t = m:=by omega
    rw [Nat.sub_self] at hbl ⊢
    refine Xa0 ?_
    refine arr_load hh un_words rfl (by kernel_rfl) ?_
    have hst:st = blocks t first (padded s):=hbl
    rw [← hst] at ef
    refine ⟨OutJ w st,outMu,⟨_,_,0,rfl,by omega,⟨rfl,.inl ⟨rfl,rfl⟩⟩,hbw⟩,?_⟩
    rintro _ _ w3 ⟨u3,v3,i,rfl,hi,ho,hb3⟩
    by_cases hi8:i < 8
    ·have hix:=fun T=>idx_st T st i hi8
     repeat (any_goals (first
     | ((with_reducible refine pushW _ _ _ _ ho hb3.size (by have:=outL_length st i hi; omega) ?_); intro v4 w4 ho4 hb4)
     | (with_reducible refine yN ?_)
     | ((with_reducible refine oG fun X Y=>?_); simp [go_sem,hix,shr24,shr16,shr8,conv_w8]; (try simp (disch:=omega) only [wrapI64,wrapU8,wrapU32,wrapU64]); apply Y; clear Y X)))
     rw [← outL_next st i hi8] at ho4
     refine ⟨⟨_,_,i + 1,rfl,hi8,ho4,hb3.trans hb4⟩,?_⟩
     simp only [outMu_eq]; omega
    ·obtain rfl:i = 8:=by omega
     have e8:outL st 8 = sha s:=by rw [ef]; rfl
     repeat (any_goals (first
     | ((with_reducible refine toStrB ho (by rw [outL_length st 8 (by omega)]; omega) ?_))
     | (with_reducible refine yM ?_)
     | ((with_reducible refine oG fun X Y=>?_); simp [go_sem]; apply Y; clear Y X)))
     rw [e8]
     exact k _ hb3
end
end Go.Proofs
namespace TkSpec
open FdSpec CodeSpec
def numStep (n:Int) (out:Int) (b:UInt8):Int:=addM n (mulM n out 256) (b.toNat:Int)
def numberM (s:List UInt8) (n:Int):Int:=if okN n then (ShaSpec.sha s).foldl (numStep n) 0 else 0
def signedM (s:Stp) (key m c r:Int) (o:Off):Bool:=
 decide (genM s r = timesM s (powerG s.g key c) [o.a]) && decide (powerG s.g m r = timesM s (powerG s.g o.z c) [o.b])
end TkSpec
namespace TkSpec
open FdSpec CodeSpec
structure Mir where
 bases:List Int
 blind:Int
def badN (g:Grp) (n:Int):Bool:=decide (n < 1) || decide (g.Q ≤ n)
def makeM (g:Grp) (m:Mir):Stp × Bool:=
 if validG g && decide (2 ≤ m.bases.length) && decide (m.bases.length ≤ 7) && !m.bases.any (badN g) && !badN g m.blind then (⟨g,m.bases.map (powerG g g.G),powerG g g.G m.blind⟩,true)
 else (⟨⟨0,0,0⟩,[],0⟩,false)
def mirrorsM (s:Stp) (m:Mir):Bool:=(makeM s.g m).2 && decide ((makeM s.g m).1.blind = s.blind) && decide ((makeM s.g m).1.bases = s.bases)
def zB:Bld:=⟨0,0,0,[]⟩
end TkSpec
namespace FdPoly
def ev:List Int → Int → Int
 | [],_=>0
 | c :: p,x=>c + x * ev p x
def U (q a:Int):Prop:=∃ u,q ∣ u * a - 1
theorem U.cancel {q a b:Int} (h:U q a) (hd:q ∣ a * b):q ∣ b:=by
 obtain ⟨u,k,hk⟩:=h
 obtain ⟨m,hm⟩:=hd
 exact ⟨u * m - k * b,by grind⟩
def Z (q:Int) (p:List Int):Prop:=∀ c ∈ p,q ∣ c
theorem Z.ev {q:Int}:∀ {p:List Int},Z q p → ∀ x,q ∣ FdPoly.ev p x
 | [],_,_=>Int.dvd_zero q
 | c :: p,h,x=>by
  have h1:=h c (by simp)
  have h2:=Z.ev (p:=p) (fun d hd=>h d (by simp [hd])) x
  exact Int.dvd_add h1 (Int.dvd_mul_of_dvd_right h2)
def Apart (q:Int):List Int → Prop
 | []=>True
 | a :: xs=>(∀ x ∈ xs,U q (x - a)) ∧ Apart q xs
def addL:List Int → List Int → List Int
 | [],p=>p
 | p,[]=>p
 | c :: p,d :: r=>(c + d) :: addL p r
def scl (k:Int) (p:List Int):List Int:=p.map (fun c=>k * c)
theorem addL_ev (x:Int):∀ p r:List Int,ev (addL p r) x = ev p x + ev r x
 | [],r=>by simp [addL,ev]
 | c :: p,[]=>by simp [addL,ev]
 | c :: p,d :: r=>by
  simp only [addL,ev,addL_ev x p r]
  grind
theorem addL_len:∀ p r:List Int,(addL p r).length = max p.length r.length
 | [],r=>by simp [addL]
 | c :: p,[]=>by simp [addL]
 | c :: p,d :: r=>by simp only [addL,List.length_cons,addL_len p r]; omega
theorem addL_get:∀ (p r:List Int) (i:Nat),(addL p r).getD i 0 = p.getD i 0 + r.getD i 0
 | [],r,i=>by simp [addL]
 | c :: p,[],i=>by simp [addL]
 | c :: p,d :: r,0=>by simp [addL]
 | c :: p,d :: r,i + 1=>by
  have:=addL_get p r i
  simpa [addL] using this
theorem scl_ev (k x:Int) (p:List Int):ev (scl k p) x = k * ev p x:=by
 induction p with
 | nil=>simp [scl,ev]
 | cons c p ih=>
  have e:scl k (c :: p) = (k * c) :: scl k p:=rfl
  rw [e]
  simp only [ev,ih]
  grind
theorem scl_len (k:Int) (p:List Int):(scl k p).length = p.length:=by simp [scl]
theorem scl_get (k:Int) (p:List Int) (i:Nat):(scl k p).getD i 0 = k * p.getD i 0:=by
 induction p generalizing i with
 | nil=>simp [scl]
 | cons c p ih=>
  cases i with
  | zero=>simp [scl]
  | succ i=>simpa [scl] using ih i
def lin (a:Int) (p:List Int):List Int:=addL (0 :: p) (scl (-a) p)
theorem lin_ev (a x:Int) (p:List Int):ev (lin a p) x = (x - a) * ev p x:=by
 unfold lin
 rw [addL_ev,scl_ev]
 simp only [ev]
 grind
theorem lin_len (a:Int) (p:List Int):(lin a p).length = p.length + 1:=by
 unfold lin
 rw [addL_len,scl_len,List.length_cons]; omega
theorem lin_top (a:Int) (p:List Int):(lin a p).getD p.length 0 = p.getD (p.length - 1) 0:=by
 unfold lin
 rw [addL_get,scl_get]
 have h1:p.getD p.length 0 = 0:=by simp [List.getD]
 rw [h1]
 cases p with
 | nil=>simp
 | cons c p=>simp
structure Ip (q:Int) (X Y:Nat → Int) (i n:Nat) (p:List Int) (t:Int):Prop where
 len:p.length = n + 1
 val:∀ j,i ≤ j → j ≤ i + n → q ∣ ev p (X j) - Y j
 top:q ∣ p.getD n 0 - t
theorem Ip.step {q:Int} {X Y:Nat → Int} {i n:Nat} {p r:List Int} {t s u:Int} (h:Ip q X Y i n p t) (h':Ip q X Y (i + 1) n r s) (hu:q ∣ u * (X (i + n + 1) - X i) - 1) :
  Ip q X Y i (n + 1) (scl u (addL (lin (X i) r) (scl (-1) (lin (X (i + n + 1)) p)))) ((s - t) * u):=by
 refine ⟨?_,fun j h1 h2=>?_,?_⟩
 ·rw [scl_len,addL_len,scl_len,lin_len,lin_len,h.len,h'.len]; omega
 ·rw [scl_ev,addL_ev,scl_ev,lin_ev,lin_ev]
  obtain ⟨k,hk⟩:=hu
  by_cases hj:j = i
  ·subst hj
   obtain ⟨a,ha⟩:=h.val j (Nat.le_refl _) (by omega)
   generalize ev p (X j) = P at *
   generalize ev r (X j) = R at *
   generalize X (j + n + 1) = xn at *
   generalize X j = xj at *
   generalize Y j = y at *
   exact ⟨u * (xn - xj) * a + k * y,by grind⟩
  ·by_cases hj2:j = i + n + 1
   ·subst hj2
    obtain ⟨a,ha⟩:=h'.val (i + n + 1) (by omega) (by omega)
    generalize ev p (X (i + n + 1)) = P at *
    generalize ev r (X (i + n + 1)) = R at *
    generalize X (i + n + 1) = xn at *
    generalize X i = xj at *
    generalize Y (i + n + 1) = y at *
    exact ⟨u * (xn - xj) * a + k * y,by grind⟩
   ·obtain ⟨a,ha⟩:=h.val j (by omega) (by omega)
    obtain ⟨b,hb⟩:=h'.val j (by omega) (by omega)
    generalize ev p (X j) = P at *
    generalize ev r (X j) = R at *
    generalize X (i + n + 1) = xn at *
    generalize X i = xi at *
    generalize X j = xj at *
    generalize Y j = y at *
    exact ⟨u * (xj - xi) * b - u * (xj - xn) * a + k * y,by grind⟩
 ·rw [scl_get,addL_get,scl_get]
  have e1:(lin (X i) r).getD (n + 1) 0 = r.getD n 0:=by have:=lin_top (X i) r; rw [h'.len] at this; exact this
  have e2:(lin (X (i + n + 1)) p).getD (n + 1) 0 = p.getD n 0:=by have:=lin_top (X (i + n + 1)) p; rw [h.len] at this; exact this
  rw [e1,e2]
  obtain ⟨a,ha⟩:=h.top
  obtain ⟨b,hb⟩:=h'.top
  exact ⟨u * b - u * a,by grind⟩
theorem Ip.one (q:Int) (X Y:Nat → Int) (i:Nat):Ip q X Y i 0 [Y i] (Y i):=
 ⟨rfl,fun j h1 h2=>by
  have:j = i:=by omega
  subst this
  simp [ev],by simp⟩
def pr (X:Nat → Int):Nat → List Int
 | 0=>[1]
 | n + 1=>lin (X n) (pr X n)
end FdPoly
namespace FdPoly
open FdSpec
theorem subM_dvd {n a b:Int} (hn:okN n):n ∣ subM n a b - (a - b):=by
 unfold subM; rw [if_pos hn]
 have:=Int.emod_add_mul_ediv (a - b) n
 exact ⟨-((a - b) / n),by grind⟩
theorem mulM_dvd {n a b:Int} (hn:okN n):n ∣ mulM n a b - a * b:=by
 unfold mulM; rw [if_pos hn]
 have:=Int.emod_add_mul_ediv (a * b) n
 exact ⟨-(a * b / n),by grind⟩
theorem mod_dvd (n a:Int):n ∣ a % n - a:=by
 have:=Int.emod_add_mul_ediv a n
 exact ⟨-(a / n),by grind⟩
theorem euc_inv {n a:Int} (hn:okN n):∀ (m:Nat) (r s x y α β:Int),s.toNat ≤ m → 0 ≤ r → 0 ≤ s → α * r + β * s = 1 → n ∣ x * a - r → n ∣ y * a - s → (eucAll n r s x y).1 = 1 ∧ n ∣ (eucAll n r s x y).2 * a - 1
 | m,r,s,x,y,α,β,hm,hr,hs,hb,hx,hy=>by
  by_cases h0:s = 0
  ·subst h0
   have e:eucAll n r 0 x y = (r,x):=euc_zero n _ r x y
   rw [e]
   have h1:α * r = 1:=by omega
   have h2:r = 1:=by
    have:r ∣ 1:=⟨α,by rw [Int.mul_comm]; exact h1.symm⟩
    have:=Int.le_of_dvd (by omega) this
    by_cases h3:r = 0
    ·rw [h3] at h1; omega
    ·omega
   subst h2
   exact ⟨rfl,hx⟩
  ·have hs':0 < s:=by omega
   rw [euc_step n r s x y hs']
   have h1:=Int.emod_nonneg r h0
   have h2:=Int.emod_lt_of_pos r hs'
   have h3:=Int.emod_add_mul_ediv r s
   have h4:n ∣ subM n x (mulM n (r / s) y) * a - r % s:=by
    obtain ⟨k1,e1⟩:=subM_dvd (a:=x) (b:=mulM n (r / s) y) hn
    obtain ⟨k2,e2⟩:=mulM_dvd (a:=r / s) (b:=y) hn
    obtain ⟨k3,e3⟩:=hx
    obtain ⟨k4,e4⟩:=hy
    generalize subM n x (mulM n (r / s) y) = A at *
    generalize mulM n (r / s) y = B at *
    generalize r / s = d at *
    generalize r % s = e at *
    exact ⟨k1 * a - k2 * a + k3 - d * k4,by grind⟩
   cases m with
   | zero=>omega
   | succ m=>exact euc_inv hn m s (r % s) y _ (β + α * (r / s)) α (by omega) hs h1 (by generalize r / s = d at *; generalize r % s = e at *; grind) hy h4
theorem invM_some {n a:Int} (hn:okN n) (h:U n a):∃ x,invM n a = some x ∧ n ∣ x * a - 1 ∧ 0 ≤ x ∧ x < n:=by
 obtain ⟨u,k,hk⟩:=h
 have hp:0 < n:=by have:=hn.1; omega
 have h1:=Int.emod_nonneg a (b:=n) (by omega)
 have h3:=Int.emod_add_mul_ediv a n
 obtain ⟨e1,e2⟩:=euc_inv (a:=a) hn _ n (a % n) 0 1 (u * (a / n) - k) u (Nat.le_refl _) (by omega) h1 (by generalize a / n = d at *; generalize a % n = e at *; grind) ⟨-1,by omega⟩ (by
  obtain ⟨m,hm⟩:=mod_dvd n a
  exact ⟨-m,by grind⟩)
 refine ⟨(eucAll n n (a % n) 0 1).2 % n,?_,?_,Int.emod_nonneg _ (by omega),Int.emod_lt_of_pos _ hp⟩
 ·unfold invM
  rw [if_pos hn,if_pos e1]
 ·obtain ⟨m,hm⟩:=mod_dvd n (eucAll n n (a % n) 0 1).2
  obtain ⟨l,hl⟩:=e2
  generalize (eucAll n n (a % n) 0 1).2 = z at *
  generalize z % n = zz at *
  exact ⟨m * a + l,by grind⟩
end FdPoly
