/- Parts of the proof of the seat's statements (HFd, FdSpec, FdPow, FdDiv, FdA, FdB, FdC, FdE, FdF, FdG, FdH, FdI, FdJ, FdK, FdL, HTk, TkSpec, TkA, TkB, TkC, ShelfI, TkD, TkE, TkF, TkG, TkH, TkI, TkJ, TkK): lemmas about the given translation and plain laws. No condition of their own. -/
import Derived.Test.YtpfjmfgnlpnflaaGreatDoorZca
import Derived.Test.YtpfjmfgnlpnflaaGreatDoorProg
import Derived.Lib.Mul64
import Derived.Lib.TrailingZeros
import Derived.Shelf.Spec.SlicesInsertGrow
set_option linter.all false
set_option maxRecDepth 100000
namespace Go.Proofs
open Go.Sh Tryz
def sh_27 (a0 a1 a2:Value) (K:Value → World → Prop) (w:World):Prop:=
 callM prog 82 #[a0] (fun v8 w=>
 oM prog (.unOp .not 4 (.tmp 0)) 4 [v8] (fun v9 w=>
 condM v9
 (K (.int .i64 0) w)
 (callM prog 84 #[a0,a1] (fun v13 w=>
 callM prog 84 #[a0,a2] (fun v16 w=>
 callM prog 86 #[a0,v13,v16] (fun v17 w=>
 oM prog (.convert 139 3 (.tmp 0)) 3 [v17] (fun v18 w=>
 K v18 w) w) w) w) w)) w) w
theorem sh_27_ok {a0 a1 a2:Value} {K:Value → World → Prop} {w:World} (h:sh_27 a0 a1 a2 K w):callM prog 27 #[a0,a1,a2] K w:=
 calls_of_code (fun _=>0) (fn:=Tryz.f27) (rs:=[.tmp 6]) Tryz.func27 rfl rfl (by kernel_rfl) (Nat.le_of_ble_eq_true rfl) (Eq.mp (by kernel_rfl) h)
def sh_28 (a0 a1 a2:Value) (K:Value → World → Prop) (w:World):Prop:=
 callM prog 82 #[a0] (fun v8 w=>
 oM prog (.unOp .not 4 (.tmp 0)) 4 [v8] (fun v9 w=>
 condM v9
 (K (.int .i64 0) w)
 (callM prog 84 #[a0,a1] (fun v12 w=>
 oM prog (.convert 3 139 (.tmp 0)) 139 [a0] (fun v14 w=>
 oM prog (.binOp .add 139 (.tmp 0) (.tmp 1) 139) 139 [v12,v14] (fun v15 w=>
 callM prog 84 #[a0,a2] (fun v18 w=>
 oM prog (.binOp .sub 139 (.tmp 0) (.tmp 1) 139) 139 [v15,v18] (fun v19 w=>
 oM prog (.convert 3 139 (.tmp 0)) 139 [a0] (fun v21 w=>
 oM prog (.binOp .rem 139 (.tmp 0) (.tmp 1) 139) 139 [v19,v21] (fun v22 w=>
 oM prog (.convert 139 3 (.tmp 0)) 3 [v22] (fun v23 w=>
 K v23 w) w) w) w) w) w) w) w) w)) w) w
theorem sh_28_ok {a0 a1 a2:Value} {K:Value → World → Prop} {w:World} (h:sh_28 a0 a1 a2 K w):callM prog 28 #[a0,a1,a2] K w:=
 calls_of_code (fun _=>0) (fn:=Tryz.f28) (rs:=[.tmp 6]) Tryz.func28 rfl rfl (by kernel_rfl) (Nat.le_of_ble_eq_true rfl) (Eq.mp (by kernel_rfl) h)
def sh_24 (a0 a1 a2:Value) (K:Value → World → Prop) (w:World):Prop:=
 oM prog (.box 30 (.tmp 0)) 0 [a0] (fun v3 w=>
 oM prog (.fieldAddr 30 (.tmp 0) 0) 0 [v3] (fun v7 w=>
 oM prog (.load 3 (.tmp 0)) 3 [v7] (fun v8 w=>
 callM prog 82 #[v8] (fun v9 w=>
 oM prog (.unOp .not 4 (.tmp 0)) 4 [v9] (fun v10 w=>
 gdM (gd v10 false) (oM prog (.fieldAddr 30 (.tmp 0) 1) 0 [v3]) (fun v12 w=>
 gdM (gd v10 false) (oM prog (.load 3 (.tmp 0)) 3 [v12]) (fun v13 w=>
 gdM (gd v10 false) (callM prog 82 #[v13]) (fun v14 w=>
 gdM (gd v10 false) (oM prog (.unOp .not 4 (.tmp 0)) 4 [v14]) (fun v15 w=>
 oM prog (.pick (.tmp 0) (.tmp 1) (.tmp 2)) 4 [v10,(.bool true),v15] (fun v16 w=>
 condM v16
 (K (.int .i64 0) w)
 (quietM w (fun C_11=>(oQ prog (.fieldAddr 30 (.tmp 0) 0) 0 [v3] C_11 (fun v17=>
 oQ prog (.load 3 (.tmp 0)) 3 [v17] C_11 (fun v18=>
 oQ prog (.fieldAddr 30 (.tmp 0) 0) 0 [v3] C_11 (fun v19=>
 oQ prog (.load 3 (.tmp 0)) 3 [v19] C_11 (fun v20=>
 callQ prog 84 #[v20,a1] C_11 (fun v22=>
 oQ prog (.fieldAddr 30 (.tmp 0) 1) 0 [v3] C_11 (fun v23=>
 oQ prog (.load 3 (.tmp 0)) 3 [v23] C_11 (fun v24=>
 callQ prog 84 #[v24,a2] C_11 (fun v26=>
 callQ prog 83 #[v18,v22,v26] C_11 (fun v27=>
 oQ prog (.convert 139 3 (.tmp 0)) 3 [v27] C_11 (fun v28=>
 ∀ w,C_11 w → (K v28 w))))))))))))))) w) w) w) w) w) w) w) w) w) w
theorem sh_24_ok {a0 a1 a2:Value} {K:Value → World → Prop} {w:World} (h:sh_24 a0 a1 a2 K w):callM prog 24 #[a0,a1,a2] K w:=
 calls_of_code (fun _=>0) (fn:=Tryz.f24) (rs:=[.tmp 6]) Tryz.func24 rfl rfl (by kernel_rfl) (Nat.le_of_ble_eq_true rfl) (Eq.mp (by kernel_rfl) h)
def sh_141 (a0 a1 a2:Value) (K:Value → World → Prop) (w:World):Prop:=
 oM prog (.box 30 (.tmp 0)) 0 [a0] (fun v3 w=>
 oM prog (.fieldAddr 30 (.tmp 0) 0) 0 [v3] (fun v11 w=>
 oM prog (.load 3 (.tmp 0)) 3 [v11] (fun v12 w=>
 callM prog 82 #[v12] (fun v13 w=>
 oM prog (.unOp .not 4 (.tmp 0)) 4 [v13] (fun v14 w=>
 gdM (gd v14 false) (oM prog (.fieldAddr 30 (.tmp 0) 1) 0 [v3]) (fun v16 w=>
 gdM (gd v14 false) (oM prog (.load 3 (.tmp 0)) 3 [v16]) (fun v17 w=>
 gdM (gd v14 false) (callM prog 82 #[v17]) (fun v18 w=>
 gdM (gd v14 false) (oM prog (.unOp .not 4 (.tmp 0)) 4 [v18]) (fun v19 w=>
 oM prog (.pick (.tmp 0) (.tmp 1) (.tmp 2)) 4 [v14,(.bool true),v19] (fun v20 w=>
 gdM (gd v20 false) (pureM a1) (fun v22 w=>
 gdM (gd v20 false) (oM prog (.call (Go.Call.mk (.builtin .len) #[(.tmp 0)] #[22])) 3 [v22]) (fun v23 w=>
 gdM (gd v20 false) (pureM a2) (fun v24 w=>
 gdM (gd v20 false) (oM prog (.call (Go.Call.mk (.builtin .len) #[(.tmp 0)] #[22])) 3 [v24]) (fun v25 w=>
 gdM (gd v20 false) (oM prog (.binOp .neq 3 (.tmp 0) (.tmp 1) 3) 4 [v23,v25]) (fun v26 w=>
 oM prog (.pick (.tmp 0) (.tmp 1) (.tmp 2)) 4 [v20,(.bool true),v26] (fun v27 w=>
 condM v27
 (K (.tuple #[(.int .i64 0),(.bool false)]) w)
 (oM prog (.fieldAddr 30 (.tmp 0) 0) 0 [v3] (fun v28 w=>
 oM prog (.load 3 (.tmp 0)) 3 [v28] (fun v29 w=>
 oM prog (.binOp .rem 3 (.tmp 0) (.tmp 1) 3) 3 [(.int .i64 1),v29] (fun v30 w=>
 oM prog (.call (Go.Call.mk (.builtin .len) #[(.tmp 0)] #[22])) 3 [a1] (fun v32 w=>
 loopM [undef,undef,v30,(.int .i64 0)] w (fun J_21 m_22 l_23 u_l_23 w0_l_23=>(fun w=>(
 oM prog (.binOp .lss 3 (.tmp 0) (.tmp 1) 3) 0 [(l_23.getD 3 undef),v32] (fun v34 w=>
 condM v34
 (oM prog (.indexAddr 22 (.tmp 0) (.tmp 1)) 0 [a1,(l_23.getD 3 undef)] (fun v36 w=>
 oM prog (.load 3 (.tmp 0)) 3 [v36] (fun v37 w=>
 quietM w (fun C_27=>(oQ prog (.fieldAddr 30 (.tmp 0) 0) 0 [v3] C_27 (fun v38=>
 oQ prog (.load 3 (.tmp 0)) 3 [v38] C_27 (fun v39=>
 oQ prog (.load 30 (.tmp 0)) 30 [v3] C_27 (fun v41=>
 oQ prog (.indexAddr 22 (.tmp 0) (.tmp 1)) 0 [a2,(l_23.getD 3 undef)] C_27 (fun v45=>
 oQ prog (.load 3 (.tmp 0)) 3 [v45] C_27 (fun v46=>
 callQ prog 24 #[v41,v37,v46] C_27 (fun v47=>
 callQ prog 27 #[v39,(l_23.getD 2 undef),v47] C_27 (fun v48=>
 ∀ w,C_27 w → (oM prog (.binOp .add 3 (.tmp 0) (.tmp 1) 3) 3 [(l_23.getD 3 undef),(.int .i64 1)] (fun v49 w=>
 J_21 [(l_23.getD 3 undef),v37,v48,v49] w ∧ m_22 [(l_23.getD 3 undef),v37,v48,v49] w < m_22 l_23 w0_l_23) w))))))))))) w) w)
 (K (.tuple #[(l_23.getD 2 undef),(.bool true)]) w)) w)) w0_l_23)) w) w) w) w)) w) w) w) w) w) w) w) w) w) w) w) w) w) w) w) w
theorem sh_141_ok {a0 a1 a2:Value} {K:Value → World → Prop} {w:World} (h:sh_141 a0 a1 a2 K w):callM prog 141 #[a0,a1,a2] K w:=
 calls_of_code (fun _=>0) (fn:=Tryz.f141) (rs:=[.tmp 6,.tmp 7]) Tryz.func141 rfl rfl (by kernel_rfl) (Nat.le_of_ble_eq_true rfl) (Eq.mp (by kernel_rfl) h)
def sh_82 (a0:Value) (K:Value → World → Prop) (w:World):Prop:=
 oM prog (.binOp .geq 3 (.tmp 0) (.tmp 1) 3) 4 [a0,(.int .i64 1)] (fun v4 w=>
 gdM (gd v4 true) (pureM a0) (fun v6 w=>
 gdM (gd v4 true) (oM prog (.binOp .lss 3 (.tmp 0) (.tmp 1) 3) 4 [v6,(.int .i64 2305843009213693952)]) (fun v7 w=>
 oM prog (.pick (.tmp 0) (.tmp 1) (.tmp 2)) 4 [v4,v7,(.bool false)] (fun v8 w=>
 K v8 w) w) w) w) w
theorem sh_82_ok {a0:Value} {K:Value → World → Prop} {w:World} (h:sh_82 a0 K w):callM prog 82 #[a0] K w:=
 calls_of_code (fun _=>0) (fn:=Tryz.f82) (rs:=[.tmp 2]) Tryz.func82 rfl rfl (by kernel_rfl) (Nat.le_of_ble_eq_true rfl) (Eq.mp (by kernel_rfl) h)
def sh_86 (a0 a1 a2:Value) (K:Value → World → Prop) (w:World):Prop:=
 callM prog 139 #[a1,a2] (fun v12 w=>
 oM prog (.extract (.tmp 0) 0) 139 [v12] (fun v13 w=>
 oM prog (.extract (.tmp 0) 1) 139 [v12] (fun v14 w=>
 oM prog (.convert 3 139 (.tmp 0)) 139 [a0] (fun v18 w=>
 callM prog 140 #[v13,v14,v18] (fun v19 w=>
 K v19 w) w) w) w) w) w
theorem sh_86_ok {a0 a1 a2:Value} {K:Value → World → Prop} {w:World} (h:sh_86 a0 a1 a2 K w):callM prog 86 #[a0,a1,a2] K w:=
 calls_of_code (fun _=>0) (fn:=Tryz.f86) (rs:=[.tmp 6]) Tryz.func86 rfl rfl (by kernel_rfl) (Nat.le_of_ble_eq_true rfl) (Eq.mp (by kernel_rfl) h)
def sh_84 (a0 a1:Value) (K:Value → World → Prop) (w:World):Prop:=
 oM prog (.binOp .rem 3 (.tmp 0) (.tmp 1) 3) 3 [a1,a0] (fun v8 w=>
 oM prog (.binOp .lss 3 (.tmp 0) (.tmp 1) 3) 4 [v8,(.int .i64 0)] (fun v10 w=>
 condM v10
 (oM prog (.binOp .add 3 (.tmp 0) (.tmp 1) 3) 3 [v8,a0] (fun v13 w=>
 oM prog (.convert 3 139 (.tmp 0)) 139 [v13] (fun v14 w=>
 K v14 w) w) w)
 (oM prog (.convert 3 139 (.tmp 0)) 139 [v8] (fun v16 w=>
 K v16 w) w)) w) w
theorem sh_84_ok {a0 a1:Value} {K:Value → World → Prop} {w:World} (h:sh_84 a0 a1 K w):callM prog 84 #[a0,a1] K w:=
 calls_of_code (fun _=>0) (fn:=Tryz.f84) (rs:=[.tmp 4]) Tryz.func84 rfl rfl (by kernel_rfl) (Nat.le_of_ble_eq_true rfl) (Eq.mp (by kernel_rfl) h)
def sh_83 (a0 a1 a2:Value) (K:Value → World → Prop) (w:World):Prop:=
 oM prog (.convert 3 139 (.tmp 0)) 139 [a0] (fun v9 w=>
 oM prog (.binOp .rem 139 (.tmp 0) (.tmp 1) 139) 139 [(.int .u64 1),v9] (fun v10 w=>
 loopM [v10,a1,a2] w (fun J_3 m_4 l_5 u_l_5 w0_l_5=>(fun w=>(
 oM prog (.binOp .gtr 139 (.tmp 0) (.tmp 1) 139) 4 [(l_5.getD 2 undef),(.int .u64 0)] (fun v12 w=>
 condM v12
 (joinM (fun M_7=>(oM prog (.binOp .and 139 (.tmp 0) (.tmp 1) 139) 139 [(l_5.getD 2 undef),(.int .u64 1)] (fun v16 w=>
 oM prog (.binOp .eql 139 (.tmp 0) (.const (.int .u64 1)) 139) 4 [v16] (fun v17 w=>
 condM v17
 (callM prog 86 #[a0,(l_5.getD 0 undef),(l_5.getD 1 undef)] (fun v21 w=>
 M_7 [v21] w) w)
 (M_7 [(l_5.getD 0 undef)] w)) w) w))
 (fun l_8 u_l_8 w=>(callM prog 86 #[a0,(l_5.getD 1 undef),(l_5.getD 1 undef)] (fun v25 w=>
 oM prog (.binOp .shr 139 (.tmp 0) (.tmp 1) 174) 139 [(l_5.getD 2 undef),(.int .u64 1)] (fun v14 w=>
 J_3 [(l_8.getD 0 undef),v25,v14] w ∧ m_4 [(l_8.getD 0 undef),v25,v14] w < m_4 l_5 w0_l_5) w) w)))
 (K (l_5.getD 0 undef) w)) w)) w0_l_5)) w) w
theorem sh_83_ok {a0 a1 a2:Value} {K:Value → World → Prop} {w:World} (h:sh_83 a0 a1 a2 K w):callM prog 83 #[a0,a1,a2] K w:=
 calls_of_code (fun _=>0) (fn:=Tryz.f83) (rs:=[.tmp 6]) Tryz.func83 rfl rfl (by kernel_rfl) (Nat.le_of_ble_eq_true rfl) (Eq.mp (by kernel_rfl) h)
def sh_127 (a0 a1 a2:Value) (K:Value → World → Prop) (w:World):Prop:=
 callM prog 82 #[a0] (fun v11 w=>
 oM prog (.unOp .not 4 (.tmp 0)) 4 [v11] (fun v12 w=>
 condM v12
 (K (.int .i64 0) w)
 (oM prog (.binOp .geq 3 (.tmp 0) (.tmp 1) 3) 4 [a2,(.int .i64 0)] (fun v15 w=>
 condM v15
 (callM prog 84 #[a0,a1] (fun v19 w=>
 oM prog (.convert 3 139 (.tmp 0)) 139 [a2] (fun v21 w=>
 callM prog 83 #[a0,v19,v21] (fun v22 w=>
 oM prog (.convert 139 3 (.tmp 0)) 3 [v22] (fun v23 w=>
 K v23 w) w) w) w) w)
 (callM prog 172 #[a0,a1] (fun v27 w=>
 oM prog (.extract (.tmp 0) 0) 3 [v27] (fun v28 w=>
 oM prog (.extract (.tmp 0) 1) 4 [v27] (fun v29 w=>
 oM prog (.unOp .not 4 (.tmp 0)) 4 [v29] (fun v31 w=>
 condM v31
 (K (.int .i64 0) w)
 (oM prog (.convert 3 139 (.tmp 0)) 139 [v28] (fun v34 w=>
 oM prog (.convert 3 139 (.tmp 0)) 139 [a2] (fun v36 w=>
 oM prog (.unOp .neg 139 (.tmp 0)) 139 [v36] (fun v37 w=>
 callM prog 83 #[a0,v34,v37] (fun v38 w=>
 oM prog (.convert 139 3 (.tmp 0)) 3 [v38] (fun v39 w=>
 K v39 w) w) w) w) w) w)) w) w) w) w)) w)) w) w
theorem sh_127_ok {a0 a1 a2:Value} {K:Value → World → Prop} {w:World} (h:sh_127 a0 a1 a2 K w):callM prog 127 #[a0,a1,a2] K w:=
 calls_of_code (fun _=>0) (fn:=Tryz.f127) (rs:=[.tmp 6]) Tryz.func127 rfl rfl (by kernel_rfl) (Nat.le_of_ble_eq_true rfl) (Eq.mp (by kernel_rfl) h)
def sh_131 (a0:Value) (K:Value → World → Prop) (w:World):Prop:=
 oM prog (.box 30 (.tmp 0)) 0 [a0] (fun v1 w=>
 oM prog (.fieldAddr 30 (.tmp 0) 1) 0 [v1] (fun v3 w=>
 oM prog (.load 3 (.tmp 0)) 3 [v3] (fun v4 w=>
 oM prog (.binOp .lss 3 (.tmp 0) (.tmp 1) 3) 4 [v4,(.int .i64 5)] (fun v5 w=>
 gdM (gd v5 false) (oM prog (.fieldAddr 30 (.tmp 0) 1) 0 [v1]) (fun v7 w=>
 gdM (gd v5 false) (oM prog (.load 3 (.tmp 0)) 3 [v7]) (fun v8 w=>
 gdM (gd v5 false) (oM prog (.binOp .geq 3 (.tmp 0) (.tmp 1) 3) 4 [v8,(.int .i64 1152921504606846976)]) (fun v9 w=>
 oM prog (.pick (.tmp 0) (.tmp 1) (.tmp 2)) 4 [v5,(.bool true),v9] (fun v10 w=>
 gdM (gd v10 false) (oM prog (.fieldAddr 30 (.tmp 0) 0) 0 [v1]) (fun v12 w=>
 gdM (gd v10 false) (oM prog (.load 3 (.tmp 0)) 3 [v12]) (fun v13 w=>
 gdM (gd v10 false) (oM prog (.fieldAddr 30 (.tmp 0) 1) 0 [v1]) (fun v14 w=>
 gdM (gd v10 false) (oM prog (.load 3 (.tmp 0)) 3 [v14]) (fun v15 w=>
 gdM (gd v10 false) (oM prog (.binOp .mul 3 (.tmp 0) (.tmp 1) 3) 3 [(.int .i64 2),v15]) (fun v16 w=>
 gdM (gd v10 false) (oM prog (.binOp .add 3 (.tmp 0) (.tmp 1) 3) 3 [v16,(.int .i64 1)]) (fun v17 w=>
 gdM (gd v10 false) (oM prog (.binOp .neq 3 (.tmp 0) (.tmp 1) 3) 4 [v13,v17]) (fun v18 w=>
 oM prog (.pick (.tmp 0) (.tmp 1) (.tmp 2)) 4 [v10,(.bool true),v18] (fun v19 w=>
 gdM (gd v19 false) (oM prog (.fieldAddr 30 (.tmp 0) 2) 0 [v1]) (fun v21 w=>
 gdM (gd v19 false) (oM prog (.load 3 (.tmp 0)) 3 [v21]) (fun v22 w=>
 gdM (gd v19 false) (oM prog (.binOp .lss 3 (.tmp 0) (.tmp 1) 3) 4 [v22,(.int .i64 2)]) (fun v23 w=>
 oM prog (.pick (.tmp 0) (.tmp 1) (.tmp 2)) 4 [v19,(.bool true),v23] (fun v24 w=>
 gdM (gd v24 false) (oM prog (.fieldAddr 30 (.tmp 0) 2) 0 [v1]) (fun v26 w=>
 gdM (gd v24 false) (oM prog (.load 3 (.tmp 0)) 3 [v26]) (fun v27 w=>
 gdM (gd v24 false) (oM prog (.fieldAddr 30 (.tmp 0) 0) 0 [v1]) (fun v28 w=>
 gdM (gd v24 false) (oM prog (.load 3 (.tmp 0)) 3 [v28]) (fun v29 w=>
 gdM (gd v24 false) (oM prog (.binOp .geq 3 (.tmp 0) (.tmp 1) 3) 4 [v27,v29]) (fun v30 w=>
 oM prog (.pick (.tmp 0) (.tmp 1) (.tmp 2)) 4 [v24,(.bool true),v30] (fun v31 w=>
 condM v31
 (K (.bool false) w)
 (oM prog (.fieldAddr 30 (.tmp 0) 1) 0 [v1] (fun v32 w=>
 oM prog (.load 3 (.tmp 0)) 3 [v32] (fun v33 w=>
 callM prog 179 #[v33] (fun v34 w=>
 gdM (gd v34 true) (oM prog (.fieldAddr 30 (.tmp 0) 0) 0 [v1]) (fun v36 w=>
 gdM (gd v34 true) (oM prog (.load 3 (.tmp 0)) 3 [v36]) (fun v37 w=>
 gdM (gd v34 true) (callM prog 179 #[v37]) (fun v38 w=>
 oM prog (.pick (.tmp 0) (.tmp 1) (.tmp 2)) 4 [v34,v38,(.bool false)] (fun v39 w=>
 gdM (gd v39 true) (oM prog (.fieldAddr 30 (.tmp 0) 0) 0 [v1]) (fun v41 w=>
 gdM (gd v39 true) (oM prog (.load 3 (.tmp 0)) 3 [v41]) (fun v42 w=>
 gdM (gd v39 true) (oM prog (.fieldAddr 30 (.tmp 0) 2) 0 [v1]) (fun v43 w=>
 gdM (gd v39 true) (oM prog (.load 3 (.tmp 0)) 3 [v43]) (fun v44 w=>
 gdM (gd v39 true) (oM prog (.fieldAddr 30 (.tmp 0) 1) 0 [v1]) (fun v45 w=>
 gdM (gd v39 true) (oM prog (.load 3 (.tmp 0)) 3 [v45]) (fun v46 w=>
 gdM (gd v39 true) (callM prog 127 #[v42,v44,v46]) (fun v47 w=>
 gdM (gd v39 true) (oM prog (.binOp .eql 3 (.tmp 0) (.const (.int .i64 1)) 3) 4 [v47]) (fun v48 w=>
 oM prog (.pick (.tmp 0) (.tmp 1) (.tmp 2)) 4 [v39,v48,(.bool false)] (fun v49 w=>
 K v49 w) w) w) w) w) w) w) w) w) w) w) w) w) w) w) w) w)) w) w) w) w) w) w) w) w) w) w) w) w) w) w) w) w) w) w) w) w) w) w) w) w) w) w
theorem sh_131_ok {a0:Value} {K:Value → World → Prop} {w:World} (h:sh_131 a0 K w):callM prog 131 #[a0] K w:=
 calls_of_code (fun _=>0) (fn:=Tryz.f131) (rs:=[.tmp 2]) Tryz.func131 rfl rfl (by kernel_rfl) (Nat.le_of_ble_eq_true rfl) (Eq.mp (by kernel_rfl) h)
def sh_26 (a0 a1 a2:Value) (K:Value → World → Prop) (w:World):Prop:=
 callM prog 82 #[a0] (fun v8 w=>
 oM prog (.unOp .not 4 (.tmp 0)) 4 [v8] (fun v9 w=>
 condM v9
 (K (.int .i64 0) w)
 (callM prog 84 #[a0,a1] (fun v12 w=>
 callM prog 84 #[a0,a2] (fun v15 w=>
 oM prog (.binOp .add 139 (.tmp 0) (.tmp 1) 139) 139 [v12,v15] (fun v16 w=>
 oM prog (.convert 3 139 (.tmp 0)) 139 [a0] (fun v18 w=>
 oM prog (.binOp .rem 139 (.tmp 0) (.tmp 1) 139) 139 [v16,v18] (fun v19 w=>
 oM prog (.convert 139 3 (.tmp 0)) 3 [v19] (fun v20 w=>
 K v20 w) w) w) w) w) w) w)) w) w
theorem sh_26_ok {a0 a1 a2:Value} {K:Value → World → Prop} {w:World} (h:sh_26 a0 a1 a2 K w):callM prog 26 #[a0,a1,a2] K w:=
 calls_of_code (fun _=>0) (fn:=Tryz.f26) (rs:=[.tmp 6]) Tryz.func26 rfl rfl (by kernel_rfl) (Nat.le_of_ble_eq_true rfl) (Eq.mp (by kernel_rfl) h)
def sh_139 (a0 a1:Value) (K:Value → World → Prop) (w:World):Prop:=
 oM prog (.binOp .and 139 (.tmp 0) (.tmp 1) 139) 139 [a0,(.int .u64 4294967295)] (fun v15 w=>
 oM prog (.binOp .shr 139 (.tmp 0) (.tmp 1) 174) 139 [a0,(.int .u64 32)] (fun v17 w=>
 oM prog (.binOp .and 139 (.tmp 0) (.tmp 1) 139) 139 [a1,(.int .u64 4294967295)] (fun v19 w=>
 oM prog (.binOp .shr 139 (.tmp 0) (.tmp 1) 174) 139 [a1,(.int .u64 32)] (fun v21 w=>
 oM prog (.binOp .mul 139 (.tmp 0) (.tmp 1) 139) 139 [v15,v19] (fun v24 w=>
 oM prog (.binOp .mul 139 (.tmp 0) (.tmp 1) 139) 139 [v17,v19] (fun v27 w=>
 oM prog (.binOp .shr 139 (.tmp 0) (.tmp 1) 174) 139 [v24,(.int .u64 32)] (fun v29 w=>
 oM prog (.binOp .add 139 (.tmp 0) (.tmp 1) 139) 139 [v27,v29] (fun v30 w=>
 oM prog (.binOp .and 139 (.tmp 0) (.tmp 1) 139) 139 [v30,(.int .u64 4294967295)] (fun v32 w=>
 oM prog (.binOp .shr 139 (.tmp 0) (.tmp 1) 174) 139 [v30,(.int .u64 32)] (fun v34 w=>
 oM prog (.binOp .mul 139 (.tmp 0) (.tmp 1) 139) 139 [v15,v21] (fun v38 w=>
 oM prog (.binOp .add 139 (.tmp 0) (.tmp 1) 139) 139 [v32,v38] (fun v39 w=>
 oM prog (.binOp .mul 139 (.tmp 0) (.tmp 1) 139) 139 [v17,v21] (fun v42 w=>
 oM prog (.binOp .add 139 (.tmp 0) (.tmp 1) 139) 139 [v42,v34] (fun v44 w=>
 oM prog (.binOp .shr 139 (.tmp 0) (.tmp 1) 174) 139 [v39,(.int .u64 32)] (fun v46 w=>
 oM prog (.binOp .add 139 (.tmp 0) (.tmp 1) 139) 139 [v44,v46] (fun v47 w=>
 oM prog (.binOp .mul 139 (.tmp 0) (.tmp 1) 139) 139 [a0,a1] (fun v50 w=>
 K (.tuple #[v47,v50]) w) w) w) w) w) w) w) w) w) w) w) w) w) w) w) w) w) w
theorem sh_139_ok {a0 a1:Value} {K:Value → World → Prop} {w:World} (h:sh_139 a0 a1 K w):callM prog 139 #[a0,a1] K w:=
 calls_of_code (fun _=>0) (fn:=Tryz.f139) (rs:=[.tmp 4,.tmp 5]) Tryz.func139 rfl rfl (by kernel_rfl) (Nat.le_of_ble_eq_true rfl) (Eq.mp (by kernel_rfl) h)
def sh_140 (a0 a1 a2:Value) (K:Value → World → Prop) (w:World):Prop:=
 oM prog (.binOp .rem 139 (.tmp 0) (.tmp 1) 139) 139 [a0,a2] (fun v12 w=>
 callM prog 183 #[v12,a1,a2] (fun v15 w=>
 oM prog (.extract (.tmp 0) 0) 139 [v15] (fun v16 w=>
 oM prog (.extract (.tmp 0) 1) 139 [v15] (fun v17 w=>
 K v17 w) w) w) w) w
theorem sh_140_ok {a0 a1 a2:Value} {K:Value → World → Prop} {w:World} (h:sh_140 a0 a1 a2 K w):callM prog 140 #[a0,a1,a2] K w:=
 calls_of_code (fun _=>0) (fn:=Tryz.f140) (rs:=[.tmp 6]) Tryz.func140 rfl rfl (by kernel_rfl) (Nat.le_of_ble_eq_true rfl) (Eq.mp (by kernel_rfl) h)
def sh_142 (a0 a1 a2:Value) (K:Value → World → Prop) (w:World):Prop:=
 oM prog (.box 30 (.tmp 0)) 0 [a0] (fun v3 w=>
 oM prog (.fieldAddr 30 (.tmp 0) 1) 0 [v3] (fun v7 w=>
 oM prog (.load 3 (.tmp 0)) 3 [v7] (fun v8 w=>
 callM prog 82 #[v8] (fun v9 w=>
 oM prog (.unOp .not 4 (.tmp 0)) 4 [v9] (fun v10 w=>
 condM v10
 (K (.int .i64 0) w)
 (oM prog (.fieldAddr 30 (.tmp 0) 0) 0 [v3] (fun v11 w=>
 oM prog (.load 3 (.tmp 0)) 3 [v11] (fun v12 w=>
 callM prog 27 #[v12,a1,a2] (fun v15 w=>
 K v15 w) w) w) w)) w) w) w) w) w
theorem sh_142_ok {a0 a1 a2:Value} {K:Value → World → Prop} {w:World} (h:sh_142 a0 a1 a2 K w):callM prog 142 #[a0,a1,a2] K w:=
 calls_of_code (fun _=>0) (fn:=Tryz.f142) (rs:=[.tmp 6]) Tryz.func142 rfl rfl (by kernel_rfl) (Nat.le_of_ble_eq_true rfl) (Eq.mp (by kernel_rfl) h)
def sh_172 (a0 a1:Value) (K:Value → World → Prop) (w:World):Prop:=
 callM prog 82 #[a0] (fun v12 w=>
 oM prog (.unOp .not 4 (.tmp 0)) 4 [v12] (fun v13 w=>
 condM v13
 (K (.tuple #[(.int .i64 0),(.bool false)]) w)
 (callM prog 84 #[a0,a1] (fun v17 w=>
 oM prog (.convert 139 3 (.tmp 0)) 3 [v17] (fun v18 w=>
 loopM [undef,a0,v18,(.int .i64 0),(.int .i64 1)] w (fun J_5 m_6 l_7 u_l_7 w0_l_7=>(fun w=>(
 oM prog (.binOp .neq 3 (.tmp 0) (.const (.int .i64 0)) 3) 4 [(l_7.getD 2 undef)] (fun v20 w=>
 condM v20
 (oM prog (.binOp .quo 3 (.tmp 0) (.tmp 1) 3) 3 [(l_7.getD 1 undef),(l_7.getD 2 undef)] (fun v23 w=>
 oM prog (.binOp .mul 3 (.tmp 0) (.tmp 1) 3) 3 [v23,(l_7.getD 2 undef)] (fun v28 w=>
 oM prog (.binOp .sub 3 (.tmp 0) (.tmp 1) 3) 3 [(l_7.getD 1 undef),v28] (fun v29 w=>
 callM prog 27 #[a0,v23,(l_7.getD 4 undef)] (fun v36 w=>
 callM prog 28 #[a0,(l_7.getD 3 undef),v36] (fun v37 w=>
 J_5 [v23,(l_7.getD 2 undef),v29,(l_7.getD 4 undef),v37] w ∧ m_6 [v23,(l_7.getD 2 undef),v29,(l_7.getD 4 undef),v37] w < m_6 l_7 w0_l_7) w) w) w) w) w)
 (oM prog (.binOp .neq 3 (.tmp 0) (.const (.int .i64 1)) 3) 4 [(l_7.getD 1 undef)] (fun v39 w=>
 condM v39
 (K (.tuple #[(.int .i64 0),(.bool false)]) w)
 (oM prog (.binOp .rem 3 (.tmp 0) (.tmp 1) 3) 3 [(l_7.getD 3 undef),a0] (fun v42 w=>
 K (.tuple #[v42,(.bool true)]) w) w)) w)) w)) w0_l_7)) w) w)) w) w
theorem sh_172_ok {a0 a1:Value} {K:Value → World → Prop} {w:World} (h:sh_172 a0 a1 K w):callM prog 172 #[a0,a1] K w:=
 calls_of_code (fun _=>0) (fn:=Tryz.f172) (rs:=[.tmp 4,.tmp 5]) Tryz.func172 rfl rfl (by kernel_rfl) (Nat.le_of_ble_eq_true rfl) (Eq.mp (by kernel_rfl) h)
def sh_174 (a0 a1:Value) (K:Value → World → Prop) (w:World):Prop:=
 oM prog (.box 30 (.tmp 0)) 0 [a0] (fun v2 w=>
 oM prog (.binOp .geq 3 (.tmp 0) (.tmp 1) 3) 4 [a1,(.int .i64 1)] (fun v6 w=>
 gdM (gd v6 true) (pureM a1) (fun v8 w=>
 gdM (gd v6 true) (oM prog (.fieldAddr 30 (.tmp 0) 0) 0 [v2]) (fun v9 w=>
 gdM (gd v6 true) (oM prog (.load 3 (.tmp 0)) 3 [v9]) (fun v10 w=>
 gdM (gd v6 true) (oM prog (.binOp .lss 3 (.tmp 0) (.tmp 1) 3) 4 [v8,v10]) (fun v11 w=>
 oM prog (.pick (.tmp 0) (.tmp 1) (.tmp 2)) 4 [v6,v11,(.bool false)] (fun v12 w=>
 gdM (gd v12 true) (oM prog (.load 30 (.tmp 0)) 30 [v2]) (fun v14 w=>
 gdM (gd v12 true) (callM prog 131 #[v14]) (fun v15 w=>
 oM prog (.pick (.tmp 0) (.tmp 1) (.tmp 2)) 4 [v12,v15,(.bool false)] (fun v16 w=>
 gdM (gd v16 true) (oM prog (.fieldAddr 30 (.tmp 0) 0) 0 [v2]) (fun v18 w=>
 gdM (gd v16 true) (oM prog (.load 3 (.tmp 0)) 3 [v18]) (fun v19 w=>
 gdM (gd v16 true) (pureM a1) (fun v20 w=>
 gdM (gd v16 true) (oM prog (.fieldAddr 30 (.tmp 0) 1) 0 [v2]) (fun v21 w=>
 gdM (gd v16 true) (oM prog (.load 3 (.tmp 0)) 3 [v21]) (fun v22 w=>
 gdM (gd v16 true) (callM prog 127 #[v19,v20,v22]) (fun v23 w=>
 gdM (gd v16 true) (oM prog (.binOp .eql 3 (.tmp 0) (.const (.int .i64 1)) 3) 4 [v23]) (fun v24 w=>
 oM prog (.pick (.tmp 0) (.tmp 1) (.tmp 2)) 4 [v16,v24,(.bool false)] (fun v25 w=>
 K v25 w) w) w) w) w) w) w) w) w) w) w) w) w) w) w) w) w) w) w
theorem sh_174_ok {a0 a1:Value} {K:Value → World → Prop} {w:World} (h:sh_174 a0 a1 K w):callM prog 174 #[a0,a1] K w:=
 calls_of_code (fun _=>0) (fn:=Tryz.f174) (rs:=[.tmp 4]) Tryz.func174 rfl rfl (by kernel_rfl) (Nat.le_of_ble_eq_true rfl) (Eq.mp (by kernel_rfl) h)
def sh_179 (a0:Value) (K:Value → World → Prop) (w:World):Prop:=
 oM prog (.binOp .lss 3 (.tmp 0) (.tmp 1) 3) 4 [a0,(.int .i64 2)] (fun v9 w=>
 gdM (gd v9 false) (pureM a0) (fun v11 w=>
 gdM (gd v9 false) (oM prog (.binOp .geq 3 (.tmp 0) (.tmp 1) 3) 4 [v11,(.int .i64 2305843009213693952)]) (fun v12 w=>
 oM prog (.pick (.tmp 0) (.tmp 1) (.tmp 2)) 4 [v9,(.bool true),v12] (fun v13 w=>
 condM v13
 (K (.bool false) w)
 (oM prog (.build 220 #[(0,(.tmp 0)),(1,(.tmp 1)),(2,(.tmp 2)),(3,(.tmp 3)),(4,(.tmp 4)),(5,(.tmp 5)),(6,(.tmp 6)),(7,(.tmp 7)),(8,(.tmp 8)),(9,(.tmp 9)),(10,(.tmp 10)),(11,(.tmp 11))]) 220 [(.int .i64 2),(.int .i64 3),(.int .i64 5),(.int .i64 7),(.int .i64 11),(.int .i64 13),(.int .i64 17),(.int .i64 19),(.int .i64 23),(.int .i64 29),(.int .i64 31),(.int .i64 37)] (fun v14 w=>
 oM prog (.alloc 220) 0 [] (fun v3 w=>
 oM prog (.store 220 (.tmp 0) (.tmp 1)) 0 [v3,v14] (fun _ w=>
 oM prog (.load 220 (.tmp 0)) 220 [v3] (fun v15 w=>
 loopM [undef,(.bool false),(.int .i64 0)] w (fun J_8 m_9 l_10 u_l_10 w0_l_10=>(fun w=>(
 oM prog (.binOp .lss 3 (.tmp 0) (.tmp 1) 3) 0 [(l_10.getD 2 undef),(.int .i64 12)] (fun v17 w=>
 condM v17
 (oM prog (.index 220 (.tmp 0) (.tmp 1)) 3 [v15,(l_10.getD 2 undef)] (fun v18 w=>
 oM prog (.binOp .rem 3 (.tmp 0) (.tmp 1) 3) 3 [a0,v18] (fun v21 w=>
 oM prog (.binOp .eql 3 (.tmp 0) (.const (.int .i64 0)) 3) 4 [v21] (fun v22 w=>
 condM v22
 (oM prog (.binOp .eql 3 (.tmp 0) (.tmp 1) 3) 4 [a0,v18] (fun v25 w=>
 K v25 w) w)
 (oM prog (.binOp .add 3 (.tmp 0) (.tmp 1) 3) 3 [(l_10.getD 2 undef),(.int .i64 1)] (fun v26 w=>
 J_8 [v18,(l_10.getD 1 undef),v26] w ∧ m_9 [v18,(l_10.getD 1 undef),v26] w < m_9 l_10 w0_l_10) w)) w) w) w)
 (oM prog (.load 220 (.tmp 0)) 220 [v3] (fun v27 w=>
 loopM [undef,(l_10.getD 1 undef),(.int .i64 0)] w (fun J_18 m_19 l_20 u_l_20 w0_l_20=>(fun w=>(
 oM prog (.binOp .lss 3 (.tmp 0) (.tmp 1) 3) 0 [(l_20.getD 2 undef),(.int .i64 12)] (fun v29 w=>
 condM v29
 (oM prog (.index 220 (.tmp 0) (.tmp 1)) 3 [v27,(l_20.getD 2 undef)] (fun v30 w=>
 oM prog (.convert 3 139 (.tmp 0)) 139 [v30] (fun v33 w=>
 callM prog 202 #[a0,v33] (fun v34 w=>
 condM v34
 (K (.bool false) w)
 (oM prog (.binOp .add 3 (.tmp 0) (.tmp 1) 3) 3 [(l_20.getD 2 undef),(.int .i64 1)] (fun v35 w=>
 J_18 [v30,(l_20.getD 1 undef),v35] w ∧ m_19 [v30,(l_20.getD 1 undef),v35] w < m_19 l_20 w0_l_20) w)) w) w) w)
 (K (.bool true) w)) w)) w0_l_20)) w)) w)) w0_l_10)) w) w) w) w)) w) w) w) w
theorem sh_179_ok {a0:Value} {K:Value → World → Prop} {w:World} (h:sh_179 a0 K w):callM prog 179 #[a0] K w:=
 calls_of_code (fun _=>0) (fn:=Tryz.f179) (rs:=[.tmp 2]) Tryz.func179 rfl rfl (by kernel_rfl) (Nat.le_of_ble_eq_true rfl) (Eq.mp (by kernel_rfl) h)
def sh_183 (a0 a1 a2:Value) (K:Value → World → Prop) (w:World):Prop:=
 joinM (fun M_1=>(oM prog (.binOp .eql 139 (.tmp 0) (.const (.int .u64 0)) 139) 4 [a2] (fun v20 w=>
 condM v20
 (oM prog (.load 211 (.tmp 0)) 211 [(.pointer (some ⟨0,0,none⟩))] (fun v21 w=>
 oM prog (.panic (.tmp 0)) 0 [v21] (fun _ w=>
 M_1 [] w) w) w)
 (M_1 [] w)) w))
 (fun l_2 u_l_2 w=>(joinM (fun M_5=>(oM prog (.binOp .leq 139 (.tmp 0) (.tmp 1) 139) 4 [a2,a0] (fun v24 w=>
 condM v24
 (oM prog (.load 211 (.tmp 0)) 211 [(.pointer (some ⟨1,0,none⟩))] (fun v25 w=>
 oM prog (.panic (.tmp 0)) 0 [v25] (fun _ w=>
 M_5 [] w) w) w)
 (M_5 [] w)) w))
 (fun l_6 u_l_6 w=>(oM prog (.binOp .eql 139 (.tmp 0) (.const (.int .u64 0)) 139) 4 [a0] (fun v27 w=>
 condM v27
 (quietM w (fun C_10=>(oQ prog (.binOp .quo 139 (.tmp 0) (.tmp 1) 139) 139 [a1,a2] C_10 (fun v30=>
 oQ prog (.binOp .rem 139 (.tmp 0) (.tmp 1) 139) 139 [a1,a2] C_10 (fun v33=>
 ∀ w,C_10 w → (K (.tuple #[v30,v33]) w))))))
 (callM prog 204 #[a2] (fun v35 w=>
 oM prog (.convert 3 174 (.tmp 0)) 174 [v35] (fun v36 w=>
 oM prog (.binOp .shl 139 (.tmp 0) (.tmp 1) 174) 139 [a2,v36] (fun v39 w=>
 oM prog (.binOp .shr 139 (.tmp 0) (.tmp 1) 174) 139 [v39,(.int .u64 32)] (fun v41 w=>
 oM prog (.binOp .and 139 (.tmp 0) (.tmp 1) 139) 139 [v39,(.int .u64 4294967295)] (fun v43 w=>
 oM prog (.binOp .shl 139 (.tmp 0) (.tmp 1) 174) 139 [a0,v36] (fun v46 w=>
 oM prog (.binOp .sub 174 (.tmp 0) (.tmp 1) 174) 174 [(.int .u64 64),v36] (fun v49 w=>
 oM prog (.binOp .shr 139 (.tmp 0) (.tmp 1) 174) 139 [a1,v49] (fun v50 w=>
 oM prog (.binOp .or 139 (.tmp 0) (.tmp 1) 139) 139 [v46,v50] (fun v51 w=>
 oM prog (.binOp .shl 139 (.tmp 0) (.tmp 1) 174) 139 [a1,v36] (fun v54 w=>
 oM prog (.binOp .shr 139 (.tmp 0) (.tmp 1) 174) 139 [v54,(.int .u64 32)] (fun v56 w=>
 oM prog (.binOp .and 139 (.tmp 0) (.tmp 1) 139) 139 [v54,(.int .u64 4294967295)] (fun v58 w=>
 oM prog (.binOp .quo 139 (.tmp 0) (.tmp 1) 139) 139 [v51,v41] (fun v61 w=>
 oM prog (.binOp .mul 139 (.tmp 0) (.tmp 1) 139) 139 [v61,v41] (fun v65 w=>
 oM prog (.binOp .sub 139 (.tmp 0) (.tmp 1) 139) 139 [v51,v65] (fun v66 w=>
 joinM (fun M_28=>(loopM [v61,v66] w (fun J_30 m_31 l_32 u_l_32 w0_l_32=>(fun w=>(
 oM prog (.binOp .geq 139 (.tmp 0) (.tmp 1) 139) 4 [(l_32.getD 0 undef),(.int .u64 4294967296)] (fun v68 w=>
 gdM (gd v68 false) (pureM (l_32.getD 0 undef)) (fun v70 w=>
 gdM (gd v68 false) (pureM v43) (fun v71 w=>
 gdM (gd v68 false) (oM prog (.binOp .mul 139 (.tmp 0) (.tmp 1) 139) 139 [v70,v71]) (fun v72 w=>
 gdM (gd v68 false) (pureM (l_32.getD 1 undef)) (fun v73 w=>
 gdM (gd v68 false) (oM prog (.binOp .mul 139 (.tmp 0) (.tmp 1) 139) 139 [(.int .u64 4294967296),v73]) (fun v74 w=>
 gdM (gd v68 false) (pureM v56) (fun v75 w=>
 gdM (gd v68 false) (oM prog (.binOp .add 139 (.tmp 0) (.tmp 1) 139) 139 [v74,v75]) (fun v76 w=>
 gdM (gd v68 false) (oM prog (.binOp .gtr 139 (.tmp 0) (.tmp 1) 139) 4 [v72,v76]) (fun v77 w=>
 oM prog (.pick (.tmp 0) (.tmp 1) (.tmp 2)) 4 [v68,(.bool true),v77] (fun v78 w=>
 condM v78
 (oM prog (.binOp .sub 139 (.tmp 0) (.tmp 1) 139) 139 [(l_32.getD 0 undef),(.int .u64 1)] (fun v80 w=>
 oM prog (.binOp .add 139 (.tmp 0) (.tmp 1) 139) 139 [(l_32.getD 1 undef),v41] (fun v83 w=>
 oM prog (.binOp .geq 139 (.tmp 0) (.tmp 1) 139) 4 [v83,(.int .u64 4294967296)] (fun v85 w=>
 condM v85
 (M_28 [v80,v83] w)
 (J_30 [v80,v83] w ∧ m_31 [v80,v83] w < m_31 l_32 w0_l_32)) w) w) w)
 (M_28 [(l_32.getD 0 undef),(l_32.getD 1 undef)] w)) w) w) w) w) w) w) w) w) w) w)) w0_l_32)))
 (fun l_29 u_l_29 w=>(oM prog (.binOp .mul 139 (.tmp 0) (.tmp 1) 139) 139 [v51,(.int .u64 4294967296)] (fun v87 w=>
 oM prog (.binOp .add 139 (.tmp 0) (.tmp 1) 139) 139 [v87,v56] (fun v89 w=>
 oM prog (.binOp .mul 139 (.tmp 0) (.tmp 1) 139) 139 [(l_29.getD 0 undef),v39] (fun v92 w=>
 oM prog (.binOp .sub 139 (.tmp 0) (.tmp 1) 139) 139 [v89,v92] (fun v93 w=>
 oM prog (.binOp .quo 139 (.tmp 0) (.tmp 1) 139) 139 [v93,v41] (fun v96 w=>
 oM prog (.binOp .mul 139 (.tmp 0) (.tmp 1) 139) 139 [v96,v41] (fun v100 w=>
 oM prog (.binOp .sub 139 (.tmp 0) (.tmp 1) 139) 139 [v93,v100] (fun v101 w=>
 joinM (fun M_53=>(loopM [v96,v101] w (fun J_55 m_56 l_57 u_l_57 w0_l_57=>(fun w=>(
 oM prog (.binOp .geq 139 (.tmp 0) (.tmp 1) 139) 4 [(l_57.getD 0 undef),(.int .u64 4294967296)] (fun v103 w=>
 gdM (gd v103 false) (pureM (l_57.getD 0 undef)) (fun v105 w=>
 gdM (gd v103 false) (pureM v43) (fun v106 w=>
 gdM (gd v103 false) (oM prog (.binOp .mul 139 (.tmp 0) (.tmp 1) 139) 139 [v105,v106]) (fun v107 w=>
 gdM (gd v103 false) (pureM (l_57.getD 1 undef)) (fun v108 w=>
 gdM (gd v103 false) (oM prog (.binOp .mul 139 (.tmp 0) (.tmp 1) 139) 139 [(.int .u64 4294967296),v108]) (fun v109 w=>
 gdM (gd v103 false) (pureM v58) (fun v110 w=>
 gdM (gd v103 false) (oM prog (.binOp .add 139 (.tmp 0) (.tmp 1) 139) 139 [v109,v110]) (fun v111 w=>
 gdM (gd v103 false) (oM prog (.binOp .gtr 139 (.tmp 0) (.tmp 1) 139) 4 [v107,v111]) (fun v112 w=>
 oM prog (.pick (.tmp 0) (.tmp 1) (.tmp 2)) 4 [v103,(.bool true),v112] (fun v113 w=>
 condM v113
 (oM prog (.binOp .sub 139 (.tmp 0) (.tmp 1) 139) 139 [(l_57.getD 0 undef),(.int .u64 1)] (fun v115 w=>
 oM prog (.binOp .add 139 (.tmp 0) (.tmp 1) 139) 139 [(l_57.getD 1 undef),v41] (fun v118 w=>
 oM prog (.binOp .geq 139 (.tmp 0) (.tmp 1) 139) 4 [v118,(.int .u64 4294967296)] (fun v120 w=>
 condM v120
 (M_53 [v115,v118] w)
 (J_55 [v115,v118] w ∧ m_56 [v115,v118] w < m_56 l_57 w0_l_57)) w) w) w)
 (M_53 [(l_57.getD 0 undef),(l_57.getD 1 undef)] w)) w) w) w) w) w) w) w) w) w) w)) w0_l_57)))
 (fun l_54 u_l_54 w=>(oM prog (.binOp .mul 139 (.tmp 0) (.tmp 1) 139) 139 [(l_29.getD 0 undef),(.int .u64 4294967296)] (fun v122 w=>
 oM prog (.binOp .add 139 (.tmp 0) (.tmp 1) 139) 139 [v122,(l_54.getD 0 undef)] (fun v124 w=>
 oM prog (.binOp .mul 139 (.tmp 0) (.tmp 1) 139) 139 [v93,(.int .u64 4294967296)] (fun v126 w=>
 oM prog (.binOp .add 139 (.tmp 0) (.tmp 1) 139) 139 [v126,v58] (fun v128 w=>
 oM prog (.binOp .mul 139 (.tmp 0) (.tmp 1) 139) 139 [(l_54.getD 0 undef),v39] (fun v131 w=>
 oM prog (.binOp .sub 139 (.tmp 0) (.tmp 1) 139) 139 [v128,v131] (fun v132 w=>
 oM prog (.binOp .shr 139 (.tmp 0) (.tmp 1) 174) 139 [v132,v36] (fun v134 w=>
 K (.tuple #[v124,v134]) w) w) w) w) w) w) w) w))) w) w) w) w) w) w) w))) w) w) w) w) w) w) w) w) w) w) w) w) w) w) w)) w))))
theorem sh_183_ok {a0 a1 a2:Value} {K:Value → World → Prop} {w:World} (h:sh_183 a0 a1 a2 K w):callM prog 183 #[a0,a1,a2] K w:=
 calls_of_code (fun _=>0) (fn:=Tryz.f183) (rs:=[.tmp 6,.tmp 7]) Tryz.func183 rfl rfl (by kernel_rfl) (Nat.le_of_ble_eq_true rfl) (Eq.mp (by kernel_rfl) h)
def sh_202 (a0 a1:Value) (K:Value → World → Prop) (w:World):Prop:=
 oM prog (.binOp .sub 3 (.tmp 0) (.tmp 1) 3) 3 [a0,(.int .i64 1)] (fun v8 w=>
 oM prog (.convert 3 139 (.tmp 0)) 139 [v8] (fun v9 w=>
 callM prog 220 #[v9] (fun v10 w=>
 oM prog (.binOp .sub 3 (.tmp 0) (.tmp 1) 3) 3 [a0,(.int .i64 1)] (fun v14 w=>
 oM prog (.convert 3 139 (.tmp 0)) 139 [v14] (fun v15 w=>
 oM prog (.binOp .shr 139 (.tmp 0) (.tmp 1) 3) 139 [v15,v10] (fun v17 w=>
 callM prog 83 #[a0,a1,v17] (fun v18 w=>
 oM prog (.binOp .eql 139 (.tmp 0) (.const (.int .u64 1)) 139) 4 [v18] (fun v20 w=>
 condM v20
 (K (.bool false) w)
 (loopM [(.bool false),v18,(.int .i64 0)] w (fun J_9 m_10 l_11 u_l_11 w0_l_11=>(fun w=>(
 oM prog (.binOp .lss 3 (.tmp 0) (.tmp 1) 3) 4 [(l_11.getD 2 undef),v10] (fun v23 w=>
 condM v23
 (oM prog (.binOp .sub 3 (.tmp 0) (.tmp 1) 3) 3 [a0,(.int .i64 1)] (fun v26 w=>
 oM prog (.convert 3 139 (.tmp 0)) 139 [v26] (fun v27 w=>
 oM prog (.binOp .eql 139 (.tmp 0) (.tmp 1) 139) 4 [(l_11.getD 1 undef),v27] (fun v28 w=>
 condM v28
 (K (.bool false) w)
 (callM prog 86 #[a0,(l_11.getD 1 undef),(l_11.getD 1 undef)] (fun v32 w=>
 oM prog (.binOp .add 3 (.tmp 0) (.tmp 1) 3) 3 [(l_11.getD 2 undef),(.int .i64 1)] (fun v33 w=>
 J_9 [(l_11.getD 0 undef),v32,v33] w ∧ m_10 [(l_11.getD 0 undef),v32,v33] w < m_10 l_11 w0_l_11) w) w)) w) w) w)
 (K (.bool true) w)) w)) w0_l_11))) w) w) w) w) w) w) w) w
theorem sh_202_ok {a0 a1:Value} {K:Value → World → Prop} {w:World} (h:sh_202 a0 a1 K w):callM prog 202 #[a0,a1] K w:=
 calls_of_code (fun _=>0) (fn:=Tryz.f202) (rs:=[.tmp 4]) Tryz.func202 rfl rfl (by kernel_rfl) (Nat.le_of_ble_eq_true rfl) (Eq.mp (by kernel_rfl) h)
def sh_204 (a0:Value) (K:Value → World → Prop) (w:World):Prop:=
 callM prog 222 #[a0] (fun v4 w=>
 oM prog (.binOp .sub 3 (.tmp 0) (.tmp 1) 3) 3 [(.int .i64 64),v4] (fun v5 w=>
 K v5 w) w) w
theorem sh_204_ok {a0:Value} {K:Value → World → Prop} {w:World} (h:sh_204 a0 K w):callM prog 204 #[a0] K w:=
 calls_of_code (fun _=>0) (fn:=Tryz.f204) (rs:=[.tmp 2]) Tryz.func204 rfl rfl (by kernel_rfl) (Nat.le_of_ble_eq_true rfl) (Eq.mp (by kernel_rfl) h)
def sh_220 (a0:Value) (K:Value → World → Prop) (w:World):Prop:=
 oM prog (.binOp .eql 139 (.tmp 0) (.const (.int .u64 0)) 139) 4 [a0] (fun v4 w=>
 condM v4
 (K (.int .i64 64) w)
 (oM prog (.unOp .neg 139 (.tmp 0)) 139 [a0] (fun v7 w=>
 oM prog (.binOp .and 139 (.tmp 0) (.tmp 1) 139) 139 [a0,v7] (fun v8 w=>
 oM prog (.binOp .mul 139 (.tmp 0) (.tmp 1) 139) 139 [v8,(.int .u64 285870213051353865)] (fun v9 w=>
 oM prog (.binOp .shr 139 (.tmp 0) (.tmp 1) 174) 139 [v9,(.int .u64 58)] (fun v10 w=>
 oM prog (.indexAddr 243 (.tmp 0) (.tmp 1)) 0 [(.pointer (some ⟨2,0,none⟩)),v10] (fun v11 w=>
 oM prog (.load 5 (.tmp 0)) 5 [v11] (fun v12 w=>
 oM prog (.convert 5 3 (.tmp 0)) 3 [v12] (fun v13 w=>
 K v13 w) w) w) w) w) w) w) w)) w
theorem sh_220_ok {a0:Value} {K:Value → World → Prop} {w:World} (h:sh_220 a0 K w):callM prog 220 #[a0] K w:=
 calls_of_code (fun _=>0) (fn:=Tryz.f220) (rs:=[.tmp 2]) Tryz.func220 rfl rfl (by kernel_rfl) (Nat.le_of_ble_eq_true rfl) (Eq.mp (by kernel_rfl) h)
def sh_222 (a0:Value) (K:Value → World → Prop) (w:World):Prop:=
 joinM (fun M_1=>(oM prog (.binOp .geq 139 (.tmp 0) (.tmp 1) 139) 4 [a0,(.int .u64 4294967296)] (fun v4 w=>
 condM v4
 (oM prog (.binOp .shr 139 (.tmp 0) (.tmp 1) 174) 139 [a0,(.int .u64 32)] (fun v6 w=>
 M_1 [v6,(.int .i64 32)] w) w)
 (M_1 [a0,(.int .i64 0)] w)) w))
 (fun l_2 u_l_2 w=>(joinM (fun M_5=>(oM prog (.binOp .geq 139 (.tmp 0) (.tmp 1) 139) 4 [(l_2.getD 0 undef),(.int .u64 65536)] (fun v8 w=>
 condM v8
 (oM prog (.binOp .shr 139 (.tmp 0) (.tmp 1) 174) 139 [(l_2.getD 0 undef),(.int .u64 16)] (fun v10 w=>
 oM prog (.binOp .add 3 (.tmp 0) (.tmp 1) 3) 3 [(l_2.getD 1 undef),(.int .i64 16)] (fun v12 w=>
 M_5 [v10,v12] w) w) w)
 (M_5 [(l_2.getD 0 undef),(l_2.getD 1 undef)] w)) w))
 (fun l_6 u_l_6 w=>(joinM (fun M_10=>(oM prog (.binOp .geq 139 (.tmp 0) (.tmp 1) 139) 4 [(l_6.getD 0 undef),(.int .u64 256)] (fun v14 w=>
 condM v14
 (oM prog (.binOp .shr 139 (.tmp 0) (.tmp 1) 174) 139 [(l_6.getD 0 undef),(.int .u64 8)] (fun v16 w=>
 oM prog (.binOp .add 3 (.tmp 0) (.tmp 1) 3) 3 [(l_6.getD 1 undef),(.int .i64 8)] (fun v18 w=>
 M_10 [v16,v18] w) w) w)
 (M_10 [(l_6.getD 0 undef),(l_6.getD 1 undef)] w)) w))
 (fun l_11 u_l_11 w=>(oM prog (.convert 139 5 (.tmp 0)) 5 [(l_11.getD 0 undef)] (fun v21 w=>
 oM prog (.index 9 (.tmp 0) (.tmp 1)) 5 [(.string ⟨#[0,1,2,2,3,3,3,3,4,4,4,4,4,4,4,4,5,5,5,5,5,5,5,5,5,5,5,5,5,5,5,5,6,6,6,6,6,6,6,6,6,6,6,6,6,6,6,6,6,6,6,6,6,6,6,6,6,6,6,6,6,6,6,6,7,7,7,7,7,7,7,7,7,7,7,7,7,7,7,7,7,7,7,7,7,7,7,7,7,7,7,7,7,7,7,7,7,7,7,7,7,7,7,7,7,7,7,7,7,7,7,7,7,7,7,7,7,7,7,7,7,7,7,7,7,7,7,7,8,8,8,8,8,8,8,8,8,8,8,8,8,8,8,8,8,8,8,8,8,8,8,8,8,8,8,8,8,8,8,8,8,8,8,8,8,8,8,8,8,8,8,8,8,8,8,8,8,8,8,8,8,8,8,8,8,8,8,8,8,8,8,8,8,8,8,8,8,8,8,8,8,8,8,8,8,8,8,8,8,8,8,8,8,8,8,8,8,8,8,8,8,8,8,8,8,8,8,8,8,8,8,8,8,8,8,8,8,8,8,8,8,8,8,8,8,8,8,8,8,8,8,8,8,8,8,8]⟩),v21] (fun v22 w=>
 oM prog (.convert 5 3 (.tmp 0)) 3 [v22] (fun v23 w=>
 oM prog (.binOp .add 3 (.tmp 0) (.tmp 1) 3) 3 [(l_11.getD 1 undef),v23] (fun v24 w=>
 K v24 w) w) w) w) w))))))
theorem sh_222_ok {a0:Value} {K:Value → World → Prop} {w:World} (h:sh_222 a0 K w):callM prog 222 #[a0] K w:=
 calls_of_code (fun _=>0) (fn:=Tryz.f222) (rs:=[.tmp 2]) Tryz.func222 rfl rfl (by kernel_rfl) (Nat.le_of_ble_eq_true rfl) (Eq.mp (by kernel_rfl) h)
end Go.Proofs
namespace FdSpec
def okN (n:Int):Prop:=1 ≤ n ∧ n < 2305843009213693952
instance (n:Int):Decidable (okN n):=inferInstanceAs (Decidable (_ ∧ _))
def addM (n a b:Int):Int:=if okN n then (a + b) % n else 0
def subM (n a b:Int):Int:=if okN n then (a - b) % n else 0
def mulM (n a b:Int):Int:=if okN n then a * b % n else 0
def pw (n a:Int) (b:Nat):Int:=a ^ b % n
def euc (n:Int):Nat → Int → Int → Int → Int → Int × Int
 | 0,r,_,x,_=>(r,x)
 | k + 1,r,s,x,y=>if s = 0 then (r,x) else euc n k s (r % s) y (subM n x (mulM n (r / s) y))
def eucAll (n r s x y:Int):Int × Int:=euc n (s.toNat + 1) r s x y
def invM (n a:Int):Option Int:=if okN n then (if (eucAll n n (a % n) 0 1).1 = 1 then some ((eucAll n n (a % n) 0 1).2 % n) else none) else none
def powM (n a b:Int):Int:=
 if okN n then (if 0 ≤ b then pw n a b.toNat else match invM n a with | some x=>pw n x (-b).toNat | none=>0) else 0
theorem euc_zero (n:Int) (k:Nat) (r x y:Int):euc n k r 0 x y = (r,x):=by
 cases k <;> simp [euc]
theorem euc_more (n:Int) (k:Nat) (r s x y:Int) (hs:0 ≤ s) (hk:s.toNat + 1 ≤ k):euc n k r s x y = eucAll n r s x y:=by
 unfold eucAll
 induction k using Nat.strongRecOn generalizing r s x y with
 | _ k ih=>
  cases k with
  | zero=>omega
  | succ k=>
   by_cases h0:s = 0
   ·subst h0; simp [euc]
   ·have h1:=Int.emod_nonneg r h0
    have h2:=Int.emod_lt_of_pos r (b:=s) (by omega)
    have e1:euc n (k + 1) r s x y = euc n k s (r % s) y (subM n x (mulM n (r / s) y)):=by
     rw [euc,if_neg h0]
    have e2:euc n (s.toNat + 1) r s x y = euc n s.toNat s (r % s) y (subM n x (mulM n (r / s) y)):=by
     rw [euc,if_neg h0]
    rw [e1,e2]
    have h3:(r % s).toNat + 1 ≤ s.toNat:=by omega
    rw [ih k (by omega) s (r % s) _ _ h1 (by omega)]
    by_cases hks:s.toNat = k
    ·rw [hks,ih k (by omega) s (r % s) _ _ h1 (by omega)]
    ·rw [ih s.toNat (by omega) s (r % s) _ _ h1 h3]
theorem euc_step (n r s x y:Int) (hs:0 < s):eucAll n r s x y = eucAll n s (r % s) y (subM n x (mulM n (r / s) y)):=by
 have h1:=Int.emod_nonneg r (b:=s) (by omega)
 have h2:=Int.emod_lt_of_pos r (b:=s) hs
 rw [← euc_more n s.toNat s (r % s) _ _ h1 (by omega)]
 unfold eucAll
 rw [euc,if_neg (by omega)]
def tz:Nat → Nat → Nat
 | 0,_=>0
 | k + 1,m=>if m % 2 = 0 then tz k (m / 2) + 1 else 0
def mrUp (n:Int):Nat → Int → Bool
 | 0,_=>false
 | k + 1,x=>if x = n - 1 then true else mrUp n k (x * x % n)
def passes (n b:Int):Bool:=
 let k:=tz 64 (n - 1).toNat
 let x:=pw n b ((n - 1).toNat / 2 ^ k)
 if x = 1 then true else mrUp n k x
def smallP:List Int:=[2,3,5,7,11,13,17,19,23,29,31,37]
def primeM (n:Int):Bool:=
 if n < 2 ∨ 2305843009213693952 ≤ n then false
 else match smallP.find? (fun p=>decide (n % p = 0)) with
  | some p=>decide (n = p)
  | none=>smallP.all (fun p=>passes n p)
structure Grp where
 P:Int
 Q:Int
 G:Int
deriving DecidableEq
def validG (g:Grp):Bool:=
 if g.Q < 5 ∨ 1152921504606846976 ≤ g.Q ∨ g.P ≠ 2 * g.Q + 1 ∨ g.G < 2 ∨ g.P ≤ g.G then false
 else primeM g.Q && primeM g.P && decide (pw g.P g.G g.Q.toNat = 1)
def elemG (g:Grp) (x:Int):Bool:=decide (1 ≤ x) && decide (x < g.P) && validG g && decide (pw g.P x g.Q.toNat = 1)
def powerG (g:Grp) (x k:Int):Int:=if okN g.P ∧ okN g.Q then pw g.P x (k % g.Q).toNat else 0
def timesG (g:Grp) (a b:Int):Int:=if okN g.Q then mulM g.P a b else 0
def prodL (g:Grp):Int → List (Int × Int) → Int
 | out,[]=>out
 | out,(b,e) :: l=>prodL g (mulM g.P out (powerG g b e)) l
def prodG (g:Grp) (bases exps:List Int):Int × Bool:=
 if okN g.P ∧ okN g.Q ∧ bases.length = exps.length then (prodL g (1 % g.P) (bases.zip exps),true) else (0,false)
end FdSpec
namespace FdSpec
theorem emod_pow (a n:Int) (k:Nat):(a % n) ^ k % n = a ^ k % n:=by
 induction k with
 | zero=>rw [Int.pow_zero,Int.pow_zero]
 | succ k ih=>rw [Int.pow_succ,Int.pow_succ,Int.mul_emod,ih,Int.emod_emod_of_dvd a (Int.dvd_refl n),← Int.mul_emod]
theorem pow_half (a:Int) (b:Nat):a ^ b = (a * a) ^ (b / 2) * a ^ (b % 2):=by
 have h1:b = 2 * (b / 2) + b % 2:=(Nat.div_add_mod b 2).symm
 have h2:∀ k,a ^ (2 * k) = (a * a) ^ k:=by
  intro k
  induction k with
  | zero=>rw [Nat.mul_zero,Int.pow_zero,Int.pow_zero]
  | succ k ih=>rw [Nat.mul_succ,Int.pow_succ,Int.pow_succ,Int.pow_succ,ih,Int.mul_assoc]
 conv=>lhs; rw [h1]
 rw [Int.pow_add,h2]
theorem pw_even (n a out:Int) (b:Nat) (hb:b % 2 = 0):out * (a * a % n) ^ (b / 2) % n = out * a ^ b % n:=by
 rw [pow_half a b,hb,Int.pow_zero,Int.mul_one,Int.mul_emod,emod_pow,← Int.mul_emod]
theorem pw_odd (n a out:Int) (b:Nat) (hb:b % 2 = 1):out * a % n * (a * a % n) ^ (b / 2) % n = out * a ^ b % n:=by
 have e:a ^ (1:Nat) = a:=by rw [show (1:Nat) = 0 + 1 from rfl,Int.pow_succ,Int.pow_zero,Int.one_mul]
 rw [pow_half a b,hb,e,Int.mul_emod,Int.emod_emod_of_dvd _ (Int.dvd_refl n),emod_pow,← Int.mul_emod]
 congr 1
 rw [Int.mul_comm ((a * a) ^ (b / 2)) a,← Int.mul_assoc]
theorem pw_emod (n a:Int) (b:Nat):pw n (a % n) b = pw n a b:=emod_pow a n b
theorem pw_nonneg (n a:Int) (b:Nat) (hn:0 < n):0 ≤ pw n a b ∧ pw n a b < n:=⟨Int.emod_nonneg _ (by omega),Int.emod_lt_of_pos _ hn⟩
theorem tz_lt (k m:Nat) (hm:0 < m) (h:m < 2 ^ k):tz k m < k ∧ ∃ j,m = 2 ^ tz k m * (2 * j + 1):=by
 induction k generalizing m with
 | zero=>omega
 | succ k ih=>
  unfold tz
  split
  ·rename_i h2
   obtain ⟨h3,j,h4⟩:=ih (m / 2) (by omega) (by rw [Nat.pow_succ] at h; omega)
   refine ⟨by omega,j,?_⟩
   have h5:m = 2 * (m / 2):=by omega
   rw [Nat.pow_succ,Nat.mul_comm (2 ^ _) 2,Nat.mul_assoc,← h4]
   exact h5
  ·exact ⟨by omega,m / 2,by rw [Nat.pow_zero]; omega⟩
theorem addM_eq (n a b:Int) (hn:okN n):(a % n + b % n) % n = addM n a b:=by
 rw [addM,if_pos hn,← Int.add_emod]
theorem subM_eq (n a b:Int) (hn:okN n):(a % n + n - b % n) % n = subM n a b:=by
 rw [subM,if_pos hn,Int.sub_emod,Int.add_emod,Int.emod_self,Int.add_zero,Int.emod_emod_of_dvd _ (Int.dvd_refl n),Int.emod_emod_of_dvd _ (Int.dvd_refl n),Int.emod_emod_of_dvd _ (Int.dvd_refl n),← Int.sub_emod]
theorem mulM_eq (n a b:Int) (hn:okN n):a % n * (b % n) % n = mulM n a b:=by
 rw [mulM,if_pos hn,← Int.mul_emod]
theorem mulM_range (n a b:Int) (hn:okN n):0 ≤ mulM n a b ∧ mulM n a b < n:=by
 rw [mulM,if_pos hn]; exact ⟨Int.emod_nonneg _ (by have:=hn.1; omega),Int.emod_lt_of_pos _ (by have:=hn.1; omega)⟩
theorem subM_range (n a b:Int) (hn:okN n):0 ≤ subM n a b ∧ subM n a b < n:=by
 rw [subM,if_pos hn]; exact ⟨Int.emod_nonneg _ (by have:=hn.1; omega),Int.emod_lt_of_pos _ (by have:=hn.1; omega)⟩
theorem addM_range (n a b:Int) (hn:okN n):0 ≤ addM n a b ∧ addM n a b < n:=by
 rw [addM,if_pos hn]; exact ⟨Int.emod_nonneg _ (by have:=hn.1; omega),Int.emod_lt_of_pos _ (by have:=hn.1; omega)⟩
theorem residue_eq (n a:Int) (hn:0 < n):(if a.tmod n < 0 then a.tmod n + n else a.tmod n) = a % n:=by
 have h1:=Int.emod_nonneg a (b:=n) (by omega)
 have h2:=Int.emod_lt_of_pos a hn
 have h3:=Int.tmod_add_mul_tdiv a n
 have h4:=Int.emod_add_mul_ediv a n
 have h5:a.tmod n < n:=by have:=Int.tmod_lt_of_pos a hn; omega
 have h6:-n < a.tmod n:=by
  have:=Int.lt_tmod_of_pos a hn
  omega
 have h7:n ∣ a.tmod n - a % n:=by
  refine ⟨a / n - a.tdiv n,?_⟩
  rw [Int.mul_sub]; omega
 obtain ⟨k,hk⟩:=h7
 have hk2:k = 0 ∨ k = -1 ∨ 1 ≤ k ∨ k ≤ -2:=by omega
 rcases hk2 with rfl | rfl | hk2 | hk2
 ·simp at hk; split <;> omega
 ·rw [Int.mul_neg,Int.mul_one] at hk; split <;> omega
 ·have:=Int.mul_le_mul_of_nonneg_left hk2 (by omega:0 ≤ n); omega
 ·have:=Int.mul_le_mul_of_nonneg_left hk2 (by omega:0 ≤ n); omega
end FdSpec
namespace FdSpec
structure Digit (h l u d q r:Nat):Prop where
 sum:q * h + r = u
 up:u * 4294967296 + d < (q + 1) * (h * 4294967296 + l)
 le:q ≤ 4294967297
section
variable {h l u d q r:Nat}
theorem digit_start (hh:2147483648 ≤ h) (hh2:h < 4294967296) (hl:l < 4294967296) (hd:d < 4294967296) (hu:u < h * 4294967296 + l):Digit h l u d (u / h) (u - u / h * h):=by
 have h1:u / h * h ≤ u:=Nat.div_mul_le_self u h
 have h2:u < (u / h + 1) * h:=by rw [Nat.add_mul,Nat.one_mul]; have:=Nat.mod_lt u (show h > 0 by omega); have:=Nat.div_add_mod u h; rw [Nat.mul_comm] at this; omega
 have h3:u / h < 4294967298:=by
  rw [Nat.div_lt_iff_lt_mul (by omega)]
  omega
 refine ⟨by omega,?_,by omega⟩
 have h4:(u + 1) * 4294967296 ≤ (u / h + 1) * h * 4294967296:=Nat.mul_le_mul_right _ h2
 have h5:(u / h + 1) * (h * 4294967296 + l) = (u / h + 1) * h * 4294967296 + (u / h + 1) * l:=by rw [Nat.mul_add,Nat.mul_assoc]
 rw [h5]
 omega
theorem digit_test (D:Digit h l u d q r):(4294967296 * r + d < q * l) ↔ u * 4294967296 + d < q * (h * 4294967296 + l):=by
 have h5:q * (h * 4294967296 + l) = q * h * 4294967296 + q * l:=by rw [Nat.mul_add,Nat.mul_assoc]
 have:=D.sum
 rw [h5]
 generalize q * h = a at *
 generalize q * l = b at *
 omega
theorem digit_big (hu:u < h * 4294967296 + l) (hd:d < 4294967296) (hq:4294967296 ≤ q):u * 4294967296 + d < q * (h * 4294967296 + l):=by
 have h1:4294967296 * (h * 4294967296 + l) ≤ q * (h * 4294967296 + l):=Nat.mul_le_mul_right _ hq
 have h2:(u + 1) * 4294967296 ≤ (h * 4294967296 + l) * 4294967296:=Nat.mul_le_mul_right _ hu
 omega
theorem digit_pos (D:Digit h l u d q r) (ht:u * 4294967296 + d < q * (h * 4294967296 + l)):0 < q:=by
 rcases Nat.eq_zero_or_pos q with rfl | h
 ·simp at ht
 ·exact h
theorem digit_step (D:Digit h l u d q r) (ht:u * 4294967296 + d < q * (h * 4294967296 + l)):Digit h l u d (q - 1) (r + h):=by
 have hq:=digit_pos D ht
 have:=D.sum
 refine ⟨?_,?_,by have:=D.le; omega⟩
 ·obtain ⟨p,rfl⟩:∃ p,q = p + 1:=⟨q - 1,by omega⟩
  rw [Nat.add_mul] at this
  simp only [Nat.add_sub_cancel]
  omega
 ·rw [show q - 1 + 1 = q by omega]; exact ht
theorem digit_end (D:Digit h l u d q r) (ht:¬ u * 4294967296 + d < q * (h * 4294967296 + l)):q = (u * 4294967296 + d) / (h * 4294967296 + l):=
 (Nat.div_eq_of_lt_le (by omega) D.up).symm
theorem digit_break (D:Digit h l u d q r) (hl:l < 4294967296) (hq:q ≤ 4294967296) (hr:4294967296 ≤ r):¬ u * 4294967296 + d < q * (h * 4294967296 + l):=by
 rw [← digit_test D]
 have h1:q * l ≤ 4294967296 * 4294967295:=Nat.mul_le_mul hq (by omega)
 omega
end
theorem div_total (x y s:Nat):x * 2 ^ s % (y * 2 ^ s) / 2 ^ s = x % y:=by
 rw [Nat.mul_mod_mul_right,Nat.mul_div_cancel _ (Nat.pow_pos (by omega))]
theorem two_digits (N d y:Nat):(N * 4294967296 + d) % y = ((N % y) * 4294967296 + d) % y:=by
 have h:N * 4294967296 % y = N % y * 4294967296 % y:=by simp
 rw [Nat.add_mod,h,← Nat.add_mod]
theorem split32 (X D:Nat):(X * 4294967296 + D / 4294967296) * 4294967296 + D % 4294967296 = X * 18446744073709551616 + D:=by
 rw [Nat.add_mul,Nat.mul_assoc,Nat.add_assoc,Nat.mul_comm (D / 4294967296),Nat.div_add_mod]
theorem norm_gen (a c M y s:Nat) (h:a * 4294967296 + c = M * 2 ^ s):(a % (y * 2 ^ s) * 4294967296 + c) % (y * 2 ^ s) / 2 ^ s = M % y:=by
 have t:=two_digits a c (y * 2 ^ s)
 have u:=div_total M y s
 rw [h] at t
 rw [← t,u]
theorem norm_rest (hi lo y s X D:Nat) (hN:X * 18446744073709551616 + D = (hi * 18446744073709551616 + lo) * 2 ^ s):(((X * 4294967296 + D / 4294967296) % (y * 2 ^ s)) * 4294967296 + D % 4294967296) % (y * 2 ^ s) / 2 ^ s = (hi * 18446744073709551616 + lo) % y:=by
 rw [← split32 X D] at hN
 exact norm_gen _ _ _ y s hN
end FdSpec
namespace Go.Proofs
open Go Go.Sh Go.RowKit FdSpec
section
variable {K:Value → World → Prop} {w:World}
theorem K_eq {a b:Value} (h:K a w) (e:b = a):K b w:=e ▸ h
@[reducible] def u64V (n:Int):Value:=.int .u64 n
theorem valid_ok (n:Int) (h:K (.bool (decide (okN n))) w):callM Tryz.prog 82 #[.int .i64 n] K w:=by
 apply sh_82_ok
 unfold sh_82
 have e:decide (okN n) = (decide (1 ≤ n) && decide (n < 2305843009213693952)):=by
  by_cases h1:1 ≤ n <;> by_cases h2:n < 2305843009213693952 <;> simp [okN,h1,h2]
 rw [e] at h
 by_cases h1:1 ≤ n
 ·refine Xa @h1 ?_
  simpa [h1] using h
 ·refine Xa @h1 ?_
  simpa [h1] using h
theorem residue_ok (n a:Int) (hn:okN n) (h:K (.int .u64 (a % n)) w):callM Tryz.prog 84 #[.int .i64 n,.int .i64 a] K w:=by
 apply sh_84_ok
 unfold sh_84
 obtain ⟨h1,h2⟩:=hn
 have e:=residue_eq n a (by omega)
 have h3:=Int.emod_nonneg a (b:=n) (by omega)
 have h4:=Int.emod_lt_of_pos a (b:=n) (by omega)
 obtain ⟨r,hr⟩:∃ r,r = a.tmod n:=⟨_,rfl⟩
 rw [← hr] at e
 repeat (any_goals (first
 | (with_reducible ((refine idCond ?_); refine yP (fun hg=>?_) fun hg=>?_))
 | ((with_reducible refine oM_gen fun Kv hK=>?_); simp [go_sem,← hr]; (try simp (disch:=omega) only [wrapI64,wrapU8,wrapU32,wrapU64]); (first|refine hK _ _ ?_|refine And.intro (by omega) (hK _ _ ?_)); clear hK Kv)))
 ·rw [if_pos (by assumption)] at e; rw [e]; exact h
 ·rw [if_neg (by assumption)] at e; rw [e]; exact h
theorem natN (x:Int) (h:0 ≤ x):∃ a:Nat,x = a:=⟨x.toNat,by omega⟩
theorem maskU (a:Nat) (ha:a < 18446744073709551616):bits .and .u64 (a:Int) 4294967295 = ((a % 4294967296:Nat):Int):=by
 rw [mask64 32 a 4294967295 (by omega) (by decide) (by omega)]; omega
theorem divU (a:Nat):(a:Int) / 4294967296 = ((a / 4294967296:Nat):Int):=by omega
theorem modU (a:Nat):(a:Int) % 4294967296 = ((a % 4294967296:Nat):Int):=by omega
theorem mulU (a b:Nat):(a:Int) * (b:Int) = ((a * b:Nat):Int):=(Int.natCast_mul a b).symm
theorem addU (a b:Nat):(a:Int) + (b:Int) = ((a + b:Nat):Int):=(Int.natCast_add a b).symm
theorem wrapU (a:Nat) (ha:a < 18446744073709551616):IntKind.u64.wrap (a:Int) = (a:Int):=wrapU64 _ (by omega) (by omega)
theorem wrapUM (a:Nat):IntKind.u64.wrap (a:Int) = ((a % 18446744073709551616:Nat):Int):=by rw [IntKind.wrap_u64]; omega
theorem mul64_ok (x y:Int) (hx:0 ≤ x ∧ x < 18446744073709551616) (hy:0 ≤ y ∧ y < 18446744073709551616) (h:K (.tuple #[.int .u64 (x * y / 18446744073709551616),.int .u64 (x * y % 18446744073709551616)]) w):callM Tryz.prog 139 #[.int .u64 x,.int .u64 y] K w:=by
 apply sh_139_ok
 unfold sh_139
 have mx:=mask64 32 x 4294967295 (by omega) (by decide) hx
 have my:=mask64 32 y 4294967295 (by omega) (by decide) hy
 obtain ⟨a,rfl⟩:=natN x hx.1
 obtain ⟨b,rfl⟩:=natN y hy.1
 refine Xa (An2 @mx @my) ?_
 clear mx my
 have hx:a < 18446744073709551616:=by omega
 have hy:b < 18446744073709551616:=by omega
 obtain ⟨bd,bt,bw,hhi⟩:=Lib.mul64_hi a b hx hy
 have ba:=Lib.half_mul_le (a:=a / 4294967296) (b:=b / 4294967296) (by omega) (by omega)
 have bb:=Lib.half_mul_le (a:=a / 4294967296) (b:=b % 4294967296) (by omega) (by omega)
 have bc:=Lib.half_mul_le (a:=a % 4294967296) (b:=b / 4294967296) (by omega) (by omega)
 have ba':a / 4294967296 * (b / 4294967296) < 18446744073709551616:=by omega
 have bb':a / 4294967296 * (b % 4294967296) < 18446744073709551616:=by omega
 have bc':a % 4294967296 * (b / 4294967296) < 18446744073709551616:=by omega
 have bh1:a / 4294967296 * (b / 4294967296) + (a / 4294967296 * (b % 4294967296) + a % 4294967296 * (b % 4294967296) / 4294967296) / 4294967296 < 18446744073709551616:=by omega
 have bh:a / 4294967296 * (b / 4294967296) + (a / 4294967296 * (b % 4294967296) + a % 4294967296 * (b % 4294967296) / 4294967296) / 4294967296 + ((a / 4294967296 * (b % 4294967296) + a % 4294967296 * (b % 4294967296) / 4294967296) % 4294967296 + a % 4294967296 * (b / 4294967296)) / 4294967296 < 18446744073709551616:=by omega
 simp only [modU,divU,mulU,addU,wrapU _ bd,wrapU _ bb',wrapU _ bt,maskU _ bt,wrapU _ bc',wrapU _ bw,wrapU _ ba',wrapU _ bh1,wrapU _ bh,wrapUM (a * b)]
 rw [hhi]
 exact K_eq h (by simp)
def len8:ByteArray:=⟨#[0,1,2,2,3,3,3,3,4,4,4,4,4,4,4,4,5,5,5,5,5,5,5,5,5,5,5,5,5,5,5,5,6,6,6,6,6,6,6,6,6,6,6,6,6,6,6,6,6,6,6,6,6,6,6,6,6,6,6,6,6,6,6,6,7,7,7,7,7,7,7,7,7,7,7,7,7,7,7,7,7,7,7,7,7,7,7,7,7,7,7,7,7,7,7,7,7,7,7,7,7,7,7,7,7,7,7,7,7,7,7,7,7,7,7,7,7,7,7,7,7,7,7,7,7,7,7,7,8,8,8,8,8,8,8,8,8,8,8,8,8,8,8,8,8,8,8,8,8,8,8,8,8,8,8,8,8,8,8,8,8,8,8,8,8,8,8,8,8,8,8,8,8,8,8,8,8,8,8,8,8,8,8,8,8,8,8,8,8,8,8,8,8,8,8,8,8,8,8,8,8,8,8,8,8,8,8,8,8,8,8,8,8,8,8,8,8,8,8,8,8,8,8,8,8,8,8,8,8,8,8,8,8,8,8,8,8,8,8,8,8,8,8,8,8,8,8,8,8,8,8,8,8,8,8,8]⟩
theorem len8_size:len8.size = 256:=by decide +kernel
theorem len_bits (x:Nat) (hx:x < 256):x < 2 ^ (byteAt len8 x).toNat ∧ (x ≠ 0 → 1 ≤ (byteAt len8 x).toNat ∧ 2 ^ ((byteAt len8 x).toNat - 1) ≤ x) ∧ (byteAt len8 x).toNat ≤ 8 ∧ (x = 0 → (byteAt len8 x).toNat = 0):=by
 have:∀ x,x < 256 → x < 2 ^ (byteAt len8 x).toNat ∧ (x ≠ 0 → 1 ≤ (byteAt len8 x).toNat ∧ 2 ^ ((byteAt len8 x).toNat - 1) ≤ x) ∧ (byteAt len8 x).toNat ≤ 8 ∧ (x = 0 → (byteAt len8 x).toNat = 0):=by decide +kernel
 exact this x hx
theorem oM_index_len8 (i:Int) (T:TypeId):oM Tryz.prog (.index 9 (.tmp 0) (.tmp 1)) T [.string len8,.int .u8 i] = onM (0 ≤ i ∧ i < 256) (.int .u8 (byteAt len8 i.toNat).toNat):=by
 funext K w
 rw [oM_value (S:=Instr.index 9 (.string len8) (.int .u8 i)) rfl,run_index_string (P:=Tryz.prog) (w:=w) 9 len8 .u8 i (by kernel_rfl)]
 have e:=len8_size
 by_cases hi:0 ≤ i ∧ i < len8.size
 ·rw [dif_pos hi,ok_iff,← byteAt_get]
  exact propext ⟨fun hk=>⟨⟨hi.1,by omega⟩,hk⟩,fun ⟨_,hk⟩=>hk⟩
 ·rw [dif_neg hi]
  obtain ⟨e',w',he⟩:=halts Value Tryz.prog .u8 i len8.size .index w
  rw [he,halt_iff]
  exact propext ⟨fun h=>h.elim,fun ⟨h,_⟩=>hi ⟨h.1,by omega⟩⟩
theorem stage (x k s:Nat) (h:2 ^ s ≤ x / 2 ^ k):x / 2 ^ (k + s) = x / 2 ^ k / 2 ^ s ∧ 2 ^ (k + s) ≤ x:=by
 refine ⟨by rw [Nat.pow_add,Nat.div_div_eq_div_mul],?_⟩
 rw [Nat.pow_add,Nat.mul_comm]
 exact (Nat.le_div_iff_mul_le (Nat.pow_pos (by omega))).1 h
structure BitLen (x L:Nat):Prop where
 lt:x < 2 ^ L
 ge:x ≠ 0 → 1 ≤ L ∧ 2 ^ (L - 1) ≤ x
 le:L ≤ 64
def BlM (x B m:Nat) (w:World) (l:List Value) (w':World):Prop:=w' = w ∧ ∃ k:Nat,l = [.int .u64 ((x / 2 ^ k:Nat):Int),.int .i64 (k:Int)] ∧ x / 2 ^ k < B ∧ (k = 0 ∨ 2 ^ k ≤ x) ∧ k ≤ m
theorem len64_ok (x:Nat) (hx:x < 18446744073709551616) (h:∀ L,BitLen x L → K (.int .i64 (L:Nat)) w):callM Tryz.prog 222 #[.int .u64 (x:Int)] K w:=by
 apply sh_222_ok
 unfold sh_222
 rw [show (⟨#[0,1,2,2,3,3,3,3,4,4,4,4,4,4,4,4,5,5,5,5,5,5,5,5,5,5,5,5,5,5,5,5,6,6,6,6,6,6,6,6,6,6,6,6,6,6,6,6,6,6,6,6,6,6,6,6,6,6,6,6,6,6,6,6,7,7,7,7,7,7,7,7,7,7,7,7,7,7,7,7,7,7,7,7,7,7,7,7,7,7,7,7,7,7,7,7,7,7,7,7,7,7,7,7,7,7,7,7,7,7,7,7,7,7,7,7,7,7,7,7,7,7,7,7,7,7,7,7,8,8,8,8,8,8,8,8,8,8,8,8,8,8,8,8,8,8,8,8,8,8,8,8,8,8,8,8,8,8,8,8,8,8,8,8,8,8,8,8,8,8,8,8,8,8,8,8,8,8,8,8,8,8,8,8,8,8,8,8,8,8,8,8,8,8,8,8,8,8,8,8,8,8,8,8,8,8,8,8,8,8,8,8,8,8,8,8,8,8,8,8,8,8,8,8,8,8,8,8,8,8,8,8,8,8,8,8,8,8,8,8,8,8,8,8,8,8,8,8,8,8,8,8,8,8,8,8]⟩:ByteArray) = len8 from rfl]
 refine ⟨BlM x 4294967296 32 w,?_,?_⟩
 ·repeat (any_goals (first
  | (with_reducible ((refine idCond ?_); refine yP (fun hg=>?_) fun hg=>?_))
  | ((with_reducible refine oM_gen fun Kv hK=>?_); simp [go_sem]; refine hK _ _ ?_; clear hK Kv)))
  ·exact ⟨rfl,32,by simp,by omega,by omega,by omega⟩
  ·exact ⟨rfl,0,by simp,by simp; omega,by omega,by omega⟩
 rintro _ _ w1 ⟨e1,k,rfl,h1,h2,h3⟩
 rw [e1]
 clear e1 w1
 refine ⟨BlM x 65536 48 w,?_,?_⟩
 ·have hs:=stage x k 16
  obtain ⟨y,hy⟩:∃ y,y = x / 2 ^ k:=⟨_,rfl⟩
  rw [← hy] at hs h1 ⊢
  repeat (any_goals (first
  | (with_reducible ((refine idCond ?_); refine yP (fun hg=>?_) fun hg=>?_))
  | ((with_reducible refine oM_gen fun Kv hK=>?_); simp [go_sem]; (try simp (disch:=omega) only [wrapI64,wrapU8,wrapU32,wrapU64]); refine hK _ _ ?_; clear hK Kv)))
  ·have hs:=hs (by omega)
   exact ⟨rfl,k + 16,by rw [hs.1]; simp,by rw [hs.1]; omega,.inr hs.2,by omega⟩
  ·exact ⟨rfl,k,by rw [hy]; rfl,by omega,h2,by omega⟩
 clear h1 h2 h3 k
 rintro _ _ w1 ⟨e1,k,rfl,h1,h2,h3⟩
 rw [e1]
 clear e1 w1
 refine ⟨BlM x 256 56 w,?_,?_⟩
 ·have hs:=stage x k 8
  obtain ⟨y,hy⟩:∃ y,y = x / 2 ^ k:=⟨_,rfl⟩
  rw [← hy] at hs h1 ⊢
  repeat (any_goals (first
  | (with_reducible ((refine idCond ?_); refine yP (fun hg=>?_) fun hg=>?_))
  | ((with_reducible refine oM_gen fun Kv hK=>?_); simp [go_sem]; (try simp (disch:=omega) only [wrapI64,wrapU8,wrapU32,wrapU64]); refine hK _ _ ?_; clear hK Kv)))
  ·have hs:=hs (by omega)
   exact ⟨rfl,k + 8,by rw [hs.1]; simp,by rw [hs.1]; omega,.inr hs.2,by omega⟩
  ·exact ⟨rfl,k,by rw [hy]; rfl,by omega,h2,by omega⟩
 clear h1 h2 h3 k
 rintro _ _ w1 ⟨e1,k,rfl,h1,h2,h3⟩
 rw [e1]
 clear e1 w1
 obtain ⟨l1,l2,l3,l4⟩:=len_bits (x / 2 ^ k) h1
 have hL:BitLen x (k + (byteAt len8 (x / 2 ^ k)).toNat):=by
  generalize (byteAt len8 (x / 2 ^ k)).toNat = L at *
  have hp:0 < 2 ^ k:=Nat.pow_pos (by omega)
  refine ⟨?_,?_,by omega⟩
  ·rw [Nat.pow_add,Nat.mul_comm]
   exact (Nat.div_lt_iff_lt_mul hp).1 l1
  ·intro h0
   by_cases hy:x / 2 ^ k = 0
   ·rw [Nat.div_eq_zero_iff] at hy
    rcases h2 with rfl | h2 <;> simp at hy <;> omega
   ·obtain ⟨a,b⟩:=l2 hy
    refine ⟨by omega,?_⟩
    rw [show k + L - 1 = k + (L - 1) by omega,Nat.pow_add,Nat.mul_comm]
    exact (Nat.le_div_iff_mul_le hp).1 b
 obtain ⟨y,hy⟩:∃ y,y = x / 2 ^ k:=⟨_,rfl⟩
 have hk:=h _ hL
 simp only [← hy] at hk h1 l3 ⊢
 refine Xa @oM_index_len8 ?_
 exact K_eq hk (by simp)
end
end Go.Proofs
namespace Go.Proofs
open Go Go.Sh Go.RowKit FdSpec
section
variable {K:Value → World → Prop} {w:World}
def dgLoop (vh vl vd:Value) (M:List Value → World → Prop) (x:List Value) (w:World):Prop:=
 (loopM x w (fun J_30 m_31 l u_l w0_l=>(fun w=>(
 oM Tryz.prog (Go.Op.binOp Go.BinOp.geq 139 (.tmp 0) (.tmp 1) 139) 4 [(l.getD 0 undef),(.int .u64 4294967296)] (fun v68_33 w=>
 gdM (gd v68_33 false) (pureM (l.getD 0 undef)) (fun v70_34 w=>
 gdM (gd v68_33 false) (pureM vl) (fun v71_35 w=>
 gdM (gd v68_33 false) (oM Tryz.prog (Go.Op.binOp Go.BinOp.mul 139 (.tmp 0) (.tmp 1) 139) 139 [v70_34,v71_35]) (fun v72_36 w=>
 gdM (gd v68_33 false) (pureM (l.getD 1 undef)) (fun v73_37 w=>
 gdM (gd v68_33 false) (oM Tryz.prog (Go.Op.binOp Go.BinOp.mul 139 (.tmp 0) (.tmp 1) 139) 139 [(.int .u64 4294967296),v73_37]) (fun v74_38 w=>
 gdM (gd v68_33 false) (pureM vd) (fun v75_39 w=>
 gdM (gd v68_33 false) (oM Tryz.prog (Go.Op.binOp Go.BinOp.add 139 (.tmp 0) (.tmp 1) 139) 139 [v74_38,v75_39]) (fun v76_40 w=>
 gdM (gd v68_33 false) (oM Tryz.prog (Go.Op.binOp Go.BinOp.gtr 139 (.tmp 0) (.tmp 1) 139) 4 [v72_36,v76_40]) (fun v77_41 w=>
 oM Tryz.prog (Go.Op.pick (.tmp 0) (.tmp 1) (.tmp 2)) 4 [v68_33,(.bool true),v77_41] (fun v78_42 w=>
 condM v78_42
 (oM Tryz.prog (Go.Op.binOp Go.BinOp.sub 139 (.tmp 0) (.tmp 1) 139) 139 [(l.getD 0 undef),(.int .u64 1)] (fun v80_43 w=>
 oM Tryz.prog (Go.Op.binOp Go.BinOp.add 139 (.tmp 0) (.tmp 1) 139) 139 [(l.getD 1 undef),vh] (fun v83_44 w=>
 oM Tryz.prog (Go.Op.binOp Go.BinOp.geq 139 (.tmp 0) (.tmp 1) 139) 4 [v83_44,(.int .u64 4294967296)] (fun v85_45 w=>
 condM v85_45
 (M [v80_43,v83_44] w)
 (J_30 [v80_43,v83_44] w ∧ m_31 [v80_43,v83_44] w < m_31 l w0_l)) w) w) w)
 (M [(l.getD 0 undef),(l.getD 1 undef)] w)) w) w) w) w) w) w) w) w) w) w)) w0_l))
def DgJ (h l u d:Nat) (w:World) (x:List Value) (w':World):Prop:=w' = w ∧ ∃ q r:Nat,x = [.int .u64 (q:Int),.int .u64 (r:Int)] ∧ Digit h l u d q r ∧ r < 4294967296
theorem dg_ok (h l u d:Nat) (M:List Value → World → Prop) (hh:2147483648 ≤ h) (hh2:h < 4294967296) (hl:l < 4294967296) (hd:d < 4294967296) (hu:u < h * 4294967296 + l)
  (hM:∀ r:Nat,M [.int .u64 (((u * 4294967296 + d) / (h * 4294967296 + l):Nat):Int),.int .u64 (r:Int)] w):dgLoop (.int .u64 (h:Int)) (.int .u64 (l:Int)) (.int .u64 (d:Int)) M [.int .u64 ((u / h:Nat):Int),.int .u64 ((u - u / h * h:Nat):Int)] w:=by
 unfold dgLoop
 refine ⟨DgJ h l u d w,fun x _=>match x with | [.int _ q,_]=>q.toNat | _=>0,⟨rfl,_,_,rfl,digit_start hh hh2 hl hd hu,?_⟩,?_⟩
 ·have h1:=Nat.mod_lt u (show h > 0 by omega)
  have h2:=Nat.div_add_mod u h
  rw [Nat.mul_comm] at h2
  omega
 rintro _ _ w1 ⟨e1,q,r,rfl,D,hr⟩
 rw [e1]
 clear e1 w1
 have hq:=D.le
 have ht:=digit_test D
 have hbig:=fun hb:4294967296 ≤ q=>digit_big hu hd hb
 have hstep:=fun hb=>digit_step D hb
 have hpos:=fun hb=>digit_pos D hb
 have hend:=fun hb=>digit_end D hb
 have hbr:∀ hb,4294967296 ≤ r + h → q - 1 = (u * 4294967296 + d) / (h * 4294967296 + l):=fun hb hg=>digit_end (hstep hb) (digit_break (hstep hb) hl (by omega) hg)
 have hql:q < 4294967296 → q * l < 18446744073709551616:=fun hb=>by
  have:=Nat.mul_le_mul (show q ≤ 4294967295 by omega) (show l ≤ 4294967295 by omega)
  omega
 generalize (u * 4294967296 + d) / (h * 4294967296 + l) = Q at *
 generalize (u * 4294967296 + d < q * (h * 4294967296 + l)) = T at *
 have hmul:(q:Int) * (l:Int) = ((q * l:Nat):Int):=(Int.natCast_mul q l).symm
 generalize q * l = ql at *
 have fin1:(4294967296 ≤ r + h → q - 1 = Q) → 0 < q → 4294967296 ≤ r + h → M [.int .u64 ((q:Int) - 1),.int .u64 ((r:Int) + h)] w:=fun a b c=>by
  rw [show (q:Int) - 1 = ((q - 1:Nat):Int) by omega,show (r:Int) + h = ((r + h:Nat):Int) by omega,a c]; exact hM _
 have fin2:Digit h l u d (q - 1) (r + h) → 0 < q → ¬ 4294967296 ≤ r + h → DgJ h l u d w [.int .u64 ((q:Int) - 1),.int .u64 ((r:Int) + h)] w ∧ ((q:Int) - 1).toNat < (q:Int).toNat:=fun a b c=>by
  rw [show (q:Int) - 1 = ((q - 1:Nat):Int) by omega,show (r:Int) + h = ((r + h:Nat):Int) by omega]
  exact ⟨⟨rfl,_,_,rfl,a,by omega⟩,by omega⟩
 by_cases hb:4294967296 ≤ q
 ·have hT:=hbig hb
  have hst:=hstep hT
  have hps:=hpos hT
  have hbr:=hbr hT
  repeat (any_goals (first
  | (with_reducible first|((refine idGd ?_); ((refine idGdD ?_); refine zJ ?_))|refine yD ?_|((refine idCond ?_); first|refine yL ?_|refine yP (fun hg=>?_) fun hg=>?_))
  | ((with_reducible refine oM_gen fun Kv hK=>?_); simp [go_sem,hb]; (try simp (disch:=omega) only [wrapI64,wrapU8,wrapU32,wrapU64]); refine hK _ _ ?_; clear hK Kv)))
  ·exact fin1 hbr hps (by omega)
  ·exact fin2 hst hps (by omega)
 ·have hql:=hql (by omega)
  by_cases hT:T
  ·have hst:=hstep hT
   have hps:=hpos hT
   have hbr:=hbr hT
   have htt:=ht.2 hT
   repeat (any_goals (first
   | (with_reducible first|refine pureM_in ?_|((refine idGd ?_); ((refine idGdD ?_); refine zI ?_))|refine yE ?_|((refine idCond ?_); first|refine yN ?_|refine yP (fun hg=>?_) fun hg=>?_))
   | ((with_reducible refine oM_gen fun Kv hK=>?_); simp [go_sem,hb,hmul]; (try simp (disch:=omega) only [wrapI64,wrapU8,wrapU32,wrapU64]); refine hK _ _ ?_; clear hK Kv)))
   ·exact fin1 hbr hps (by omega)
   ·exact fin2 hst hps (by omega)
  ·have he:=hend hT
   have htt:¬ _:=fun h=>hT (ht.1 h)
   refine Xg (An2 @hb @hmul) ?_
   simp only [List.getD_cons_zero,List.getD_cons_succ]
   rw [he]
   exact hM _
theorem lead64_ok (x:Nat) (hx:x < 18446744073709551616) (h:∀ L,BitLen x L → K (.int .i64 (64 - (L:Int))) w):callM Tryz.prog 204 #[.int .u64 (x:Int)] K w:=by
 apply sh_204_ok
 unfold sh_204
 refine len64_ok x hx ?_
 intro L hL
 have:=hL.le
 refine Xc0 ?_
 exact h L hL
theorem norm_len (y L:Nat) (hy:0 < y) (hL:BitLen y L):9223372036854775808 ≤ y * 2 ^ (64 - L) ∧ y * 2 ^ (64 - L) < 18446744073709551616:=by
 obtain ⟨a,b⟩:=hL.ge (by omega)
 have h64:=hL.le
 have h1:2 ^ (L - 1) * 2 ^ (64 - L) = 9223372036854775808:=by
  rw [← Nat.pow_add,show L - 1 + (64 - L) = 63 by omega]
 have h2:2 ^ L * 2 ^ (64 - L) = 18446744073709551616:=by
  rw [← Nat.pow_add,show L + (64 - L) = 64 by omega]
 have hp:0 < 2 ^ (64 - L):=Nat.pow_pos (by omega)
 exact ⟨by rw [← h1]; exact Nat.mul_le_mul_right _ b,by rw [← h2]; exact (Nat.mul_lt_mul_right hp).2 hL.lt⟩
theorem norm_top (hi lo s:Nat) (hs:s ≤ 64) (hlo:lo < 18446744073709551616):(hi * 2 ^ s + lo / 2 ^ (64 - s)) * 18446744073709551616 + lo * 2 ^ s % 18446744073709551616 = (hi * 18446744073709551616 + lo) * 2 ^ s ∧ lo / 2 ^ (64 - s) < 2 ^ s:=by
 have h2:2 ^ (64 - s) * 2 ^ s = 18446744073709551616:=by rw [← Nat.pow_add,show 64 - s + s = 64 by omega]
 have hp:0 < 2 ^ s:=Nat.pow_pos (by omega)
 have hq:0 < 2 ^ (64 - s):=Nat.pow_pos (by omega)
 have h3:lo * 2 ^ s / 18446744073709551616 = lo / 2 ^ (64 - s):=by
  rw [← h2,Nat.mul_div_mul_right _ _ hp]
 have h4:=Nat.div_add_mod (lo * 2 ^ s) 18446744073709551616
 refine ⟨?_,?_⟩
 ·rw [h3] at h4
  rw [Nat.add_mul,Nat.add_mul,Nat.mul_right_comm hi,Nat.add_assoc,Nat.mul_comm (lo / _) 18446744073709551616,h4]
 ·rw [Nat.div_lt_iff_lt_mul hq,Nat.mul_comm,h2]; exact hlo
def EqW (w:World) (l:List Value) (w':World):Prop:=w' = w
def DgE (Q:Nat) (w:World) (l:List Value) (w':World):Prop:=w' = w ∧ ∃ r:Nat,l = [.int .u64 (Q:Int),.int .u64 (r:Int)]
theorem left_wrap (X d Y Q U:Nat) (hs:Q * Y + U = X * 4294967296 + d) (hU:U < 18446744073709551616):IntKind.u64.wrap (IntKind.u64.wrap (IntKind.u64.wrap ((X:Int) * 4294967296) + (d:Int)) - IntKind.u64.wrap ((Q:Int) * (Y:Int))) = (U:Int):=by
 have hm:(Q:Int) * (Y:Int) = ((Q * Y:Nat):Int):=(Int.natCast_mul Q Y).symm
 rw [hm]
 generalize Q * Y = P at *
 simp only [IntKind.wrap_u64]
 omega
theorem half_div (X h:Nat) (hX:X < 18446744073709551616) (hh:2147483648 ≤ h):∃ q p r:Nat,X / h = q ∧ q * h = p ∧ X - p = r ∧ p ≤ X ∧ q < 18446744073709551616 ∧ (X:Int).tdiv (h:Int) = (q:Int) ∧ (q:Int) * (h:Int) = (p:Int) ∧ (X:Int) - (p:Int) = (r:Int):=by
 have h1:=Nat.div_mul_le_self X h
 have h2:=Nat.div_le_self X h
 refine ⟨_,_,_,rfl,rfl,rfl,h1,by omega,?_,(Int.natCast_mul _ _).symm,by omega⟩
 rw [Int.tdiv_eq_ediv_of_nonneg (by omega)]; rfl
set_option maxHeartbeats 1000000 in
theorem div64_ok (hi lo y:Nat) (hlt:hi < y) (hy:y < 18446744073709551616) (hlo:lo < 18446744073709551616) (k:∀ (q:Int) w',Below w.heap.size w w' → K (.tuple #[.int .u64 q,.int .u64 (((hi * 18446744073709551616 + lo) % y:Nat):Int)]) w'):callM Tryz.prog 183 #[.int .u64 (hi:Int),.int .u64 (lo:Int),.int .u64 (y:Int)] K w:=by
 apply sh_183_ok
 unfold sh_183
 refine ⟨EqW w,?_,?_⟩
 ·refine Xc0 ?_
  exact rfl
 rintro _ _ w1 e1
 rw [show w1 = w from e1]
 clear e1 w1
 refine ⟨EqW w,?_,?_⟩
 ·refine Xc0 ?_
  exact rfl
 rintro _ _ w1 e1
 rw [show w1 = w from e1]
 clear e1 w1
 by_cases h0:hi = 0
 ·subst h0
  have k0:=k ((lo / y:Nat):Int) _ (Below.drew (Below.refl _ w))
  have t1:((lo:Int).tdiv (y:Int)) = ((lo / y:Nat):Int):=by rw [Int.tdiv_eq_ediv_of_nonneg (by omega)]; rfl
  have t2:((lo:Int).tmod (y:Int)) = ((lo % y:Nat):Int):=by rw [Int.tmod_eq_emod_of_nonneg (by omega)]; rfl
  have t3:=Nat.div_le_self lo y
  simp only [Nat.zero_mul,Nat.zero_add] at k0
  generalize lo / y = a at *
  generalize lo % y = b at *
  refine Xg (An2 @t1 @t2) ?_
  refine quietM_one ?_
  refine Xg (An2 @t1 @t2) ?_
  exact k0
 obtain ⟨s,hs⟩:∃ s,s = 64:=⟨_,rfl⟩
 refine Xc0 ?_
 refine lead64_ok y hy ?_
 intro L hL
 clear s hs
 have hn:=norm_len y L (by omega) hL
 have hL64:=hL.le
 obtain ⟨s,hs⟩:∃ s,s = 64 - L:=⟨_,rfl⟩
 rw [← hs] at hn
 have hs64:s ≤ 64:=by omega
 obtain ⟨hN,hB⟩:=norm_top hi lo s hs64 hlo
 have hres:=norm_rest hi lo y s _ _ hN
 have hAB:hi * 2 ^ s + lo / 2 ^ (64 - s) < y * 2 ^ s:=by
  have:=Nat.mul_le_mul_right (2 ^ s) (show hi + 1 ≤ y by omega)
  rw [Nat.add_mul,Nat.one_mul] at this
  omega
 have hsub:(64:Int) - (L:Int) = (s:Int):=by omega
 have hpow:∀ a:Nat,(a:Int) * 2 ^ s = ((a * 2 ^ s:Nat):Int):=fun a=>by rw [Int.natCast_mul,Int.natCast_pow]; rfl
 have hdiv:∀ a:Nat,(a:Int) / 2 ^ (64 - s) = ((a / 2 ^ (64 - s):Nat):Int):=fun a=>by rw [Int.natCast_ediv,Int.natCast_pow]; rfl
 have hBi:((lo / 2 ^ (64 - s):Nat):Int) < 2 ^ s:=by
  have:=Int.ofNat_lt.2 hB
  rw [Int.natCast_pow] at this
  exact this
 have hor:=or_add64 s (hi:Int) ((lo / 2 ^ (64 - s):Nat):Int) hs64 (Int.natCast_nonneg _) ⟨Int.natCast_nonneg _,hBi⟩
 have hD:lo * 2 ^ s % 18446744073709551616 < 18446744073709551616:=Nat.mod_lt _ (by omega)
 have hDi:((lo * 2 ^ s:Nat):Int) % 18446744073709551616 = ((lo * 2 ^ s % 18446744073709551616:Nat):Int):=by rw [Int.natCast_emod]; rfl
 have hsub2:((64:Int) - (s:Int)).toNat = 64 - s:=by omega
 rw [hpow] at hor
 clear hN hB hBi hL
 generalize lo * 2 ^ s % 18446744073709551616 = D at *
 generalize hlo2:lo * 2 ^ s = lo2 at *
 generalize hA:hi * 2 ^ s = A at *
 generalize hB:lo / 2 ^ (64 - s) = B at *
 generalize hY:y * 2 ^ s = Y at *
 have hor:=hor (by omega)
 have hAm:(A:Int) % 18446744073709551616 = (A:Int):=by omega
 have hYm:(Y:Int) % 18446744073709551616 = (Y:Int):=by omega
 have hpa:=hpow hi
 have hpl:=hpow lo
 have hpy:=hpow y
 have hdl:=hdiv lo
 rw [hA] at hpa
 rw [hlo2] at hpl
 rw [hY] at hpy
 rw [hB] at hdl
 rw [hsub]
 obtain ⟨t,ht⟩:∃ t,t = 64 - s:=⟨_,rfl⟩
 have ht2:(64:Int) - (s:Int) = (t:Int):=by omega
 rw [← ht] at hdl
 have rl:=fun x=>oM_shl64 (P:=Tryz.prog) 139 174 139 .u64 x (s:Int) (by omega) (by omega)
 have rr:=fun x=>oM_shr64 (P:=Tryz.prog) 139 174 139 .u64 x (s:Int) (by omega) (by omega)
 have rt:=fun x=>oM_shr64 (P:=Tryz.prog) 139 174 139 .u64 x (t:Int) (by omega) (by omega)
 simp only [Int.toNat_natCast] at rl rr rt
 obtain ⟨h,hh⟩:∃ h,h = Y / 4294967296:=⟨_,rfl⟩
 obtain ⟨l,hl⟩:∃ l,l = Y % 4294967296:=⟨_,rfl⟩
 obtain ⟨d1,hd1⟩:∃ d1,d1 = D / 4294967296:=⟨_,rfl⟩
 obtain ⟨d0,hd0⟩:∃ d0,d0 = D % 4294967296:=⟨_,rfl⟩
 obtain ⟨X,hX⟩:∃ X,X = A + B:=⟨_,rfl⟩
 have hhi:(Y:Int) / 4294967296 = (h:Int):=by omega
 have hli:bits .and .u64 (Y:Int) 4294967295 = (l:Int):=by rw [maskU Y (by omega),← hl]
 have hd1i:(D:Int) / 4294967296 = (d1:Int):=by omega
 have hd0i:bits .and .u64 (D:Int) 4294967295 = (d0:Int):=by rw [maskU D (by omega),← hd0]
 have hXi:(A:Int) + (B:Int) = (X:Int):=by omega
 have hhl:h * 4294967296 + l = Y:=by omega
 rw [← hX,← hd1,← hd0] at hres
 obtain ⟨q1,p1,r1,e1,e2,e3,e4,e5,e6,e7,e8⟩:=half_div X h (by omega) (by omega)
 obtain ⟨Q,hQ⟩:∃ Q,Q = (X * 4294967296 + d1) / Y:=⟨_,rfl⟩
 obtain ⟨U,hU⟩:∃ U,U = (X * 4294967296 + d1) % Y:=⟨_,rfl⟩
 have hUY:U < Y:=by rw [hU]; exact Nat.mod_lt _ (by omega)
 have dg:=dg_ok (w:=w) h l X d1 (DgE Q w) (by omega) (by omega) (by omega) (by omega) (by omega) (fun r=>⟨rfl,r,by rw [hhl,← hQ]⟩)
 have lw:=left_wrap X d1 Y Q U (by rw [hQ,hU]; exact Nat.div_add_mod' _ _) (by omega)
 obtain ⟨q2,p2,r2,f1,f2,f3,f4,f5,f6,f7,f8⟩:=half_div U h (by omega) (by omega)
 obtain ⟨Q2,hQ2⟩:∃ Q2,Q2 = (U * 4294967296 + d0) / Y:=⟨_,rfl⟩
 obtain ⟨R,hR⟩:∃ R,R = (U * 4294967296 + d0) % Y:=⟨_,rfl⟩
 have hRY:R < Y:=by rw [hR]; exact Nat.mod_lt _ (by omega)
 have dg2:=dg_ok (w:=w) h l U d0 (DgE Q2 w) (by omega) (by omega) (by omega) (by omega) (by omega) (fun r=>⟨rfl,r,by rw [hhl,← hQ2]⟩)
 have lw2:=left_wrap U d0 Y Q2 R (by rw [hQ2,hR]; exact Nat.div_add_mod' _ _) (by omega)
 rw [← hU,← hR] at hres
 rw [e1,e2,e3] at dg
 rw [f1,f2,f3] at dg2
 have hRi:(R:Int) / 2 ^ s = ((R / 2 ^ s:Nat):Int):=by rw [Int.natCast_ediv,Int.natCast_pow]; rfl
 rw [hres] at hRi
 clear hres hR hU hQ hQ2 e1 e2 e3 f1 f2 f3 hh hl hd1 hd0 hX
 refine Xg (An20 @rl @rr @rt @ht2 @hpa @hpl @hpy @hdl @hor @hAm @hYm @hDi @hXi @hhi @hli @hd1i @hd0i @e6 @e7 @e8) ?_
 refine ⟨DgE Q w,dg,?_⟩
 rintro _ _ w1 ⟨e1,r,rfl⟩
 rw [e1]
 clear e1 w1
 refine Xg (An7 @rl @rr @rt @lw @f6 @f7 @f8) ?_
 refine ⟨DgE Q2 w,dg2,?_⟩
 rintro _ _ w1 ⟨e1,r',rfl⟩
 rw [e1]
 clear e1 w1
 refine Xg (An5 @rl @rr @rt @lw2 @hRi) ?_
 exact k _ _ (Below.refl _ _)
end
end Go.Proofs
namespace Go.Proofs
open Go Go.Sh Go.RowKit FdSpec
section
variable {K:Value → World → Prop} {w:World}
theorem rem64_ok (hi lo y:Nat) (hhi:hi < 18446744073709551616) (hy0:0 < y) (hy:y < 18446744073709551616) (hlo:lo < 18446744073709551616) (k:∀ w',Below w.heap.size w w' → K (.int .u64 (((hi * 18446744073709551616 + lo) % y:Nat):Int)) w'):callM Tryz.prog 140 #[.int .u64 (hi:Int),.int .u64 (lo:Int),.int .u64 (y:Int)] K w:=by
 apply sh_140_ok
 unfold sh_140
 have e1:(hi:Int).tmod (y:Int) = ((hi % y:Nat):Int):=by rw [Int.tmod_eq_emod_of_nonneg (by omega)]; rfl
 have e2:(hi % y * 18446744073709551616 + lo) % y = (hi * 18446744073709551616 + lo) % y:=by
  rw [Nat.add_mod,Nat.mul_mod,Nat.mod_mod,← Nat.mul_mod,← Nat.add_mod]
 have hlt:=Nat.mod_lt hi hy0
 rw [← e2] at k
 generalize hi % y = r at *
 refine Xa @e1 ?_
 refine div64_ok r lo y hlt hy hlo ?_
 intro q w1 hb
 refine Xa0 ?_
 exact k _ hb
theorem product_ok (n a b:Int) (hn:okN n) (ha:0 ≤ a ∧ a < n) (hb:0 ≤ b ∧ b < n) (k:∀ w',Below w.heap.size w w' → K (.int .u64 (a * b % n)) w'):callM Tryz.prog 86 #[.int .i64 n,.int .u64 a,.int .u64 b] K w:=by
 apply sh_86_ok
 unfold sh_86
 obtain ⟨h1,h2⟩:=hn
 refine Xa0 ?_
 refine mul64_ok a b ⟨ha.1,by omega⟩ ⟨hb.1,by omega⟩ ?_
 obtain ⟨a,rfl⟩:=natN a ha.1
 obtain ⟨b,rfl⟩:=natN b hb.1
 obtain ⟨n,rfl⟩:=natN n (by omega)
 rw [mulU]
 have hab:a * b < 18446744073709551616 * 18446744073709551616:=Nat.mul_lt_mul'' (by omega) (by omega)
 have e1:((a * b:Nat):Int) / 18446744073709551616 = ((a * b / 18446744073709551616:Nat):Int):=by omega
 have e2:((a * b:Nat):Int) % 18446744073709551616 = ((a * b % 18446744073709551616:Nat):Int):=by omega
 have e3:((a * b % n:Nat):Int) = (a:Int) * (b:Int) % (n:Int):=by rw [Int.natCast_emod,Int.natCast_mul]
 rw [e1,e2]
 have h5:a * b / 18446744073709551616 * 18446744073709551616 + a * b % 18446744073709551616 = a * b:=Nat.div_add_mod' _ _
 have h3:a * b / 18446744073709551616 < 18446744073709551616:=by omega
 have h4:a * b % 18446744073709551616 < 18446744073709551616:=by omega
 rw [← e3,← h5] at k
 generalize a * b / 18446744073709551616 = hi at *
 generalize a * b % 18446744073709551616 = lo at *
 refine Xa0 ?_
 exact rem64_ok hi lo n h3 (by omega) (by omega) h4 k
end
end Go.Proofs
namespace Go.Proofs
open Go Go.Sh Go.RowKit FdSpec
section
variable {K:Value → World → Prop} {w:World}
def PwJ (n R:Int) (w:World) (l:List Value) (w':World):Prop:=Below w.heap.size w w' ∧ ∃ (out a:Int) (b:Nat),l = [.int .u64 out,.int .u64 a,.int .u64 (b:Int)] ∧ (0 ≤ out ∧ out < n) ∧ (0 ≤ a ∧ a < n) ∧ b < 18446744073709551616 ∧ out * a ^ b % n = R
def PwM (n R a:Int) (b:Nat) (w:World) (l:List Value) (w':World):Prop:=Below w.heap.size w w' ∧ ∃ out:Int,l = [.int .u64 out] ∧ (0 ≤ out ∧ out < n) ∧ out * (a * a % n) ^ (b / 2) % n = R
def pwMu (l:List Value) (_:World):Nat:=match l with | [_,_,.int _ b]=>b.toNat | _=>0
theorem pwMu_eq (x y:Value) (k:IntKind) (b:Int) (w:World):pwMu [x,y,.int k b] w = b.toNat:=rfl
theorem power_ok (n a:Int) (b:Nat) (hn:okN n) (ha:0 ≤ a ∧ a < n) (hb:b < 18446744073709551616) (k:∀ w',Below w.heap.size w w' → K (.int .u64 (pw n a b)) w'):callM Tryz.prog 83 #[.int .i64 n,.int .u64 a,.int .u64 (b:Int)] K w:=by
 apply sh_83_ok
 unfold sh_83
 have hn':=hn
 obtain ⟨h1,h2⟩:=hn
 have e1:(1:Int).tmod n = 1 % n:=Int.tmod_eq_emod_of_nonneg (by omega)
 have e2:=Int.emod_nonneg 1 (b:=n) (by omega)
 have e3:=Int.emod_lt_of_pos 1 (b:=n) (by omega)
 have e4:1 % n * a ^ b % n = pw n a b:=by
  rw [Int.mul_emod,Int.emod_emod_of_dvd _ (Int.dvd_refl n),← Int.mul_emod,Int.one_mul]; rfl
 generalize 1 % n = o at *
 refine Xa @e1 ?_
 refine ⟨PwJ n (pw n a b) w,pwMu,⟨Below.refl _ _,o,a,b,rfl,⟨e2,e3⟩,ha,hb,e4⟩,?_⟩
 generalize hR:pw n a b = R at *
 clear e1 e2 e3 e4 o hb ha
 rintro _ _ w1 ⟨hb1,out,x,c,rfl,ho,hx,hc,hinv⟩
 have hz:=hb1.size
 by_cases h0:c = 0
 ·subst h0
  rw [Int.pow_zero,Int.mul_one,Int.emod_eq_of_lt ho.1 ho.2] at hinv
  refine Xa0 ?_
  rw [hinv]
  exact k _ hb1
 ·have hm:bits .and .u64 (c:Int) 1 = ((c % 2:Nat):Int):=by
   rw [mask64 1 c 1 (by omega) (by decide) (by omega)]; omega
  have hsh:(c:Int) / 2 = ((c / 2:Nat):Int):=by omega
  have h1:=pw_even n x out c
  have h3:=pw_odd n x out c
  obtain ⟨m,hm2⟩:∃ m,m = c % 2:=⟨_,rfl⟩
  rw [← hm2] at hm h1 h3
  obtain ⟨d,hd⟩:∃ d,d = c / 2:=⟨_,rfl⟩
  rw [← hd] at hsh h1 h3
  refine Xa0 ?_
  refine ⟨PwM n R x c w,?_,?_⟩
  ·repeat (any_goals (first
   | (with_reducible ((refine idCond ?_); refine yP (fun hg=>?_) fun hg=>?_))
   | ((with_reducible refine oM_gen fun Kv hK=>?_); simp [go_sem,hm]; refine hK _ _ ?_; clear hK Kv)))
   ·refine product_ok n out x hn' ho hx ?_
    intro w2 hb2
    skip
    refine ⟨hb1.trans (hb2.mono hz),_,rfl,⟨Int.emod_nonneg _ (by omega),Int.emod_lt_of_pos _ (by omega)⟩,?_⟩
    rw [← hd,h3 (by omega)]; exact hinv
   ·refine ⟨hb1,_,rfl,ho,?_⟩
    rw [← hd,h1 (by omega)]; exact hinv
  ·rintro _ _ w2 ⟨hb2,out',rfl,ho',hi'⟩
   have hz2:=hb2.size
   refine product_ok n x x hn' hx hx ?_
   intro w3 hb3
   refine Xa @hsh ?_
   refine ⟨⟨hb2.trans (hb3.mono hz2),_,_,_,rfl,ho',⟨Int.emod_nonneg _ (by omega),Int.emod_lt_of_pos _ (by omega)⟩,by omega,by rw [hd]; exact hi'⟩,?_⟩
   simp only [pwMu_eq]
   omega
theorem Add_ok (n a b:Int) (h:K (.int .i64 (addM n a b)) w):callM Tryz.prog 26 #[.int .i64 n,.int .i64 a,.int .i64 b] K w:=by
 apply sh_26_ok
 unfold sh_26
 refine valid_ok n ?_
 by_cases hn:okN n
 ·have hn':=hn
  obtain ⟨h1,h2⟩:=hn'
  have ha:=Int.emod_nonneg a (b:=n) (by omega)
  have ha2:=Int.emod_lt_of_pos a (b:=n) (by omega)
  have hb:=Int.emod_nonneg b (b:=n) (by omega)
  have hb2:=Int.emod_lt_of_pos b (b:=n) (by omega)
  have e:=addM_eq n a b hn
  have e2:=addM_range n a b hn
  have e1:(a % n + b % n).tmod n = (a % n + b % n) % n:=Int.tmod_eq_emod_of_nonneg (by omega)
  rw [e] at e1
  refine Xa @hn ?_
  refine residue_ok n a hn ?_
  refine residue_ok n b hn ?_
  generalize a % n = x at *
  generalize b % n = y at *
  generalize addM n a b = z at *
  refine Xa @e1 ?_
  exact h
 ·rw [addM,if_neg hn] at h
  refine Xa @hn ?_
  exact h
theorem Sub_ok (n a b:Int) (h:K (.int .i64 (subM n a b)) w):callM Tryz.prog 28 #[.int .i64 n,.int .i64 a,.int .i64 b] K w:=by
 apply sh_28_ok
 unfold sh_28
 refine valid_ok n ?_
 by_cases hn:okN n
 ·have hn':=hn
  obtain ⟨h1,h2⟩:=hn'
  have ha:=Int.emod_nonneg a (b:=n) (by omega)
  have ha2:=Int.emod_lt_of_pos a (b:=n) (by omega)
  have hb:=Int.emod_nonneg b (b:=n) (by omega)
  have hb2:=Int.emod_lt_of_pos b (b:=n) (by omega)
  have e:=subM_eq n a b hn
  have e2:=subM_range n a b hn
  have e1:(a % n + n - b % n).tmod n = (a % n + n - b % n) % n:=Int.tmod_eq_emod_of_nonneg (by omega)
  rw [e] at e1
  refine Xa @hn ?_
  refine residue_ok n a hn ?_
  refine Xa0 ?_
  refine residue_ok n b hn ?_
  generalize a % n = x at *
  generalize b % n = y at *
  generalize subM n a b = z at *
  refine Xa @e1 ?_
  exact h
 ·rw [subM,if_neg hn] at h
  refine Xa @hn ?_
  exact h
theorem Mul_ok (n a b:Int) (k:∀ w',Below w.heap.size w w' → K (.int .i64 (mulM n a b)) w'):callM Tryz.prog 27 #[.int .i64 n,.int .i64 a,.int .i64 b] K w:=by
 apply sh_27_ok
 unfold sh_27
 refine valid_ok n ?_
 by_cases hn:okN n
 ·have hn':=hn
  obtain ⟨h1,h2⟩:=hn'
  have ha:=Int.emod_nonneg a (b:=n) (by omega)
  have ha2:=Int.emod_lt_of_pos a (b:=n) (by omega)
  have hb:=Int.emod_nonneg b (b:=n) (by omega)
  have hb2:=Int.emod_lt_of_pos b (b:=n) (by omega)
  have e:=mulM_eq n a b hn
  have e2:=mulM_range n a b hn
  refine Xa @hn ?_
  refine residue_ok n a hn ?_
  refine residue_ok n b hn ?_
  refine product_ok n _ _ hn ⟨ha,ha2⟩ ⟨hb,hb2⟩ ?_
  intro w1 hb1
  rw [e]
  have k:=k w1 hb1
  generalize mulM n a b = z at *
  refine Xa0 ?_
  exact k
 ·rw [mulM,if_neg hn] at k
  refine Xa @hn ?_
  exact k _ (Below.refl _ _)
end
end Go.Proofs
namespace Go.Proofs
open Go Go.Sh Go.RowKit FdSpec
section
variable {K:Value → World → Prop} {w:World}
def InJ (n:Int) (E:Int × Int) (w:World) (l:List Value) (w':World):Prop:=Below w.heap.size w w' ∧ ∃ (v:Value) (r s x y:Int),l = [v,.int .i64 r,.int .i64 s,.int .i64 x,.int .i64 y] ∧ (0 ≤ s ∧ s < n) ∧ (0 ≤ r ∧ r ≤ n) ∧ (0 ≤ x ∧ x < 2305843009213693952) ∧ (0 ≤ y ∧ y < 2305843009213693952) ∧ eucAll n r s x y = E
def inMu (l:List Value) (_:World):Nat:=match l with | [_,_,.int _ s,_,_]=>s.toNat | _=>0
theorem inMu_eq (v r x y:Value) (k:IntKind) (s:Int) (w:World):inMu [v,r,.int k s,x,y] w = s.toNat:=rfl
theorem eucAll_zero (n r x y:Int):eucAll n r 0 x y = (r,x):=euc_zero n _ r x y
theorem Inv_ok (n a:Int) (k:∀ w',Below w.heap.size w w' → K (.tuple #[.int .i64 ((invM n a).getD 0),.bool (invM n a).isSome]) w'):callM Tryz.prog 172 #[.int .i64 n,.int .i64 a] K w:=by
 apply sh_172_ok
 unfold sh_172
 refine valid_ok n ?_
 by_cases hn:okN n
 ·have hn':=hn
  obtain ⟨h1,h2⟩:=hn'
  have ha:=Int.emod_nonneg a (b:=n) (by omega)
  have ha2:=Int.emod_lt_of_pos a (b:=n) (by omega)
  have kk:∀ r x w',(r,x) = eucAll n n (a % n) 0 1 → Below w.heap.size w w' → K (.tuple #[.int .i64 (if r = 1 then x % n else 0),.bool (decide (r = 1))]) w':=fun r x w' e hb=>by
   have k:=k w' hb
   unfold invM at k
   rw [if_pos hn,← e] at k
   by_cases hr:r = 1
   ·simpa [hr] using k
   ·simpa [hr] using k
  clear k
  refine Xa @hn ?_
  refine residue_ok n a hn ?_
  generalize a % n = s0 at *
  generalize hE:eucAll n n s0 0 1 = E at *
  refine Xa0 ?_
  refine ⟨InJ n E w,inMu,⟨Below.refl _ _,_,n,s0,0,1,rfl,⟨ha,ha2⟩,⟨by omega,by omega⟩,⟨by omega,by omega⟩,⟨by omega,by omega⟩,hE⟩,?_⟩
  clear hE ha ha2 s0
  rintro _ _ w1 ⟨hb1,v,r,s,x,y,rfl,hs,hr,hx,hy,he⟩
  have hz:=hb1.size
  by_cases h0:s = 0
  ·subst h0
   rw [eucAll_zero] at he
   have kk:=kk r x w1 he hb1
   have e1:x.tmod n = x % n:=Int.tmod_eq_emod_of_nonneg hx.1
   by_cases hr1:r = 1
   ·simp only [hr1] at kk
    refine Xa (An2 @hr1 @e1) ?_
    simpa using kk
   ·simp only [hr1] at kk
    refine Xa @hr1 ?_
    simpa using kk
  ·rw [euc_step n r s x y (by omega)] at he
   have q1:r.tdiv s = r / s:=Int.tdiv_eq_ediv_of_nonneg hr.1
   have q2:=Int.emod_add_mul_ediv r s
   have q3:=Int.emod_nonneg r (b:=s) (by omega)
   have q4:=Int.emod_lt_of_pos r (b:=s) (by omega)
   have q5:0 ≤ r / s:=Int.ediv_nonneg hr.1 hs.1
   have q6:r / s ≤ r:=Int.ediv_le_self _ hr.1
   have q7:r / s * s = r - r % s:=by rw [Int.mul_comm]; omega
   have m1:=mulM_range n (r / s) y hn
   have m2:=subM_range n x (mulM n (r / s) y) hn
   generalize r % s = t at *
   generalize r / s = q at *
   clear q2
   have q8:r - (r - t) = t:=by omega
   refine Xa (An3 @q1 @q7 @q8) ?_
   refine Mul_ok n q y (fun w2 hb2=>?_)
   refine Sub_ok n x _ ?_
   generalize subM n x (mulM n q y) = z at *
   refine Xa0 ?_
   refine ⟨⟨hb1.trans (hb2.mono hz),_,s,t,y,z,rfl,⟨q3,by omega⟩,⟨hs.1,by omega⟩,hy,⟨m2.1,by omega⟩,he⟩,?_⟩
   simp only [inMu_eq]
   omega
 ·have k:=k _ (Below.refl _ _)
  unfold invM at k
  rw [if_neg hn] at k
  refine Xa @hn ?_
  exact k
theorem Pow_ok (n a b:Int) (hbr:-9223372036854775808 ≤ b ∧ b < 9223372036854775808) (k:∀ w',Below w.heap.size w w' → K (.int .i64 (powM n a b)) w'):callM Tryz.prog 127 #[.int .i64 n,.int .i64 a,.int .i64 b] K w:=by
 apply sh_127_ok
 unfold sh_127
 refine valid_ok n ?_
 unfold powM at k
 by_cases hn:okN n
 ·have hn':=hn
  obtain ⟨h1,h2⟩:=hn'
  rw [if_pos hn] at k
  by_cases h0:0 ≤ b
  ·rw [if_pos h0] at k
   have ha:=Int.emod_nonneg a (b:=n) (by omega)
   have ha2:=Int.emod_lt_of_pos a (b:=n) (by omega)
   obtain ⟨c,rfl⟩:=natN b h0
   rw [Int.toNat_natCast,← pw_emod] at k
   refine Xa @hn ?_
   refine residue_ok n a hn ?_
   generalize a % n = x at *
   refine Xa0 ?_
   refine power_ok n x c hn ⟨ha,ha2⟩ (by omega) (fun w1 hb1=>?_)
   have hr:=pw_nonneg n x c (by omega)
   have k:=k w1 hb1
   generalize pw n x c = z at *
   refine Xa0 ?_
   exact k
  ·rw [if_neg h0] at k
   refine Xa @hn ?_
   refine Inv_ok n a (fun w1 hb1=>?_)
   have hz:=hb1.size
   cases hi:invM n a with
   | none=>
    rw [hi] at k
    have k:=k w1 hb1
    refine Xa0 ?_
    exact k
   | some x=>
    rw [hi] at k
    have hx:0 ≤ x ∧ x < n:=by
     unfold invM at hi
     rw [if_pos hn] at hi
     split at hi
     ·cases hi; exact ⟨Int.emod_nonneg _ (by omega),Int.emod_lt_of_pos _ (by omega)⟩
     ·cases hi
    obtain ⟨c,hc⟩:=natN (-b) (by omega)
    rw [hc,Int.toNat_natCast] at k
    have hw:IntKind.u64.wrap (-(IntKind.u64.wrap b)) = (c:Int):=by
     simp only [IntKind.wrap_u64]; omega
    have hw2:b % 18446744073709551616 = b + 18446744073709551616:=by omega
    simp only [Option.getD_some,Option.isSome_some]
    refine Xa @hw ?_
    refine power_ok n x c hn hx (by omega) (fun w2 hb2=>?_)
    have hr:=pw_nonneg n x c (by omega)
    have k:K (.int .i64 (pw n x c)) w2:=k w2 (hb1.trans (hb2.mono hz))
    generalize pw n x c = z at *
    refine Xa0 ?_
    exact k
 ·rw [if_neg hn] at k
  refine Xa @hn ?_
  exact k _ (Below.refl _ _)
end
end Go.Proofs
namespace Go.Proofs
open Go Go.Sh Go.RowKit FdSpec
section
variable {K:Value → World → Prop} {w:World}
def DbT (w:World):Prop:=2 < w.heap.size ∧ ∀ j,j < 64 → w.cell? ⟨2,j,none⟩ = some (.int .u8 (Lib.deBruijn64tab.getD j 0:Nat))
theorem DbT.below {w w':World} {B:Nat} (h:DbT w) (hb:Below B w w') (hB:w.heap.size ≤ B):DbT w':=
 ⟨Nat.lt_of_lt_of_le h.1 hb.size,fun j hj=>by rw [hb.cell (show 2 < B from Nat.lt_of_lt_of_le h.1 hB)]; exact h.2 j hj⟩
theorem tz_ctz (k m:Nat):tz k m = Lib.ctzFrom k m:=by
 induction k generalizing m with
 | zero=>rfl
 | succ k ih=>
  unfold tz Lib.ctzFrom
  rw [ih]
  by_cases h:m % 2 = 0
  ·rw [if_pos h,if_neg (by omega),Nat.add_comm]
  ·rw [if_neg h,if_pos (by omega)]
theorem tz_key (q:Nat):IntKind.u64.wrap ((q:Int) * 285870213051353865) / 288230376151711744 = ((q * 285870213051353865 % 18446744073709551616 / 288230376151711744:Nat):Int):=by
 rw [IntKind.wrap_u64]; omega
theorem idx_tab {j:Nat} (hj:j < 64) (w:World):(Instr.indexAt 243 (.pointer (some ⟨2,0,none⟩)) (.int .u64 j)).run Tryz.prog w = .ok (.pointer (some ⟨2,j,none⟩)) w:=by
 rw [run_indexAt_array (h:=by kernel_rfl)]
 have hs:(sizeOf (Tryz.prog.elem 243)).run Tryz.prog w = .ok 1 w:=by kernel_rfl
 have hl:Tryz.prog.arrayLen 243 = 64:=by kernel_rfl
 rw [hl,if_pos (by omega),hs]
 simp only [Result.andThen,Int.toNat_natCast,add_none,Nat.zero_add,Nat.mul_one]
theorem tz64_ok (x:Nat) (hx0:0 < x) (hx:x < 18446744073709551616) (hT:DbT w) (h:K (.int .i64 (tz 64 x:Nat)) w):callM Tryz.prog 220 #[.int .u64 (x:Int)] K w:=by
 apply sh_220_ok
 unfold sh_220
 obtain ⟨hlow,hk⟩:=Lib.lowest_bit 64 x (by omega) (by omega)
 obtain ⟨hi,htab⟩:=Lib.deBruijn64_at _ hk
 have e0:Lib.ctz 64 x = tz 64 x:=by rw [tz_ctz,Lib.ctz,if_neg (by omega)]
 rw [e0] at hlow htab hi
 have e1:IntKind.u64.wrap (-(x:Int)) = ((18446744073709551616 - x:Nat):Int):=by rw [IntKind.wrap_u64]; omega
 have e2:bits .and .u64 (x:Int) ((18446744073709551616 - x:Nat):Int) = ((2 ^ tz 64 x:Nat):Int):=by
  rw [bits_and64 _ _ (by omega) (by omega),Int.toNat_natCast,Int.toNat_natCast]
  exact congrArg _ hlow
 have e3:=tz_key (2 ^ tz 64 x)
 have hc:=hT.2 _ hi
 rw [htab] at hc
 have hix:=idx_tab hi w
 generalize 2 ^ tz 64 x * 285870213051353865 % 18446744073709551616 / 288230376151711744 = j at *
 generalize (2 ^ tz 64 x:Nat) = q at *
 have hk2:tz 64 x < 64:=by rw [← e0]; exact hk
 generalize tz 64 x = t at *
 repeat (any_goals (first
 | (rw [oM_indexAddr,hix,rM_ok])
 | (with_reducible refine yO ?_)
 | ((with_reducible refine oM_gen fun Kv hK=>?_); simp [go_sem,e1,e2,e3,hc]; (try simp (disch:=omega) only [wrapI64,wrapU8,wrapU32,wrapU64]); refine hK _ _ ?_; clear hK Kv)))
 exact h
end
end Go.Proofs
namespace Go.Proofs
open Go Go.Sh Go.RowKit FdSpec
section
variable {K:Value → World → Prop} {w:World}
def WiJ (n:Int) (k:Nat) (R:Bool) (w:World) (l:List Value) (w':World):Prop:=Below w.heap.size w w' ∧ ∃ (v:Value) (x:Int) (i:Nat),l = [v,.int .u64 x,.int .i64 (i:Int)] ∧ i ≤ k ∧ (0 ≤ x ∧ x < n) ∧ mrUp n (k - i) x = R
def wiMu (k:Nat) (l:List Value) (_:World):Nat:=match l with | [_,_,.int _ i]=>k - i.toNat | _=>0
theorem wiMu_eq (k:Nat) (x y:Value) (q:IntKind) (i:Int) (w:World):wiMu k [x,y,.int q i] w = k - i.toNat:=rfl
theorem witness_ok (n b:Int) (hn:okN n) (h2:2 ≤ n) (hb:0 ≤ b ∧ b < n) (hT:DbT w) (k:∀ w',Below w.heap.size w w' → K (.bool (!passes n b)) w'):callM Tryz.prog 202 #[.int .i64 n,.int .u64 b] K w:=by
 apply sh_202_ok
 unfold sh_202
 have hn':=hn
 obtain ⟨h1,h3⟩:=hn'
 obtain ⟨m,hm⟩:=natN (n - 1) (by omega)
 have hm2:(n - 1).toNat = m:=by omega
 have ht:=tz_lt 64 m (by omega) (by omega)
 obtain ⟨t,htt⟩:∃ t,t = tz 64 m:=⟨_,rfl⟩
 have ht64:t < 64:=by rw [htt]; exact ht.1
 clear ht
 have hsh:((m:Int)) / 2 ^ t = ((m / 2 ^ t:Nat):Int):=by rw [Int.natCast_ediv,Int.natCast_pow]; rfl
 have hdl:=Nat.div_le_self m (2 ^ t)
 have rr:=fun x=>oM_shr64 (P:=Tryz.prog) 139 3 139 .i64 x (t:Int) (by omega) (by omega)
 simp only [Int.toNat_natCast] at rr
 refine Xa @hm ?_
 refine tz64_ok m (by omega) (by omega) hT ?_
 rw [← htt]
 obtain ⟨d,hd⟩:∃ d,d = m / 2 ^ t:=⟨_,rfl⟩
 rw [← hd] at hsh hdl
 have k:∀ w',Below w.heap.size w w' → K (.bool (!(if pw n b d = 1 then true else mrUp n t (pw n b d)))) w':=by
  rw [hd,htt,← hm2]; exact k
 have hp:=pw_nonneg n b d (by omega)
 refine Xa (An3 @hm @rr @hsh) ?_
 refine power_ok n b d hn hb (by omega) (fun w1 hb1=>?_)
 generalize pw n b d = x at *
 have hz:=hb1.size
 by_cases hx1:x = 1
 ·have k:K (.bool false) w1:=by
   have k:=k w1 hb1
   rw [if_pos hx1] at k
   exact k
  rw [hx1]
  clear rr hsh hdl
  refine Xa0 ?_
  exact k
 ·have k:∀ w',Below w.heap.size w w' → K (.bool (!mrUp n t x)) w':=fun w' hb=>by
   have k:=k w' hb
   rw [if_neg hx1] at k
   exact k
  clear rr hsh hdl
  refine Xa @hx1 ?_
  refine ⟨WiJ n t (mrUp n t x) w,wiMu t,⟨hb1,_,x,0,rfl,by omega,hp,rfl⟩,?_⟩
  generalize mrUp n t x = R at *
  clear hp hx1 hb1 hz w1
  rintro _ _ w1 ⟨hb1,v,y,i,rfl,hi,hx,hR⟩
  have hz:=hb1.size
  by_cases hit:i = t
  ·subst hit
   rw [Nat.sub_self] at hR
   have hR2:R = false:=by rw [← hR]; rfl
   subst hR2
   refine Xa0 ?_
   exact k _ hb1
  ·obtain ⟨j,hj⟩:∃ j,t - i = j + 1:=⟨t - i - 1,by omega⟩
   rw [hj] at hR
   unfold mrUp at hR
   by_cases hxn:y = n - 1
   ·rw [if_pos hxn] at hR
    subst hR
    have k:=k _ hb1
    rw [hm] at hxn
    refine Xa (An2 @hm @hxn) ?_
    simpa using k
   ·rw [if_neg hxn] at hR
    rw [hm] at hxn
    refine Xa (An2 @hm @hxn) ?_
    refine product_ok n y y hn hx hx (fun w2 hb2=>?_)
    refine Xa0 ?_
    refine ⟨⟨hb1.trans (hb2.mono hz),_,_,i + 1,rfl,by omega,⟨Int.emod_nonneg _ (by omega),Int.emod_lt_of_pos _ (by omega)⟩,?_⟩,?_⟩
    ·rw [show t - (i + 1) = j by omega]; exact hR
    ·simp only [wiMu_eq]; omega
end
end Go.Proofs
namespace Go.Proofs
open Go Go.Sh Go.RowKit FdSpec
section
variable {K:Value → World → Prop} {w:World}
def smallV:Array Value:=#[.int .i64 2,.int .i64 3,.int .i64 5,.int .i64 7,.int .i64 11,.int .i64 13,.int .i64 17,.int .i64 19,.int .i64 23,.int .i64 29,.int .i64 31,.int .i64 37]
def PrJ (n:Int) (W:World) (l:List Value) (w':World):Prop:=w' = W ∧ ∃ (v u:Value) (i:Nat),l = [v,u,.int .i64 (i:Int)] ∧ i ≤ 12 ∧ smallP.find? (fun p=>decide (n % p = 0)) = (smallP.drop i).find? (fun p=>decide (n % p = 0))
def PrJ2 (n:Int) (W:World) (l:List Value) (w':World):Prop:=Below W.heap.size W w' ∧ ∃ (v u:Value) (i:Nat),l = [v,u,.int .i64 (i:Int)] ∧ i ≤ 12 ∧ smallP.all (fun p=>passes n p) = (smallP.drop i).all (fun p=>passes n p)
def prMu (l:List Value) (_:World):Nat:=match l with | [_,_,.int _ i]=>12 - i.toNat | _=>0
theorem prMu_eq (x y:Value) (q:IntKind) (i:Int) (w:World):prMu [x,y,.int q i] w = 12 - i.toNat:=rfl
theorem small_at (i:Nat) (hi:i < 12):∃ p,(∀ w,(Instr.index 220 (.agg smallV) (.int .i64 (i:Int))).run Tryz.prog w = .ok (.int .i64 p) w) ∧ smallP.drop i = p :: smallP.drop (i + 1) ∧ 2 ≤ p ∧ p ≤ 37:=by
 rcases i with _ | _ | _ | _ | _ | _ | _ | _ | _ | _ | _ | _ | i
 ·exact ⟨2,fun w=>by kernel_rfl,rfl,by decide,by decide⟩
 ·exact ⟨3,fun w=>by kernel_rfl,rfl,by decide,by decide⟩
 ·exact ⟨5,fun w=>by kernel_rfl,rfl,by decide,by decide⟩
 ·exact ⟨7,fun w=>by kernel_rfl,rfl,by decide,by decide⟩
 ·exact ⟨11,fun w=>by kernel_rfl,rfl,by decide,by decide⟩
 ·exact ⟨13,fun w=>by kernel_rfl,rfl,by decide,by decide⟩
 ·exact ⟨17,fun w=>by kernel_rfl,rfl,by decide,by decide⟩
 ·exact ⟨19,fun w=>by kernel_rfl,rfl,by decide,by decide⟩
 ·exact ⟨23,fun w=>by kernel_rfl,rfl,by decide,by decide⟩
 ·exact ⟨29,fun w=>by kernel_rfl,rfl,by decide,by decide⟩
 ·exact ⟨31,fun w=>by kernel_rfl,rfl,by decide,by decide⟩
 ·exact ⟨37,fun w=>by kernel_rfl,rfl,by decide,by decide⟩
 ·omega
theorem build_small:oM Tryz.prog (Go.Op.build 220 #[(0,(.tmp 0)),(1,(.tmp 1)),(2,(.tmp 2)),(3,(.tmp 3)),(4,(.tmp 4)),(5,(.tmp 5)),(6,(.tmp 6)),(7,(.tmp 7)),(8,(.tmp 8)),(9,(.tmp 9)),(10,(.tmp 10)),(11,(.tmp 11))]) 220 smallV.toList = pureM (.agg smallV):=by
 funext K w
 kernel_rfl
theorem Prime_ok (n:Int) (hT:DbT w) (k:∀ w',Below w.heap.size w w' → K (.bool (primeM n)) w'):callM Tryz.prog 179 #[.int .i64 n] K w:=by
 apply sh_179_ok
 unfold sh_179
 unfold primeM at k
 by_cases h1:n < 2
 ·rw [if_pos (.inl h1)] at k
  refine Xa @h1 ?_
  exact k _ (Below.refl _ _)
 by_cases h2:2305843009213693952 ≤ n
 ·rw [if_pos (.inr h2)] at k
  refine Xa (An2 @h1 @h2) ?_
  exact k _ (Below.refl _ _)
 rw [if_neg (by omega)] at k
 have hn:okN n:=⟨by omega,by omega⟩
 refine Xa (An2 @h1 @h2) ?_
 have bs:=build_small
 unfold smallV at bs
 simp only at bs
 refine Xa @bs ?_
 clear bs
 have hbW:Below w.heap.size w (w.alloc (Obj.cells #[.int .i64 2,.int .i64 3,.int .i64 5,.int .i64 7,.int .i64 11,.int .i64 13,.int .i64 17,.int .i64 19,.int .i64 23,.int .i64 29,.int .i64 31,.int .i64 37] 220)):=(Below.refl _ _).alloc (Nat.le_refl _) _
 have hTW:DbT (w.alloc (Obj.cells #[.int .i64 2,.int .i64 3,.int .i64 5,.int .i64 7,.int .i64 11,.int .i64 13,.int .i64 17,.int .i64 19,.int .i64 23,.int .i64 29,.int .i64 31,.int .i64 37] 220)):=hT.below hbW (Nat.le_refl _)
 refine ⟨PrJ n (w.alloc (Obj.cells #[.int .i64 2,.int .i64 3,.int .i64 5,.int .i64 7,.int .i64 11,.int .i64 13,.int .i64 17,.int .i64 19,.int .i64 23,.int .i64 29,.int .i64 31,.int .i64 37] 220)),prMu,⟨rfl,_,_,0,rfl,by omega,rfl⟩,?_⟩
 rintro _ _ w1 ⟨e1,v,u,i,rfl,hi,hf⟩
 rw [e1]
 clear e1 w1
 by_cases h12:i = 12
 ·subst h12
  rw [show smallP.drop 12 = [] from rfl,List.find?_nil] at hf
  rw [hf] at k
  simp only at k
  have hnd:=List.find?_eq_none.1 hf
  have hbig:37 < n:=by
   have g:∀ p ∈ smallP,¬ n % p = 0:=fun p hp=>by simpa using hnd p hp
   have hs:∀ m:Nat,m < 38 → 2 ≤ m → ∃ p ∈ smallP,(m:Int) % p = 0:=by decide +kernel
   obtain ⟨m,rfl⟩:=natN n (by omega)
   by_cases hm:m < 38
   ·obtain ⟨p,hp,hp0⟩:=hs m hm (by omega)
    exact absurd hp0 (g p hp)
   ·omega
  clear hnd hf
  refine Xa0 ?_
  refine ⟨PrJ2 n (w.alloc (Obj.cells #[.int .i64 2,.int .i64 3,.int .i64 5,.int .i64 7,.int .i64 11,.int .i64 13,.int .i64 17,.int .i64 19,.int .i64 23,.int .i64 29,.int .i64 31,.int .i64 37] 220)),prMu,⟨Below.refl _ _,_,_,0,rfl,by omega,rfl⟩,?_⟩
  rintro _ _ w2 ⟨hb2,v2,u2,i,rfl,hi2,hall⟩
  have hb3:=hbW.trans (hb2.mono (by simp))
  have hT2:DbT w2:=hTW.below hb2 (Nat.le_refl _)
  by_cases hi12:i = 12
  ·subst hi12
   rw [show smallP.drop 12 = [] from rfl,List.all_nil] at hall
   rw [hall] at k
   refine Xa0 ?_
   exact k _ hb3
  ·obtain ⟨p,hix,hdr,hp2,hp37⟩:=small_at i (by omega)
   unfold smallV at hix
   rw [hdr,List.all_cons] at hall
   have hz2:=hb2.size
   refine Xa @hix ?_
   refine witness_ok n p hn (by omega) ⟨by omega,by omega⟩ hT2 (fun w3 hb4=>?_)
   cases hps:passes n p with
   | false=>
    rw [hps,Bool.false_and] at hall
    rw [hall] at k
    simp only [Bool.not_false]
    refine Xa0 ?_
    exact k _ (hb3.trans (hb4.mono hb3.size))
   | true=>
    rw [hps,Bool.true_and] at hall
    simp only [Bool.not_true]
    refine Xa0 ?_
    refine ⟨⟨hb2.trans (hb4.mono hz2),_,_,i + 1,rfl,by omega,hall⟩,?_⟩
    simp only [prMu_eq]; omega
 ·obtain ⟨p,hix,hdr,hp2,hp37⟩:=small_at i (by omega)
  unfold smallV at hix
  rw [hdr] at hf
  have er:n.tmod p = n % p:=Int.tmod_eq_emod_of_nonneg (by omega)
  by_cases hd:n % p = 0
  ·rw [List.find?_cons_of_pos (by simpa using hd)] at hf
   rw [hf] at k
   have k:=k _ hbW
   simp only at k
   refine Xa (An3 @hix @er @hd) ?_
   exact k
  ·rw [List.find?_cons_of_neg (by simpa using hd)] at hf
   refine Xa (An3 @hix @er @hd) ?_
   refine ⟨⟨rfl,_,_,i + 1,rfl,by omega,hf⟩,?_⟩
   simp only [prMu_eq]; omega
end
end Go.Proofs
namespace Go.Proofs
open Go Go.Sh Go.RowKit FdSpec
section
variable {K:Value → World → Prop} {w:World}
@[reducible] def grpV (g:Grp):Value:=.agg #[.int .i64 g.P,.int .i64 g.Q,.int .i64 g.G]
def GrpR (g:Grp):Prop:=I64 g.P ∧ I64 g.Q ∧ I64 g.G
theorem validG_not {g:Grp} (h:g.Q < 5 ∨ 1152921504606846976 ≤ g.Q ∨ g.P ≠ 2 * g.Q + 1 ∨ g.G < 2 ∨ g.P ≤ g.G):validG g = false:=by
 unfold validG; rw [if_pos h]
theorem validG_yes {g:Grp} (h:¬ (g.Q < 5 ∨ 1152921504606846976 ≤ g.Q ∨ g.P ≠ 2 * g.Q + 1 ∨ g.G < 2 ∨ g.P ≤ g.G)):validG g = (primeM g.Q && primeM g.P && decide (pw g.P g.G g.Q.toNat = 1)):=by
 unfold validG; rw [if_neg h]
theorem box_grp {T T':TypeId} (g:Grp) (k:∀ b W,Below w.heap.size w W → w.heap.size ≤ b → (∀ w',Below W.heap.size W w' → w'.cell? ⟨b,0,none⟩ = some (.int .i64 g.P)) → (∀ w',Below W.heap.size W w' → w'.cell? ⟨b,1,none⟩ = some (.int .i64 g.Q)) → (∀ w',Below W.heap.size W w' → w'.cell? ⟨b,2,none⟩ = some (.int .i64 g.G)) → K (.pointer (some ⟨b,0,none⟩)) W):oM Tryz.prog (.box T (.tmp 0)) T' [grpV g] K w:=
 box_in (cs:=[.int .i64 g.P,.int .i64 g.Q,.int .i64 g.G]) rfl fun b W h1 h2 hB=>k b W h1 h2 (fun w' h=>hB w' h 0 _ rfl) (fun w' h=>hB w' h 1 _ rfl) (fun w' h=>hB w' h 2 _ rfl)
set_option maxHeartbeats 2000000 in
theorem ValidGroup_ok (g:Grp) (hg:GrpR g) (hT:DbT w) (k:∀ w',Below w.heap.size w w' → K (.bool (validG g)) w'):callM Tryz.prog 131 #[grpV g] K w:=by
 apply sh_131_ok
 unfold sh_131
 refine box_grp g fun b W hW hb c0 c1 c2=>?_
 have n1:=validG_not (g:=g)
 have n2:=validG_yes (g:=g)
 obtain ⟨P,Q,G⟩:=g
 obtain ⟨hP,hQ,hG⟩:=hg
 unfold I64 at hP hQ hG
 simp only at hP hQ hG n1 n2 c0 c1 c2
 have hr:=Below.refl W.heap.size W
 have hTW:DbT W:=hT.below hW (Nat.le_refl _)
 have k1:∀ w',validG ⟨P,Q,G⟩ = false → Below W.heap.size W w' → K (.bool false) w':=fun w' e hb=>by rw [e] at k; exact k w' (hW.on hb)
 have k2:∀ w' v,validG ⟨P,Q,G⟩ = v → Below W.heap.size W w' → K (.bool v) w':=fun w' v e hb=>by rw [e] at k; exact k w' (hW.on hb)
 clear k
 repeat (any_goals (first
 | (with_reducible first|((refine idGd ?_); first|refine zD ?_|((refine idGdD ?_); first|refine zI ?_|refine zJ ?_|refine zK (fun hg=>?_) fun hg=>?_)|((refine idGdN ?_); first|refine zO ?_|refine zP ?_|refine zQ (fun hg=>?_) fun hg=>?_))|((refine idPick ?_); first|refine yB ?_|refine yD ?_|refine yE ?_|refine yF ?_|refine yG ?_)|((refine idCond ?_); first|refine yL ?_|refine yP (fun hg=>?_) fun hg=>?_))
 | ((with_reducible refine oM_gen fun Kv hK=>?_); simp [go_sem,c0,c1,c2,hr]; (try simp (disch:=omega) only [wrapI64,wrapU8,wrapU32,wrapU64]); refine hK _ _ ?_; clear hK Kv)))
 all_goals try exact k1 _ (n1 (by omega)) hr
 refine Prime_ok Q hTW (fun w1 h1=>?_)
 have n2:=n2 (by omega)
 cases hq:primeM Q with
 | false=>
  have n2:validG ⟨P,Q,G⟩ = false:=by rw [n2,hq]; rfl
  refine Xa0 ?_
  exact k1 _ n2 h1
 | true=>
  rw [hq,Bool.true_and] at n2
  refine Xa (An2 @c0 @h1) ?_
  refine Prime_ok P (hTW.below h1 (Nat.le_refl _)) (fun w2 h2=>?_)
  have h2:=h1.on h2
  cases hp:primeM P with
  | false=>
   have n2:validG ⟨P,Q,G⟩ = false:=by rw [n2,hp]; rfl
   refine Xa0 ?_
   exact k1 _ n2 h2
  | true=>
   rw [hp,Bool.true_and] at n2
   refine Xa (An4 @c0 @c1 @c2 @h2) ?_
   refine Pow_ok P G Q hQ (fun w3 h3=>?_)
   have e:powM P G Q = pw P G Q.toNat:=by unfold powM; rw [if_pos (by unfold okN; omega),if_pos (by omega)]
   rw [e]
   generalize pw P G Q.toNat = z at *
   have h3:=h2.on h3
   refine Xa0 ?_
   exact k2 _ _ n2 h3
end
end Go.Proofs
namespace Go.Proofs
open Go Go.Sh Go.RowKit FdSpec
section
variable {K:Value → World → Prop} {w:World}
theorem Element_ok (g:Grp) (x:Int) (hgr:GrpR g) (hT:DbT w) (k:∀ w',Below w.heap.size w w' → K (.bool (elemG g x)) w'):callM Tryz.prog 174 #[grpV g,.int .i64 x] K w:=by
 apply sh_174_ok
 unfold sh_174
 refine box_grp g fun b W hW hb c0 c1 c2=>?_
 have hr:=Below.refl W.heap.size W
 have hTW:DbT W:=hT.below hW (Nat.le_refl _)
 have k2:∀ w' v,elemG g x = v → Below W.heap.size W w' → K (.bool v) w':=fun w' v e hb=>by rw [← e]; exact k w' (hW.on hb)
 have e0:elemG g x = (decide (1 ≤ x) && decide (x < g.P) && validG g && decide (pw g.P x g.Q.toNat = 1)):=rfl
 clear k
 repeat (any_goals (first
 | (with_reducible first|refine pureM_in ?_|((refine idGd ?_); first|refine zB ?_|((refine idGdD ?_); first|refine zF ?_|refine zG ?_|refine zH (fun hg=>?_) fun hg=>?_))|((refine idPick ?_); first|refine yC ?_|refine yD ?_|refine yE ?_))
 | ((with_reducible refine oM_gen fun Kv hK=>?_); simp [go_sem,c0,c1,c2,hr]; refine hK _ _ ?_; clear hK Kv)))
 ·refine ValidGroup_ok g hgr hTW (fun w1 h1=>?_)
  cases hv:validG g with
  | false=>
   refine Xa0 ?_
   exact k2 _ _ (by rw [e0,hv]; simp) h1
  | true=>
   have hv2:=hv
   unfold validG at hv2
   split at hv2
   ·cases hv2
   rename_i hn
   repeat (any_goals (first
   | (with_reducible first|refine pureM_in ?_|refine zA ?_|refine yD ?_)
   | ((with_reducible refine oM_gen fun Kv hK=>?_); simp [go_sem,c0,c1,h1]; refine hK _ _ ?_; clear hK Kv)))
   refine Pow_ok g.P x g.Q hgr.2.1 (fun w3 h3=>?_)
   have e:powM g.P x g.Q = pw g.P x g.Q.toNat:=by unfold powM; rw [if_pos (by unfold okN; omega),if_pos (by omega)]
   rw [e]
   have e1:elemG g x = decide (pw g.P x g.Q.toNat = 1):=by rw [e0,hv]; simp; omega
   generalize pw g.P x g.Q.toNat = z at *
   repeat (any_goals (first
   | (with_reducible first|refine zA ?_|refine yB ?_)
   | ((with_reducible refine oM_gen fun Kv hK=>?_); simp [go_sem]; refine hK _ _ ?_; clear hK Kv)))
   exact k2 _ _ e1 (h1.on h3)
 ·exact k2 _ _ (by rw [e0]; simp; omega) hr
 ·exact k2 _ _ (by rw [e0]; simp; omega) hr
theorem Power_ok (g:Grp) (x n:Int) (k:∀ w',Below w.heap.size w w' → K (.int .i64 (powerG g x n)) w'):callM Tryz.prog 24 #[grpV g,.int .i64 x,.int .i64 n] K w:=by
 apply sh_24_ok
 unfold sh_24
 refine box_grp g fun b W hW hb c0 c1 c2=>?_
 have hr:=Below.refl W.heap.size W
 have k2:∀ w' v,powerG g x n = v → Below W.heap.size W w' → K (.int .i64 v) w':=fun w' v e hb=>by rw [← e]; exact k w' (hW.on hb)
 clear k
 refine Xa (An4 @c0 @c1 @c2 @hr) ?_
 refine valid_ok g.P ?_
 by_cases hp:okN g.P
 ·by_cases hq:okN g.Q
  ·refine Xa (An4 @c0 @c1 @c2 @hr) ?_
   refine valid_ok g.Q ?_
   refine Xa (An4 @c0 @c1 @c2 @hr) ?_
   refine ⟨Below W.heap.size W,.drawn,?_⟩
   have hp':=hp
   have hq':=hq
   obtain ⟨h1,h2⟩:=hp'
   obtain ⟨h3,h4⟩:=hq'
   have a1:=Int.emod_nonneg x (b:=g.P) (by omega)
   have a2:=Int.emod_lt_of_pos x (b:=g.P) (by omega)
   have a3:=Int.emod_nonneg n (b:=g.Q) (by omega)
   have a4:=Int.emod_lt_of_pos n (b:=g.Q) (by omega)
   have e0:powerG g x n = pw g.P (x % g.P) (n % g.Q).toNat:=by unfold powerG; rw [if_pos ⟨hp,hq⟩,pw_emod]
   obtain ⟨m,hm⟩:=natN (n % g.Q) a3
   rw [hm,Int.toNat_natCast] at e0
   have hr:=pw_nonneg g.P (x % g.P) m (by omega)
   refine Xc (fun W0 hW0=>An3 (c0 _ hW0) (c1 _ hW0) (c2 _ hW0)) ?_
   refine callQ_of (fun W0 hW0=>residue_ok g.P x hp ⟨rfl,hW0⟩) ?_
   refine Xc (fun W0 hW0=>An3 (c0 _ hW0) (c1 _ hW0) (c2 _ hW0)) ?_
   refine callQ_of (fun W0 hW0=>residue_ok g.Q n hq ⟨rfl,hW0⟩) ?_
   rw [hm]
   refine callQ_of (fun W0 hW0=>power_ok g.P (x % g.P) m hp ⟨a1,a2⟩ (by omega) (fun w' hw'=>⟨rfl,hW0.on hw'⟩)) ?_
   generalize pw g.P (x % g.P) m = z at *
   have e3:IntKind.i64.wrap z = z:=wrapI64 z (by omega) (by omega)
   refine Xg @e3 ?_
   intro w' hw'
   exact k2 _ _ e0 hw'
  ·have e0:powerG g x n = 0:=by unfold powerG; rw [if_neg (fun h=>hq h.2)]
   refine Xa (An4 @c0 @c1 @c2 @hr) ?_
   refine valid_ok g.Q ?_
   refine Xa (An4 @c0 @c1 @c2 @hr) ?_
   exact k2 _ _ e0 hr
 ·have e0:powerG g x n = 0:=by unfold powerG; rw [if_neg (fun h=>hp h.1)]
  refine Xa (An4 @c0 @c1 @c2 @hr) ?_
  exact k2 _ _ e0 hr
theorem Times_ok (g:Grp) (x n:Int) (k:∀ w',Below w.heap.size w w' → K (.int .i64 (timesG g x n)) w'):callM Tryz.prog 142 #[grpV g,.int .i64 x,.int .i64 n] K w:=by
 apply sh_142_ok
 unfold sh_142
 refine box_grp g fun b W hW hb c0 c1 c2=>?_
 have hr:=Below.refl W.heap.size W
 have k2:∀ w' v,timesG g x n = v → Below W.heap.size W w' → K (.int .i64 v) w':=fun w' v e hb=>by rw [← e]; exact k w' (hW.on hb)
 clear k
 refine Xa (An4 @c0 @c1 @c2 @hr) ?_
 refine valid_ok g.Q ?_
 by_cases hq:okN g.Q
 ·refine Xa (An4 @c0 @c1 @c2 @hr) ?_
  refine Mul_ok g.P x n (fun w1 h1=>?_)
  exact k2 _ _ (by unfold timesG; rw [if_pos hq]) h1
 ·refine Xa (An4 @c0 @c1 @c2 @hr) ?_
  exact k2 _ _ (by unfold timesG; rw [if_neg hq]) hr
end
end Go.Proofs
namespace Go.Proofs
open Go Go.Sh Go.RowKit FdSpec
section
variable {K:Value → World → Prop} {w:World}
def PdJ (g:Grp) (R:Int) (ps:List (Int × Int)) (W:World) (l:List Value) (w':World):Prop:=Below W.heap.size W w' ∧ ∃ (v u:Value) (o:Int) (i:Nat),l = [v,u,.int .i64 o,.int .i64 (i:Int)] ∧ i ≤ ps.length ∧ prodL g o (ps.drop i) = R
def pdMu (n:Nat) (l:List Value) (_:World):Nat:=match l with | [_,_,_,.int _ i]=>n - i.toNat | _=>0
theorem pdMu_eq (n:Nat) (x y z:Value) (q:IntKind) (i:Int) (w:World):pdMu n [x,y,z,.int q i] w = n - i.toNat:=rfl
theorem zip_drop (a b:List Int) (i:Nat) (h1:i < a.length) (h2:i < b.length):(a.zip b).drop i = (a[i],b[i]) :: (a.zip b).drop (i + 1):=by
 rw [List.drop_eq_getElem_cons (by rw [List.length_zip]; omega),List.getElem_zip]
@[go_sem] theorem oM_index_ints (T:TypeId) (b o n c:Nat) (x:Int):oM Tryz.prog (.indexAddr 22 (.tmp 0) (.tmp 1)) T [.slice (some ⟨b,o,none⟩) n c,.int .i64 x] = onM (0 ≤ x ∧ x < n) (.pointer (some ⟨b,o + x.toNat,none⟩)):=by
 funext K w
 rw [oM_indexAddr,run_indexAt_slice (h:=by kernel_rfl)]
 have hs:(sizeOf (Tryz.prog.elem 22)).run Tryz.prog w = .ok 1 w:=by kernel_rfl
 by_cases hi:0 ≤ x ∧ x < n
 ·rw [if_pos hi,hs]
  simp only [Result.andThen,add_none,Nat.mul_one,rM_ok]
  exact propext ⟨fun h=>⟨hi,h⟩,fun h=>h.2⟩
 ·rw [if_neg hi]
  obtain ⟨e',w',he⟩:=halts Value Tryz.prog .i64 x n .index w
  rw [he]
  exact propext ⟨fun h=>h.elim,fun h=>hi h.1⟩
theorem Product_ok (g:Grp) {bv ev:Value} {bs es:List Int} (hbs:Ints w bv bs) (hes:Ints w ev es) (k:∀ w',Below w.heap.size w w' → K (.tuple #[.int .i64 (prodG g bs es).1,.bool (prodG g bs es).2]) w'):callM Tryz.prog 141 #[grpV g,bv,ev] K w:=by
 apply sh_141_ok
 unfold sh_141
 refine box_grp g fun b W hW hb c0 c1 c2=>?_
 have hr:=Below.refl W.heap.size W
 have k2:∀ w' v,prodG g bs es = v → Below W.heap.size W w' → K (.tuple #[.int .i64 v.1,.bool v.2]) w':=fun w' v e hb=>by rw [← e]; exact k w' (hW.on hb)
 clear k
 obtain ⟨bad,bc,rfl⟩:=hbs.isSlice
 obtain ⟨ead,ec,rfl⟩:=hes.isSlice
 have hbs:=hbs.next hW
 have hes:=hes.next hW
 have l1:=hbs.len
 have l2:=hes.len
 refine Xa (An4 @c0 @c1 @c2 @hr) ?_
 refine valid_ok g.P ?_
 by_cases hp:okN g.P
 ·by_cases hq:okN g.Q
  ·refine Xa (An4 @c0 @c1 @c2 @hr) ?_
   refine valid_ok g.Q ?_
   by_cases hl:bs.length = es.length
   ·have e1:(1:Int).tmod g.P = 1 % g.P:=Int.tmod_eq_emod_of_nonneg (by omega)
    have hp0:=hp.1
    have e0:prodG g bs es = (prodL g (1 % g.P) (bs.zip es),true):=by unfold prodG; rw [if_pos ⟨hp,hq,hl⟩]
    have hzl:(bs.zip es).length = bs.length:=by rw [List.length_zip]; omega
    refine Xa (An6 @c0 @c1 @c2 @hr @hl @e1) ?_
    refine ⟨PdJ g (prodL g (1 % g.P) (bs.zip es)) (bs.zip es) W,pdMu es.length,⟨hr,_,_,_,0,rfl,by omega,rfl⟩,?_⟩
    generalize prodL g (1 % g.P) (bs.zip es) = R at *
    rintro _ _ w1 ⟨h1,v,u,o,i,rfl,hi,he⟩
    rw [hzl] at hi
    by_cases hin:i = es.length
    ·rw [List.drop_of_length_le (by omega)] at he
     unfold prodL at he
     refine Xa0 ?_
     rw [he]
     exact k2 _ _ e0 h1
    ·rw [zip_drop bs es i (by omega) (by omega)] at he
     unfold prodL at he
     obtain ⟨b1,o1,rfl,hb1,ca,ra,_⟩:=hbs.at (i:=i) (by omega)
     obtain ⟨b2,o2,rfl,hb2,cb,rb,_⟩:=hes.at (i:=i) (by omega)
     refine Xa (An3 (ca _ h1) @c0 @h1) ?_
     refine ⟨Below W.heap.size W,h1.trans .drawn,?_⟩
     refine Xc (fun W0 hW0=>An4 (c0 _ hW0) (c1 _ hW0) (c2 _ hW0) (cb _ hW0)) ?_
     refine callQ_of (fun W0 hW0=>Power_ok g _ _ (fun w' hw'=>⟨rfl,hW0.on hw'⟩)) ?_
     refine callQ_of (fun W0 hW0=>Mul_ok _ _ _ (fun w' hw'=>⟨rfl,hW0.on hw'⟩)) ?_
     intro w2 h2
     refine Xa0 ?_
     refine ⟨⟨h2,_,_,_,i + 1,rfl,by rw [hzl]; omega,he⟩,?_⟩
     simp only [pdMu_eq]; omega
   ·have e0:prodG g bs es = (0,false):=by unfold prodG; rw [if_neg (fun h=>hl h.2.2)]
    have hl':¬ (bs.length:Int) = es.length:=by omega
    refine Xa (An5 @c0 @c1 @c2 @hr @hl') ?_
    exact k2 _ _ e0 hr
  ·have e0:prodG g bs es = (0,false):=by unfold prodG; rw [if_neg (fun h=>hq h.2.1)]
   refine Xa (An4 @c0 @c1 @c2 @hr) ?_
   refine valid_ok g.Q ?_
   refine Xa (An4 @c0 @c1 @c2 @hr) ?_
   exact k2 _ _ e0 hr
 ·have e0:prodG g bs es = (0,false):=by unfold prodG; rw [if_neg (fun h=>hp h.1)]
  refine Xa (An4 @c0 @c1 @c2 @hr) ?_
  exact k2 _ _ e0 hr
end
end Go.Proofs
namespace Go.Proofs
open Go.Sh Tryz
def sh_15 (a0 a1 a2 a3:Value) (K:Value → World → Prop) (w:World):Prop:=
 oM prog (.box 32 (.tmp 0)) 0 [a0] (fun v4 w=>
 oM prog (.box 45 (.tmp 0)) 0 [a2] (fun v6 w=>
 oM prog (.alloc 49) 0 [] (fun v8 w=>
 oM prog (.load 32 (.tmp 0)) 32 [v4] (fun v17 w=>
 callM prog 67 #[v17,a1] (fun v19 w=>
 oM prog (.extract (.tmp 0) 0) 116 [v19] (fun v20 w=>
 oM prog (.extract (.tmp 0) 1) 3 [v19] (fun v21 w=>
 oM prog (.extract (.tmp 0) 2) 4 [v19] (fun v22 w=>
 oM prog (.alloc 116) 0 [] (fun v10 w=>
 oM prog (.store 116 (.tmp 0) (.tmp 1)) 0 [v10,v20] (fun _ w=>
 oM prog (.unOp .not 4 (.tmp 0)) 4 [v22] (fun v24 w=>
 gdM (gd v24 false) (oM prog (.load 116 (.tmp 0)) 116 [v10]) (fun v26 w=>
 gdM (gd v24 false) (oM prog (.load 45 (.tmp 0)) 45 [v6]) (fun v27 w=>
 gdM (gd v24 false) (callM prog 68 #[v26,v27]) (fun v28 w=>
 gdM (gd v24 false) (oM prog (.unOp .not 4 (.tmp 0)) 4 [v28]) (fun v29 w=>
 oM prog (.pick (.tmp 0) (.tmp 1) (.tmp 2)) 4 [v24,(.bool true),v29] (fun v30 w=>
 gdM (gd v30 false) (oM prog (.load 116 (.tmp 0)) 116 [v10]) (fun v32 w=>
 gdM (gd v30 false) (pureM a3) (fun v33 w=>
 gdM (gd v30 false) (oM prog (.buildSlice 22 1 #[(0,(.tmp 0))]) 22 [v33]) (fun v34 w=>
 gdM (gd v30 false) (callM prog 65 #[v32,(.int .i64 1),v34]) (fun v35 w=>
 gdM (gd v30 false) (oM prog (.unOp .not 4 (.tmp 0)) 4 [v35]) (fun v36 w=>
 oM prog (.pick (.tmp 0) (.tmp 1) (.tmp 2)) 4 [v30,(.bool true),v36] (fun v37 w=>
 condM v37
 (oM prog (.build 49 #[]) 49 [] (fun v38 w=>
 oM prog (.store 49 (.tmp 0) (.tmp 1)) 0 [v8,v38] (fun _ w=>
 ∃ r_23,(do loadVar 49 (← asAddr v8):Sem Value).run prog w = .ok r_23 w ∧ K (.tuple #[r_23,(.bool false)]) w) w) w)
 (oM prog (.build 49 #[(0,(.tmp 0))]) 49 [a3] (fun v40 w=>
 oM prog (.alloc 49) 0 [] (fun v13 w=>
 oM prog (.store 49 (.tmp 0) (.tmp 1)) 0 [v13,v40] (fun _ w=>
 callM prog 69 #[a1] (fun v42 w=>
 oM prog (.call (Go.Call.mk (.builtin .len) #[(.tmp 0)] #[22])) 3 [v42] (fun v43 w=>
 loopM [undef,undef,(.int .i64 0)] w (fun J_28 m_29 l_30 u_l_30 w0_l_30=>(fun w=>(
 oM prog (.binOp .lss 3 (.tmp 0) (.tmp 1) 3) 0 [(l_30.getD 2 undef),v43] (fun v45 w=>
 condM v45
 (oM prog (.indexAddr 22 (.tmp 0) (.tmp 1)) 0 [v42,(l_30.getD 2 undef)] (fun v47 w=>
 oM prog (.load 3 (.tmp 0)) 3 [v47] (fun v48 w=>
 stageM w (fun C_34 w=>(oH prog (.fieldAddr 49 (.tmp 0) 1) 0 [v13] (upto C_34 4) (fun v49=>
 oH prog (.load 22 (.tmp 0)) 22 [v49] (upto C_34 4) (fun v50=>
 oH prog (.load 116 (.tmp 0)) 116 [v10] (upto C_34 2) (fun v51=>
 oH prog (.fieldAddr 45 (.tmp 0) 3) 0 [v6] (upto C_34 2) (fun v52=>
 oH prog (.load 22 (.tmp 0)) 22 [v52] (upto C_34 2) (fun v53=>
 pureH (l_30.getD 2 undef) (upto C_34 2) (fun v54=>
 oH prog (.indexAddr 22 (.tmp 0) (.tmp 1)) 0 [v53,v54] (upto C_34 2) (fun v55=>
 oH prog (.load 3 (.tmp 0)) 3 [v55] (upto C_34 2) (fun v56=>
 oH prog (.load 116 (.tmp 0)) 116 [v10] (upto C_34 1) (fun v57=>
 pureH a3 (upto C_34 1) (fun v58=>
 oH prog (.fieldAddr 45 (.tmp 0) 0) 0 [v6] (upto C_34 0) (fun v59=>
 oH prog (.load 3 (.tmp 0)) 3 [v59] (upto C_34 0) (fun v60=>
 pureH v48 (upto C_34 0) (fun v61=>
 oM prog (.buildSlice 22 2 #[(0,(.tmp 0)),(1,(.tmp 1))]) 22 [v60,v61] (fun v62 w=>C_34 1 w ∧ (
 callM prog 71 #[v57,v58,v62] (fun v63 w=>C_34 2 w ∧ (
 callM prog 70 #[v51,v56,v63] (fun v64 w=>C_34 3 w ∧ (
 oM prog (.buildSlice 22 1 #[(0,(.tmp 0))]) 22 [v64] (fun v65 w=>C_34 4 w ∧ (
 oM prog (.call (Go.Call.mk (.builtin .append) #[(.tmp 0),(.tmp 1)] #[22,22])) 22 [v50,v65] (fun v66 w=>C_34 5 w ∧ (
 oM prog (.fieldAddr 49 (.tmp 0) 1) 0 [v13] (fun v67 w=>C_34 6 w ∧ (
 oM prog (.store 22 (.tmp 0) (.tmp 1)) 0 [v67,v66] (fun _ w=>C_34 7 w ∧ (
 oM prog (.binOp .add 3 (.tmp 0) (.tmp 1) 3) 3 [(l_30.getD 2 undef),(.int .i64 1)] (fun v68 w=>
 J_28 [(l_30.getD 2 undef),v48,v68] w ∧ m_29 [(l_30.getD 2 undef),v48,v68] w < m_29 l_30 w0_l_30) w)) w)) w)) w)) w)) w)) w)) w)))))))))))))))) w) w)
 (oM prog (.load 49 (.tmp 0)) 49 [v13] (fun v69 w=>
 oM prog (.store 49 (.tmp 0) (.tmp 1)) 0 [v8,v69] (fun _ w=>
 ∃ r_56,(do loadVar 49 (← asAddr v8):Sem Value).run prog w = .ok r_56 w ∧ K (.tuple #[r_56,(.bool true)]) w) w) w)) w)) w0_l_30)) w) w) w) w) w)) w) w) w) w) w) w) w) w) w) w) w) w) w) w) w) w) w) w) w) w) w) w
theorem sh_15_ok {a0 a1 a2 a3:Value} {K:Value → World → Prop} {w:World} (h:sh_15 a0 a1 a2 a3 K w):callM prog 15 #[a0,a1,a2,a3] K w:=
 calls_of_code (fun _=>3) (fn:=Tryz.f15) (rs:=[.cell 8 49,.tmp 9]) Tryz.func15 rfl rfl (by kernel_rfl) (Nat.le_of_ble_eq_true rfl) (Eq.mp (by kernel_rfl) h)
def sh_34 (a0 a1 a2 a3:Value) (K:Value → World → Prop) (w:World):Prop:=
 oM prog (.box 32 (.tmp 0)) 0 [a0] (fun v4 w=>
 oM prog (.alloc 37) 0 [] (fun v8 w=>
 oM prog (.load 32 (.tmp 0)) 32 [v4] (fun v14 w=>
 callM prog 67 #[v14,a2] (fun v16 w=>
 oM prog (.extract (.tmp 0) 0) 116 [v16] (fun v17 w=>
 oM prog (.extract (.tmp 0) 1) 3 [v16] (fun v18 w=>
 oM prog (.extract (.tmp 0) 2) 4 [v16] (fun v19 w=>
 oM prog (.alloc 116) 0 [] (fun v10 w=>
 oM prog (.store 116 (.tmp 0) (.tmp 1)) 0 [v10,v17] (fun _ w=>
 oM prog (.unOp .not 4 (.tmp 0)) 4 [v19] (fun v21 w=>
 gdM (gd v21 false) (oM prog (.load 116 (.tmp 0)) 116 [v10]) (fun v23 w=>
 gdM (gd v21 false) (pureM a1) (fun v24 w=>
 gdM (gd v21 false) (oM prog (.buildSlice 22 1 #[(0,(.tmp 0))]) 22 [v24]) (fun v25 w=>
 gdM (gd v21 false) (callM prog 65 #[v23,(.int .i64 1),v25]) (fun v26 w=>
 gdM (gd v21 false) (oM prog (.unOp .not 4 (.tmp 0)) 4 [v26]) (fun v27 w=>
 oM prog (.pick (.tmp 0) (.tmp 1) (.tmp 2)) 4 [v21,(.bool true),v27] (fun v28 w=>
 gdM (gd v28 false) (oM prog (.load 116 (.tmp 0)) 116 [v10]) (fun v30 w=>
 gdM (gd v28 false) (pureM a3) (fun v31 w=>
 gdM (gd v28 false) (oM prog (.buildSlice 22 1 #[(0,(.tmp 0))]) 22 [v31]) (fun v32 w=>
 gdM (gd v28 false) (callM prog 65 #[v30,(.int .i64 0),v32]) (fun v33 w=>
 gdM (gd v28 false) (oM prog (.unOp .not 4 (.tmp 0)) 4 [v33]) (fun v34 w=>
 oM prog (.pick (.tmp 0) (.tmp 1) (.tmp 2)) 4 [v28,(.bool true),v34] (fun v35 w=>
 condM v35
 (oM prog (.build 37 #[]) 37 [] (fun v36 w=>
 oM prog (.store 37 (.tmp 0) (.tmp 1)) 0 [v8,v36] (fun _ w=>
 ∃ r_23,(do loadVar 37 (← asAddr v8):Sem Value).run prog w = .ok r_23 w ∧ K (.tuple #[r_23,(.int .i64 1)]) w) w) w)
 (heldM w (fun C_24 w=>(oH prog (.load 116 (.tmp 0)) 116 [v10] C_24 (fun v37=>
 pureH v18 C_24 (fun v38=>
 pureH a1 C_24 (fun v39=>
 oH prog (.load 116 (.tmp 0)) 116 [v10] C_24 (fun v41=>
 pureH a3 C_24 (fun v42=>
 oH prog (.load 116 (.tmp 0)) 116 [v10] C_24 (fun v44=>
 pureH v18 C_24 (fun v45=>
 pureH a3 C_24 (fun v46=>
 callM prog 89 #[v37,v38,v39] (fun v40 w=>C_24 w ∧ (
 callM prog 66 #[v41,v42] (fun v43 w=>C_24 w ∧ (
 callM prog 89 #[v44,v45,v46] (fun v47 w=>C_24 w ∧ (
 oM prog (.build 37 #[(0,(.tmp 0)),(1,(.tmp 1)),(2,(.tmp 2))]) 37 [v40,v43,v47] (fun v48 w=>C_24 w ∧ (
 oM prog (.store 37 (.tmp 0) (.tmp 1)) 0 [v8,v48] (fun _ w=>C_24 w ∧ (
 C_24 w ∧ (∃ r_38,(do loadVar 37 (← asAddr v8):Sem Value).run prog w = .ok r_38 w ∧ K (.tuple #[r_38,(.int .i64 0)]) w))) w)) w)) w)) w)) w)))))))))))) w) w) w) w) w) w) w) w) w) w) w) w) w) w) w) w) w) w) w) w) w) w
theorem sh_34_ok {a0 a1 a2 a3:Value} {K:Value → World → Prop} {w:World} (h:sh_34 a0 a1 a2 a3 K w):callM prog 34 #[a0,a1,a2,a3] K w:=
 calls_of_code (fun _=>2) (fn:=Tryz.f34) (rs:=[.cell 8 37,.tmp 9]) Tryz.func34 rfl rfl (by kernel_rfl) (Nat.le_of_ble_eq_true rfl) (Eq.mp (by kernel_rfl) h)
def sh_35 (a0 a1 a2 a3:Value) (K:Value → World → Prop) (w:World):Prop:=
 oM prog (.box 32 (.tmp 0)) 0 [a0] (fun v4 w=>
 oM prog (.load 32 (.tmp 0)) 32 [v4] (fun v12 w=>
 callM prog 64 #[v12] (fun v13 w=>
 oM prog (.extract (.tmp 0) 0) 116 [v13] (fun v14 w=>
 oM prog (.extract (.tmp 0) 1) 4 [v13] (fun v15 w=>
 oM prog (.alloc 116) 0 [] (fun v9 w=>
 oM prog (.store 116 (.tmp 0) (.tmp 1)) 0 [v9,v14] (fun _ w=>
 gdM (gd v15 true) (oM prog (.load 116 (.tmp 0)) 116 [v9]) (fun v18 w=>
 gdM (gd v15 true) (pureM a1) (fun v19 w=>
 gdM (gd v15 true) (oM prog (.buildSlice 22 1 #[(0,(.tmp 0))]) 22 [v19]) (fun v20 w=>
 gdM (gd v15 true) (callM prog 65 #[v18,(.int .i64 1),v20]) (fun v21 w=>
 oM prog (.pick (.tmp 0) (.tmp 1) (.tmp 2)) 4 [v15,v21,(.bool false)] (fun v22 w=>
 gdM (gd v22 true) (oM prog (.load 116 (.tmp 0)) 116 [v9]) (fun v24 w=>
 gdM (gd v22 true) (pureM a2) (fun v25 w=>
 gdM (gd v22 true) (pureM a3) (fun v26 w=>
 gdM (gd v22 true) (oM prog (.buildSlice 22 2 #[(0,(.tmp 0)),(1,(.tmp 1))]) 22 [v25,v26]) (fun v27 w=>
 gdM (gd v22 true) (callM prog 65 #[v24,(.int .i64 0),v27]) (fun v28 w=>
 oM prog (.pick (.tmp 0) (.tmp 1) (.tmp 2)) 4 [v22,v28,(.bool false)] (fun v29 w=>
 condM v29
 (heldM w (fun C_18 w=>(oH prog (.load 116 (.tmp 0)) 116 [v9] C_18 (fun v30=>
 oH prog (.load 116 (.tmp 0)) 116 [v9] C_18 (fun v31=>
 pureH a3 C_18 (fun v32=>
 pureH a1 C_18 (fun v33=>
 pureH a2 C_18 (fun v36=>
 oM prog (.buildSlice 22 1 #[(0,(.tmp 0))]) 22 [v33] (fun v34 w=>C_18 w ∧ (
 callM prog 71 #[v31,v32,v34] (fun v35 w=>C_18 w ∧ (
 callM prog 70 #[v30,v35,v36] (fun v37 w=>C_18 w ∧ (
 C_18 w ∧ (K v37 w))) w)) w)) w))))))))
 (K (.int .i64 0) w)) w) w) w) w) w) w) w) w) w) w) w) w) w) w) w) w) w) w
theorem sh_35_ok {a0 a1 a2 a3:Value} {K:Value → World → Prop} {w:World} (h:sh_35 a0 a1 a2 a3 K w):callM prog 35 #[a0,a1,a2,a3] K w:=
 calls_of_code (fun _=>2) (fn:=Tryz.f35) (rs:=[.tmp 8]) Tryz.func35 rfl rfl (by kernel_rfl) (Nat.le_of_ble_eq_true rfl) (Eq.mp (by kernel_rfl) h)
def sh_13 (a0 a1:Value) (K:Value → World → Prop) (w:World):Prop:=
 oM prog (.box 32 (.tmp 0)) 0 [a0] (fun v2 w=>
 oM prog (.load 32 (.tmp 0)) 32 [v2] (fun v8 w=>
 callM prog 64 #[v8] (fun v9 w=>
 oM prog (.extract (.tmp 0) 0) 116 [v9] (fun v10 w=>
 oM prog (.extract (.tmp 0) 1) 4 [v9] (fun v11 w=>
 oM prog (.alloc 116) 0 [] (fun v5 w=>
 oM prog (.store 116 (.tmp 0) (.tmp 1)) 0 [v5,v10] (fun _ w=>
 gdM (gd v11 true) (oM prog (.load 116 (.tmp 0)) 116 [v5]) (fun v14 w=>
 gdM (gd v11 true) (pureM a1) (fun v15 w=>
 gdM (gd v11 true) (oM prog (.buildSlice 22 1 #[(0,(.tmp 0))]) 22 [v15]) (fun v16 w=>
 gdM (gd v11 true) (callM prog 65 #[v14,(.int .i64 1),v16]) (fun v17 w=>
 oM prog (.pick (.tmp 0) (.tmp 1) (.tmp 2)) 4 [v11,v17,(.bool false)] (fun v18 w=>
 condM v18
 (oM prog (.load 116 (.tmp 0)) 116 [v5] (fun v19 w=>
 callM prog 66 #[v19,a1] (fun v21 w=>
 K v21 w) w) w)
 (K (.int .i64 0) w)) w) w) w) w) w) w) w) w) w) w) w) w
theorem sh_13_ok {a0 a1:Value} {K:Value → World → Prop} {w:World} (h:sh_13 a0 a1 K w):callM prog 13 #[a0,a1] K w:=
 calls_of_code (fun _=>2) (fn:=Tryz.f13) (rs:=[.tmp 4]) Tryz.func13 rfl rfl (by kernel_rfl) (Nat.le_of_ble_eq_true rfl) (Eq.mp (by kernel_rfl) h)
def sh_80 (a0 a1:Value) (K:Value → World → Prop) (w:World):Prop:=
 oM prog (.box 32 (.tmp 0)) 0 [a0] (fun v2 w=>
 oM prog (.load 32 (.tmp 0)) 32 [v2] (fun v9 w=>
 callM prog 134 #[v9,a1] (fun v11 w=>
 oM prog (.extract (.tmp 0) 0) 116 [v11] (fun v12 w=>
 oM prog (.extract (.tmp 0) 1) 3 [v11] (fun v13 w=>
 oM prog (.extract (.tmp 0) 2) 4 [v11] (fun v14 w=>
 oM prog (.alloc 116) 0 [] (fun v5 w=>
 oM prog (.store 116 (.tmp 0) (.tmp 1)) 0 [v5,v12] (fun _ w=>
 K v13 w) w) w) w) w) w) w) w) w
theorem sh_80_ok {a0 a1:Value} {K:Value → World → Prop} {w:World} (h:sh_80 a0 a1 K w):callM prog 80 #[a0,a1] K w:=
 calls_of_code (fun _=>0) (fn:=Tryz.f80) (rs:=[.tmp 4]) Tryz.func80 rfl rfl (by kernel_rfl) (Nat.le_of_ble_eq_true rfl) (Eq.mp (by kernel_rfl) h)
def sh_81 (a0 a1:Value) (K:Value → World → Prop) (w:World):Prop:=
 oM prog (.box 32 (.tmp 0)) 0 [a0] (fun v2 w=>
 oM prog (.load 32 (.tmp 0)) 32 [v2] (fun v9 w=>
 callM prog 67 #[v9,a1] (fun v11 w=>
 oM prog (.extract (.tmp 0) 0) 116 [v11] (fun v12 w=>
 oM prog (.extract (.tmp 0) 1) 3 [v11] (fun v13 w=>
 oM prog (.extract (.tmp 0) 2) 4 [v11] (fun v14 w=>
 oM prog (.alloc 116) 0 [] (fun v5 w=>
 oM prog (.store 116 (.tmp 0) (.tmp 1)) 0 [v5,v12] (fun _ w=>
 K v14 w) w) w) w) w) w) w) w) w
theorem sh_81_ok {a0 a1:Value} {K:Value → World → Prop} {w:World} (h:sh_81 a0 a1 K w):callM prog 81 #[a0,a1] K w:=
 calls_of_code (fun _=>0) (fn:=Tryz.f81) (rs:=[.tmp 4]) Tryz.func81 rfl rfl (by kernel_rfl) (Nat.le_of_ble_eq_true rfl) (Eq.mp (by kernel_rfl) h)
def sh_31 (a0 a1 a2 a3:Value) (K:Value → World → Prop) (w:World):Prop:=
 oM prog (.box 32 (.tmp 0)) 0 [a0] (fun v4 w=>
 oM prog (.box 41 (.tmp 0)) 0 [a1] (fun v5 w=>
 oM prog (.box 49 (.tmp 0)) 0 [a2] (fun v6 w=>
 oM prog (.box 49 (.tmp 0)) 0 [a3] (fun v7 w=>
 oM prog (.load 32 (.tmp 0)) 32 [v4] (fun v17 w=>
 oM prog (.load 41 (.tmp 0)) 41 [v5] (fun v18 w=>
 oM prog (.load 49 (.tmp 0)) 49 [v6] (fun v19 w=>
 oM prog (.load 49 (.tmp 0)) 49 [v7] (fun v20 w=>
 callM prog 88 #[v17,v18,v19,v20] (fun v21 w=>
 oM prog (.extract (.tmp 0) 0) 116 [v21] (fun v22 w=>
 oM prog (.extract (.tmp 0) 1) 22 [v21] (fun v23 w=>
 oM prog (.extract (.tmp 0) 2) 4 [v21] (fun v24 w=>
 oM prog (.alloc 116) 0 [] (fun v10 w=>
 oM prog (.store 116 (.tmp 0) (.tmp 1)) 0 [v10,v22] (fun _ w=>
 oM prog (.unOp .not 4 (.tmp 0)) 4 [v24] (fun v26 w=>
 condM v26
 (K (.tuple #[(.slice none 0 0),(.bool false)]) w)
 (oM prog (.slice 22 (.tmp 0) (some (.tmp 1)) none none) 22 [v23,(.int .i64 1)] (fun v28 w=>
 oM prog (.call (Go.Call.mk (.builtin .len) #[(.tmp 0)] #[22])) 3 [v28] (fun v29 w=>
 loopM [undef,(.slice none 0 0),(.int .i64 0)] w (fun J_17 m_18 l_19 u_l_19 w0_l_19=>(fun w=>(
 oM prog (.binOp .lss 3 (.tmp 0) (.tmp 1) 3) 0 [(l_19.getD 2 undef),v29] (fun v31 w=>
 condM v31
 (oM prog (.indexAddr 22 (.tmp 0) (.tmp 1)) 0 [v28,(l_19.getD 2 undef)] (fun v32 w=>
 oM prog (.load 3 (.tmp 0)) 3 [v32] (fun v33 w=>
 heldM w (fun C_23 w=>(pureH (l_19.getD 1 undef) C_23 (fun v34=>
 oH prog (.load 116 (.tmp 0)) 116 [v10] C_23 (fun v35=>
 pureH v33 C_23 (fun v36=>
 pureH v23 C_23 (fun v37=>
 oH prog (.indexAddr 22 (.tmp 0) (.tmp 1)) 0 [v37,(.int .i64 0)] C_23 (fun v38=>
 oH prog (.load 3 (.tmp 0)) 3 [v38] C_23 (fun v39=>
 callM prog 74 #[v35,v36,v39] (fun v40 w=>C_23 w ∧ (
 oM prog (.buildSlice 22 1 #[(0,(.tmp 0))]) 22 [v40] (fun v41 w=>C_23 w ∧ (
 oM prog (.call (Go.Call.mk (.builtin .append) #[(.tmp 0),(.tmp 1)] #[22,22])) 22 [v34,v41] (fun v42 w=>C_23 w ∧ (
 C_23 w ∧ (oM prog (.binOp .add 3 (.tmp 0) (.tmp 1) 3) 3 [(l_19.getD 2 undef),(.int .i64 1)] (fun v43 w=>
 J_17 [v33,v42,v43] w ∧ m_18 [v33,v42,v43] w < m_18 l_19 w0_l_19) w))) w)) w)) w))))))))) w) w)
 (K (.tuple #[(l_19.getD 1 undef),(.bool true)]) w)) w)) w0_l_19)) w) w)) w) w) w) w) w) w) w) w) w) w) w) w) w) w) w
theorem sh_31_ok {a0 a1 a2 a3:Value} {K:Value → World → Prop} {w:World} (h:sh_31 a0 a1 a2 a3 K w):callM prog 31 #[a0,a1,a2,a3] K w:=
 calls_of_code (fun _=>2) (fn:=Tryz.f31) (rs:=[.tmp 8,.tmp 9]) Tryz.func31 rfl rfl (by kernel_rfl) (Nat.le_of_ble_eq_true rfl) (Eq.mp (by kernel_rfl) h)
def sh_36 (a0 a1 a2:Value) (K:Value → World → Prop) (w:World):Prop:=
 oM prog (.box 32 (.tmp 0)) 0 [a0] (fun v3 w=>
 oM prog (.box 41 (.tmp 0)) 0 [a1] (fun v4 w=>
 oM prog (.box 49 (.tmp 0)) 0 [a2] (fun v5 w=>
 oM prog (.load 32 (.tmp 0)) 32 [v3] (fun v10 w=>
 oM prog (.load 41 (.tmp 0)) 41 [v4] (fun v11 w=>
 callM prog 85 #[v10,v11] (fun v12 w=>
 oM prog (.extract (.tmp 0) 0) 116 [v12] (fun v13 w=>
 oM prog (.extract (.tmp 0) 1) 4 [v12] (fun v14 w=>
 oM prog (.alloc 116) 0 [] (fun v7 w=>
 oM prog (.store 116 (.tmp 0) (.tmp 1)) 0 [v7,v13] (fun _ w=>
 oM prog (.unOp .not 4 (.tmp 0)) 4 [v14] (fun v16 w=>
 gdM (gd v16 false) (oM prog (.load 116 (.tmp 0)) 116 [v7]) (fun v18 w=>
 gdM (gd v16 false) (oM prog (.fieldAddr 49 (.tmp 0) 0) 0 [v5]) (fun v19 w=>
 gdM (gd v16 false) (oM prog (.load 3 (.tmp 0)) 3 [v19]) (fun v20 w=>
 gdM (gd v16 false) (oM prog (.buildSlice 22 1 #[(0,(.tmp 0))]) 22 [v20]) (fun v21 w=>
 gdM (gd v16 false) (callM prog 65 #[v18,(.int .i64 1),v21]) (fun v22 w=>
 gdM (gd v16 false) (oM prog (.unOp .not 4 (.tmp 0)) 4 [v22]) (fun v23 w=>
 oM prog (.pick (.tmp 0) (.tmp 1) (.tmp 2)) 4 [v16,(.bool true),v23] (fun v24 w=>
 gdM (gd v24 false) (oM prog (.fieldAddr 49 (.tmp 0) 1) 0 [v5]) (fun v26 w=>
 gdM (gd v24 false) (oM prog (.load 22 (.tmp 0)) 22 [v26]) (fun v27 w=>
 gdM (gd v24 false) (oM prog (.call (Go.Call.mk (.builtin .len) #[(.tmp 0)] #[22])) 3 [v27]) (fun v28 w=>
 gdM (gd v24 false) (oM prog (.fieldAddr 32 (.tmp 0) 1) 0 [v3]) (fun v29 w=>
 gdM (gd v24 false) (oM prog (.load 22 (.tmp 0)) 22 [v29]) (fun v30 w=>
 gdM (gd v24 false) (oM prog (.call (Go.Call.mk (.builtin .len) #[(.tmp 0)] #[22])) 3 [v30]) (fun v31 w=>
 gdM (gd v24 false) (oM prog (.binOp .neq 3 (.tmp 0) (.tmp 1) 3) 4 [v28,v31]) (fun v32 w=>
 oM prog (.pick (.tmp 0) (.tmp 1) (.tmp 2)) 4 [v24,(.bool true),v32] (fun v33 w=>
 gdM (gd v33 false) (oM prog (.load 116 (.tmp 0)) 116 [v7]) (fun v35 w=>
 gdM (gd v33 false) (oM prog (.fieldAddr 49 (.tmp 0) 1) 0 [v5]) (fun v36 w=>
 gdM (gd v33 false) (oM prog (.load 22 (.tmp 0)) 22 [v36]) (fun v37 w=>
 gdM (gd v33 false) (callM prog 65 #[v35,(.int .i64 0),v37]) (fun v38 w=>
 gdM (gd v33 false) (oM prog (.unOp .not 4 (.tmp 0)) 4 [v38]) (fun v39 w=>
 oM prog (.pick (.tmp 0) (.tmp 1) (.tmp 2)) 4 [v33,(.bool true),v39] (fun v40 w=>
 condM v40
 (K (.bool false) w)
 (heldM w (fun C_32 w=>(oH prog (.load 116 (.tmp 0)) 116 [v7] C_32 (fun v41=>
 oH prog (.fieldAddr 49 (.tmp 0) 1) 0 [v5] C_32 (fun v42=>
 oH prog (.load 22 (.tmp 0)) 22 [v42] C_32 (fun v43=>
 oH prog (.load 116 (.tmp 0)) 116 [v7] C_32 (fun v45=>
 oH prog (.load 116 (.tmp 0)) 116 [v7] C_32 (fun v46=>
 oH prog (.fieldAddr 41 (.tmp 0) 0) 0 [v4] C_32 (fun v47=>
 oH prog (.load 3 (.tmp 0)) 3 [v47] C_32 (fun v48=>
 oH prog (.fieldAddr 49 (.tmp 0) 0) 0 [v5] C_32 (fun v49=>
 oH prog (.load 3 (.tmp 0)) 3 [v49] C_32 (fun v50=>
 oH prog (.fieldAddr 41 (.tmp 0) 1) 0 [v4] C_32 (fun v52=>
 oH prog (.load 3 (.tmp 0)) 3 [v52] C_32 (fun v53=>
 (callM prog 90 #[v41,v43] (fun v44 w=>C_32 w ∧ (
 (callM prog 89 #[v46,v48,v50] (fun v51 w=>C_32 w ∧ (
 oM prog (.buildSlice 22 1 #[(0,(.tmp 0))]) 22 [v53] (fun v54 w=>C_32 w ∧ (
 callM prog 91 #[v45,v51,v54] (fun v55 w=>C_32 w ∧ (
 oH prog (.binOp .eql 3 (.tmp 0) (.tmp 1) 3) 4 [v44,v55] C_32 (fun v56=>
 C_32 w ∧ (K v56 w)))) w)) w)) w) ∧
 (oM prog (.buildSlice 22 1 #[(0,(.tmp 0))]) 22 [v53] (fun v54 w=>C_32 w ∧ (
 callM prog 89 #[v46,v48,v50] (fun v51 w=>C_32 w ∧ (
 callM prog 91 #[v45,v51,v54] (fun v55 w=>C_32 w ∧ (
 oH prog (.binOp .eql 3 (.tmp 0) (.tmp 1) 3) 4 [v44,v55] C_32 (fun v56=>
 C_32 w ∧ (K v56 w)))) w)) w)) w))) w) ∧
 (oM prog (.buildSlice 22 1 #[(0,(.tmp 0))]) 22 [v53] (fun v54 w=>C_32 w ∧ (
 callM prog 90 #[v41,v43] (fun v44 w=>C_32 w ∧ (
 callM prog 89 #[v46,v48,v50] (fun v51 w=>C_32 w ∧ (
 callM prog 91 #[v45,v51,v54] (fun v55 w=>C_32 w ∧ (
 oH prog (.binOp .eql 3 (.tmp 0) (.tmp 1) 3) 4 [v44,v55] C_32 (fun v56=>
 C_32 w ∧ (K v56 w)))) w)) w)) w)) w)))))))))))))))) w) w) w) w) w) w) w) w) w) w) w) w) w) w) w) w) w) w) w) w) w) w) w) w) w) w) w) w) w) w) w) w
theorem sh_36_ok {a0 a1 a2:Value} {K:Value → World → Prop} {w:World} (h:sh_36 a0 a1 a2 K w):callM prog 36 #[a0,a1,a2] K w:=
 calls_of_code (fun _=>.tree (.look 0 (.look 1 (.look 2 (.look 4 (.look 5 (.look 6 (.look 7 (.look 8 (.look 9 (.look 11 (.look 12 (.alt 3 (.alt 10 (.only 13 (.only 14 (.look 15 (.only 16 (.done))))) (.only 13 (.only 10 (.only 14 (.look 15 (.only 16 (.done))))))) (.only 13 (.only 3 (.only 10 (.only 14 (.look 15 (.only 16 (.done)))))))))))))))))))) (fn:=Tryz.f36) (rs:=[.tmp 6]) Tryz.func36 rfl rfl (by kernel_rfl) (Nat.le_of_ble_eq_true rfl) (Eq.mp (by kernel_rfl) h)
def sh_32 (a0 a1 a2 a3 a4:Value) (K:Value → World → Prop) (w:World):Prop:=
 oM prog (.box 32 (.tmp 0)) 0 [a0] (fun v5 w=>
 oM prog (.box 41 (.tmp 0)) 0 [a1] (fun v6 w=>
 oM prog (.box 49 (.tmp 0)) 0 [a2] (fun v7 w=>
 oM prog (.box 49 (.tmp 0)) 0 [a3] (fun v8 w=>
 oM prog (.load 32 (.tmp 0)) 32 [v5] (fun v17 w=>
 oM prog (.load 41 (.tmp 0)) 41 [v6] (fun v18 w=>
 oM prog (.load 49 (.tmp 0)) 49 [v7] (fun v19 w=>
 oM prog (.load 49 (.tmp 0)) 49 [v8] (fun v20 w=>
 callM prog 88 #[v17,v18,v19,v20] (fun v21 w=>
 oM prog (.extract (.tmp 0) 0) 116 [v21] (fun v22 w=>
 oM prog (.extract (.tmp 0) 1) 22 [v21] (fun v23 w=>
 oM prog (.extract (.tmp 0) 2) 4 [v21] (fun v24 w=>
 oM prog (.alloc 116) 0 [] (fun v11 w=>
 oM prog (.store 116 (.tmp 0) (.tmp 1)) 0 [v11,v22] (fun _ w=>
 oM prog (.unOp .not 4 (.tmp 0)) 4 [v24] (fun v26 w=>
 gdM (gd v26 false) (pureM a4) (fun v28 w=>
 gdM (gd v26 false) (oM prog (.call (Go.Call.mk (.builtin .len) #[(.tmp 0)] #[22])) 3 [v28]) (fun v29 w=>
 gdM (gd v26 false) (pureM v23) (fun v30 w=>
 gdM (gd v26 false) (oM prog (.call (Go.Call.mk (.builtin .len) #[(.tmp 0)] #[22])) 3 [v30]) (fun v31 w=>
 gdM (gd v26 false) (oM prog (.binOp .sub 3 (.tmp 0) (.tmp 1) 3) 3 [v31,(.int .i64 1)]) (fun v32 w=>
 gdM (gd v26 false) (oM prog (.binOp .neq 3 (.tmp 0) (.tmp 1) 3) 4 [v29,v32]) (fun v33 w=>
 oM prog (.pick (.tmp 0) (.tmp 1) (.tmp 2)) 4 [v26,(.bool true),v33] (fun v34 w=>
 gdM (gd v34 false) (oM prog (.load 116 (.tmp 0)) 116 [v11]) (fun v36 w=>
 gdM (gd v34 false) (pureM a4) (fun v37 w=>
 gdM (gd v34 false) (callM prog 65 #[v36,(.int .i64 0),v37]) (fun v38 w=>
 gdM (gd v34 false) (oM prog (.unOp .not 4 (.tmp 0)) 4 [v38]) (fun v39 w=>
 oM prog (.pick (.tmp 0) (.tmp 1) (.tmp 2)) 4 [v34,(.bool true),v39] (fun v40 w=>
 condM v40
 (K (.bool false) w)
 (oM prog (.call (Go.Call.mk (.builtin .len) #[(.tmp 0)] #[22])) 3 [a4] (fun v42 w=>
 loopM [undef,undef,(.bool false),(.int .i64 0)] w (fun J_28 m_29 l_30 u_l_30 w0_l_30=>(fun w=>(
 oM prog (.binOp .lss 3 (.tmp 0) (.tmp 1) 3) 0 [(l_30.getD 3 undef),v42] (fun v44 w=>
 condM v44
 (oM prog (.indexAddr 22 (.tmp 0) (.tmp 1)) 0 [a4,(l_30.getD 3 undef)] (fun v46 w=>
 oM prog (.load 3 (.tmp 0)) 3 [v46] (fun v47 w=>
 heldM w (fun C_34 w=>(oH prog (.load 116 (.tmp 0)) 116 [v11] C_34 (fun v48=>
 pureH v47 C_34 (fun v49=>
 pureH v23 C_34 (fun v50=>
 oH prog (.indexAddr 22 (.tmp 0) (.tmp 1)) 0 [v50,(.int .i64 0)] C_34 (fun v51=>
 oH prog (.load 3 (.tmp 0)) 3 [v51] C_34 (fun v52=>
 pureH v23 C_34 (fun v55=>
 pureH (l_30.getD 3 undef) C_34 (fun v56=>
 oH prog (.binOp .add 3 (.tmp 0) (.tmp 1) 3) 3 [v56,(.int .i64 1)] C_34 (fun v57=>
 oH prog (.indexAddr 22 (.tmp 0) (.tmp 1)) 0 [v55,v57] C_34 (fun v58=>
 oH prog (.load 3 (.tmp 0)) 3 [v58] C_34 (fun v59=>
 oM prog (.buildSlice 22 1 #[(0,(.tmp 0))]) 22 [v52] (fun v53 w=>C_34 w ∧ (
 callM prog 71 #[v48,v49,v53] (fun v54 w=>C_34 w ∧ (
 oM prog (.binOp .neq 3 (.tmp 0) (.tmp 1) 3) 4 [v54,v59] (fun v60 w=>C_34 w ∧ (
 condM v60
 (K (.bool false) w)
 (oM prog (.binOp .add 3 (.tmp 0) (.tmp 1) 3) 3 [(l_30.getD 3 undef),(.int .i64 1)] (fun v61 w=>
 J_28 [(l_30.getD 3 undef),v47,(l_30.getD 2 undef),v61] w ∧ m_29 [(l_30.getD 3 undef),v47,(l_30.getD 2 undef),v61] w < m_29 l_30 w0_l_30) w))) w)) w)) w))))))))))))) w) w)
 (K (.bool true) w)) w)) w0_l_30)) w)) w) w) w) w) w) w) w) w) w) w) w) w) w) w) w) w) w) w) w) w) w) w) w) w) w) w) w
theorem sh_32_ok {a0 a1 a2 a3 a4:Value} {K:Value → World → Prop} {w:World} (h:sh_32 a0 a1 a2 a3 a4 K w):callM prog 32 #[a0,a1,a2,a3,a4] K w:=
 calls_of_code (fun _=>2) (fn:=Tryz.f32) (rs:=[.tmp 10]) Tryz.func32 rfl rfl (by kernel_rfl) (Nat.le_of_ble_eq_true rfl) (Eq.mp (by kernel_rfl) h)
def sh_67 (a0 a1:Value) (K:Value → World → Prop) (w:World):Prop:=
 oM prog (.box 32 (.tmp 0)) 0 [a0] (fun v2 w=>
 oM prog (.alloc 116) 0 [] (fun v4 w=>
 oM prog (.load 32 (.tmp 0)) 32 [v2] (fun v11 w=>
 callM prog 134 #[v11,a1] (fun v13 w=>
 oM prog (.extract (.tmp 0) 0) 116 [v13] (fun v14 w=>
 oM prog (.extract (.tmp 0) 1) 3 [v13] (fun v15 w=>
 oM prog (.extract (.tmp 0) 2) 4 [v13] (fun v16 w=>
 oM prog (.alloc 116) 0 [] (fun v7 w=>
 oM prog (.store 116 (.tmp 0) (.tmp 1)) 0 [v7,v14] (fun _ w=>
 oM prog (.load 116 (.tmp 0)) 116 [v7] (fun v17 w=>
 gdM (gd v16 true) (pureM v15) (fun v21 w=>
 gdM (gd v16 true) (oM prog (.binOp .neq 3 (.tmp 0) (.const (.int .i64 1)) 3) 4 [v21]) (fun v22 w=>
 oM prog (.pick (.tmp 0) (.tmp 1) (.tmp 2)) 4 [v16,v22,(.bool false)] (fun v23 w=>
 oM prog (.store 116 (.tmp 0) (.tmp 1)) 0 [v4,v17] (fun _ w=>
 ∃ r_13,(do loadVar 116 (← asAddr v4):Sem Value).run prog w = .ok r_13 w ∧ K (.tuple #[r_13,v15,v23]) w) w) w) w) w) w) w) w) w) w) w) w) w) w) w
theorem sh_67_ok {a0 a1:Value} {K:Value → World → Prop} {w:World} (h:sh_67 a0 a1 K w):callM prog 67 #[a0,a1] K w:=
 calls_of_code (fun _=>2) (fn:=Tryz.f67) (rs:=[.cell 4 116,.tmp 5,.tmp 6]) Tryz.func67 rfl rfl (by kernel_rfl) (Nat.le_of_ble_eq_true rfl) (Eq.mp (by kernel_rfl) h)
def sh_68 (a0 a1:Value) (K:Value → World → Prop) (w:World):Prop:=
 oM prog (.box 116 (.tmp 0)) 0 [a0] (fun v2 w=>
 oM prog (.box 45 (.tmp 0)) 0 [a1] (fun v3 w=>
 oM prog (.load 116 (.tmp 0)) 116 [v2] (fun v5 w=>
 oM prog (.fieldAddr 45 (.tmp 0) 0) 0 [v3] (fun v6 w=>
 oM prog (.load 3 (.tmp 0)) 3 [v6] (fun v7 w=>
 oM prog (.fieldAddr 45 (.tmp 0) 1) 0 [v3] (fun v8 w=>
 oM prog (.load 3 (.tmp 0)) 3 [v8] (fun v9 w=>
 oM prog (.buildSlice 22 2 #[(0,(.tmp 0)),(1,(.tmp 1))]) 22 [v7,v9] (fun v10 w=>
 callM prog 65 #[v5,(.int .i64 1),v10] (fun v11 w=>
 gdM (gd v11 true) (oM prog (.load 116 (.tmp 0)) 116 [v2]) (fun v13 w=>
 gdM (gd v11 true) (oM prog (.fieldAddr 45 (.tmp 0) 2) 0 [v3]) (fun v14 w=>
 gdM (gd v11 true) (oM prog (.load 3 (.tmp 0)) 3 [v14]) (fun v15 w=>
 gdM (gd v11 true) (oM prog (.buildSlice 22 1 #[(0,(.tmp 0))]) 22 [v15]) (fun v16 w=>
 gdM (gd v11 true) (callM prog 65 #[v13,(.int .i64 0),v16]) (fun v17 w=>
 oM prog (.pick (.tmp 0) (.tmp 1) (.tmp 2)) 4 [v11,v17,(.bool false)] (fun v18 w=>
 gdM (gd v18 true) (oM prog (.fieldAddr 45 (.tmp 0) 3) 0 [v3]) (fun v20 w=>
 gdM (gd v18 true) (oM prog (.load 22 (.tmp 0)) 22 [v20]) (fun v21 w=>
 gdM (gd v18 true) (oM prog (.call (Go.Call.mk (.builtin .len) #[(.tmp 0)] #[22])) 3 [v21]) (fun v22 w=>
 gdM (gd v18 true) (oM prog (.fieldAddr 116 (.tmp 0) 0) 0 [v2]) (fun v23 w=>
 gdM (gd v18 true) (oM prog (.fieldAddr 32 (.tmp 0) 1) 0 [v23]) (fun v24 w=>
 gdM (gd v18 true) (oM prog (.load 22 (.tmp 0)) 22 [v24]) (fun v25 w=>
 gdM (gd v18 true) (oM prog (.call (Go.Call.mk (.builtin .len) #[(.tmp 0)] #[22])) 3 [v25]) (fun v26 w=>
 gdM (gd v18 true) (oM prog (.binOp .eql 3 (.tmp 0) (.tmp 1) 3) 4 [v22,v26]) (fun v27 w=>
 oM prog (.pick (.tmp 0) (.tmp 1) (.tmp 2)) 4 [v18,v27,(.bool false)] (fun v28 w=>
 gdM (gd v28 true) (oM prog (.load 116 (.tmp 0)) 116 [v2]) (fun v30 w=>
 gdM (gd v28 true) (oM prog (.fieldAddr 45 (.tmp 0) 3) 0 [v3]) (fun v31 w=>
 gdM (gd v28 true) (oM prog (.load 22 (.tmp 0)) 22 [v31]) (fun v32 w=>
 gdM (gd v28 true) (callM prog 65 #[v30,(.int .i64 0),v32]) (fun v33 w=>
 oM prog (.pick (.tmp 0) (.tmp 1) (.tmp 2)) 4 [v28,v33,(.bool false)] (fun v34 w=>
 K v34 w) w) w) w) w) w) w) w) w) w) w) w) w) w) w) w) w) w) w) w) w) w) w) w) w) w) w) w) w) w
theorem sh_68_ok {a0 a1:Value} {K:Value → World → Prop} {w:World} (h:sh_68 a0 a1 K w):callM prog 68 #[a0,a1] K w:=
 calls_of_code (fun _=>2) (fn:=Tryz.f68) (rs:=[.tmp 4]) Tryz.func68 rfl rfl (by kernel_rfl) (Nat.le_of_ble_eq_true rfl) (Eq.mp (by kernel_rfl) h)
def sh_65 (a0 a1 a2:Value) (K:Value → World → Prop) (w:World):Prop:=
 oM prog (.box 116 (.tmp 0)) 0 [a0] (fun v3 w=>
 oM prog (.box 3 (.tmp 0)) 0 [a1] (fun v4 w=>
 oM prog (.makeFunc (Go.Fn.func 133) #[] #[(.tmp 0),(.tmp 1)]) 138 [v4,v3] (fun v8 w=>
 callM prog 92 #[a2,v8] (fun v9 w=>
 oM prog (.unOp .not 4 (.tmp 0)) 4 [v9] (fun v10 w=>
 K v10 w) w) w) w) w) w
theorem sh_65_ok {a0 a1 a2:Value} {K:Value → World → Prop} {w:World} (h:sh_65 a0 a1 a2 K w):callM prog 65 #[a0,a1,a2] K w:=
 calls_of_code (fun _=>0) (fn:=Tryz.f65) (rs:=[.tmp 6]) Tryz.func65 rfl rfl (by kernel_rfl) (Nat.le_of_ble_eq_true rfl) (Eq.mp (by kernel_rfl) h)
def sh_69 (a0:Value) (K:Value → World → Prop) (w:World):Prop:=
 callM prog 136 #[a0] (fun v4 w=>
 oM prog (.buildSlice 22 1 #[(0,(.tmp 0))]) 22 [(.int .i64 1)] (fun v5 w=>
 callM prog 135 #[v4,(.int .i64 0),v5] (fun v6 w=>
 K v6 w) w) w) w
theorem sh_69_ok {a0:Value} {K:Value → World → Prop} {w:World} (h:sh_69 a0 K w):callM prog 69 #[a0] K w:=
 calls_of_code (fun _=>2) (fn:=Tryz.f69) (rs:=[.tmp 2]) Tryz.func69 rfl rfl (by kernel_rfl) (Nat.le_of_ble_eq_true rfl) (Eq.mp (by kernel_rfl) h)
def sh_70 (a0 a1 a2:Value) (K:Value → World → Prop) (w:World):Prop:=
 oM prog (.box 116 (.tmp 0)) 0 [a0] (fun v3 w=>
 oM prog (.fieldAddr 116 (.tmp 0) 0) 0 [v3] (fun v7 w=>
 oM prog (.fieldAddr 32 (.tmp 0) 0) 0 [v7] (fun v8 w=>
 oM prog (.fieldAddr 30 (.tmp 0) 1) 0 [v8] (fun v9 w=>
 oM prog (.load 3 (.tmp 0)) 3 [v9] (fun v10 w=>
 callM prog 26 #[v10,a1,a2] (fun v13 w=>
 K v13 w) w) w) w) w) w) w
theorem sh_70_ok {a0 a1 a2:Value} {K:Value → World → Prop} {w:World} (h:sh_70 a0 a1 a2 K w):callM prog 70 #[a0,a1,a2] K w:=
 calls_of_code (fun _=>2) (fn:=Tryz.f70) (rs:=[.tmp 6]) Tryz.func70 rfl rfl (by kernel_rfl) (Nat.le_of_ble_eq_true rfl) (Eq.mp (by kernel_rfl) h)
def sh_71 (a0 a1 a2:Value) (K:Value → World → Prop) (w:World):Prop:=
 oM prog (.box 116 (.tmp 0)) 0 [a0] (fun v3 w=>
 oM prog (.call (Go.Call.mk (.builtin .len) #[(.tmp 0)] #[22])) 3 [a2] (fun v10 w=>
 loopM [undef,a1,(.int .i64 0)] w (fun J_3 m_4 l_5 u_l_5 w0_l_5=>(fun w=>(
 oM prog (.binOp .lss 3 (.tmp 0) (.tmp 1) 3) 0 [(l_5.getD 2 undef),v10] (fun v12 w=>
 condM v12
 (oM prog (.indexAddr 22 (.tmp 0) (.tmp 1)) 0 [a2,(l_5.getD 2 undef)] (fun v13 w=>
 oM prog (.load 3 (.tmp 0)) 3 [v13] (fun v14 w=>
 oM prog (.fieldAddr 116 (.tmp 0) 0) 0 [v3] (fun v15 w=>
 oM prog (.fieldAddr 32 (.tmp 0) 0) 0 [v15] (fun v16 w=>
 oM prog (.fieldAddr 30 (.tmp 0) 1) 0 [v16] (fun v17 w=>
 oM prog (.load 3 (.tmp 0)) 3 [v17] (fun v18 w=>
 callM prog 27 #[v18,(l_5.getD 1 undef),v14] (fun v21 w=>
 oM prog (.binOp .add 3 (.tmp 0) (.tmp 1) 3) 3 [(l_5.getD 2 undef),(.int .i64 1)] (fun v22 w=>
 J_3 [v14,v21,v22] w ∧ m_4 [v14,v21,v22] w < m_4 l_5 w0_l_5) w) w) w) w) w) w) w) w)
 (K (l_5.getD 1 undef) w)) w)) w0_l_5)) w) w
theorem sh_71_ok {a0 a1 a2:Value} {K:Value → World → Prop} {w:World} (h:sh_71 a0 a1 a2 K w):callM prog 71 #[a0,a1,a2] K w:=
 calls_of_code (fun _=>2) (fn:=Tryz.f71) (rs:=[.tmp 6]) Tryz.func71 rfl rfl (by kernel_rfl) (Nat.le_of_ble_eq_true rfl) (Eq.mp (by kernel_rfl) h)
def sh_89 (a0 a1 a2:Value) (K:Value → World → Prop) (w:World):Prop:=
 oM prog (.box 116 (.tmp 0)) 0 [a0] (fun v3 w=>
 oM prog (.fieldAddr 116 (.tmp 0) 0) 0 [v3] (fun v7 w=>
 oM prog (.fieldAddr 32 (.tmp 0) 0) 0 [v7] (fun v8 w=>
 oM prog (.load 30 (.tmp 0)) 30 [v8] (fun v9 w=>
 callM prog 24 #[v9,a1,a2] (fun v12 w=>
 K v12 w) w) w) w) w) w
theorem sh_89_ok {a0 a1 a2:Value} {K:Value → World → Prop} {w:World} (h:sh_89 a0 a1 a2 K w):callM prog 89 #[a0,a1,a2] K w:=
 calls_of_code (fun _=>2) (fn:=Tryz.f89) (rs:=[.tmp 6]) Tryz.func89 rfl rfl (by kernel_rfl) (Nat.le_of_ble_eq_true rfl) (Eq.mp (by kernel_rfl) h)
def sh_66 (a0 a1:Value) (K:Value → World → Prop) (w:World):Prop:=
 oM prog (.box 116 (.tmp 0)) 0 [a0] (fun v2 w=>
 oM prog (.load 116 (.tmp 0)) 116 [v2] (fun v5 w=>
 oM prog (.fieldAddr 116 (.tmp 0) 0) 0 [v2] (fun v6 w=>
 oM prog (.fieldAddr 32 (.tmp 0) 0) 0 [v6] (fun v7 w=>
 oM prog (.fieldAddr 30 (.tmp 0) 2) 0 [v7] (fun v8 w=>
 oM prog (.load 3 (.tmp 0)) 3 [v8] (fun v9 w=>
 callM prog 89 #[v5,v9,a1] (fun v11 w=>
 K v11 w) w) w) w) w) w) w) w
theorem sh_66_ok {a0 a1:Value} {K:Value → World → Prop} {w:World} (h:sh_66 a0 a1 K w):callM prog 66 #[a0,a1] K w:=
 calls_of_code (fun _=>2) (fn:=Tryz.f66) (rs:=[.tmp 4]) Tryz.func66 rfl rfl (by kernel_rfl) (Nat.le_of_ble_eq_true rfl) (Eq.mp (by kernel_rfl) h)
def sh_64 (a0:Value) (K:Value → World → Prop) (w:World):Prop:=
 oM prog (.box 32 (.tmp 0)) 0 [a0] (fun v1 w=>
 oM prog (.alloc 116) 0 [] (fun v2 w=>
 heldM w (fun C_3 w=>(oH prog (.load 32 (.tmp 0)) 32 [v1] C_3 (fun v4=>
 oH prog (.load 32 (.tmp 0)) 32 [v1] C_3 (fun v6=>
 (oM prog (.build 116 #[(0,(.tmp 0))]) 116 [v4] (fun v5 w=>C_3 w ∧ (
 callM prog 128 #[v6] (fun v7 w=>C_3 w ∧ (
 oM prog (.store 116 (.tmp 0) (.tmp 1)) 0 [v2,v5] (fun _ w=>C_3 w ∧ (
 C_3 w ∧ (∃ r_9,(do loadVar 116 (← asAddr v2):Sem Value).run prog w = .ok r_9 w ∧ K (.tuple #[r_9,v7]) w))) w)) w)) w) ∧
 (callM prog 128 #[v6] (fun v7 w=>C_3 w ∧ (
 oM prog (.build 116 #[(0,(.tmp 0))]) 116 [v4] (fun v5 w=>C_3 w ∧ (
 oM prog (.store 116 (.tmp 0) (.tmp 1)) 0 [v2,v5] (fun _ w=>C_3 w ∧ (
 C_3 w ∧ (∃ r_13,(do loadVar 116 (← asAddr v2):Sem Value).run prog w = .ok r_13 w ∧ K (.tuple #[r_13,v7]) w))) w)) w)) w)))))) w) w
theorem sh_64_ok {a0:Value} {K:Value → World → Prop} {w:World} (h:sh_64 a0 K w):callM prog 64 #[a0] K w:=
 calls_of_code (fun _=>.tree (.look 0 (.look 2 (.alt 1 (.only 3 (.only 4 (.only 5 (.done)))) (.only 3 (.only 1 (.only 4 (.only 5 (.done))))))))) (fn:=Tryz.f64) (rs:=[.cell 2 116,.tmp 3]) Tryz.func64 rfl rfl (by kernel_rfl) (Nat.le_of_ble_eq_true rfl) (Eq.mp (by kernel_rfl) h)
def sh_134 (a0 a1:Value) (K:Value → World → Prop) (w:World):Prop:=
 oM prog (.box 32 (.tmp 0)) 0 [a0] (fun v2 w=>
 oM prog (.alloc 116) 0 [] (fun v4 w=>
 oM prog (.load 32 (.tmp 0)) 32 [v2] (fun v10 w=>
 callM prog 64 #[v10] (fun v11 w=>
 oM prog (.extract (.tmp 0) 0) 116 [v11] (fun v12 w=>
 oM prog (.extract (.tmp 0) 1) 4 [v11] (fun v13 w=>
 oM prog (.alloc 116) 0 [] (fun v7 w=>
 oM prog (.store 116 (.tmp 0) (.tmp 1)) 0 [v7,v12] (fun _ w=>
 oM prog (.unOp .not 4 (.tmp 0)) 4 [v13] (fun v15 w=>
 gdM (gd v15 false) (pureM a1) (fun v17 w=>
 gdM (gd v15 false) (oM prog (.call (Go.Call.mk (.builtin .len) #[(.tmp 0)] #[22])) 3 [v17]) (fun v18 w=>
 gdM (gd v15 false) (oM prog (.fieldAddr 32 (.tmp 0) 1) 0 [v2]) (fun v19 w=>
 gdM (gd v15 false) (oM prog (.load 22 (.tmp 0)) 22 [v19]) (fun v20 w=>
 gdM (gd v15 false) (oM prog (.call (Go.Call.mk (.builtin .len) #[(.tmp 0)] #[22])) 3 [v20]) (fun v21 w=>
 gdM (gd v15 false) (oM prog (.binOp .sub 3 (.tmp 0) (.tmp 1) 3) 3 [v21,(.int .i64 1)]) (fun v22 w=>
 gdM (gd v15 false) (oM prog (.binOp .neq 3 (.tmp 0) (.tmp 1) 3) 4 [v18,v22]) (fun v23 w=>
 oM prog (.pick (.tmp 0) (.tmp 1) (.tmp 2)) 4 [v15,(.bool true),v23] (fun v24 w=>
 gdM (gd v24 false) (oM prog (.load 116 (.tmp 0)) 116 [v7]) (fun v26 w=>
 gdM (gd v24 false) (pureM a1) (fun v27 w=>
 gdM (gd v24 false) (callM prog 65 #[v26,(.int .i64 0),v27]) (fun v28 w=>
 gdM (gd v24 false) (oM prog (.unOp .not 4 (.tmp 0)) 4 [v28]) (fun v29 w=>
 oM prog (.pick (.tmp 0) (.tmp 1) (.tmp 2)) 4 [v24,(.bool true),v29] (fun v30 w=>
 gdM (gd v30 false) (pureM a1) (fun v32 w=>
 gdM (gd v30 false) (oM prog (.indexAddr 22 (.tmp 0) (.tmp 1)) 0 [v32,(.int .i64 0)]) (fun v33 w=>
 gdM (gd v30 false) (oM prog (.load 3 (.tmp 0)) 3 [v33]) (fun v34 w=>
 gdM (gd v30 false) (oM prog (.binOp .eql 3 (.tmp 0) (.const (.int .i64 0)) 3) 4 [v34]) (fun v35 w=>
 oM prog (.pick (.tmp 0) (.tmp 1) (.tmp 2)) 4 [v30,(.bool true),v35] (fun v36 w=>
 condM v36
 (oM prog (.load 116 (.tmp 0)) 116 [v7] (fun v37 w=>
 oM prog (.store 116 (.tmp 0) (.tmp 1)) 0 [v4,v37] (fun _ w=>
 ∃ r_28,(do loadVar 116 (← asAddr v4):Sem Value).run prog w = .ok r_28 w ∧ K (.tuple #[r_28,(.int .i64 0),(.bool false)]) w) w) w)
 (heldM w (fun C_29 w=>(oH prog (.load 116 (.tmp 0)) 116 [v7] C_29 (fun v38=>
 oH prog (.load 116 (.tmp 0)) 116 [v7] C_29 (fun v39=>
 pureH a1 C_29 (fun v40=>
 callM prog 69 #[v40] (fun v41 w=>C_29 w ∧ (
 callM prog 90 #[v39,v41] (fun v42 w=>C_29 w ∧ (
 oM prog (.store 116 (.tmp 0) (.tmp 1)) 0 [v4,v38] (fun _ w=>C_29 w ∧ (
 C_29 w ∧ (C_29 w ∧ (∃ r_37,(do loadVar 116 (← asAddr v4):Sem Value).run prog w = .ok r_37 w ∧ K (.tuple #[r_37,v42,(.bool true)]) w)))) w)) w)) w))))))) w) w) w) w) w) w) w) w) w) w) w) w) w) w) w) w) w) w) w) w) w) w) w) w) w) w) w
theorem sh_134_ok {a0 a1:Value} {K:Value → World → Prop} {w:World} (h:sh_134 a0 a1 K w):callM prog 134 #[a0,a1] K w:=
 calls_of_code (fun _=>2) (fn:=Tryz.f134) (rs:=[.cell 4 116,.tmp 5,.tmp 6]) Tryz.func134 rfl rfl (by kernel_rfl) (Nat.le_of_ble_eq_true rfl) (Eq.mp (by kernel_rfl) h)
def sh_74 (a0 a1 a2:Value) (K:Value → World → Prop) (w:World):Prop:=
 oM prog (.box 116 (.tmp 0)) 0 [a0] (fun v3 w=>
 heldM w (fun C_2 w=>(oH prog (.load 116 (.tmp 0)) 116 [v3] C_2 (fun v7=>
 pureH a1 C_2 (fun v8=>
 oH prog (.fieldAddr 116 (.tmp 0) 0) 0 [v3] C_2 (fun v9=>
 oH prog (.fieldAddr 32 (.tmp 0) 0) 0 [v9] C_2 (fun v10=>
 oH prog (.fieldAddr 30 (.tmp 0) 1) 0 [v10] C_2 (fun v11=>
 oH prog (.load 3 (.tmp 0)) 3 [v11] C_2 (fun v12=>
 pureH a2 C_2 (fun v13=>
 callM prog 127 #[v12,v13,(.int .i64 (-1))] (fun v14 w=>C_2 w ∧ (
 oM prog (.buildSlice 22 1 #[(0,(.tmp 0))]) 22 [v14] (fun v15 w=>C_2 w ∧ (
 callM prog 71 #[v7,v8,v15] (fun v16 w=>C_2 w ∧ (
 C_2 w ∧ (K v16 w))) w)) w)) w)))))))))) w
theorem sh_74_ok {a0 a1 a2:Value} {K:Value → World → Prop} {w:World} (h:sh_74 a0 a1 a2 K w):callM prog 74 #[a0,a1,a2] K w:=
 calls_of_code (fun _=>2) (fn:=Tryz.f74) (rs:=[.tmp 6]) Tryz.func74 rfl rfl (by kernel_rfl) (Nat.le_of_ble_eq_true rfl) (Eq.mp (by kernel_rfl) h)
def sh_77 (a0 a1 a2:Value) (K:Value → World → Prop) (w:World):Prop:=
 oM prog (.box 116 (.tmp 0)) 0 [a0] (fun v3 w=>
 oM prog (.fieldAddr 116 (.tmp 0) 0) 0 [v3] (fun v7 w=>
 oM prog (.fieldAddr 32 (.tmp 0) 0) 0 [v7] (fun v8 w=>
 oM prog (.fieldAddr 30 (.tmp 0) 1) 0 [v8] (fun v9 w=>
 oM prog (.load 3 (.tmp 0)) 3 [v9] (fun v10 w=>
 callM prog 28 #[v10,a1,a2] (fun v13 w=>
 K v13 w) w) w) w) w) w) w
theorem sh_77_ok {a0 a1 a2:Value} {K:Value → World → Prop} {w:World} (h:sh_77 a0 a1 a2 K w):callM prog 77 #[a0,a1,a2] K w:=
 calls_of_code (fun _=>2) (fn:=Tryz.f77) (rs:=[.tmp 6]) Tryz.func77 rfl rfl (by kernel_rfl) (Nat.le_of_ble_eq_true rfl) (Eq.mp (by kernel_rfl) h)
def sh_92 (a0 a1:Value) (K:Value → World → Prop) (w:World):Prop:=
 callM prog 143 #[a0,a1] (fun v7 w=>
 oM prog (.binOp .geq 3 (.tmp 0) (.tmp 1) 3) 4 [v7,(.int .i64 0)] (fun v8 w=>
 K v8 w) w) w
theorem sh_92_ok {a0 a1:Value} {K:Value → World → Prop} {w:World} (h:sh_92 a0 a1 K w):callM prog 92 #[a0,a1] K w:=
 calls_of_code (fun _=>0) (fn:=Tryz.f92) (rs:=[.tmp 4]) Tryz.func92 rfl rfl (by kernel_rfl) (Nat.le_of_ble_eq_true rfl) (Eq.mp (by kernel_rfl) h)
def sh_88 (a0 a1 a2 a3:Value) (K:Value → World → Prop) (w:World):Prop:=
 oM prog (.box 32 (.tmp 0)) 0 [a0] (fun v4 w=>
 oM prog (.box 41 (.tmp 0)) 0 [a1] (fun v5 w=>
 oM prog (.box 49 (.tmp 0)) 0 [a2] (fun v6 w=>
 oM prog (.box 49 (.tmp 0)) 0 [a3] (fun v7 w=>
 oM prog (.alloc 116) 0 [] (fun v8 w=>
 oM prog (.fieldAddr 49 (.tmp 0) 0) 0 [v6] (fun v15 w=>
 oM prog (.load 3 (.tmp 0)) 3 [v15] (fun v16 w=>
 oM prog (.fieldAddr 49 (.tmp 0) 0) 0 [v7] (fun v17 w=>
 oM prog (.load 3 (.tmp 0)) 3 [v17] (fun v18 w=>
 oM prog (.binOp .eql 3 (.tmp 0) (.tmp 1) 3) 4 [v16,v18] (fun v19 w=>
 gdM (gd v19 false) (oM prog (.load 32 (.tmp 0)) 32 [v4]) (fun v21 w=>
 gdM (gd v19 false) (oM prog (.load 41 (.tmp 0)) 41 [v5]) (fun v22 w=>
 gdM (gd v19 false) (oM prog (.load 49 (.tmp 0)) 49 [v6]) (fun v23 w=>
 gdM (gd v19 false) (callM prog 36 #[v21,v22,v23]) (fun v24 w=>
 gdM (gd v19 false) (oM prog (.unOp .not 4 (.tmp 0)) 4 [v24]) (fun v25 w=>
 oM prog (.pick (.tmp 0) (.tmp 1) (.tmp 2)) 4 [v19,(.bool true),v25] (fun v26 w=>
 gdM (gd v26 false) (oM prog (.load 32 (.tmp 0)) 32 [v4]) (fun v28 w=>
 gdM (gd v26 false) (oM prog (.load 41 (.tmp 0)) 41 [v5]) (fun v29 w=>
 gdM (gd v26 false) (oM prog (.load 49 (.tmp 0)) 49 [v7]) (fun v30 w=>
 gdM (gd v26 false) (callM prog 36 #[v28,v29,v30]) (fun v31 w=>
 gdM (gd v26 false) (oM prog (.unOp .not 4 (.tmp 0)) 4 [v31]) (fun v32 w=>
 oM prog (.pick (.tmp 0) (.tmp 1) (.tmp 2)) 4 [v26,(.bool true),v32] (fun v33 w=>
 condM v33
 (oM prog (.build 116 #[]) 116 [] (fun v34 w=>
 oM prog (.store 116 (.tmp 0) (.tmp 1)) 0 [v8,v34] (fun _ w=>
 ∃ r_24,(do loadVar 116 (← asAddr v8):Sem Value).run prog w = .ok r_24 w ∧ K (.tuple #[r_24,(.slice none 0 0),(.bool false)]) w) w) w)
 (oM prog (.load 32 (.tmp 0)) 32 [v4] (fun v35 w=>
 oM prog (.build 116 #[(0,(.tmp 0))]) 116 [v35] (fun v36 w=>
 oM prog (.alloc 116) 0 [] (fun v11 w=>
 oM prog (.store 116 (.tmp 0) (.tmp 1)) 0 [v11,v36] (fun _ w=>
 oM prog (.fieldAddr 49 (.tmp 0) 1) 0 [v6] (fun v37 w=>
 oM prog (.load 22 (.tmp 0)) 22 [v37] (fun v38 w=>
 oM prog (.call (Go.Call.mk (.builtin .len) #[(.tmp 0)] #[22])) 3 [v38] (fun v39 w=>
 loopM [undef,undef,(.slice none 0 0),(.int .i64 0)] w (fun J_31 m_32 l_33 u_l_33 w0_l_33=>(fun w=>(
 oM prog (.binOp .lss 3 (.tmp 0) (.tmp 1) 3) 0 [(l_33.getD 3 undef),v39] (fun v41 w=>
 condM v41
 (oM prog (.indexAddr 22 (.tmp 0) (.tmp 1)) 0 [v38,(l_33.getD 3 undef)] (fun v43 w=>
 oM prog (.load 3 (.tmp 0)) 3 [v43] (fun v44 w=>
 heldM w (fun C_37 w=>(pureH (l_33.getD 2 undef) C_37 (fun v45=>
 oH prog (.load 116 (.tmp 0)) 116 [v11] C_37 (fun v46=>
 pureH v44 C_37 (fun v47=>
 oH prog (.fieldAddr 49 (.tmp 0) 1) 0 [v7] C_37 (fun v48=>
 oH prog (.load 22 (.tmp 0)) 22 [v48] C_37 (fun v49=>
 pureH (l_33.getD 3 undef) C_37 (fun v50=>
 oH prog (.indexAddr 22 (.tmp 0) (.tmp 1)) 0 [v49,v50] C_37 (fun v51=>
 oH prog (.load 3 (.tmp 0)) 3 [v51] C_37 (fun v52=>
 callM prog 77 #[v46,v47,v52] (fun v53 w=>C_37 w ∧ (
 oM prog (.buildSlice 22 1 #[(0,(.tmp 0))]) 22 [v53] (fun v54 w=>C_37 w ∧ (
 oM prog (.call (Go.Call.mk (.builtin .append) #[(.tmp 0),(.tmp 1)] #[22,22])) 22 [v45,v54] (fun v55 w=>C_37 w ∧ (
 C_37 w ∧ (oM prog (.binOp .add 3 (.tmp 0) (.tmp 1) 3) 3 [(l_33.getD 3 undef),(.int .i64 1)] (fun v56 w=>
 J_31 [(l_33.getD 3 undef),v44,v55,v56] w ∧ m_32 [(l_33.getD 3 undef),v44,v55,v56] w < m_32 l_33 w0_l_33) w))) w)) w)) w))))))))))) w) w)
 (heldM w (fun C_51 w=>(oH prog (.load 116 (.tmp 0)) 116 [v11] C_51 (fun v57=>
 pureH (l_33.getD 2 undef) C_51 (fun v58=>
 pureH (l_33.getD 2 undef) C_51 (fun v59=>
 oH prog (.indexAddr 22 (.tmp 0) (.tmp 1)) 0 [v59,(.int .i64 0)] C_51 (fun v60=>
 oH prog (.load 3 (.tmp 0)) 3 [v60] C_51 (fun v61=>
 oH prog (.binOp .neq 3 (.tmp 0) (.const (.int .i64 0)) 3) 4 [v61] C_51 (fun v62=>
 oM prog (.store 116 (.tmp 0) (.tmp 1)) 0 [v8,v57] (fun _ w=>C_51 w ∧ (
 C_51 w ∧ (C_51 w ∧ (∃ r_60,(do loadVar 116 (← asAddr v8):Sem Value).run prog w = .ok r_60 w ∧ K (.tuple #[r_60,v58,v62]) w)))) w)))))))))) w)) w0_l_33)) w) w) w) w) w) w) w)) w) w) w) w) w) w) w) w) w) w) w) w) w) w) w) w) w) w) w) w) w) w
theorem sh_88_ok {a0 a1 a2 a3:Value} {K:Value → World → Prop} {w:World} (h:sh_88 a0 a1 a2 a3 K w):callM prog 88 #[a0,a1,a2,a3] K w:=
 calls_of_code (fun _=>2) (fn:=Tryz.f88) (rs:=[.cell 8 116,.tmp 9,.tmp 10]) Tryz.func88 rfl rfl (by kernel_rfl) (Nat.le_of_ble_eq_true rfl) (Eq.mp (by kernel_rfl) h)
def sh_85 (a0 a1:Value) (K:Value → World → Prop) (w:World):Prop:=
 oM prog (.box 32 (.tmp 0)) 0 [a0] (fun v2 w=>
 oM prog (.box 41 (.tmp 0)) 0 [a1] (fun v3 w=>
 oM prog (.alloc 116) 0 [] (fun v4 w=>
 oM prog (.load 32 (.tmp 0)) 32 [v2] (fun v9 w=>
 callM prog 64 #[v9] (fun v10 w=>
 oM prog (.extract (.tmp 0) 0) 116 [v10] (fun v11 w=>
 oM prog (.extract (.tmp 0) 1) 4 [v10] (fun v12 w=>
 oM prog (.alloc 116) 0 [] (fun v6 w=>
 oM prog (.store 116 (.tmp 0) (.tmp 1)) 0 [v6,v11] (fun _ w=>
 heldM w (fun C_9 w=>(oH prog (.load 116 (.tmp 0)) 116 [v6] C_9 (fun v13=>
 pureH v12 C_9 (fun v14=>
 pureH v14 C_9 (fun v15=>
 gdH (gd v15 true) (oH prog (.fieldAddr 41 (.tmp 0) 0) 0 [v3]) C_9 (fun v16=>
 gdH (gd v15 true) (oH prog (.load 3 (.tmp 0)) 3 [v16]) C_9 (fun v17=>
 gdH (gd v15 true) (oH prog (.binOp .neq 3 (.tmp 0) (.const (.int .i64 1)) 3) 4 [v17]) C_9 (fun v18=>
 oH prog (.pick (.tmp 0) (.tmp 1) (.tmp 2)) 4 [v15,v18,(.bool false)] C_9 (fun v19=>
 pureH v19 C_9 (fun v20=>
 gdH (gd v20 true) (oH prog (.load 116 (.tmp 0)) 116 [v6]) C_9 (fun v21=>
 gdH (gd v20 true) (oH prog (.fieldAddr 41 (.tmp 0) 0) 0 [v3]) C_9 (fun v22=>
 gdH (gd v20 true) (oH prog (.load 3 (.tmp 0)) 3 [v22]) C_9 (fun v23=>
 gdH (gd v20 true) (oH prog (.fieldAddr 41 (.tmp 0) 1) 0 [v3]) C_9 (fun v24=>
 gdH (gd v20 true) (oH prog (.load 3 (.tmp 0)) 3 [v24]) C_9 (fun v25=>
 gdH (gd v20 true) (oH prog (.fieldAddr 41 (.tmp 0) 2) 0 [v3]) C_9 (fun v26=>
 gdH (gd v20 true) (oH prog (.load 3 (.tmp 0)) 3 [v26]) C_9 (fun v27=>
 gdH (gd v20 true) (oH prog (.fieldAddr 41 (.tmp 0) 3) 0 [v3]) C_9 (fun v28=>
 gdH (gd v20 true) (oH prog (.load 3 (.tmp 0)) 3 [v28]) C_9 (fun v29=>
 gdH (gd v20 true) (oH prog (.fieldAddr 41 (.tmp 0) 4) 0 [v3]) C_9 (fun v30=>
 gdH (gd v20 true) (oH prog (.load 3 (.tmp 0)) 3 [v30]) C_9 (fun v31=>
 gdM (gd v20 true) (oM prog (.buildSlice 22 5 #[(0,(.tmp 0)),(1,(.tmp 1)),(2,(.tmp 2)),(3,(.tmp 3)),(4,(.tmp 4))]) 22 [v23,v25,v27,v29,v31]) (fun v32 w=>C_9 w ∧ (
 gdM (gd v20 true) (callM prog 138 #[v21,v32]) (fun v33 w=>C_9 w ∧ (
 oH prog (.pick (.tmp 0) (.tmp 1) (.tmp 2)) 4 [v20,v33,(.bool false)] C_9 (fun v34=>
 pureH v34 C_9 (fun v35=>
 gdH (gd v35 true) (oH prog (.load 116 (.tmp 0)) 116 [v6]) C_9 (fun v36=>
 gdH (gd v35 true) (oH prog (.fieldAddr 41 (.tmp 0) 5) 0 [v3]) C_9 (fun v37=>
 gdH (gd v35 true) (oH prog (.load 3 (.tmp 0)) 3 [v37]) C_9 (fun v38=>
 gdM (gd v35 true) (oM prog (.buildSlice 22 1 #[(0,(.tmp 0))]) 22 [v38]) (fun v39 w=>C_9 w ∧ (
 gdM (gd v35 true) (callM prog 65 #[v36,(.int .i64 0),v39]) (fun v40 w=>C_9 w ∧ (
 oH prog (.pick (.tmp 0) (.tmp 1) (.tmp 2)) 4 [v35,v40,(.bool false)] C_9 (fun v41=>
 oM prog (.store 116 (.tmp 0) (.tmp 1)) 0 [v4,v13] (fun _ w=>C_9 w ∧ (
 C_9 w ∧ (∃ r_40,(do loadVar 116 (← asAddr v4):Sem Value).run prog w = .ok r_40 w ∧ K (.tuple #[r_40,v41]) w))) w))) w)) w))))))) w)) w)))))))))))))))))))))) w) w) w) w) w) w) w) w) w
theorem sh_85_ok {a0 a1:Value} {K:Value → World → Prop} {w:World} (h:sh_85 a0 a1 K w):callM prog 85 #[a0,a1] K w:=
 calls_of_code (fun _=>.tree (.look 0 (.look 1 (.look 2 (.look 3 (.look 4 (.look 5 (.look 6 (.look 7 (.look 8 (.look 9 (.look 10 (.look 11 (.look 12 (.look 13 (.look 14 (.look 15 (.look 16 (.look 17 (.look 18 (.only 19 (.only 20 (.look 21 (.look 22 (.look 23 (.look 24 (.look 25 (.only 26 (.only 27 (.look 28 (.only 29 (.only 30 (.done))))))))))))))))))))))))))))))))) (fn:=Tryz.f85) (rs:=[.cell 4 116,.tmp 5]) Tryz.func85 rfl rfl (by kernel_rfl) (Nat.le_of_ble_eq_true rfl) (Eq.mp (by kernel_rfl) h)
def sh_87 (a0 a1:Value) (K:Value → World → Prop) (w:World):Prop:=
 oM prog (.box 116 (.tmp 0)) 0 [a0] (fun v2 w=>
 oM prog (.binOp .neq 3 (.tmp 0) (.const (.int .i64 1)) 3) 4 [a1] (fun v6 w=>
 gdM (gd v6 true) (oM prog (.load 116 (.tmp 0)) 116 [v2]) (fun v8 w=>
 gdM (gd v6 true) (pureM a1) (fun v9 w=>
 gdM (gd v6 true) (oM prog (.buildSlice 22 1 #[(0,(.tmp 0))]) 22 [v9]) (fun v10 w=>
 gdM (gd v6 true) (callM prog 138 #[v8,v10]) (fun v11 w=>
 oM prog (.pick (.tmp 0) (.tmp 1) (.tmp 2)) 4 [v6,v11,(.bool false)] (fun v12 w=>
 K v12 w) w) w) w) w) w) w) w
theorem sh_87_ok {a0 a1:Value} {K:Value → World → Prop} {w:World} (h:sh_87 a0 a1 K w):callM prog 87 #[a0,a1] K w:=
 calls_of_code (fun _=>2) (fn:=Tryz.f87) (rs:=[.tmp 4]) Tryz.func87 rfl rfl (by kernel_rfl) (Nat.le_of_ble_eq_true rfl) (Eq.mp (by kernel_rfl) h)
def sh_90 (a0 a1:Value) (K:Value → World → Prop) (w:World):Prop:=
 oM prog (.box 116 (.tmp 0)) 0 [a0] (fun v2 w=>
 oM prog (.fieldAddr 116 (.tmp 0) 0) 0 [v2] (fun v8 w=>
 oM prog (.fieldAddr 32 (.tmp 0) 0) 0 [v8] (fun v9 w=>
 oM prog (.load 30 (.tmp 0)) 30 [v9] (fun v10 w=>
 oM prog (.fieldAddr 116 (.tmp 0) 0) 0 [v2] (fun v11 w=>
 oM prog (.fieldAddr 32 (.tmp 0) 1) 0 [v11] (fun v12 w=>
 oM prog (.load 22 (.tmp 0)) 22 [v12] (fun v13 w=>
 callM prog 141 #[v10,v13,a1] (fun v15 w=>
 oM prog (.extract (.tmp 0) 0) 3 [v15] (fun v16 w=>
 oM prog (.extract (.tmp 0) 1) 4 [v15] (fun v17 w=>
 K v16 w) w) w) w) w) w) w) w) w) w) w
theorem sh_90_ok {a0 a1:Value} {K:Value → World → Prop} {w:World} (h:sh_90 a0 a1 K w):callM prog 90 #[a0,a1] K w:=
 calls_of_code (fun _=>2) (fn:=Tryz.f90) (rs:=[.tmp 4]) Tryz.func90 rfl rfl (by kernel_rfl) (Nat.le_of_ble_eq_true rfl) (Eq.mp (by kernel_rfl) h)
def sh_91 (a0 a1 a2:Value) (K:Value → World → Prop) (w:World):Prop:=
 oM prog (.box 116 (.tmp 0)) 0 [a0] (fun v3 w=>
 oM prog (.call (Go.Call.mk (.builtin .len) #[(.tmp 0)] #[22])) 3 [a2] (fun v10 w=>
 loopM [undef,a1,(.int .i64 0)] w (fun J_3 m_4 l_5 u_l_5 w0_l_5=>(fun w=>(
 oM prog (.binOp .lss 3 (.tmp 0) (.tmp 1) 3) 0 [(l_5.getD 2 undef),v10] (fun v12 w=>
 condM v12
 (oM prog (.indexAddr 22 (.tmp 0) (.tmp 1)) 0 [a2,(l_5.getD 2 undef)] (fun v13 w=>
 oM prog (.load 3 (.tmp 0)) 3 [v13] (fun v14 w=>
 oM prog (.fieldAddr 116 (.tmp 0) 0) 0 [v3] (fun v15 w=>
 oM prog (.fieldAddr 32 (.tmp 0) 0) 0 [v15] (fun v16 w=>
 oM prog (.load 30 (.tmp 0)) 30 [v16] (fun v17 w=>
 callM prog 142 #[v17,(l_5.getD 1 undef),v14] (fun v20 w=>
 oM prog (.binOp .add 3 (.tmp 0) (.tmp 1) 3) 3 [(l_5.getD 2 undef),(.int .i64 1)] (fun v21 w=>
 J_3 [v14,v20,v21] w ∧ m_4 [v14,v20,v21] w < m_4 l_5 w0_l_5) w) w) w) w) w) w) w)
 (K (l_5.getD 1 undef) w)) w)) w0_l_5)) w) w
theorem sh_91_ok {a0 a1 a2:Value} {K:Value → World → Prop} {w:World} (h:sh_91 a0 a1 a2 K w):callM prog 91 #[a0,a1,a2] K w:=
 calls_of_code (fun _=>2) (fn:=Tryz.f91) (rs:=[.tmp 6]) Tryz.func91 rfl rfl (by kernel_rfl) (Nat.le_of_ble_eq_true rfl) (Eq.mp (by kernel_rfl) h)
def sh_128 (a0:Value) (K:Value → World → Prop) (w:World):Prop:=
 oM prog (.box 32 (.tmp 0)) 0 [a0] (fun v1 w=>
 oM prog (.fieldAddr 32 (.tmp 0) 0) 0 [v1] (fun v6 w=>
 oM prog (.load 30 (.tmp 0)) 30 [v6] (fun v7 w=>
 callM prog 131 #[v7] (fun v8 w=>
 oM prog (.unOp .not 4 (.tmp 0)) 4 [v8] (fun v9 w=>
 gdM (gd v9 false) (oM prog (.fieldAddr 32 (.tmp 0) 1) 0 [v1]) (fun v11 w=>
 gdM (gd v9 false) (oM prog (.load 22 (.tmp 0)) 22 [v11]) (fun v12 w=>
 gdM (gd v9 false) (oM prog (.call (Go.Call.mk (.builtin .len) #[(.tmp 0)] #[22])) 3 [v12]) (fun v13 w=>
 gdM (gd v9 false) (oM prog (.binOp .lss 3 (.tmp 0) (.tmp 1) 3) 4 [v13,(.int .i64 2)]) (fun v14 w=>
 oM prog (.pick (.tmp 0) (.tmp 1) (.tmp 2)) 4 [v9,(.bool true),v14] (fun v15 w=>
 gdM (gd v15 false) (oM prog (.fieldAddr 32 (.tmp 0) 1) 0 [v1]) (fun v17 w=>
 gdM (gd v15 false) (oM prog (.load 22 (.tmp 0)) 22 [v17]) (fun v18 w=>
 gdM (gd v15 false) (oM prog (.call (Go.Call.mk (.builtin .len) #[(.tmp 0)] #[22])) 3 [v18]) (fun v19 w=>
 gdM (gd v15 false) (oM prog (.binOp .gtr 3 (.tmp 0) (.tmp 1) 3) 4 [v19,(.int .i64 7)]) (fun v20 w=>
 oM prog (.pick (.tmp 0) (.tmp 1) (.tmp 2)) 4 [v15,(.bool true),v20] (fun v21 w=>
 condM v21
 (K (.bool false) w)
 (oM prog (.makeFunc (Go.Fn.func 173) #[] #[(.tmp 0)]) 138 [v1] (fun v22 w=>
 oM prog (.fieldAddr 32 (.tmp 0) 1) 0 [v1] (fun v23 w=>
 oM prog (.load 22 (.tmp 0)) 22 [v23] (fun v24 w=>
 oM prog (.call (Go.Call.mk (.builtin .len) #[(.tmp 0)] #[22])) 3 [v24] (fun v25 w=>
 loopM [undef,(.bool false),(.int .i64 0)] w (fun J_20 m_21 l_22 u_l_22 w0_l_22=>(fun w=>(
 oM prog (.binOp .lss 3 (.tmp 0) (.tmp 1) 3) 0 [(l_22.getD 2 undef),v25] (fun v27 w=>
 condM v27
 (oM prog (.indexAddr 22 (.tmp 0) (.tmp 1)) 0 [v24,(l_22.getD 2 undef)] (fun v28 w=>
 oM prog (.load 3 (.tmp 0)) 3 [v28] (fun v29 w=>
 oM prog (.call (Go.Call.mk (.value (.tmp 0)) #[(.tmp 1)] #[3])) 4 [v22,v29] (fun v32 w=>
 oM prog (.unOp .not 4 (.tmp 0)) 4 [v32] (fun v33 w=>
 condM v33
 (K (.bool false) w)
 (oM prog (.binOp .add 3 (.tmp 0) (.tmp 1) 3) 3 [(l_22.getD 2 undef),(.int .i64 1)] (fun v34 w=>
 J_20 [v29,(l_22.getD 1 undef),v34] w ∧ m_21 [v29,(l_22.getD 1 undef),v34] w < m_21 l_22 w0_l_22) w)) w) w) w) w)
 (oM prog (.fieldAddr 32 (.tmp 0) 2) 0 [v1] (fun v36 w=>
 oM prog (.load 3 (.tmp 0)) 3 [v36] (fun v37 w=>
 oM prog (.call (Go.Call.mk (.value (.tmp 0)) #[(.tmp 1)] #[3])) 4 [v22,v37] (fun v38 w=>
 K v38 w) w) w) w)) w)) w0_l_22)) w) w) w) w)) w) w) w) w) w) w) w) w) w) w) w) w) w) w) w
theorem sh_128_ok {a0:Value} {K:Value → World → Prop} {w:World} (h:sh_128 a0 K w):callM prog 128 #[a0] K w:=
 calls_of_code (fun _=>0) (fn:=Tryz.f128) (rs:=[.tmp 2]) Tryz.func128 rfl rfl (by kernel_rfl) (Nat.le_of_ble_eq_true rfl) (Eq.mp (by kernel_rfl) h)
def sh_133 (a0 a1 a2:Value) (K:Value → World → Prop) (w:World):Prop:=
 oM prog (.load 3 (.tmp 0)) 3 [a1] (fun v6 w=>
 oM prog (.binOp .lss 3 (.tmp 0) (.tmp 1) 3) 4 [a0,v6] (fun v7 w=>
 gdM (gd v7 false) (pureM a0) (fun v9 w=>
 gdM (gd v7 false) (oM prog (.fieldAddr 116 (.tmp 0) 0) 0 [a2]) (fun v10 w=>
 gdM (gd v7 false) (oM prog (.fieldAddr 32 (.tmp 0) 0) 0 [v10]) (fun v11 w=>
 gdM (gd v7 false) (oM prog (.fieldAddr 30 (.tmp 0) 1) 0 [v11]) (fun v12 w=>
 gdM (gd v7 false) (oM prog (.load 3 (.tmp 0)) 3 [v12]) (fun v13 w=>
 gdM (gd v7 false) (oM prog (.binOp .geq 3 (.tmp 0) (.tmp 1) 3) 4 [v9,v13]) (fun v14 w=>
 oM prog (.pick (.tmp 0) (.tmp 1) (.tmp 2)) 4 [v7,(.bool true),v14] (fun v15 w=>
 K v15 w) w) w) w) w) w) w) w) w) w
theorem sh_133_ok {a0 a1 a2:Value} {K:Value → World → Prop} {w:World} (h:sh_133 a0 a1 a2 K w):callM prog 133 #[a0,a1,a2] K w:=
 calls_of_code (fun _=>0) (fn:=Tryz.f133) (rs:=[.tmp 4]) Tryz.func133 rfl rfl (by kernel_rfl) (Nat.le_of_ble_eq_true rfl) (Eq.mp (by kernel_rfl) h)
def sh_136 (a0:Value) (K:Value → World → Prop) (w:World):Prop:=
 oM prog (.binOp .eql 22 (.tmp 0) (.const (.slice none 0 0)) 22) 4 [a0] (fun v4 w=>
 condM v4
 (K (.slice none 0 0) w)
 (oM prog (.buildSlice 22 0 #[]) 22 [] (fun v5 w=>
 oM prog (.call (Go.Call.mk (.builtin .append) #[(.tmp 0),(.tmp 1)] #[22,22])) 22 [v5,a0] (fun v7 w=>
 K v7 w) w) w)) w
theorem sh_136_ok {a0:Value} {K:Value → World → Prop} {w:World} (h:sh_136 a0 K w):callM prog 136 #[a0] K w:=
 calls_of_code (fun _=>2) (fn:=Tryz.f136) (rs:=[.tmp 2]) Tryz.func136 rfl rfl (by kernel_rfl) (Nat.le_of_ble_eq_true rfl) (Eq.mp (by kernel_rfl) h)
def sh_138 (a0 a1:Value) (K:Value → World → Prop) (w:World):Prop:=
 oM prog (.box 116 (.tmp 0)) 0 [a0] (fun v2 w=>
 oM prog (.makeFunc (Go.Fn.func 182) #[] #[(.tmp 0)]) 138 [v2] (fun v6 w=>
 callM prog 92 #[a1,v6] (fun v7 w=>
 oM prog (.unOp .not 4 (.tmp 0)) 4 [v7] (fun v8 w=>
 K v8 w) w) w) w) w
theorem sh_138_ok {a0 a1:Value} {K:Value → World → Prop} {w:World} (h:sh_138 a0 a1 K w):callM prog 138 #[a0,a1] K w:=
 calls_of_code (fun _=>0) (fn:=Tryz.f138) (rs:=[.tmp 4]) Tryz.func138 rfl rfl (by kernel_rfl) (Nat.le_of_ble_eq_true rfl) (Eq.mp (by kernel_rfl) h)
def sh_143 (a0 a1:Value) (K:Value → World → Prop) (w:World):Prop:=
 oM prog (.call (Go.Call.mk (.builtin .len) #[(.tmp 0)] #[22])) 3 [a0] (fun v7 w=>
 loopM [undef,(.int .i64 0),(.int .i64 0)] w (fun J_2 m_3 l_4 u_l_4 w0_l_4=>(fun w=>(
 oM prog (.binOp .lss 3 (.tmp 0) (.tmp 1) 3) 0 [(l_4.getD 2 undef),v7] (fun v9 w=>
 condM v9
 (oM prog (.indexAddr 22 (.tmp 0) (.tmp 1)) 0 [a0,(l_4.getD 2 undef)] (fun v14 w=>
 oM prog (.load 3 (.tmp 0)) 3 [v14] (fun v15 w=>
 oM prog (.call (Go.Call.mk (.value (.tmp 0)) #[(.tmp 1)] #[3])) 4 [a1,v15] (fun v16 w=>
 condM v16
 (K (l_4.getD 2 undef) w)
 (oM prog (.binOp .add 3 (.tmp 0) (.tmp 1) 3) 3 [(l_4.getD 2 undef),(.int .i64 1)] (fun v18 w=>
 J_2 [(l_4.getD 2 undef),(l_4.getD 1 undef),v18] w ∧ m_3 [(l_4.getD 2 undef),(l_4.getD 1 undef),v18] w < m_3 l_4 w0_l_4) w)) w) w) w)
 (K (.int .i64 (-1)) w)) w)) w0_l_4)) w
theorem sh_143_ok {a0 a1:Value} {K:Value → World → Prop} {w:World} (h:sh_143 a0 a1 K w):callM prog 143 #[a0,a1] K w:=
 calls_of_code (fun _=>0) (fn:=Tryz.f143) (rs:=[.tmp 4]) Tryz.func143 rfl rfl (by kernel_rfl) (Nat.le_of_ble_eq_true rfl) (Eq.mp (by kernel_rfl) h)
def sh_173 (a0 a1:Value) (K:Value → World → Prop) (w:World):Prop:=
 oM prog (.binOp .neq 3 (.tmp 0) (.const (.int .i64 1)) 3) 4 [a0] (fun v5 w=>
 gdM (gd v5 true) (oM prog (.fieldAddr 32 (.tmp 0) 0) 0 [a1]) (fun v7 w=>
 gdM (gd v5 true) (oM prog (.load 30 (.tmp 0)) 30 [v7]) (fun v8 w=>
 gdM (gd v5 true) (pureM a0) (fun v9 w=>
 gdM (gd v5 true) (callM prog 174 #[v8,v9]) (fun v10 w=>
 oM prog (.pick (.tmp 0) (.tmp 1) (.tmp 2)) 4 [v5,v10,(.bool false)] (fun v11 w=>
 K v11 w) w) w) w) w) w) w
theorem sh_173_ok {a0 a1:Value} {K:Value → World → Prop} {w:World} (h:sh_173 a0 a1 K w):callM prog 173 #[a0,a1] K w:=
 calls_of_code (fun _=>0) (fn:=Tryz.f173) (rs:=[.tmp 3]) Tryz.func173 rfl rfl (by kernel_rfl) (Nat.le_of_ble_eq_true rfl) (Eq.mp (by kernel_rfl) h)
def sh_182 (a0 a1:Value) (K:Value → World → Prop) (w:World):Prop:=
 oM prog (.fieldAddr 116 (.tmp 0) 0) 0 [a1] (fun v4 w=>
 oM prog (.fieldAddr 32 (.tmp 0) 0) 0 [v4] (fun v5 w=>
 oM prog (.load 30 (.tmp 0)) 30 [v5] (fun v6 w=>
 callM prog 174 #[v6,a0] (fun v8 w=>
 oM prog (.unOp .not 4 (.tmp 0)) 4 [v8] (fun v9 w=>
 K v9 w) w) w) w) w) w
theorem sh_182_ok {a0 a1:Value} {K:Value → World → Prop} {w:World} (h:sh_182 a0 a1 K w):callM prog 182 #[a0,a1] K w:=
 calls_of_code (fun _=>0) (fn:=Tryz.f182) (rs:=[.tmp 3]) Tryz.func182 rfl rfl (by kernel_rfl) (Nat.le_of_ble_eq_true rfl) (Eq.mp (by kernel_rfl) h)
def sh_33 (a0 a1:Value) (K:Value → World → Prop) (w:World):Prop:=
 oM prog (.call (Go.Call.mk (.builtin .len) #[(.tmp 0)] #[22])) 3 [a0] (fun v7 w=>
 oM prog (.call (Go.Call.mk (.builtin .len) #[(.tmp 0)] #[22])) 3 [a1] (fun v9 w=>
 oM prog (.binOp .neq 3 (.tmp 0) (.tmp 1) 3) 4 [v7,v9] (fun v10 w=>
 condM v10
 (K (.bool false) w)
 (loopM [(.bool false),(.int .i64 0)] w (fun J_4 m_5 l_6 u_l_6 w0_l_6=>(fun w=>(
 oM prog (.call (Go.Call.mk (.builtin .len) #[(.tmp 0)] #[22])) 3 [a0] (fun v13 w=>
 oM prog (.binOp .lss 3 (.tmp 0) (.tmp 1) 3) 4 [(l_6.getD 1 undef),v13] (fun v14 w=>
 condM v14
 (quietM w (fun C_9=>(oQ prog (.indexAddr 22 (.tmp 0) (.tmp 1)) 0 [a0,(l_6.getD 1 undef)] C_9 (fun v19=>
 oQ prog (.load 3 (.tmp 0)) 3 [v19] C_9 (fun v20=>
 oQ prog (.indexAddr 22 (.tmp 0) (.tmp 1)) 0 [a1,(l_6.getD 1 undef)] C_9 (fun v23=>
 oQ prog (.load 3 (.tmp 0)) 3 [v23] C_9 (fun v24=>
 oQ prog (.binOp .neq 3 (.tmp 0) (.tmp 1) 3) 4 [v20,v24] C_9 (fun v25=>
 ∀ w,C_9 w → (condM v25
 (K (.bool false) w)
 (oM prog (.binOp .add 3 (.tmp 0) (.tmp 1) 3) 3 [(l_6.getD 1 undef),(.int .i64 1)] (fun v16 w=>
 J_4 [(l_6.getD 0 undef),v16] w ∧ m_5 [(l_6.getD 0 undef),v16] w < m_5 l_6 w0_l_6) w))))))))))
 (K (.bool true) w)) w) w)) w0_l_6))) w) w) w
theorem sh_33_ok {a0 a1:Value} {K:Value → World → Prop} {w:World} (h:sh_33 a0 a1 K w):callM prog 33 #[a0,a1] K w:=
 calls_of_code (fun _=>0) (fn:=Tryz.f33) (rs:=[.tmp 4]) Tryz.func33 rfl rfl (by kernel_rfl) (Nat.le_of_ble_eq_true rfl) (Eq.mp (by kernel_rfl) h)
def sh_76 (a0 a1:Value) (K:Value → World → Prop) (w:World):Prop:=
 oM prog (.box 116 (.tmp 0)) 0 [a0] (fun v2 w=>
 oM prog (.box 41 (.tmp 0)) 0 [a1] (fun v3 w=>
 heldM w (fun C_3 w=>(oH prog (.fieldAddr 41 (.tmp 0) 0) 0 [v3] C_3 (fun v5=>
 oH prog (.load 3 (.tmp 0)) 3 [v5] C_3 (fun v6=>
 oH prog (.fieldAddr 41 (.tmp 0) 1) 0 [v3] C_3 (fun v7=>
 oH prog (.load 3 (.tmp 0)) 3 [v7] C_3 (fun v8=>
 oH prog (.fieldAddr 41 (.tmp 0) 2) 0 [v3] C_3 (fun v9=>
 oH prog (.load 3 (.tmp 0)) 3 [v9] C_3 (fun v10=>
 oH prog (.fieldAddr 41 (.tmp 0) 3) 0 [v3] C_3 (fun v11=>
 oH prog (.load 3 (.tmp 0)) 3 [v11] C_3 (fun v12=>
 oH prog (.fieldAddr 41 (.tmp 0) 4) 0 [v3] C_3 (fun v13=>
 oH prog (.load 3 (.tmp 0)) 3 [v13] C_3 (fun v14=>
 oH prog (.fieldAddr 116 (.tmp 0) 0) 0 [v2] C_3 (fun v17=>
 oH prog (.fieldAddr 32 (.tmp 0) 0) 0 [v17] C_3 (fun v18=>
 oH prog (.fieldAddr 30 (.tmp 0) 1) 0 [v18] C_3 (fun v19=>
 oH prog (.load 3 (.tmp 0)) 3 [v19] C_3 (fun v20=>
 oM prog (.buildSlice 22 5 #[(0,(.tmp 0)),(1,(.tmp 1)),(2,(.tmp 2)),(3,(.tmp 3)),(4,(.tmp 4))]) 22 [v6,v8,v10,v12,v14] (fun v15 w=>C_3 w ∧ (
 callM prog 123 #[v15] (fun v16 w=>C_3 w ∧ (
 callM prog 94 #[v16,v20] (fun v21 w=>C_3 w ∧ (
 C_3 w ∧ (K v21 w))) w)) w)) w))))))))))))))))) w) w
theorem sh_76_ok {a0 a1:Value} {K:Value → World → Prop} {w:World} (h:sh_76 a0 a1 K w):callM prog 76 #[a0,a1] K w:=
 calls_of_code (fun _=>2) (fn:=Tryz.f76) (rs:=[.tmp 4]) Tryz.func76 rfl rfl (by kernel_rfl) (Nat.le_of_ble_eq_true rfl) (Eq.mp (by kernel_rfl) h)
def sh_94 (a0 a1:Value) (K:Value → World → Prop) (w:World):Prop:=
 callM prog 82 #[a1] (fun v9 w=>
 oM prog (.unOp .not 4 (.tmp 0)) 4 [v9] (fun v10 w=>
 condM v10
 (K (.int .i64 0) w)
 (callM prog 144 #[a0] (fun v12 w=>
 oM prog (.convert 9 181 (.tmp 0)) 181 [v12] (fun v13 w=>
 oM prog (.call (Go.Call.mk (.builtin .len) #[(.tmp 0)] #[181])) 3 [v13] (fun v14 w=>
 loopM [undef,(.int .i64 0),(.int .i64 0)] w (fun J_6 m_7 l_8 u_l_8 w0_l_8=>(fun w=>(
 oM prog (.binOp .lss 3 (.tmp 0) (.tmp 1) 3) 0 [(l_8.getD 2 undef),v14] (fun v16 w=>
 condM v16
 (oM prog (.indexAddr 181 (.tmp 0) (.tmp 1)) 0 [v13,(l_8.getD 2 undef)] (fun v17 w=>
 oM prog (.load 5 (.tmp 0)) 5 [v17] (fun v18 w=>
 callM prog 27 #[a1,(l_8.getD 1 undef),(.int .i64 256)] (fun v22 w=>
 oM prog (.convert 5 3 (.tmp 0)) 3 [v18] (fun v24 w=>
 callM prog 26 #[a1,v22,v24] (fun v25 w=>
 oM prog (.binOp .add 3 (.tmp 0) (.tmp 1) 3) 3 [(l_8.getD 2 undef),(.int .i64 1)] (fun v26 w=>
 J_6 [v18,v25,v26] w ∧ m_7 [v18,v25,v26] w < m_7 l_8 w0_l_8) w) w) w) w) w) w)
 (K (l_8.getD 1 undef) w)) w)) w0_l_8)) w) w) w)) w) w
theorem sh_94_ok {a0 a1:Value} {K:Value → World → Prop} {w:World} (h:sh_94 a0 a1 K w):callM prog 94 #[a0,a1] K w:=
 calls_of_code (fun _=>2) (fn:=Tryz.f94) (rs:=[.tmp 4]) Tryz.func94 rfl rfl (by kernel_rfl) (Nat.le_of_ble_eq_true rfl) (Eq.mp (by kernel_rfl) h)
def sh_25 (a0 a1:Value) (K:Value → World → Prop) (w:World):Prop:=
 oM prog (.box 32 (.tmp 0)) 0 [a0] (fun v2 w=>
 oM prog (.box 41 (.tmp 0)) 0 [a1] (fun v3 w=>
 oM prog (.load 32 (.tmp 0)) 32 [v2] (fun v8 w=>
 oM prog (.load 41 (.tmp 0)) 41 [v3] (fun v9 w=>
 callM prog 85 #[v8,v9] (fun v10 w=>
 oM prog (.extract (.tmp 0) 0) 116 [v10] (fun v11 w=>
 oM prog (.extract (.tmp 0) 1) 4 [v10] (fun v12 w=>
 oM prog (.alloc 116) 0 [] (fun v5 w=>
 oM prog (.store 116 (.tmp 0) (.tmp 1)) 0 [v5,v11] (fun _ w=>
 condM v12
 (oM prog (.load 116 (.tmp 0)) 116 [v5] (fun v14 w=>
 oM prog (.load 41 (.tmp 0)) 41 [v3] (fun v15 w=>
 callM prog 76 #[v14,v15] (fun v16 w=>
 K v16 w) w) w) w)
 (K (.int .i64 0) w)) w) w) w) w) w) w) w) w) w
theorem sh_25_ok {a0 a1:Value} {K:Value → World → Prop} {w:World} (h:sh_25 a0 a1 K w):callM prog 25 #[a0,a1] K w:=
 calls_of_code (fun _=>2) (fn:=Tryz.f25) (rs:=[.tmp 4]) Tryz.func25 rfl rfl (by kernel_rfl) (Nat.le_of_ble_eq_true rfl) (Eq.mp (by kernel_rfl) h)
def sh_50 (a0 a1:Value) (K:Value → World → Prop) (w:World):Prop:=
 oM prog (.box 32 (.tmp 0)) 0 [a0] (fun v2 w=>
 oM prog (.box 41 (.tmp 0)) 0 [a1] (fun v3 w=>
 oM prog (.load 32 (.tmp 0)) 32 [v2] (fun v8 w=>
 oM prog (.load 41 (.tmp 0)) 41 [v3] (fun v9 w=>
 callM prog 85 #[v8,v9] (fun v10 w=>
 oM prog (.extract (.tmp 0) 0) 116 [v10] (fun v11 w=>
 oM prog (.extract (.tmp 0) 1) 4 [v10] (fun v12 w=>
 oM prog (.alloc 116) 0 [] (fun v5 w=>
 oM prog (.store 116 (.tmp 0) (.tmp 1)) 0 [v5,v11] (fun _ w=>
 K v12 w) w) w) w) w) w) w) w) w) w
theorem sh_50_ok {a0 a1:Value} {K:Value → World → Prop} {w:World} (h:sh_50 a0 a1 K w):callM prog 50 #[a0,a1] K w:=
 calls_of_code (fun _=>2) (fn:=Tryz.f50) (rs:=[.tmp 4]) Tryz.func50 rfl rfl (by kernel_rfl) (Nat.le_of_ble_eq_true rfl) (Eq.mp (by kernel_rfl) h)
def sh_29 (a0 a1 a2:Value) (K:Value → World → Prop) (w:World):Prop:=
 oM prog (.box 32 (.tmp 0)) 0 [a0] (fun v3 w=>
 oM prog (.box 41 (.tmp 0)) 0 [a2] (fun v5 w=>
 oM prog (.load 32 (.tmp 0)) 32 [v3] (fun v11 w=>
 oM prog (.load 41 (.tmp 0)) 41 [v5] (fun v12 w=>
 callM prog 85 #[v11,v12] (fun v13 w=>
 oM prog (.extract (.tmp 0) 0) 116 [v13] (fun v14 w=>
 oM prog (.extract (.tmp 0) 1) 4 [v13] (fun v15 w=>
 oM prog (.alloc 116) 0 [] (fun v7 w=>
 oM prog (.store 116 (.tmp 0) (.tmp 1)) 0 [v7,v14] (fun _ w=>
 oM prog (.unOp .not 4 (.tmp 0)) 4 [v15] (fun v17 w=>
 gdM (gd v17 false) (oM prog (.load 116 (.tmp 0)) 116 [v7]) (fun v19 w=>
 gdM (gd v17 false) (pureM a1) (fun v20 w=>
 gdM (gd v17 false) (callM prog 87 #[v19,v20]) (fun v21 w=>
 gdM (gd v17 false) (oM prog (.unOp .not 4 (.tmp 0)) 4 [v21]) (fun v22 w=>
 oM prog (.pick (.tmp 0) (.tmp 1) (.tmp 2)) 4 [v17,(.bool true),v22] (fun v23 w=>
 condM v23
 (K (.bool false) w)
 (oM prog (.load 116 (.tmp 0)) 116 [v7] (fun v24 w=>
 oM prog (.load 41 (.tmp 0)) 41 [v5] (fun v25 w=>
 callM prog 76 #[v24,v25] (fun v26 w=>
 oM prog (.binOp .neq 3 (.tmp 0) (.const (.int .i64 0)) 3) 4 [v26] (fun v28 w=>
 gdM (gd v28 true) (oM prog (.load 116 (.tmp 0)) 116 [v7]) (fun v30 w=>
 gdM (gd v28 true) (pureM a1) (fun v31 w=>
 gdM (gd v28 true) (oM prog (.fieldAddr 41 (.tmp 0) 0) 0 [v5]) (fun v32 w=>
 gdM (gd v28 true) (oM prog (.load 3 (.tmp 0)) 3 [v32]) (fun v33 w=>
 gdM (gd v28 true) (pureM v26) (fun v34 w=>
 gdM (gd v28 true) (oM prog (.fieldAddr 41 (.tmp 0) 5) 0 [v5]) (fun v35 w=>
 gdM (gd v28 true) (oM prog (.load 3 (.tmp 0)) 3 [v35]) (fun v36 w=>
 gdM (gd v28 true) (oM prog (.fieldAddr 41 (.tmp 0) 2) 0 [v5]) (fun v37 w=>
 gdM (gd v28 true) (oM prog (.load 3 (.tmp 0)) 3 [v37]) (fun v38 w=>
 gdM (gd v28 true) (oM prog (.fieldAddr 41 (.tmp 0) 3) 0 [v5]) (fun v39 w=>
 gdM (gd v28 true) (oM prog (.load 3 (.tmp 0)) 3 [v39]) (fun v40 w=>
 gdM (gd v28 true) (oM prog (.fieldAddr 41 (.tmp 0) 4) 0 [v5]) (fun v41 w=>
 gdM (gd v28 true) (oM prog (.load 3 (.tmp 0)) 3 [v41]) (fun v42 w=>
 gdM (gd v28 true) (oM prog (.build 37 #[(0,(.tmp 0)),(1,(.tmp 1)),(2,(.tmp 2))]) 37 [v38,v40,v42]) (fun v43 w=>
 gdM (gd v28 true) (callM prog 79 #[v30,v31,v33,v34,v36,v43]) (fun v44 w=>
 oM prog (.pick (.tmp 0) (.tmp 1) (.tmp 2)) 4 [v28,v44,(.bool false)] (fun v45 w=>
 K v45 w) w) w) w) w) w) w) w) w) w) w) w) w) w) w) w) w) w) w) w) w)) w) w) w) w) w) w) w) w) w) w) w) w) w) w) w
theorem sh_29_ok {a0 a1 a2:Value} {K:Value → World → Prop} {w:World} (h:sh_29 a0 a1 a2 K w):callM prog 29 #[a0,a1,a2] K w:=
 calls_of_code (fun _=>2) (fn:=Tryz.f29) (rs:=[.tmp 6]) Tryz.func29 rfl rfl (by kernel_rfl) (Nat.le_of_ble_eq_true rfl) (Eq.mp (by kernel_rfl) h)
def sh_39 (a0 a1 a2:Value) (K:Value → World → Prop) (w:World):Prop:=
 oM prog (.box 32 (.tmp 0)) 0 [a0] (fun v3 w=>
 oM prog (.box 41 (.tmp 0)) 0 [a1] (fun v4 w=>
 oM prog (.load 32 (.tmp 0)) 32 [v3] (fun v11 w=>
 callM prog 64 #[v11] (fun v12 w=>
 oM prog (.extract (.tmp 0) 0) 116 [v12] (fun v13 w=>
 oM prog (.extract (.tmp 0) 1) 4 [v12] (fun v14 w=>
 oM prog (.alloc 116) 0 [] (fun v7 w=>
 oM prog (.store 116 (.tmp 0) (.tmp 1)) 0 [v7,v13] (fun _ w=>
 oM prog (.unOp .not 4 (.tmp 0)) 4 [v14] (fun v16 w=>
 condM v16
 (K (.int .i64 0) w)
 (oM prog (.fieldAddr 32 (.tmp 0) 0) 0 [v3] (fun v17 w=>
 oM prog (.fieldAddr 30 (.tmp 0) 1) 0 [v17] (fun v18 w=>
 oM prog (.load 3 (.tmp 0)) 3 [v18] (fun v19 w=>
 oM prog (.binOp .quo 3 (.tmp 0) (.tmp 1) 3) 3 [v19,(.int .i64 2)] (fun v20 w=>
 heldM w (fun C_13 w=>(pureH v20 C_13 (fun v21=>
 oH prog (.binOp .add 3 (.tmp 0) (.tmp 1) 3) 3 [v21,(.int .i64 1)] C_13 (fun v22=>
 oH prog (.load 41 (.tmp 0)) 41 [v4] C_13 (fun v23=>
 pureH a2 C_13 (fun v25=>
 oH prog (.fieldAddr 32 (.tmp 0) 0) 0 [v3] C_13 (fun v28=>
 oH prog (.fieldAddr 30 (.tmp 0) 1) 0 [v28] C_13 (fun v29=>
 oH prog (.load 3 (.tmp 0)) 3 [v29] C_13 (fun v30=>
 oH prog (.binOp .sub 3 (.tmp 0) (.tmp 1) 3) 3 [v30,(.int .i64 1)] C_13 (fun v31=>
 pureH v20 C_13 (fun v32=>
 oH prog (.binOp .sub 3 (.tmp 0) (.tmp 1) 3) 3 [v31,v32] C_13 (fun v33=>
 callM prog 56 #[v23] (fun v24 w=>C_13 w ∧ (
 callM prog 95 #[v25] (fun v26 w=>C_13 w ∧ (
 oM prog (.binOp .add 9 (.tmp 0) (.tmp 1) 9) 9 [v24,v26] (fun v27 w=>C_13 w ∧ (
 callM prog 94 #[v27,v33] (fun v34 w=>C_13 w ∧ (
 oM prog (.binOp .add 3 (.tmp 0) (.tmp 1) 3) 3 [v22,v34] (fun v35 w=>C_13 w ∧ (
 C_13 w ∧ (K v35 w))) w)) w)) w)) w)) w))))))))))))) w) w) w) w)) w) w) w) w) w) w) w) w) w
theorem sh_39_ok {a0 a1 a2:Value} {K:Value → World → Prop} {w:World} (h:sh_39 a0 a1 a2 K w):callM prog 39 #[a0,a1,a2] K w:=
 calls_of_code (fun _=>2) (fn:=Tryz.f39) (rs:=[.tmp 6]) Tryz.func39 rfl rfl (by kernel_rfl) (Nat.le_of_ble_eq_true rfl) (Eq.mp (by kernel_rfl) h)
end Go.Proofs
namespace TkSpec
open FdSpec
structure Stp where
 g:Grp
 bases:List Int
 blind:Int
deriving DecidableEq
structure Bld where
 s:Int
 u:Int
 v:Int
 ys:List Int
deriving DecidableEq
structure Tkt where
 mark:Int
 first:Int
 z:Int
 a:Int
 b:Int
 r:Int
deriving DecidableEq
structure Spd where
 dare:Int
 answers:List Int
deriving DecidableEq
structure Off where
 z:Int
 a:Int
 b:Int
deriving DecidableEq
def otherM (g:Grp) (x:Int):Bool:=!decide (x = 1) && elemG g x
def validS (s:Stp):Bool:=validG s.g && decide (2 ≤ s.bases.length) && decide (s.bases.length ≤ 7) && s.bases.all (otherM s.g) && otherM s.g s.blind
def numsM (s:Stp) (least:Int) (l:List Int):Bool:=l.all fun n=>decide (least ≤ n) && decide (n < s.g.Q)
def elementsM (s:Stp) (l:List Int):Bool:=l.all (elemG s.g)
def keyM (s:Stp) (k:Int):Bool:=!decide (k = 1) && elementsM s [k]
def genM (s:Stp) (k:Int):Int:=powerG s.g s.g.G k
def timesM (s:Stp) (first:Int) (l:List Int):Int:=l.foldl (fun a x=>timesG s.g a x) first
def mulQ (s:Stp) (first:Int) (l:List Int):Int:=l.foldl (fun a x=>mulM s.g.Q a x) first
def overQ (s:Stp) (a b:Int):Int:=mulQ s a [powM s.g.Q b (-1)]
def plusQ (s:Stp) (a b:Int):Int:=addM s.g.Q a b
def lessQ (s:Stp) (a b:Int):Int:=subM s.g.Q a b
def expsM (attrs:List Int):List Int:=1 :: attrs
def markM (s:Stp) (attrs:List Int):Int × Bool:=
 if validS s && decide (attrs.length + 1 = s.bases.length) && numsM s 0 attrs && !decide (attrs.headD 0 = 0) then ((prodG s.g s.bases (expsM attrs)).1,true) else (0,false)
def usableM (s:Stp) (attrs:List Int):Int × Bool:=((markM s attrs).1,(markM s attrs).2 && !decide ((markM s attrs).1 = 1))
def publicM (s:Stp) (x:Int):Int:=if validS s && numsM s 1 [x] then genM s x else 0
def proposeM (s:Stp) (x:Int) (attrs:List Int) (w:Int):Off × Int:=
 if (usableM s attrs).2 && numsM s 1 [x] && numsM s 0 [w] then (⟨powerG s.g (usableM s attrs).1 x,genM s w,powerG s.g (usableM s attrs).1 w⟩,0) else (⟨0,0,0⟩,1)
def blindsM (s:Stp) (b:Bld):Bool:=numsM s 1 [b.s,b.u] && numsM s 0 [b.v] && decide (b.ys.length = s.bases.length) && numsM s 0 b.ys
def grantM (s:Stp) (x w c:Int):Int:=if validS s && numsM s 1 [x] && numsM s 0 [w,c] then plusQ s (mulQ s c [x]) w else 0
def useM (s:Stp) (attrs:List Int) (b:Bld) (dare:Int):Spd × Bool:=
 if (usableM s attrs).2 && blindsM s b && numsM s 1 [dare] then (⟨dare,((expsM attrs).zip b.ys).map fun p=>plusQ s p.2 (mulQ s dare [b.s,p.1])⟩,true) else (⟨0,[]⟩,false)
def formedM (s:Stp) (t:Tkt):Bool:=validS s && !decide (t.mark = 1) && elementsM s [t.mark,t.first,t.z,t.a,t.b] && numsM s 0 [t.r]
def acceptsM (s:Stp) (t:Tkt) (x:Spd):Bool:=
 if formedM s t && numsM s 1 [x.dare] && decide (x.answers.length = s.bases.length) && numsM s 0 x.answers then decide ((prodG s.g s.bases x.answers).1 = timesM s (powerG s.g t.mark x.dare) [t.first]) else false
def gapsM (s:Stp) (t:Tkt) (a b:Spd):List Int × Bool:=
 if decide (a.dare = b.dare) || !acceptsM s t a || !acceptsM s t b then ([],false)
 else ((a.answers.zip b.answers).map fun p=>lessQ s p.1 p.2,!decide (((a.answers.zip b.answers).map fun p=>lessQ s p.1 p.2).headD 0 = 0))
def traceM (s:Stp) (t:Tkt) (a b:Spd):List Int × Bool:=
 if (gapsM s t a b).2 then ((gapsM s t a b).1.tail.map fun n=>overQ s n ((gapsM s t a b).1.headD 0),true) else ([],false)
def guiltyM (s:Stp) (t:Tkt) (a b:Spd) (attrs:List Int):Bool:=
 if (gapsM s t a b).2 && decide (attrs.length + 1 = (gapsM s t a b).1.length) && numsM s 0 attrs then
  (attrs.zip (gapsM s t a b).1.tail).all fun p=>decide (mulQ s p.1 [(gapsM s t a b).1.headD 0] = p.2)
 else false
def s0:Stp:=⟨⟨23,11,4⟩,[4,16,18],3⟩
def b0:Bld:=⟨4,1,0,[1,2,3]⟩
def t0:Tkt:=⟨8,18,9,16,13,0⟩
theorem sane_facts :
  proposeM s0 3 [5,7] 2 = (⟨9,16,13⟩,0) ∧ useM s0 [5,7] b0 2 = (⟨2,[9,9,4]⟩,true) ∧ useM s0 [5,7] b0 5 = (⟨5,[10,3,0]⟩,true) ∧
  traceM s0 t0 ⟨2,[9,9,4]⟩ ⟨5,[10,3,0]⟩ = ([5,7],true) ∧ (traceM s0 t0 ⟨2,[9,9,4]⟩ ⟨2,[9,9,4]⟩).2 = false ∧
  markM s0 [5,7] = (6,true) ∧ (usableM s0 [5,7]).2 = true ∧ (usableM s0 [5,0]).2 = false ∧ publicM s0 3 = 18 ∧ publicM s0 0 = 0 ∧ grantM s0 3 2 6 = 9 ∧
  acceptsM s0 t0 ⟨2,[9,9,4]⟩ = true ∧ acceptsM s0 t0 ⟨5,[10,3,0]⟩ = true ∧ acceptsM s0 t0 ⟨3,[9,9,4]⟩ = false ∧ guiltyM s0 t0 ⟨2,[9,9,4]⟩ ⟨5,[10,3,0]⟩ [5,7] = true:=by
 decide +kernel
end TkSpec
namespace Go.Proofs
open Go Go.Sh Go.RowKit FdSpec TkSpec
section
variable {K:Value → World → Prop} {w:World}
@[reducible] def stpV (s:Stp) (v:Value):Value:=.agg #[.int .i64 s.g.P,.int .i64 s.g.Q,.int .i64 s.g.G,v,.int .i64 s.blind]
@[reducible] def stpC (s:Stp) (v:Value):List Value:=[.int .i64 s.g.P,.int .i64 s.g.Q,.int .i64 s.g.G,v,.int .i64 s.blind]
structure SetR (w:World) (s:Stp) (v:Value):Prop where
 grp:GrpR s.g
 ints:Ints w v s.bases
 blind:I64 s.blind
 db:DbT w
theorem DbT.next {w w':World} (h:DbT w) (hb:Below w.heap.size w w'):DbT w':=h.below hb (Nat.le_refl _)
theorem SetR.next {w w':World} {s:Stp} {v:Value} (h:SetR w s v) (hb:Below w.heap.size w w'):SetR w' s v:=⟨h.grp,h.ints.next hb,h.blind,h.db.next hb⟩
theorem other_ok (g:Grp) (x:Int) {b:Nat} (hg:GrpR g) (hT:DbT w) (h0:w.cell? ⟨b,0,none⟩ = some (.int .i64 g.P)) (h1:w.cell? ⟨b,1,none⟩ = some (.int .i64 g.Q)) (h2:w.cell? ⟨b,2,none⟩ = some (.int .i64 g.G))
  (k:∀ w',Below w.heap.size w w' → K (.bool (otherM g x)) w'):callM Tryz.prog 173 #[.int .i64 x,.pointer (some ⟨b,0,none⟩)] K w:=by
 apply sh_173_ok
 unfold sh_173
 unfold otherM at k
 by_cases hx:x = 1
 ·have k:=k w (Below.refl _ _)
  refine Xa (An3 @h0 @h1 @h2) ?_
  simpa [hx] using k
 ·refine Xa (An3 @h0 @h1 @h2) ?_
  refine Element_ok g x hg hT (fun w' hw=>?_)
  have k:=k w' hw
  refine Xa0 ?_
  simpa [hx] using k
def VsJ (s:Stp) (L:List (Addr × Value)) (R:Bool) (w0:World) (l:List Value) (w':World):Prop:=Kn w0 L w' ∧ ∃ (v u:Value) (i:Nat),l = [v,u,.int .i64 (i:Int)] ∧ i ≤ s.bases.length ∧ (s.bases.drop i).all (otherM s.g) = R
def vsMu (n:Nat) (l:List Value) (_:World):Nat:=match l with | [_,_,.int _ i]=>n - i.toNat | _=>0
theorem vsMu_eq (n:Nat) (x y:Value) (q:IntKind) (i:Int) (w:World):vsMu n [x,y,.int q i] w = n - i.toNat:=rfl
theorem ValidSetup_ok (s:Stp) {v:Value} (hs:SetR w s v) (k:∀ w',Below w.heap.size w w' → K (.bool (validS s)) w'):callM Tryz.prog 128 #[stpV s v] K w:=by
 apply sh_128_ok
 unfold sh_128
 obtain ⟨ad,c,rfl⟩:=hs.ints.isSlice
 refine box_kn (cs:=stpC s (.slice ad s.bases.length c)) rfl (.start w) fun b W hk hb1 hb=>?_
 have k2:∀ w' r,validS s = r → Below w.heap.size w w' → K (.bool r) w':=fun w' r e hb=>by rw [← e]; exact k w' hb
 have e0:validS s = (validG s.g && decide (2 ≤ s.bases.length) && decide (s.bases.length ≤ 7) && s.bases.all (otherM s.g) && otherM s.g s.blind):=rfl
 have hl:=hs.ints.len
 clear k
 refine Xa hk.cells ?_
 refine ValidGroup_ok s.g hs.grp (hs.db.next hk.below) (fun w1 h1=>?_)
 have hk:=hk.next h1
 clear h1 hb1
 cases hv:validG s.g with
 | false=>
  refine Xa0 ?_
  exact k2 _ _ (by rw [e0,hv]; simp) hk.below
 | true=>
  repeat (any_goals (first
  | (with_reducible first|((refine idGd ?_); first|refine zC ?_|((refine idGdD ?_); first|refine zI ?_|refine zJ ?_|refine zK (fun hg=>?_) fun hg=>?_))|((refine idPick ?_); first|refine yC ?_|refine yD ?_|refine yE ?_)|((refine idCond ?_); first|refine yL ?_|refine yP (fun hg=>?_) fun hg=>?_))
  | ((with_reducible refine oM_gen fun Kv hK=>?_); simp [go_sem,hk.cells]; refine hK _ _ ?_; clear hK Kv)))
  ·exact k2 _ _ (by rw [e0]; simp; omega) hk.below
  ·exact k2 _ _ (by rw [e0]; simp; omega) hk.below
  have e1:validS s = (s.bases.all (otherM s.g) && otherM s.g s.blind):=by
   rw [e0,hv,decide_eq_true (by omega:2 ≤ s.bases.length),decide_eq_true (by omega:s.bases.length ≤ 7)]; rfl
  refine ⟨VsJ s _ (s.bases.all (otherM s.g)) w,vsMu s.bases.length,⟨hk,_,_,0,rfl,by omega,rfl⟩,?_⟩
  generalize s.bases.all (otherM s.g) = R at *
  rintro _ _ w2 ⟨hk,u1,u2,i,rfl,hi,hall⟩
  have hc:=hk.cells
  by_cases hin:i = s.bases.length
  ·rw [List.drop_of_length_le (by omega),List.all_nil] at hall
   subst hall
   refine Xa @hc ?_
   refine oM_callv1 (by kernel_rfl) ?_
   refine other_ok s.g s.blind hs.grp (hs.db.next hk.below) hc.1 hc.2.1 hc.2.2.1 (fun w3 h3=>?_)
   exact k2 _ _ (by rw [e1,Bool.true_and]) (hk.next h3).below
  ·rw [List.drop_eq_getElem_cons (by omega),List.all_cons] at hall
   obtain ⟨b1,o1,rfl,hb1,ca,ra,_⟩:=hs.ints.at (i:=i) (by omega)
   refine Xa (ca _ hk.below) ?_
   refine oM_callv1 (by kernel_rfl) ?_
   refine other_ok s.g _ hs.grp (hs.db.next hk.below) hc.1 hc.2.1 hc.2.2.1 (fun w3 h3=>?_)
   cases ho:otherM s.g s.bases[i] with
   | false=>
    rw [ho,Bool.false_and] at hall
    subst hall
    refine Xa0 ?_
    exact k2 _ _ (by rw [e1,Bool.false_and]) (hk.next h3).below
   | true=>
    rw [ho,Bool.true_and] at hall
    refine Xa0 ?_
    refine ⟨⟨hk.next h3,_,_,i + 1,rfl,by omega,hall⟩,?_⟩
    simp only [vsMu_eq]; omega
end
end Go.Proofs
namespace Go.Proofs
open Go Go.Sh Go.RowKit FdSpec TkSpec
section
variable {K:Value → World → Prop} {w w0:World} {L:List (Addr × Value)}
theorem ints_alloc (w:World) (l:List Int) (T:TypeId) (c:Nat) (hr:∀ n ∈ l,I64 n) (hl:l.length ≤ 9223372036854775807):Ints (w.alloc (.cells (l.map (Value.int .i64)).toArray T)) (.slice (some ⟨w.heap.size,0,none⟩) l.length c) l:=by
 refine ⟨⟨_,c,rfl,by simp,?_⟩,hr,hl⟩
 by_cases h0:l = []
 ·exact .inl h0
 ·refine .inr ⟨_,0,rfl,by simp,fun k x hk=>?_⟩
  rw [flat_int] at hk
  rw [Nat.zero_add]
  have:=World.cell?_alloc_at (w:=w) (l.map (Value.int .i64)).toArray T w.heap.size k rfl
  rw [this]
  simpa using hk
theorem mk1 {T:TypeId} (x:Int) (hx:I64 x) (k:∀ v W,Below w.heap.size w W → Ints W v [x] → K v W):oM Tryz.prog (.buildSlice 22 1 #[(0,.tmp 0)]) T [.int .i64 x] K w:=by
 rw [oM_buildSlice1]
 have e:(Instr.buildSlice 22 1 #[(0,.int .i64 x)]).run Tryz.prog w = .ok (.slice (some ⟨w.heap.size,0,none⟩) 1 1) (w.alloc (.cells #[.int .i64 x] 3)):=by kernel_rfl
 rw [e]
 exact k _ _ ((Below.refl _ w).alloc (Nat.le_refl _) _) (ints_alloc w [x] _ 1 (by simpa using hx) (by simp))
theorem mk2 {T:TypeId} (x y:Int) (hx:I64 x) (hy:I64 y) (k:∀ v W,Below w.heap.size w W → Ints W v [x,y] → K v W):oM Tryz.prog (.buildSlice 22 2 #[(0,.tmp 0),(1,.tmp 1)]) T [.int .i64 x,.int .i64 y] K w:=by
 rw [oM_buildSlice2]
 have e:(Instr.buildSlice 22 2 #[(0,.int .i64 x),(1,.int .i64 y)]).run Tryz.prog w = .ok (.slice (some ⟨w.heap.size,0,none⟩) 2 2) (w.alloc (.cells #[.int .i64 x,.int .i64 y] 3)):=by kernel_rfl
 rw [e]
 exact k _ _ ((Below.refl _ w).alloc (Nat.le_refl _) _) (ints_alloc w [x,y] _ 2 (by simp; exact ⟨hx,hy⟩) (by simp))
def IfJ (p:Int → Bool) (l:List Int) (R:Bool) (w0:World) (vs:List Value) (w':World):Prop:=Below w0.heap.size w0 w' ∧ ∃ (v u:Value) (i:Nat),vs = [v,u,.int .i64 (i:Int)] ∧ i ≤ l.length ∧ (l.drop i).any p = R
theorem IndexFunc_ok {v F:Value} {l:List Int} (p:Int → Bool) (hl:Ints w v l)
  (hF:∀ (w':World) (x:Int) (K':Value → World → Prop) (T:TypeId),Below w.heap.size w w' → I64 x → (∀ w'',Below w'.heap.size w' w'' → K' (.bool (p x)) w'') → oM Tryz.prog (.call { callee:=.value (.tmp 0),args:=#[.tmp 1],argTypes:=#[3] }) T [F,.int .i64 x] K' w')
  (k:∀ w' (r:Int),Below w.heap.size w w' → decide (0 ≤ r) = l.any p → K (.int .i64 r) w'):callM Tryz.prog 143 #[v,F] K w:=by
 apply sh_143_ok
 unfold sh_143
 obtain ⟨ad,c,rfl⟩:=hl.isSlice
 have hll:=hl.len
 refine Xa0 ?_
 refine ⟨IfJ p l (l.any p) w,vsMu l.length,⟨Below.refl _ _,_,_,0,rfl,by omega,rfl⟩,?_⟩
 generalize l.any p = R at *
 rintro _ _ w1 ⟨h1,u1,u2,i,rfl,hi,ha⟩
 by_cases hin:i = l.length
 ·rw [List.drop_of_length_le (by omega),List.any_nil] at ha
  refine Xa0 ?_
  exact k _ _ h1 (by rw [← ha]; rfl)
 ·rw [List.drop_eq_getElem_cons (by omega),List.any_cons] at ha
  obtain ⟨b1,o1,rfl,hb1,ca,ra,_⟩:=hl.at (i:=i) (by omega)
  refine Xa (ca _ h1) ?_
  refine hF w1 _ _ _ h1 ra (fun w2 h2=>?_)
  cases hp:p l[i] with
  | true=>
   rw [hp,Bool.true_or] at ha
   refine Xa0 ?_
   exact k _ _ (h1.on h2) (by rw [← ha]; simp)
  | false=>
   rw [hp,Bool.false_or] at ha
   refine Xa0 ?_
   refine ⟨⟨h1.on h2,_,_,i + 1,rfl,by omega,ha⟩,?_⟩
   simp only [vsMu_eq]; omega
theorem ContainsFunc_ok {v F:Value} {l:List Int} (p:Int → Bool) (hl:Ints w v l)
  (hF:∀ (w':World) (x:Int) (K':Value → World → Prop) (T:TypeId),Below w.heap.size w w' → I64 x → (∀ w'',Below w'.heap.size w' w'' → K' (.bool (p x)) w'') → oM Tryz.prog (.call { callee:=.value (.tmp 0),args:=#[.tmp 1],argTypes:=#[3] }) T [F,.int .i64 x] K' w')
  (k:∀ w',Below w.heap.size w w' → K (.bool (l.any p)) w'):callM Tryz.prog 92 #[v,F] K w:=by
 apply sh_92_ok
 unfold sh_92
 refine IndexFunc_ok p hl hF (fun w' r hb hr=>?_)
 refine Xa0 ?_
 rw [hr]
 exact k _ hb
theorem numsM_any (s:Stp) (least:Int) (l:List Int):numsM s least l = !(l.any fun n=>decide (n < least) || decide (s.g.Q ≤ n)):=by
 unfold numsM
 rw [List.not_any_eq_all_not]
 congr 1
 funext n
 by_cases h1:n < least <;> by_cases h2:s.g.Q ≤ n <;> simp [h1,h2] <;> omega
theorem elementsM_any (s:Stp) (l:List Int):elementsM s l = !(l.any fun n=>!elemG s.g n):=by
 unfold elementsM
 rw [List.not_any_eq_all_not]
 congr 1
 funext n
 simp
theorem numsF_ok (s:Stp) (least x:Int) {b d:Nat} (h0:w.cell? ⟨b,0,none⟩ = some (.int .i64 least)) (h1:w.cell? ⟨d,1,none⟩ = some (.int .i64 s.g.Q)) (h:K (.bool (decide (x < least) || decide (s.g.Q ≤ x))) w) :
  callM Tryz.prog 133 #[.int .i64 x,.pointer (some ⟨b,0,none⟩),.pointer (some ⟨d,0,none⟩)] K w:=by
 apply sh_133_ok
 unfold sh_133
 by_cases hx:x < least
 ·refine Xa (An2 @h0 @h1) ?_
  simpa [hx] using h
 ·refine Xa (An2 @h0 @h1) ?_
  simpa [hx] using h
theorem nums_ok (s:Stp) (least:Int) {dv v:Value} {l:List Int} (hs:SetR w s dv) (hl:Ints w v l) (k:∀ w',Below w.heap.size w w' → K (.bool (numsM s least l)) w'):callM Tryz.prog 65 #[stpV s dv,.int .i64 least,v] K w:=by
 apply sh_65_ok
 unfold sh_65
 obtain ⟨ad,c,rfl⟩:=hs.ints.isSlice
 refine box_kn (cs:=stpC s (.slice ad s.bases.length c)) rfl (.start w) fun b W hk hb1 hb=>?_
 refine box_kn (cs:=[.int .i64 least]) rfl hk fun b2 W2 hk hb2 hbb=>?_
 refine Xa0 ?_
 refine ContainsFunc_ok (fun n=>decide (n < least) || decide (s.g.Q ≤ n)) (hl.next hk.below) ?_ ?_
 ·intro w' x K' T hb _ h'
  refine oM_callv1 (by kernel_rfl) ?_
  have hk:=(hk.next hb).cells
  exact numsF_ok s least x hk.1 hk.2.2.1 (h' _ (Below.refl _ _))
 ·intro w' hb
  refine Xa0 ?_
  rw [← numsM_any]
  exact k _ (hk.next hb).below
theorem elemF_ok (s:Stp) (x:Int) {d:Nat} (hg:GrpR s.g) (hT:DbT w) (h0:w.cell? ⟨d,0,none⟩ = some (.int .i64 s.g.P)) (h1:w.cell? ⟨d,1,none⟩ = some (.int .i64 s.g.Q)) (h2:w.cell? ⟨d,2,none⟩ = some (.int .i64 s.g.G)) (k:∀ w',Below w.heap.size w w' → K (.bool (!elemG s.g x)) w') :
  callM Tryz.prog 182 #[.int .i64 x,.pointer (some ⟨d,0,none⟩)] K w:=by
 apply sh_182_ok
 unfold sh_182
 refine Xa (An3 @h0 @h1 @h2) ?_
 refine Element_ok s.g x hg hT (fun w' hb=>?_)
 refine Xa0 ?_
 exact k _ hb
theorem elements_ok (s:Stp) {dv v:Value} {l:List Int} (hs:SetR w s dv) (hl:Ints w v l) (k:∀ w',Below w.heap.size w w' → K (.bool (elementsM s l)) w'):callM Tryz.prog 138 #[stpV s dv,v] K w:=by
 apply sh_138_ok
 unfold sh_138
 obtain ⟨ad,c,rfl⟩:=hs.ints.isSlice
 refine box_kn (cs:=stpC s (.slice ad s.bases.length c)) rfl (.start w) fun b W hk hb1 hb=>?_
 refine Xa0 ?_
 refine ContainsFunc_ok (fun n=>!elemG s.g n) (hl.next hk.below) ?_ ?_
 ·intro w' x K' T hb _ h'
  refine oM_callv1 (by kernel_rfl) ?_
  have hk:=hk.next hb
  have hc:=hk.cells
  exact elemF_ok s x hs.grp (hs.db.next hk.below) hc.1 hc.2.1 hc.2.2.1 h'
 ·intro w' hb
  refine Xa0 ?_
  rw [← elementsM_any]
  exact k _ (hk.next hb).below
theorem key_ok (s:Stp) (x:Int) {dv:Value} (hx:I64 x) (hs:SetR w s dv) (k:∀ w',Below w.heap.size w w' → K (.bool (keyM s x)) w'):callM Tryz.prog 87 #[stpV s dv,.int .i64 x] K w:=by
 apply sh_87_ok
 unfold sh_87
 obtain ⟨ad,c,rfl⟩:=hs.ints.isSlice
 refine box_kn (cs:=stpC s (.slice ad s.bases.length c)) rfl (.start w) fun b W hk hb1 hb=>?_
 unfold keyM at k
 by_cases hx1:x = 1
 ·have k:=k _ hk.below
  refine Xa0 ?_
  simpa [hx1] using k
 ·repeat (any_goals (first
  | ((with_reducible refine mk1 x hx ?_); intro v W2 hb2 hi)
  | (with_reducible first|refine pureM_in ?_|((refine idGd ?_); ((refine idGdN ?_); refine zL ?_)))
  | ((with_reducible refine oM_gen fun Kv hK=>?_); simp [go_sem,hk.cells]; refine hK _ _ ?_; clear hK Kv)))
  have hk:=hk.next hb2
  refine elements_ok s (hs.next hk.below) hi (fun w3 h3=>?_)
  have k:=k _ (hk.next h3).below
  refine Xa0 ?_
  simpa [hx1] using k
theorem tpower_ok (s:Stp) (x n:Int) {dv:Value} (hs:SetR w s dv) (k:∀ w',Below w.heap.size w w' → K (.int .i64 (powerG s.g x n)) w'):callM Tryz.prog 89 #[stpV s dv,.int .i64 x,.int .i64 n] K w:=by
 apply sh_89_ok
 unfold sh_89
 obtain ⟨ad,c,rfl⟩:=hs.ints.isSlice
 refine box_kn (cs:=stpC s (.slice ad s.bases.length c)) rfl (.start w) fun b W hk hb1 hb=>?_
 refine Xa hk.cells ?_
 refine Power_ok s.g x n (fun w2 h2=>?_)
 exact k _ (hk.next h2).below
theorem generated_ok (s:Stp) (n:Int) {dv:Value} (hs:SetR w s dv) (k:∀ w',Below w.heap.size w w' → K (.int .i64 (genM s n)) w'):callM Tryz.prog 66 #[stpV s dv,.int .i64 n] K w:=by
 apply sh_66_ok
 unfold sh_66
 obtain ⟨ad,c,rfl⟩:=hs.ints.isSlice
 refine box_kn (cs:=stpC s (.slice ad s.bases.length c)) rfl (.start w) fun b W hk hb1 hb=>?_
 refine Xa hk.cells ?_
 refine tpower_ok s _ n (hs.next hk.below) (fun w2 h2=>?_)
 exact k _ (hk.next h2).below
theorem plus_ok (s:Stp) (x n:Int) {dv:Value} (hs:SetR w s dv) (k:∀ w',Below w.heap.size w w' → K (.int .i64 (plusQ s x n)) w'):callM Tryz.prog 70 #[stpV s dv,.int .i64 x,.int .i64 n] K w:=by
 apply sh_70_ok
 unfold sh_70
 obtain ⟨ad,c,rfl⟩:=hs.ints.isSlice
 refine box_kn (cs:=stpC s (.slice ad s.bases.length c)) rfl (.start w) fun b W hk hb1 hb=>?_
 refine Xa hk.cells ?_
 refine Add_ok _ x n ?_
 exact k _ hk.below
theorem less_ok (s:Stp) (x n:Int) {dv:Value} (hs:SetR w s dv) (k:∀ w',Below w.heap.size w w' → K (.int .i64 (lessQ s x n)) w'):callM Tryz.prog 77 #[stpV s dv,.int .i64 x,.int .i64 n] K w:=by
 apply sh_77_ok
 unfold sh_77
 obtain ⟨ad,c,rfl⟩:=hs.ints.isSlice
 refine box_kn (cs:=stpC s (.slice ad s.bases.length c)) rfl (.start w) fun b W hk hb1 hb=>?_
 refine Xa hk.cells ?_
 refine Sub_ok _ x n ?_
 exact k _ hk.below
theorem product_t_ok (s:Stp) {dv ev:Value} {es:List Int} (hs:SetR w s dv) (he:Ints w ev es) (k:∀ w',Below w.heap.size w w' → K (.int .i64 (prodG s.g s.bases es).1) w'):callM Tryz.prog 90 #[stpV s dv,ev] K w:=by
 apply sh_90_ok
 unfold sh_90
 have hi:=hs.ints
 obtain ⟨ad,c,rfl⟩:=hs.ints.isSlice
 refine box_kn (cs:=stpC s (.slice ad s.bases.length c)) rfl (.start w) fun b W hk hb1 hb=>?_
 refine Xa hk.cells ?_
 refine Product_ok s.g (hi.next hk.below) (he.next hk.below) (fun w2 h2=>?_)
 refine Xa0 ?_
 exact k _ (hk.next h2).below
def TmJ (f:Int → Int → Int) (l:List Int) (R:Int) (L:List (Addr × Value)) (w0:World) (vs:List Value) (w':World):Prop:=Kn w0 L w' ∧ ∃ (v:Value) (o:Int) (i:Nat),vs = [v,.int .i64 o,.int .i64 (i:Int)] ∧ i ≤ l.length ∧ (l.drop i).foldl f o = R
theorem times_ok (s:Stp) (x:Int) {dv v:Value} {l:List Int} (hs:SetR w s dv) (hl:Ints w v l) (k:∀ w',Below w.heap.size w w' → K (.int .i64 (timesM s x l)) w'):callM Tryz.prog 91 #[stpV s dv,.int .i64 x,v] K w:=by
 apply sh_91_ok
 unfold sh_91
 obtain ⟨ad,c,rfl⟩:=hs.ints.isSlice
 refine box_kn (cs:=stpC s (.slice ad s.bases.length c)) rfl (.start w) fun b W hk hb1 hb=>?_
 obtain ⟨ad2,c2,rfl⟩:=hl.isSlice
 have hll:=hl.len
 refine Xa0 ?_
 unfold timesM at k
 refine ⟨TmJ (fun a x=>timesG s.g a x) l _ _ w,vsMu l.length,⟨hk,_,_,0,rfl,by omega,rfl⟩,?_⟩
 rintro _ _ w1 ⟨hk,u1,o,i,rfl,hi,ha⟩
 by_cases hin:i = l.length
 ·rw [List.drop_of_length_le (by omega),List.foldl_nil] at ha
  refine Xa0 ?_
  rw [ha]
  exact k _ hk.below
 ·rw [List.drop_eq_getElem_cons (by omega),List.foldl_cons] at ha
  obtain ⟨b1,o1,rfl,hb1,ca,ra,_⟩:=hl.at (i:=i) (by omega)
  refine Xa (An2 (ca _ hk.below) hk.cells) ?_
  refine Times_ok s.g _ _ (fun w2 h2=>?_)
  refine Xa0 ?_
  refine ⟨⟨hk.next h2,_,_,i + 1,rfl,by omega,ha⟩,?_⟩
  simp only [vsMu_eq]; omega
theorem mul_ok (s:Stp) (x:Int) {dv v:Value} {l:List Int} (hs:SetR w s dv) (hl:Ints w v l) (k:∀ w',Below w.heap.size w w' → K (.int .i64 (mulQ s x l)) w'):callM Tryz.prog 71 #[stpV s dv,.int .i64 x,v] K w:=by
 apply sh_71_ok
 unfold sh_71
 obtain ⟨ad,c,rfl⟩:=hs.ints.isSlice
 refine box_kn (cs:=stpC s (.slice ad s.bases.length c)) rfl (.start w) fun b W hk hb1 hb=>?_
 obtain ⟨ad2,c2,rfl⟩:=hl.isSlice
 have hll:=hl.len
 refine Xa0 ?_
 unfold mulQ at k
 refine ⟨TmJ (fun a x=>mulM s.g.Q a x) l _ _ w,vsMu l.length,⟨hk,_,_,0,rfl,by omega,rfl⟩,?_⟩
 rintro _ _ w1 ⟨hk,u1,o,i,rfl,hi,ha⟩
 by_cases hin:i = l.length
 ·rw [List.drop_of_length_le (by omega),List.foldl_nil] at ha
  refine Xa0 ?_
  rw [ha]
  exact k _ hk.below
 ·rw [List.drop_eq_getElem_cons (by omega),List.foldl_cons] at ha
  obtain ⟨b1,o1,rfl,hb1,ca,ra,_⟩:=hl.at (i:=i) (by omega)
  refine Xa (An2 (ca _ hk.below) hk.cells) ?_
  refine Mul_ok _ _ _ (fun w2 h2=>?_)
  refine Xa0 ?_
  refine ⟨⟨hk.next h2,_,_,i + 1,rfl,by omega,ha⟩,?_⟩
  simp only [vsMu_eq]; omega
end
end Go.Proofs
namespace Go.Proofs
open Go Go.Sh Go.RowKit FdSpec TkSpec
section
variable {K:Value → World → Prop} {w w0:World} {L:List (Addr × Value)}
theorem sz_desk (w:World):(sizeOf 116).run Tryz.prog w = .ok 5 w:=by kernel_rfl
theorem al_desk (w:World):(Instr.alloc 116 true (.tuple #[])).run Tryz.prog w = .ok (.pointer (some ⟨w.heap.size,0,none⟩)) (w.alloc (.cells [.int .i64 0,.int .i64 0,.int .i64 0,.slice none 0 0,.int .i64 0].toArray 116)):=by kernel_rfl
theorem stp_one (s:Stp) (ad:Option Addr) (n c:Nat):∀ u ∈ stpC s (.slice ad n c),u.oneCell' = true:=by
 intro u hu
 simp only [stpC,List.mem_cons,List.not_mem_nil,or_false] at hu
 rcases hu with rfl | rfl | rfl | rfl | rfl <;> rfl
theorem open_ok (s:Stp) {v:Value} (hs:SetR w s v) (k:∀ w',Below w.heap.size w w' → K (.tuple #[stpV s v,.bool (validS s)]) w'):callM Tryz.prog 64 #[stpV s v] K w:=by
 apply sh_64_ok
 unfold sh_64
 obtain ⟨ad,c,rfl⟩:=hs.ints.isSlice
 refine box_kn (cs:=stpC s (.slice ad s.bases.length c)) rfl (.start w) fun b W hk hb1 hb=>?_
 refine alloc_mine al_desk rfl hk fun g W2 hk hb2 hg=>?_
 refine ⟨KnM w _ g 5,hk.drew,?_⟩
 have hk:=hk.drew
 have hone:=stp_one s ad s.bases.length c
 repeat (any_goals ((with_reducible refine idOH ?_); (with_reducible refine oH_of ⟨_,rfl⟩ (fun W0 hW0=>by (refine oM_gen (fun Kv hK=>?_)); simp [go_sem,hW0.cells]; (first | exact hK _ _ ⟨rfl,rfl⟩ | exact ⟨by omega,hK _ _ ⟨rfl,rfl⟩⟩)) ?_)))
 refine ⟨?_,?_⟩
 ·refine Xa0 ?_
  refine ⟨hk,?_⟩
  refine ValidSetup_ok s (hs.next hk.below) (fun w2 h2=>?_)
  have hk:=hk.next h2
  refine ⟨hk,?_⟩
  refine store_mine sz_desk rfl rfl hone hk (fun W3 hk hc=>?_)
  exact ⟨hk,hk,_,by simp [go_sem,hc],k _ hk.below⟩
 ·refine ValidSetup_ok s (hs.next hk.below) (fun w2 h2=>?_)
  have hk:=hk.next h2
  refine ⟨hk,?_⟩
  refine Xa0 ?_
  refine ⟨hk,?_⟩
  refine store_mine sz_desk rfl rfl hone hk (fun W3 hk hc=>?_)
  exact ⟨hk,hk,_,by simp [go_sem,hc],k _ hk.below⟩
end
end Go.Proofs
namespace Go.Proofs
open Go.Shelf
def Tryz.laysNm2_21_ren:Go.Shelf.Ren:=⟨fun | 21=>135 | 27=>180 | 28=>181 | 35=>203 | 39=>221 | n=>n,fun | 22=>22 | 3=>3 | 4=>4 | 0=>0 | n=>n,fun | n=>n⟩
theorem Tryz.laysNm2_21:Go.Proofs.Lays2.n21 Tryz.prog Tryz.laysNm2_21_ren:={
 mixed:=by kernel_rfl
 f21:=Tryz.func135.trans (congrArg some (by kernel_rfl))
 f27:=Tryz.func180.trans (congrArg some (by kernel_rfl))
 f28:=Tryz.func181.trans (congrArg some (by kernel_rfl))
 f35:=Tryz.func203.trans (congrArg some (by kernel_rfl))
 f39:=Tryz.func221.trans (congrArg some (by kernel_rfl))
 t0:=Tryz.underlying0
 a0:=Tryz.isAgg0
 z0:=Tryz.sizeOf0
 v0:=Tryz.zeroValue0
 t3:=Tryz.underlying3
 a3:=Tryz.isAgg3
 z3:=Tryz.sizeOf3
 v3:=Tryz.zeroValue3
 t4:=Tryz.underlying4
 a4:=Tryz.isAgg4
 z4:=Tryz.sizeOf4
 v4:=Tryz.zeroValue4
 t22:=Tryz.underlying22
 a22:=Tryz.isAgg22
 z22:=Tryz.sizeOf22
 v22:=Tryz.zeroValue22
 i3:=by kernel_rfl }
end Go.Proofs
namespace Go.Proofs
open Go Go.Sh Go.RowKit FdSpec TkSpec
section
variable {K:Value → World → Prop} {w w0:World} {L:List (Addr × Value)}
theorem eqNil_at {P:Program} {w:World} {K:Value → World → Prop} {t e T:TypeId} {a:Option Addr} {n c:Nat} (ht:P.underlying t = some (.slice e)) (k:K (.bool a.isNone) w):oM P (.binOp .eql t (.tmp 0) (.const (.slice none 0 0)) t) T [.slice a n c] K w:=by
 rw [oM_eqc]
 have:=Lib.run_eql_slice_nil (P:=P) w t e a n c 0 0 ht
 simp only [Sem.run_bind]
 have h2:(eqGuard .eql t (.tmp 0) (.const (.slice none 0 0)) (.slice a n c) (.slice none 0 0)).run P w = .ok () w:=by
  simp [eqGuard]
 rw [h2,Result.andThen_ok,this]
 exact k
theorem below_set {B:Nat} {a:World} (g:Nat) (hg:B ≤ g):∀ (vs:List Value) (o:Nat) (w:World),Below B a w → Below B a (w.setCells g o vs)
 | [],_,_,h=>h
 | v :: r,o,w,h=>below_set g hg r (o + 1) _ (h.setCell (p:=⟨g,o,none⟩) hg v)
theorem some_set (b:Nat) (vs:List Value) (o:Nat) (w:World) (h:∀ j,j < vs.length → (w.cell? ⟨b,o + j,none⟩).isSome = true) (k:Nat) (hk:(w.cell? ⟨b,k,none⟩).isSome = true):((w.setCells b o vs).cell? ⟨b,k,none⟩).isSome = true:=by
 by_cases hin:o ≤ k ∧ k < o + vs.length
 ·have:=World.cell?_setCells_in b vs o w h (k - o) (by omega)
  rw [show o + (k - o) = k by omega] at this
  rw [this]; rfl
 ·rw [World.cell?_setCells_out b vs o w ⟨b,k,none⟩ (fun _ _=>by show k < o ∨ o + vs.length ≤ k; omega)]
  exact hk
theorem shifted1 {w:World} {g:Nat} {x:Value} {cs:List Value} (h:∀ j,j < cs.length + 1 → (w.cell? ⟨g,j,none⟩).isSome = true) (k:Nat) (v:Value) (hk:(x :: cs)[k]? = some v):((w.setCells g 1 cs).setCells g 0 [x]).cell? ⟨g,k,none⟩ = some v:=by
 have h1:∀ j,j < cs.length → (w.cell? ⟨g,1 + j,none⟩).isSome = true:=fun j hj=>h _ (by omega)
 cases k with
 | zero=>
  have:=World.cell?_setCells_in g [x] 0 (w.setCells g 1 cs) (fun j hj=>by
   have:j = 0:=by simpa using hj
   subst this
   exact some_set g cs 1 w h1 0 (h 0 (by omega))) 0 (by simp)
  rw [this]
  simpa using hk
 | succ k=>
  have hlt:k < cs.length:=by
   have:=(List.getElem?_eq_some_iff.1 hk).1
   simpa using this
  rw [World.cell?_setCells_out g [x] 0 _ ⟨g,k + 1,none⟩ (fun _ _=>by show k + 1 < 0 ∨ 0 + 1 ≤ k + 1; omega)]
  have:=World.cell?_setCells_in g cs 1 w h1 k hlt
  rw [show k + 1 = 1 + k by omega,this,← hk]
  simp [hlt]
theorem shifted2 {w:World} {g:Nat} {x:Value} {cs:List Value} (h:∀ j,j < cs.length + 1 → (w.cell? ⟨g,j,none⟩).isSome = true) (k:Nat) (v:Value) (hk:(x :: cs)[k]? = some v):((w.setCells g 0 [x]).setCells g 1 cs).cell? ⟨g,k,none⟩ = some v:=by
 have h1:∀ j,j < [x].length → (w.cell? ⟨g,0 + j,none⟩).isSome = true:=fun j hj=>h _ (by simp at hj; omega)
 cases k with
 | zero=>
  rw [World.cell?_setCells_out g cs 1 _ ⟨g,0,none⟩ (fun _ _=>by show 0 < 1 ∨ 1 + cs.length ≤ 0; omega)]
  have:=World.cell?_setCells_in g [x] 0 w h1 0 (by simp)
  rw [this]
  simpa using hk
 | succ k=>
  have hlt:k < cs.length:=by
   have:=(List.getElem?_eq_some_iff.1 hk).1
   simpa using this
  have:=World.cell?_setCells_in g cs 1 (w.setCells g 0 [x]) (fun j hj=>some_set g [x] 0 w h1 (1 + j) (h _ (by omega))) k hlt
  rw [show k + 1 = 1 + k by omega,this,← hk]
  simp [hlt]
theorem Clone_ok {v:Value} {l:List Int} (hr:Ints w v l) (hl:l.length < 1099511627776) (k:∀ v' w',w'.ownsRow 0 3 1 v' l.length (flat intC l) → Below w.heap.size w w' → (∀ i,v'.ownBlock = some i → w.heap.size ≤ i) → K v' w'):callM Tryz.prog 136 #[v] K w:=by
 apply sh_136_ok
 unfold sh_136
 have hi:=hr.row
 obtain ⟨ad,c,rfl,h0,hc⟩:=id hi
 refine eqNil_at (e:=3) (by kernel_rfl) ?_
 cases ad with
 | none=>
  obtain ⟨hl0,rfl⟩:=h0 rfl
  obtain rfl:l = []:=List.eq_nil_of_length_eq_zero hl0
  simp only [Option.isNone_none]
  refine Xa0 ?_
  exact k _ _ (World.ownsRow_nil _ _ _ _) (Below.refl _ _) (fun i hi=>by cases hi)
 | some a=>
  simp only [Option.isNone_some]
  refine Xa0 ?_
  have hr2:RowR intC 1 (w.alloc (.cells #[] 3)) (.slice (some a) l.length c) l:=hi.keep (by rw [alloc_size]; omega) (fun i _ hi=>heap_alloc_old _ _ hi)
  refine clone_at 22 22 3 ((Tryz.prog.info? 3).getD default) (.int .i64 0) 1 8 (by kernel_rfl) (by kernel_rfl) (by kernel_rfl) (by kernel_rfl) (by kernel_rfl) (by kernel_rfl) (by omega) (fun _=>rfl) (fun x u hu=>by simp [intC] at hu; subst hu; rfl) hr2 (World.ownsRow_lit w #[] 0 (Nat.zero_le _) (Nat.zero_le _) rfl) (B:=w.heap.size) (by rw [alloc_size]; omega) (fun i hi=>by cases hi; exact Nat.le_refl _) (by omega) (by omega) ?_
  intro v' w' ho hg hv
  exact k v' w' ho (((Below.refl _ _).alloc (Nat.le_refl _) _).grown hg (by rw [alloc_size]; omega) (fun i hi=>by cases hi; exact Nat.le_refl _)) hv
theorem Insert_ok {g c:Nat} {l:List Int} {x:Int} {b:Nat} (hne:0 < l.length) (hl:l.length < 1099511627776) (ho:w.ownsRow 0 3 1 (.slice (some ⟨g,0,none⟩) l.length c) l.length (flat intC l)) {B:Nat} (hB:B ≤ g) (hBw:B ≤ w.heap.size)
  (hx:w.heap[b]? = some (.cells #[.int .i64 x] 3 (0,0))) (hbg:b ≠ g) (hr:∀ n ∈ l,I64 n) (hrx:I64 x) (k:∀ v' w',Ints w' v' (x :: l) → Below B w w' → (∀ i,Value.inBlock v' = some i → B ≤ i) → K v' w') :
  callM Tryz.prog 135 #[.slice (some ⟨g,0,none⟩) l.length c,.int .i64 0,.slice (some ⟨b,0,none⟩) 1 1] K w:=by
 obtain ⟨g',cap,cur,hv,hgw,_,hgb,hcs,hcap,hcell⟩:=owns_cells ho hne
 cases hv
 have hxc:∀ (j:Nat) (v:Value),[Value.int .i64 x][j]? = some v → w.cell? ⟨b,0 + j,none⟩ = some v:=by
  intro j v hj
  rw [cell_of_block hx]
  simpa using hj
 have hcc:∀ (j:Nat) (v:Value),(flat intC l)[j]? = some v → w.cell? ⟨g,0 + j,none⟩ = some v:=by
  intro j v hj
  rw [Nat.zero_add]
  exact hcell j v hj
 have h1:∀ v ∈ flat intC l,v.oneCell' = true:=by
  intro v hv
  rw [flat_int] at hv
  obtain ⟨n,_,rfl⟩:=List.mem_map.1 hv
  rfl
 have h1x:∀ v ∈ [Value.int .i64 x],v.oneCell' = true:=by
  intro v hv
  simp at hv
  subst hv
  rfl
 have hfl:(flat intC l).length = l.length:=by rw [flat_int]; simp
 have hbw:b < w.heap.size:=(Array.getElem?_eq_some_iff.1 hx).1
 have hxx:∀ n ∈ x :: l,I64 n:=by
  intro n hn
  rcases List.mem_cons.1 hn with rfl | hn
  ·exact hrx
  ·exact hr n hn
 have hlx:(flat intC (x :: l)) = .int .i64 x :: flat intC l:=rfl
 have hcm:c ≤ 9223372036854775807:=by
  rcases ho.2 with ⟨h0,_⟩ | ⟨g2,cap2,cur2,hv2,_,_,_,hm2,_⟩
  ·cases h0
  ·cases hv2
   simp only [maxLen] at hm2
   omega
 by_cases hroom:l.length + 1 ≤ c
 ·have hsm:∀ j,j < l.length + 1 → (w.cell? ⟨g,j,none⟩).isSome = true:=by
   intro j hj
   rw [cell_of_block hgb]
   simp
   omega
  have h:=Any2.slices_Insert_int_shift Tryz.laysNm2_21 g 0 l.length c 0 b 0 1 1 (flat intC l) [.int .i64 x] w (by omega) (by omega) hroom hcm hbg hfl rfl hcc (fun j hj=>by rw [Nat.zero_add]; exact hsm j hj)
   (fun j hj=>by unfold World.frozen?; rw [hgb]; simp) hxc h1 h1x 3 3 1 cur.size (by unfold World.shape?; rw [hx]; rfl) (by unfold World.shape?; rw [hgb]) (by omega) (by unfold World.frozen?; rw [hx]; simp) (by unfold World.frozen?; rw [hx]; simp)
  refine Calls.mono h ?_
  rintro e w' ⟨rfl,rfl⟩
  have hb2:∀ B':Nat,B' ≤ g → Below B' w ((w.drew.setCells g (0 + (0 + 1)) (List.drop 0 (flat intC l))).setCells g (0 + 0) [Value.int .i64 x]):=fun B' hB'=>
   below_set g hB' _ _ _ (below_set g hB' _ _ _ (Below.refl _ w).drew)
  refine ⟨_,rfl,k _ _ ⟨⟨_,c,rfl,by simp,.inr ⟨g,0,rfl,Nat.lt_of_lt_of_le hgw (hb2 0 (Nat.zero_le _)).size,fun j v hj=>?_⟩⟩,hxx,by simp; omega⟩ (hb2 B hB) (fun i hi=>by cases hi; exact hB)⟩
  simp only [Nat.zero_add,Nat.add_zero,List.drop_zero]
  rw [hlx] at hj
  exact shifted1 (w:=w.drew) (fun j hj=>hsm j (by rw [hfl] at hj; exact hj)) j v hj
 ·have h:=Any2.slices_Insert_int_grow Tryz.laysNm2_21 g 0 l.length c 0 b 0 1 1 (flat intC l) [.int .i64 x] w (by omega) (by omega) (by omega) (by omega) (by omega) hfl rfl hcc hxc h1 h1x
  refine Calls.mono h ?_
  rintro e w' ⟨rfl,rfl⟩
  have hG:=grownCap_ge w (l.length + 1) c 3
  have e3:Tryz.laysNm2_21_ren.t 3 = 3:=rfl
  rw [e3]
  generalize grownCap w (l.length + 1) c 3 = G at *
  simp only [List.take_zero,List.drop_zero,Nat.zero_add,Nat.add_zero,Nat.sub_zero]
  have hsm:∀ j,j < (flat intC l).length + 1 → ((w.alloc (.cells (([]:List Value).toArray ++ Builtin.zeroCells (Value.int .i64 0).cells (l.length + 1) ++ Builtin.zeroCells (Value.int .i64 0).cells (G - (l.length + 1))) 3)).drew.cell? ⟨w.heap.size,j,none⟩).isSome = true:=by
   intro j hj
   rw [hfl] at hj
   have:=World.cell?_alloc_at (w:=w) (([]:List Value).toArray ++ Builtin.zeroCells (Value.int .i64 0).cells (l.length + 1) ++ Builtin.zeroCells (Value.int .i64 0).cells (G - (l.length + 1))) 3 w.heap.size j rfl
   show (World.cell? _ _).isSome = true
   refine (congrArg Option.isSome this).trans ?_
   rw [Array.getElem?_eq_getElem (by simp [Builtin.zeroCells,Value.cells]; omega)]
   rfl
  generalize hW:w.alloc (.cells (([]:List Value).toArray ++ Builtin.zeroCells (Value.int .i64 0).cells (l.length + 1) ++ Builtin.zeroCells (Value.int .i64 0).cells (G - (l.length + 1))) 3) = W at *
  have hbW:Below w.heap.size w W:=by rw [← hW]; exact (Below.refl _ w).alloc (Nat.le_refl _) _
  have hWs:w.heap.size < W.heap.size:=by rw [← hW,alloc_size]; omega
  have hb2:Below w.heap.size w (((W.drew.setCells w.heap.size 0 [Value.int .i64 x]).drew).setCells w.heap.size 1 (flat intC l)):=
   below_set _ (Nat.le_refl _) _ _ _ (below_set _ (Nat.le_refl _) _ _ _ hbW.drew).drew
  have hs2:w.heap.size < (((W.drew.setCells w.heap.size 0 [Value.int .i64 x]).drew).setCells w.heap.size 1 (flat intC l)).heap.size:=
   Nat.lt_of_lt_of_le hWs (below_set w.heap.size (Nat.zero_le _) _ _ _ (below_set w.heap.size (Nat.zero_le _) _ _ _ (Below.refl 0 W).drew).drew).size
  refine ⟨_,rfl,k _ _ ⟨⟨_,G,rfl,by simp,.inr ⟨_,0,rfl,hs2,fun j v hj=>?_⟩⟩,hxx,by simp; omega⟩ (hb2.mono hBw) (fun i hi=>by cases hi; exact hBw)⟩
  rw [Nat.zero_add]
  rw [hlx] at hj
  rw [drew_setCells]
  exact shifted2 (w:=W.drew.drew) (g:=w.heap.size) (x:=.int .i64 x) (cs:=flat intC l) hsm j v hj
end
end Go.Proofs
namespace Go.Proofs
open Go Go.Sh Go.RowKit FdSpec TkSpec
section
variable {K:Value → World → Prop} {w w0:World} {L:List (Addr × Value)}
theorem exps_ok {v:Value} {l:List Int} (hl:Ints w v l) (hne:0 < l.length) (hln:l.length < 1099511627776) (k:∀ v' w',Ints w' v' (expsM l) → Below w.heap.size w w' → (∀ i,Value.inBlock v' = some i → w.heap.size ≤ i) → K v' w'):callM Tryz.prog 69 #[v] K w:=by
 apply sh_69_ok
 unfold sh_69
 refine Clone_ok hl hln (fun v1 w1 ho hb hv=>?_)
 obtain ⟨g,cap,cur,rfl,hgw,_,hgb,hcs,hcap,hcell⟩:=owns_cells ho hne
 have hg:=hv g rfl
 have e:(Instr.buildSlice 22 1 #[(0,.int .i64 1)]).run Tryz.prog w1 = .ok (.slice (some ⟨w1.heap.size,0,none⟩) 1 1) (w1.alloc (.cells #[.int .i64 1] 3)):=by kernel_rfl
 rw [oM_buildSlice1,e,rM_ok]
 have hb2:=(Below.refl w1.heap.size w1).alloc (Nat.le_refl _) (.cells #[.int .i64 1] 3)
 refine Insert_ok (x:=1) (B:=w.heap.size) hne hln (ho.alloc _) hg (by rw [alloc_size]; have:=hb.size; omega) (b:=w1.heap.size) (by show (w1.heap.push _)[w1.heap.size]? = _; exact Array.getElem?_push_size) (by omega) hl.rng (by unfold I64; omega) (fun v' w' hi hbb hff=>?_)
 exact k _ _ hi ((hb.on hb2).trans hbb) hff
theorem markM_no {s:Stp} {l:List Int} (h:validS s = false ∨ l.length + 1 ≠ s.bases.length ∨ numsM s 0 l = false ∨ l.headD 0 = 0):markM s l = (0,false):=by
 unfold markM
 rw [if_neg]
 intro hc
 simp only [Bool.and_eq_true,decide_eq_true_eq,Bool.not_eq_true',decide_eq_false_iff_not] at hc
 obtain ⟨⟨⟨h1,h2⟩,h3⟩,h4⟩:=hc
 rcases h with h | h | h | h
 ·rw [h] at h1; cases h1
 ·exact h h2
 ·rw [h] at h3; cases h3
 ·exact h4 h
theorem markM_yes {s:Stp} {l:List Int} (h1:validS s = true) (h2:l.length + 1 = s.bases.length) (h3:numsM s 0 l = true) (h4:l.headD 0 ≠ 0):markM s l = ((prodG s.g s.bases (expsM l)).1,true):=by
 unfold markM
 rw [if_pos]
 simp only [Bool.and_eq_true,decide_eq_true_eq,Bool.not_eq_true',decide_eq_false_iff_not]
 exact ⟨⟨⟨h1,h2⟩,h3⟩,h4⟩
theorem local_desk {K:Value → World → Prop} {T' T2:TypeId} {g n:Nat} (s:Stp) (ad:Option Addr) (m c:Nat) (hk:KnM w0 L g n w)
  (k:∀ b W,KnM w0 (cellsOf L b 0 (stpC s (.slice ad m c))) g n W → Below w.heap.size w W → w.heap.size ≤ b → K (.pointer (some ⟨b,0,none⟩)) W) :
  oM Tryz.prog (.alloc 116) T' [] (fun v w=>oM Tryz.prog (.store 116 (.tmp 0) (.tmp 1)) T2 [v,stpV s (.slice ad m c)] (fun _ w=>K v w) w) w:=
 local_knm al_desk rfl sz_desk rfl rfl (stp_one s ad m c) hk k
theorem local_desk' {K:Value → World → Prop} {T' T2:TypeId} (s:Stp) (ad:Option Addr) (m c:Nat) (hk:Kn w0 L w)
  (k:∀ b W,Kn w0 (cellsOf L b 0 (stpC s (.slice ad m c))) W → Below w.heap.size w W → w.heap.size ≤ b → K (.pointer (some ⟨b,0,none⟩)) W) :
  oM Tryz.prog (.alloc 116) T' [] (fun v w=>oM Tryz.prog (.store 116 (.tmp 0) (.tmp 1)) T2 [v,stpV s (.slice ad m c)] (fun _ w=>K v w) w) w:=
 local_kn al_desk rfl sz_desk rfl rfl (stp_one s ad m c) hk k
theorem validS_len {s:Stp} (h:validS s = true):2 ≤ s.bases.length ∧ s.bases.length ≤ 7:=by
 unfold validS at h
 simp only [Bool.and_eq_true,decide_eq_true_eq] at h
 exact ⟨h.1.1.1.2,h.1.1.2⟩
theorem store_desk {K:Value → World → Prop} {T':TypeId} {g:Nat} (s:Stp) (ad:Option Addr) (m c:Nat) (hk:KnM w0 L g 5 w)
  (k:∀ W,KnM w0 L g 5 W → cellsAre W (cellsOf [] g 0 (stpC s (.slice ad m c))) → K undef W):oM Tryz.prog (.store 116 (.tmp 0) (.tmp 1)) T' [.pointer (some ⟨g,0,none⟩),stpV s (.slice ad m c)] K w:=
 store_mine sz_desk rfl rfl (stp_one s ad m c) hk k
theorem _root_.Go.Sh.Ints.headD {w:World} {ad:Option Addr} {n c:Nat} {l:List Int} (h:Ints w (.slice ad n c) l) (hne:0 < l.length) :
  ∃ b o,ad = some ⟨b,o,none⟩ ∧ (∀ w',Below w.heap.size w w' → w'.cell? ⟨b,o,none⟩ = some (.int .i64 (l.headD 0))) ∧ I64 (l.headD 0):=by
 obtain ⟨b,o,rfl,_,hc,hr,_⟩:=h.at hne
 have e:l[0] = l.headD 0:=by
  cases l with
  | nil=>simp at hne
  | cons a l=>rfl
 rw [e] at hc hr
 exact ⟨b,o,rfl,fun w' hb=>by have:=hc w' hb; simpa using this,hr⟩
theorem mark_ok (s:Stp) {v lv:Value} {l:List Int} (hs:SetR w s v) (hl:Ints w lv l) (k:∀ w',Below w.heap.size w w' → K (.tuple #[stpV s v,.int .i64 (markM s l).1,.bool (markM s l).2]) w'):callM Tryz.prog 134 #[stpV s v,lv] K w:=by
 apply sh_134_ok
 unfold sh_134
 obtain ⟨ad,c,rfl⟩:=hs.ints.isSlice
 have hone:=stp_one s ad s.bases.length c
 have k2:∀ w' r,markM s l = r → Below w.heap.size w w' → K (.tuple #[stpV s (.slice ad s.bases.length c),.int .i64 r.1,.bool r.2]) w':=fun w' r e hb=>by rw [← e]; exact k w' hb
 clear k
 refine box_kn (cs:=stpC s (.slice ad s.bases.length c)) rfl (.start w) fun b W hk hb1 hb=>?_
 refine alloc_mine al_desk rfl hk fun g W2 hk hb2 hg=>?_
 refine Xa hk.cells ?_
 refine open_ok s (hs.next hk.below) (fun w2 h2=>?_)
 have hk:=hk.next h2
 clear h2 hb1 hb2
 have hll:=hl.len
 have hbl:=hs.ints.len
 obtain ⟨lad,lc,rfl⟩:=hl.isSlice
 cases hv:validS s with
 | false=>
  repeat (any_goals (first
  | ((with_reducible refine local_desk s ad s.bases.length c hk ?_); intro b7 W7 hk hb7 hg7)
  | (with_reducible first|refine zD ?_|refine yB ?_|refine yL ?_)
  | ((with_reducible refine oM_gen fun Kv hK=>?_); simp [go_sem,hk.cells]; refine hK _ _ ?_; clear hK Kv)))
  refine store_desk s ad _ c hk (fun W3 hk hc=>⟨_,by simp [go_sem,hc],k2 _ _ (markM_no (.inl hv)) hk.below⟩)
 | true=>
  have hlen:=validS_len hv
  repeat (any_goals (first
  | ((with_reducible refine local_desk s ad s.bases.length c hk ?_); intro b7 W7 hk hb7 hg7)
  | (with_reducible first|refine pureM_in ?_|((refine idGd ?_); first|refine zC ?_|refine zD ?_|((refine idGdN ?_); first|refine zO ?_|refine zP ?_|refine zQ (fun hg=>?_) fun hg=>?_))|((refine idPick ?_); first|refine yB ?_|refine yC ?_|refine yF ?_)|refine yL ?_)
  | ((with_reducible refine oM_gen fun Kv hK=>?_); simp [go_sem,hk.cells]; (try simp (disch:=omega) only [wrapI64,wrapU8,wrapU32,wrapU64]); refine hK _ _ ?_; clear hK Kv)))
  ·refine nums_ok s 0 (hs.next hk.below) (hl.next hk.below) (fun w3 h3=>?_)
   have hk:=hk.next h3
   obtain ⟨b8,o8,rfl,c8,r8⟩:=hl.headD (by omega)
   obtain ⟨x0,hx0⟩:∃ x0,l.headD 0 = x0:=⟨_,rfl⟩
   rw [hx0] at c8 r8
   cases hn:numsM s 0 l with
   | false=>
    refine Xa hk.cells ?_
    refine store_desk s ad _ c hk (fun W3 hk hc=>⟨_,by simp [go_sem,hc],k2 _ _ (markM_no (.inr (.inr (.inl hn)))) hk.below⟩)
   | true=>
    by_cases h0:x0 = 0
    ·refine Xa (An3 hk.cells (c8 _ hk.below) @h0) ?_
     refine store_desk s ad _ c hk (fun W3 hk hc=>⟨_,by simp [go_sem,hc],k2 _ _ (markM_no (.inr (.inr (.inr (hx0.trans h0))))) hk.below⟩)
    ·refine Xa (An3 hk.cells (c8 _ hk.below) @h0) ?_
     have em:=markM_yes hv (by omega) hn (by rw [hx0]; exact h0)
     refine ⟨KnM w _ g 5,hk.drew,?_⟩
     have hk:=hk.drew
     repeat (any_goals (first
     | (with_reducible refine pureH_in ?_)
     | ((with_reducible refine idOH ?_); (with_reducible refine oH_of ⟨_,rfl⟩ (fun W0 hW0=>by (refine oM_gen (fun Kv hK=>?_)); simp [go_sem,hW0.cells]; (first | exact hK _ _ ⟨rfl,rfl⟩ | exact ⟨by omega,hK _ _ ⟨rfl,rfl⟩⟩)) ?_))))
     refine exps_ok (hl.next hk.below) (by omega) (by omega) (fun ev w4 he h4 _=>?_)
     have hk:=hk.next h4
     refine ⟨hk,?_⟩
     refine product_t_ok s (hs.next hk.below) he (fun w5 h5=>?_)
     have hk:=hk.next h5
     refine ⟨hk,?_⟩
     refine store_desk s ad _ c hk (fun W3 hk hc=>⟨hk,hk,hk,_,by simp [go_sem,hc],k2 _ _ em hk.below⟩)
  ·refine store_desk s ad _ c hk (fun W3 hk hc=>⟨_,by simp [go_sem,hc],k2 _ _ (markM_no (.inr (.inl (by omega)))) hk.below⟩)
theorem usable_ok (s:Stp) {v lv:Value} {l:List Int} (hs:SetR w s v) (hl:Ints w lv l) (k:∀ w',Below w.heap.size w w' → K (.tuple #[stpV s v,.int .i64 (usableM s l).1,.bool (usableM s l).2]) w'):callM Tryz.prog 67 #[stpV s v,lv] K w:=by
 apply sh_67_ok
 unfold sh_67
 obtain ⟨ad,c,rfl⟩:=hs.ints.isSlice
 refine box_kn (cs:=stpC s (.slice ad s.bases.length c)) rfl (.start w) fun b W hk hb1 hb=>?_
 refine alloc_mine al_desk rfl hk fun g W2 hk hb2 hg=>?_
 refine Xa hk.cells ?_
 refine mark_ok s (hs.next hk.below) (hl.next hk.below) (fun w2 h2=>?_)
 have hk:=hk.next h2
 clear h2 hb1 hb2
 unfold usableM at k
 obtain ⟨⟨m,u⟩,hm⟩:∃ x,markM s l = x:=⟨_,rfl⟩
 rw [hm] at k ⊢
 simp only at k ⊢
 cases u with
 | false=>
  repeat (any_goals (first
  | ((with_reducible refine local_desk s ad s.bases.length c hk ?_); intro b7 W7 hk hb7 hg7)
  | (with_reducible first|refine zB ?_|refine yC ?_)
  | ((with_reducible refine oM_gen fun Kv hK=>?_); simp [go_sem,hk.cells]; refine hK _ _ ?_; clear hK Kv)))
  refine store_desk s ad _ c hk (fun W3 hk hc=>⟨_,by simp [go_sem,hc],k _ hk.below⟩)
 | true=>
  repeat (any_goals (first
  | ((with_reducible refine local_desk s ad s.bases.length c hk ?_); intro b7 W7 hk hb7 hg7)
  | (with_reducible first|refine pureM_in ?_|refine zA ?_|refine yB ?_)
  | ((with_reducible refine oM_gen fun Kv hK=>?_); simp [go_sem,hk.cells]; refine hK _ _ ?_; clear hK Kv)))
  refine store_desk s ad _ c hk (fun W3 hk hc=>⟨stpV s (.slice ad s.bases.length c),by simp [go_sem,hc],by simpa using k _ hk.below⟩)
end
end Go.Proofs
namespace Go.Proofs
open Go Go.Sh Go.RowKit FdSpec TkSpec
theorem I64_of {x n:Int} (h:0 ≤ x ∧ x < n) (hn:okN n):I64 x:=by unfold I64; unfold okN at hn; omega
theorem I64_0:I64 0:=by unfold I64; omega
theorem mulM_I64 (n a b:Int):I64 (mulM n a b):=by
 by_cases hn:okN n
 ·exact I64_of (mulM_range n a b hn) hn
 ·unfold mulM; rw [if_neg hn]; exact I64_0
theorem addM_I64 (n a b:Int):I64 (addM n a b):=by
 by_cases hn:okN n
 ·exact I64_of (addM_range n a b hn) hn
 ·unfold addM; rw [if_neg hn]; exact I64_0
theorem subM_I64 (n a b:Int):I64 (subM n a b):=by
 by_cases hn:okN n
 ·exact I64_of (subM_range n a b hn) hn
 ·unfold subM; rw [if_neg hn]; exact I64_0
theorem powM_I64 (n a b:Int):I64 (powM n a b):=by
 by_cases hn:okN n
 ·have h1:0 < n:=by unfold okN at hn; omega
  unfold powM; rw [if_pos hn]
  split
  ·exact I64_of (pw_nonneg n a _ h1) hn
  ·split
   ·exact I64_of (pw_nonneg n _ _ h1) hn
   ·exact I64_0
 ·unfold powM; rw [if_neg hn]; exact I64_0
theorem mulQ_I64 (s:Stp) (x:Int) (l:List Int) (h:l ≠ []):I64 (mulQ s x l):=by
 unfold mulQ
 obtain ⟨l',y,rfl⟩:∃ l' y,l = l' ++ [y]:=⟨l.dropLast,l.getLast h,(List.dropLast_concat_getLast h).symm⟩
 rw [List.foldl_append]
 exact mulM_I64 _ _ _
section
variable {K:Value → World → Prop} {w w0:World} {L:List (Addr × Value)}
theorem mk5 {T:TypeId} (a b c d e:Int) (ha:I64 a) (hb:I64 b) (hc:I64 c) (hd:I64 d) (he:I64 e) (k:∀ v W,Below w.heap.size w W → Ints W v [a,b,c,d,e] → K v W):oM Tryz.prog (.buildSlice 22 5 #[(0,.tmp 0),(1,.tmp 1),(2,.tmp 2),(3,.tmp 3),(4,.tmp 4)]) T [.int .i64 a,.int .i64 b,.int .i64 c,.int .i64 d,.int .i64 e] K w:=by
 rw [rM_of (S:=Instr.buildSlice 22 5 #[(0,.int .i64 a),(1,.int .i64 b),(2,.int .i64 c),(3,.int .i64 d),(4,.int .i64 e)]) (by simp [xop,execOp,evalL,evE])]
 have e:(Instr.buildSlice 22 5 #[(0,.int .i64 a),(1,.int .i64 b),(2,.int .i64 c),(3,.int .i64 d),(4,.int .i64 e)]).run Tryz.prog w = .ok (.slice (some ⟨w.heap.size,0,none⟩) 5 5) (w.alloc (.cells #[.int .i64 a,.int .i64 b,.int .i64 c,.int .i64 d,.int .i64 e] 3)):=by kernel_rfl
 rw [e]
 exact k _ _ ((Below.refl _ w).alloc (Nat.le_refl _) _) (ints_alloc w [a,b,c,d,_] _ 5 (by simp; exact ⟨ha,hb,hc,hd,he⟩) (by simp))
theorem over_ok (s:Stp) (x y:Int) {dv:Value} (hs:SetR w s dv) (k:∀ w',Below w.heap.size w w' → K (.int .i64 (overQ s x y)) w'):callM Tryz.prog 74 #[stpV s dv,.int .i64 x,.int .i64 y] K w:=by
 apply sh_74_ok
 unfold sh_74
 obtain ⟨ad,c,rfl⟩:=hs.ints.isSlice
 refine box_kn (cs:=stpC s (.slice ad s.bases.length c)) rfl (.start w) fun b W hk hb1 hb=>?_
 refine ⟨Kn w _,hk.drew,?_⟩
 have hk:=hk.drew
 repeat (any_goals (first
 | (with_reducible refine pureH_in ?_)
 | ((with_reducible refine idOH ?_); (with_reducible refine oH_of ⟨_,rfl⟩ (fun W0 hW0=>by (refine oM_gen (fun Kv hK=>?_)); simp [go_sem,hW0.cells]; (first | exact hK _ _ ⟨rfl,rfl⟩ | exact ⟨by omega,hK _ _ ⟨rfl,rfl⟩⟩)) ?_))))
 refine Pow_ok _ _ _ (by omega) (fun w2 h2=>?_)
 have hk:=hk.next h2
 refine ⟨hk,mk1 _ (powM_I64 _ _ _) (fun v w3 h3 hi=>?_)⟩
 have hk:=hk.next h3
 refine ⟨hk,mul_ok s x (hs.next hk.below) hi (fun w4 h4=>?_)⟩
 have hk:=hk.next h4
 exact ⟨hk,hk,k _ hk.below⟩
theorem Mark_ok (s:Stp) {v lv:Value} {l:List Int} (hs:SetR w s v) (hl:Ints w lv l) (k:∀ w',Below w.heap.size w w' → K (.int .i64 (markM s l).1) w'):callM Tryz.prog 80 #[stpV s v,lv] K w:=by
 apply sh_80_ok
 unfold sh_80
 obtain ⟨ad,c,rfl⟩:=hs.ints.isSlice
 refine box_kn (cs:=stpC s (.slice ad s.bases.length c)) rfl (.start w) fun b W hk hb1 hb=>?_
 refine Xa hk.cells ?_
 refine mark_ok s (hs.next hk.below) (hl.next hk.below) (fun w2 h2=>?_)
 have hk:=hk.next h2
 repeat (any_goals (first
 | ((with_reducible refine local_desk' s ad s.bases.length c hk ?_); intro b7 W7 hk hb7 hg7)
 | ((with_reducible refine oM_gen fun Kv hK=>?_); simp [go_sem,hk.cells]; refine hK _ _ ?_; clear hK Kv)))
 exact k _ hk.below
theorem Usable_ok (s:Stp) {v lv:Value} {l:List Int} (hs:SetR w s v) (hl:Ints w lv l) (k:∀ w',Below w.heap.size w w' → K (.bool (usableM s l).2) w'):callM Tryz.prog 81 #[stpV s v,lv] K w:=by
 apply sh_81_ok
 unfold sh_81
 obtain ⟨ad,c,rfl⟩:=hs.ints.isSlice
 refine box_kn (cs:=stpC s (.slice ad s.bases.length c)) rfl (.start w) fun b W hk hb1 hb=>?_
 refine Xa hk.cells ?_
 refine usable_ok s (hs.next hk.below) (hl.next hk.below) (fun w2 h2=>?_)
 have hk:=hk.next h2
 repeat (any_goals (first
 | ((with_reducible refine local_desk' s ad s.bases.length c hk ?_); intro b7 W7 hk hb7 hg7)
 | ((with_reducible refine oM_gen fun Kv hK=>?_); simp [go_sem,hk.cells]; refine hK _ _ ?_; clear hK Kv)))
 exact k _ hk.below
theorem Public_ok (s:Stp) (x:Int) {v:Value} (hx:I64 x) (hs:SetR w s v) (k:∀ w',Below w.heap.size w w' → K (.int .i64 (publicM s x)) w'):callM Tryz.prog 13 #[stpV s v,.int .i64 x] K w:=by
 apply sh_13_ok
 unfold sh_13
 obtain ⟨ad,c,rfl⟩:=hs.ints.isSlice
 refine box_kn (cs:=stpC s (.slice ad s.bases.length c)) rfl (.start w) fun b W hk hb1 hb=>?_
 have k2:∀ w' r,publicM s x = r → Below w.heap.size w w' → K (.int .i64 r) w':=fun w' r e hb=>by rw [← e]; exact k w' hb
 clear k
 unfold publicM at k2
 refine Xa hk.cells ?_
 refine open_ok s (hs.next hk.below) (fun w2 h2=>?_)
 have hk:=hk.next h2
 clear hb1 h2
 cases hv:validS s with
 | false=>
  repeat (any_goals (first
  | ((with_reducible refine local_desk' s ad s.bases.length c hk ?_); intro b7 W7 hk hb7 hg7)
  | (with_reducible first|refine zB ?_|refine yC ?_|refine yM ?_)
  | ((with_reducible refine oM_gen fun Kv hK=>?_); simp [go_sem,hk.cells]; refine hK _ _ ?_; clear hK Kv)))
  exact k2 _ _ (by rw [hv]; rfl) hk.below
 | true=>
  repeat (any_goals (first
  | ((with_reducible refine local_desk' s ad s.bases.length c hk ?_); intro b7 W7 hk hb7 hg7) | ((with_reducible refine mk1 x hx ?_); intro v8 W8 hb8 hi)
  | (with_reducible first|refine pureM_in ?_|refine zA ?_)
  | ((with_reducible refine oM_gen fun Kv hK=>?_); simp [go_sem,hk.cells]; refine hK _ _ ?_; clear hK Kv)))
  have hk:=hk.next hb8
  refine nums_ok s 1 (hs.next hk.below) hi (fun w3 h3=>?_)
  have hk:=hk.next h3
  cases hn:numsM s 1 [x] with
  | false=>
   refine Xa hk.cells ?_
   exact k2 _ _ (by rw [hv,hn]; rfl) hk.below
  | true=>
   refine Xa hk.cells ?_
   refine generated_ok s x (hs.next hk.below) (fun w4 h4=>?_)
   have hk:=hk.next h4
   exact k2 _ _ (by rw [hv,hn]; rfl) hk.below
theorem Grant_ok (s:Stp) (x y z:Int) {v:Value} (hx:I64 x) (hy:I64 y) (hz:I64 z) (hs:SetR w s v) (k:∀ w',Below w.heap.size w w' → K (.int .i64 (grantM s x y z)) w'):callM Tryz.prog 35 #[stpV s v,.int .i64 x,.int .i64 y,.int .i64 z] K w:=by
 apply sh_35_ok
 unfold sh_35
 obtain ⟨ad,c,rfl⟩:=hs.ints.isSlice
 refine box_kn (cs:=stpC s (.slice ad s.bases.length c)) rfl (.start w) fun b W hk hb1 hb=>?_
 have k2:∀ w' r,grantM s x y z = r → Below w.heap.size w w' → K (.int .i64 r) w':=fun w' r e hb=>by rw [← e]; exact k w' hb
 clear k
 unfold grantM at k2
 refine Xa hk.cells ?_
 refine open_ok s (hs.next hk.below) (fun w2 h2=>?_)
 have hk:=hk.next h2
 clear hb1 h2
 cases hv:validS s with
 | false=>
  repeat (any_goals (first
  | ((with_reducible refine local_desk' s ad s.bases.length c hk ?_); intro b7 W7 hk hb7 hg7)
  | (with_reducible first|refine zB ?_|refine yC ?_|refine yM ?_)
  | ((with_reducible refine oM_gen fun Kv hK=>?_); simp [go_sem,hk.cells]; refine hK _ _ ?_; clear hK Kv)))
  exact k2 _ _ (by rw [hv]; rfl) hk.below
 | true=>
  repeat (any_goals (first
  | ((with_reducible refine local_desk' s ad s.bases.length c hk ?_); intro b7 W7 hk hb7 hg7) | ((with_reducible refine mk1 x hx ?_); intro v8 W8 hb8 hi)
  | (with_reducible first|refine pureM_in ?_|refine zA ?_)
  | ((with_reducible refine oM_gen fun Kv hK=>?_); simp [go_sem,hk.cells]; refine hK _ _ ?_; clear hK Kv)))
  have hk:=hk.next hb8
  refine nums_ok s 1 (hs.next hk.below) hi (fun w3 h3=>?_)
  have hk:=hk.next h3
  cases hn:numsM s 1 [x] with
  | false=>
   refine Xa hk.cells ?_
   exact k2 _ _ (by rw [hv,hn]; rfl) hk.below
  | true=>
   repeat (any_goals (first
   | ((with_reducible refine mk2 y z hy hz ?_); intro v9 W9 hb9 hi)
   | (with_reducible first|refine pureM_in ?_|refine zA ?_|refine yB ?_)
   | ((with_reducible refine oM_gen fun Kv hK=>?_); simp [go_sem,hk.cells]; refine hK _ _ ?_; clear hK Kv)))
   have hk:=hk.next hb9
   refine nums_ok s 0 (hs.next hk.below) hi (fun w4 h4=>?_)
   have hk:=hk.next h4
   cases hn2:numsM s 0 [y,z] with
   | false=>
    refine Xa hk.cells ?_
    exact k2 _ _ (by rw [hv,hn,hn2]; rfl) hk.below
   | true=>
    refine Xa hk.cells ?_
    refine ⟨Kn w _,hk.drew,?_⟩
    have hk:=hk.drew
    repeat (any_goals (first
    | ((with_reducible refine mk1 x hx ?_); intro v9 W9 hb9 hi)
    | (with_reducible refine pureH_in ?_)
    | ((with_reducible refine idOH ?_); (with_reducible refine oH_of ⟨_,rfl⟩ (fun W0 hW0=>by (refine oM_gen (fun Kv hK=>?_)); simp [go_sem,hW0.cells]; (first | exact hK _ _ ⟨rfl,rfl⟩ | exact ⟨by omega,hK _ _ ⟨rfl,rfl⟩⟩)) ?_))))
    have hk:=hk.next hb9
    refine ⟨hk,mul_ok s z (hs.next hk.below) hi (fun w5 h5=>?_)⟩
    have hk:=hk.next h5
    refine ⟨hk,plus_ok s _ y (hs.next hk.below) (fun w6 h6=>?_)⟩
    have hk:=hk.next h6
    exact ⟨hk,hk,k2 _ _ (by rw [hv,hn,hn2]; rfl) hk.below⟩
end
end Go.Proofs
namespace Go.Proofs
open Go Go.Sh Go.RowKit FdSpec TkSpec
section
variable {K:Value → World → Prop} {w w0:World} {L:List (Addr × Value)}
@[reducible] def offV (o:Off):Value:=.agg #[.int .i64 o.z,.int .i64 o.a,.int .i64 o.b]
@[reducible] def tktV (t:Tkt):Value:=.agg #[.int .i64 t.mark,.int .i64 t.first,.int .i64 t.z,.int .i64 t.a,.int .i64 t.b,.int .i64 t.r]
@[reducible] def tktC (t:Tkt):List Value:=[.int .i64 t.mark,.int .i64 t.first,.int .i64 t.z,.int .i64 t.a,.int .i64 t.b,.int .i64 t.r]
@[reducible] def bldV (b:Bld) (v:Value):Value:=.agg #[.int .i64 b.s,.int .i64 b.u,.int .i64 b.v,v]
@[reducible] def bldC (b:Bld) (v:Value):List Value:=[.int .i64 b.s,.int .i64 b.u,.int .i64 b.v,v]
@[reducible] def spdV (x:Spd) (v:Value):Value:=.agg #[.int .i64 x.dare,v]
@[reducible] def spdC (x:Spd) (v:Value):List Value:=[.int .i64 x.dare,v]
structure TktR (t:Tkt):Prop where
 mark:I64 t.mark
 first:I64 t.first
 z:I64 t.z
 a:I64 t.a
 b:I64 t.b
 r:I64 t.r
structure BldR (w:World) (b:Bld) (bv:Value):Prop where
 s:I64 b.s
 u:I64 b.u
 v:I64 b.v
 ys:Ints w bv b.ys
structure SpdR (w:World) (x:Spd) (v:Value):Prop where
 dare:I64 x.dare
 answers:Ints w v x.answers
theorem BldR.next {w w':World} {b:Bld} {v:Value} (h:BldR w b v) (hb:Below w.heap.size w w'):BldR w' b v:=⟨h.s,h.u,h.v,h.ys.next hb⟩
theorem SpdR.next {w w':World} {x:Spd} {v:Value} (h:SpdR w x v) (hb:Below w.heap.size w w'):SpdR w' x v:=⟨h.dare,h.answers.next hb⟩
theorem sz_off (w:World):(sizeOf 37).run Tryz.prog w = .ok 3 w:=by kernel_rfl
theorem al_off (w:World):(Instr.alloc 37 true (.tuple #[])).run Tryz.prog w = .ok (.pointer (some ⟨w.heap.size,0,none⟩)) (w.alloc (.cells [.int .i64 0,.int .i64 0,.int .i64 0].toArray 37)):=by kernel_rfl
theorem off_one (o:Off):∀ u ∈ [Value.int .i64 o.z,.int .i64 o.a,.int .i64 o.b],u.oneCell' = true:=by
 intro u hu
 simp only [List.mem_cons,List.not_mem_nil,or_false] at hu
 rcases hu with rfl | rfl | rfl <;> rfl
theorem store_off {K:Value → World → Prop} {T':TypeId} {g:Nat} (o:Off) (hk:KnM w0 L g 3 w)
  (k:∀ W,KnM w0 L g 3 W → cellsAre W (cellsOf [] g 0 [.int .i64 o.z,.int .i64 o.a,.int .i64 o.b]) → K undef W):oM Tryz.prog (.store 37 (.tmp 0) (.tmp 1)) T' [.pointer (some ⟨g,0,none⟩),offV o] K w:=
 store_mine sz_off rfl rfl (off_one o) hk k
theorem propose_no {s:Stp} {x:Int} {l:List Int} {y:Int} (h:(usableM s l).2 = false ∨ numsM s 1 [x] = false ∨ numsM s 0 [y] = false):proposeM s x l y = (⟨0,0,0⟩,1):=by
 unfold proposeM
 rw [if_neg]
 rcases h with h | h | h <;> simp [h]
theorem Propose_ok (s:Stp) (x y:Int) {v lv:Value} {l:List Int} (hx:I64 x) (hy:I64 y) (hs:SetR w s v) (hl:Ints w lv l) (k:∀ w',Below w.heap.size w w' → K (.tuple #[offV (proposeM s x l y).1,.int .i64 (proposeM s x l y).2]) w'):callM Tryz.prog 34 #[stpV s v,.int .i64 x,lv,.int .i64 y] K w:=by
 apply sh_34_ok
 unfold sh_34
 obtain ⟨ad,c,rfl⟩:=hs.ints.isSlice
 have k2:∀ w' r,proposeM s x l y = r → Below w.heap.size w w' → K (.tuple #[offV r.1,.int .i64 r.2]) w':=fun w' r e hb=>by rw [← e]; exact k w' hb
 clear k
 refine box_kn (cs:=stpC s (.slice ad s.bases.length c)) rfl (.start w) fun b W hk hb1 hb=>?_
 refine alloc_mine al_off rfl hk fun g W2 hk hb2 hg=>?_
 refine Xa hk.cells ?_
 refine usable_ok s (hs.next hk.below) (hl.next hk.below) (fun w2 h2=>?_)
 have hk:=hk.next h2
 clear hb1 h2 hb2
 obtain ⟨⟨m,u⟩,hm⟩:∃ x,usableM s l = x:=⟨_,rfl⟩
 rw [hm]
 cases u with
 | false=>
  repeat (any_goals (first
  | ((with_reducible refine local_desk s ad s.bases.length c hk ?_); intro b7 W7 hk hb7 hg7)
  | (with_reducible first|refine zD ?_|refine yB ?_|refine yL ?_)
  | ((with_reducible refine oM_gen fun Kv hK=>?_); simp [go_sem,hk.cells]; refine hK _ _ ?_; clear hK Kv)))
  refine store_off ⟨0,0,0⟩ hk (fun W3 hk hc=>⟨_,by simp [go_sem,hc],k2 _ _ (propose_no (.inl (by rw [hm]))) hk.below⟩)
 | true=>
  repeat (any_goals (first
  | ((with_reducible refine local_desk s ad s.bases.length c hk ?_); intro b7 W7 hk hb7 hg7) | ((with_reducible refine mk1 x hx ?_); intro v8 W8 hb8 hi)
  | (with_reducible first|refine pureM_in ?_|refine zC ?_)
  | ((with_reducible refine oM_gen fun Kv hK=>?_); simp [go_sem,hk.cells]; refine hK _ _ ?_; clear hK Kv)))
  have hk:=hk.next hb8
  refine nums_ok s 1 (hs.next hk.below) hi (fun w3 h3=>?_)
  have hk:=hk.next h3
  cases hn:numsM s 1 [x] with
  | false=>
   refine Xa hk.cells ?_
   refine store_off ⟨0,0,0⟩ hk (fun W3 hk hc=>⟨_,by simp [go_sem,hc],k2 _ _ (propose_no (.inr (.inl hn))) hk.below⟩)
  | true=>
   repeat (any_goals (first
   | ((with_reducible refine mk1 y hy ?_); intro v9 W9 hb9 hi)
   | (with_reducible first|refine pureM_in ?_|refine zC ?_|refine yC ?_)
   | ((with_reducible refine oM_gen fun Kv hK=>?_); simp [go_sem,hk.cells]; refine hK _ _ ?_; clear hK Kv)))
   have hk:=hk.next hb9
   refine nums_ok s 0 (hs.next hk.below) hi (fun w4 h4=>?_)
   have hk:=hk.next h4
   cases hn2:numsM s 0 [y] with
   | false=>
    refine Xa hk.cells ?_
    refine store_off ⟨0,0,0⟩ hk (fun W3 hk hc=>⟨_,by simp [go_sem,hc],k2 _ _ (propose_no (.inr (.inr hn2))) hk.below⟩)
   | true=>
    have e:proposeM s x l y = (⟨powerG s.g m x,genM s y,powerG s.g m y⟩,0):=by
     unfold proposeM
     rw [if_pos (by rw [hm,hn,hn2]; rfl),hm]
    refine Xa hk.cells ?_
    refine ⟨KnM w _ g 3,hk.drew,?_⟩
    have hk:=hk.drew
    repeat (any_goals (first
    | (with_reducible refine pureH_in ?_)
    | ((with_reducible refine idOH ?_); (with_reducible refine oH_of ⟨_,rfl⟩ (fun W0 hW0=>by (refine oM_gen (fun Kv hK=>?_)); simp [go_sem,hW0.cells]; (first | exact hK _ _ ⟨rfl,rfl⟩ | exact ⟨by omega,hK _ _ ⟨rfl,rfl⟩⟩)) ?_))))
    refine tpower_ok s m x (hs.next hk.below) (fun w5 h5=>?_)
    have hk:=hk.next h5
    refine ⟨hk,generated_ok s y (hs.next hk.below) (fun w6 h6=>?_)⟩
    have hk:=hk.next h6
    refine ⟨hk,tpower_ok s m y (hs.next hk.below) (fun w7 h7=>?_)⟩
    have hk:=hk.next h7
    refine ⟨hk,?_⟩
    generalize powerG s.g m x = p1 at *
    generalize genM s y = p2 at *
    generalize powerG s.g m y = p3 at *
    refine Xa0 ?_
    refine ⟨hk,store_off ⟨p1,p2,p3⟩ hk (fun W3 hk hc=>⟨hk,hk,_,by simp [go_sem,hc],k2 _ _ e hk.below⟩)⟩
theorem blinds_ok (s:Stp) (b:Bld) {v bv:Value} (hs:SetR w s v) (hb:BldR w b bv) (k:∀ w',Below w.heap.size w w' → K (.bool (blindsM s b)) w'):callM Tryz.prog 68 #[stpV s v,bldV b bv] K w:=by
 apply sh_68_ok
 unfold sh_68
 obtain ⟨ad,c,rfl⟩:=hs.ints.isSlice
 have hys:=hb.ys
 obtain ⟨yad,yc,rfl⟩:=hb.ys.isSlice
 have k2:∀ w' r,blindsM s b = r → Below w.heap.size w w' → K (.bool r) w':=fun w' r e hb=>by rw [← e]; exact k w' hb
 clear k
 unfold blindsM at k2
 refine box_kn (cs:=stpC s (.slice ad s.bases.length c)) rfl (.start w) fun b1 W hk hb1 hbb=>?_
 refine box_kn (cs:=bldC b (.slice yad b.ys.length yc)) rfl hk fun b2 W2 hk hb2 hbb=>?_
 repeat (any_goals (first
 | ((with_reducible refine mk2 b.s b.u hb.s hb.u ?_); intro v8 W8 hb8 hi)
 | ((with_reducible refine oM_gen fun Kv hK=>?_); simp [go_sem,hk.cells]; refine hK _ _ ?_; clear hK Kv)))
 have hk:=hk.next hb8
 refine nums_ok s 1 (hs.next hk.below) hi (fun w3 h3=>?_)
 have hk:=hk.next h3
 cases hn:numsM s 1 [b.s,b.u] with
 | false=>
  refine Xa hk.cells ?_
  exact k2 _ _ (by rw [hn]; rfl) hk.below
 | true=>
  repeat (any_goals (first
  | ((with_reducible refine mk1 b.v hb.v ?_); intro v9 W9 hb9 hi)
  | (with_reducible refine zA ?_)
  | ((with_reducible refine oM_gen fun Kv hK=>?_); simp [go_sem,hk.cells]; refine hK _ _ ?_; clear hK Kv)))
  have hk:=hk.next hb9
  refine nums_ok s 0 (hs.next hk.below) hi (fun w4 h4=>?_)
  have hk:=hk.next h4
  cases hn2:numsM s 0 [b.v] with
  | false=>
   refine Xa hk.cells ?_
   exact k2 _ _ (by rw [hn,hn2]; rfl) hk.below
  | true=>
   by_cases hlen:b.ys.length = s.bases.length
   ·refine Xa (An2 hk.cells @hlen) ?_
    have hys2:Ints w (.slice yad s.bases.length yc) b.ys:=by rw [← hlen]; exact hys
    refine nums_ok s 0 (hs.next hk.below) (hys2.next hk.below) (fun w5 h5=>?_)
    have hk:=hk.next h5
    refine Xa0 ?_
    exact k2 _ _ (by rw [hn,hn2]; simp [hlen]) hk.below
   ·have hl':¬ (b.ys.length:Int) = s.bases.length:=by omega
    refine Xa (An2 hk.cells @hl') ?_
    exact k2 _ _ (by rw [hn,hn2]; simp [hlen]) hk.below
end
end Go.Proofs
namespace Go.Proofs
open Go Go.Sh Go.RowKit FdSpec TkSpec
section
variable {K:Value → World → Prop} {w w0:World} {L:List (Addr × Value)}
theorem formed_ok (s:Stp) (t:Tkt) {v:Value} (ht:TktR t) (hs:SetR w s v) (k:∀ w',Below w.heap.size w w' → K (.tuple #[stpV s v,.bool (formedM s t)]) w'):callM Tryz.prog 85 #[stpV s v,tktV t] K w:=by
 apply sh_85_ok
 unfold sh_85
 obtain ⟨ad,c,rfl⟩:=hs.ints.isSlice
 have k2:∀ w' r,formedM s t = r → Below w.heap.size w w' → K (.tuple #[stpV s (.slice ad s.bases.length c),.bool r]) w':=fun w' r e hb=>by rw [← e]; exact k w' hb
 clear k
 unfold formedM at k2
 refine box_kn (cs:=stpC s (.slice ad s.bases.length c)) rfl (.start w) fun b1 W hk hb1 hbb=>?_
 refine box_kn (cs:=tktC t) rfl hk fun b2 W2 hk hb2 hbb=>?_
 refine alloc_mine (n:=5) al_desk rfl hk fun g W2 hk hb2 hg=>?_
 refine Xg hk.cells ?_
 refine open_ok s (hs.next hk.below) (fun w2 h2=>?_)
 have hk:=hk.next h2
 clear hb1 h2 hb2
 cases hv:validS s with
 | false=>
  repeat (any_goals (first
  | ((with_reducible refine local_desk s ad s.bases.length c hk ?_); intro b7 W7 hk hb7 hg7)
  | ((with_reducible refine oM_gen fun Kv hK=>?_); simp [go_sem,hk.cells]; refine hK _ _ ?_; clear hK Kv)))
  refine ⟨KnM w _ g 5,hk.drew,?_⟩
  have hk:=hk.drew
  repeat (any_goals (first
  | (with_reducible refine And.intro hk ?_)
  | (with_reducible first|refine pureH_in ?_|((refine idGdH ?_); refine gdH_conv fun _=>?_)|refine zB ?_)
  | ((with_reducible refine idOH ?_); first|(with_reducible refine vB ?_)|(with_reducible refine oH_of ⟨_,rfl⟩ (fun W0 hW0=>by (refine oM_gen (fun Kv hK=>?_)); simp [go_sem,hW0.cells]; (first | exact hK _ _ ⟨rfl,rfl⟩ | exact ⟨by omega,hK _ _ ⟨rfl,rfl⟩⟩)) ?_))))
  exact store_desk s ad _ c hk (fun W3 hk hc=>⟨hk,hk,_,by simp [go_sem,hc],k2 _ _ (by rw [hv]; rfl) hk.below⟩)
 | true=>
  repeat (any_goals (first
  | ((with_reducible refine local_desk s ad s.bases.length c hk ?_); intro b7 W7 hk hb7 hg7)
  | ((with_reducible refine oM_gen fun Kv hK=>?_); simp [go_sem,hk.cells]; refine hK _ _ ?_; clear hK Kv)))
  refine ⟨KnM w _ g 5,hk.drew,?_⟩
  have hk:=hk.drew
  by_cases hm:t.mark = 1
  ·repeat (any_goals (first
   | (with_reducible refine And.intro hk ?_)
   | (with_reducible first|refine pureH_in ?_|((refine idGdH ?_); refine gdH_conv fun _=>?_)|((refine idGd ?_); first|refine zA ?_|refine zB ?_))
   | ((with_reducible refine idOH ?_); first|(with_reducible first|refine vA ?_|refine vB ?_)|(with_reducible refine oH_of ⟨_,rfl⟩ (fun W0 hW0=>by (refine oM_gen (fun Kv hK=>?_)); simp [go_sem,hW0.cells,hm]; (first | exact hK _ _ ⟨rfl,rfl⟩ | exact ⟨by omega,hK _ _ ⟨rfl,rfl⟩⟩)) ?_))))
   exact store_desk s ad _ c hk (fun W3 hk hc=>⟨hk,hk,_,by simp [go_sem,hc],k2 _ _ (by rw [hv,hm]; rfl) hk.below⟩)
  ·repeat (any_goals (first
   | (with_reducible refine And.intro hk ?_)
   | ((with_reducible refine mk5 t.mark t.first t.z t.a t.b ht.mark ht.first ht.z ht.a ht.b ?_); intro v8 W8 hb8 hi)
   | (with_reducible first|refine pureH_in ?_|((refine idGdH ?_); refine gdH_conv fun _=>?_)|refine zA ?_)
   | ((with_reducible refine idOH ?_); first|(with_reducible refine vA ?_)|(with_reducible refine oH_of ⟨_,rfl⟩ (fun W0 hW0=>by (refine oM_gen (fun Kv hK=>?_)); simp [go_sem,hW0.cells,hm]; (first | exact hK _ _ ⟨rfl,rfl⟩ | exact ⟨by omega,hK _ _ ⟨rfl,rfl⟩⟩)) ?_))))
   have hk:=hk.next hb8
   refine ⟨hk,elements_ok s (hs.next hk.below) hi (fun w3 h3=>?_)⟩
   have hk:=hk.next h3
   refine ⟨hk,?_⟩
   cases he:elementsM s [t.mark,t.first,t.z,t.a,t.b] with
   | false=>
    repeat (any_goals (first
    | (with_reducible refine And.intro hk ?_)
    | (with_reducible first|refine pureH_in ?_|((refine idGdH ?_); refine gdH_conv fun _=>?_)|refine zB ?_)
    | ((with_reducible refine idOH ?_); (with_reducible first|refine vA ?_|refine vB ?_))))
    exact store_desk s ad _ c hk (fun W3 hk hc=>⟨hk,hk,_,by simp [go_sem,hc],k2 _ _ (by rw [hv,he]; simp) hk.below⟩)
   | true=>
    repeat (any_goals (first
    | (with_reducible refine And.intro hk ?_)
    | ((with_reducible refine mk1 t.r ht.r ?_); intro v9 W9 hb9 hi9)
    | (with_reducible first|refine pureH_in ?_|((refine idGdH ?_); refine gdH_conv fun _=>?_)|refine zA ?_)
    | ((with_reducible refine idOH ?_); first|(with_reducible refine vA ?_)|(with_reducible refine oH_of ⟨_,rfl⟩ (fun W0 hW0=>by (refine oM_gen (fun Kv hK=>?_)); simp [go_sem,hW0.cells]; (first | exact hK _ _ ⟨rfl,rfl⟩ | exact ⟨by omega,hK _ _ ⟨rfl,rfl⟩⟩)) ?_))))
    have hk:=hk.next hb9
    refine ⟨hk,nums_ok s 0 (hs.next hk.below) hi9 (fun w4 h4=>?_)⟩
    have hk:=hk.next h4
    refine ⟨hk,?_⟩
    repeat (any_goals (first
    | (with_reducible refine And.intro hk ?_)
    | ((with_reducible refine idOH ?_); (with_reducible refine vA ?_))))
    exact store_desk s ad _ c hk (fun W3 hk hc=>⟨hk,hk,_,by simp [go_sem,hc],k2 _ _ (by rw [hv,he]; simp [hm]) hk.below⟩)
theorem acceptsM_no {s:Stp} {t:Tkt} {x:Spd} (h:formedM s t = false ∨ numsM s 1 [x.dare] = false ∨ x.answers.length ≠ s.bases.length ∨ numsM s 0 x.answers = false):acceptsM s t x = false:=by
 unfold acceptsM
 rw [if_neg]
 rcases h with h | h | h | h <;> simp [h]
theorem Accepts_ok (s:Stp) (t:Tkt) (x:Spd) {v xv:Value} (ht:TktR t) (hs:SetR w s v) (hx:SpdR w x xv) (k:∀ w',Below w.heap.size w w' → K (.bool (acceptsM s t x)) w'):callM Tryz.prog 36 #[stpV s v,tktV t,spdV x xv] K w:=by
 apply sh_36_ok
 unfold sh_36
 obtain ⟨ad,c,rfl⟩:=hs.ints.isSlice
 have hans:=hx.answers
 obtain ⟨xad,xc,rfl⟩:=hx.answers.isSlice
 have k2:∀ w' r,acceptsM s t x = r → Below w.heap.size w w' → K (.bool r) w':=fun w' r e hb=>by rw [← e]; exact k w' hb
 clear k
 refine box_kn (cs:=stpC s (.slice ad s.bases.length c)) rfl (.start w) fun b1 W hk hb1 hbb=>?_
 refine box_kn (cs:=tktC t) rfl hk fun b2 W2 hk hb2 hbb=>?_
 refine box_kn (cs:=spdC x (.slice xad x.answers.length xc)) rfl hk fun b3 W3 hk hb3 hbb=>?_
 refine Xg hk.cells ?_
 refine formed_ok s t ht (hs.next hk.below) (fun w2 h2=>?_)
 have hk:=hk.next h2
 clear hb1 h2 hb2 hb3
 cases hv:formedM s t with
 | false=>
  repeat (any_goals (first
  | ((with_reducible refine local_desk' s ad s.bases.length c hk ?_); intro b7 W7 hk hb7 hg7)
  | (with_reducible first|refine zD ?_|refine yB ?_|refine yL ?_)
  | ((with_reducible refine oM_gen fun Kv hK=>?_); simp [go_sem,hk.cells]; refine hK _ _ ?_; clear hK Kv)))
  exact k2 _ _ (acceptsM_no (.inl hv)) hk.below
 | true=>
  repeat (any_goals (first
  | ((with_reducible refine local_desk' s ad s.bases.length c hk ?_); intro b7 W7 hk hb7 hg7) | ((with_reducible refine mk1 x.dare hx.dare ?_); intro v8 W8 hb8 hi)
  | (with_reducible refine zC ?_)
  | ((with_reducible refine oM_gen fun Kv hK=>?_); simp [go_sem,hk.cells]; refine hK _ _ ?_; clear hK Kv)))
  have hk:=hk.next hb8
  refine nums_ok s 1 (hs.next hk.below) hi (fun w3 h3=>?_)
  have hk:=hk.next h3
  cases hn:numsM s 1 [x.dare] with
  | false=>
   refine Xg hk.cells ?_
   exact k2 _ _ (acceptsM_no (.inr (.inl hn))) hk.below
  | true=>
   by_cases hlen:x.answers.length = s.bases.length
   ·refine Xg (An2 hk.cells @hlen) ?_
    have hans2:Ints w (.slice xad s.bases.length xc) x.answers:=by rw [← hlen]; exact hans
    refine nums_ok s 0 (hs.next hk.below) (hans2.next hk.below) (fun w5 h5=>?_)
    have hk:=hk.next h5
    cases hn2:numsM s 0 x.answers with
    | false=>
     refine Xg hk.cells ?_
     exact k2 _ _ (acceptsM_no (.inr (.inr (.inr hn2)))) hk.below
    | true=>
     refine Xg hk.cells ?_
     have e:acceptsM s t x = decide ((prodG s.g s.bases x.answers).1 = timesM s (powerG s.g t.mark x.dare) [t.first]):=by
      unfold acceptsM
      rw [if_pos (by rw [hv,hn,hn2]; simp [hlen])]
     refine ⟨Kn w _,hk.drew,?_⟩
     have hk:=hk.drew
     repeat (any_goals ((with_reducible refine idOH ?_); (with_reducible refine oH_of ⟨_,rfl⟩ (fun W0 hW0=>by (refine oM_gen (fun Kv hK=>?_)); simp [go_sem,hW0.cells,hlen]; (first | exact hK _ _ ⟨rfl,rfl⟩ | exact ⟨by omega,hK _ _ ⟨rfl,rfl⟩⟩)) ?_)))
     refine ⟨?_,?_⟩
     ·refine product_t_ok s (hs.next hk.below) (hans2.next hk.below) (fun w6 h6=>?_)
      have hk:=hk.next h6
      refine ⟨hk,?_,?_⟩
      ·refine tpower_ok s t.mark x.dare (hs.next hk.below) (fun w7 h7=>?_)
       have hk:=hk.next h7
       refine ⟨hk,mk1 t.first ht.first (fun v8 w8 h8 hi=>?_)⟩
       have hk:=hk.next h8
       refine ⟨hk,times_ok s _ (hs.next hk.below) hi (fun w9 h9=>?_)⟩
       have hk:=hk.next h9
       refine ⟨hk,?_⟩
       refine Xc0 ?_
       exact ⟨hk,k2 _ _ e hk.below⟩
      ·refine mk1 t.first ht.first (fun v8 w8 h8 hi=>?_)
       have hk:=hk.next h8
       refine ⟨hk,tpower_ok s t.mark x.dare (hs.next hk.below) (fun w7 h7=>?_)⟩
       have hk:=hk.next h7
       refine ⟨hk,times_ok s _ (hs.next hk.below) (hi.next h7) (fun w9 h9=>?_)⟩
       have hk:=hk.next h9
       refine ⟨hk,?_⟩
       refine Xc0 ?_
       exact ⟨hk,k2 _ _ e hk.below⟩
     ·refine mk1 t.first ht.first (fun v8 w8 h8 hi=>?_)
      have hk:=hk.next h8
      refine ⟨hk,product_t_ok s (hs.next hk.below) (hans2.next hk.below) (fun w6 h6=>?_)⟩
      have hk:=hk.next h6
      refine ⟨hk,tpower_ok s t.mark x.dare (hs.next hk.below) (fun w7 h7=>?_)⟩
      have hk:=hk.next h7
      refine ⟨hk,times_ok s _ (hs.next hk.below) ((hi.next h6).next h7) (fun w9 h9=>?_)⟩
      have hk:=hk.next h9
      refine ⟨hk,?_⟩
      refine Xc0 ?_
      exact ⟨hk,k2 _ _ e hk.below⟩
   ·have hl':¬ (x.answers.length:Int) = s.bases.length:=by omega
    refine Xg (An2 hk.cells @hl') ?_
    exact k2 _ _ (acceptsM_no (.inr (.inr (.inl hlen)))) hk.below
end
end Go.Proofs
namespace Go.Proofs
open Go Go.Sh Go.RowKit FdSpec TkSpec
section
variable {K:Value → World → Prop} {w w0:World} {L:List (Addr × Value)}
abbrev OwnI (w:World) (B:Nat) (v:Value) (l:List Int):Prop:=w.ownsRow B 3 1 v l.length (flat intC l)
theorem OwnI.ints {B:Nat} {v:Value} {l:List Int} (h:OwnI w B v l) (hr:∀ n ∈ l,I64 n) (hl:l.length ≤ 9223372036854775807):Ints w v l:=Ints.of_owns h hr hl
theorem owns_up {B C:Nat} {e:TypeId} {sz:Nat} {v:Value} {n:Nat} {xs:List Value} (h:w.ownsRow B e sz v n xs) (hc:∀ i,v.ownBlock = some i → C ≤ i):w.ownsRow C e sz v n xs:=by
 refine ⟨h.1,h.2.imp id ?_⟩
 rintro ⟨g,cap,cur,rfl,hb,hr⟩
 exact ⟨g,cap,cur,rfl,hc g rfl,hr⟩
theorem OwnI.keep {B:Nat} {v:Value} {l:List Int} {w':World} (h:OwnI w B v l) (hb:Below w.heap.size w w'):OwnI w' B v l:=
 owns_keep h (fun i hi=>hb.block i (owns_own h hi).1)
theorem append1 {B:Nat} {T:TypeId} {v xv:Value} {l:List Int} {x:Int} (ho:OwnI w B v l) (hB:B ≤ w.heap.size) (hx:Ints w xv [x]) (hl:l.length < 1099511627776)
  (k:∀ v' w',OwnI w' B v' (l ++ [x]) → Below B w w' → K v' w'):oM Tryz.prog (.call { callee:=.builtin .append,args:=#[.tmp 0,.tmp 1],argTypes:=#[22,22] }) T [v,xv] K w:=by
 obtain ⟨⟨ad,c,rfl,h0,hc⟩,hr,_⟩:=hx
 have hc:=hc.resolve_left (by simp)
 obtain ⟨b,o,rfl,hlt,hcell⟩:=hc
 refine append_at 22 T 3 ((Tryz.prog.info? 3).getD default) (.int .i64 0) 1 8 (by kernel_rfl) (by kernel_rfl) (by kernel_rfl) (by kernel_rfl) (by kernel_rfl) (by kernel_rfl) (by omega) (owns_base ho (Nat.zero_le _)) [.int .i64 x] (by simp) (by simp) ?_ ?_ (by simp only [maxLen,List.length_singleton]; omega) (by simp only [List.length_singleton]; omega) ?_
 ·rintro a ha j u hj
  cases ha
  rw [add_none]
  exact hcell j u hj
 ·intro u hu
  simp only [List.mem_singleton] at hu
  subst hu; rfl
 ·intro v' w' ho' hg hv
  have hbl:∀ i,v.ownBlock = some i → B ≤ i:=fun i hi=>(owns_own ho hi).2.1
  refine k v' w' ?_ ((Below.refl B w).grown hg hB hbl)
  have e1:(l ++ [x]).length = l.length + [x].length:=by simp
  have e2:flat intC (l ++ [x]) = flat intC l ++ [Value.int .i64 x]:=by rw [flat_int,flat_int]; simp
  show w'.ownsRow B 3 1 v' (l ++ [x]).length (flat intC (l ++ [x]))
  rw [e1,e2]
  exact owns_up ho' (fun i hi=>(hv i hi).elim (hbl i) (fun h=>Nat.le_trans hB h))
theorem Same_ok {v u:Value} {a b:List Int} (ha:Ints w v a) (hb:Ints w u b) (k:∀ w',Below w.heap.size w w' → K (.bool (decide (a = b))) w'):callM Tryz.prog 33 #[v,u] K w:=by
 apply sh_33_ok
 unfold sh_33
 obtain ⟨ad1,c1,rfl⟩:=ha.isSlice
 obtain ⟨ad2,c2,rfl⟩:=hb.isSlice
 have l1:=ha.len
 have l2:=hb.len
 by_cases hl:a.length = b.length
 ·refine Xa @hl ?_
  refine ⟨fun vs w'=>Below w.heap.size w w' ∧ ∃ (v:Value) (i:Nat),vs = [v,.int .i64 (i:Int)] ∧ i ≤ a.length ∧ a.take i = b.take i,fun vs _=>match vs with | [_,.int _ i]=>b.length - i.toNat | _=>0,⟨Below.refl _ _,_,0,rfl,by omega,rfl⟩,?_⟩
  rintro _ _ w1 ⟨h1,u1,i,rfl,hi,he⟩
  by_cases hin:i = b.length
  ·have e:a = b:=by
    rw [List.take_of_length_le (by omega),List.take_of_length_le (by omega)] at he
    exact he
   have k:=k _ h1
   rw [decide_eq_true e] at k
   refine Xa @hl ?_
   exact k
  ·obtain ⟨b1,o1,rfl,hb1,ca,ra,_⟩:=ha.at (i:=i) (by omega)
   obtain ⟨b2,o2,rfl,hb2,cb,rb,_⟩:=hb.at (i:=i) (by omega)
   refine Xa @hl ?_
   refine ⟨Below w.heap.size w,h1.trans .drawn,?_⟩
   by_cases hx:a[i] = b[i]
   ·refine Xf (fun W0 hW0=>An2 (ca _ hW0) (cb _ hW0)) (An2 @hl @hx) ?_
    intro w2 h2
    refine Xa @hx ?_
    refine ⟨⟨h2,_,i + 1,rfl,by omega,?_⟩,by show b.length - (((i + 1:Nat):Int)).toNat < b.length - ((i:Nat):Int).toNat; omega⟩
    rw [List.take_succ_eq_append_getElem (by omega),List.take_succ_eq_append_getElem (by omega),he,hx]
   ·refine Xf (fun W0 hW0=>An2 (ca _ hW0) (cb _ hW0)) (An2 @hl @hx) ?_
    intro w2 h2
    have k:=k _ h2
    rw [decide_eq_false (by rintro rfl; exact hx rfl)] at k
    refine Xa @hx ?_
    exact k
 ·have hl':¬ (a.length:Int) = b.length:=by omega
  have k:=k _ (Below.refl _ _)
  rw [decide_eq_false (by rintro rfl; exact hl rfl)] at k
  refine Xa @hl' ?_
  exact k
end
end Go.Proofs
namespace Go.Proofs
open Go Go.Sh Go.RowKit FdSpec TkSpec
section
variable {K:Value → World → Prop} {w w0:World} {L:List (Addr × Value)}
theorem accepts_len {s:Stp} {t:Tkt} {x:Spd} (h:acceptsM s t x = true):x.answers.length = s.bases.length ∧ validS s = true:=by
 unfold acceptsM at h
 split at h
 ·rename_i hc
  simp only [Bool.and_eq_true,decide_eq_true_eq] at hc
  refine ⟨hc.1.2,?_⟩
  have hf:=hc.1.1.1
  unfold formedM at hf
  simp only [Bool.and_eq_true] at hf
  exact hf.1.1.1
 ·cases h
def gapL (s:Stp) (a b:Spd):List Int:=(a.answers.zip b.answers).map fun p=>lessQ s p.1 p.2
theorem gapL_len {s:Stp} {a b:Spd} {n:Nat} (ha:a.answers.length = n) (hb:b.answers.length = n):(gapL s a b).length = n:=by
 simp [gapL,ha,hb]
theorem gapL_at {s:Stp} {a b:Spd} {i:Nat} (ha:i < a.answers.length) (hb:i < b.answers.length) (hg:i < (gapL s a b).length):(gapL s a b)[i] = lessQ s a.answers[i] b.answers[i]:=by
 simp [gapL]
theorem gapL_rng {s:Stp} {a b:Spd}:∀ n ∈ gapL s a b,I64 n:=by
 intro n hn
 obtain ⟨p,_,rfl⟩:=List.mem_map.1 hn
 exact subM_I64 _ _ _
theorem gapsM_no {s:Stp} {t:Tkt} {a b:Spd} (h:a.dare = b.dare ∨ acceptsM s t a = false ∨ acceptsM s t b = false):gapsM s t a b = ([],false):=by
 unfold gapsM
 rw [if_pos]
 rcases h with h | h | h <;> simp [h]
theorem gapsM_yes {s:Stp} {t:Tkt} {a b:Spd} (h1:¬ a.dare = b.dare) (h2:acceptsM s t a = true) (h3:acceptsM s t b = true):gapsM s t a b = (gapL s a b,!decide ((gapL s a b).headD 0 = 0)):=by
 unfold gapsM
 rw [if_neg (by simp [h1,h2,h3])]
 rfl
theorem _root_.Go.Sh.KnM.add1 {g n:Nat} (h:KnM w0 L g n w) {b o:Nat} {v:Value} (hc:w.cell? ⟨b,o,none⟩ = some v) (hne:b ≠ g):KnM w0 ((⟨b,o,none⟩,v) :: L) g n w:=
 ⟨⟨h.kn.below,hc,h.kn.cells⟩,h.mine,h.base,fun p hp=>(List.mem_cons.1 hp).elim (fun e=>by rw [e]; exact hne) (h.off p)⟩
theorem store_desk2 {K:Value → World → Prop} {T':TypeId} {g:Nat} (s:Stp) (ad:Option Addr) (m c:Nat) (hk:KnM w0 L g 5 w)
  (k:∀ W,KnM w0 L g 5 W → cellsAre W (cellsOf [] g 0 (stpC s (.slice ad m c))) → w.grownBy W (some g) → K undef W):oM Tryz.prog (.store 116 (.tmp 0) (.tmp 1)) T' [.pointer (some ⟨g,0,none⟩),stpV s (.slice ad m c)] K w:=by
 obtain ⟨W,e,hg,hm,hc⟩:=store_run (P:=Tryz.prog) (W:=w) sz_desk (x:=stpV s (.slice ad m c)) rfl rfl (stp_one s ad m c) hk.mine
 rw [oM_store,e]
 exact k W ⟨hk.kn.wrote hg hk.base hk.off,hm,hk.base,hk.off⟩ hc hg
@[reducible] def zstp:Stp:=⟨⟨0,0,0⟩,[],0⟩
def GpJ (gl:List Int) (Wl:World) (vs:List Value) (w':World):Prop:=Below Wl.heap.size Wl w' ∧ ∃ (v u o:Value) (i:Nat),vs = [v,u,o,.int .i64 (i:Int)] ∧ i ≤ gl.length ∧ OwnI w' Wl.heap.size o (gl.take i)
theorem gaps_ok (s:Stp) (t:Tkt) (x y:Spd) {v xv yv:Value} (ht:TktR t) (hs:SetR w s v) (hx:SpdR w x xv) (hy:SpdR w y yv)
  (k:∀ w' s' ad n c ov,Below w.heap.size w w' → Ints w' ov (gapsM s t x y).1 → (∃ ad n c,ov = .slice ad n c ∧ n ≤ c) → ((gapsM s t x y).2 = true → stpV s' (.slice ad n c) = stpV s v) → K (.tuple #[stpV s' (.slice ad n c),ov,.bool (gapsM s t x y).2]) w'):callM Tryz.prog 88 #[stpV s v,tktV t,spdV x xv,spdV y yv] K w:=by
 apply sh_88_ok
 unfold sh_88
 obtain ⟨ad,c,rfl⟩:=hs.ints.isSlice
 have hxa:=hx.answers
 have hya:=hy.answers
 have hx0:=hx
 have hy0:=hy
 obtain ⟨xad,xc,rfl⟩:=hx.answers.isSlice
 obtain ⟨yad,yc,rfl⟩:=hy.answers.isSlice
 have k0:∀ w',gapsM s t x y = ([],false) → Below w.heap.size w w' → K (.tuple #[stpV zstp (.slice none 0 0),.slice none 0 0,.bool false]) w':=fun w' e hb=>by
  rw [e] at k
  exact k w' zstp none 0 0 _ hb (Ints.nil _) ⟨_,_,_,rfl,Nat.le_refl _⟩ (by simp)
 have k2:∀ w' ov l r,gapsM s t x y = (l,r) → Below w.heap.size w w' → Ints w' ov l → (∃ ad n c,ov = .slice ad n c ∧ n ≤ c) → K (.tuple #[stpV s (.slice ad s.bases.length c),ov,.bool r]) w':=fun w' ov l r e hb hi hcp=>by
  rw [e] at k
  exact k w' s _ _ _ ov hb hi hcp (fun _=>rfl)
 clear k
 refine box_kn (cs:=stpC s (.slice ad s.bases.length c)) rfl (.start w) fun b1 W hk hb1 hbb=>?_
 refine box_kn (cs:=tktC t) rfl hk fun b2 W2 hk hb2 hbb=>?_
 refine box_kn (cs:=spdC x (.slice xad x.answers.length xc)) rfl hk fun b3 W3 hk hb3 hbb=>?_
 refine box_kn (cs:=spdC y (.slice yad y.answers.length yc)) rfl hk fun b4 W4 hk hb4 hbb=>?_
 refine alloc_mine (n:=5) al_desk rfl hk fun g W2 hk hb2 hg=>?_
 clear hb1 hb2 hb3 hb4
 by_cases hd:x.dare = y.dare
 ·refine Xa (An2 hk.cells @hd) ?_
  exact store_desk zstp none 0 0 hk (fun W3 hk hc=>⟨_,by simp [go_sem,hc],k0 _ (gapsM_no (.inl hd)) hk.below⟩)
 refine Xa (An2 hk.cells @hd) ?_
 refine Accepts_ok s t x ht (hs.next hk.below) (hx0.next hk.below) (fun w2 h2=>?_)
 have hk:=hk.next h2
 cases ha:acceptsM s t x with
 | false=>
  refine Xa hk.cells ?_
  exact store_desk zstp none 0 0 hk (fun W3 hk hc=>⟨_,by simp [go_sem,hc],k0 _ (gapsM_no (.inr (.inl ha))) hk.below⟩)
 | true=>
  refine Xa hk.cells ?_
  refine Accepts_ok s t y ht (hs.next hk.below) (hy0.next hk.below) (fun w3 h3=>?_)
  have hk:=hk.next h3
  cases hb:acceptsM s t y with
  | false=>
   refine Xa hk.cells ?_
   exact store_desk zstp none 0 0 hk (fun W3 hk hc=>⟨_,by simp [go_sem,hc],k0 _ (gapsM_no (.inr (.inr hb))) hk.below⟩)
  | true=>
   have e0:=gapsM_yes hd ha hb
   obtain ⟨l1,hv⟩:=accepts_len ha
   obtain ⟨l2,_⟩:=accepts_len hb
   have hv7:=validS_len hv
   have hgl:=gapL_len (s:=s) l1 l2
   have hat:=fun i h1 h2 h3=>gapL_at (s:=s) (a:=x) (b:=y) (i:=i) h1 h2 h3
   have hrng:=gapL_rng (s:=s) (a:=x) (b:=y)
   generalize gapL s x y = gl at *
   repeat (any_goals (first
   | ((with_reducible refine local_desk s ad s.bases.length c hk ?_); intro b7 W7 hk hb7 hg7)
   | (with_reducible first|refine zC ?_|refine yC ?_|refine yM ?_)
   | ((with_reducible refine oM_gen fun Kv hK=>?_); simp [go_sem,hk.cells]; refine hK _ _ ?_; clear hK Kv)))
   have hgW:g < W7.heap.size:=mine_lt hk.mine
   have hk0:=hk
   refine ⟨GpJ gl W7,pdMu x.answers.length,⟨Below.refl _ _,_,_,_,0,rfl,by omega,World.ownsRow_nil _ _ _ _⟩,?_⟩
   rintro _ _ w5 ⟨h5,u1,u2,o,i,rfl,hi,ho⟩
   have hk:=hk.next h5
   by_cases hin:i = x.answers.length
   ·rw [List.take_of_length_le (by omega)] at ho
    have hints:=ho.ints hrng (by omega)
    obtain ⟨g',cap,cur,rfl,hlt,hB,_,_,hcp,hcell⟩:=owns_cells ho (by omega)
    obtain ⟨x0,hx0⟩:∃ x0,gl.headD 0 = x0:=⟨_,rfl⟩
    rw [hx0] at e0
    have c8:w5.cell? ⟨g',0,none⟩ = some (.int .i64 x0):=hcell 0 _ (by
     rw [flat_int,← hx0]
     cases hgl2:gl with
     | nil=>rw [hgl2] at hgl; simp at hgl; omega
     | cons a l=>rfl)
    have hk:=hk.add1 c8 (by omega)
    have hgl8:0 < gl.length:=by omega
    refine Xa0 ?_
    refine ⟨KnM w _ g 5,hk.drew,?_⟩
    have hints:=hints.next .drawn
    have hk:=hk.drew
    repeat (any_goals (first
    | (with_reducible refine And.intro hk ?_)
    | (with_reducible refine pureH_in ?_)
    | ((with_reducible refine idOH ?_); (with_reducible refine oH_of ⟨_,rfl⟩ (fun W0 hW0=>by (refine oM_gen (fun Kv hK=>?_)); simp [go_sem,hW0.cells]; (first | exact hK _ _ ⟨rfl,rfl⟩ | exact ⟨by omega,hK _ _ ⟨rfl,rfl⟩⟩)) ?_))))
    refine store_desk2 s ad _ c hk (fun W3 hk hc hgr=>⟨hk,hk,hk,_,by simp [go_sem,hc],k2 _ _ _ _ e0 hk.below ⟨hints.row.keep hgr.size (fun i hi hlt=>hgr.block i hlt ?_),hrng,by omega⟩ ⟨_,_,_,rfl,hcp⟩⟩)
    cases hi
    intro e
    have e2:g' = g:=Option.some.inj e
    omega
   ·obtain ⟨b1,o1,rfl,hb1,ca,ra,_⟩:=hxa.at (i:=i) (by omega)
    obtain ⟨b2,o2,rfl,hb2,cb,rb,_⟩:=hya.at (i:=i) (by omega)
    refine Xa (An2 (ca _ hk.below) hk.cells) ?_
    refine ⟨KnM w _ g 5,hk.drew,?_⟩
    have h5:=h5.trans (Below.drawn (w:=w5))
    have ho:=ho.keep (Below.drawn (w:=w5))
    have hk:=hk.drew
    repeat (any_goals (first
    | (with_reducible refine And.intro hk ?_)
    | (with_reducible refine pureH_in ?_)
    | ((with_reducible refine idOH ?_); (with_reducible refine oH_of ⟨_,rfl⟩ (fun W0 hW0=>by (refine oM_gen (fun Kv hK=>?_)); simp [go_sem,hW0.cells,cb _ hW0.below]; (first | exact hK _ _ ⟨rfl,rfl⟩ | exact ⟨by omega,hK _ _ ⟨rfl,rfl⟩⟩)) ?_))))
    refine less_ok s _ _ (hs.next hk.below) (fun w6 h6=>?_)
    have hk:=hk.next h6
    have ho:=ho.keep h6
    have h5:=h5.on h6
    refine ⟨hk,mk1 _ (subM_I64 _ _ _) (fun v7 w7 h7 hi7=>?_)⟩
    have hk:=hk.next h7
    have ho:=ho.keep h7
    have h5:=h5.on h7
    refine ⟨hk,append1 ho h5.size hi7 (by simp; omega) (fun v8 w8 ho8 h8=>?_)⟩
    have h5:=h5.trans h8
    have hk:=hk0.next h5
    refine ⟨hk,?_⟩
    repeat (any_goals (first
    | (with_reducible refine And.intro hk ?_)
    | ((with_reducible refine oM_gen fun Kv hK=>?_); simp [go_sem]; (try simp (disch:=omega) only [wrapI64,wrapU8,wrapU32,wrapU64]); refine hK _ _ ?_; clear hK Kv)))
    refine ⟨⟨h5,_,_,_,i + 1,rfl,by omega,?_⟩,?_⟩
    ·rw [List.take_succ_eq_append_getElem (by omega),hat i (by omega) (by omega) (by omega)]
     exact ho8
    ·simp only [pdMu_eq]; omega
end
end Go.Proofs
namespace Go.Proofs
open Go Go.Sh Go.RowKit FdSpec TkSpec
section
variable {K:Value → World → Prop} {w w0:World} {L:List (Addr × Value)}
theorem _root_.Go.Sh.Ints.tail {b o n c:Nat} {l:List Int} (h:Ints w (.slice (some ⟨b,o,none⟩) n c) l) (hne:0 < l.length):Ints w (.slice (some ⟨b,o + 1,none⟩) (n - 1) (c - 1)) l.tail:=by
 obtain ⟨⟨ad,c',hv,h0,hc⟩,hr,hl⟩:=h
 cases hv
 refine ⟨⟨some ⟨b,o + 1,none⟩,c - 1,by rw [List.length_tail],by simp,?_⟩,fun n hn=>hr n (List.mem_of_mem_tail hn),by rw [List.length_tail]; omega⟩
 rcases hc with rfl | ⟨b',o',hbo,hlt,hcell⟩
 ·simp at hne
 ·cases hbo
  refine .inr ⟨b,o + 1,rfl,hlt,fun k x hk=>?_⟩
  have:=hcell (k + 1) x (by
   rw [flat_int] at hk ⊢
   rw [← hk]
   simp)
  rw [show o + 1 + k = o + (k + 1) by omega]
  exact this
theorem traceM_no {s:Stp} {t:Tkt} {a b:Spd} (h:(gapsM s t a b).2 = false):traceM s t a b = ([],false):=by
 unfold traceM; rw [if_neg (by simp [h])]
theorem gapsM_len {s:Stp} {t:Tkt} {a b:Spd} (h:(gapsM s t a b).2 = true):(gapsM s t a b).1.length = s.bases.length ∧ validS s = true:=by
 by_cases h1:a.dare = b.dare
 ·rw [gapsM_no (.inl h1)] at h; cases h
 cases h2:acceptsM s t a with
 | false=>rw [gapsM_no (.inr (.inl h2))] at h; cases h
 | true=>
  cases h3:acceptsM s t b with
  | false=>rw [gapsM_no (.inr (.inr h3))] at h; cases h
  | true=>
   rw [gapsM_yes h1 h2 h3]
   obtain ⟨l1,hv⟩:=accepts_len h2
   obtain ⟨l2,_⟩:=accepts_len h3
   exact ⟨gapL_len l1 l2,hv⟩
def TrJ (n:Nat) (tl:List Int) (Wl:World) (vs:List Value) (w':World):Prop:=Below Wl.heap.size Wl w' ∧ ∃ (v o:Value) (i:Nat),vs = [v,o,.int .i64 (i:Int)] ∧ i ≤ n ∧ OwnI w' Wl.heap.size o (tl.take i)
theorem Trace_ok (s:Stp) (t:Tkt) (x y:Spd) {v xv yv:Value} (ht:TktR t) (hs:SetR w s v) (hx:SpdR w x xv) (hy:SpdR w y yv)
  (k:∀ w' ov,Below w.heap.size w w' → Ints w' ov (traceM s t x y).1 → K (.tuple #[ov,.bool (traceM s t x y).2]) w'):callM Tryz.prog 31 #[stpV s v,tktV t,spdV x xv,spdV y yv] K w:=by
 apply sh_31_ok
 unfold sh_31
 obtain ⟨ad,c,rfl⟩:=hs.ints.isSlice
 have hx0:=hx
 have hy0:=hy
 obtain ⟨xad,xc,rfl⟩:=hx.answers.isSlice
 obtain ⟨yad,yc,rfl⟩:=hy.answers.isSlice
 have k2:∀ w' ov r,traceM s t x y = r → Below w.heap.size w w' → Ints w' ov r.1 → K (.tuple #[ov,.bool r.2]) w':=fun w' ov r e hb hi=>by
  rw [← e] at hi ⊢
  exact k w' ov hb hi
 clear k
 refine box_kn (cs:=stpC s (.slice ad s.bases.length c)) rfl (.start w) fun b1 W hk hb1 hbb=>?_
 refine box_kn (cs:=tktC t) rfl hk fun b2 W2 hk hb2 hbb=>?_
 refine box_kn (cs:=spdC x (.slice xad x.answers.length xc)) rfl hk fun b3 W3 hk hb3 hbb=>?_
 refine box_kn (cs:=spdC y (.slice yad y.answers.length yc)) rfl hk fun b4 W4 hk hb4 hbb=>?_
 clear hb1 hb2 hb3 hb4
 refine Xa hk.cells ?_
 refine gaps_ok s t x y ht (hs.next hk.below) (hx0.next hk.below) (hy0.next hk.below) (fun w2 s' ad' n' c' ov h2 hgi hcap hds=>?_)
 have hk:=hk.next h2
 have hT:=traceM_no (s:=s) (t:=t) (a:=x) (b:=y)
 have hG:=gapsM_len (s:=s) (t:=t) (a:=x) (b:=y)
 have eT:(gapsM s t x y).2 = true → traceM s t x y = ((gapsM s t x y).1.tail.map fun n=>overQ s n ((gapsM s t x y).1.headD 0),true):=fun h=>by unfold traceM; rw [if_pos h]
 obtain ⟨⟨gl,u⟩,hg⟩:∃ p,gapsM s t x y = p:=⟨_,rfl⟩
 rw [hg] at hT hG eT hgi hds ⊢
 simp only at hT hG eT hgi hds ⊢
 cases u with
 | false=>
  repeat (any_goals (first
  | ((with_reducible refine local_desk' s' ad' n' c' hk ?_); intro b7 W7 hk hb7 hg7)
  | (with_reducible refine yL ?_)
  | ((with_reducible refine oM_gen fun Kv hK=>?_); simp [go_sem,hk.cells]; refine hK _ _ ?_; clear hK Kv)))
  exact k2 _ _ _ (hT rfl) hk.below (Ints.nil _)
 | true=>
  have hds:=hds rfl
  obtain ⟨hG,hv⟩:=hG rfl
  have hv7:=validS_len hv
  have eT2:=eT rfl
  clear eT
  rw [hds]
  obtain ⟨oad,n0,oc,rfl,hcp⟩:=hcap
  obtain ⟨ob,oo,rfl,c8,r8⟩:=hgi.headD (by omega)
  obtain ⟨oad2,oc2,hoe⟩:=hgi.isSlice
  cases hoe
  obtain ⟨x0,hx0⟩:∃ x0,gl.headD 0 = x0:=⟨_,rfl⟩
  rw [hx0] at c8 r8 eT2
  repeat (any_goals (first
  | ((with_reducible refine local_desk' s ad s.bases.length c hk ?_); intro b7 W7 hk hb7 hg7)
  | (with_reducible refine yM ?_)
  | ((with_reducible refine oM_gen fun Kv hK=>?_); simp [go_sem,hk.cells]; refine hK _ _ ?_; clear hK Kv)))
  refine sliceFrom_at (by kernel_rfl) (sz:=1) (fun w=>by kernel_rfl) 1 (by omega) (by omega) ?_
  have hti:=(hgi.tail (by omega)).next hb7
  have c8:=fun w' hb=>c8 w' (hb7.on hb)
  have htl:gl.tail.length = gl.length - 1:=List.length_tail
  have hat:∀ (i:Nat) (y:Int),gl.tail[i]? = some y → (gl.tail.map fun n=>overQ s n x0)[i]? = some (overQ s y x0):=fun i y h=>by rw [List.getElem?_map,h]; rfl
  have hml:(gl.tail.map fun n=>overQ s n x0).length = gl.tail.length:=by simp
  have hrng:∀ n ∈ (gl.tail.map fun n=>overQ s n x0),I64 n:=by
   intro n hn
   obtain ⟨m,_,rfl⟩:=List.mem_map.1 hn
   exact mulQ_I64 _ _ _ (by simp)
  generalize (gl.tail.map fun n=>overQ s n x0) = tl at *
  generalize gl.tail = gt at *
  refine Xa0 ?_
  refine ⟨TrJ gt.length tl W7,vsMu gt.length,⟨Below.refl _ _,_,_,0,rfl,by omega,World.ownsRow_nil _ _ _ _⟩,?_⟩
  have hk0:=hk
  rintro _ _ w5 ⟨h5,u1,o,i,rfl,hi,ho⟩
  have hk:=hk0.next h5
  by_cases hin:i = gt.length
  ·rw [List.take_of_length_le (by omega)] at ho
   refine Xa0 ?_
   exact k2 _ _ _ eT2 hk.below (ho.ints hrng (by omega))
  ·obtain ⟨b1,o1,hbe,hb1,ca,ra,hnn⟩:=hti.at (i:=i) (by omega)
   cases hbe
   refine Xa (ca _ h5) ?_
   refine ⟨fun w'=>Kn w _ w' ∧ Below W7.heap.size W7 w',⟨hk.drew,h5.trans .drawn⟩,?_⟩
   have h5:=h5.trans (Below.drawn (w:=w5))
   have ho:=ho.keep (Below.drawn (w:=w5))
   have hk:=hk.drew
   have hgl8:0 < gl.length:=by omega
   repeat (any_goals (first
   | (with_reducible refine pureH_in ?_)
   | ((with_reducible refine idOH ?_); (with_reducible refine oH_of ⟨_,rfl⟩ (fun W0 hW0=>by (refine oM_gen (fun Kv hK=>?_)); simp [go_sem,hW0.1.cells,c8 _ hW0.2]; (first | exact hK _ _ ⟨rfl,rfl⟩ | exact ⟨by omega,hK _ _ ⟨rfl,rfl⟩⟩)) ?_))))
   refine over_ok s _ _ (hs.next hk.below) (fun w6 h6=>?_)
   have hk:=hk.next h6
   have ho:=ho.keep h6
   have h5:=h5.on h6
   refine ⟨⟨hk,h5⟩,mk1 _ (mulQ_I64 _ _ _ (by simp)) (fun v7 w7 h7 hi7=>?_)⟩
   have hk:=hk.next h7
   have ho:=ho.keep h7
   have h5:=h5.on h7
   refine ⟨⟨hk,h5⟩,append1 ho h5.size hi7 (by simp; omega) (fun v8 w8 ho8 h8=>?_)⟩
   have h5:=h5.trans h8
   have hk:=hk0.next h5
   refine ⟨⟨hk,h5⟩,⟨hk,h5⟩,?_⟩
   refine Xa0 ?_
   refine ⟨⟨h5,_,_,i + 1,rfl,by omega,?_⟩,?_⟩
   ·have e2:tl.take (i + 1) = tl.take i ++ [overQ s gt[i] x0]:=by
     rw [List.take_add_one,hat i _ (List.getElem?_eq_getElem (by omega))]
     rfl
    rw [e2]
    exact ho8
   ·simp only [vsMu_eq]; omega
end
end Go.Proofs
