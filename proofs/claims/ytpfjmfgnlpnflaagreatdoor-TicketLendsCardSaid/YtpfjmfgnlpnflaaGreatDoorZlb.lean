/- Parts of the proof of the seat's statements (HFd, FdSpec, FdPow, FdDiv, ShMap5, ShRow, ShRow2, ShBuf, ShBuf2, ShBit, ShBox, ShGo, FdA, FdB, FdC, FdE, FdF, FdG, FdH, FdI, FdJ, FdK, FdL): lemmas about the given translation and plain laws. No condition of their own. -/
import Derived.Test.YtpfjmfgnlpnflaaGreatDoorZla
import Derived.Test.YtpfjmfgnlpnflaaGreatDoorProg
import Derived.Lib.BufferWrite
import Derived.Lib.SliceRun
import Derived.Laws.MakeOwn
import Derived.Laws.OwnMore
import Derived.Great.BuildSlice
import Derived.Laws.IdiomStrings
import Derived.Lib.Mul64
import Derived.Lib.TrailingZeros
set_option linter.all false
set_option maxRecDepth 100000
set_option linter.unusedVariables false
set_option maxRecDepth 100000
namespace Go.Proofs
open Go.Sh
def sh_27 (a0 : Value) (a1 : Value) (a2 : Value) (K : Value → World → Prop) (w : World) : Prop :=
 callM Tryz.prog 82 #[a0] (fun v8_1 w =>
 oM Tryz.prog (.unOp .not 4 (.tmp 0)) 4 [v8_1] (fun v9_2 w =>
 condM v9_2
 (K (.int .i64 0) w)
 (callM Tryz.prog 84 #[a0, a1] (fun v13_3 w =>
 callM Tryz.prog 84 #[a0, a2] (fun v16_4 w =>
 callM Tryz.prog 86 #[a0, v13_3, v16_4] (fun v17_5 w =>
 oM Tryz.prog (.convert 139 3 (.tmp 0)) 3 [v17_5] (fun v18_6 w =>
 K v18_6 w) w) w) w) w)) w) w
theorem sh_27_eq (a0 : Value) (a1 : Value) (a2 : Value) (K : Value → World → Prop) (w : World) : sh_27 a0 a1 a2 K w = code Tryz.prog (fun _ => 0) 19 (Tryz.f27.body.getD .skip) (slotsAt [a0, a1, a2]) (retK Tryz.prog [.tmp 6] K) w := by kernel_rfl
theorem sh_27_ok {a0 a1 a2 : Value} {K : Value → World → Prop} {w : World} (h : sh_27 a0 a1 a2 K w) : callM Tryz.prog 27 #[a0, a1, a2] K w :=
  calls_of_code (fun _ => 0) (fn := Tryz.f27) (rs := [.tmp 6]) Tryz.func27 rfl rfl (by kernel_rfl) (Nat.le_of_ble_eq_true rfl) ((sh_27_eq a0 a1 a2 K w).mp h)
def sh_28 (a0 : Value) (a1 : Value) (a2 : Value) (K : Value → World → Prop) (w : World) : Prop :=
 callM Tryz.prog 82 #[a0] (fun v8_1 w =>
 oM Tryz.prog (.unOp .not 4 (.tmp 0)) 4 [v8_1] (fun v9_2 w =>
 condM v9_2
 (K (.int .i64 0) w)
 (callM Tryz.prog 84 #[a0, a1] (fun v12_3 w =>
 oM Tryz.prog (.convert 3 139 (.tmp 0)) 139 [a0] (fun v14_4 w =>
 oM Tryz.prog (.binOp .add 139 (.tmp 0) (.tmp 1) 139) 139 [v12_3, v14_4] (fun v15_5 w =>
 callM Tryz.prog 84 #[a0, a2] (fun v18_6 w =>
 oM Tryz.prog (.binOp .sub 139 (.tmp 0) (.tmp 1) 139) 139 [v15_5, v18_6] (fun v19_7 w =>
 oM Tryz.prog (.convert 3 139 (.tmp 0)) 139 [a0] (fun v21_8 w =>
 oM Tryz.prog (.binOp .rem 139 (.tmp 0) (.tmp 1) 139) 139 [v19_7, v21_8] (fun v22_9 w =>
 oM Tryz.prog (.convert 139 3 (.tmp 0)) 3 [v22_9] (fun v23_10 w =>
 K v23_10 w) w) w) w) w) w) w) w) w)) w) w
theorem sh_28_eq (a0 : Value) (a1 : Value) (a2 : Value) (K : Value → World → Prop) (w : World) : sh_28 a0 a1 a2 K w = code Tryz.prog (fun _ => 0) 24 (Tryz.f28.body.getD .skip) (slotsAt [a0, a1, a2]) (retK Tryz.prog [.tmp 6] K) w := by kernel_rfl
theorem sh_28_ok {a0 a1 a2 : Value} {K : Value → World → Prop} {w : World} (h : sh_28 a0 a1 a2 K w) : callM Tryz.prog 28 #[a0, a1, a2] K w :=
  calls_of_code (fun _ => 0) (fn := Tryz.f28) (rs := [.tmp 6]) Tryz.func28 rfl rfl (by kernel_rfl) (Nat.le_of_ble_eq_true rfl) ((sh_28_eq a0 a1 a2 K w).mp h)
def sh_24 (a0 : Value) (a1 : Value) (a2 : Value) (K : Value → World → Prop) (w : World) : Prop :=
 oM Tryz.prog (.box 30 (.tmp 0)) 0 [a0] (fun v3_1 w =>
 oM Tryz.prog (.fieldAddr 30 (.tmp 0) 0) 0 [v3_1] (fun v7_2 w =>
 oM Tryz.prog (.load 3 (.tmp 0)) 3 [v7_2] (fun v8_3 w =>
 callM Tryz.prog 82 #[v8_3] (fun v9_4 w =>
 oM Tryz.prog (.unOp .not 4 (.tmp 0)) 4 [v9_4] (fun v10_5 w =>
 gdM (gd v10_5 false) (oM Tryz.prog (.fieldAddr 30 (.tmp 0) 1) 0 [v3_1]) (fun v12_6 w =>
 gdM (gd v10_5 false) (oM Tryz.prog (.load 3 (.tmp 0)) 3 [v12_6]) (fun v13_7 w =>
 gdM (gd v10_5 false) (callM Tryz.prog 82 #[v13_7]) (fun v14_8 w =>
 gdM (gd v10_5 false) (oM Tryz.prog (.unOp .not 4 (.tmp 0)) 4 [v14_8]) (fun v15_9 w =>
 oM Tryz.prog (.pick (.tmp 0) (.tmp 1) (.tmp 2)) 4 [v10_5, (.bool true), v15_9] (fun v16_10 w =>
 condM v16_10
 (K (.int .i64 0) w)
 (quietM w (fun C_11 => (oQ Tryz.prog (.fieldAddr 30 (.tmp 0) 0) 0 [v3_1] C_11 (fun v17_12 =>
 oQ Tryz.prog (.load 3 (.tmp 0)) 3 [v17_12] C_11 (fun v18_13 =>
 oQ Tryz.prog (.fieldAddr 30 (.tmp 0) 0) 0 [v3_1] C_11 (fun v19_14 =>
 oQ Tryz.prog (.load 3 (.tmp 0)) 3 [v19_14] C_11 (fun v20_15 =>
 callQ Tryz.prog 84 #[v20_15, a1] C_11 (fun v22_16 =>
 oQ Tryz.prog (.fieldAddr 30 (.tmp 0) 1) 0 [v3_1] C_11 (fun v23_17 =>
 oQ Tryz.prog (.load 3 (.tmp 0)) 3 [v23_17] C_11 (fun v24_18 =>
 callQ Tryz.prog 84 #[v24_18, a2] C_11 (fun v26_19 =>
 callQ Tryz.prog 83 #[v18_13, v22_16, v26_19] C_11 (fun v27_20 =>
 oQ Tryz.prog (.convert 139 3 (.tmp 0)) 3 [v27_20] C_11 (fun v28_21 =>
 ∀ w, C_11 w → (K v28_21 w))))))))))))))) w) w) w) w) w) w) w) w) w) w
theorem sh_24_eq (a0 : Value) (a1 : Value) (a2 : Value) (K : Value → World → Prop) (w : World) : sh_24 a0 a1 a2 K w = code Tryz.prog (fun _ => 0) 29 (Tryz.f24.body.getD .skip) (slotsAt [a0, a1, a2]) (retK Tryz.prog [.tmp 6] K) w := by kernel_rfl
theorem sh_24_ok {a0 a1 a2 : Value} {K : Value → World → Prop} {w : World} (h : sh_24 a0 a1 a2 K w) : callM Tryz.prog 24 #[a0, a1, a2] K w :=
  calls_of_code (fun _ => 0) (fn := Tryz.f24) (rs := [.tmp 6]) Tryz.func24 rfl rfl (by kernel_rfl) (Nat.le_of_ble_eq_true rfl) ((sh_24_eq a0 a1 a2 K w).mp h)
def sh_141 (a0 : Value) (a1 : Value) (a2 : Value) (K : Value → World → Prop) (w : World) : Prop :=
 oM Tryz.prog (.box 30 (.tmp 0)) 0 [a0] (fun v3_1 w =>
 oM Tryz.prog (.fieldAddr 30 (.tmp 0) 0) 0 [v3_1] (fun v11_2 w =>
 oM Tryz.prog (.load 3 (.tmp 0)) 3 [v11_2] (fun v12_3 w =>
 callM Tryz.prog 82 #[v12_3] (fun v13_4 w =>
 oM Tryz.prog (.unOp .not 4 (.tmp 0)) 4 [v13_4] (fun v14_5 w =>
 gdM (gd v14_5 false) (oM Tryz.prog (.fieldAddr 30 (.tmp 0) 1) 0 [v3_1]) (fun v16_6 w =>
 gdM (gd v14_5 false) (oM Tryz.prog (.load 3 (.tmp 0)) 3 [v16_6]) (fun v17_7 w =>
 gdM (gd v14_5 false) (callM Tryz.prog 82 #[v17_7]) (fun v18_8 w =>
 gdM (gd v14_5 false) (oM Tryz.prog (.unOp .not 4 (.tmp 0)) 4 [v18_8]) (fun v19_9 w =>
 oM Tryz.prog (.pick (.tmp 0) (.tmp 1) (.tmp 2)) 4 [v14_5, (.bool true), v19_9] (fun v20_10 w =>
 gdM (gd v20_10 false) (pureM a1) (fun v22_11 w =>
 gdM (gd v20_10 false) (oM Tryz.prog (.call (Go.Call.mk (.builtin .len) #[(.tmp 0)] #[22])) 3 [v22_11]) (fun v23_12 w =>
 gdM (gd v20_10 false) (pureM a2) (fun v24_13 w =>
 gdM (gd v20_10 false) (oM Tryz.prog (.call (Go.Call.mk (.builtin .len) #[(.tmp 0)] #[22])) 3 [v24_13]) (fun v25_14 w =>
 gdM (gd v20_10 false) (oM Tryz.prog (.binOp .neq 3 (.tmp 0) (.tmp 1) 3) 4 [v23_12, v25_14]) (fun v26_15 w =>
 oM Tryz.prog (.pick (.tmp 0) (.tmp 1) (.tmp 2)) 4 [v20_10, (.bool true), v26_15] (fun v27_16 w =>
 condM v27_16
 (K (.tuple #[(.int .i64 0), (.bool false)]) w)
 (oM Tryz.prog (.fieldAddr 30 (.tmp 0) 0) 0 [v3_1] (fun v28_17 w =>
 oM Tryz.prog (.load 3 (.tmp 0)) 3 [v28_17] (fun v29_18 w =>
 oM Tryz.prog (.binOp .rem 3 (.tmp 0) (.tmp 1) 3) 3 [(.int .i64 1), v29_18] (fun v30_19 w =>
 oM Tryz.prog (.call (Go.Call.mk (.builtin .len) #[(.tmp 0)] #[22])) 3 [a1] (fun v32_20 w =>
 loopM [undef, undef, v30_19, (.int .i64 0)] w (fun J_21 m_22 l_23 u_l_23 w0_l_23 => (fun w => (
 oM Tryz.prog (.binOp .lss 3 (.tmp 0) (.tmp 1) 3) 0 [(l_23.getD 3 undef), v32_20] (fun v34_24 w =>
 condM v34_24
 (oM Tryz.prog (.indexAddr 22 (.tmp 0) (.tmp 1)) 0 [a1, (l_23.getD 3 undef)] (fun v36_25 w =>
 oM Tryz.prog (.load 3 (.tmp 0)) 3 [v36_25] (fun v37_26 w =>
 quietM w (fun C_27 => (oQ Tryz.prog (.fieldAddr 30 (.tmp 0) 0) 0 [v3_1] C_27 (fun v38_28 =>
 oQ Tryz.prog (.load 3 (.tmp 0)) 3 [v38_28] C_27 (fun v39_29 =>
 oQ Tryz.prog (.load 30 (.tmp 0)) 30 [v3_1] C_27 (fun v41_30 =>
 oQ Tryz.prog (.indexAddr 22 (.tmp 0) (.tmp 1)) 0 [a2, (l_23.getD 3 undef)] C_27 (fun v45_31 =>
 oQ Tryz.prog (.load 3 (.tmp 0)) 3 [v45_31] C_27 (fun v46_32 =>
 callQ Tryz.prog 24 #[v41_30, v37_26, v46_32] C_27 (fun v47_33 =>
 callQ Tryz.prog 27 #[v39_29, (l_23.getD 2 undef), v47_33] C_27 (fun v48_34 =>
 ∀ w, C_27 w → (oM Tryz.prog (.binOp .add 3 (.tmp 0) (.tmp 1) 3) 3 [(l_23.getD 3 undef), (.int .i64 1)] (fun v49_35 w =>
 J_21 [(l_23.getD 3 undef), v37_26, v48_34, v49_35] w ∧ m_22 [(l_23.getD 3 undef), v37_26, v48_34, v49_35] w < m_22 l_23 w0_l_23) w))))))))))) w) w)
 (K (.tuple #[(l_23.getD 2 undef), (.bool true)]) w)) w)) w0_l_23)) w) w) w) w)) w) w) w) w) w) w) w) w) w) w) w) w) w) w) w) w
theorem sh_141_eq (a0 : Value) (a1 : Value) (a2 : Value) (K : Value → World → Prop) (w : World) : sh_141 a0 a1 a2 K w = code Tryz.prog (fun _ => 0) 51 (Tryz.f141.body.getD .skip) (slotsAt [a0, a1, a2]) (retK Tryz.prog [.tmp 6, .tmp 7] K) w := by kernel_rfl
theorem sh_141_ok {a0 a1 a2 : Value} {K : Value → World → Prop} {w : World} (h : sh_141 a0 a1 a2 K w) : callM Tryz.prog 141 #[a0, a1, a2] K w :=
  calls_of_code (fun _ => 0) (fn := Tryz.f141) (rs := [.tmp 6, .tmp 7]) Tryz.func141 rfl rfl (by kernel_rfl) (Nat.le_of_ble_eq_true rfl) ((sh_141_eq a0 a1 a2 K w).mp h)
def sh_62 (a0 : Value) (K : Value → World → Prop) (w : World) : Prop :=
 oM Tryz.prog (.alloc 30) 0 [] (fun v2_1 w =>
 oM Tryz.prog (.binOp .lss 3 (.tmp 0) (.tmp 1) 3) 4 [a0, (.int .i64 5)] (fun v6_2 w =>
 gdM (gd v6_2 false) (pureM a0) (fun v8_3 w =>
 gdM (gd v6_2 false) (oM Tryz.prog (.binOp .geq 3 (.tmp 0) (.tmp 1) 3) 4 [v8_3, (.int .i64 1152921504606846976)]) (fun v9_4 w =>
 oM Tryz.prog (.pick (.tmp 0) (.tmp 1) (.tmp 2)) 4 [v6_2, (.bool true), v9_4] (fun v10_5 w =>
 condM v10_5
 (oM Tryz.prog (.build 30 #[]) 30 [] (fun v11_6 w =>
 oM Tryz.prog (.store 30 (.tmp 0) (.tmp 1)) 0 [v2_1, v11_6] (fun _ w =>
 ∃ r_7, (do loadVar 30 (← asAddr v2_1) : Sem Value).run Tryz.prog w = .ok r_7 w ∧ K (.tuple #[r_7, (.bool false)]) w) w) w)
 (oM Tryz.prog (.binOp .mul 3 (.tmp 0) (.tmp 1) 3) 3 [(.int .i64 2), a0] (fun v13_8 w =>
 oM Tryz.prog (.binOp .add 3 (.tmp 0) (.tmp 1) 3) 3 [v13_8, (.int .i64 1)] (fun v14_9 w =>
 oM Tryz.prog (.build 30 #[(0, (.tmp 0)), (1, (.tmp 1)), (2, (.tmp 2))]) 30 [v14_9, a0, (.int .i64 4)] (fun v16_10 w =>
 oM Tryz.prog (.alloc 30) 0 [] (fun v4_11 w =>
 oM Tryz.prog (.store 30 (.tmp 0) (.tmp 1)) 0 [v4_11, v16_10] (fun _ w =>
 oM Tryz.prog (.load 30 (.tmp 0)) 30 [v4_11] (fun v17_12 w =>
 callM Tryz.prog 131 #[v17_12] (fun v18_13 w =>
 condM v18_13
 (oM Tryz.prog (.load 30 (.tmp 0)) 30 [v4_11] (fun v19_14 w =>
 oM Tryz.prog (.store 30 (.tmp 0) (.tmp 1)) 0 [v2_1, v19_14] (fun _ w =>
 ∃ r_15, (do loadVar 30 (← asAddr v2_1) : Sem Value).run Tryz.prog w = .ok r_15 w ∧ K (.tuple #[r_15, (.bool true)]) w) w) w)
 (oM Tryz.prog (.build 30 #[]) 30 [] (fun v20_16 w =>
 oM Tryz.prog (.store 30 (.tmp 0) (.tmp 1)) 0 [v2_1, v20_16] (fun _ w =>
 ∃ r_17, (do loadVar 30 (← asAddr v2_1) : Sem Value).run Tryz.prog w = .ok r_17 w ∧ K (.tuple #[r_17, (.bool false)]) w) w) w)) w) w) w) w) w) w) w)) w) w) w) w) w
theorem sh_62_eq (a0 : Value) (K : Value → World → Prop) (w : World) : sh_62 a0 K w = code Tryz.prog (fun _ => 0) 21 (Tryz.f62.body.getD .skip) (slotsAt [a0]) (retK Tryz.prog [.cell 2 30, .tmp 3] K) w := by kernel_rfl
theorem sh_62_ok {a0 : Value} {K : Value → World → Prop} {w : World} (h : sh_62 a0 K w) : callM Tryz.prog 62 #[a0] K w :=
  calls_of_code (fun _ => 0) (fn := Tryz.f62) (rs := [.cell 2 30, .tmp 3]) Tryz.func62 rfl rfl (by kernel_rfl) (Nat.le_of_ble_eq_true rfl) ((sh_62_eq a0 K w).mp h)
def sh_82 (a0 : Value) (K : Value → World → Prop) (w : World) : Prop :=
 oM Tryz.prog (.binOp .geq 3 (.tmp 0) (.tmp 1) 3) 4 [a0, (.int .i64 1)] (fun v4_1 w =>
 gdM (gd v4_1 true) (pureM a0) (fun v6_2 w =>
 gdM (gd v4_1 true) (oM Tryz.prog (.binOp .lss 3 (.tmp 0) (.tmp 1) 3) 4 [v6_2, (.int .i64 2305843009213693952)]) (fun v7_3 w =>
 oM Tryz.prog (.pick (.tmp 0) (.tmp 1) (.tmp 2)) 4 [v4_1, v7_3, (.bool false)] (fun v8_4 w =>
 K v8_4 w) w) w) w) w
theorem sh_82_eq (a0 : Value) (K : Value → World → Prop) (w : World) : sh_82 a0 K w = code Tryz.prog (fun _ => 0) 9 (Tryz.f82.body.getD .skip) (slotsAt [a0]) (retK Tryz.prog [.tmp 2] K) w := by kernel_rfl
theorem sh_82_ok {a0 : Value} {K : Value → World → Prop} {w : World} (h : sh_82 a0 K w) : callM Tryz.prog 82 #[a0] K w :=
  calls_of_code (fun _ => 0) (fn := Tryz.f82) (rs := [.tmp 2]) Tryz.func82 rfl rfl (by kernel_rfl) (Nat.le_of_ble_eq_true rfl) ((sh_82_eq a0 K w).mp h)
def sh_86 (a0 : Value) (a1 : Value) (a2 : Value) (K : Value → World → Prop) (w : World) : Prop :=
 callM Tryz.prog 139 #[a1, a2] (fun v12_1 w =>
 oM Tryz.prog (.extract (.tmp 0) 0) 139 [v12_1] (fun v13_2 w =>
 oM Tryz.prog (.extract (.tmp 0) 1) 139 [v12_1] (fun v14_3 w =>
 oM Tryz.prog (.convert 3 139 (.tmp 0)) 139 [a0] (fun v18_4 w =>
 callM Tryz.prog 140 #[v13_2, v14_3, v18_4] (fun v19_5 w =>
 K v19_5 w) w) w) w) w) w
theorem sh_86_eq (a0 : Value) (a1 : Value) (a2 : Value) (K : Value → World → Prop) (w : World) : sh_86 a0 a1 a2 K w = code Tryz.prog (fun _ => 0) 20 (Tryz.f86.body.getD .skip) (slotsAt [a0, a1, a2]) (retK Tryz.prog [.tmp 6] K) w := by kernel_rfl
theorem sh_86_ok {a0 a1 a2 : Value} {K : Value → World → Prop} {w : World} (h : sh_86 a0 a1 a2 K w) : callM Tryz.prog 86 #[a0, a1, a2] K w :=
  calls_of_code (fun _ => 0) (fn := Tryz.f86) (rs := [.tmp 6]) Tryz.func86 rfl rfl (by kernel_rfl) (Nat.le_of_ble_eq_true rfl) ((sh_86_eq a0 a1 a2 K w).mp h)
def sh_84 (a0 : Value) (a1 : Value) (K : Value → World → Prop) (w : World) : Prop :=
 oM Tryz.prog (.binOp .rem 3 (.tmp 0) (.tmp 1) 3) 3 [a1, a0] (fun v8_1 w =>
 oM Tryz.prog (.binOp .lss 3 (.tmp 0) (.tmp 1) 3) 4 [v8_1, (.int .i64 0)] (fun v10_2 w =>
 condM v10_2
 (oM Tryz.prog (.binOp .add 3 (.tmp 0) (.tmp 1) 3) 3 [v8_1, a0] (fun v13_3 w =>
 oM Tryz.prog (.convert 3 139 (.tmp 0)) 139 [v13_3] (fun v14_4 w =>
 K v14_4 w) w) w)
 (oM Tryz.prog (.convert 3 139 (.tmp 0)) 139 [v8_1] (fun v16_5 w =>
 K v16_5 w) w)) w) w
theorem sh_84_eq (a0 : Value) (a1 : Value) (K : Value → World → Prop) (w : World) : sh_84 a0 a1 K w = code Tryz.prog (fun _ => 0) 17 (Tryz.f84.body.getD .skip) (slotsAt [a0, a1]) (retK Tryz.prog [.tmp 4] K) w := by kernel_rfl
theorem sh_84_ok {a0 a1 : Value} {K : Value → World → Prop} {w : World} (h : sh_84 a0 a1 K w) : callM Tryz.prog 84 #[a0, a1] K w :=
  calls_of_code (fun _ => 0) (fn := Tryz.f84) (rs := [.tmp 4]) Tryz.func84 rfl rfl (by kernel_rfl) (Nat.le_of_ble_eq_true rfl) ((sh_84_eq a0 a1 K w).mp h)
def sh_83 (a0 : Value) (a1 : Value) (a2 : Value) (K : Value → World → Prop) (w : World) : Prop :=
 oM Tryz.prog (.convert 3 139 (.tmp 0)) 139 [a0] (fun v9_1 w =>
 oM Tryz.prog (.binOp .rem 139 (.tmp 0) (.tmp 1) 139) 139 [(.int .u64 1), v9_1] (fun v10_2 w =>
 loopM [v10_2, a1, a2] w (fun J_3 m_4 l_5 u_l_5 w0_l_5 => (fun w => (
 oM Tryz.prog (.binOp .gtr 139 (.tmp 0) (.tmp 1) 139) 4 [(l_5.getD 2 undef), (.int .u64 0)] (fun v12_6 w =>
 condM v12_6
 (joinM (fun M_7 => (oM Tryz.prog (.binOp .and 139 (.tmp 0) (.tmp 1) 139) 139 [(l_5.getD 2 undef), (.int .u64 1)] (fun v16_9 w =>
 oM Tryz.prog (.binOp .eql 139 (.tmp 0) (.const (.int .u64 1)) 139) 4 [v16_9] (fun v17_10 w =>
 condM v17_10
 (callM Tryz.prog 86 #[a0, (l_5.getD 0 undef), (l_5.getD 1 undef)] (fun v21_11 w =>
 M_7 [v21_11] w) w)
 (M_7 [(l_5.getD 0 undef)] w)) w) w))
 (fun l_8 u_l_8 w => (callM Tryz.prog 86 #[a0, (l_5.getD 1 undef), (l_5.getD 1 undef)] (fun v25_12 w =>
 oM Tryz.prog (.binOp .shr 139 (.tmp 0) (.tmp 1) 174) 139 [(l_5.getD 2 undef), (.int .u64 1)] (fun v14_13 w =>
 J_3 [(l_8.getD 0 undef), v25_12, v14_13] w ∧ m_4 [(l_8.getD 0 undef), v25_12, v14_13] w < m_4 l_5 w0_l_5) w) w)))
 (K (l_5.getD 0 undef) w)) w)) w0_l_5)) w) w
theorem sh_83_eq (a0 : Value) (a1 : Value) (a2 : Value) (K : Value → World → Prop) (w : World) : sh_83 a0 a1 a2 K w = code Tryz.prog (fun _ => 0) 27 (Tryz.f83.body.getD .skip) (slotsAt [a0, a1, a2]) (retK Tryz.prog [.tmp 6] K) w := by kernel_rfl
theorem sh_83_ok {a0 a1 a2 : Value} {K : Value → World → Prop} {w : World} (h : sh_83 a0 a1 a2 K w) : callM Tryz.prog 83 #[a0, a1, a2] K w :=
  calls_of_code (fun _ => 0) (fn := Tryz.f83) (rs := [.tmp 6]) Tryz.func83 rfl rfl (by kernel_rfl) (Nat.le_of_ble_eq_true rfl) ((sh_83_eq a0 a1 a2 K w).mp h)
def sh_127 (a0 : Value) (a1 : Value) (a2 : Value) (K : Value → World → Prop) (w : World) : Prop :=
 callM Tryz.prog 82 #[a0] (fun v11_1 w =>
 oM Tryz.prog (.unOp .not 4 (.tmp 0)) 4 [v11_1] (fun v12_2 w =>
 condM v12_2
 (K (.int .i64 0) w)
 (oM Tryz.prog (.binOp .geq 3 (.tmp 0) (.tmp 1) 3) 4 [a2, (.int .i64 0)] (fun v15_3 w =>
 condM v15_3
 (callM Tryz.prog 84 #[a0, a1] (fun v19_4 w =>
 oM Tryz.prog (.convert 3 139 (.tmp 0)) 139 [a2] (fun v21_5 w =>
 callM Tryz.prog 83 #[a0, v19_4, v21_5] (fun v22_6 w =>
 oM Tryz.prog (.convert 139 3 (.tmp 0)) 3 [v22_6] (fun v23_7 w =>
 K v23_7 w) w) w) w) w)
 (callM Tryz.prog 172 #[a0, a1] (fun v27_8 w =>
 oM Tryz.prog (.extract (.tmp 0) 0) 3 [v27_8] (fun v28_9 w =>
 oM Tryz.prog (.extract (.tmp 0) 1) 4 [v27_8] (fun v29_10 w =>
 oM Tryz.prog (.unOp .not 4 (.tmp 0)) 4 [v29_10] (fun v31_11 w =>
 condM v31_11
 (K (.int .i64 0) w)
 (oM Tryz.prog (.convert 3 139 (.tmp 0)) 139 [v28_9] (fun v34_12 w =>
 oM Tryz.prog (.convert 3 139 (.tmp 0)) 139 [a2] (fun v36_13 w =>
 oM Tryz.prog (.unOp .neg 139 (.tmp 0)) 139 [v36_13] (fun v37_14 w =>
 callM Tryz.prog 83 #[a0, v34_12, v37_14] (fun v38_15 w =>
 oM Tryz.prog (.convert 139 3 (.tmp 0)) 3 [v38_15] (fun v39_16 w =>
 K v39_16 w) w) w) w) w) w)) w) w) w) w)) w)) w) w
theorem sh_127_eq (a0 : Value) (a1 : Value) (a2 : Value) (K : Value → World → Prop) (w : World) : sh_127 a0 a1 a2 K w = code Tryz.prog (fun _ => 0) 40 (Tryz.f127.body.getD .skip) (slotsAt [a0, a1, a2]) (retK Tryz.prog [.tmp 6] K) w := by kernel_rfl
theorem sh_127_ok {a0 a1 a2 : Value} {K : Value → World → Prop} {w : World} (h : sh_127 a0 a1 a2 K w) : callM Tryz.prog 127 #[a0, a1, a2] K w :=
  calls_of_code (fun _ => 0) (fn := Tryz.f127) (rs := [.tmp 6]) Tryz.func127 rfl rfl (by kernel_rfl) (Nat.le_of_ble_eq_true rfl) ((sh_127_eq a0 a1 a2 K w).mp h)
def sh_131 (a0 : Value) (K : Value → World → Prop) (w : World) : Prop :=
 oM Tryz.prog (.box 30 (.tmp 0)) 0 [a0] (fun v1_1 w =>
 oM Tryz.prog (.fieldAddr 30 (.tmp 0) 1) 0 [v1_1] (fun v3_2 w =>
 oM Tryz.prog (.load 3 (.tmp 0)) 3 [v3_2] (fun v4_3 w =>
 oM Tryz.prog (.binOp .lss 3 (.tmp 0) (.tmp 1) 3) 4 [v4_3, (.int .i64 5)] (fun v5_4 w =>
 gdM (gd v5_4 false) (oM Tryz.prog (.fieldAddr 30 (.tmp 0) 1) 0 [v1_1]) (fun v7_5 w =>
 gdM (gd v5_4 false) (oM Tryz.prog (.load 3 (.tmp 0)) 3 [v7_5]) (fun v8_6 w =>
 gdM (gd v5_4 false) (oM Tryz.prog (.binOp .geq 3 (.tmp 0) (.tmp 1) 3) 4 [v8_6, (.int .i64 1152921504606846976)]) (fun v9_7 w =>
 oM Tryz.prog (.pick (.tmp 0) (.tmp 1) (.tmp 2)) 4 [v5_4, (.bool true), v9_7] (fun v10_8 w =>
 gdM (gd v10_8 false) (oM Tryz.prog (.fieldAddr 30 (.tmp 0) 0) 0 [v1_1]) (fun v12_9 w =>
 gdM (gd v10_8 false) (oM Tryz.prog (.load 3 (.tmp 0)) 3 [v12_9]) (fun v13_10 w =>
 gdM (gd v10_8 false) (oM Tryz.prog (.fieldAddr 30 (.tmp 0) 1) 0 [v1_1]) (fun v14_11 w =>
 gdM (gd v10_8 false) (oM Tryz.prog (.load 3 (.tmp 0)) 3 [v14_11]) (fun v15_12 w =>
 gdM (gd v10_8 false) (oM Tryz.prog (.binOp .mul 3 (.tmp 0) (.tmp 1) 3) 3 [(.int .i64 2), v15_12]) (fun v16_13 w =>
 gdM (gd v10_8 false) (oM Tryz.prog (.binOp .add 3 (.tmp 0) (.tmp 1) 3) 3 [v16_13, (.int .i64 1)]) (fun v17_14 w =>
 gdM (gd v10_8 false) (oM Tryz.prog (.binOp .neq 3 (.tmp 0) (.tmp 1) 3) 4 [v13_10, v17_14]) (fun v18_15 w =>
 oM Tryz.prog (.pick (.tmp 0) (.tmp 1) (.tmp 2)) 4 [v10_8, (.bool true), v18_15] (fun v19_16 w =>
 gdM (gd v19_16 false) (oM Tryz.prog (.fieldAddr 30 (.tmp 0) 2) 0 [v1_1]) (fun v21_17 w =>
 gdM (gd v19_16 false) (oM Tryz.prog (.load 3 (.tmp 0)) 3 [v21_17]) (fun v22_18 w =>
 gdM (gd v19_16 false) (oM Tryz.prog (.binOp .lss 3 (.tmp 0) (.tmp 1) 3) 4 [v22_18, (.int .i64 2)]) (fun v23_19 w =>
 oM Tryz.prog (.pick (.tmp 0) (.tmp 1) (.tmp 2)) 4 [v19_16, (.bool true), v23_19] (fun v24_20 w =>
 gdM (gd v24_20 false) (oM Tryz.prog (.fieldAddr 30 (.tmp 0) 2) 0 [v1_1]) (fun v26_21 w =>
 gdM (gd v24_20 false) (oM Tryz.prog (.load 3 (.tmp 0)) 3 [v26_21]) (fun v27_22 w =>
 gdM (gd v24_20 false) (oM Tryz.prog (.fieldAddr 30 (.tmp 0) 0) 0 [v1_1]) (fun v28_23 w =>
 gdM (gd v24_20 false) (oM Tryz.prog (.load 3 (.tmp 0)) 3 [v28_23]) (fun v29_24 w =>
 gdM (gd v24_20 false) (oM Tryz.prog (.binOp .geq 3 (.tmp 0) (.tmp 1) 3) 4 [v27_22, v29_24]) (fun v30_25 w =>
 oM Tryz.prog (.pick (.tmp 0) (.tmp 1) (.tmp 2)) 4 [v24_20, (.bool true), v30_25] (fun v31_26 w =>
 condM v31_26
 (K (.bool false) w)
 (oM Tryz.prog (.fieldAddr 30 (.tmp 0) 1) 0 [v1_1] (fun v32_27 w =>
 oM Tryz.prog (.load 3 (.tmp 0)) 3 [v32_27] (fun v33_28 w =>
 callM Tryz.prog 179 #[v33_28] (fun v34_29 w =>
 gdM (gd v34_29 true) (oM Tryz.prog (.fieldAddr 30 (.tmp 0) 0) 0 [v1_1]) (fun v36_30 w =>
 gdM (gd v34_29 true) (oM Tryz.prog (.load 3 (.tmp 0)) 3 [v36_30]) (fun v37_31 w =>
 gdM (gd v34_29 true) (callM Tryz.prog 179 #[v37_31]) (fun v38_32 w =>
 oM Tryz.prog (.pick (.tmp 0) (.tmp 1) (.tmp 2)) 4 [v34_29, v38_32, (.bool false)] (fun v39_33 w =>
 gdM (gd v39_33 true) (oM Tryz.prog (.fieldAddr 30 (.tmp 0) 0) 0 [v1_1]) (fun v41_34 w =>
 gdM (gd v39_33 true) (oM Tryz.prog (.load 3 (.tmp 0)) 3 [v41_34]) (fun v42_35 w =>
 gdM (gd v39_33 true) (oM Tryz.prog (.fieldAddr 30 (.tmp 0) 2) 0 [v1_1]) (fun v43_36 w =>
 gdM (gd v39_33 true) (oM Tryz.prog (.load 3 (.tmp 0)) 3 [v43_36]) (fun v44_37 w =>
 gdM (gd v39_33 true) (oM Tryz.prog (.fieldAddr 30 (.tmp 0) 1) 0 [v1_1]) (fun v45_38 w =>
 gdM (gd v39_33 true) (oM Tryz.prog (.load 3 (.tmp 0)) 3 [v45_38]) (fun v46_39 w =>
 gdM (gd v39_33 true) (callM Tryz.prog 127 #[v42_35, v44_37, v46_39]) (fun v47_40 w =>
 gdM (gd v39_33 true) (oM Tryz.prog (.binOp .eql 3 (.tmp 0) (.const (.int .i64 1)) 3) 4 [v47_40]) (fun v48_41 w =>
 oM Tryz.prog (.pick (.tmp 0) (.tmp 1) (.tmp 2)) 4 [v39_33, v48_41, (.bool false)] (fun v49_42 w =>
 K v49_42 w) w) w) w) w) w) w) w) w) w) w) w) w) w) w) w) w)) w) w) w) w) w) w) w) w) w) w) w) w) w) w) w) w) w) w) w) w) w) w) w) w) w) w
theorem sh_131_eq (a0 : Value) (K : Value → World → Prop) (w : World) : sh_131 a0 K w = code Tryz.prog (fun _ => 0) 50 (Tryz.f131.body.getD .skip) (slotsAt [a0]) (retK Tryz.prog [.tmp 2] K) w := by kernel_rfl
theorem sh_131_ok {a0 : Value} {K : Value → World → Prop} {w : World} (h : sh_131 a0 K w) : callM Tryz.prog 131 #[a0] K w :=
  calls_of_code (fun _ => 0) (fn := Tryz.f131) (rs := [.tmp 2]) Tryz.func131 rfl rfl (by kernel_rfl) (Nat.le_of_ble_eq_true rfl) ((sh_131_eq a0 K w).mp h)
def sh_26 (a0 : Value) (a1 : Value) (a2 : Value) (K : Value → World → Prop) (w : World) : Prop :=
 callM Tryz.prog 82 #[a0] (fun v8_1 w =>
 oM Tryz.prog (.unOp .not 4 (.tmp 0)) 4 [v8_1] (fun v9_2 w =>
 condM v9_2
 (K (.int .i64 0) w)
 (callM Tryz.prog 84 #[a0, a1] (fun v12_3 w =>
 callM Tryz.prog 84 #[a0, a2] (fun v15_4 w =>
 oM Tryz.prog (.binOp .add 139 (.tmp 0) (.tmp 1) 139) 139 [v12_3, v15_4] (fun v16_5 w =>
 oM Tryz.prog (.convert 3 139 (.tmp 0)) 139 [a0] (fun v18_6 w =>
 oM Tryz.prog (.binOp .rem 139 (.tmp 0) (.tmp 1) 139) 139 [v16_5, v18_6] (fun v19_7 w =>
 oM Tryz.prog (.convert 139 3 (.tmp 0)) 3 [v19_7] (fun v20_8 w =>
 K v20_8 w) w) w) w) w) w) w)) w) w
theorem sh_26_eq (a0 : Value) (a1 : Value) (a2 : Value) (K : Value → World → Prop) (w : World) : sh_26 a0 a1 a2 K w = code Tryz.prog (fun _ => 0) 21 (Tryz.f26.body.getD .skip) (slotsAt [a0, a1, a2]) (retK Tryz.prog [.tmp 6] K) w := by kernel_rfl
theorem sh_26_ok {a0 a1 a2 : Value} {K : Value → World → Prop} {w : World} (h : sh_26 a0 a1 a2 K w) : callM Tryz.prog 26 #[a0, a1, a2] K w :=
  calls_of_code (fun _ => 0) (fn := Tryz.f26) (rs := [.tmp 6]) Tryz.func26 rfl rfl (by kernel_rfl) (Nat.le_of_ble_eq_true rfl) ((sh_26_eq a0 a1 a2 K w).mp h)
def sh_139 (a0 : Value) (a1 : Value) (K : Value → World → Prop) (w : World) : Prop :=
 oM Tryz.prog (.binOp .and 139 (.tmp 0) (.tmp 1) 139) 139 [a0, (.int .u64 4294967295)] (fun v15_1 w =>
 oM Tryz.prog (.binOp .shr 139 (.tmp 0) (.tmp 1) 174) 139 [a0, (.int .u64 32)] (fun v17_2 w =>
 oM Tryz.prog (.binOp .and 139 (.tmp 0) (.tmp 1) 139) 139 [a1, (.int .u64 4294967295)] (fun v19_3 w =>
 oM Tryz.prog (.binOp .shr 139 (.tmp 0) (.tmp 1) 174) 139 [a1, (.int .u64 32)] (fun v21_4 w =>
 oM Tryz.prog (.binOp .mul 139 (.tmp 0) (.tmp 1) 139) 139 [v15_1, v19_3] (fun v24_5 w =>
 oM Tryz.prog (.binOp .mul 139 (.tmp 0) (.tmp 1) 139) 139 [v17_2, v19_3] (fun v27_6 w =>
 oM Tryz.prog (.binOp .shr 139 (.tmp 0) (.tmp 1) 174) 139 [v24_5, (.int .u64 32)] (fun v29_7 w =>
 oM Tryz.prog (.binOp .add 139 (.tmp 0) (.tmp 1) 139) 139 [v27_6, v29_7] (fun v30_8 w =>
 oM Tryz.prog (.binOp .and 139 (.tmp 0) (.tmp 1) 139) 139 [v30_8, (.int .u64 4294967295)] (fun v32_9 w =>
 oM Tryz.prog (.binOp .shr 139 (.tmp 0) (.tmp 1) 174) 139 [v30_8, (.int .u64 32)] (fun v34_10 w =>
 oM Tryz.prog (.binOp .mul 139 (.tmp 0) (.tmp 1) 139) 139 [v15_1, v21_4] (fun v38_11 w =>
 oM Tryz.prog (.binOp .add 139 (.tmp 0) (.tmp 1) 139) 139 [v32_9, v38_11] (fun v39_12 w =>
 oM Tryz.prog (.binOp .mul 139 (.tmp 0) (.tmp 1) 139) 139 [v17_2, v21_4] (fun v42_13 w =>
 oM Tryz.prog (.binOp .add 139 (.tmp 0) (.tmp 1) 139) 139 [v42_13, v34_10] (fun v44_14 w =>
 oM Tryz.prog (.binOp .shr 139 (.tmp 0) (.tmp 1) 174) 139 [v39_12, (.int .u64 32)] (fun v46_15 w =>
 oM Tryz.prog (.binOp .add 139 (.tmp 0) (.tmp 1) 139) 139 [v44_14, v46_15] (fun v47_16 w =>
 oM Tryz.prog (.binOp .mul 139 (.tmp 0) (.tmp 1) 139) 139 [a0, a1] (fun v50_17 w =>
 K (.tuple #[v47_16, v50_17]) w) w) w) w) w) w) w) w) w) w) w) w) w) w) w) w) w) w
theorem sh_139_eq (a0 : Value) (a1 : Value) (K : Value → World → Prop) (w : World) : sh_139 a0 a1 K w = code Tryz.prog (fun _ => 0) 51 (Tryz.f139.body.getD .skip) (slotsAt [a0, a1]) (retK Tryz.prog [.tmp 4, .tmp 5] K) w := by kernel_rfl
theorem sh_139_ok {a0 a1 : Value} {K : Value → World → Prop} {w : World} (h : sh_139 a0 a1 K w) : callM Tryz.prog 139 #[a0, a1] K w :=
  calls_of_code (fun _ => 0) (fn := Tryz.f139) (rs := [.tmp 4, .tmp 5]) Tryz.func139 rfl rfl (by kernel_rfl) (Nat.le_of_ble_eq_true rfl) ((sh_139_eq a0 a1 K w).mp h)
def sh_140 (a0 : Value) (a1 : Value) (a2 : Value) (K : Value → World → Prop) (w : World) : Prop :=
 oM Tryz.prog (.binOp .rem 139 (.tmp 0) (.tmp 1) 139) 139 [a0, a2] (fun v12_1 w =>
 callM Tryz.prog 183 #[v12_1, a1, a2] (fun v15_2 w =>
 oM Tryz.prog (.extract (.tmp 0) 0) 139 [v15_2] (fun v16_3 w =>
 oM Tryz.prog (.extract (.tmp 0) 1) 139 [v15_2] (fun v17_4 w =>
 K v17_4 w) w) w) w) w
theorem sh_140_eq (a0 : Value) (a1 : Value) (a2 : Value) (K : Value → World → Prop) (w : World) : sh_140 a0 a1 a2 K w = code Tryz.prog (fun _ => 0) 19 (Tryz.f140.body.getD .skip) (slotsAt [a0, a1, a2]) (retK Tryz.prog [.tmp 6] K) w := by kernel_rfl
theorem sh_140_ok {a0 a1 a2 : Value} {K : Value → World → Prop} {w : World} (h : sh_140 a0 a1 a2 K w) : callM Tryz.prog 140 #[a0, a1, a2] K w :=
  calls_of_code (fun _ => 0) (fn := Tryz.f140) (rs := [.tmp 6]) Tryz.func140 rfl rfl (by kernel_rfl) (Nat.le_of_ble_eq_true rfl) ((sh_140_eq a0 a1 a2 K w).mp h)
def sh_142 (a0 : Value) (a1 : Value) (a2 : Value) (K : Value → World → Prop) (w : World) : Prop :=
 oM Tryz.prog (.box 30 (.tmp 0)) 0 [a0] (fun v3_1 w =>
 oM Tryz.prog (.fieldAddr 30 (.tmp 0) 1) 0 [v3_1] (fun v7_2 w =>
 oM Tryz.prog (.load 3 (.tmp 0)) 3 [v7_2] (fun v8_3 w =>
 callM Tryz.prog 82 #[v8_3] (fun v9_4 w =>
 oM Tryz.prog (.unOp .not 4 (.tmp 0)) 4 [v9_4] (fun v10_5 w =>
 condM v10_5
 (K (.int .i64 0) w)
 (oM Tryz.prog (.fieldAddr 30 (.tmp 0) 0) 0 [v3_1] (fun v11_6 w =>
 oM Tryz.prog (.load 3 (.tmp 0)) 3 [v11_6] (fun v12_7 w =>
 callM Tryz.prog 27 #[v12_7, a1, a2] (fun v15_8 w =>
 K v15_8 w) w) w) w)) w) w) w) w) w
theorem sh_142_eq (a0 : Value) (a1 : Value) (a2 : Value) (K : Value → World → Prop) (w : World) : sh_142 a0 a1 a2 K w = code Tryz.prog (fun _ => 0) 16 (Tryz.f142.body.getD .skip) (slotsAt [a0, a1, a2]) (retK Tryz.prog [.tmp 6] K) w := by kernel_rfl
theorem sh_142_ok {a0 a1 a2 : Value} {K : Value → World → Prop} {w : World} (h : sh_142 a0 a1 a2 K w) : callM Tryz.prog 142 #[a0, a1, a2] K w :=
  calls_of_code (fun _ => 0) (fn := Tryz.f142) (rs := [.tmp 6]) Tryz.func142 rfl rfl (by kernel_rfl) (Nat.le_of_ble_eq_true rfl) ((sh_142_eq a0 a1 a2 K w).mp h)
def sh_172 (a0 : Value) (a1 : Value) (K : Value → World → Prop) (w : World) : Prop :=
 callM Tryz.prog 82 #[a0] (fun v12_1 w =>
 oM Tryz.prog (.unOp .not 4 (.tmp 0)) 4 [v12_1] (fun v13_2 w =>
 condM v13_2
 (K (.tuple #[(.int .i64 0), (.bool false)]) w)
 (callM Tryz.prog 84 #[a0, a1] (fun v17_3 w =>
 oM Tryz.prog (.convert 139 3 (.tmp 0)) 3 [v17_3] (fun v18_4 w =>
 loopM [undef, a0, v18_4, (.int .i64 0), (.int .i64 1)] w (fun J_5 m_6 l_7 u_l_7 w0_l_7 => (fun w => (
 oM Tryz.prog (.binOp .neq 3 (.tmp 0) (.const (.int .i64 0)) 3) 4 [(l_7.getD 2 undef)] (fun v20_8 w =>
 condM v20_8
 (oM Tryz.prog (.binOp .quo 3 (.tmp 0) (.tmp 1) 3) 3 [(l_7.getD 1 undef), (l_7.getD 2 undef)] (fun v23_9 w =>
 oM Tryz.prog (.binOp .mul 3 (.tmp 0) (.tmp 1) 3) 3 [v23_9, (l_7.getD 2 undef)] (fun v28_10 w =>
 oM Tryz.prog (.binOp .sub 3 (.tmp 0) (.tmp 1) 3) 3 [(l_7.getD 1 undef), v28_10] (fun v29_11 w =>
 callM Tryz.prog 27 #[a0, v23_9, (l_7.getD 4 undef)] (fun v36_12 w =>
 callM Tryz.prog 28 #[a0, (l_7.getD 3 undef), v36_12] (fun v37_13 w =>
 J_5 [v23_9, (l_7.getD 2 undef), v29_11, (l_7.getD 4 undef), v37_13] w ∧ m_6 [v23_9, (l_7.getD 2 undef), v29_11, (l_7.getD 4 undef), v37_13] w < m_6 l_7 w0_l_7) w) w) w) w) w)
 (oM Tryz.prog (.binOp .neq 3 (.tmp 0) (.const (.int .i64 1)) 3) 4 [(l_7.getD 1 undef)] (fun v39_14 w =>
 condM v39_14
 (K (.tuple #[(.int .i64 0), (.bool false)]) w)
 (oM Tryz.prog (.binOp .rem 3 (.tmp 0) (.tmp 1) 3) 3 [(l_7.getD 3 undef), a0] (fun v42_15 w =>
 K (.tuple #[v42_15, (.bool true)]) w) w)) w)) w)) w0_l_7)) w) w)) w) w
theorem sh_172_eq (a0 : Value) (a1 : Value) (K : Value → World → Prop) (w : World) : sh_172 a0 a1 K w = code Tryz.prog (fun _ => 0) 43 (Tryz.f172.body.getD .skip) (slotsAt [a0, a1]) (retK Tryz.prog [.tmp 4, .tmp 5] K) w := by kernel_rfl
theorem sh_172_ok {a0 a1 : Value} {K : Value → World → Prop} {w : World} (h : sh_172 a0 a1 K w) : callM Tryz.prog 172 #[a0, a1] K w :=
  calls_of_code (fun _ => 0) (fn := Tryz.f172) (rs := [.tmp 4, .tmp 5]) Tryz.func172 rfl rfl (by kernel_rfl) (Nat.le_of_ble_eq_true rfl) ((sh_172_eq a0 a1 K w).mp h)
def sh_174 (a0 : Value) (a1 : Value) (K : Value → World → Prop) (w : World) : Prop :=
 oM Tryz.prog (.box 30 (.tmp 0)) 0 [a0] (fun v2_1 w =>
 oM Tryz.prog (.binOp .geq 3 (.tmp 0) (.tmp 1) 3) 4 [a1, (.int .i64 1)] (fun v6_2 w =>
 gdM (gd v6_2 true) (pureM a1) (fun v8_3 w =>
 gdM (gd v6_2 true) (oM Tryz.prog (.fieldAddr 30 (.tmp 0) 0) 0 [v2_1]) (fun v9_4 w =>
 gdM (gd v6_2 true) (oM Tryz.prog (.load 3 (.tmp 0)) 3 [v9_4]) (fun v10_5 w =>
 gdM (gd v6_2 true) (oM Tryz.prog (.binOp .lss 3 (.tmp 0) (.tmp 1) 3) 4 [v8_3, v10_5]) (fun v11_6 w =>
 oM Tryz.prog (.pick (.tmp 0) (.tmp 1) (.tmp 2)) 4 [v6_2, v11_6, (.bool false)] (fun v12_7 w =>
 gdM (gd v12_7 true) (oM Tryz.prog (.load 30 (.tmp 0)) 30 [v2_1]) (fun v14_8 w =>
 gdM (gd v12_7 true) (callM Tryz.prog 131 #[v14_8]) (fun v15_9 w =>
 oM Tryz.prog (.pick (.tmp 0) (.tmp 1) (.tmp 2)) 4 [v12_7, v15_9, (.bool false)] (fun v16_10 w =>
 gdM (gd v16_10 true) (oM Tryz.prog (.fieldAddr 30 (.tmp 0) 0) 0 [v2_1]) (fun v18_11 w =>
 gdM (gd v16_10 true) (oM Tryz.prog (.load 3 (.tmp 0)) 3 [v18_11]) (fun v19_12 w =>
 gdM (gd v16_10 true) (pureM a1) (fun v20_13 w =>
 gdM (gd v16_10 true) (oM Tryz.prog (.fieldAddr 30 (.tmp 0) 1) 0 [v2_1]) (fun v21_14 w =>
 gdM (gd v16_10 true) (oM Tryz.prog (.load 3 (.tmp 0)) 3 [v21_14]) (fun v22_15 w =>
 gdM (gd v16_10 true) (callM Tryz.prog 127 #[v19_12, v20_13, v22_15]) (fun v23_16 w =>
 gdM (gd v16_10 true) (oM Tryz.prog (.binOp .eql 3 (.tmp 0) (.const (.int .i64 1)) 3) 4 [v23_16]) (fun v24_17 w =>
 oM Tryz.prog (.pick (.tmp 0) (.tmp 1) (.tmp 2)) 4 [v16_10, v24_17, (.bool false)] (fun v25_18 w =>
 K v25_18 w) w) w) w) w) w) w) w) w) w) w) w) w) w) w) w) w) w) w
theorem sh_174_eq (a0 : Value) (a1 : Value) (K : Value → World → Prop) (w : World) : sh_174 a0 a1 K w = code Tryz.prog (fun _ => 0) 26 (Tryz.f174.body.getD .skip) (slotsAt [a0, a1]) (retK Tryz.prog [.tmp 4] K) w := by kernel_rfl
theorem sh_174_ok {a0 a1 : Value} {K : Value → World → Prop} {w : World} (h : sh_174 a0 a1 K w) : callM Tryz.prog 174 #[a0, a1] K w :=
  calls_of_code (fun _ => 0) (fn := Tryz.f174) (rs := [.tmp 4]) Tryz.func174 rfl rfl (by kernel_rfl) (Nat.le_of_ble_eq_true rfl) ((sh_174_eq a0 a1 K w).mp h)
def sh_179 (a0 : Value) (K : Value → World → Prop) (w : World) : Prop :=
 oM Tryz.prog (.binOp .lss 3 (.tmp 0) (.tmp 1) 3) 4 [a0, (.int .i64 2)] (fun v9_1 w =>
 gdM (gd v9_1 false) (pureM a0) (fun v11_2 w =>
 gdM (gd v9_1 false) (oM Tryz.prog (.binOp .geq 3 (.tmp 0) (.tmp 1) 3) 4 [v11_2, (.int .i64 2305843009213693952)]) (fun v12_3 w =>
 oM Tryz.prog (.pick (.tmp 0) (.tmp 1) (.tmp 2)) 4 [v9_1, (.bool true), v12_3] (fun v13_4 w =>
 condM v13_4
 (K (.bool false) w)
 (oM Tryz.prog (.build 220 #[(0, (.tmp 0)), (1, (.tmp 1)), (2, (.tmp 2)), (3, (.tmp 3)), (4, (.tmp 4)), (5, (.tmp 5)), (6, (.tmp 6)), (7, (.tmp 7)), (8, (.tmp 8)), (9, (.tmp 9)), (10, (.tmp 10)), (11, (.tmp 11))]) 220 [(.int .i64 2), (.int .i64 3), (.int .i64 5), (.int .i64 7), (.int .i64 11), (.int .i64 13), (.int .i64 17), (.int .i64 19), (.int .i64 23), (.int .i64 29), (.int .i64 31), (.int .i64 37)] (fun v14_5 w =>
 oM Tryz.prog (.alloc 220) 0 [] (fun v3_6 w =>
 oM Tryz.prog (.store 220 (.tmp 0) (.tmp 1)) 0 [v3_6, v14_5] (fun _ w =>
 oM Tryz.prog (.load 220 (.tmp 0)) 220 [v3_6] (fun v15_7 w =>
 loopM [undef, (.bool false), (.int .i64 0)] w (fun J_8 m_9 l_10 u_l_10 w0_l_10 => (fun w => (
 oM Tryz.prog (.binOp .lss 3 (.tmp 0) (.tmp 1) 3) 0 [(l_10.getD 2 undef), (.int .i64 12)] (fun v17_11 w =>
 condM v17_11
 (oM Tryz.prog (.index 220 (.tmp 0) (.tmp 1)) 3 [v15_7, (l_10.getD 2 undef)] (fun v18_12 w =>
 oM Tryz.prog (.binOp .rem 3 (.tmp 0) (.tmp 1) 3) 3 [a0, v18_12] (fun v21_13 w =>
 oM Tryz.prog (.binOp .eql 3 (.tmp 0) (.const (.int .i64 0)) 3) 4 [v21_13] (fun v22_14 w =>
 condM v22_14
 (oM Tryz.prog (.binOp .eql 3 (.tmp 0) (.tmp 1) 3) 4 [a0, v18_12] (fun v25_15 w =>
 K v25_15 w) w)
 (oM Tryz.prog (.binOp .add 3 (.tmp 0) (.tmp 1) 3) 3 [(l_10.getD 2 undef), (.int .i64 1)] (fun v26_16 w =>
 J_8 [v18_12, (l_10.getD 1 undef), v26_16] w ∧ m_9 [v18_12, (l_10.getD 1 undef), v26_16] w < m_9 l_10 w0_l_10) w)) w) w) w)
 (oM Tryz.prog (.load 220 (.tmp 0)) 220 [v3_6] (fun v27_17 w =>
 loopM [undef, (l_10.getD 1 undef), (.int .i64 0)] w (fun J_18 m_19 l_20 u_l_20 w0_l_20 => (fun w => (
 oM Tryz.prog (.binOp .lss 3 (.tmp 0) (.tmp 1) 3) 0 [(l_20.getD 2 undef), (.int .i64 12)] (fun v29_21 w =>
 condM v29_21
 (oM Tryz.prog (.index 220 (.tmp 0) (.tmp 1)) 3 [v27_17, (l_20.getD 2 undef)] (fun v30_22 w =>
 oM Tryz.prog (.convert 3 139 (.tmp 0)) 139 [v30_22] (fun v33_23 w =>
 callM Tryz.prog 202 #[a0, v33_23] (fun v34_24 w =>
 condM v34_24
 (K (.bool false) w)
 (oM Tryz.prog (.binOp .add 3 (.tmp 0) (.tmp 1) 3) 3 [(l_20.getD 2 undef), (.int .i64 1)] (fun v35_25 w =>
 J_18 [v30_22, (l_20.getD 1 undef), v35_25] w ∧ m_19 [v30_22, (l_20.getD 1 undef), v35_25] w < m_19 l_20 w0_l_20) w)) w) w) w)
 (K (.bool true) w)) w)) w0_l_20)) w)) w)) w0_l_10)) w) w) w) w)) w) w) w) w
theorem sh_179_eq (a0 : Value) (K : Value → World → Prop) (w : World) : sh_179 a0 K w = code Tryz.prog (fun _ => 0) 36 (Tryz.f179.body.getD .skip) (slotsAt [a0]) (retK Tryz.prog [.tmp 2] K) w := by kernel_rfl
theorem sh_179_ok {a0 : Value} {K : Value → World → Prop} {w : World} (h : sh_179 a0 K w) : callM Tryz.prog 179 #[a0] K w :=
  calls_of_code (fun _ => 0) (fn := Tryz.f179) (rs := [.tmp 2]) Tryz.func179 rfl rfl (by kernel_rfl) (Nat.le_of_ble_eq_true rfl) ((sh_179_eq a0 K w).mp h)
def sh_183 (a0 : Value) (a1 : Value) (a2 : Value) (K : Value → World → Prop) (w : World) : Prop :=
 joinM (fun M_1 => (oM Tryz.prog (.binOp .eql 139 (.tmp 0) (.const (.int .u64 0)) 139) 4 [a2] (fun v20_3 w =>
 condM v20_3
 (oM Tryz.prog (.load 211 (.tmp 0)) 211 [(.pointer (some ⟨0, 0, none⟩))] (fun v21_4 w =>
 oM Tryz.prog (.panic (.tmp 0)) 0 [v21_4] (fun _ w =>
 M_1 [] w) w) w)
 (M_1 [] w)) w))
 (fun l_2 u_l_2 w => (joinM (fun M_5 => (oM Tryz.prog (.binOp .leq 139 (.tmp 0) (.tmp 1) 139) 4 [a2, a0] (fun v24_7 w =>
 condM v24_7
 (oM Tryz.prog (.load 211 (.tmp 0)) 211 [(.pointer (some ⟨1, 0, none⟩))] (fun v25_8 w =>
 oM Tryz.prog (.panic (.tmp 0)) 0 [v25_8] (fun _ w =>
 M_5 [] w) w) w)
 (M_5 [] w)) w))
 (fun l_6 u_l_6 w => (oM Tryz.prog (.binOp .eql 139 (.tmp 0) (.const (.int .u64 0)) 139) 4 [a0] (fun v27_9 w =>
 condM v27_9
 (quietM w (fun C_10 => (oQ Tryz.prog (.binOp .quo 139 (.tmp 0) (.tmp 1) 139) 139 [a1, a2] C_10 (fun v30_11 =>
 oQ Tryz.prog (.binOp .rem 139 (.tmp 0) (.tmp 1) 139) 139 [a1, a2] C_10 (fun v33_12 =>
 ∀ w, C_10 w → (K (.tuple #[v30_11, v33_12]) w))))))
 (callM Tryz.prog 204 #[a2] (fun v35_13 w =>
 oM Tryz.prog (.convert 3 174 (.tmp 0)) 174 [v35_13] (fun v36_14 w =>
 oM Tryz.prog (.binOp .shl 139 (.tmp 0) (.tmp 1) 174) 139 [a2, v36_14] (fun v39_15 w =>
 oM Tryz.prog (.binOp .shr 139 (.tmp 0) (.tmp 1) 174) 139 [v39_15, (.int .u64 32)] (fun v41_16 w =>
 oM Tryz.prog (.binOp .and 139 (.tmp 0) (.tmp 1) 139) 139 [v39_15, (.int .u64 4294967295)] (fun v43_17 w =>
 oM Tryz.prog (.binOp .shl 139 (.tmp 0) (.tmp 1) 174) 139 [a0, v36_14] (fun v46_18 w =>
 oM Tryz.prog (.binOp .sub 174 (.tmp 0) (.tmp 1) 174) 174 [(.int .u64 64), v36_14] (fun v49_19 w =>
 oM Tryz.prog (.binOp .shr 139 (.tmp 0) (.tmp 1) 174) 139 [a1, v49_19] (fun v50_20 w =>
 oM Tryz.prog (.binOp .or 139 (.tmp 0) (.tmp 1) 139) 139 [v46_18, v50_20] (fun v51_21 w =>
 oM Tryz.prog (.binOp .shl 139 (.tmp 0) (.tmp 1) 174) 139 [a1, v36_14] (fun v54_22 w =>
 oM Tryz.prog (.binOp .shr 139 (.tmp 0) (.tmp 1) 174) 139 [v54_22, (.int .u64 32)] (fun v56_23 w =>
 oM Tryz.prog (.binOp .and 139 (.tmp 0) (.tmp 1) 139) 139 [v54_22, (.int .u64 4294967295)] (fun v58_24 w =>
 oM Tryz.prog (.binOp .quo 139 (.tmp 0) (.tmp 1) 139) 139 [v51_21, v41_16] (fun v61_25 w =>
 oM Tryz.prog (.binOp .mul 139 (.tmp 0) (.tmp 1) 139) 139 [v61_25, v41_16] (fun v65_26 w =>
 oM Tryz.prog (.binOp .sub 139 (.tmp 0) (.tmp 1) 139) 139 [v51_21, v65_26] (fun v66_27 w =>
 joinM (fun M_28 => (loopM [v61_25, v66_27] w (fun J_30 m_31 l_32 u_l_32 w0_l_32 => (fun w => (
 oM Tryz.prog (.binOp .geq 139 (.tmp 0) (.tmp 1) 139) 4 [(l_32.getD 0 undef), (.int .u64 4294967296)] (fun v68_33 w =>
 gdM (gd v68_33 false) (pureM (l_32.getD 0 undef)) (fun v70_34 w =>
 gdM (gd v68_33 false) (pureM v43_17) (fun v71_35 w =>
 gdM (gd v68_33 false) (oM Tryz.prog (.binOp .mul 139 (.tmp 0) (.tmp 1) 139) 139 [v70_34, v71_35]) (fun v72_36 w =>
 gdM (gd v68_33 false) (pureM (l_32.getD 1 undef)) (fun v73_37 w =>
 gdM (gd v68_33 false) (oM Tryz.prog (.binOp .mul 139 (.tmp 0) (.tmp 1) 139) 139 [(.int .u64 4294967296), v73_37]) (fun v74_38 w =>
 gdM (gd v68_33 false) (pureM v56_23) (fun v75_39 w =>
 gdM (gd v68_33 false) (oM Tryz.prog (.binOp .add 139 (.tmp 0) (.tmp 1) 139) 139 [v74_38, v75_39]) (fun v76_40 w =>
 gdM (gd v68_33 false) (oM Tryz.prog (.binOp .gtr 139 (.tmp 0) (.tmp 1) 139) 4 [v72_36, v76_40]) (fun v77_41 w =>
 oM Tryz.prog (.pick (.tmp 0) (.tmp 1) (.tmp 2)) 4 [v68_33, (.bool true), v77_41] (fun v78_42 w =>
 condM v78_42
 (oM Tryz.prog (.binOp .sub 139 (.tmp 0) (.tmp 1) 139) 139 [(l_32.getD 0 undef), (.int .u64 1)] (fun v80_43 w =>
 oM Tryz.prog (.binOp .add 139 (.tmp 0) (.tmp 1) 139) 139 [(l_32.getD 1 undef), v41_16] (fun v83_44 w =>
 oM Tryz.prog (.binOp .geq 139 (.tmp 0) (.tmp 1) 139) 4 [v83_44, (.int .u64 4294967296)] (fun v85_45 w =>
 condM v85_45
 (M_28 [v80_43, v83_44] w)
 (J_30 [v80_43, v83_44] w ∧ m_31 [v80_43, v83_44] w < m_31 l_32 w0_l_32)) w) w) w)
 (M_28 [(l_32.getD 0 undef), (l_32.getD 1 undef)] w)) w) w) w) w) w) w) w) w) w) w)) w0_l_32)))
 (fun l_29 u_l_29 w => (oM Tryz.prog (.binOp .mul 139 (.tmp 0) (.tmp 1) 139) 139 [v51_21, (.int .u64 4294967296)] (fun v87_46 w =>
 oM Tryz.prog (.binOp .add 139 (.tmp 0) (.tmp 1) 139) 139 [v87_46, v56_23] (fun v89_47 w =>
 oM Tryz.prog (.binOp .mul 139 (.tmp 0) (.tmp 1) 139) 139 [(l_29.getD 0 undef), v39_15] (fun v92_48 w =>
 oM Tryz.prog (.binOp .sub 139 (.tmp 0) (.tmp 1) 139) 139 [v89_47, v92_48] (fun v93_49 w =>
 oM Tryz.prog (.binOp .quo 139 (.tmp 0) (.tmp 1) 139) 139 [v93_49, v41_16] (fun v96_50 w =>
 oM Tryz.prog (.binOp .mul 139 (.tmp 0) (.tmp 1) 139) 139 [v96_50, v41_16] (fun v100_51 w =>
 oM Tryz.prog (.binOp .sub 139 (.tmp 0) (.tmp 1) 139) 139 [v93_49, v100_51] (fun v101_52 w =>
 joinM (fun M_53 => (loopM [v96_50, v101_52] w (fun J_55 m_56 l_57 u_l_57 w0_l_57 => (fun w => (
 oM Tryz.prog (.binOp .geq 139 (.tmp 0) (.tmp 1) 139) 4 [(l_57.getD 0 undef), (.int .u64 4294967296)] (fun v103_58 w =>
 gdM (gd v103_58 false) (pureM (l_57.getD 0 undef)) (fun v105_59 w =>
 gdM (gd v103_58 false) (pureM v43_17) (fun v106_60 w =>
 gdM (gd v103_58 false) (oM Tryz.prog (.binOp .mul 139 (.tmp 0) (.tmp 1) 139) 139 [v105_59, v106_60]) (fun v107_61 w =>
 gdM (gd v103_58 false) (pureM (l_57.getD 1 undef)) (fun v108_62 w =>
 gdM (gd v103_58 false) (oM Tryz.prog (.binOp .mul 139 (.tmp 0) (.tmp 1) 139) 139 [(.int .u64 4294967296), v108_62]) (fun v109_63 w =>
 gdM (gd v103_58 false) (pureM v58_24) (fun v110_64 w =>
 gdM (gd v103_58 false) (oM Tryz.prog (.binOp .add 139 (.tmp 0) (.tmp 1) 139) 139 [v109_63, v110_64]) (fun v111_65 w =>
 gdM (gd v103_58 false) (oM Tryz.prog (.binOp .gtr 139 (.tmp 0) (.tmp 1) 139) 4 [v107_61, v111_65]) (fun v112_66 w =>
 oM Tryz.prog (.pick (.tmp 0) (.tmp 1) (.tmp 2)) 4 [v103_58, (.bool true), v112_66] (fun v113_67 w =>
 condM v113_67
 (oM Tryz.prog (.binOp .sub 139 (.tmp 0) (.tmp 1) 139) 139 [(l_57.getD 0 undef), (.int .u64 1)] (fun v115_68 w =>
 oM Tryz.prog (.binOp .add 139 (.tmp 0) (.tmp 1) 139) 139 [(l_57.getD 1 undef), v41_16] (fun v118_69 w =>
 oM Tryz.prog (.binOp .geq 139 (.tmp 0) (.tmp 1) 139) 4 [v118_69, (.int .u64 4294967296)] (fun v120_70 w =>
 condM v120_70
 (M_53 [v115_68, v118_69] w)
 (J_55 [v115_68, v118_69] w ∧ m_56 [v115_68, v118_69] w < m_56 l_57 w0_l_57)) w) w) w)
 (M_53 [(l_57.getD 0 undef), (l_57.getD 1 undef)] w)) w) w) w) w) w) w) w) w) w) w)) w0_l_57)))
 (fun l_54 u_l_54 w => (oM Tryz.prog (.binOp .mul 139 (.tmp 0) (.tmp 1) 139) 139 [(l_29.getD 0 undef), (.int .u64 4294967296)] (fun v122_71 w =>
 oM Tryz.prog (.binOp .add 139 (.tmp 0) (.tmp 1) 139) 139 [v122_71, (l_54.getD 0 undef)] (fun v124_72 w =>
 oM Tryz.prog (.binOp .mul 139 (.tmp 0) (.tmp 1) 139) 139 [v93_49, (.int .u64 4294967296)] (fun v126_73 w =>
 oM Tryz.prog (.binOp .add 139 (.tmp 0) (.tmp 1) 139) 139 [v126_73, v58_24] (fun v128_74 w =>
 oM Tryz.prog (.binOp .mul 139 (.tmp 0) (.tmp 1) 139) 139 [(l_54.getD 0 undef), v39_15] (fun v131_75 w =>
 oM Tryz.prog (.binOp .sub 139 (.tmp 0) (.tmp 1) 139) 139 [v128_74, v131_75] (fun v132_76 w =>
 oM Tryz.prog (.binOp .shr 139 (.tmp 0) (.tmp 1) 174) 139 [v132_76, v36_14] (fun v134_77 w =>
 K (.tuple #[v124_72, v134_77]) w) w) w) w) w) w) w) w))) w) w) w) w) w) w) w))) w) w) w) w) w) w) w) w) w) w) w) w) w) w) w)) w))))
theorem sh_183_eq (a0 : Value) (a1 : Value) (a2 : Value) (K : Value → World → Prop) (w : World) : sh_183 a0 a1 a2 K w = code Tryz.prog (fun _ => 0) 135 (Tryz.f183.body.getD .skip) (slotsAt [a0, a1, a2]) (retK Tryz.prog [.tmp 6, .tmp 7] K) w := by kernel_rfl
theorem sh_183_ok {a0 a1 a2 : Value} {K : Value → World → Prop} {w : World} (h : sh_183 a0 a1 a2 K w) : callM Tryz.prog 183 #[a0, a1, a2] K w :=
  calls_of_code (fun _ => 0) (fn := Tryz.f183) (rs := [.tmp 6, .tmp 7]) Tryz.func183 rfl rfl (by kernel_rfl) (Nat.le_of_ble_eq_true rfl) ((sh_183_eq a0 a1 a2 K w).mp h)
def sh_202 (a0 : Value) (a1 : Value) (K : Value → World → Prop) (w : World) : Prop :=
 oM Tryz.prog (.binOp .sub 3 (.tmp 0) (.tmp 1) 3) 3 [a0, (.int .i64 1)] (fun v8_1 w =>
 oM Tryz.prog (.convert 3 139 (.tmp 0)) 139 [v8_1] (fun v9_2 w =>
 callM Tryz.prog 220 #[v9_2] (fun v10_3 w =>
 oM Tryz.prog (.binOp .sub 3 (.tmp 0) (.tmp 1) 3) 3 [a0, (.int .i64 1)] (fun v14_4 w =>
 oM Tryz.prog (.convert 3 139 (.tmp 0)) 139 [v14_4] (fun v15_5 w =>
 oM Tryz.prog (.binOp .shr 139 (.tmp 0) (.tmp 1) 3) 139 [v15_5, v10_3] (fun v17_6 w =>
 callM Tryz.prog 83 #[a0, a1, v17_6] (fun v18_7 w =>
 oM Tryz.prog (.binOp .eql 139 (.tmp 0) (.const (.int .u64 1)) 139) 4 [v18_7] (fun v20_8 w =>
 condM v20_8
 (K (.bool false) w)
 (loopM [(.bool false), v18_7, (.int .i64 0)] w (fun J_9 m_10 l_11 u_l_11 w0_l_11 => (fun w => (
 oM Tryz.prog (.binOp .lss 3 (.tmp 0) (.tmp 1) 3) 4 [(l_11.getD 2 undef), v10_3] (fun v23_12 w =>
 condM v23_12
 (oM Tryz.prog (.binOp .sub 3 (.tmp 0) (.tmp 1) 3) 3 [a0, (.int .i64 1)] (fun v26_13 w =>
 oM Tryz.prog (.convert 3 139 (.tmp 0)) 139 [v26_13] (fun v27_14 w =>
 oM Tryz.prog (.binOp .eql 139 (.tmp 0) (.tmp 1) 139) 4 [(l_11.getD 1 undef), v27_14] (fun v28_15 w =>
 condM v28_15
 (K (.bool false) w)
 (callM Tryz.prog 86 #[a0, (l_11.getD 1 undef), (l_11.getD 1 undef)] (fun v32_16 w =>
 oM Tryz.prog (.binOp .add 3 (.tmp 0) (.tmp 1) 3) 3 [(l_11.getD 2 undef), (.int .i64 1)] (fun v33_17 w =>
 J_9 [(l_11.getD 0 undef), v32_16, v33_17] w ∧ m_10 [(l_11.getD 0 undef), v32_16, v33_17] w < m_10 l_11 w0_l_11) w) w)) w) w) w)
 (K (.bool true) w)) w)) w0_l_11))) w) w) w) w) w) w) w) w
theorem sh_202_eq (a0 : Value) (a1 : Value) (K : Value → World → Prop) (w : World) : sh_202 a0 a1 K w = code Tryz.prog (fun _ => 0) 34 (Tryz.f202.body.getD .skip) (slotsAt [a0, a1]) (retK Tryz.prog [.tmp 4] K) w := by kernel_rfl
theorem sh_202_ok {a0 a1 : Value} {K : Value → World → Prop} {w : World} (h : sh_202 a0 a1 K w) : callM Tryz.prog 202 #[a0, a1] K w :=
  calls_of_code (fun _ => 0) (fn := Tryz.f202) (rs := [.tmp 4]) Tryz.func202 rfl rfl (by kernel_rfl) (Nat.le_of_ble_eq_true rfl) ((sh_202_eq a0 a1 K w).mp h)
def sh_204 (a0 : Value) (K : Value → World → Prop) (w : World) : Prop :=
 callM Tryz.prog 222 #[a0] (fun v4_1 w =>
 oM Tryz.prog (.binOp .sub 3 (.tmp 0) (.tmp 1) 3) 3 [(.int .i64 64), v4_1] (fun v5_2 w =>
 K v5_2 w) w) w
theorem sh_204_eq (a0 : Value) (K : Value → World → Prop) (w : World) : sh_204 a0 K w = code Tryz.prog (fun _ => 0) 6 (Tryz.f204.body.getD .skip) (slotsAt [a0]) (retK Tryz.prog [.tmp 2] K) w := by kernel_rfl
theorem sh_204_ok {a0 : Value} {K : Value → World → Prop} {w : World} (h : sh_204 a0 K w) : callM Tryz.prog 204 #[a0] K w :=
  calls_of_code (fun _ => 0) (fn := Tryz.f204) (rs := [.tmp 2]) Tryz.func204 rfl rfl (by kernel_rfl) (Nat.le_of_ble_eq_true rfl) ((sh_204_eq a0 K w).mp h)
def sh_220 (a0 : Value) (K : Value → World → Prop) (w : World) : Prop :=
 oM Tryz.prog (.binOp .eql 139 (.tmp 0) (.const (.int .u64 0)) 139) 4 [a0] (fun v4_1 w =>
 condM v4_1
 (K (.int .i64 64) w)
 (oM Tryz.prog (.unOp .neg 139 (.tmp 0)) 139 [a0] (fun v7_2 w =>
 oM Tryz.prog (.binOp .and 139 (.tmp 0) (.tmp 1) 139) 139 [a0, v7_2] (fun v8_3 w =>
 oM Tryz.prog (.binOp .mul 139 (.tmp 0) (.tmp 1) 139) 139 [v8_3, (.int .u64 285870213051353865)] (fun v9_4 w =>
 oM Tryz.prog (.binOp .shr 139 (.tmp 0) (.tmp 1) 174) 139 [v9_4, (.int .u64 58)] (fun v10_5 w =>
 oM Tryz.prog (.indexAddr 243 (.tmp 0) (.tmp 1)) 0 [(.pointer (some ⟨2, 0, none⟩)), v10_5] (fun v11_6 w =>
 oM Tryz.prog (.load 5 (.tmp 0)) 5 [v11_6] (fun v12_7 w =>
 oM Tryz.prog (.convert 5 3 (.tmp 0)) 3 [v12_7] (fun v13_8 w =>
 K v13_8 w) w) w) w) w) w) w) w)) w
theorem sh_220_eq (a0 : Value) (K : Value → World → Prop) (w : World) : sh_220 a0 K w = code Tryz.prog (fun _ => 0) 14 (Tryz.f220.body.getD .skip) (slotsAt [a0]) (retK Tryz.prog [.tmp 2] K) w := by kernel_rfl
theorem sh_220_ok {a0 : Value} {K : Value → World → Prop} {w : World} (h : sh_220 a0 K w) : callM Tryz.prog 220 #[a0] K w :=
  calls_of_code (fun _ => 0) (fn := Tryz.f220) (rs := [.tmp 2]) Tryz.func220 rfl rfl (by kernel_rfl) (Nat.le_of_ble_eq_true rfl) ((sh_220_eq a0 K w).mp h)
def sh_222 (a0 : Value) (K : Value → World → Prop) (w : World) : Prop :=
 joinM (fun M_1 => (oM Tryz.prog (.binOp .geq 139 (.tmp 0) (.tmp 1) 139) 4 [a0, (.int .u64 4294967296)] (fun v4_3 w =>
 condM v4_3
 (oM Tryz.prog (.binOp .shr 139 (.tmp 0) (.tmp 1) 174) 139 [a0, (.int .u64 32)] (fun v6_4 w =>
 M_1 [v6_4, (.int .i64 32)] w) w)
 (M_1 [a0, (.int .i64 0)] w)) w))
 (fun l_2 u_l_2 w => (joinM (fun M_5 => (oM Tryz.prog (.binOp .geq 139 (.tmp 0) (.tmp 1) 139) 4 [(l_2.getD 0 undef), (.int .u64 65536)] (fun v8_7 w =>
 condM v8_7
 (oM Tryz.prog (.binOp .shr 139 (.tmp 0) (.tmp 1) 174) 139 [(l_2.getD 0 undef), (.int .u64 16)] (fun v10_8 w =>
 oM Tryz.prog (.binOp .add 3 (.tmp 0) (.tmp 1) 3) 3 [(l_2.getD 1 undef), (.int .i64 16)] (fun v12_9 w =>
 M_5 [v10_8, v12_9] w) w) w)
 (M_5 [(l_2.getD 0 undef), (l_2.getD 1 undef)] w)) w))
 (fun l_6 u_l_6 w => (joinM (fun M_10 => (oM Tryz.prog (.binOp .geq 139 (.tmp 0) (.tmp 1) 139) 4 [(l_6.getD 0 undef), (.int .u64 256)] (fun v14_12 w =>
 condM v14_12
 (oM Tryz.prog (.binOp .shr 139 (.tmp 0) (.tmp 1) 174) 139 [(l_6.getD 0 undef), (.int .u64 8)] (fun v16_13 w =>
 oM Tryz.prog (.binOp .add 3 (.tmp 0) (.tmp 1) 3) 3 [(l_6.getD 1 undef), (.int .i64 8)] (fun v18_14 w =>
 M_10 [v16_13, v18_14] w) w) w)
 (M_10 [(l_6.getD 0 undef), (l_6.getD 1 undef)] w)) w))
 (fun l_11 u_l_11 w => (oM Tryz.prog (.convert 139 5 (.tmp 0)) 5 [(l_11.getD 0 undef)] (fun v21_15 w =>
 oM Tryz.prog (.index 9 (.tmp 0) (.tmp 1)) 5 [(.string ⟨#[0, 1, 2, 2, 3, 3, 3, 3, 4, 4, 4, 4, 4, 4, 4, 4, 5, 5, 5, 5, 5, 5, 5, 5, 5, 5, 5, 5, 5, 5, 5, 5, 6, 6, 6, 6, 6, 6, 6, 6, 6, 6, 6, 6, 6, 6, 6, 6, 6, 6, 6, 6, 6, 6, 6, 6, 6, 6, 6, 6, 6, 6, 6, 6, 7, 7, 7, 7, 7, 7, 7, 7, 7, 7, 7, 7, 7, 7, 7, 7, 7, 7, 7, 7, 7, 7, 7, 7, 7, 7, 7, 7, 7, 7, 7, 7, 7, 7, 7, 7, 7, 7, 7, 7, 7, 7, 7, 7, 7, 7, 7, 7, 7, 7, 7, 7, 7, 7, 7, 7, 7, 7, 7, 7, 7, 7, 7, 7, 8, 8, 8, 8, 8, 8, 8, 8, 8, 8, 8, 8, 8, 8, 8, 8, 8, 8, 8, 8, 8, 8, 8, 8, 8, 8, 8, 8, 8, 8, 8, 8, 8, 8, 8, 8, 8, 8, 8, 8, 8, 8, 8, 8, 8, 8, 8, 8, 8, 8, 8, 8, 8, 8, 8, 8, 8, 8, 8, 8, 8, 8, 8, 8, 8, 8, 8, 8, 8, 8, 8, 8, 8, 8, 8, 8, 8, 8, 8, 8, 8, 8, 8, 8, 8, 8, 8, 8, 8, 8, 8, 8, 8, 8, 8, 8, 8, 8, 8, 8, 8, 8, 8, 8, 8, 8, 8, 8, 8, 8, 8, 8, 8, 8, 8, 8, 8, 8, 8, 8, 8, 8, 8, 8, 8, 8, 8, 8]⟩), v21_15] (fun v22_16 w =>
 oM Tryz.prog (.convert 5 3 (.tmp 0)) 3 [v22_16] (fun v23_17 w =>
 oM Tryz.prog (.binOp .add 3 (.tmp 0) (.tmp 1) 3) 3 [(l_11.getD 1 undef), v23_17] (fun v24_18 w =>
 K v24_18 w) w) w) w) w))))))
theorem sh_222_eq (a0 : Value) (K : Value → World → Prop) (w : World) : sh_222 a0 K w = code Tryz.prog (fun _ => 0) 25 (Tryz.f222.body.getD .skip) (slotsAt [a0]) (retK Tryz.prog [.tmp 2] K) w := by kernel_rfl
theorem sh_222_ok {a0 : Value} {K : Value → World → Prop} {w : World} (h : sh_222 a0 K w) : callM Tryz.prog 222 #[a0] K w :=
  calls_of_code (fun _ => 0) (fn := Tryz.f222) (rs := [.tmp 2]) Tryz.func222 rfl rfl (by kernel_rfl) (Nat.le_of_ble_eq_true rfl) ((sh_222_eq a0 K w).mp h)
end Go.Proofs
namespace FdSpec
def okN (n : Int) : Prop := 1 ≤ n ∧ n < 2305843009213693952
instance (n : Int) : Decidable (okN n) := inferInstanceAs (Decidable (_ ∧ _))
def addM (n a b : Int) : Int := if okN n then (a + b) % n else 0
def subM (n a b : Int) : Int := if okN n then (a - b) % n else 0
def mulM (n a b : Int) : Int := if okN n then a * b % n else 0
def pw (n a : Int) (b : Nat) : Int := a ^ b % n
def euc (n : Int) : Nat → Int → Int → Int → Int → Int × Int
  | 0, r, _, x, _ => (r, x)
  | k + 1, r, s, x, y => if s = 0 then (r, x) else euc n k s (r % s) y (subM n x (mulM n (r / s) y))
def eucAll (n r s x y : Int) : Int × Int := euc n (s.toNat + 1) r s x y
def invM (n a : Int) : Option Int := if okN n then (if (eucAll n n (a % n) 0 1).1 = 1 then some ((eucAll n n (a % n) 0 1).2 % n) else none) else none
def powM (n a b : Int) : Int :=
  if okN n then (if 0 ≤ b then pw n a b.toNat else match invM n a with | some x => pw n x (-b).toNat | none => 0) else 0
theorem euc_zero (n : Int) (k : Nat) (r x y : Int) : euc n k r 0 x y = (r, x) := by
  cases k <;> simp [euc]
theorem euc_more (n : Int) (k : Nat) (r s x y : Int) (hs : 0 ≤ s) (hk : s.toNat + 1 ≤ k) : euc n k r s x y = eucAll n r s x y := by
  unfold eucAll
  induction k using Nat.strongRecOn generalizing r s x y with
  | _ k ih =>
    cases k with
    | zero => omega
    | succ k =>
      by_cases h0 : s = 0
      · subst h0; simp [euc]
      · have h1 := Int.emod_nonneg r h0
        have h2 := Int.emod_lt_of_pos r (b := s) (by omega)
        have e1 : euc n (k + 1) r s x y = euc n k s (r % s) y (subM n x (mulM n (r / s) y)) := by
          rw [euc, if_neg h0]
        have e2 : euc n (s.toNat + 1) r s x y = euc n s.toNat s (r % s) y (subM n x (mulM n (r / s) y)) := by
          rw [euc, if_neg h0]
        rw [e1, e2]
        have h3 : (r % s).toNat + 1 ≤ s.toNat := by omega
        rw [ih k (by omega) s (r % s) _ _ h1 (by omega)]
        by_cases hks : s.toNat = k
        · rw [hks, ih k (by omega) s (r % s) _ _ h1 (by omega)]
        · rw [ih s.toNat (by omega) s (r % s) _ _ h1 h3]
theorem euc_step (n r s x y : Int) (hs : 0 < s) : eucAll n r s x y = eucAll n s (r % s) y (subM n x (mulM n (r / s) y)) := by
  have h1 := Int.emod_nonneg r (b := s) (by omega)
  have h2 := Int.emod_lt_of_pos r (b := s) hs
  rw [← euc_more n s.toNat s (r % s) _ _ h1 (by omega)]
  unfold eucAll
  rw [euc, if_neg (by omega)]
def tz : Nat → Nat → Nat
  | 0, _ => 0
  | k + 1, m => if m % 2 = 0 then tz k (m / 2) + 1 else 0
def mrUp (n : Int) : Nat → Int → Bool
  | 0, _ => false
  | k + 1, x => if x = n - 1 then true else mrUp n k (x * x % n)
def passes (n b : Int) : Bool :=
  let k := tz 64 (n - 1).toNat
  let x := pw n b ((n - 1).toNat / 2 ^ k)
  if x = 1 then true else mrUp n k x
def smallP : List Int := [2, 3, 5, 7, 11, 13, 17, 19, 23, 29, 31, 37]
def primeM (n : Int) : Bool :=
  if n < 2 ∨ 2305843009213693952 ≤ n then false
  else match smallP.find? (fun p => decide (n % p = 0)) with
    | some p => decide (n = p)
    | none => smallP.all (fun p => passes n p)
structure Grp where
  P : Int
  Q : Int
  G : Int
deriving DecidableEq
def validG (g : Grp) : Bool :=
  if g.Q < 5 ∨ 1152921504606846976 ≤ g.Q ∨ g.P ≠ 2 * g.Q + 1 ∨ g.G < 2 ∨ g.P ≤ g.G then false
  else primeM g.Q && primeM g.P && decide (pw g.P g.G g.Q.toNat = 1)
def makeG (q : Int) : Grp × Bool :=
  if q < 5 ∨ 1152921504606846976 ≤ q then (⟨0, 0, 0⟩, false) else if validG ⟨2 * q + 1, q, 4⟩ then (⟨2 * q + 1, q, 4⟩, true) else (⟨0, 0, 0⟩, false)
def elemG (g : Grp) (x : Int) : Bool := decide (1 ≤ x) && decide (x < g.P) && validG g && decide (pw g.P x g.Q.toNat = 1)
def powerG (g : Grp) (x k : Int) : Int := if okN g.P ∧ okN g.Q then pw g.P x (k % g.Q).toNat else 0
def timesG (g : Grp) (a b : Int) : Int := if okN g.Q then mulM g.P a b else 0
def prodL (g : Grp) : Int → List (Int × Int) → Int
  | out, [] => out
  | out, (b, e) :: l => prodL g (mulM g.P out (powerG g b e)) l
def prodG (g : Grp) (bases exps : List Int) : Int × Bool :=
  if okN g.P ∧ okN g.Q ∧ bases.length = exps.length then (prodL g (1 % g.P) (bases.zip exps), true) else (0, false)
end FdSpec
namespace FdSpec
theorem emod_pow (a n : Int) (k : Nat) : (a % n) ^ k % n = a ^ k % n := by
  induction k with
  | zero => rw [Int.pow_zero, Int.pow_zero]
  | succ k ih => rw [Int.pow_succ, Int.pow_succ, Int.mul_emod, ih, Int.emod_emod_of_dvd a (Int.dvd_refl n), ← Int.mul_emod]
theorem pow_half (a : Int) (b : Nat) : a ^ b = (a * a) ^ (b / 2) * a ^ (b % 2) := by
  have h1 : b = 2 * (b / 2) + b % 2 := (Nat.div_add_mod b 2).symm
  have h2 : ∀ k, a ^ (2 * k) = (a * a) ^ k := by
    intro k
    induction k with
    | zero => rw [Nat.mul_zero, Int.pow_zero, Int.pow_zero]
    | succ k ih => rw [Nat.mul_succ, Int.pow_succ, Int.pow_succ, Int.pow_succ, ih, Int.mul_assoc]
  conv => lhs; rw [h1]
  rw [Int.pow_add, h2]
theorem pw_even (n a out : Int) (b : Nat) (hb : b % 2 = 0) : out * (a * a % n) ^ (b / 2) % n = out * a ^ b % n := by
  rw [pow_half a b, hb, Int.pow_zero, Int.mul_one, Int.mul_emod, emod_pow, ← Int.mul_emod]
theorem pw_odd (n a out : Int) (b : Nat) (hb : b % 2 = 1) : out * a % n * (a * a % n) ^ (b / 2) % n = out * a ^ b % n := by
  have e : a ^ (1 : Nat) = a := by rw [show (1 : Nat) = 0 + 1 from rfl, Int.pow_succ, Int.pow_zero, Int.one_mul]
  rw [pow_half a b, hb, e, Int.mul_emod, Int.emod_emod_of_dvd _ (Int.dvd_refl n), emod_pow, ← Int.mul_emod]
  congr 1
  rw [Int.mul_comm ((a * a) ^ (b / 2)) a, ← Int.mul_assoc]
theorem pw_emod (n a : Int) (b : Nat) : pw n (a % n) b = pw n a b := emod_pow a n b
theorem pw_nonneg (n a : Int) (b : Nat) (hn : 0 < n) : 0 ≤ pw n a b ∧ pw n a b < n := ⟨Int.emod_nonneg _ (by omega), Int.emod_lt_of_pos _ hn⟩
theorem tz_lt (k m : Nat) (hm : 0 < m) (h : m < 2 ^ k) : tz k m < k ∧ ∃ j, m = 2 ^ tz k m * (2 * j + 1) := by
  induction k generalizing m with
  | zero => omega
  | succ k ih =>
    unfold tz
    split
    · rename_i h2
      obtain ⟨h3, j, h4⟩ := ih (m / 2) (by omega) (by rw [Nat.pow_succ] at h; omega)
      refine ⟨by omega, j, ?_⟩
      have h5 : m = 2 * (m / 2) := by omega
      rw [Nat.pow_succ, Nat.mul_comm (2 ^ _) 2, Nat.mul_assoc, ← h4]
      exact h5
    · exact ⟨by omega, m / 2, by rw [Nat.pow_zero]; omega⟩
theorem addM_eq (n a b : Int) (hn : okN n) : (a % n + b % n) % n = addM n a b := by
  rw [addM, if_pos hn, ← Int.add_emod]
theorem subM_eq (n a b : Int) (hn : okN n) : (a % n + n - b % n) % n = subM n a b := by
  rw [subM, if_pos hn, Int.sub_emod, Int.add_emod, Int.emod_self, Int.add_zero, Int.emod_emod_of_dvd _ (Int.dvd_refl n), Int.emod_emod_of_dvd _ (Int.dvd_refl n), Int.emod_emod_of_dvd _ (Int.dvd_refl n), ← Int.sub_emod]
theorem mulM_eq (n a b : Int) (hn : okN n) : a % n * (b % n) % n = mulM n a b := by
  rw [mulM, if_pos hn, ← Int.mul_emod]
theorem mulM_range (n a b : Int) (hn : okN n) : 0 ≤ mulM n a b ∧ mulM n a b < n := by
  rw [mulM, if_pos hn]; exact ⟨Int.emod_nonneg _ (by have := hn.1; omega), Int.emod_lt_of_pos _ (by have := hn.1; omega)⟩
theorem subM_range (n a b : Int) (hn : okN n) : 0 ≤ subM n a b ∧ subM n a b < n := by
  rw [subM, if_pos hn]; exact ⟨Int.emod_nonneg _ (by have := hn.1; omega), Int.emod_lt_of_pos _ (by have := hn.1; omega)⟩
theorem addM_range (n a b : Int) (hn : okN n) : 0 ≤ addM n a b ∧ addM n a b < n := by
  rw [addM, if_pos hn]; exact ⟨Int.emod_nonneg _ (by have := hn.1; omega), Int.emod_lt_of_pos _ (by have := hn.1; omega)⟩
theorem residue_eq (n a : Int) (hn : 0 < n) : (if a.tmod n < 0 then a.tmod n + n else a.tmod n) = a % n := by
  have h1 := Int.emod_nonneg a (b := n) (by omega)
  have h2 := Int.emod_lt_of_pos a hn
  have h3 := Int.tmod_add_mul_tdiv a n
  have h4 := Int.emod_add_mul_ediv a n
  have h5 : a.tmod n < n := by have := Int.tmod_lt_of_pos a hn; omega
  have h6 : -n < a.tmod n := by
    have := Int.lt_tmod_of_pos a hn
    omega
  have h7 : n ∣ a.tmod n - a % n := by
    refine ⟨a / n - a.tdiv n, ?_⟩
    rw [Int.mul_sub]; omega
  obtain ⟨k, hk⟩ := h7
  have hk2 : k = 0 ∨ k = -1 ∨ 1 ≤ k ∨ k ≤ -2 := by omega
  rcases hk2 with rfl | rfl | hk2 | hk2
  · simp at hk; split <;> omega
  · rw [Int.mul_neg, Int.mul_one] at hk; split <;> omega
  · have := Int.mul_le_mul_of_nonneg_left hk2 (by omega : 0 ≤ n); omega
  · have := Int.mul_le_mul_of_nonneg_left hk2 (by omega : 0 ≤ n); omega
end FdSpec
namespace FdSpec
structure Digit (h l u d q r : Nat) : Prop where
  sum : q * h + r = u
  up : u * 4294967296 + d < (q + 1) * (h * 4294967296 + l)
  le : q ≤ 4294967297
section
variable {h l u d q r : Nat}
theorem digit_start (hh : 2147483648 ≤ h) (hh2 : h < 4294967296) (hl : l < 4294967296) (hd : d < 4294967296) (hu : u < h * 4294967296 + l) : Digit h l u d (u / h) (u - u / h * h) := by
  have h1 : u / h * h ≤ u := Nat.div_mul_le_self u h
  have h2 : u < (u / h + 1) * h := by rw [Nat.add_mul, Nat.one_mul]; have := Nat.mod_lt u (show h > 0 by omega); have := Nat.div_add_mod u h; rw [Nat.mul_comm] at this; omega
  have h3 : u / h < 4294967298 := by
    rw [Nat.div_lt_iff_lt_mul (by omega)]
    omega
  refine ⟨by omega, ?_, by omega⟩
  have h4 : (u + 1) * 4294967296 ≤ (u / h + 1) * h * 4294967296 := Nat.mul_le_mul_right _ h2
  have h5 : (u / h + 1) * (h * 4294967296 + l) = (u / h + 1) * h * 4294967296 + (u / h + 1) * l := by rw [Nat.mul_add, Nat.mul_assoc]
  rw [h5]
  omega
theorem digit_test (D : Digit h l u d q r) : (4294967296 * r + d < q * l) ↔ u * 4294967296 + d < q * (h * 4294967296 + l) := by
  have h5 : q * (h * 4294967296 + l) = q * h * 4294967296 + q * l := by rw [Nat.mul_add, Nat.mul_assoc]
  have := D.sum
  rw [h5]
  generalize q * h = a at *
  generalize q * l = b at *
  omega
theorem digit_big (hu : u < h * 4294967296 + l) (hd : d < 4294967296) (hq : 4294967296 ≤ q) : u * 4294967296 + d < q * (h * 4294967296 + l) := by
  have h1 : 4294967296 * (h * 4294967296 + l) ≤ q * (h * 4294967296 + l) := Nat.mul_le_mul_right _ hq
  have h2 : (u + 1) * 4294967296 ≤ (h * 4294967296 + l) * 4294967296 := Nat.mul_le_mul_right _ hu
  omega
theorem digit_pos (D : Digit h l u d q r) (ht : u * 4294967296 + d < q * (h * 4294967296 + l)) : 0 < q := by
  rcases Nat.eq_zero_or_pos q with rfl | h
  · simp at ht
  · exact h
theorem digit_step (D : Digit h l u d q r) (ht : u * 4294967296 + d < q * (h * 4294967296 + l)) : Digit h l u d (q - 1) (r + h) := by
  have hq := digit_pos D ht
  have := D.sum
  refine ⟨?_, ?_, by have := D.le; omega⟩
  · obtain ⟨p, rfl⟩ : ∃ p, q = p + 1 := ⟨q - 1, by omega⟩
    rw [Nat.add_mul] at this
    simp only [Nat.add_sub_cancel]
    omega
  · rw [show q - 1 + 1 = q by omega]; exact ht
theorem digit_end (D : Digit h l u d q r) (ht : ¬ u * 4294967296 + d < q * (h * 4294967296 + l)) : q = (u * 4294967296 + d) / (h * 4294967296 + l) :=
  (Nat.div_eq_of_lt_le (by omega) D.up).symm
theorem digit_break (D : Digit h l u d q r) (hl : l < 4294967296) (hq : q ≤ 4294967296) (hr : 4294967296 ≤ r) : ¬ u * 4294967296 + d < q * (h * 4294967296 + l) := by
  rw [← digit_test D]
  have h1 : q * l ≤ 4294967296 * 4294967295 := Nat.mul_le_mul hq (by omega)
  omega
end
theorem div_total (x y s : Nat) : x * 2 ^ s % (y * 2 ^ s) / 2 ^ s = x % y := by
  rw [Nat.mul_mod_mul_right, Nat.mul_div_cancel _ (Nat.pow_pos (by omega))]
theorem two_digits (N d y : Nat) : (N * 4294967296 + d) % y = ((N % y) * 4294967296 + d) % y := by
  have h : N * 4294967296 % y = N % y * 4294967296 % y := by simp
  rw [Nat.add_mod, h, ← Nat.add_mod]
theorem split32 (X D : Nat) : (X * 4294967296 + D / 4294967296) * 4294967296 + D % 4294967296 = X * 18446744073709551616 + D := by
  rw [Nat.add_mul, Nat.mul_assoc, Nat.add_assoc, Nat.mul_comm (D / 4294967296), Nat.div_add_mod]
theorem norm_gen (a c M y s : Nat) (h : a * 4294967296 + c = M * 2 ^ s) : (a % (y * 2 ^ s) * 4294967296 + c) % (y * 2 ^ s) / 2 ^ s = M % y := by
  have t := two_digits a c (y * 2 ^ s)
  have u := div_total M y s
  rw [h] at t
  rw [← t, u]
theorem norm_rest (hi lo y s X D : Nat) (hN : X * 18446744073709551616 + D = (hi * 18446744073709551616 + lo) * 2 ^ s) : (((X * 4294967296 + D / 4294967296) % (y * 2 ^ s)) * 4294967296 + D % 4294967296) % (y * 2 ^ s) / 2 ^ s = (hi * 18446744073709551616 + lo) % y := by
  rw [← split32 X D] at hN
  exact norm_gen _ _ _ y s hN
end FdSpec
namespace Go.Sh
open Go Go.RowKit
section
variable {P : Program} {K : Value → World → Prop} {w : World}
@[go_sem] theorem oM_lookup (t T : TypeId) (x i : Value) : oM P (.lookup t (.tmp 0) (.tmp 1) false) T [x, i] K w = rM ((Instr.lookup t x i false).run P w) K := rM_of rfl
@[go_sem] theorem oM_mapUpdate (t T : TypeId) (m k x : Value) : oM P (.mapUpdate t (.tmp 0) (.tmp 1) (.tmp 2)) T [m, k, x] K w = uM ((Instr.mapUpdate t m k x).run P w) K := by
  rw [oM_unit (S := Instr.mapUpdate t m k x) rfl]
@[go_sem] theorem oM_mapEntry (t T : TypeId) (m k : Value) : oM P (.mapEntry t (.tmp 0) (.tmp 1)) T [m, k] K w = rM ((Instr.mapEntry t m k).run P w) K := rM_of rfl
@[go_sem] theorem oM_entryStore (t T : TypeId) (m s x : Value) : oM P (.entryStore t (.tmp 0) (.tmp 1) (.tmp 2)) T [m, s, x] K w = uM ((Instr.entryStore t m s x).run P w) K := by
  rw [oM_unit (S := Instr.entryStore t m s x) rfl]
@[go_sem] theorem oM_makeMap (t T : TypeId) : oM P (.makeMap t none) T [] K w = K (.map (some w.heap.size)) (w.alloc (.map #[] 0)) := by
  rw [rM_of (S := Instr.makeMap t none) rfl, run_makeMap]
  rfl
@[go_sem] theorem oM_range (t T : TypeId) (x : Value) : oM P (.range t (.tmp 0)) T [x] K w = rM ((Instr.range t x).run P w) K := rM_of rfl
@[go_sem] theorem oM_next (T : TypeId) (s : Bool) (x : Value) : oM P (.next (.tmp 0) s) T [x] K w = rM ((Instr.next x s T).run P w) K := rM_of rfl
@[go_sem] theorem oM_entry (T : TypeId) (x : Value) : oM P (.entry (.tmp 0)) T [x] K w = rM ((Instr.entry x).run P w) K := rM_of rfl
@[go_sem] theorem oM_delete (T : TypeId) (ts : Array TypeId) (x y : Value) : oM P (.call { callee := .builtin .delete, args := #[.tmp 0, .tmp 1], argTypes := ts }) T [x, y] K w = rM ((Builtin.delete_ ts T #[x, y]).run P w) K :=
  rM_of (by simp [xop, execOp, evalL, evE, resolve, invoke, builtin])
@[go_sem] theorem oM_clear (T : TypeId) (ts : Array TypeId) (x : Value) : oM P (.call { callee := .builtin .clear, args := #[.tmp 0], argTypes := ts }) T [x] K w = rM ((Builtin.clear_ ts T #[x]).run P w) K :=
  rM_of (by simp [xop, execOp, evalL, evE, resolve, invoke, builtin])
@[go_sem] theorem oM_copy (T : TypeId) (ts : Array TypeId) (x y : Value) : oM P (.call { callee := .builtin .copy, args := #[.tmp 0, .tmp 1], argTypes := ts }) T [x, y] K w = rM ((Builtin.copy_ ts T #[x, y]).run P w) K :=
  rM_of (by simp [xop, execOp, evalL, evE, resolve, invoke, builtin])
theorem oM_append (T : TypeId) (ts : Array TypeId) (x y : Value) : oM P (.call { callee := .builtin .append, args := #[.tmp 0, .tmp 1], argTypes := ts }) T [x, y] K w = rM ((Builtin.append_ ts T #[x, y]).run P w) K :=
  rM_of (by simp [xop, execOp, evalL, evE, resolve, invoke, builtin])
@[go_sem] theorem oM_makeSlice (t T : TypeId) (x y : Value) : oM P (.makeSlice t (.tmp 0) (.tmp 1)) T [x, y] K w = rM ((Instr.makeSlice t x y).run P w) K := rM_of rfl
@[go_sem] theorem oM_typeAssert (t u T : TypeId) (x : Value) : oM P (.typeAssert (.tmp 0) t u false) T [x] K w = rM ((Instr.typeAssert x t u false).run P w) K := rM_of rfl
@[go_sem] theorem oM_makeInterface (t T : TypeId) (x : Value) : oM P (.makeInterface t (.tmp 0)) T [x] K w = rM ((Instr.makeInterface t x).run P w) K := rM_of rfl
@[go_sem] theorem oM_buildSlice0 (T t : Nat) (n : Nat) : oM P (.buildSlice t n #[]) T [] K w = rM ((Instr.buildSlice t n #[]).run P w) K := rM_of (by simp [xop, execOp, evalL, evE])
theorem oM_sliceFrom (t T : TypeId) (x i : Value) : oM P (.slice t (.tmp 0) (some (.tmp 1)) none none) T [x, i] K w = rM ((Instr.sliceAt t x (some i) none none).run P w) K := rM_of rfl
theorem oM_sliceTo (t T : TypeId) (x i : Value) : oM P (.slice t (.tmp 0) none (some (.tmp 1)) none) T [x, i] K w = rM ((Instr.sliceAt t x none (some i) none).run P w) K := rM_of rfl
theorem low_bits (n : Nat) (hn : n < 60) (x : Int) : IntKind.i64.wrap ((BitVec.ofInt 64 x &&& BitVec.ofInt 64 (2 ^ n - 1)).toNat : Int) = x % 2 ^ n := by
  have hp : (0 : Int) < 2 ^ n := Int.pow_pos (by omega)
  have hp' : (2 : Nat) ^ n ≤ 2 ^ 59 := Nat.pow_le_pow_right (by omega) (by omega)
  have hpc : ((2 : Int) ^ n) = ((2 ^ n : Nat) : Int) := by simp
  have hb : (BitVec.ofInt 64 (2 ^ n - 1)).toNat = 2 ^ n - 1 := by
    rw [BitVec.toNat_ofInt, hpc]
    omega
  have ha : (BitVec.ofInt 64 x).toNat = (x % 2 ^ 64).toNat := by rw [BitVec.toNat_ofInt]; rfl
  rw [BitVec.toNat_and, hb, ha, Nat.and_two_pow_sub_one_eq_mod]
  have hdv : ((2 : Int) ^ n) ∣ 2 ^ 64 := ⟨2 ^ (64 - n), by rw [← Int.pow_add]; congr 1; omega⟩
  have h1 : (((x % 2 ^ 64).toNat % 2 ^ n : Nat) : Int) = x % 2 ^ n := by
    rw [Int.natCast_emod, Int.toNat_of_nonneg (Int.emod_nonneg _ (by omega)), ← hpc, Int.emod_emod_of_dvd _ hdv]
  rw [h1]
  have h2 := Int.emod_nonneg x (b := 2 ^ n) (by omega)
  have h3 := Int.emod_lt_of_pos x hp
  exact wrapI64 _ (by omega) (by omega)
theorem oM_low (n : Nat) (hn : n < 60) (t t' T : TypeId) (x m : Int) (hm : m = 2 ^ n - 1) : oM P (.binOp .and t (.tmp 0) (.tmp 1) t') T [.int .i64 x, .int .i64 m] K w = K (.int .i64 (x % 2 ^ n)) w := by
  subst hm
  rw [← low_bits n hn x]
  exact oM_of_run rfl
@[go_sem] theorem oM_and1 (t t' T : TypeId) (x : Int) : oM P (.binOp .and t (.tmp 0) (.tmp 1) t') T [.int .i64 x, .int .i64 1] K w = K (.int .i64 (x % 2)) w := oM_low 1 (by omega) t t' T x 1 rfl
@[go_sem] theorem oM_and3 (t t' T : TypeId) (x : Int) : oM P (.binOp .and t (.tmp 0) (.tmp 1) t') T [.int .i64 x, .int .i64 3] K w = K (.int .i64 (x % 4)) w := oM_low 2 (by omega) t t' T x 3 rfl
@[go_sem] theorem oM_and7 (t t' T : TypeId) (x : Int) : oM P (.binOp .and t (.tmp 0) (.tmp 1) t') T [.int .i64 x, .int .i64 7] K w = K (.int .i64 (x % 8)) w := oM_low 3 (by omega) t t' T x 7 rfl
end
end Go.Sh
namespace Go.Sh
open Go Go.RowKit
section
variable {w : World} {B : Nat} {e : TypeId} {sz : Nat} {v : Value} {n : Nat} {xs : List Value}
theorem owns_cells (h : w.ownsRow B e sz v n xs) (hn : 0 < n) : ∃ g cap cur, v = .slice (some ⟨g, 0, none⟩) n cap ∧ g < w.heap.size ∧ B ≤ g ∧ w.heap[g]? = some (.cells cur e (0, 0)) ∧ cur.size = cap * sz ∧ n ≤ cap ∧ ∀ (k : Nat) (x : Value), xs[k]? = some x → w.cell? ⟨g, k, none⟩ = some x := by
  rcases h.2 with ⟨_, h0⟩ | ⟨g, cap, cur, hv, hb, hg, hc, hm, hs, ht⟩
  · omega
  · refine ⟨g, cap, cur, hv, (Array.getElem?_eq_some_iff.1 hg).1, hb, hg, hs, hc, fun k x hk => ?_⟩
    have hlt : k < n * sz := by have := (List.getElem?_eq_some_iff.1 hk).1; rw [h.1] at this; exact this
    rw [← ht, List.getElem?_take_of_lt hlt] at hk
    unfold World.cell?
    rw [hg]
    simpa using hk
theorem owns_own (h : w.ownsRow B e sz v n xs) {i : Nat} (hi : v.ownBlock = some i) : i < w.heap.size ∧ B ≤ i ∧ ∃ cur, w.heap[i]? = some (.cells cur e (0, 0)) := by
  rcases h.2 with ⟨rfl, h0⟩ | ⟨g, cap, cur, rfl, hb, hg, hc, hm, hs, ht⟩
  · cases hi
  · cases hi
    exact ⟨(Array.getElem?_eq_some_iff.1 hg).1, hb, cur, hg⟩
theorem owns_keep {w' : World} (h : w.ownsRow B e sz v n xs) (hk : ∀ i, v.ownBlock = some i → w'.heap[i]? = w.heap[i]?) : w'.ownsRow B e sz v n xs := by
  refine ⟨h.1, ?_⟩
  rcases h.2 with h0 | ⟨g, cap, cur, rfl, hb, hg, hr⟩
  · exact .inl h0
  · exact .inr ⟨g, cap, cur, rfl, hb, by rw [hk g rfl]; exact hg, hr⟩
theorem owns_len (h : w.ownsRow B e sz v n xs) : ∃ a c, v = .slice a n c := by
  rcases h.2 with ⟨rfl, rfl⟩ | ⟨g, cap, cur, rfl, _⟩
  · exact ⟨none, 0, rfl⟩
  · exact ⟨_, cap, rfl⟩
end
def flat {α : Type} (mk : α → List Value) (l : List α) : List Value := l.flatMap mk
section
variable {α : Type} {mk : α → List Value} {sz : Nat}
theorem flat_cons (x : α) (l : List α) : flat mk (x :: l) = mk x ++ flat mk l := rfl
theorem flat_append (l m : List α) : flat mk (l ++ m) = flat mk l ++ flat mk m := by simp [flat]
theorem flat_snoc (l : List α) (x : α) : flat mk (l ++ [x]) = flat mk l ++ mk x := by simp [flat]
theorem flat_length (hm : ∀ x, (mk x).length = sz) (l : List α) : (flat mk l).length = l.length * sz := by
  induction l with
  | nil => simp [flat]
  | cons x l ih => rw [flat_cons, List.length_append, hm, ih, List.length_cons, Nat.succ_mul, Nat.add_comm]
theorem flat_at (hm : ∀ x, (mk x).length = sz) (l : List α) (i j : Nat) {x : α} (hi : l[i]? = some x) (hj : j < sz) : (flat mk l)[i * sz + j]? = (mk x)[j]? := by
  induction l generalizing i with
  | nil => simp at hi
  | cons y l ih =>
    rw [flat_cons]
    cases i with
    | zero =>
      simp only [List.getElem?_cons_zero, Option.some.injEq] at hi
      subst hi
      rw [Nat.zero_mul, Nat.zero_add, List.getElem?_append_left (by rw [hm]; exact hj)]
    | succ i =>
      simp only [List.getElem?_cons_succ] at hi
      rw [Nat.succ_mul, List.getElem?_append_right (by rw [hm]; omega), hm, ← ih i hi]
      congr 1
      omega
end
structure Fr (S : Nat → Prop) (w w' : World) : Prop where
  os : w'.os = w.os
  tape : w'.tape = w.tape
  output : w'.output = w.output
  size : w.heap.size ≤ w'.heap.size
  block : ∀ i, i < w.heap.size → ¬ S i → w'.heap[i]? = w.heap[i]?
section
variable {S S' : Nat → Prop} {w w1 w2 : World}
theorem Fr.refl (S : Nat → Prop) (w : World) : Fr S w w := ⟨rfl, rfl, rfl, Nat.le_refl _, fun _ _ _ => rfl⟩
theorem Fr.trans (h : Fr S w w1) (k : Fr S' w1 w2) (hs : ∀ i, S' i → S i ∨ w.heap.size ≤ i) : Fr S w w2 :=
  ⟨k.os.trans h.os, k.tape.trans h.tape, k.output.trans h.output, Nat.le_trans h.size k.size, fun i hi hn => (k.block i (Nat.lt_of_lt_of_le hi h.size) (fun hx => (hs i hx).elim hn (by omega))).trans (h.block i hi hn)⟩
theorem Fr.by (h : Fr S w w1) {b : Option Nat} (k : w1.grownBy w2 b) (hs : ∀ i, b = some i → S i ∨ w.heap.size ≤ i) : Fr S w w2 :=
  ⟨k.os.trans h.os, k.tape.trans h.tape, k.output.trans h.output, Nat.le_trans h.size k.size, fun i hi hn => (k.block i (Nat.lt_of_lt_of_le hi h.size) (fun hx => (hs i hx.symm).elim hn (by omega))).trans (h.block i hi hn)⟩
theorem Fr.none_by (h : Fr S w w1) (k : w1.grownBy w2 none) : Fr S w w2 := h.by k (fun _ h => by cases h)
theorem Fr.alloc (h : Fr S w w1) (o : Obj) : Fr S w (w1.alloc o) := h.none_by (World.grownBy_alloc w1 o none)
theorem Fr.drew (h : Fr S w w1) : Fr S w { w1 with drawn := w1.drawn + 1 } := ⟨h.os, h.tape, h.output, h.size, h.block⟩
theorem Fr.mono (h : Fr S w w1) (hs : ∀ i, i < w.heap.size → S i → S' i) : Fr S' w w1 := ⟨h.os, h.tape, h.output, h.size, fun i hi hn => h.block i hi (fun hx => hn (hs i hi hx))⟩
theorem setCell_heap_ne (w : World) (a : Addr) (u : Value) (i : Nat) (h : i ≠ a.block) : (w.setCell a u).heap[i]? = w.heap[i]? := by
  simp only [World.setCell, Array.getElem?_modify]
  rw [if_neg (Ne.symm h)]
theorem grown_setCell (w : World) (a : Addr) (u : Value) : w.grownBy (w.setCell a u) (some a.block) :=
  ⟨rfl, rfl, rfl, by simp [World.setCell], fun i _ hi => setCell_heap_ne w a u i (fun e => hi (by rw [e]))⟩
theorem Fr.set (h : Fr S w w1) (a : Addr) (u : Value) (hs : S a.block ∨ w.heap.size ≤ a.block) : Fr S w (w1.setCell a u) := h.by (grown_setCell w1 a u) (fun i e => by cases e; exact hs)
end
theorem cell_of_block {w : World} {b : Nat} {cs : Array Value} {T : TypeId} {f : Nat × Nat} (h : w.heap[b]? = some (.cells cs T f)) (i : Nat) : w.cell? ⟨b, i, none⟩ = cs[i]? := by
  simp [World.cell?, h]
theorem block_set {w : World} {b i : Nat} {cs : Array Value} {T : TypeId} {f : Nat × Nat} (h : w.heap[b]? = some (.cells cs T f)) (u : Value) : (w.setCell ⟨b, i, none⟩ u).heap[b]? = some (.cells (cs.setIfInBounds i u) T f) := by
  simp [World.setCell, Array.getElem?_modify, h]
end Go.Sh
namespace Go.Sh
open Go Go.RowKit
section
variable {P : Program} {w : World} {K : Value → World → Prop}
theorem owns_base {B C : Nat} {e : TypeId} {sz : Nat} {v : Value} {n : Nat} {xs : List Value} (h : w.ownsRow B e sz v n xs) (hc : C ≤ B) : w.ownsRow C e sz v n xs :=
  ⟨h.1, h.2.imp id (fun ⟨g, cap, cur, a, b, r⟩ => ⟨g, cap, cur, a, Nat.le_trans hc b, r⟩)⟩
theorem run_append_more (t ty e : TypeId) (i : TypeInfo) (z : Value) (size bytes : Nat) (ht : P.underlying t = some (.slice e)) (hi : P.info? e = some i) (hz : i.zero = some z)
    (hsize : i.size = size) (hby : i.bytes = bytes) (hzs : z.cells.size = size) (hsz : 0 < size)
    (v : Value) (n : Nat) (xs : List Value) (hown : w.ownsRow 0 e size v n xs)
    (a : Addr) (m c : Nat) (news : List Value) (hl : news.length = m * size) (hnews : ∀ j u, news[j]? = some u → w.cell? (a.add j) = some u) (h1 : ∀ u ∈ news, u.oneCell' = true)
    (h63 : n + m ≤ maxLen) (hbytes : (n + m) * bytes ≤ 140737488355328) :
    ∃ v' w', (Builtin.append_ #[t, t] ty #[v, .slice (some a) m c]).run P w = .ok v' w' ∧ w'.ownsRow 0 e size v' (n + m) (xs ++ news) ∧ w.grownBy w' v.ownBlock ∧
      (∀ i, v'.ownBlock = some i → v.ownBlock = some i ∨ w.heap.size ≤ i) := by
  rcases hown.2 with ⟨hv, hn⟩ | ⟨g, cap, cur, hv, hb, hg, hnc, hm, hcs, htk⟩
  · have h' : w.ownsRow w.heap.size e size v n xs := ⟨hown.1, .inl ⟨hv, hn⟩⟩
    obtain ⟨v', w', hr, ho, hgr, _⟩ := run_append_own (P := P) (w := w) w.heap.size t ty e i z size bytes ht hi hz hsize hby hzs hsz v n xs h' a m c news hl hnews h1 h63 hbytes (Nat.le_refl _)
    exact ⟨v', w', hr, owns_base ho (Nat.zero_le _), hgr, fun j hj => .inr (owns_own ho hj).2.1⟩
  · by_cases hroom : n + m ≤ cap
    · subst hv
      obtain ⟨w', hr, ho, hgr⟩ := run_append_fits (P := P) (w := w) 0 t ty e i size ht hi hsize g n cap xs hown a m c news hl hnews h1 hroom
      exact ⟨_, w', hr, ho, hgr, fun j hj => .inl hj⟩
    · obtain ⟨v', w', hr, ho, hgr, _⟩ := run_append_own (P := P) (w := w) 0 t ty e i z size bytes ht hi hz hsize hby hzs hsz v n xs hown a m c news hl hnews h1 h63 hbytes (Nat.zero_le _)
      subst hsize
      subst hv
      have holds : ∀ j u, xs[j]? = some u → w.cell? ((⟨g, 0, none⟩ : Addr).add j) = some u := hown.cells (g := g) rfl
      have hr2 := run_append_grow (P := P) (w := w) t ty e i z ht hi hz ⟨g, 0, none⟩ n cap xs hown.1 holds a m c news hl hnews (by omega) (by simp only [maxLen] at h63; omega) (growslice_fits (by omega) (by rw [hby]; exact hbytes))
      rw [hr] at hr2
      cases hr2
      exact ⟨_, _, hr, ho, hgr, fun j hj => by cases hj; exact .inr (Nat.le_refl _)⟩
theorem append_at (t T e : TypeId) (i : TypeInfo) (z : Value) (size bytes : Nat) (ht : P.underlying t = some (.slice e)) (hi : P.info? e = some i) (hz : i.zero = some z)
    (hsize : i.size = size) (hby : i.bytes = bytes) (hzs : z.cells.size = size) (hsz : 0 < size)
    {v : Value} {n : Nat} {xs : List Value} (hown : w.ownsRow 0 e size v n xs)
    {ad : Option Addr} {m c : Nat} (news : List Value) (hl : news.length = m * size) (had : ad = none → m = 0 ∧ c = 0) (hnews : ∀ a, ad = some a → ∀ j u, news[j]? = some u → w.cell? (a.add j) = some u) (h1 : ∀ u ∈ news, u.oneCell' = true)
    (h63 : n + m ≤ maxLen) (hbytes : (n + m) * bytes ≤ 140737488355328)
    (k : ∀ v' w', w'.ownsRow 0 e size v' (n + m) (xs ++ news) → w.grownBy w' v.ownBlock → (∀ i, v'.ownBlock = some i → v.ownBlock = some i ∨ w.heap.size ≤ i) → K v' w') :
    oM P (.call { callee := .builtin .append, args := #[.tmp 0, .tmp 1], argTypes := #[t, t] }) T [v, .slice ad m c] K w := by
  rw [oM_append]
  cases ad with
  | some a =>
    obtain ⟨v', w', hr, h2, h3, h4⟩ := run_append_more (P := P) (w := w) t T e i z size bytes ht hi hz hsize hby hzs hsz v n xs hown a m c news hl (hnews a rfl) h1 h63 hbytes
    rw [hr]
    exact k v' w' h2 h3 h4
  | none =>
    obtain ⟨rfl, rfl⟩ := had rfl
    have hn : news = [] := List.eq_nil_of_length_eq_zero (by simpa using hl)
    subst hn
    rw [run_append_owned_none (P := P) (w := w) 0 t T e i size ht hi v n xs hown]
    refine k v w ?_ ⟨rfl, rfl, rfl, Nat.le_refl _, fun _ _ _ => rfl⟩ (fun i h => .inl h)
    simpa using hown
end
def RowR {α : Type} (mk : α → List Value) (sz : Nat) (w : World) (v : Value) (l : List α) : Prop :=
  ∃ ad c, v = .slice ad l.length c ∧ (ad = none → l.length = 0 ∧ c = 0) ∧ (l = [] ∨ ∃ b o, ad = some ⟨b, o, none⟩ ∧ b < w.heap.size ∧ ∀ (k : Nat) (x : Value), (flat mk l)[k]? = some x → w.cell? ⟨b, o + k, none⟩ = some x)
section
variable {α : Type} {mk : α → List Value} {sz : Nat} {w w' : World} {v : Value} {l : List α}
theorem RowR.of_owns {B : Nat} {e : TypeId} (h : w.ownsRow B e sz v l.length (flat mk l)) : RowR mk sz w v l := by
  rcases h.2 with ⟨rfl, h0⟩ | ⟨g, cap, cur, rfl, hb, hg, hn, hm, hcs, ht⟩
  · exact ⟨none, 0, by rw [h0], fun _ => ⟨h0, rfl⟩, .inl (List.eq_nil_of_length_eq_zero h0)⟩
  · refine ⟨_, cap, rfl, by simp, ?_⟩
    by_cases h0 : l = []
    · exact .inl h0
    · obtain ⟨g', cap', cur', hv, hlt, _, _, _, _, hc⟩ := owns_cells h (List.length_pos_iff.2 h0)
      cases hv
      exact .inr ⟨g, 0, rfl, hlt, fun k x hk => by rw [Nat.zero_add]; exact hc k x hk⟩
def Value.inBlock : Value → Option Nat
  | .slice (some a) _ _ => some a.block
  | _ => none
theorem RowR.keep (h : RowR mk sz w v l) (hs : w.heap.size ≤ w'.heap.size) (hk : ∀ i, Value.inBlock v = some i → i < w.heap.size → w'.heap[i]? = w.heap[i]?) : RowR mk sz w' v l := by
  obtain ⟨ad, c, rfl, h0, h⟩ := h
  refine ⟨ad, c, rfl, h0, h.imp id ?_⟩
  rintro ⟨b, o, rfl, hlt, hc⟩
  refine ⟨b, o, rfl, Nat.lt_of_lt_of_le hlt hs, fun k x hx => ?_⟩
  have := hc k x hx
  unfold World.cell? at this ⊢
  rw [hk b rfl hlt]
  exact this
end
theorem add_none (b o k : Nat) : (⟨b, o, none⟩ : Addr).add k = ⟨b, o + k, none⟩ := by
  unfold Addr.add
  split
  · rename_i h0; rw [h0]; simp
  · rfl
theorem clone_at {P : Program} {α : Type} {mk : α → List Value} {w : World} {K : Value → World → Prop} (t T e : TypeId) (i : TypeInfo) (z : Value) (size bytes : Nat) (ht : P.underlying t = some (.slice e)) (hi : P.info? e = some i) (hz : i.zero = some z)
    (hsize : i.size = size) (hby : i.bytes = bytes) (hzs : z.cells.size = size) (hsz : 0 < size) (hm : ∀ x, (mk x).length = size) (h1 : ∀ x, ∀ u ∈ mk x, u.oneCell' = true)
    {v u : Value} {l : List α} (hr : RowR mk size w v l) (hu : w.ownsRow 0 e size u 0 []) {B : Nat} (hB : B ≤ w.heap.size) (hf : ∀ i, u.ownBlock = some i → B ≤ i) (hll : l.length ≤ 4611686018427387904) (hb : l.length * bytes ≤ 140737488355328)
    (k : ∀ v' w', w'.ownsRow 0 e size v' l.length (flat mk l) → w.grownBy w' u.ownBlock → (∀ i, v'.ownBlock = some i → B ≤ i) → K v' w') :
    oM P (.call { callee := .builtin .append, args := #[.tmp 0, .tmp 1], argTypes := #[t, t] }) T [u, v] K w := by
  obtain ⟨ad, c, rfl, h0, hc⟩ := hr
  refine append_at t T e i z size bytes ht hi hz hsize hby hzs hsz hu (flat mk l) (flat_length hm l) h0 ?_ ?_ (by simp only [maxLen]; omega) (by rw [Nat.zero_add]; exact hb) ?_
  · rintro a rfl j x hj
    rcases hc with rfl | ⟨b, o, hbo, hlt, hc⟩
    · simp [flat] at hj
    · cases hbo
      rw [add_none]; exact hc j x hj
  · intro x hx
    unfold flat at hx
    obtain ⟨y, _, hy⟩ := List.mem_flatMap.1 hx
    exact h1 y x hy
  · intro v' w' ho hg hv
    rw [Nat.zero_add] at ho
    exact k v' w' ho hg (fun i hi => (hv i hi).elim (hf i) (Nat.le_trans hB))
end Go.Sh
namespace Go.Sh
open Go Go.RowKit
theorem alloc_size (w : World) (o : Obj) : (w.alloc o).heap.size = w.heap.size + 1 := by
  show (w.heap.push o).size = _
  simp
theorem grown_setRow (w : World) (g : Nat) (cs : Array Value) : w.grownBy (w.setRow g cs) (some g) :=
  ⟨rfl, rfl, rfl, by simp [World.setRow], fun i _ hi => setRow_other w g i cs (fun e => hi (by rw [e]))⟩
section
variable {P : Program} {w : World} {K : Value → World → Prop}
theorem sliceFrom_at {t T : TypeId} {g o n c : Nat} {sz : Nat} (ht : P.underlying t = some (.slice (P.elem t))) (hs : ∀ w, (sizeOf (P.elem t)).run P w = .ok sz w) (i : Nat) (hi : i ≤ n) (hc : i < c) (k : K (.slice (some ⟨g, o + i * sz, none⟩) (n - i) (c - i)) w) :
    oM P (.slice t (.tmp 0) (some (.tmp 1)) none none) T [.slice (some ⟨g, o, none⟩) n c, .int .i64 i] K w := by
  rw [oM_sliceFrom, run_sliceAt_slice w t _ _ _ _ ht, run_slice_l w t _ n c ht .i64 i (by omega) (by omega), hs]
  have : ¬ c = i := by omega
  simp only [Result.andThen_ok, sliced, Int.toNat_natCast, if_neg this, Option.map_some, add_none]
  exact k
theorem sliceTo_at {t T : TypeId} {a : Option Addr} {n c : Nat} {sz : Nat} (ht : P.underlying t = some (.slice (P.elem t))) (hs : ∀ w, (sizeOf (P.elem t)).run P w = .ok sz w) (i : Nat) (hi : i ≤ c) (k : K (.slice a i c) w) :
    oM P (.slice t (.tmp 0) none (some (.tmp 1)) none) T [.slice a n c, .int .i64 i] K w := by
  rw [oM_sliceTo, run_sliceAt_slice w t _ _ _ _ ht, run_slice_h w t _ n c ht .i64 i (by omega) (by omega), hs]
  have e : a.map (fun x => x.add (0 * sz)) = a := by
    cases a with
    | none => rfl
    | some a => simp [Addr.add]
  simp only [Result.andThen_ok, sliced, Int.toNat_natCast, Nat.sub_zero, e, ite_self]
  exact k
end
end Go.Sh
namespace Go.Sh
open Go Go.RowKit
def BufM (w : World) (e : TypeId) (v : Value) (l : List UInt8) : Prop :=
  ∃ g cap cur fz, v = .slice (some ⟨g, 0, none⟩) l.length cap ∧ w.heap[g]? = some (.cells cur e fz) ∧ (∀ i, i < cur.size → ¬ (fz.1 ≤ i ∧ i < fz.2)) ∧ cur.size = cap ∧ l.length ≤ cap ∧ ∀ j (h : j < l.length), cur[j]? = some (.int .u8 (l[j].toNat : Int))
section
variable {P : Program} {w w' : World} {e : TypeId} {v : Value} {l : List UInt8} {K : Value → World → Prop}
theorem BufM.shape (h : BufM w e v l) : ∃ g c, v = .slice (some ⟨g, 0, none⟩) l.length c ∧ g < w.heap.size := by
  obtain ⟨g, cap, cur, fz, rfl, hg, _⟩ := h
  exact ⟨g, cap, rfl, (Array.getElem?_eq_some_iff.1 hg).1⟩
theorem BufM.keep (h : BufM w e v l) (hk : ∀ i, v.ownBlock = some i → w'.heap[i]? = w.heap[i]?) : BufM w' e v l := by
  obtain ⟨g, cap, cur, fz, rfl, hg, r⟩ := h
  exact ⟨g, cap, cur, fz, rfl, by rw [hk g rfl]; exact hg, r⟩
theorem ofStr_at {s d T : TypeId} (hs : P.underlying s = some .string) (hd : P.underlying d = some (.slice e)) (he : P.underlying e = some (.int .u8)) (l : List UInt8)
    (k : ∀ v w', BufM w' e v l → w.grownBy w' none → v.ownBlock = some w.heap.size → w.heap.size < w'.heap.size → K v w') : oM P (.convert s d (.tmp 0)) T [.string ⟨l.toArray⟩] K w := by
  have hr := run_bytes_of_string (P := P) w s d e ⟨l.toArray⟩ hs hd he
  rw [rM_of (S := convert s d (.string ⟨l.toArray⟩)) rfl, hr]
  have hge : l.length ≤ grownCap w (⟨l.toArray⟩ : ByteArray).size 0 e := grownCap_ge w l.length 0 e
  generalize grownCap w (⟨l.toArray⟩ : ByteArray).size 0 e = C at *
  have hsz : (bytesRow ⟨l.toArray⟩ C).size = C := by
    simp only [bytesRow, Array.size_append, Array.size_map, List.size_toArray, Array.size_replicate, ByteArray.size]
    omega
  rw [hsz]
  refine k _ _ ⟨w.heap.size, C, bytesRow ⟨l.toArray⟩ C, (C, C + 1), rfl, heap_alloc_new w.drew _, fun i hi => by rw [hsz] at hi; simp only; omega, hsz, hge, fun j hj => ?_⟩ ⟨rfl, rfl, rfl, by simp, fun i hi _ => heap_alloc_old w.drew _ hi⟩ rfl (by simp)
  unfold bytesRow
  rw [Array.getElem?_append_left (by simpa using hj)]
  simp [hj]
theorem pushB_at {t T : TypeId} {i : TypeInfo} {x : UInt8} {a : Addr} {c : Nat} (ht : P.underlying t = some (.slice e)) (hi : P.info? e = some i) (hz : i.zero = some (.int .u8 0)) (hs : i.size = 1) (hb : i.bytes = 1) (h : BufM w e v l) (ha : w.cell? a = some (.int .u8 (x.toNat : Int))) (hl : l.length + 1 ≤ 1099511627776)
    (k : ∀ v' w', BufM w' e v' (l ++ [x]) → w.grownBy w' v.ownBlock → (v'.ownBlock = v.ownBlock ∨ ∃ g, v'.ownBlock = some g ∧ w.heap.size ≤ g) → K v' w') :
    oM P (.call { callee := .builtin .append, args := #[.tmp 0, .tmp 1], argTypes := #[t, t] }) T [v, .slice (some a) 1 c] K w := by
  obtain ⟨g, cap, cur, fz, rfl, hg, hfz, hcs, hlc, hcell⟩ := h
  rw [oM_append]
  have hnews : ∀ j u, ([Value.int .u8 (x.toNat : Int)] : List Value)[j]? = some u → w.cell? (a.add j) = some u := by
    intro j u hj
    match j, hj with
    | 0, hj =>
      simp only [List.getElem?_cons_zero, Option.some.injEq] at hj
      subst hj
      have : a.add 0 = a := by simp [Addr.add]
      rw [this]; exact ha
  by_cases hroom : l.length + 1 ≤ cap
  · have hr := run_append_room_cells (P := P) (w := w) t T e i ht hi g 0 l.length cap a 1 c [.int .u8 (x.toNat : Int)] (by rw [hs]; rfl) hnews (by simp [Value.oneCell']) hroom (by
      intro j hj
      simp only [List.length_cons, List.length_nil] at hj
      rw [cell_of_block hg]
      simp [hs]
      omega) (by
      intro j hj
      simp only [List.length_cons, List.length_nil] at hj
      unfold World.frozen?
      rw [hg]
      have := hfz (0 + l.length * i.size + j) (by rw [hs]; omega)
      simp only [Bool.and_eq_false_iff, decide_eq_false_iff_not]
      omega)
    rw [hr, hs, Nat.zero_add, Nat.mul_one]
    refine k _ (w.setCell ⟨g, l.length, none⟩ (.int .u8 (x.toNat : Int))) ⟨g, cap, cur.setIfInBounds l.length (.int .u8 (x.toNat : Int)), fz, by rw [List.length_append]; rfl, block_set hg _, by simpa using hfz, by simpa using hcs, by simpa using hroom, fun j hj => ?_⟩ (grown_setCell w ⟨g, l.length, none⟩ _) (.inl rfl)
    rw [List.length_append, List.length_cons, List.length_nil] at hj
    by_cases hjl : j < l.length
    · rw [Array.getElem?_setIfInBounds_ne (by omega), hcell j hjl, List.getElem_append_left hjl]
    · obtain rfl : j = l.length := by omega
      rw [Array.getElem?_setIfInBounds_self_of_lt (by omega)]
      simp
  · have hholds : ∀ j u, (Lib.byteCells l)[j]? = some u → w.cell? ((⟨g, 0, none⟩ : Addr).add j) = some u := by
      intro j u hj
      rw [add_none, Nat.zero_add, cell_of_block hg]
      have hjl : j < l.length := by have := (List.getElem?_eq_some_iff.1 hj).1; simpa [Lib.byteCells] using this
      rw [hcell j hjl, ← hj]
      simp [Lib.byteCells, hjl]
    obtain ⟨v', w', hr, ho, hgr⟩ := run_append_arg_grows (P := P) (w := w) t T e i (.int .u8 0) 1 1 ht hi hz hs hb rfl (by omega) ⟨g, 0, none⟩ l.length cap (Lib.byteCells l) (by simp [Lib.byteCells]) hholds a 1 c [.int .u8 (x.toNat : Int)] rfl hnews (by omega) (by simp only [maxLen]; omega) (by omega)
    rw [hr]
    rcases ho.2 with ⟨_, h0⟩ | ⟨g', cap', cur', rfl, hb', hg', hnc, hcm, hcs', htk⟩
    · omega
    · refine k _ w' ⟨g', cap', cur', (0, 0), by rw [List.length_append]; rfl, hg', fun i _ => by omega, by omega, by rw [List.length_append]; exact hnc, fun j hj => ?_⟩ ⟨hgr.os, hgr.tape, hgr.output, hgr.size, fun i hi _ => hgr.block i hi (by simp)⟩ (.inr ⟨g', rfl, hb'⟩)
      have e1 : cur'.toList.take (l.length + 1) = Lib.byteCells (l ++ [x]) := by
        rw [Nat.mul_one] at htk
        rw [htk]
        simp [Lib.byteCells]
      have e2 := congrArg (fun q => q[j]?) e1
      rw [List.length_append, List.length_cons, List.length_nil] at hj
      simp only [List.getElem?_take_of_lt hj, Array.getElem?_toList] at e2
      rw [e2]
      have hj' : j < (l ++ [x]).length := by simpa using hj
      simp only [Lib.byteCells, List.getElem?_map, List.getElem?_eq_getElem hj', Option.map_some]
theorem BufM.set (h : BufM w e v l) {j : Nat} (hj : j < l.length) (x : UInt8) : ∃ g c, v = .slice (some ⟨g, 0, none⟩) l.length c ∧ w.frozen? ⟨g, j, none⟩ = false ∧ (w.cell? ⟨g, j, none⟩).isSome = true ∧ BufM (w.setCell ⟨g, j, none⟩ (.int .u8 (x.toNat : Int))) e v (l.set j x) := by
  obtain ⟨g, cap, cur, fz, rfl, hg, hfz, hcs, hlc, hcell⟩ := h
  refine ⟨g, cap, rfl, ?_, ?_, ⟨g, cap, cur.setIfInBounds j (.int .u8 (x.toNat : Int)), fz, by rw [List.length_set], block_set hg _, by simpa using hfz, by simpa using hcs, by simpa using hlc, fun k hk => ?_⟩⟩
  · unfold World.frozen?
    rw [hg]
    have := hfz j (by omega)
    simp only [Bool.and_eq_false_iff, decide_eq_false_iff_not]
    omega
  · rw [cell_of_block hg, hcell j hj]; rfl
  · rw [List.length_set] at hk
    by_cases hkj : k = j
    · subst hkj
      rw [Array.getElem?_setIfInBounds_self_of_lt (by omega)]
      simp
    · rw [Array.getElem?_setIfInBounds_ne (Ne.symm hkj), hcell k hk, List.getElem_set_ne (Ne.symm hkj)]
theorem BufM.cell (h : BufM w e v l) {j : Nat} (hj : j < l.length) : ∃ g c, v = .slice (some ⟨g, 0, none⟩) l.length c ∧ w.cell? ⟨g, j, none⟩ = some (.int .u8 (l[j].toNat : Int)) := by
  obtain ⟨g, cap, cur, fz, rfl, hg, hfz, hcs, hlc, hcell⟩ := h
  exact ⟨g, cap, rfl, by rw [cell_of_block hg]; exact hcell j hj⟩
end
end Go.Sh
namespace Go.Sh
open Go Go.RowKit
section
variable {P : Program} {K : Value → World → Prop} {w : World}
@[go_sem] theorem oM_shr64 (t t' T : TypeId) (yk : IntKind) (x y : Int) (h0 : 0 ≤ y) (h1 : y ≤ 64) : oM P (.binOp .shr t (.tmp 0) (.tmp 1) t') T [.int .u64 x, .int yk y] = pureM (.int .u64 (x / 2 ^ y.toNat)) := by
  funext K w
  simp [oM, opM, xop, execOp, evalL, evE, binOp]
  rfl
@[go_sem] theorem oM_shl64 (t t' T : TypeId) (yk : IntKind) (x y : Int) (h0 : 0 ≤ y) (h1 : y ≤ 64) : oM P (.binOp .shl t (.tmp 0) (.tmp 1) t') T [.int .u64 x, .int yk y] = pureM (.int .u64 (x * 2 ^ y.toNat % 18446744073709551616)) := by
  funext K w
  simp [oM, opM, xop, execOp, evalL, evE, binOp]
  rfl
@[go_sem] theorem oM_shr32 (t t' T : TypeId) (yk : IntKind) (x y : Int) (h0 : 0 ≤ y) (h1 : y ≤ 32) : oM P (.binOp .shr t (.tmp 0) (.tmp 1) t') T [.int .u32 x, .int yk y] = pureM (.int .u32 (x / 2 ^ y.toNat)) := by
  funext K w
  simp [oM, opM, xop, execOp, evalL, evE, binOp]
  rfl
@[go_sem] theorem oM_shl32 (t t' T : TypeId) (yk : IntKind) (x y : Int) (h0 : 0 ≤ y) (h1 : y ≤ 32) : oM P (.binOp .shl t (.tmp 0) (.tmp 1) t') T [.int .u32 x, .int yk y] = pureM (.int .u32 (x * 2 ^ y.toNat % 4294967296)) := by
  funext K w
  simp [oM, opM, xop, execOp, evalL, evE, binOp]
  rfl
@[go_sem] theorem oM_and64 (t t' T : TypeId) (x y : Int) : oM P (.binOp .and t (.tmp 0) (.tmp 1) t') T [.int .u64 x, .int .u64 y] = pureM (.int .u64 (bits .and .u64 x y)) := by
  funext K w
  simp [oM, opM, xop, execOp, evalL, evE, binOp, go_sem]
@[go_sem] theorem oM_or64 (t t' T : TypeId) (x y : Int) : oM P (.binOp .or t (.tmp 0) (.tmp 1) t') T [.int .u64 x, .int .u64 y] = pureM (.int .u64 (bits .or .u64 x y)) := by
  funext K w
  simp [oM, opM, xop, execOp, evalL, evE, binOp, go_sem]
end
theorem bits_and64 (x y : Int) (hx : 0 ≤ x ∧ x < 18446744073709551616) (hy : 0 ≤ y ∧ y < 18446744073709551616) : bits .and .u64 x y = ((x.toNat &&& y.toNat : Nat) : Int) := by
  obtain ⟨a, rfl⟩ := Int.eq_ofNat_of_zero_le hx.1
  obtain ⟨b, rfl⟩ := Int.eq_ofNat_of_zero_le hy.1
  have ha : a < 2 ^ 64 := by omega
  have hb : b < 2 ^ 64 := by omega
  simp only [bits, Int.toNat_natCast]
  rw [BitVec.ofInt_natCast, BitVec.ofInt_natCast, BitVec.toNat_and]
  simp only [BitVec.toNat_ofNat]
  rw [show IntKind.u64.bits = 64 from rfl, Nat.mod_eq_of_lt ha, Nat.mod_eq_of_lt hb]
  have : a &&& b ≤ a := Nat.and_le_left
  exact wrapU64 _ (by omega) (by omega)
theorem bits_or64 (x y : Int) (hx : 0 ≤ x ∧ x < 18446744073709551616) (hy : 0 ≤ y ∧ y < 18446744073709551616) : bits .or .u64 x y = ((x.toNat ||| y.toNat : Nat) : Int) := by
  obtain ⟨a, rfl⟩ := Int.eq_ofNat_of_zero_le hx.1
  obtain ⟨b, rfl⟩ := Int.eq_ofNat_of_zero_le hy.1
  have ha : a < 2 ^ 64 := by omega
  have hb : b < 2 ^ 64 := by omega
  simp only [bits, Int.toNat_natCast]
  rw [BitVec.ofInt_natCast, BitVec.ofInt_natCast, BitVec.toNat_or]
  simp only [BitVec.toNat_ofNat]
  rw [show IntKind.u64.bits = 64 from rfl, Nat.mod_eq_of_lt ha, Nat.mod_eq_of_lt hb]
  have := Nat.or_lt_two_pow ha hb
  exact wrapU64 _ (by omega) (by omega)
theorem mask64 (n : Nat) (x m : Int) (hn : n ≤ 64) (hm : m = 2 ^ n - 1) (hx : 0 ≤ x ∧ x < 18446744073709551616) : bits .and .u64 x m = x % 2 ^ n := by
  have hp : (0 : Int) < 2 ^ n := Int.pow_pos (by omega)
  have hp' : (2 : Nat) ^ n ≤ 2 ^ 64 := Nat.pow_le_pow_right (by omega) hn
  have hpc : ((2 : Int) ^ n) = ((2 ^ n : Nat) : Int) := by simp
  rw [bits_and64 x m hx (by rw [hm, hpc]; omega)]
  have : m.toNat = 2 ^ n - 1 := by rw [hm, hpc]; omega
  rw [this, Nat.and_two_pow_sub_one_eq_mod, Int.natCast_emod, Int.toNat_of_nonneg hx.1, hpc]
theorem or_add64 (s : Nat) (x y : Int) (hs : s ≤ 64) (hx : 0 ≤ x) (hy : 0 ≤ y ∧ y < 2 ^ s) (h : x * 2 ^ s < 18446744073709551616) : bits .or .u64 (x * 2 ^ s) y = x * 2 ^ s + y := by
  obtain ⟨a, rfl⟩ := Int.eq_ofNat_of_zero_le hx
  obtain ⟨b, rfl⟩ := Int.eq_ofNat_of_zero_le hy.1
  have hpc : ((2 : Int) ^ s) = ((2 ^ s : Nat) : Int) := by simp
  rw [hpc] at hy h ⊢
  have hp' : (2 : Nat) ^ s ≤ 2 ^ 64 := Nat.pow_le_pow_right (by omega) hs
  have hb : b < 2 ^ s := by omega
  have e : ((a : Int) * ((2 ^ s : Nat) : Int)) = ((2 ^ s * a : Nat) : Int) := by rw [Int.natCast_mul]; exact Int.mul_comm _ _
  rw [e] at h ⊢
  rw [bits_or64 _ _ (by omega) (by omega), Int.toNat_natCast, Int.toNat_natCast, ← Nat.two_pow_add_eq_or_of_lt hb]
  simp
end Go.Sh
namespace Go.Sh
open Go Go.RowKit
abbrev Next (w w' : World) : Prop := Below w.heap.size w w'
theorem _root_.Go.RowKit.Below.on {a b c : World} (h : Below a.heap.size a b) (k : Below b.heap.size b c) : Below a.heap.size a c := h.trans (k.mono h.size)
theorem _root_.Go.RowKit.Below.drawn {B : Nat} {w : World} : Below B w { w with drawn := w.drawn + 1 } := ⟨rfl, rfl, rfl, Nat.le_refl _, fun _ _ => rfl⟩
def BoxIs (w : World) (g : Nat) (cs : List Value) : Prop := ∀ w', Below w.heap.size w w' → ∀ (i : Nat) (v : Value), cs[i]? = some v → w'.cell? ⟨g, i, none⟩ = some v
theorem BoxIs.next {w w' : World} {g : Nat} {cs : List Value} (h : BoxIs w g cs) (hb : Below w.heap.size w w') : BoxIs w' g cs :=
  fun w2 h2 => h w2 (Below.on hb h2)
theorem box_in {P : Program} {w : World} {K : Value → World → Prop} {T T' : TypeId} {x : Value} {cs : List Value} (hx : x.cells = cs.toArray)
    (k : ∀ g W, Below w.heap.size w W → w.heap.size ≤ g → BoxIs W g cs → K (.pointer (some ⟨g, 0, none⟩)) W) : oM P (.box T (.tmp 0)) T' [x] K w := by
  rw [oM_box]
  have e : (Instr.box T x).run P w = .ok (.pointer (some ⟨w.heap.size, 0, none⟩)) (w.alloc (.cells cs.toArray T)) := by
    rw [← hx]; rfl
  rw [e]
  refine k _ _ ((Below.refl _ w).alloc (Nat.le_refl _) _) (Nat.le_refl _) (fun w' hb i v hi => ?_)
  have hlt : w.heap.size < (w.alloc (.cells cs.toArray T)).heap.size := by simp
  rw [hb.cell hlt]
  have := World.cell?_alloc_at (w := w) cs.toArray T w.heap.size i rfl
  rw [this]
  simpa using hi
def I64 (n : Int) : Prop := -9223372036854775808 ≤ n ∧ n < 9223372036854775808
def intC (n : Int) : List Value := [.int .i64 n]
structure Ints (w : World) (v : Value) (l : List Int) : Prop where
  row : RowR intC 1 w v l
  rng : ∀ n ∈ l, I64 n
  len : l.length ≤ 9223372036854775807
theorem Ints.next {w w' : World} {v : Value} {l : List Int} (h : Ints w v l) (hb : Below w.heap.size w w') : Ints w' v l :=
  ⟨h.row.keep hb.size (fun i _ hi => hb.block i hi), h.rng, h.len⟩
theorem Ints.nil (w : World) : Ints w (.slice none 0 0) [] := ⟨⟨none, 0, rfl, fun _ => ⟨rfl, rfl⟩, .inl rfl⟩, by simp, by simp⟩
theorem Ints.isSlice {w : World} {v : Value} {l : List Int} (h : Ints w v l) : ∃ ad c, v = .slice ad l.length c := by
  obtain ⟨⟨ad, c, hv, _⟩, _⟩ := h; exact ⟨ad, c, hv⟩
theorem flat_int (l : List Int) : flat intC l = l.map (fun n => Value.int .i64 n) := by
  induction l with
  | nil => rfl
  | cons a l ih => rw [flat_cons, ih]; rfl
theorem Ints.at {w : World} {ad : Option Addr} {n c : Nat} {l : List Int} (h : Ints w (.slice ad n c) l) {i : Nat} (hi : i < l.length) :
    ∃ b o, ad = some ⟨b, o, none⟩ ∧ b < w.heap.size ∧ (∀ w', Below w.heap.size w w' → w'.cell? ⟨b, o + i, none⟩ = some (.int .i64 l[i])) ∧ I64 l[i] ∧ n = l.length := by
  obtain ⟨⟨ad', c', hv, h0, hc⟩, hr, _⟩ := h
  cases hv
  rcases hc with rfl | ⟨b, o, rfl, hlt, hc⟩
  · simp at hi
  · refine ⟨b, o, rfl, hlt, fun w' hb => ?_, hr _ (List.getElem_mem hi), rfl⟩
    rw [hb.cell hlt]
    exact hc i _ (by rw [flat_int]; simp [hi])
theorem Ints.of_owns {w : World} {B : Nat} {e : TypeId} {v : Value} {l : List Int} (h : w.ownsRow B e 1 v l.length (flat intC l)) (hr : ∀ n ∈ l, I64 n) (hl : l.length ≤ 9223372036854775807) : Ints w v l :=
  ⟨RowR.of_owns h, hr, hl⟩
@[go_sem] theorem oM_makeFunc2 {P : Program} {K : Value → World → Prop} {w : World} (fn : Fn) (T : TypeId) (x y : Value) : oM P (.makeFunc fn #[] #[.tmp 0, .tmp 1]) T [x, y] K w = K (.func fn #[] #[x, y]) w := oM_of_run (by simp [xop, execOp, evalL, evE, Instr.makeFunc])
@[go_sem] theorem oM_makeFunc01 {P : Program} {K : Value → World → Prop} {w : World} (fn : Fn) (T : TypeId) (x : Value) : oM P (.makeFunc fn #[] #[.tmp 0]) T [x] K w = K (.func fn #[] #[x]) w := oM_of_run (by simp [xop, execOp, evalL, evE, Instr.makeFunc])
end Go.Sh
namespace Go.Sh
open Go
section
variable {P : Program} {K : Value → World → Prop} {w : World} {A B : Prop} {p : Prop} [Decidable p] {b c : Bool} {m : (Value → World → Prop) → World → Prop} {T : TypeId} {x y v : Value} {C : World → Prop} {KQ : Value → Prop}
theorem idGd {g : Bool} (h : gdM g m K w) : gdM g m K w := h
theorem idGdD {q : Prop} {d : Decidable q} (h : gdM (gd (.bool (@decide q d)) c) m K w) : gdM (gd (.bool (@decide q d)) c) m K w := h
theorem idGdN {q : Prop} {d : Decidable q} (h : gdM (gd (.bool (!@decide q d)) c) m K w) : gdM (gd (.bool (!@decide q d)) c) m K w := h
theorem idPick (h : oM P (.pick (.tmp 0) (.tmp 1) (.tmp 2)) T [v, x, y] K w) : oM P (.pick (.tmp 0) (.tmp 1) (.tmp 2)) T [v, x, y] K w := h
theorem idCond (h : condM v A B) : condM v A B := h
theorem idO {o : Op} {l : List Value} (h : oM P o T l K w) : oM P o T l K w := h
theorem idOQ {o : Op} {l : List Value} (h : oQ P o T l C KQ) : oQ P o T l C KQ := h
theorem zF (k : m K w) (h : p := by first|assumption|omega) : gdM (gd (.bool (decide p)) true) m K w := gdt_pos h k
theorem zG (k : K undef w) (h : ¬p := by first|assumption|omega) : gdM (gd (.bool (decide p)) true) m K w := gdt_neg h k
theorem zI (k : m K w) (h : ¬p := by first|assumption|omega) : gdM (gd (.bool (decide p)) false) m K w := gdf_pos h k
theorem zJ (k : K undef w) (h : p := by first|assumption|omega) : gdM (gd (.bool (decide p)) false) m K w := gdf_neg h k
theorem zL (k : m K w) (h : ¬p := by first|assumption|omega) : gdM (gd (.bool (!decide p)) true) m K w := gdtn_pos h k
theorem zM (k : K undef w) (h : p := by first|assumption|omega) : gdM (gd (.bool (!decide p)) true) m K w := gdtn_neg h k
theorem zO (k : m K w) (h : p := by first|assumption|omega) : gdM (gd (.bool (!decide p)) false) m K w := gdfn_pos h k
theorem zP (k : K undef w) (h : ¬p := by first|assumption|omega) : gdM (gd (.bool (!decide p)) false) m K w := gdfn_neg h k
theorem zS (k : K undef w) (h : b = true := by assumption) : gdM (gd (.bool (!b)) true) m K w := gdtbn_neg h k
theorem zT (k : m K w) (h : b = true := by assumption) : gdM (gd (.bool (!b)) false) m K w := gdfbn_pos h k
theorem zA (k : m K w) : gdM (gd (.bool true) true) m K w := gdtT k
theorem zB (k : K undef w) : gdM (gd (.bool false) true) m K w := gdtF k
theorem zC (k : m K w) : gdM (gd (.bool false) false) m K w := gdfF k
theorem zD (k : K undef w) : gdM (gd (.bool true) false) m K w := gdfT k
theorem zH (h1 : p → m K w) (h2 : ¬p → K undef w) : gdM (gd (.bool (decide p)) true) m K w := gdt_split h1 h2
theorem zK (h1 : p → K undef w) (h2 : ¬p → m K w) : gdM (gd (.bool (decide p)) false) m K w := gdf_split h1 h2
theorem zQ (h1 : p → m K w) (h2 : ¬p → K undef w) : gdM (gd (.bool (!decide p)) false) m K w := gdfn_split h1 h2
theorem zX (h1 : b = true → m K w) (h2 : b = false → K undef w) : gdM (gd (.bool b) true) m K w := gdtb_split h1 h2
theorem yB (k : K x w) : oM P (.pick (.tmp 0) (.tmp 1) (.tmp 2)) T [.bool true, x, y] K w := pickT k
theorem yC (k : K y w) : oM P (.pick (.tmp 0) (.tmp 1) (.tmp 2)) T [.bool false, x, y] K w := pickF k
theorem yD (k : K x w) (h : p := by first|assumption|omega) : oM P (.pick (.tmp 0) (.tmp 1) (.tmp 2)) T [.bool (decide p), x, y] K w := pick_pos h k
theorem yE (k : K y w) (h : ¬p := by first|assumption|omega) : oM P (.pick (.tmp 0) (.tmp 1) (.tmp 2)) T [.bool (decide p), x, y] K w := pick_neg h k
theorem yF (k : K x w) (h : ¬p := by first|assumption|omega) : oM P (.pick (.tmp 0) (.tmp 1) (.tmp 2)) T [.bool (!decide p), x, y] K w := pickn_pos h k
theorem yG (k : K y w) (h : p := by first|assumption|omega) : oM P (.pick (.tmp 0) (.tmp 1) (.tmp 2)) T [.bool (!decide p), x, y] K w := pickn_neg h k
theorem yL (k : A) : condM (.bool true) A B := condT k
theorem yM (k : B) : condM (.bool false) A B := condF k
theorem yN (k : A) (h : p := by first|assumption|omega) : condM (.bool (decide p)) A B := cond_pos h k
theorem yO (k : B) (h : ¬p := by first|assumption|omega) : condM (.bool (decide p)) A B := cond_neg h k
theorem yQ (k : A) (h : ¬p := by first|assumption|omega) : condM (.bool (!decide p)) A B := condn_pos h k
theorem yR (k : B) (h : p := by first|assumption|omega) : condM (.bool (!decide p)) A B := condn_neg h k
theorem yP (h1 : p → A) (h2 : ¬p → B) : condM (.bool (decide p)) A B := condM_dec h1 h2
end
end Go.Sh
namespace Go.Proofs
open Go Go.Sh Go.RowKit FdSpec
set_option linter.unusedSimpArgs false
set_option linter.unusedVariables false
set_option maxRecDepth 10000
section
variable {K : Value → World → Prop} {w : World}
theorem K_eq {a b : Value} (h : K a w) (e : b = a) : K b w := e ▸ h
@[reducible] def u64V (n : Int) : Value := .int .u64 n
theorem valid_ok (n : Int) (h : K (.bool (decide (okN n))) w) : callM Tryz.prog 82 #[.int .i64 n] K w := by
  apply sh_82_ok
  unfold sh_82
  have e : decide (okN n) = (decide (1 ≤ n) && decide (n < 2305843009213693952)) := by
    by_cases h1 : 1 ≤ n <;> by_cases h2 : n < 2305843009213693952 <;> simp [okN, h1, h2]
  rw [e] at h
  by_cases h1 : 1 ≤ n
  · repeat (any_goals (first
    | (with_reducible first|refine pureM_in ?_|((refine idGd ?_); refine zA ?_)|((refine idPick ?_); refine yB ?_))
    | ((with_reducible refine idO ?_); (with_reducible refine oM_gen fun Kv hK=>?_); simp [go_sem, h1]; refine hK _ _ ?_; clear hK; clear Kv)))
    simpa [h1] using h
  · repeat (any_goals (first
    | (with_reducible first|((refine idGd ?_); refine zB ?_)|((refine idPick ?_); refine yC ?_))
    | ((with_reducible refine idO ?_); (with_reducible refine oM_gen fun Kv hK=>?_); simp [go_sem, h1]; refine hK _ _ ?_; clear hK; clear Kv)))
    simpa [h1] using h
theorem residue_ok (n a : Int) (hn : okN n) (h : K (.int .u64 (a % n)) w) : callM Tryz.prog 84 #[.int .i64 n, .int .i64 a] K w := by
  apply sh_84_ok
  unfold sh_84
  obtain ⟨h1, h2⟩ := hn
  have e := residue_eq n a (by omega)
  have h3 := Int.emod_nonneg a (b := n) (by omega)
  have h4 := Int.emod_lt_of_pos a (b := n) (by omega)
  obtain ⟨r, hr⟩ : ∃ r, r = a.tmod n := ⟨_, rfl⟩
  rw [← hr] at e
  repeat (any_goals (first
  | (with_reducible ((refine idCond ?_); refine yP (fun hg=>?_) fun hg=>?_))
  | ((with_reducible refine idO ?_); (with_reducible refine oM_gen fun Kv hK=>?_); simp [go_sem, ← hr]; (try simp (disch := omega) only [wrapI64, wrapU8, wrapU32, wrapU64]); (first|refine hK _ _ ?_|refine And.intro (by omega) (hK _ _ ?_)); clear hK; clear Kv)))
  · rw [if_pos (by assumption)] at e; rw [e]; exact h
  · rw [if_neg (by assumption)] at e; rw [e]; exact h
theorem natN (x : Int) (h : 0 ≤ x) : ∃ a : Nat, x = a := ⟨x.toNat, by omega⟩
theorem maskU (a : Nat) (ha : a < 18446744073709551616) : bits .and .u64 (a : Int) 4294967295 = ((a % 4294967296 : Nat) : Int) := by
  rw [mask64 32 a 4294967295 (by omega) (by decide) (by omega)]; omega
theorem divU (a : Nat) : (a : Int) / 4294967296 = ((a / 4294967296 : Nat) : Int) := by omega
theorem modU (a : Nat) : (a : Int) % 4294967296 = ((a % 4294967296 : Nat) : Int) := by omega
theorem mulU (a b : Nat) : (a : Int) * (b : Int) = ((a * b : Nat) : Int) := (Int.natCast_mul a b).symm
theorem addU (a b : Nat) : (a : Int) + (b : Int) = ((a + b : Nat) : Int) := (Int.natCast_add a b).symm
theorem wrapU (a : Nat) (ha : a < 18446744073709551616) : IntKind.u64.wrap (a : Int) = (a : Int) := wrapU64 _ (by omega) (by omega)
theorem wrapUM (a : Nat) : IntKind.u64.wrap (a : Int) = ((a % 18446744073709551616 : Nat) : Int) := by rw [IntKind.wrap_u64]; omega
theorem mul64_ok (x y : Int) (hx : 0 ≤ x ∧ x < 18446744073709551616) (hy : 0 ≤ y ∧ y < 18446744073709551616) (h : K (.tuple #[.int .u64 (x * y / 18446744073709551616), .int .u64 (x * y % 18446744073709551616)]) w) : callM Tryz.prog 139 #[.int .u64 x, .int .u64 y] K w := by
  apply sh_139_ok
  unfold sh_139
  have mx := mask64 32 x 4294967295 (by omega) (by decide) hx
  have my := mask64 32 y 4294967295 (by omega) (by decide) hy
  obtain ⟨a, rfl⟩ := natN x hx.1
  obtain ⟨b, rfl⟩ := natN y hy.1
  repeat (any_goals ((with_reducible refine idO ?_); (with_reducible refine oM_gen fun Kv hK=>?_); simp [go_sem, mx, my]; refine hK _ _ ?_; clear hK; clear Kv))
  clear mx my
  have hx : a < 18446744073709551616 := by omega
  have hy : b < 18446744073709551616 := by omega
  obtain ⟨bd, bt, bw, hhi⟩ := Lib.mul64_hi a b hx hy
  have ba := Lib.half_mul_le (a := a / 4294967296) (b := b / 4294967296) (by omega) (by omega)
  have bb := Lib.half_mul_le (a := a / 4294967296) (b := b % 4294967296) (by omega) (by omega)
  have bc := Lib.half_mul_le (a := a % 4294967296) (b := b / 4294967296) (by omega) (by omega)
  have ba' : a / 4294967296 * (b / 4294967296) < 18446744073709551616 := by omega
  have bb' : a / 4294967296 * (b % 4294967296) < 18446744073709551616 := by omega
  have bc' : a % 4294967296 * (b / 4294967296) < 18446744073709551616 := by omega
  have bh1 : a / 4294967296 * (b / 4294967296) + (a / 4294967296 * (b % 4294967296) + a % 4294967296 * (b % 4294967296) / 4294967296) / 4294967296 < 18446744073709551616 := by omega
  have bh : a / 4294967296 * (b / 4294967296) + (a / 4294967296 * (b % 4294967296) + a % 4294967296 * (b % 4294967296) / 4294967296) / 4294967296 + ((a / 4294967296 * (b % 4294967296) + a % 4294967296 * (b % 4294967296) / 4294967296) % 4294967296 + a % 4294967296 * (b / 4294967296)) / 4294967296 < 18446744073709551616 := by omega
  simp only [modU, divU, mulU, addU, wrapU _ bd, wrapU _ bb', wrapU _ bt, maskU _ bt, wrapU _ bc', wrapU _ bw, wrapU _ ba', wrapU _ bh1, wrapU _ bh, wrapUM (a * b)]
  rw [hhi]
  exact K_eq h (by simp)
def len8 : ByteArray := ⟨#[0, 1, 2, 2, 3, 3, 3, 3, 4, 4, 4, 4, 4, 4, 4, 4, 5, 5, 5, 5, 5, 5, 5, 5, 5, 5, 5, 5, 5, 5, 5, 5, 6, 6, 6, 6, 6, 6, 6, 6, 6, 6, 6, 6, 6, 6, 6, 6, 6, 6, 6, 6, 6, 6, 6, 6, 6, 6, 6, 6, 6, 6, 6, 6, 7, 7, 7, 7, 7, 7, 7, 7, 7, 7, 7, 7, 7, 7, 7, 7, 7, 7, 7, 7, 7, 7, 7, 7, 7, 7, 7, 7, 7, 7, 7, 7, 7, 7, 7, 7, 7, 7, 7, 7, 7, 7, 7, 7, 7, 7, 7, 7, 7, 7, 7, 7, 7, 7, 7, 7, 7, 7, 7, 7, 7, 7, 7, 7, 8, 8, 8, 8, 8, 8, 8, 8, 8, 8, 8, 8, 8, 8, 8, 8, 8, 8, 8, 8, 8, 8, 8, 8, 8, 8, 8, 8, 8, 8, 8, 8, 8, 8, 8, 8, 8, 8, 8, 8, 8, 8, 8, 8, 8, 8, 8, 8, 8, 8, 8, 8, 8, 8, 8, 8, 8, 8, 8, 8, 8, 8, 8, 8, 8, 8, 8, 8, 8, 8, 8, 8, 8, 8, 8, 8, 8, 8, 8, 8, 8, 8, 8, 8, 8, 8, 8, 8, 8, 8, 8, 8, 8, 8, 8, 8, 8, 8, 8, 8, 8, 8, 8, 8, 8, 8, 8, 8, 8, 8, 8, 8, 8, 8, 8, 8, 8, 8, 8, 8, 8, 8, 8, 8, 8, 8, 8, 8]⟩
theorem len8_size : len8.size = 256 := by decide +kernel
theorem len_bits (x : Nat) (hx : x < 256) : x < 2 ^ (byteAt len8 x).toNat ∧ (x ≠ 0 → 1 ≤ (byteAt len8 x).toNat ∧ 2 ^ ((byteAt len8 x).toNat - 1) ≤ x) ∧ (byteAt len8 x).toNat ≤ 8 ∧ (x = 0 → (byteAt len8 x).toNat = 0) := by
  have : ∀ x, x < 256 → x < 2 ^ (byteAt len8 x).toNat ∧ (x ≠ 0 → 1 ≤ (byteAt len8 x).toNat ∧ 2 ^ ((byteAt len8 x).toNat - 1) ≤ x) ∧ (byteAt len8 x).toNat ≤ 8 ∧ (x = 0 → (byteAt len8 x).toNat = 0) := by decide +kernel
  exact this x hx
theorem oM_index_len8 (i : Int) (T : TypeId) : oM Tryz.prog (.index 9 (.tmp 0) (.tmp 1)) T [.string len8, .int .u8 i] = onM (0 ≤ i ∧ i < 256) (.int .u8 (byteAt len8 i.toNat).toNat) := by
  funext K w
  rw [oM_value (S := Instr.index 9 (.string len8) (.int .u8 i)) rfl, run_index_string (P := Tryz.prog) (w := w) 9 len8 .u8 i (by kernel_rfl)]
  have e := len8_size
  by_cases hi : 0 ≤ i ∧ i < len8.size
  · rw [dif_pos hi, ok_iff, ← byteAt_get]
    exact propext ⟨fun hk => ⟨⟨hi.1, by omega⟩, hk⟩, fun ⟨_, hk⟩ => hk⟩
  · rw [dif_neg hi]
    obtain ⟨e', w', he⟩ := halts Value Tryz.prog .u8 i len8.size .index w
    rw [he, halt_iff]
    exact propext ⟨fun h => h.elim, fun ⟨h, _⟩ => hi ⟨h.1, by omega⟩⟩
theorem stage (x k s : Nat) (h : 2 ^ s ≤ x / 2 ^ k) : x / 2 ^ (k + s) = x / 2 ^ k / 2 ^ s ∧ 2 ^ (k + s) ≤ x := by
  refine ⟨by rw [Nat.pow_add, Nat.div_div_eq_div_mul], ?_⟩
  rw [Nat.pow_add, Nat.mul_comm]
  exact (Nat.le_div_iff_mul_le (Nat.pow_pos (by omega))).1 h
structure BitLen (x L : Nat) : Prop where
  lt : x < 2 ^ L
  ge : x ≠ 0 → 1 ≤ L ∧ 2 ^ (L - 1) ≤ x
  le : L ≤ 64
def BlM (x B m : Nat) (w : World) (l : List Value) (w' : World) : Prop := w' = w ∧ ∃ k : Nat, l = [.int .u64 ((x / 2 ^ k : Nat) : Int), .int .i64 (k : Int)] ∧ x / 2 ^ k < B ∧ (k = 0 ∨ 2 ^ k ≤ x) ∧ k ≤ m
theorem len64_ok (x : Nat) (hx : x < 18446744073709551616) (h : ∀ L, BitLen x L → K (.int .i64 (L : Nat)) w) : callM Tryz.prog 222 #[.int .u64 (x : Int)] K w := by
  apply sh_222_ok
  unfold sh_222
  rw [show (⟨#[0, 1, 2, 2, 3, 3, 3, 3, 4, 4, 4, 4, 4, 4, 4, 4, 5, 5, 5, 5, 5, 5, 5, 5, 5, 5, 5, 5, 5, 5, 5, 5, 6, 6, 6, 6, 6, 6, 6, 6, 6, 6, 6, 6, 6, 6, 6, 6, 6, 6, 6, 6, 6, 6, 6, 6, 6, 6, 6, 6, 6, 6, 6, 6, 7, 7, 7, 7, 7, 7, 7, 7, 7, 7, 7, 7, 7, 7, 7, 7, 7, 7, 7, 7, 7, 7, 7, 7, 7, 7, 7, 7, 7, 7, 7, 7, 7, 7, 7, 7, 7, 7, 7, 7, 7, 7, 7, 7, 7, 7, 7, 7, 7, 7, 7, 7, 7, 7, 7, 7, 7, 7, 7, 7, 7, 7, 7, 7, 8, 8, 8, 8, 8, 8, 8, 8, 8, 8, 8, 8, 8, 8, 8, 8, 8, 8, 8, 8, 8, 8, 8, 8, 8, 8, 8, 8, 8, 8, 8, 8, 8, 8, 8, 8, 8, 8, 8, 8, 8, 8, 8, 8, 8, 8, 8, 8, 8, 8, 8, 8, 8, 8, 8, 8, 8, 8, 8, 8, 8, 8, 8, 8, 8, 8, 8, 8, 8, 8, 8, 8, 8, 8, 8, 8, 8, 8, 8, 8, 8, 8, 8, 8, 8, 8, 8, 8, 8, 8, 8, 8, 8, 8, 8, 8, 8, 8, 8, 8, 8, 8, 8, 8, 8, 8, 8, 8, 8, 8, 8, 8, 8, 8, 8, 8, 8, 8, 8, 8, 8, 8, 8, 8, 8, 8, 8, 8]⟩ : ByteArray) = len8 from rfl]
  refine ⟨BlM x 4294967296 32 w, ?_, ?_⟩
  · repeat (any_goals (first
    | (with_reducible ((refine idCond ?_); refine yP (fun hg=>?_) fun hg=>?_))
    | ((with_reducible refine idO ?_); (with_reducible refine oM_gen fun Kv hK=>?_); simp [go_sem]; refine hK _ _ ?_; clear hK; clear Kv)))
    · exact ⟨rfl, 32, by simp, by omega, by omega, by omega⟩
    · exact ⟨rfl, 0, by simp, by simp; omega, by omega, by omega⟩
  rintro _ _ w1 ⟨e1, k, rfl, h1, h2, h3⟩
  rw [e1]
  clear e1 w1
  refine ⟨BlM x 65536 48 w, ?_, ?_⟩
  · have hs := stage x k 16
    obtain ⟨y, hy⟩ : ∃ y, y = x / 2 ^ k := ⟨_, rfl⟩
    rw [← hy] at hs h1 ⊢
    repeat (any_goals (first
    | (with_reducible ((refine idCond ?_); refine yP (fun hg=>?_) fun hg=>?_))
    | ((with_reducible refine idO ?_); (with_reducible refine oM_gen fun Kv hK=>?_); simp [go_sem]; (try simp (disch := omega) only [wrapI64, wrapU8, wrapU32, wrapU64]); refine hK _ _ ?_; clear hK; clear Kv)))
    · have hs := hs (by omega)
      exact ⟨rfl, k + 16, by rw [hs.1]; simp, by rw [hs.1]; omega, .inr hs.2, by omega⟩
    · exact ⟨rfl, k, by rw [hy]; rfl, by omega, h2, by omega⟩
  clear h1 h2 h3 k
  rintro _ _ w1 ⟨e1, k, rfl, h1, h2, h3⟩
  rw [e1]
  clear e1 w1
  refine ⟨BlM x 256 56 w, ?_, ?_⟩
  · have hs := stage x k 8
    obtain ⟨y, hy⟩ : ∃ y, y = x / 2 ^ k := ⟨_, rfl⟩
    rw [← hy] at hs h1 ⊢
    repeat (any_goals (first
    | (with_reducible ((refine idCond ?_); refine yP (fun hg=>?_) fun hg=>?_))
    | ((with_reducible refine idO ?_); (with_reducible refine oM_gen fun Kv hK=>?_); simp [go_sem]; (try simp (disch := omega) only [wrapI64, wrapU8, wrapU32, wrapU64]); refine hK _ _ ?_; clear hK; clear Kv)))
    · have hs := hs (by omega)
      exact ⟨rfl, k + 8, by rw [hs.1]; simp, by rw [hs.1]; omega, .inr hs.2, by omega⟩
    · exact ⟨rfl, k, by rw [hy]; rfl, by omega, h2, by omega⟩
  clear h1 h2 h3 k
  rintro _ _ w1 ⟨e1, k, rfl, h1, h2, h3⟩
  rw [e1]
  clear e1 w1
  obtain ⟨l1, l2, l3, l4⟩ := len_bits (x / 2 ^ k) h1
  have hL : BitLen x (k + (byteAt len8 (x / 2 ^ k)).toNat) := by
    generalize (byteAt len8 (x / 2 ^ k)).toNat = L at *
    have hp : 0 < 2 ^ k := Nat.pow_pos (by omega)
    refine ⟨?_, ?_, by omega⟩
    · rw [Nat.pow_add, Nat.mul_comm]
      exact (Nat.div_lt_iff_lt_mul hp).1 l1
    · intro h0
      by_cases hy : x / 2 ^ k = 0
      · rw [Nat.div_eq_zero_iff] at hy
        rcases h2 with rfl | h2 <;> simp at hy <;> omega
      · obtain ⟨a, b⟩ := l2 hy
        refine ⟨by omega, ?_⟩
        rw [show k + L - 1 = k + (L - 1) by omega, Nat.pow_add, Nat.mul_comm]
        exact (Nat.le_div_iff_mul_le hp).1 b
  obtain ⟨y, hy⟩ : ∃ y, y = x / 2 ^ k := ⟨_, rfl⟩
  have hk := h _ hL
  simp only [← hy] at hk h1 l3 ⊢
  repeat (any_goals ((with_reducible refine idO ?_); (with_reducible refine oM_gen fun Kv hK=>?_); simp [go_sem, oM_index_len8]; (try simp (disch := omega) only [wrapI64, wrapU8, wrapU32, wrapU64]); (first|refine hK _ _ ?_|refine And.intro (by omega) (hK _ _ ?_)); clear hK; clear Kv))
  exact K_eq hk (by simp)
end
end Go.Proofs
namespace Go.Proofs
open Go Go.Sh Go.RowKit FdSpec
set_option linter.unusedSimpArgs false
set_option linter.unusedVariables false
set_option maxRecDepth 10000
section
variable {K : Value → World → Prop} {w : World}
def dgLoop (vh vl vd : Value) (M : List Value → World → Prop) (x : List Value) (w : World) : Prop :=
  (loopM x w (fun J_30 m_31 l u_l w0_l => (fun w => (
 oM Tryz.prog (Go.Op.binOp Go.BinOp.geq 139 (.tmp 0) (.tmp 1) 139) 4 [(l.getD 0 undef), (.int .u64 4294967296)] (fun v68_33 w =>
 gdM (gd v68_33 false) (pureM (l.getD 0 undef)) (fun v70_34 w =>
 gdM (gd v68_33 false) (pureM vl) (fun v71_35 w =>
 gdM (gd v68_33 false) (oM Tryz.prog (Go.Op.binOp Go.BinOp.mul 139 (.tmp 0) (.tmp 1) 139) 139 [v70_34, v71_35]) (fun v72_36 w =>
 gdM (gd v68_33 false) (pureM (l.getD 1 undef)) (fun v73_37 w =>
 gdM (gd v68_33 false) (oM Tryz.prog (Go.Op.binOp Go.BinOp.mul 139 (.tmp 0) (.tmp 1) 139) 139 [(.int .u64 4294967296), v73_37]) (fun v74_38 w =>
 gdM (gd v68_33 false) (pureM vd) (fun v75_39 w =>
 gdM (gd v68_33 false) (oM Tryz.prog (Go.Op.binOp Go.BinOp.add 139 (.tmp 0) (.tmp 1) 139) 139 [v74_38, v75_39]) (fun v76_40 w =>
 gdM (gd v68_33 false) (oM Tryz.prog (Go.Op.binOp Go.BinOp.gtr 139 (.tmp 0) (.tmp 1) 139) 4 [v72_36, v76_40]) (fun v77_41 w =>
 oM Tryz.prog (Go.Op.pick (.tmp 0) (.tmp 1) (.tmp 2)) 4 [v68_33, (.bool true), v77_41] (fun v78_42 w =>
 condM v78_42
 (oM Tryz.prog (Go.Op.binOp Go.BinOp.sub 139 (.tmp 0) (.tmp 1) 139) 139 [(l.getD 0 undef), (.int .u64 1)] (fun v80_43 w =>
 oM Tryz.prog (Go.Op.binOp Go.BinOp.add 139 (.tmp 0) (.tmp 1) 139) 139 [(l.getD 1 undef), vh] (fun v83_44 w =>
 oM Tryz.prog (Go.Op.binOp Go.BinOp.geq 139 (.tmp 0) (.tmp 1) 139) 4 [v83_44, (.int .u64 4294967296)] (fun v85_45 w =>
 condM v85_45
 (M [v80_43, v83_44] w)
 (J_30 [v80_43, v83_44] w ∧ m_31 [v80_43, v83_44] w < m_31 l w0_l)) w) w) w)
 (M [(l.getD 0 undef), (l.getD 1 undef)] w)) w) w) w) w) w) w) w) w) w) w)) w0_l))
def DgJ (h l u d : Nat) (w : World) (x : List Value) (w' : World) : Prop := w' = w ∧ ∃ q r : Nat, x = [.int .u64 (q : Int), .int .u64 (r : Int)] ∧ Digit h l u d q r ∧ r < 4294967296
theorem dg_ok (h l u d : Nat) (M : List Value → World → Prop) (hh : 2147483648 ≤ h) (hh2 : h < 4294967296) (hl : l < 4294967296) (hd : d < 4294967296) (hu : u < h * 4294967296 + l)
    (hM : ∀ r : Nat, M [.int .u64 (((u * 4294967296 + d) / (h * 4294967296 + l) : Nat) : Int), .int .u64 (r : Int)] w) : dgLoop (.int .u64 (h : Int)) (.int .u64 (l : Int)) (.int .u64 (d : Int)) M [.int .u64 ((u / h : Nat) : Int), .int .u64 ((u - u / h * h : Nat) : Int)] w := by
  unfold dgLoop
  refine ⟨DgJ h l u d w, fun x _ => match x with | [.int _ q, _] => q.toNat | _ => 0, ⟨rfl, _, _, rfl, digit_start hh hh2 hl hd hu, ?_⟩, ?_⟩
  · have h1 := Nat.mod_lt u (show h > 0 by omega)
    have h2 := Nat.div_add_mod u h
    rw [Nat.mul_comm] at h2
    omega
  rintro _ _ w1 ⟨e1, q, r, rfl, D, hr⟩
  rw [e1]
  clear e1 w1
  have hq := D.le
  have ht := digit_test D
  have hbig := fun hb : 4294967296 ≤ q => digit_big hu hd hb
  have hstep := fun hb => digit_step D hb
  have hpos := fun hb => digit_pos D hb
  have hend := fun hb => digit_end D hb
  have hbr : ∀ hb, 4294967296 ≤ r + h → q - 1 = (u * 4294967296 + d) / (h * 4294967296 + l) := fun hb hg => digit_end (hstep hb) (digit_break (hstep hb) hl (by omega) hg)
  have hql : q < 4294967296 → q * l < 18446744073709551616 := fun hb => by
    have := Nat.mul_le_mul (show q ≤ 4294967295 by omega) (show l ≤ 4294967295 by omega)
    omega
  generalize (u * 4294967296 + d) / (h * 4294967296 + l) = Q at *
  generalize (u * 4294967296 + d < q * (h * 4294967296 + l)) = T at *
  have hmul : (q : Int) * (l : Int) = ((q * l : Nat) : Int) := (Int.natCast_mul q l).symm
  generalize q * l = ql at *
  have fin1 : (4294967296 ≤ r + h → q - 1 = Q) → 0 < q → 4294967296 ≤ r + h → M [.int .u64 ((q : Int) - 1), .int .u64 ((r : Int) + h)] w := fun a b c => by
    rw [show (q : Int) - 1 = ((q - 1 : Nat) : Int) by omega, show (r : Int) + h = ((r + h : Nat) : Int) by omega, a c]; exact hM _
  have fin2 : Digit h l u d (q - 1) (r + h) → 0 < q → ¬ 4294967296 ≤ r + h → DgJ h l u d w [.int .u64 ((q : Int) - 1), .int .u64 ((r : Int) + h)] w ∧ ((q : Int) - 1).toNat < (q : Int).toNat := fun a b c => by
    rw [show (q : Int) - 1 = ((q - 1 : Nat) : Int) by omega, show (r : Int) + h = ((r + h : Nat) : Int) by omega]
    exact ⟨⟨rfl, _, _, rfl, a, by omega⟩, by omega⟩
  by_cases hb : 4294967296 ≤ q
  · have hT := hbig hb
    have hst := hstep hT
    have hps := hpos hT
    have hbr := hbr hT
    repeat (any_goals (first
    | (with_reducible first|((refine idGd ?_); ((refine idGdD ?_); refine zJ ?_))|((refine idPick ?_); refine yD ?_)|((refine idCond ?_); first|refine yL ?_|refine yP (fun hg=>?_) fun hg=>?_))
    | ((with_reducible refine idO ?_); (with_reducible refine oM_gen fun Kv hK=>?_); simp [go_sem, hb]; (try simp (disch := omega) only [wrapI64, wrapU8, wrapU32, wrapU64]); refine hK _ _ ?_; clear hK; clear Kv)))
    · exact fin1 hbr hps (by omega)
    · exact fin2 hst hps (by omega)
  · have hql := hql (by omega)
    by_cases hT : T
    · have hst := hstep hT
      have hps := hpos hT
      have hbr := hbr hT
      have htt := ht.2 hT
      repeat (any_goals (first
      | (with_reducible first|refine pureM_in ?_|((refine idGd ?_); ((refine idGdD ?_); refine zI ?_))|((refine idPick ?_); refine yE ?_)|((refine idCond ?_); first|refine yN ?_|refine yP (fun hg=>?_) fun hg=>?_))
      | ((with_reducible refine idO ?_); (with_reducible refine oM_gen fun Kv hK=>?_); simp [go_sem, hb, hmul]; (try simp (disch := omega) only [wrapI64, wrapU8, wrapU32, wrapU64]); refine hK _ _ ?_; clear hK; clear Kv)))
      · exact fin1 hbr hps (by omega)
      · exact fin2 hst hps (by omega)
    · have he := hend hT
      have htt : ¬ _ := fun h => hT (ht.1 h)
      repeat (any_goals (first
      | (with_reducible first|refine pureM_in ?_|((refine idGd ?_); ((refine idGdD ?_); refine zI ?_))|((refine idPick ?_); refine yE ?_)|((refine idCond ?_); refine yO ?_))
      | ((with_reducible refine idO ?_); (with_reducible refine oM_gen fun Kv hK=>?_); simp [go_sem, hb, hmul]; (try simp (disch := omega) only [wrapI64, wrapU8, wrapU32, wrapU64]); refine hK _ _ ?_; clear hK; clear Kv)))
      simp only [List.getD_cons_zero, List.getD_cons_succ]
      rw [he]
      exact hM _
theorem lead64_ok (x : Nat) (hx : x < 18446744073709551616) (h : ∀ L, BitLen x L → K (.int .i64 (64 - (L : Int))) w) : callM Tryz.prog 204 #[.int .u64 (x : Int)] K w := by
  apply sh_204_ok
  unfold sh_204
  refine len64_ok x hx ?_
  intro L hL
  have := hL.le
  repeat (any_goals ((with_reducible refine idO ?_); (with_reducible refine oM_gen fun Kv hK=>?_); simp [go_sem]; (try simp (disch := omega) only [wrapI64, wrapU8, wrapU32, wrapU64]); refine hK _ _ ?_; clear hK; clear Kv))
  exact h L hL
theorem norm_len (y L : Nat) (hy : 0 < y) (hL : BitLen y L) : 9223372036854775808 ≤ y * 2 ^ (64 - L) ∧ y * 2 ^ (64 - L) < 18446744073709551616 := by
  obtain ⟨a, b⟩ := hL.ge (by omega)
  have h64 := hL.le
  have h1 : 2 ^ (L - 1) * 2 ^ (64 - L) = 9223372036854775808 := by
    rw [← Nat.pow_add, show L - 1 + (64 - L) = 63 by omega]
  have h2 : 2 ^ L * 2 ^ (64 - L) = 18446744073709551616 := by
    rw [← Nat.pow_add, show L + (64 - L) = 64 by omega]
  have hp : 0 < 2 ^ (64 - L) := Nat.pow_pos (by omega)
  exact ⟨by rw [← h1]; exact Nat.mul_le_mul_right _ b, by rw [← h2]; exact (Nat.mul_lt_mul_right hp).2 hL.lt⟩
theorem norm_top (hi lo s : Nat) (hs : s ≤ 64) (hlo : lo < 18446744073709551616) : (hi * 2 ^ s + lo / 2 ^ (64 - s)) * 18446744073709551616 + lo * 2 ^ s % 18446744073709551616 = (hi * 18446744073709551616 + lo) * 2 ^ s ∧ lo / 2 ^ (64 - s) < 2 ^ s := by
  have h2 : 2 ^ (64 - s) * 2 ^ s = 18446744073709551616 := by rw [← Nat.pow_add, show 64 - s + s = 64 by omega]
  have hp : 0 < 2 ^ s := Nat.pow_pos (by omega)
  have hq : 0 < 2 ^ (64 - s) := Nat.pow_pos (by omega)
  have h3 : lo * 2 ^ s / 18446744073709551616 = lo / 2 ^ (64 - s) := by
    rw [← h2, Nat.mul_div_mul_right _ _ hp]
  have h4 := Nat.div_add_mod (lo * 2 ^ s) 18446744073709551616
  refine ⟨?_, ?_⟩
  · rw [h3] at h4
    rw [Nat.add_mul, Nat.add_mul, Nat.mul_right_comm hi, Nat.add_assoc, Nat.mul_comm (lo / _) 18446744073709551616, h4]
  · rw [Nat.div_lt_iff_lt_mul hq, Nat.mul_comm, h2]; exact hlo
def EqW (w : World) (l : List Value) (w' : World) : Prop := w' = w
def DgE (Q : Nat) (w : World) (l : List Value) (w' : World) : Prop := w' = w ∧ ∃ r : Nat, l = [.int .u64 (Q : Int), .int .u64 (r : Int)]
theorem left_wrap (X d Y Q U : Nat) (hs : Q * Y + U = X * 4294967296 + d) (hU : U < 18446744073709551616) : IntKind.u64.wrap (IntKind.u64.wrap (IntKind.u64.wrap ((X : Int) * 4294967296) + (d : Int)) - IntKind.u64.wrap ((Q : Int) * (Y : Int))) = (U : Int) := by
  have hm : (Q : Int) * (Y : Int) = ((Q * Y : Nat) : Int) := (Int.natCast_mul Q Y).symm
  rw [hm]
  generalize Q * Y = P at *
  simp only [IntKind.wrap_u64]
  omega
theorem half_div (X h : Nat) (hX : X < 18446744073709551616) (hh : 2147483648 ≤ h) : ∃ q p r : Nat, X / h = q ∧ q * h = p ∧ X - p = r ∧ p ≤ X ∧ q < 18446744073709551616 ∧ (X : Int).tdiv (h : Int) = (q : Int) ∧ (q : Int) * (h : Int) = (p : Int) ∧ (X : Int) - (p : Int) = (r : Int) := by
  have h1 := Nat.div_mul_le_self X h
  have h2 := Nat.div_le_self X h
  refine ⟨_, _, _, rfl, rfl, rfl, h1, by omega, ?_, (Int.natCast_mul _ _).symm, by omega⟩
  rw [Int.tdiv_eq_ediv_of_nonneg (by omega)]; rfl
set_option maxHeartbeats 1000000 in
theorem div64_ok (hi lo y : Nat) (hlt : hi < y) (hy : y < 18446744073709551616) (hlo : lo < 18446744073709551616) (k : ∀ (q : Int) w', Below w.heap.size w w' → K (.tuple #[.int .u64 q, .int .u64 (((hi * 18446744073709551616 + lo) % y : Nat) : Int)]) w') : callM Tryz.prog 183 #[.int .u64 (hi : Int), .int .u64 (lo : Int), .int .u64 (y : Int)] K w := by
  apply sh_183_ok
  unfold sh_183
  refine ⟨EqW w, ?_, ?_⟩
  · repeat (any_goals (first
    | (with_reducible ((refine idCond ?_); refine yO ?_))
    | ((with_reducible refine idO ?_); (with_reducible refine oM_gen fun Kv hK=>?_); simp [go_sem]; refine hK _ _ ?_; clear hK; clear Kv)))
    exact rfl
  rintro _ _ w1 e1
  rw [show w1 = w from e1]
  clear e1 w1
  refine ⟨EqW w, ?_, ?_⟩
  · repeat (any_goals (first
    | (with_reducible ((refine idCond ?_); refine yO ?_))
    | ((with_reducible refine idO ?_); (with_reducible refine oM_gen fun Kv hK=>?_); simp [go_sem]; refine hK _ _ ?_; clear hK; clear Kv)))
    exact rfl
  rintro _ _ w1 e1
  rw [show w1 = w from e1]
  clear e1 w1
  by_cases h0 : hi = 0
  · subst h0
    have k0 := k ((lo / y : Nat) : Int) _ (Below.drew (Below.refl _ w))
    have t1 : ((lo : Int).tdiv (y : Int)) = ((lo / y : Nat) : Int) := by rw [Int.tdiv_eq_ediv_of_nonneg (by omega)]; rfl
    have t2 : ((lo : Int).tmod (y : Int)) = ((lo % y : Nat) : Int) := by rw [Int.tmod_eq_emod_of_nonneg (by omega)]; rfl
    have t3 := Nat.div_le_self lo y
    simp only [Nat.zero_mul, Nat.zero_add] at k0
    generalize lo / y = a at *
    generalize lo % y = b at *
    repeat (any_goals (first
    | (with_reducible ((refine idCond ?_); refine yL ?_))
    | ((with_reducible refine idO ?_); (with_reducible refine oM_gen fun Kv hK=>?_); simp [go_sem, t1, t2]; refine hK _ _ ?_; clear hK; clear Kv)))
    refine quietM_one ?_
    repeat (any_goals (first
    | (with_reducible first|refine And.intro (Eq.refl (α := World) _) ?_|refine forall_one ?_)
    | ((with_reducible refine idOQ ?_); ((with_reducible refine oQ_one ?_ ?_); exact ⟨_, rfl⟩))
    | ((with_reducible refine idO ?_); (with_reducible refine oM_gen fun Kv hK=>?_); simp [go_sem, t1, t2]; (try simp (disch := omega) only [wrapI64, wrapU8, wrapU32, wrapU64]); refine And.intro (by omega) (hK _ _ ?_); clear hK; clear Kv)))
    exact k0
  obtain ⟨s, hs⟩ : ∃ s, s = 64 := ⟨_, rfl⟩
  repeat (any_goals (first
  | (with_reducible ((refine idCond ?_); refine yO ?_))
  | ((with_reducible refine idO ?_); (with_reducible refine oM_gen fun Kv hK=>?_); simp [go_sem]; refine hK _ _ ?_; clear hK; clear Kv)))
  refine lead64_ok y hy ?_
  intro L hL
  clear s hs
  have hn := norm_len y L (by omega) hL
  have hL64 := hL.le
  obtain ⟨s, hs⟩ : ∃ s, s = 64 - L := ⟨_, rfl⟩
  rw [← hs] at hn
  have hs64 : s ≤ 64 := by omega
  obtain ⟨hN, hB⟩ := norm_top hi lo s hs64 hlo
  have hres := norm_rest hi lo y s _ _ hN
  have hAB : hi * 2 ^ s + lo / 2 ^ (64 - s) < y * 2 ^ s := by
    have := Nat.mul_le_mul_right (2 ^ s) (show hi + 1 ≤ y by omega)
    rw [Nat.add_mul, Nat.one_mul] at this
    omega
  have hsub : (64 : Int) - (L : Int) = (s : Int) := by omega
  have hpow : ∀ a : Nat, (a : Int) * 2 ^ s = ((a * 2 ^ s : Nat) : Int) := fun a => by rw [Int.natCast_mul, Int.natCast_pow]; rfl
  have hdiv : ∀ a : Nat, (a : Int) / 2 ^ (64 - s) = ((a / 2 ^ (64 - s) : Nat) : Int) := fun a => by rw [Int.natCast_ediv, Int.natCast_pow]; rfl
  have hBi : ((lo / 2 ^ (64 - s) : Nat) : Int) < 2 ^ s := by
    have := Int.ofNat_lt.2 hB
    rw [Int.natCast_pow] at this
    exact this
  have hor := or_add64 s (hi : Int) ((lo / 2 ^ (64 - s) : Nat) : Int) hs64 (Int.natCast_nonneg _) ⟨Int.natCast_nonneg _, hBi⟩
  have hD : lo * 2 ^ s % 18446744073709551616 < 18446744073709551616 := Nat.mod_lt _ (by omega)
  have hDi : ((lo * 2 ^ s : Nat) : Int) % 18446744073709551616 = ((lo * 2 ^ s % 18446744073709551616 : Nat) : Int) := by rw [Int.natCast_emod]; rfl
  have hsub2 : ((64 : Int) - (s : Int)).toNat = 64 - s := by omega
  rw [hpow] at hor
  clear hN hB hBi hL
  generalize lo * 2 ^ s % 18446744073709551616 = D at *
  generalize hlo2 : lo * 2 ^ s = lo2 at *
  generalize hA : hi * 2 ^ s = A at *
  generalize hB : lo / 2 ^ (64 - s) = B at *
  generalize hY : y * 2 ^ s = Y at *
  have hor := hor (by omega)
  have hAm : (A : Int) % 18446744073709551616 = (A : Int) := by omega
  have hYm : (Y : Int) % 18446744073709551616 = (Y : Int) := by omega
  have hpa := hpow hi
  have hpl := hpow lo
  have hpy := hpow y
  have hdl := hdiv lo
  rw [hA] at hpa
  rw [hlo2] at hpl
  rw [hY] at hpy
  rw [hB] at hdl
  rw [hsub]
  obtain ⟨t, ht⟩ : ∃ t, t = 64 - s := ⟨_, rfl⟩
  have ht2 : (64 : Int) - (s : Int) = (t : Int) := by omega
  rw [← ht] at hdl
  have rl := fun x => oM_shl64 (P := Tryz.prog) 139 174 139 .u64 x (s : Int) (by omega) (by omega)
  have rr := fun x => oM_shr64 (P := Tryz.prog) 139 174 139 .u64 x (s : Int) (by omega) (by omega)
  have rt := fun x => oM_shr64 (P := Tryz.prog) 139 174 139 .u64 x (t : Int) (by omega) (by omega)
  simp only [Int.toNat_natCast] at rl rr rt
  obtain ⟨h, hh⟩ : ∃ h, h = Y / 4294967296 := ⟨_, rfl⟩
  obtain ⟨l, hl⟩ : ∃ l, l = Y % 4294967296 := ⟨_, rfl⟩
  obtain ⟨d1, hd1⟩ : ∃ d1, d1 = D / 4294967296 := ⟨_, rfl⟩
  obtain ⟨d0, hd0⟩ : ∃ d0, d0 = D % 4294967296 := ⟨_, rfl⟩
  obtain ⟨X, hX⟩ : ∃ X, X = A + B := ⟨_, rfl⟩
  have hhi : (Y : Int) / 4294967296 = (h : Int) := by omega
  have hli : bits .and .u64 (Y : Int) 4294967295 = (l : Int) := by rw [maskU Y (by omega), ← hl]
  have hd1i : (D : Int) / 4294967296 = (d1 : Int) := by omega
  have hd0i : bits .and .u64 (D : Int) 4294967295 = (d0 : Int) := by rw [maskU D (by omega), ← hd0]
  have hXi : (A : Int) + (B : Int) = (X : Int) := by omega
  have hhl : h * 4294967296 + l = Y := by omega
  rw [← hX, ← hd1, ← hd0] at hres
  obtain ⟨q1, p1, r1, e1, e2, e3, e4, e5, e6, e7, e8⟩ := half_div X h (by omega) (by omega)
  obtain ⟨Q, hQ⟩ : ∃ Q, Q = (X * 4294967296 + d1) / Y := ⟨_, rfl⟩
  obtain ⟨U, hU⟩ : ∃ U, U = (X * 4294967296 + d1) % Y := ⟨_, rfl⟩
  have hUY : U < Y := by rw [hU]; exact Nat.mod_lt _ (by omega)
  have dg := dg_ok (w := w) h l X d1 (DgE Q w) (by omega) (by omega) (by omega) (by omega) (by omega) (fun r => ⟨rfl, r, by rw [hhl, ← hQ]⟩)
  have lw := left_wrap X d1 Y Q U (by rw [hQ, hU]; exact Nat.div_add_mod' _ _) (by omega)
  obtain ⟨q2, p2, r2, f1, f2, f3, f4, f5, f6, f7, f8⟩ := half_div U h (by omega) (by omega)
  obtain ⟨Q2, hQ2⟩ : ∃ Q2, Q2 = (U * 4294967296 + d0) / Y := ⟨_, rfl⟩
  obtain ⟨R, hR⟩ : ∃ R, R = (U * 4294967296 + d0) % Y := ⟨_, rfl⟩
  have hRY : R < Y := by rw [hR]; exact Nat.mod_lt _ (by omega)
  have dg2 := dg_ok (w := w) h l U d0 (DgE Q2 w) (by omega) (by omega) (by omega) (by omega) (by omega) (fun r => ⟨rfl, r, by rw [hhl, ← hQ2]⟩)
  have lw2 := left_wrap U d0 Y Q2 R (by rw [hQ2, hR]; exact Nat.div_add_mod' _ _) (by omega)
  rw [← hU, ← hR] at hres
  rw [e1, e2, e3] at dg
  rw [f1, f2, f3] at dg2
  have hRi : (R : Int) / 2 ^ s = ((R / 2 ^ s : Nat) : Int) := by rw [Int.natCast_ediv, Int.natCast_pow]; rfl
  rw [hres] at hRi
  clear hres hR hU hQ hQ2 e1 e2 e3 f1 f2 f3 hh hl hd1 hd0 hX
  repeat (any_goals ((with_reducible refine idO ?_); (with_reducible refine oM_gen fun Kv hK=>?_); simp [go_sem, rl, rr, rt, ht2, hpa, hpl, hpy, hdl, hor, hAm, hYm, hDi, hXi, hhi, hli, hd1i, hd0i, e6, e7, e8]; (try simp (disch := omega) only [wrapI64, wrapU8, wrapU32, wrapU64]); (first|refine hK _ _ ?_|refine And.intro (by omega) (hK _ _ ?_)); clear hK; clear Kv))
  refine ⟨DgE Q w, dg, ?_⟩
  rintro _ _ w1 ⟨e1, r, rfl⟩
  rw [e1]
  clear e1 w1
  repeat (any_goals ((with_reducible refine idO ?_); (with_reducible refine oM_gen fun Kv hK=>?_); simp [go_sem, rl, rr, rt, lw, f6, f7, f8]; (try simp (disch := omega) only [wrapI64, wrapU8, wrapU32, wrapU64]); (first|refine hK _ _ ?_|refine And.intro (by omega) (hK _ _ ?_)); clear hK; clear Kv))
  refine ⟨DgE Q2 w, dg2, ?_⟩
  rintro _ _ w1 ⟨e1, r', rfl⟩
  rw [e1]
  clear e1 w1
  repeat (any_goals ((with_reducible refine idO ?_); (with_reducible refine oM_gen fun Kv hK=>?_); simp [go_sem, rl, rr, rt, lw2, hRi]; refine hK _ _ ?_; clear hK; clear Kv))
  exact k _ _ (Below.refl _ _)
end
end Go.Proofs
namespace Go.Proofs
open Go Go.Sh Go.RowKit FdSpec
set_option linter.unusedSimpArgs false
set_option linter.unusedVariables false
set_option maxRecDepth 10000
section
variable {K : Value → World → Prop} {w : World}
theorem rem64_ok (hi lo y : Nat) (hhi : hi < 18446744073709551616) (hy0 : 0 < y) (hy : y < 18446744073709551616) (hlo : lo < 18446744073709551616) (k : ∀ w', Below w.heap.size w w' → K (.int .u64 (((hi * 18446744073709551616 + lo) % y : Nat) : Int)) w') : callM Tryz.prog 140 #[.int .u64 (hi : Int), .int .u64 (lo : Int), .int .u64 (y : Int)] K w := by
  apply sh_140_ok
  unfold sh_140
  have e1 : (hi : Int).tmod (y : Int) = ((hi % y : Nat) : Int) := by rw [Int.tmod_eq_emod_of_nonneg (by omega)]; rfl
  have e2 : (hi % y * 18446744073709551616 + lo) % y = (hi * 18446744073709551616 + lo) % y := by
    rw [Nat.add_mod, Nat.mul_mod, Nat.mod_mod, ← Nat.mul_mod, ← Nat.add_mod]
  have hlt := Nat.mod_lt hi hy0
  rw [← e2] at k
  generalize hi % y = r at *
  repeat (any_goals ((with_reducible refine idO ?_); (with_reducible refine oM_gen fun Kv hK=>?_); simp [go_sem, e1]; refine And.intro (by omega) (hK _ _ ?_); clear hK; clear Kv))
  refine div64_ok r lo y hlt hy hlo ?_
  intro q w1 hb
  repeat (any_goals ((with_reducible refine idO ?_); (with_reducible refine oM_gen fun Kv hK=>?_); simp [go_sem]; refine hK _ _ ?_; clear hK; clear Kv))
  exact k _ hb
theorem product_ok (n a b : Int) (hn : okN n) (ha : 0 ≤ a ∧ a < n) (hb : 0 ≤ b ∧ b < n) (k : ∀ w', Below w.heap.size w w' → K (.int .u64 (a * b % n)) w') : callM Tryz.prog 86 #[.int .i64 n, .int .u64 a, .int .u64 b] K w := by
  apply sh_86_ok
  unfold sh_86
  obtain ⟨h1, h2⟩ := hn
  skip
  refine mul64_ok a b ⟨ha.1, by omega⟩ ⟨hb.1, by omega⟩ ?_
  obtain ⟨a, rfl⟩ := natN a ha.1
  obtain ⟨b, rfl⟩ := natN b hb.1
  obtain ⟨n, rfl⟩ := natN n (by omega)
  rw [mulU]
  have hab : a * b < 18446744073709551616 * 18446744073709551616 := Nat.mul_lt_mul'' (by omega) (by omega)
  have e1 : ((a * b : Nat) : Int) / 18446744073709551616 = ((a * b / 18446744073709551616 : Nat) : Int) := by omega
  have e2 : ((a * b : Nat) : Int) % 18446744073709551616 = ((a * b % 18446744073709551616 : Nat) : Int) := by omega
  have e3 : ((a * b % n : Nat) : Int) = (a : Int) * (b : Int) % (n : Int) := by rw [Int.natCast_emod, Int.natCast_mul]
  rw [e1, e2]
  have h5 : a * b / 18446744073709551616 * 18446744073709551616 + a * b % 18446744073709551616 = a * b := Nat.div_add_mod' _ _
  have h3 : a * b / 18446744073709551616 < 18446744073709551616 := by omega
  have h4 : a * b % 18446744073709551616 < 18446744073709551616 := by omega
  rw [← e3, ← h5] at k
  generalize a * b / 18446744073709551616 = hi at *
  generalize a * b % 18446744073709551616 = lo at *
  repeat (any_goals ((with_reducible refine idO ?_); (with_reducible refine oM_gen fun Kv hK=>?_); simp [go_sem]; (try simp (disch := omega) only [wrapI64, wrapU8, wrapU32, wrapU64]); refine hK _ _ ?_; clear hK; clear Kv))
  exact rem64_ok hi lo n h3 (by omega) (by omega) h4 k
end
end Go.Proofs
namespace Go.Proofs
open Go Go.Sh Go.RowKit FdSpec
set_option linter.unusedSimpArgs false
set_option linter.unusedVariables false
set_option maxRecDepth 10000
section
variable {K : Value → World → Prop} {w : World}
def PwJ (n R : Int) (w : World) (l : List Value) (w' : World) : Prop := Below w.heap.size w w' ∧ ∃ (out a : Int) (b : Nat), l = [.int .u64 out, .int .u64 a, .int .u64 (b : Int)] ∧ (0 ≤ out ∧ out < n) ∧ (0 ≤ a ∧ a < n) ∧ b < 18446744073709551616 ∧ out * a ^ b % n = R
def PwM (n R a : Int) (b : Nat) (w : World) (l : List Value) (w' : World) : Prop := Below w.heap.size w w' ∧ ∃ out : Int, l = [.int .u64 out] ∧ (0 ≤ out ∧ out < n) ∧ out * (a * a % n) ^ (b / 2) % n = R
def pwMu (l : List Value) (_ : World) : Nat := match l with | [_, _, .int _ b] => b.toNat | _ => 0
theorem pwMu_eq (x y : Value) (k : IntKind) (b : Int) (w : World) : pwMu [x, y, .int k b] w = b.toNat := rfl
theorem power_ok (n a : Int) (b : Nat) (hn : okN n) (ha : 0 ≤ a ∧ a < n) (hb : b < 18446744073709551616) (k : ∀ w', Below w.heap.size w w' → K (.int .u64 (pw n a b)) w') : callM Tryz.prog 83 #[.int .i64 n, .int .u64 a, .int .u64 (b : Int)] K w := by
  apply sh_83_ok
  unfold sh_83
  have hn' := hn
  obtain ⟨h1, h2⟩ := hn
  have e1 : (1 : Int).tmod n = 1 % n := Int.tmod_eq_emod_of_nonneg (by omega)
  have e2 := Int.emod_nonneg 1 (b := n) (by omega)
  have e3 := Int.emod_lt_of_pos 1 (b := n) (by omega)
  have e4 : 1 % n * a ^ b % n = pw n a b := by
    rw [Int.mul_emod, Int.emod_emod_of_dvd _ (Int.dvd_refl n), ← Int.mul_emod, Int.one_mul]; rfl
  generalize 1 % n = o at *
  repeat (any_goals ((with_reducible refine idO ?_); (with_reducible refine oM_gen fun Kv hK=>?_); simp [go_sem, e1]; (try simp (disch := omega) only [wrapI64, wrapU8, wrapU32, wrapU64]); (first|refine hK _ _ ?_|refine And.intro (by omega) (hK _ _ ?_)); clear hK; clear Kv))
  refine ⟨PwJ n (pw n a b) w, pwMu, ⟨Below.refl _ _, o, a, b, rfl, ⟨e2, e3⟩, ha, hb, e4⟩, ?_⟩
  generalize hR : pw n a b = R at *
  clear e1 e2 e3 e4 o hb ha
  rintro _ _ w1 ⟨hb1, out, x, c, rfl, ho, hx, hc, hinv⟩
  have hz := hb1.size
  by_cases h0 : c = 0
  · subst h0
    rw [Int.pow_zero, Int.mul_one, Int.emod_eq_of_lt ho.1 ho.2] at hinv
    repeat (any_goals (first
    | (with_reducible ((refine idCond ?_); refine yM ?_))
    | ((with_reducible refine idO ?_); (with_reducible refine oM_gen fun Kv hK=>?_); simp [go_sem]; refine hK _ _ ?_; clear hK; clear Kv)))
    rw [hinv]
    exact k _ hb1
  · have hm : bits .and .u64 (c : Int) 1 = ((c % 2 : Nat) : Int) := by
      rw [mask64 1 c 1 (by omega) (by decide) (by omega)]; omega
    have hsh : (c : Int) / 2 = ((c / 2 : Nat) : Int) := by omega
    have h1 := pw_even n x out c
    have h3 := pw_odd n x out c
    obtain ⟨m, hm2⟩ : ∃ m, m = c % 2 := ⟨_, rfl⟩
    rw [← hm2] at hm h1 h3
    obtain ⟨d, hd⟩ : ∃ d, d = c / 2 := ⟨_, rfl⟩
    rw [← hd] at hsh h1 h3
    repeat (any_goals (first
    | (with_reducible ((refine idCond ?_); refine yN ?_))
    | ((with_reducible refine idO ?_); (with_reducible refine oM_gen fun Kv hK=>?_); simp [go_sem]; refine hK _ _ ?_; clear hK; clear Kv)))
    refine ⟨PwM n R x c w, ?_, ?_⟩
    · repeat (any_goals (first
      | (with_reducible ((refine idCond ?_); refine yP (fun hg=>?_) fun hg=>?_))
      | ((with_reducible refine idO ?_); (with_reducible refine oM_gen fun Kv hK=>?_); simp [go_sem, hm]; refine hK _ _ ?_; clear hK; clear Kv)))
      · refine product_ok n out x hn' ho hx ?_
        intro w2 hb2
        skip
        refine ⟨hb1.trans (hb2.mono hz), _, rfl, ⟨Int.emod_nonneg _ (by omega), Int.emod_lt_of_pos _ (by omega)⟩, ?_⟩
        rw [← hd, h3 (by omega)]; exact hinv
      · refine ⟨hb1, _, rfl, ho, ?_⟩
        rw [← hd, h1 (by omega)]; exact hinv
    · rintro _ _ w2 ⟨hb2, out', rfl, ho', hi'⟩
      have hz2 := hb2.size
      refine product_ok n x x hn' hx hx ?_
      intro w3 hb3
      repeat (any_goals ((with_reducible refine idO ?_); (with_reducible refine oM_gen fun Kv hK=>?_); simp [go_sem, hsh]; refine hK _ _ ?_; clear hK; clear Kv))
      refine ⟨⟨hb2.trans (hb3.mono hz2), _, _, _, rfl, ho', ⟨Int.emod_nonneg _ (by omega), Int.emod_lt_of_pos _ (by omega)⟩, by omega, by rw [hd]; exact hi'⟩, ?_⟩
      simp only [pwMu_eq]
      omega
theorem Add_ok (n a b : Int) (h : K (.int .i64 (addM n a b)) w) : callM Tryz.prog 26 #[.int .i64 n, .int .i64 a, .int .i64 b] K w := by
  apply sh_26_ok
  unfold sh_26
  refine valid_ok n ?_
  by_cases hn : okN n
  · have hn' := hn
    obtain ⟨h1, h2⟩ := hn'
    have ha := Int.emod_nonneg a (b := n) (by omega)
    have ha2 := Int.emod_lt_of_pos a (b := n) (by omega)
    have hb := Int.emod_nonneg b (b := n) (by omega)
    have hb2 := Int.emod_lt_of_pos b (b := n) (by omega)
    have e := addM_eq n a b hn
    have e2 := addM_range n a b hn
    have e1 : (a % n + b % n).tmod n = (a % n + b % n) % n := Int.tmod_eq_emod_of_nonneg (by omega)
    rw [e] at e1
    repeat (any_goals (first
    | (with_reducible ((refine idCond ?_); refine yM ?_))
    | ((with_reducible refine idO ?_); (with_reducible refine oM_gen fun Kv hK=>?_); simp [go_sem, hn]; refine hK _ _ ?_; clear hK; clear Kv)))
    refine residue_ok n a hn ?_
    refine residue_ok n b hn ?_
    generalize a % n = x at *
    generalize b % n = y at *
    generalize addM n a b = z at *
    repeat (any_goals ((with_reducible refine idO ?_); (with_reducible refine oM_gen fun Kv hK=>?_); simp [go_sem, e1]; (try simp (disch := omega) only [wrapI64, wrapU8, wrapU32, wrapU64]); (first|refine hK _ _ ?_|refine And.intro (by omega) (hK _ _ ?_)); clear hK; clear Kv))
    exact h
  · rw [addM, if_neg hn] at h
    repeat (any_goals (first
    | (with_reducible ((refine idCond ?_); refine yL ?_))
    | ((with_reducible refine idO ?_); (with_reducible refine oM_gen fun Kv hK=>?_); simp [go_sem, hn]; refine hK _ _ ?_; clear hK; clear Kv)))
    exact h
theorem Sub_ok (n a b : Int) (h : K (.int .i64 (subM n a b)) w) : callM Tryz.prog 28 #[.int .i64 n, .int .i64 a, .int .i64 b] K w := by
  apply sh_28_ok
  unfold sh_28
  refine valid_ok n ?_
  by_cases hn : okN n
  · have hn' := hn
    obtain ⟨h1, h2⟩ := hn'
    have ha := Int.emod_nonneg a (b := n) (by omega)
    have ha2 := Int.emod_lt_of_pos a (b := n) (by omega)
    have hb := Int.emod_nonneg b (b := n) (by omega)
    have hb2 := Int.emod_lt_of_pos b (b := n) (by omega)
    have e := subM_eq n a b hn
    have e2 := subM_range n a b hn
    have e1 : (a % n + n - b % n).tmod n = (a % n + n - b % n) % n := Int.tmod_eq_emod_of_nonneg (by omega)
    rw [e] at e1
    repeat (any_goals (first
    | (with_reducible ((refine idCond ?_); refine yM ?_))
    | ((with_reducible refine idO ?_); (with_reducible refine oM_gen fun Kv hK=>?_); simp [go_sem, hn]; refine hK _ _ ?_; clear hK; clear Kv)))
    refine residue_ok n a hn ?_
    repeat (any_goals ((with_reducible refine idO ?_); (with_reducible refine oM_gen fun Kv hK=>?_); simp [go_sem]; (try simp (disch := omega) only [wrapI64, wrapU8, wrapU32, wrapU64]); refine hK _ _ ?_; clear hK; clear Kv))
    refine residue_ok n b hn ?_
    generalize a % n = x at *
    generalize b % n = y at *
    generalize subM n a b = z at *
    repeat (any_goals ((with_reducible refine idO ?_); (with_reducible refine oM_gen fun Kv hK=>?_); simp [go_sem, e1]; (try simp (disch := omega) only [wrapI64, wrapU8, wrapU32, wrapU64]); (first|refine hK _ _ ?_|refine And.intro (by omega) (hK _ _ ?_)); clear hK; clear Kv))
    exact h
  · rw [subM, if_neg hn] at h
    repeat (any_goals (first
    | (with_reducible ((refine idCond ?_); refine yL ?_))
    | ((with_reducible refine idO ?_); (with_reducible refine oM_gen fun Kv hK=>?_); simp [go_sem, hn]; refine hK _ _ ?_; clear hK; clear Kv)))
    exact h
theorem Mul_ok (n a b : Int) (k : ∀ w', Below w.heap.size w w' → K (.int .i64 (mulM n a b)) w') : callM Tryz.prog 27 #[.int .i64 n, .int .i64 a, .int .i64 b] K w := by
  apply sh_27_ok
  unfold sh_27
  refine valid_ok n ?_
  by_cases hn : okN n
  · have hn' := hn
    obtain ⟨h1, h2⟩ := hn'
    have ha := Int.emod_nonneg a (b := n) (by omega)
    have ha2 := Int.emod_lt_of_pos a (b := n) (by omega)
    have hb := Int.emod_nonneg b (b := n) (by omega)
    have hb2 := Int.emod_lt_of_pos b (b := n) (by omega)
    have e := mulM_eq n a b hn
    have e2 := mulM_range n a b hn
    repeat (any_goals (first
    | (with_reducible ((refine idCond ?_); refine yM ?_))
    | ((with_reducible refine idO ?_); (with_reducible refine oM_gen fun Kv hK=>?_); simp [go_sem, hn]; refine hK _ _ ?_; clear hK; clear Kv)))
    refine residue_ok n a hn ?_
    refine residue_ok n b hn ?_
    refine product_ok n _ _ hn ⟨ha, ha2⟩ ⟨hb, hb2⟩ ?_
    intro w1 hb1
    rw [e]
    have k := k w1 hb1
    generalize mulM n a b = z at *
    repeat (any_goals ((with_reducible refine idO ?_); (with_reducible refine oM_gen fun Kv hK=>?_); simp [go_sem]; (try simp (disch := omega) only [wrapI64, wrapU8, wrapU32, wrapU64]); refine hK _ _ ?_; clear hK; clear Kv))
    exact k
  · rw [mulM, if_neg hn] at k
    repeat (any_goals (first
    | (with_reducible ((refine idCond ?_); refine yL ?_))
    | ((with_reducible refine idO ?_); (with_reducible refine oM_gen fun Kv hK=>?_); simp [go_sem, hn]; refine hK _ _ ?_; clear hK; clear Kv)))
    exact k _ (Below.refl _ _)
end
end Go.Proofs
namespace Go.Proofs
open Go Go.Sh Go.RowKit FdSpec
set_option linter.unusedSimpArgs false
set_option linter.unusedVariables false
set_option maxRecDepth 10000
section
variable {K : Value → World → Prop} {w : World}
def InJ (n : Int) (E : Int × Int) (w : World) (l : List Value) (w' : World) : Prop := Below w.heap.size w w' ∧ ∃ (v : Value) (r s x y : Int), l = [v, .int .i64 r, .int .i64 s, .int .i64 x, .int .i64 y] ∧ (0 ≤ s ∧ s < n) ∧ (0 ≤ r ∧ r ≤ n) ∧ (0 ≤ x ∧ x < 2305843009213693952) ∧ (0 ≤ y ∧ y < 2305843009213693952) ∧ eucAll n r s x y = E
def inMu (l : List Value) (_ : World) : Nat := match l with | [_, _, .int _ s, _, _] => s.toNat | _ => 0
theorem inMu_eq (v r x y : Value) (k : IntKind) (s : Int) (w : World) : inMu [v, r, .int k s, x, y] w = s.toNat := rfl
theorem eucAll_zero (n r x y : Int) : eucAll n r 0 x y = (r, x) := euc_zero n _ r x y
theorem Inv_ok (n a : Int) (k : ∀ w', Below w.heap.size w w' → K (.tuple #[.int .i64 ((invM n a).getD 0), .bool (invM n a).isSome]) w') : callM Tryz.prog 172 #[.int .i64 n, .int .i64 a] K w := by
  apply sh_172_ok
  unfold sh_172
  refine valid_ok n ?_
  by_cases hn : okN n
  · have hn' := hn
    obtain ⟨h1, h2⟩ := hn'
    have ha := Int.emod_nonneg a (b := n) (by omega)
    have ha2 := Int.emod_lt_of_pos a (b := n) (by omega)
    have kk : ∀ r x w', (r, x) = eucAll n n (a % n) 0 1 → Below w.heap.size w w' → K (.tuple #[.int .i64 (if r = 1 then x % n else 0), .bool (decide (r = 1))]) w' := fun r x w' e hb => by
      have k := k w' hb
      unfold invM at k
      rw [if_pos hn, ← e] at k
      by_cases hr : r = 1
      · simpa [hr] using k
      · simpa [hr] using k
    clear k
    repeat (any_goals (first
    | (with_reducible ((refine idCond ?_); refine yM ?_))
    | ((with_reducible refine idO ?_); (with_reducible refine oM_gen fun Kv hK=>?_); simp [go_sem, hn]; refine hK _ _ ?_; clear hK; clear Kv)))
    refine residue_ok n a hn ?_
    generalize a % n = s0 at *
    generalize hE : eucAll n n s0 0 1 = E at *
    repeat (any_goals ((with_reducible refine idO ?_); (with_reducible refine oM_gen fun Kv hK=>?_); simp [go_sem]; (try simp (disch := omega) only [wrapI64, wrapU8, wrapU32, wrapU64]); refine hK _ _ ?_; clear hK; clear Kv))
    refine ⟨InJ n E w, inMu, ⟨Below.refl _ _, _, n, s0, 0, 1, rfl, ⟨ha, ha2⟩, ⟨by omega, by omega⟩, ⟨by omega, by omega⟩, ⟨by omega, by omega⟩, hE⟩, ?_⟩
    clear hE ha ha2 s0
    rintro _ _ w1 ⟨hb1, v, r, s, x, y, rfl, hs, hr, hx, hy, he⟩
    have hz := hb1.size
    by_cases h0 : s = 0
    · subst h0
      rw [eucAll_zero] at he
      have kk := kk r x w1 he hb1
      have e1 : x.tmod n = x % n := Int.tmod_eq_emod_of_nonneg hx.1
      by_cases hr1 : r = 1
      · simp only [hr1] at kk
        repeat (any_goals (first
        | (with_reducible ((refine idCond ?_); refine yM ?_))
        | ((with_reducible refine idO ?_); (with_reducible refine oM_gen fun Kv hK=>?_); simp [go_sem, hr1, e1]; (first|refine hK _ _ ?_|refine And.intro (by omega) (hK _ _ ?_)); clear hK; clear Kv)))
        simpa using kk
      · simp only [hr1] at kk
        repeat (any_goals (first
        | (with_reducible ((refine idCond ?_); first|refine yL ?_|refine yM ?_))
        | ((with_reducible refine idO ?_); (with_reducible refine oM_gen fun Kv hK=>?_); simp [go_sem, hr1]; refine hK _ _ ?_; clear hK; clear Kv)))
        simpa using kk
    · rw [euc_step n r s x y (by omega)] at he
      have q1 : r.tdiv s = r / s := Int.tdiv_eq_ediv_of_nonneg hr.1
      have q2 := Int.emod_add_mul_ediv r s
      have q3 := Int.emod_nonneg r (b := s) (by omega)
      have q4 := Int.emod_lt_of_pos r (b := s) (by omega)
      have q5 : 0 ≤ r / s := Int.ediv_nonneg hr.1 hs.1
      have q6 : r / s ≤ r := Int.ediv_le_self _ hr.1
      have q7 : r / s * s = r - r % s := by rw [Int.mul_comm]; omega
      have m1 := mulM_range n (r / s) y hn
      have m2 := subM_range n x (mulM n (r / s) y) hn
      generalize r % s = t at *
      generalize r / s = q at *
      clear q2
      have q8 : r - (r - t) = t := by omega
      repeat (any_goals (first
      | (with_reducible ((refine idCond ?_); refine yQ ?_))
      | ((with_reducible refine idO ?_); (with_reducible refine oM_gen fun Kv hK=>?_); simp [go_sem, q1, q7, q8]; (try simp (disch := omega) only [wrapI64, wrapU8, wrapU32, wrapU64]); (first|refine hK _ _ ?_|refine And.intro (by omega) (hK _ _ ?_)); clear hK; clear Kv)))
      refine Mul_ok n q y (fun w2 hb2 => ?_)
      refine Sub_ok n x _ ?_
      generalize subM n x (mulM n q y) = z at *
      skip
      refine ⟨⟨hb1.trans (hb2.mono hz), _, s, t, y, z, rfl, ⟨q3, by omega⟩, ⟨hs.1, by omega⟩, hy, ⟨m2.1, by omega⟩, he⟩, ?_⟩
      simp only [inMu_eq]
      omega
  · have k := k _ (Below.refl _ _)
    unfold invM at k
    rw [if_neg hn] at k
    repeat (any_goals (first
    | (with_reducible ((refine idCond ?_); refine yL ?_))
    | ((with_reducible refine idO ?_); (with_reducible refine oM_gen fun Kv hK=>?_); simp [go_sem, hn]; refine hK _ _ ?_; clear hK; clear Kv)))
    exact k
theorem Pow_ok (n a b : Int) (hbr : -9223372036854775808 ≤ b ∧ b < 9223372036854775808) (k : ∀ w', Below w.heap.size w w' → K (.int .i64 (powM n a b)) w') : callM Tryz.prog 127 #[.int .i64 n, .int .i64 a, .int .i64 b] K w := by
  apply sh_127_ok
  unfold sh_127
  refine valid_ok n ?_
  unfold powM at k
  by_cases hn : okN n
  · have hn' := hn
    obtain ⟨h1, h2⟩ := hn'
    rw [if_pos hn] at k
    by_cases h0 : 0 ≤ b
    · rw [if_pos h0] at k
      have ha := Int.emod_nonneg a (b := n) (by omega)
      have ha2 := Int.emod_lt_of_pos a (b := n) (by omega)
      obtain ⟨c, rfl⟩ := natN b h0
      rw [Int.toNat_natCast, ← pw_emod] at k
      repeat (any_goals (first
      | (with_reducible ((refine idCond ?_); first|refine yL ?_|refine yM ?_))
      | ((with_reducible refine idO ?_); (with_reducible refine oM_gen fun Kv hK=>?_); simp [go_sem, hn]; refine hK _ _ ?_; clear hK; clear Kv)))
      refine residue_ok n a hn ?_
      generalize a % n = x at *
      repeat (any_goals ((with_reducible refine idO ?_); (with_reducible refine oM_gen fun Kv hK=>?_); simp [go_sem]; (try simp (disch := omega) only [wrapI64, wrapU8, wrapU32, wrapU64]); refine hK _ _ ?_; clear hK; clear Kv))
      refine power_ok n x c hn ⟨ha, ha2⟩ (by omega) (fun w1 hb1 => ?_)
      have hr := pw_nonneg n x c (by omega)
      have k := k w1 hb1
      generalize pw n x c = z at *
      repeat (any_goals ((with_reducible refine idO ?_); (with_reducible refine oM_gen fun Kv hK=>?_); simp [go_sem]; (try simp (disch := omega) only [wrapI64, wrapU8, wrapU32, wrapU64]); refine hK _ _ ?_; clear hK; clear Kv))
      exact k
    · rw [if_neg h0] at k
      repeat (any_goals (first
      | (with_reducible ((refine idCond ?_); first|refine yM ?_|refine yO ?_))
      | ((with_reducible refine idO ?_); (with_reducible refine oM_gen fun Kv hK=>?_); simp [go_sem, hn]; refine hK _ _ ?_; clear hK; clear Kv)))
      refine Inv_ok n a (fun w1 hb1 => ?_)
      have hz := hb1.size
      cases hi : invM n a with
      | none =>
        rw [hi] at k
        have k := k w1 hb1
        repeat (any_goals (first
        | (with_reducible ((refine idCond ?_); refine yL ?_))
        | ((with_reducible refine idO ?_); (with_reducible refine oM_gen fun Kv hK=>?_); simp [go_sem]; refine hK _ _ ?_; clear hK; clear Kv)))
        exact k
      | some x =>
        rw [hi] at k
        have hx : 0 ≤ x ∧ x < n := by
          unfold invM at hi
          rw [if_pos hn] at hi
          split at hi
          · cases hi; exact ⟨Int.emod_nonneg _ (by omega), Int.emod_lt_of_pos _ (by omega)⟩
          · cases hi
        obtain ⟨c, hc⟩ := natN (-b) (by omega)
        rw [hc, Int.toNat_natCast] at k
        have hw : IntKind.u64.wrap (-(IntKind.u64.wrap b)) = (c : Int) := by
          simp only [IntKind.wrap_u64]; omega
        have hw2 : b % 18446744073709551616 = b + 18446744073709551616 := by omega
        simp only [Option.getD_some, Option.isSome_some]
        repeat (any_goals (first
        | (with_reducible ((refine idCond ?_); refine yM ?_))
        | ((with_reducible refine idO ?_); (with_reducible refine oM_gen fun Kv hK=>?_); simp [go_sem, hw]; (try simp (disch := omega) only [wrapI64, wrapU8, wrapU32, wrapU64]); refine hK _ _ ?_; clear hK; clear Kv)))
        refine power_ok n x c hn hx (by omega) (fun w2 hb2 => ?_)
        have hr := pw_nonneg n x c (by omega)
        have k : K (.int .i64 (pw n x c)) w2 := k w2 (hb1.trans (hb2.mono hz))
        generalize pw n x c = z at *
        repeat (any_goals ((with_reducible refine idO ?_); (with_reducible refine oM_gen fun Kv hK=>?_); simp [go_sem]; (try simp (disch := omega) only [wrapI64, wrapU8, wrapU32, wrapU64]); refine hK _ _ ?_; clear hK; clear Kv))
        exact k
  · rw [if_neg hn] at k
    repeat (any_goals (first
    | (with_reducible ((refine idCond ?_); refine yL ?_))
    | ((with_reducible refine idO ?_); (with_reducible refine oM_gen fun Kv hK=>?_); simp [go_sem, hn]; refine hK _ _ ?_; clear hK; clear Kv)))
    exact k _ (Below.refl _ _)
end
end Go.Proofs
namespace Go.Proofs
open Go Go.Sh Go.RowKit FdSpec
set_option linter.unusedSimpArgs false
set_option linter.unusedVariables false
set_option maxRecDepth 10000
section
variable {K : Value → World → Prop} {w : World}
def DbT (w : World) : Prop := 2 < w.heap.size ∧ ∀ j, j < 64 → w.cell? ⟨2, j, none⟩ = some (.int .u8 (Lib.deBruijn64tab.getD j 0 : Nat))
theorem DbT.below {w w' : World} {B : Nat} (h : DbT w) (hb : Below B w w') (hB : w.heap.size ≤ B) : DbT w' :=
  ⟨Nat.lt_of_lt_of_le h.1 hb.size, fun j hj => by rw [hb.cell (show 2 < B from Nat.lt_of_lt_of_le h.1 hB)]; exact h.2 j hj⟩
theorem tz_ctz (k m : Nat) : tz k m = Lib.ctzFrom k m := by
  induction k generalizing m with
  | zero => rfl
  | succ k ih =>
    unfold tz Lib.ctzFrom
    rw [ih]
    by_cases h : m % 2 = 0
    · rw [if_pos h, if_neg (by omega), Nat.add_comm]
    · rw [if_neg h, if_pos (by omega)]
theorem tz_key (q : Nat) : IntKind.u64.wrap ((q : Int) * 285870213051353865) / 288230376151711744 = ((q * 285870213051353865 % 18446744073709551616 / 288230376151711744 : Nat) : Int) := by
  rw [IntKind.wrap_u64]; omega
theorem idx_tab {j : Nat} (hj : j < 64) (w : World) : (Instr.indexAt 243 (.pointer (some ⟨2, 0, none⟩)) (.int .u64 j)).run Tryz.prog w = .ok (.pointer (some ⟨2, j, none⟩)) w := by
  rw [run_indexAt_array (h := by kernel_rfl)]
  have hs : (sizeOf (Tryz.prog.elem 243)).run Tryz.prog w = .ok 1 w := by kernel_rfl
  have hl : Tryz.prog.arrayLen 243 = 64 := by kernel_rfl
  rw [hl, if_pos (by omega), hs]
  simp only [Result.andThen, Int.toNat_natCast, add_none, Nat.zero_add, Nat.mul_one]
theorem tz64_ok (x : Nat) (hx0 : 0 < x) (hx : x < 18446744073709551616) (hT : DbT w) (h : K (.int .i64 (tz 64 x : Nat)) w) : callM Tryz.prog 220 #[.int .u64 (x : Int)] K w := by
  apply sh_220_ok
  unfold sh_220
  obtain ⟨hlow, hk⟩ := Lib.lowest_bit 64 x (by omega) (by omega)
  obtain ⟨hi, htab⟩ := Lib.deBruijn64_at _ hk
  have e0 : Lib.ctz 64 x = tz 64 x := by rw [tz_ctz, Lib.ctz, if_neg (by omega)]
  rw [e0] at hlow htab hi
  have e1 : IntKind.u64.wrap (-(x : Int)) = ((18446744073709551616 - x : Nat) : Int) := by rw [IntKind.wrap_u64]; omega
  have e2 : bits .and .u64 (x : Int) ((18446744073709551616 - x : Nat) : Int) = ((2 ^ tz 64 x : Nat) : Int) := by
    rw [bits_and64 _ _ (by omega) (by omega), Int.toNat_natCast, Int.toNat_natCast]
    exact congrArg _ hlow
  have e3 := tz_key (2 ^ tz 64 x)
  have hc := hT.2 _ hi
  rw [htab] at hc
  have hix := idx_tab hi w
  generalize 2 ^ tz 64 x * 285870213051353865 % 18446744073709551616 / 288230376151711744 = j at *
  generalize (2 ^ tz 64 x : Nat) = q at *
  have hk2 : tz 64 x < 64 := by rw [← e0]; exact hk
  generalize tz 64 x = t at *
  repeat (any_goals (first
  | (rw [oM_indexAddr, hix, rM_ok])
  | (with_reducible ((refine idCond ?_); refine yO ?_))
  | ((with_reducible refine idO ?_); (with_reducible refine oM_gen fun Kv hK=>?_); simp [go_sem, e1, e2, e3, hc]; (try simp (disch := omega) only [wrapI64, wrapU8, wrapU32, wrapU64]); refine hK _ _ ?_; clear hK; clear Kv)))
  exact h
end
end Go.Proofs
namespace Go.Proofs
open Go Go.Sh Go.RowKit FdSpec
set_option linter.unusedSimpArgs false
set_option linter.unusedVariables false
set_option maxRecDepth 10000
section
variable {K : Value → World → Prop} {w : World}
def WiJ (n : Int) (k : Nat) (R : Bool) (w : World) (l : List Value) (w' : World) : Prop := Below w.heap.size w w' ∧ ∃ (v : Value) (x : Int) (i : Nat), l = [v, .int .u64 x, .int .i64 (i : Int)] ∧ i ≤ k ∧ (0 ≤ x ∧ x < n) ∧ mrUp n (k - i) x = R
def wiMu (k : Nat) (l : List Value) (_ : World) : Nat := match l with | [_, _, .int _ i] => k - i.toNat | _ => 0
theorem wiMu_eq (k : Nat) (x y : Value) (q : IntKind) (i : Int) (w : World) : wiMu k [x, y, .int q i] w = k - i.toNat := rfl
theorem witness_ok (n b : Int) (hn : okN n) (h2 : 2 ≤ n) (hb : 0 ≤ b ∧ b < n) (hT : DbT w) (k : ∀ w', Below w.heap.size w w' → K (.bool (!passes n b)) w') : callM Tryz.prog 202 #[.int .i64 n, .int .u64 b] K w := by
  apply sh_202_ok
  unfold sh_202
  have hn' := hn
  obtain ⟨h1, h3⟩ := hn'
  obtain ⟨m, hm⟩ := natN (n - 1) (by omega)
  have hm2 : (n - 1).toNat = m := by omega
  have ht := tz_lt 64 m (by omega) (by omega)
  obtain ⟨t, htt⟩ : ∃ t, t = tz 64 m := ⟨_, rfl⟩
  have ht64 : t < 64 := by rw [htt]; exact ht.1
  clear ht
  have hsh : ((m : Int)) / 2 ^ t = ((m / 2 ^ t : Nat) : Int) := by rw [Int.natCast_ediv, Int.natCast_pow]; rfl
  have hdl := Nat.div_le_self m (2 ^ t)
  have rr := fun x => oM_shr64 (P := Tryz.prog) 139 3 139 .i64 x (t : Int) (by omega) (by omega)
  simp only [Int.toNat_natCast] at rr
  repeat (any_goals ((with_reducible refine idO ?_); (with_reducible refine oM_gen fun Kv hK=>?_); simp [go_sem, hm]; (try simp (disch := omega) only [wrapI64, wrapU8, wrapU32, wrapU64]); refine hK _ _ ?_; clear hK; clear Kv))
  refine tz64_ok m (by omega) (by omega) hT ?_
  rw [← htt]
  obtain ⟨d, hd⟩ : ∃ d, d = m / 2 ^ t := ⟨_, rfl⟩
  rw [← hd] at hsh hdl
  have k : ∀ w', Below w.heap.size w w' → K (.bool (!(if pw n b d = 1 then true else mrUp n t (pw n b d)))) w' := by
    rw [hd, htt, ← hm2]; exact k
  have hp := pw_nonneg n b d (by omega)
  repeat (any_goals ((with_reducible refine idO ?_); (with_reducible refine oM_gen fun Kv hK=>?_); simp [go_sem, hm, rr, hsh]; (try simp (disch := omega) only [wrapI64, wrapU8, wrapU32, wrapU64]); refine hK _ _ ?_; clear hK; clear Kv))
  refine power_ok n b d hn hb (by omega) (fun w1 hb1 => ?_)
  generalize pw n b d = x at *
  have hz := hb1.size
  by_cases hx1 : x = 1
  · have k : K (.bool false) w1 := by
      have k := k w1 hb1
      rw [if_pos hx1] at k
      exact k
    rw [hx1]
    clear rr hsh hdl
    repeat (any_goals (first
    | (with_reducible ((refine idCond ?_); refine yL ?_))
    | ((with_reducible refine idO ?_); (with_reducible refine oM_gen fun Kv hK=>?_); simp [go_sem]; refine hK _ _ ?_; clear hK; clear Kv)))
    exact k
  · have k : ∀ w', Below w.heap.size w w' → K (.bool (!mrUp n t x)) w' := fun w' hb => by
      have k := k w' hb
      rw [if_neg hx1] at k
      exact k
    clear rr hsh hdl
    repeat (any_goals (first
    | (with_reducible ((refine idCond ?_); refine yM ?_))
    | ((with_reducible refine idO ?_); (with_reducible refine oM_gen fun Kv hK=>?_); simp [go_sem, hx1]; refine hK _ _ ?_; clear hK; clear Kv)))
    refine ⟨WiJ n t (mrUp n t x) w, wiMu t, ⟨hb1, _, x, 0, rfl, by omega, hp, rfl⟩, ?_⟩
    generalize mrUp n t x = R at *
    clear hp hx1 hb1 hz w1
    rintro _ _ w1 ⟨hb1, v, y, i, rfl, hi, hx, hR⟩
    have hz := hb1.size
    by_cases hit : i = t
    · subst hit
      rw [Nat.sub_self] at hR
      have hR2 : R = false := by rw [← hR]; rfl
      subst hR2
      repeat (any_goals (first
      | (with_reducible ((refine idCond ?_); refine yM ?_))
      | ((with_reducible refine idO ?_); (with_reducible refine oM_gen fun Kv hK=>?_); simp [go_sem]; refine hK _ _ ?_; clear hK; clear Kv)))
      exact k _ hb1
    · obtain ⟨j, hj⟩ : ∃ j, t - i = j + 1 := ⟨t - i - 1, by omega⟩
      rw [hj] at hR
      unfold mrUp at hR
      by_cases hxn : y = n - 1
      · rw [if_pos hxn] at hR
        subst hR
        have k := k _ hb1
        rw [hm] at hxn
        repeat (any_goals (first
        | (with_reducible ((refine idCond ?_); first|refine yL ?_|refine yN ?_))
        | ((with_reducible refine idO ?_); (with_reducible refine oM_gen fun Kv hK=>?_); simp [go_sem, hm, hxn]; (try simp (disch := omega) only [wrapI64, wrapU8, wrapU32, wrapU64]); refine hK _ _ ?_; clear hK; clear Kv)))
        simpa using k
      · rw [if_neg hxn] at hR
        rw [hm] at hxn
        repeat (any_goals (first
        | (with_reducible ((refine idCond ?_); first|refine yM ?_|refine yN ?_))
        | ((with_reducible refine idO ?_); (with_reducible refine oM_gen fun Kv hK=>?_); simp [go_sem, hm, hxn]; (try simp (disch := omega) only [wrapI64, wrapU8, wrapU32, wrapU64]); refine hK _ _ ?_; clear hK; clear Kv)))
        refine product_ok n y y hn hx hx (fun w2 hb2 => ?_)
        repeat (any_goals ((with_reducible refine idO ?_); (with_reducible refine oM_gen fun Kv hK=>?_); simp [go_sem]; (try simp (disch := omega) only [wrapI64, wrapU8, wrapU32, wrapU64]); refine hK _ _ ?_; clear hK; clear Kv))
        refine ⟨⟨hb1.trans (hb2.mono hz), _, _, i + 1, rfl, by omega, ⟨Int.emod_nonneg _ (by omega), Int.emod_lt_of_pos _ (by omega)⟩, ?_⟩, ?_⟩
        · rw [show t - (i + 1) = j by omega]; exact hR
        · simp only [wiMu_eq]; omega
end
end Go.Proofs
namespace Go.Proofs
open Go Go.Sh Go.RowKit FdSpec
set_option linter.unusedSimpArgs false
set_option linter.unusedVariables false
set_option maxRecDepth 10000
section
variable {K : Value → World → Prop} {w : World}
def smallV : Array Value := #[.int .i64 2, .int .i64 3, .int .i64 5, .int .i64 7, .int .i64 11, .int .i64 13, .int .i64 17, .int .i64 19, .int .i64 23, .int .i64 29, .int .i64 31, .int .i64 37]
def PrJ (n : Int) (W : World) (l : List Value) (w' : World) : Prop := w' = W ∧ ∃ (v u : Value) (i : Nat), l = [v, u, .int .i64 (i : Int)] ∧ i ≤ 12 ∧ smallP.find? (fun p => decide (n % p = 0)) = (smallP.drop i).find? (fun p => decide (n % p = 0))
def PrJ2 (n : Int) (W : World) (l : List Value) (w' : World) : Prop := Below W.heap.size W w' ∧ ∃ (v u : Value) (i : Nat), l = [v, u, .int .i64 (i : Int)] ∧ i ≤ 12 ∧ smallP.all (fun p => passes n p) = (smallP.drop i).all (fun p => passes n p)
def prMu (l : List Value) (_ : World) : Nat := match l with | [_, _, .int _ i] => 12 - i.toNat | _ => 0
theorem prMu_eq (x y : Value) (q : IntKind) (i : Int) (w : World) : prMu [x, y, .int q i] w = 12 - i.toNat := rfl
theorem small_at (i : Nat) (hi : i < 12) : ∃ p, (∀ w, (Instr.index 220 (.agg smallV) (.int .i64 (i : Int))).run Tryz.prog w = .ok (.int .i64 p) w) ∧ smallP.drop i = p :: smallP.drop (i + 1) ∧ 2 ≤ p ∧ p ≤ 37 := by
  rcases i with _ | _ | _ | _ | _ | _ | _ | _ | _ | _ | _ | _ | i
  · exact ⟨2, fun w => by kernel_rfl, rfl, by decide, by decide⟩
  · exact ⟨3, fun w => by kernel_rfl, rfl, by decide, by decide⟩
  · exact ⟨5, fun w => by kernel_rfl, rfl, by decide, by decide⟩
  · exact ⟨7, fun w => by kernel_rfl, rfl, by decide, by decide⟩
  · exact ⟨11, fun w => by kernel_rfl, rfl, by decide, by decide⟩
  · exact ⟨13, fun w => by kernel_rfl, rfl, by decide, by decide⟩
  · exact ⟨17, fun w => by kernel_rfl, rfl, by decide, by decide⟩
  · exact ⟨19, fun w => by kernel_rfl, rfl, by decide, by decide⟩
  · exact ⟨23, fun w => by kernel_rfl, rfl, by decide, by decide⟩
  · exact ⟨29, fun w => by kernel_rfl, rfl, by decide, by decide⟩
  · exact ⟨31, fun w => by kernel_rfl, rfl, by decide, by decide⟩
  · exact ⟨37, fun w => by kernel_rfl, rfl, by decide, by decide⟩
  · omega
theorem build_small : oM Tryz.prog (Go.Op.build 220 #[(0, (.tmp 0)), (1, (.tmp 1)), (2, (.tmp 2)), (3, (.tmp 3)), (4, (.tmp 4)), (5, (.tmp 5)), (6, (.tmp 6)), (7, (.tmp 7)), (8, (.tmp 8)), (9, (.tmp 9)), (10, (.tmp 10)), (11, (.tmp 11))]) 220 smallV.toList = pureM (.agg smallV) := by
  funext K w
  kernel_rfl
theorem Prime_ok (n : Int) (hT : DbT w) (k : ∀ w', Below w.heap.size w w' → K (.bool (primeM n)) w') : callM Tryz.prog 179 #[.int .i64 n] K w := by
  apply sh_179_ok
  unfold sh_179
  unfold primeM at k
  by_cases h1 : n < 2
  · rw [if_pos (.inl h1)] at k
    repeat (any_goals (first
    | (with_reducible first|((refine idGd ?_); refine zD ?_)|((refine idPick ?_); refine yB ?_)|((refine idCond ?_); refine yL ?_))
    | ((with_reducible refine idO ?_); (with_reducible refine oM_gen fun Kv hK=>?_); simp [go_sem, h1]; refine hK _ _ ?_; clear hK; clear Kv)))
    exact k _ (Below.refl _ _)
  by_cases h2 : 2305843009213693952 ≤ n
  · rw [if_pos (.inr h2)] at k
    repeat (any_goals (first
    | (with_reducible first|refine pureM_in ?_|((refine idGd ?_); refine zC ?_)|((refine idPick ?_); refine yC ?_)|((refine idCond ?_); refine yL ?_))
    | ((with_reducible refine idO ?_); (with_reducible refine oM_gen fun Kv hK=>?_); simp [go_sem, h1, h2]; refine hK _ _ ?_; clear hK; clear Kv)))
    exact k _ (Below.refl _ _)
  rw [if_neg (by omega)] at k
  have hn : okN n := ⟨by omega, by omega⟩
  repeat (any_goals (first
  | (with_reducible first|refine pureM_in ?_|((refine idGd ?_); refine zC ?_)|((refine idPick ?_); refine yC ?_)|((refine idCond ?_); refine yM ?_))
  | ((with_reducible refine idO ?_); (with_reducible refine oM_gen fun Kv hK=>?_); simp [go_sem, h1, h2]; refine hK _ _ ?_; clear hK; clear Kv)))
  have bs := build_small
  unfold smallV at bs
  simp only at bs
  repeat (any_goals ((with_reducible refine idO ?_); (with_reducible refine oM_gen fun Kv hK=>?_); simp [go_sem, bs]; refine hK _ _ ?_; clear hK; clear Kv))
  clear bs
  have hbW : Below w.heap.size w (w.alloc (Obj.cells #[.int .i64 2, .int .i64 3, .int .i64 5, .int .i64 7, .int .i64 11, .int .i64 13, .int .i64 17, .int .i64 19, .int .i64 23, .int .i64 29, .int .i64 31, .int .i64 37] 220)) := (Below.refl _ _).alloc (Nat.le_refl _) _
  have hTW : DbT (w.alloc (Obj.cells #[.int .i64 2, .int .i64 3, .int .i64 5, .int .i64 7, .int .i64 11, .int .i64 13, .int .i64 17, .int .i64 19, .int .i64 23, .int .i64 29, .int .i64 31, .int .i64 37] 220)) := hT.below hbW (Nat.le_refl _)
  refine ⟨PrJ n (w.alloc (Obj.cells #[.int .i64 2, .int .i64 3, .int .i64 5, .int .i64 7, .int .i64 11, .int .i64 13, .int .i64 17, .int .i64 19, .int .i64 23, .int .i64 29, .int .i64 31, .int .i64 37] 220)), prMu, ⟨rfl, _, _, 0, rfl, by omega, rfl⟩, ?_⟩
  rintro _ _ w1 ⟨e1, v, u, i, rfl, hi, hf⟩
  rw [e1]
  clear e1 w1
  by_cases h12 : i = 12
  · subst h12
    rw [show smallP.drop 12 = [] from rfl, List.find?_nil] at hf
    rw [hf] at k
    simp only at k
    have hnd := List.find?_eq_none.1 hf
    have hbig : 37 < n := by
      have g : ∀ p ∈ smallP, ¬ n % p = 0 := fun p hp => by simpa using hnd p hp
      have hs : ∀ m : Nat, m < 38 → 2 ≤ m → ∃ p ∈ smallP, (m : Int) % p = 0 := by decide +kernel
      obtain ⟨m, rfl⟩ := natN n (by omega)
      by_cases hm : m < 38
      · obtain ⟨p, hp, hp0⟩ := hs m hm (by omega)
        exact absurd hp0 (g p hp)
      · omega
    clear hnd hf
    repeat (any_goals (first
    | (with_reducible ((refine idCond ?_); refine yM ?_))
    | ((with_reducible refine idO ?_); (with_reducible refine oM_gen fun Kv hK=>?_); simp [go_sem]; refine hK _ _ ?_; clear hK; clear Kv)))
    refine ⟨PrJ2 n (w.alloc (Obj.cells #[.int .i64 2, .int .i64 3, .int .i64 5, .int .i64 7, .int .i64 11, .int .i64 13, .int .i64 17, .int .i64 19, .int .i64 23, .int .i64 29, .int .i64 31, .int .i64 37] 220)), prMu, ⟨Below.refl _ _, _, _, 0, rfl, by omega, rfl⟩, ?_⟩
    rintro _ _ w2 ⟨hb2, v2, u2, i, rfl, hi2, hall⟩
    have hb3 := hbW.trans (hb2.mono (by simp))
    have hT2 : DbT w2 := hTW.below hb2 (Nat.le_refl _)
    by_cases hi12 : i = 12
    · subst hi12
      rw [show smallP.drop 12 = [] from rfl, List.all_nil] at hall
      rw [hall] at k
      repeat (any_goals (first
      | (with_reducible ((refine idCond ?_); refine yM ?_))
      | ((with_reducible refine idO ?_); (with_reducible refine oM_gen fun Kv hK=>?_); simp [go_sem]; refine hK _ _ ?_; clear hK; clear Kv)))
      exact k _ hb3
    · obtain ⟨p, hix, hdr, hp2, hp37⟩ := small_at i (by omega)
      unfold smallV at hix
      rw [hdr, List.all_cons] at hall
      have hz2 := hb2.size
      repeat (any_goals (first
      | (with_reducible ((refine idCond ?_); refine yN ?_))
      | ((with_reducible refine idO ?_); (with_reducible refine oM_gen fun Kv hK=>?_); simp [go_sem, hix]; (try simp (disch := omega) only [wrapI64, wrapU8, wrapU32, wrapU64]); refine hK _ _ ?_; clear hK; clear Kv)))
      refine witness_ok n p hn (by omega) ⟨by omega, by omega⟩ hT2 (fun w3 hb4 => ?_)
      cases hps : passes n p with
      | false =>
        rw [hps, Bool.false_and] at hall
        rw [hall] at k
        simp only [Bool.not_false]
        repeat (any_goals (with_reducible ((refine idCond ?_); refine yL ?_)))
        exact k _ (hb3.trans (hb4.mono hb3.size))
      | true =>
        rw [hps, Bool.true_and] at hall
        simp only [Bool.not_true]
        repeat (any_goals (first
        | (with_reducible ((refine idCond ?_); refine yM ?_))
        | ((with_reducible refine idO ?_); (with_reducible refine oM_gen fun Kv hK=>?_); simp [go_sem]; (try simp (disch := omega) only [wrapI64, wrapU8, wrapU32, wrapU64]); refine hK _ _ ?_; clear hK; clear Kv)))
        refine ⟨⟨hb2.trans (hb4.mono hz2), _, _, i + 1, rfl, by omega, hall⟩, ?_⟩
        simp only [prMu_eq]; omega
  · obtain ⟨p, hix, hdr, hp2, hp37⟩ := small_at i (by omega)
    unfold smallV at hix
    rw [hdr] at hf
    have er : n.tmod p = n % p := Int.tmod_eq_emod_of_nonneg (by omega)
    by_cases hd : n % p = 0
    · rw [List.find?_cons_of_pos (by simpa using hd)] at hf
      rw [hf] at k
      have k := k _ hbW
      simp only at k
      repeat (any_goals (first
      | (with_reducible ((refine idCond ?_); first|refine yL ?_|refine yN ?_))
      | ((with_reducible refine idO ?_); (with_reducible refine oM_gen fun Kv hK=>?_); simp [go_sem, hix, er, hd]; (first|refine hK _ _ ?_|refine And.intro (by omega) (hK _ _ ?_)); clear hK; clear Kv)))
      exact k
    · rw [List.find?_cons_of_neg (by simpa using hd)] at hf
      repeat (any_goals (first
      | (with_reducible ((refine idCond ?_); first|refine yM ?_|refine yN ?_))
      | ((with_reducible refine idO ?_); (with_reducible refine oM_gen fun Kv hK=>?_); simp [go_sem, hix, er, hd]; (try simp (disch := omega) only [wrapI64, wrapU8, wrapU32, wrapU64]); (first|refine hK _ _ ?_|refine And.intro (by omega) (hK _ _ ?_)); clear hK; clear Kv)))
      refine ⟨⟨rfl, _, _, i + 1, rfl, by omega, hf⟩, ?_⟩
      simp only [prMu_eq]; omega
end
end Go.Proofs
namespace Go.Proofs
open Go Go.Sh Go.RowKit FdSpec
set_option linter.unusedSimpArgs false
set_option linter.unusedVariables false
set_option maxRecDepth 10000
section
variable {K : Value → World → Prop} {w : World}
@[reducible] def grpV (g : Grp) : Value := .agg #[.int .i64 g.P, .int .i64 g.Q, .int .i64 g.G]
def GrpR (g : Grp) : Prop := I64 g.P ∧ I64 g.Q ∧ I64 g.G
theorem validG_not {g : Grp} (h : g.Q < 5 ∨ 1152921504606846976 ≤ g.Q ∨ g.P ≠ 2 * g.Q + 1 ∨ g.G < 2 ∨ g.P ≤ g.G) : validG g = false := by
  unfold validG; rw [if_pos h]
theorem validG_yes {g : Grp} (h : ¬ (g.Q < 5 ∨ 1152921504606846976 ≤ g.Q ∨ g.P ≠ 2 * g.Q + 1 ∨ g.G < 2 ∨ g.P ≤ g.G)) : validG g = (primeM g.Q && primeM g.P && decide (pw g.P g.G g.Q.toNat = 1)) := by
  unfold validG; rw [if_neg h]
theorem box_grp {T T' : TypeId} (g : Grp) (k : ∀ b W, Below w.heap.size w W → w.heap.size ≤ b → (∀ w', Below W.heap.size W w' → w'.cell? ⟨b, 0, none⟩ = some (.int .i64 g.P)) → (∀ w', Below W.heap.size W w' → w'.cell? ⟨b, 1, none⟩ = some (.int .i64 g.Q)) → (∀ w', Below W.heap.size W w' → w'.cell? ⟨b, 2, none⟩ = some (.int .i64 g.G)) → K (.pointer (some ⟨b, 0, none⟩)) W) : oM Tryz.prog (.box T (.tmp 0)) T' [grpV g] K w :=
  box_in (cs := [.int .i64 g.P, .int .i64 g.Q, .int .i64 g.G]) rfl fun b W h1 h2 hB => k b W h1 h2 (fun w' h => hB w' h 0 _ rfl) (fun w' h => hB w' h 1 _ rfl) (fun w' h => hB w' h 2 _ rfl)
set_option maxHeartbeats 2000000 in
theorem ValidGroup_ok (g : Grp) (hg : GrpR g) (hT : DbT w) (k : ∀ w', Below w.heap.size w w' → K (.bool (validG g)) w') : callM Tryz.prog 131 #[grpV g] K w := by
  apply sh_131_ok
  unfold sh_131
  refine box_grp g fun b W hW hb c0 c1 c2 => ?_
  have n1 := validG_not (g := g)
  have n2 := validG_yes (g := g)
  obtain ⟨P, Q, G⟩ := g
  obtain ⟨hP, hQ, hG⟩ := hg
  unfold I64 at hP hQ hG
  simp only at hP hQ hG n1 n2 c0 c1 c2
  have hr := Below.refl W.heap.size W
  have hTW : DbT W := hT.below hW (Nat.le_refl _)
  have k1 : ∀ w', validG ⟨P, Q, G⟩ = false → Below W.heap.size W w' → K (.bool false) w' := fun w' e hb => by rw [e] at k; exact k w' (hW.on hb)
  have k2 : ∀ w' v, validG ⟨P, Q, G⟩ = v → Below W.heap.size W w' → K (.bool v) w' := fun w' v e hb => by rw [e] at k; exact k w' (hW.on hb)
  clear k
  repeat (any_goals (first
  | (with_reducible first|((refine idGd ?_); first|refine zD ?_|((refine idGdD ?_); first|refine zI ?_|refine zJ ?_|refine zK (fun hg=>?_) fun hg=>?_)|((refine idGdN ?_); first|refine zO ?_|refine zP ?_|refine zQ (fun hg=>?_) fun hg=>?_))|((refine idPick ?_); first|refine yB ?_|refine yD ?_|refine yE ?_|refine yF ?_|refine yG ?_)|((refine idCond ?_); first|refine yL ?_|refine yP (fun hg=>?_) fun hg=>?_))
  | ((with_reducible refine idO ?_); (with_reducible refine oM_gen fun Kv hK=>?_); simp [go_sem, c0, c1, c2, hr]; (try simp (disch := omega) only [wrapI64, wrapU8, wrapU32, wrapU64]); refine hK _ _ ?_; clear hK; clear Kv)))
  all_goals try exact k1 _ (n1 (by omega)) hr
  refine Prime_ok Q hTW (fun w1 h1 => ?_)
  have n2 := n2 (by omega)
  cases hq : primeM Q with
  | false =>
    have n2 : validG ⟨P, Q, G⟩ = false := by rw [n2, hq]; rfl
    repeat (any_goals (with_reducible first|((refine idGd ?_); refine zB ?_)|((refine idPick ?_); refine yC ?_)))
    exact k1 _ n2 h1
  | true =>
    rw [hq, Bool.true_and] at n2
    repeat (any_goals (first
    | (with_reducible ((refine idGd ?_); refine zA ?_))
    | ((with_reducible refine idO ?_); (with_reducible refine oM_gen fun Kv hK=>?_); simp [go_sem, c0, h1]; refine hK _ _ ?_; clear hK; clear Kv)))
    refine Prime_ok P (hTW.below h1 (Nat.le_refl _)) (fun w2 h2 => ?_)
    have h2 := h1.on h2
    cases hp : primeM P with
    | false =>
      have n2 : validG ⟨P, Q, G⟩ = false := by rw [n2, hp]; rfl
      repeat (any_goals (with_reducible first|((refine idGd ?_); refine zB ?_)|((refine idPick ?_); first|refine yB ?_|refine yC ?_)))
      exact k1 _ n2 h2
    | true =>
      rw [hp, Bool.true_and] at n2
      repeat (any_goals (first
      | (with_reducible first|((refine idGd ?_); refine zA ?_)|((refine idPick ?_); refine yB ?_))
      | ((with_reducible refine idO ?_); (with_reducible refine oM_gen fun Kv hK=>?_); simp [go_sem, c0, c1, c2, h2]; refine hK _ _ ?_; clear hK; clear Kv)))
      refine Pow_ok P G Q hQ (fun w3 h3 => ?_)
      have e : powM P G Q = pw P G Q.toNat := by unfold powM; rw [if_pos (by unfold okN; omega), if_pos (by omega)]
      rw [e]
      generalize pw P G Q.toNat = z at *
      have h3 := h2.on h3
      repeat (any_goals (first
      | (with_reducible first|((refine idGd ?_); refine zA ?_)|((refine idPick ?_); refine yB ?_))
      | ((with_reducible refine idO ?_); (with_reducible refine oM_gen fun Kv hK=>?_); simp [go_sem]; refine hK _ _ ?_; clear hK; clear Kv)))
      exact k2 _ _ n2 h3
end
end Go.Proofs
namespace Go.Proofs
open Go Go.Sh Go.RowKit FdSpec
set_option linter.unusedSimpArgs false
set_option linter.unusedVariables false
set_option maxRecDepth 10000
section
variable {K : Value → World → Prop} {w : World}
theorem Element_ok (g : Grp) (x : Int) (hgr : GrpR g) (hT : DbT w) (k : ∀ w', Below w.heap.size w w' → K (.bool (elemG g x)) w') : callM Tryz.prog 174 #[grpV g, .int .i64 x] K w := by
  apply sh_174_ok
  unfold sh_174
  refine box_grp g fun b W hW hb c0 c1 c2 => ?_
  have hr := Below.refl W.heap.size W
  have hTW : DbT W := hT.below hW (Nat.le_refl _)
  have k2 : ∀ w' v, elemG g x = v → Below W.heap.size W w' → K (.bool v) w' := fun w' v e hb => by rw [← e]; exact k w' (hW.on hb)
  have e0 : elemG g x = (decide (1 ≤ x) && decide (x < g.P) && validG g && decide (pw g.P x g.Q.toNat = 1)) := rfl
  clear k
  repeat (any_goals (first
  | (with_reducible first|refine pureM_in ?_|((refine idGd ?_); first|refine zB ?_|((refine idGdD ?_); first|refine zF ?_|refine zG ?_|refine zH (fun hg=>?_) fun hg=>?_))|((refine idPick ?_); first|refine yC ?_|refine yD ?_|refine yE ?_))
  | ((with_reducible refine idO ?_); (with_reducible refine oM_gen fun Kv hK=>?_); simp [go_sem, c0, c1, c2, hr]; refine hK _ _ ?_; clear hK; clear Kv)))
  · refine ValidGroup_ok g hgr hTW (fun w1 h1 => ?_)
    cases hv : validG g with
    | false =>
      repeat (any_goals (with_reducible first|((refine idGd ?_); refine zB ?_)|((refine idPick ?_); first|refine yC ?_|refine yD ?_)))
      exact k2 _ _ (by rw [e0, hv]; simp) h1
    | true =>
      have hv2 := hv
      unfold validG at hv2
      split at hv2
      · cases hv2
      rename_i hn
      repeat (any_goals (first
      | (with_reducible first|refine pureM_in ?_|((refine idGd ?_); refine zA ?_)|((refine idPick ?_); refine yD ?_))
      | ((with_reducible refine idO ?_); (with_reducible refine oM_gen fun Kv hK=>?_); simp [go_sem, c0, c1, h1]; refine hK _ _ ?_; clear hK; clear Kv)))
      refine Pow_ok g.P x g.Q hgr.2.1 (fun w3 h3 => ?_)
      have e : powM g.P x g.Q = pw g.P x g.Q.toNat := by unfold powM; rw [if_pos (by unfold okN; omega), if_pos (by omega)]
      rw [e]
      have e1 : elemG g x = decide (pw g.P x g.Q.toNat = 1) := by rw [e0, hv]; simp; omega
      generalize pw g.P x g.Q.toNat = z at *
      repeat (any_goals (first
      | (with_reducible first|((refine idGd ?_); refine zA ?_)|((refine idPick ?_); refine yB ?_))
      | ((with_reducible refine idO ?_); (with_reducible refine oM_gen fun Kv hK=>?_); simp [go_sem]; refine hK _ _ ?_; clear hK; clear Kv)))
      exact k2 _ _ e1 (h1.on h3)
  · exact k2 _ _ (by rw [e0]; simp; omega) hr
  · exact k2 _ _ (by rw [e0]; simp; omega) hr
theorem Power_ok (g : Grp) (x n : Int) (k : ∀ w', Below w.heap.size w w' → K (.int .i64 (powerG g x n)) w') : callM Tryz.prog 24 #[grpV g, .int .i64 x, .int .i64 n] K w := by
  apply sh_24_ok
  unfold sh_24
  refine box_grp g fun b W hW hb c0 c1 c2 => ?_
  have hr := Below.refl W.heap.size W
  have k2 : ∀ w' v, powerG g x n = v → Below W.heap.size W w' → K (.int .i64 v) w' := fun w' v e hb => by rw [← e]; exact k w' (hW.on hb)
  clear k
  repeat (any_goals ((with_reducible refine idO ?_); (with_reducible refine oM_gen fun Kv hK=>?_); simp [go_sem, c0, c1, c2, hr]; refine hK _ _ ?_; clear hK; clear Kv))
  refine valid_ok g.P ?_
  by_cases hp : okN g.P
  · by_cases hq : okN g.Q
    · repeat (any_goals (first
      | (with_reducible ((refine idGd ?_); ((refine idGdN ?_); refine zO ?_)))
      | ((with_reducible refine idO ?_); (with_reducible refine oM_gen fun Kv hK=>?_); simp [go_sem, c0, c1, c2, hr]; refine hK _ _ ?_; clear hK; clear Kv)))
      refine valid_ok g.Q ?_
      repeat (any_goals (first
      | (with_reducible first|((refine idGd ?_); ((refine idGdN ?_); refine zO ?_))|((refine idPick ?_); refine yG ?_)|((refine idCond ?_); refine yR ?_))
      | ((with_reducible refine idO ?_); (with_reducible refine oM_gen fun Kv hK=>?_); simp [go_sem, c0, c1, c2, hr]; refine hK _ _ ?_; clear hK; clear Kv)))
      refine ⟨Below W.heap.size W, .drawn, ?_⟩
      have hp' := hp
      have hq' := hq
      obtain ⟨h1, h2⟩ := hp'
      obtain ⟨h3, h4⟩ := hq'
      have a1 := Int.emod_nonneg x (b := g.P) (by omega)
      have a2 := Int.emod_lt_of_pos x (b := g.P) (by omega)
      have a3 := Int.emod_nonneg n (b := g.Q) (by omega)
      have a4 := Int.emod_lt_of_pos n (b := g.Q) (by omega)
      have e0 : powerG g x n = pw g.P (x % g.P) (n % g.Q).toNat := by unfold powerG; rw [if_pos ⟨hp, hq⟩, pw_emod]
      obtain ⟨m, hm⟩ := natN (n % g.Q) a3
      rw [hm, Int.toNat_natCast] at e0
      have hr := pw_nonneg g.P (x % g.P) m (by omega)
      repeat (any_goals ((with_reducible refine idOQ ?_); (with_reducible refine oQ_of ⟨_, rfl⟩ (fun W0 hW0 => by (refine oM_gen (fun Kv hK => ?_)); simp [go_sem, c0 _ hW0, c1 _ hW0, c2 _ hW0]; (first | exact hK _ _ ⟨rfl, rfl⟩ | exact ⟨by omega, hK _ _ ⟨rfl, rfl⟩⟩)) ?_)))
      refine callQ_of (fun W0 hW0 => residue_ok g.P x hp ⟨rfl, hW0⟩) ?_
      repeat (any_goals ((with_reducible refine idOQ ?_); (with_reducible refine oQ_of ⟨_, rfl⟩ (fun W0 hW0 => by (refine oM_gen (fun Kv hK => ?_)); simp [go_sem, c0 _ hW0, c1 _ hW0, c2 _ hW0]; (first | exact hK _ _ ⟨rfl, rfl⟩ | exact ⟨by omega, hK _ _ ⟨rfl, rfl⟩⟩)) ?_)))
      refine callQ_of (fun W0 hW0 => residue_ok g.Q n hq ⟨rfl, hW0⟩) ?_
      rw [hm]
      refine callQ_of (fun W0 hW0 => power_ok g.P (x % g.P) m hp ⟨a1, a2⟩ (by omega) (fun w' hw' => ⟨rfl, hW0.on hw'⟩)) ?_
      generalize pw g.P (x % g.P) m = z at *
      have e3 : IntKind.i64.wrap z = z := wrapI64 z (by omega) (by omega)
      repeat (any_goals ((with_reducible refine idOQ ?_); (with_reducible refine oQ_of ⟨_, rfl⟩ (fun W0 hW0 => by (refine oM_gen (fun Kv hK => ?_)); simp [go_sem, e3]; (first | exact hK _ _ ⟨rfl, rfl⟩ | exact ⟨by omega, hK _ _ ⟨rfl, rfl⟩⟩)) ?_)))
      intro w' hw'
      exact k2 _ _ e0 hw'
    · have e0 : powerG g x n = 0 := by unfold powerG; rw [if_neg (fun h => hq h.2)]
      repeat (any_goals (first
      | (with_reducible ((refine idGd ?_); ((refine idGdN ?_); refine zO ?_)))
      | ((with_reducible refine idO ?_); (with_reducible refine oM_gen fun Kv hK=>?_); simp [go_sem, c0, c1, c2, hr]; refine hK _ _ ?_; clear hK; clear Kv)))
      refine valid_ok g.Q ?_
      repeat (any_goals (first
      | (with_reducible first|((refine idGd ?_); ((refine idGdN ?_); refine zO ?_))|((refine idPick ?_); refine yG ?_)|((refine idCond ?_); refine yQ ?_))
      | ((with_reducible refine idO ?_); (with_reducible refine oM_gen fun Kv hK=>?_); simp [go_sem, c0, c1, c2, hr]; refine hK _ _ ?_; clear hK; clear Kv)))
      exact k2 _ _ e0 hr
  · have e0 : powerG g x n = 0 := by unfold powerG; rw [if_neg (fun h => hp h.1)]
    repeat (any_goals (first
    | (with_reducible first|((refine idGd ?_); ((refine idGdN ?_); refine zP ?_))|((refine idPick ?_); refine yF ?_)|((refine idCond ?_); refine yL ?_))
    | ((with_reducible refine idO ?_); (with_reducible refine oM_gen fun Kv hK=>?_); simp [go_sem, c0, c1, c2, hr]; refine hK _ _ ?_; clear hK; clear Kv)))
    exact k2 _ _ e0 hr
theorem Times_ok (g : Grp) (x n : Int) (k : ∀ w', Below w.heap.size w w' → K (.int .i64 (timesG g x n)) w') : callM Tryz.prog 142 #[grpV g, .int .i64 x, .int .i64 n] K w := by
  apply sh_142_ok
  unfold sh_142
  refine box_grp g fun b W hW hb c0 c1 c2 => ?_
  have hr := Below.refl W.heap.size W
  have k2 : ∀ w' v, timesG g x n = v → Below W.heap.size W w' → K (.int .i64 v) w' := fun w' v e hb => by rw [← e]; exact k w' (hW.on hb)
  clear k
  repeat (any_goals ((with_reducible refine idO ?_); (with_reducible refine oM_gen fun Kv hK=>?_); simp [go_sem, c0, c1, c2, hr]; refine hK _ _ ?_; clear hK; clear Kv))
  refine valid_ok g.Q ?_
  by_cases hq : okN g.Q
  · repeat (any_goals (first
    | (with_reducible ((refine idCond ?_); refine yR ?_))
    | ((with_reducible refine idO ?_); (with_reducible refine oM_gen fun Kv hK=>?_); simp [go_sem, c0, c1, c2, hr]; refine hK _ _ ?_; clear hK; clear Kv)))
    refine Mul_ok g.P x n (fun w1 h1 => ?_)
    exact k2 _ _ (by unfold timesG; rw [if_pos hq]) h1
  · repeat (any_goals (first
    | (with_reducible ((refine idCond ?_); refine yQ ?_))
    | ((with_reducible refine idO ?_); (with_reducible refine oM_gen fun Kv hK=>?_); simp [go_sem, c0, c1, c2, hr]; refine hK _ _ ?_; clear hK; clear Kv)))
    exact k2 _ _ (by unfold timesG; rw [if_neg hq]) hr
end
end Go.Proofs
namespace Go.Proofs
open Go Go.Sh Go.RowKit FdSpec
set_option linter.unusedSimpArgs false
set_option linter.unusedVariables false
set_option maxRecDepth 10000
section
variable {K : Value → World → Prop} {w : World}
def PdJ (g : Grp) (R : Int) (ps : List (Int × Int)) (W : World) (l : List Value) (w' : World) : Prop := Below W.heap.size W w' ∧ ∃ (v u : Value) (o : Int) (i : Nat), l = [v, u, .int .i64 o, .int .i64 (i : Int)] ∧ i ≤ ps.length ∧ prodL g o (ps.drop i) = R
def pdMu (n : Nat) (l : List Value) (_ : World) : Nat := match l with | [_, _, _, .int _ i] => n - i.toNat | _ => 0
theorem pdMu_eq (n : Nat) (x y z : Value) (q : IntKind) (i : Int) (w : World) : pdMu n [x, y, z, .int q i] w = n - i.toNat := rfl
theorem zip_drop (a b : List Int) (i : Nat) (h1 : i < a.length) (h2 : i < b.length) : (a.zip b).drop i = (a[i], b[i]) :: (a.zip b).drop (i + 1) := by
  rw [List.drop_eq_getElem_cons (by rw [List.length_zip]; omega), List.getElem_zip]
@[go_sem] theorem oM_index_ints (T : TypeId) (b o n c : Nat) (x : Int) : oM Tryz.prog (.indexAddr 22 (.tmp 0) (.tmp 1)) T [.slice (some ⟨b, o, none⟩) n c, .int .i64 x] = onM (0 ≤ x ∧ x < n) (.pointer (some ⟨b, o + x.toNat, none⟩)) := by
  funext K w
  rw [oM_indexAddr, run_indexAt_slice (h := by kernel_rfl)]
  have hs : (sizeOf (Tryz.prog.elem 22)).run Tryz.prog w = .ok 1 w := by kernel_rfl
  by_cases hi : 0 ≤ x ∧ x < n
  · rw [if_pos hi, hs]
    simp only [Result.andThen, add_none, Nat.mul_one, rM_ok]
    exact propext ⟨fun h => ⟨hi, h⟩, fun h => h.2⟩
  · rw [if_neg hi]
    obtain ⟨e', w', he⟩ := halts Value Tryz.prog .i64 x n .index w
    rw [he]
    exact propext ⟨fun h => h.elim, fun h => hi h.1⟩
theorem Product_ok (g : Grp) {bv ev : Value} {bs es : List Int} (hbs : Ints w bv bs) (hes : Ints w ev es) (k : ∀ w', Below w.heap.size w w' → K (.tuple #[.int .i64 (prodG g bs es).1, .bool (prodG g bs es).2]) w') : callM Tryz.prog 141 #[grpV g, bv, ev] K w := by
  apply sh_141_ok
  unfold sh_141
  refine box_grp g fun b W hW hb c0 c1 c2 => ?_
  have hr := Below.refl W.heap.size W
  have k2 : ∀ w' v, prodG g bs es = v → Below W.heap.size W w' → K (.tuple #[.int .i64 v.1, .bool v.2]) w' := fun w' v e hb => by rw [← e]; exact k w' (hW.on hb)
  clear k
  obtain ⟨bad, bc, rfl⟩ := hbs.isSlice
  obtain ⟨ead, ec, rfl⟩ := hes.isSlice
  have hbs := hbs.next hW
  have hes := hes.next hW
  have l1 := hbs.len
  have l2 := hes.len
  repeat (any_goals ((with_reducible refine idO ?_); (with_reducible refine oM_gen fun Kv hK=>?_); simp [go_sem, c0, c1, c2, hr]; refine hK _ _ ?_; clear hK; clear Kv))
  refine valid_ok g.P ?_
  by_cases hp : okN g.P
  · by_cases hq : okN g.Q
    · repeat (any_goals (first
      | (with_reducible ((refine idGd ?_); ((refine idGdN ?_); refine zO ?_)))
      | ((with_reducible refine idO ?_); (with_reducible refine oM_gen fun Kv hK=>?_); simp [go_sem, c0, c1, c2, hr]; refine hK _ _ ?_; clear hK; clear Kv)))
      refine valid_ok g.Q ?_
      by_cases hl : bs.length = es.length
      · have e1 : (1 : Int).tmod g.P = 1 % g.P := Int.tmod_eq_emod_of_nonneg (by omega)
        have hp0 := hp.1
        have e0 : prodG g bs es = (prodL g (1 % g.P) (bs.zip es), true) := by unfold prodG; rw [if_pos ⟨hp, hq, hl⟩]
        have hzl : (bs.zip es).length = bs.length := by rw [List.length_zip]; omega
        repeat (any_goals (first
        | (with_reducible first|refine pureM_in ?_|((refine idGd ?_); ((refine idGdN ?_); refine zO ?_))|((refine idPick ?_); refine yG ?_)|((refine idCond ?_); refine yM ?_))
        | ((with_reducible refine idO ?_); (with_reducible refine oM_gen fun Kv hK=>?_); simp [go_sem, c0, c1, c2, hr, hl, e1]; (first|refine hK _ _ ?_|refine And.intro (by omega) (hK _ _ ?_)); clear hK; clear Kv)))
        refine ⟨PdJ g (prodL g (1 % g.P) (bs.zip es)) (bs.zip es) W, pdMu es.length, ⟨hr, _, _, _, 0, rfl, by omega, rfl⟩, ?_⟩
        generalize prodL g (1 % g.P) (bs.zip es) = R at *
        rintro _ _ w1 ⟨h1, v, u, o, i, rfl, hi, he⟩
        rw [hzl] at hi
        by_cases hin : i = es.length
        · rw [List.drop_of_length_le (by omega)] at he
          unfold prodL at he
          repeat (any_goals (first
          | (with_reducible ((refine idCond ?_); refine yO ?_))
          | ((with_reducible refine idO ?_); (with_reducible refine oM_gen fun Kv hK=>?_); simp [go_sem]; refine hK _ _ ?_; clear hK; clear Kv)))
          rw [he]
          exact k2 _ _ e0 h1
        · rw [zip_drop bs es i (by omega) (by omega)] at he
          unfold prodL at he
          obtain ⟨b1, o1, rfl, hb1, ca, ra, _⟩ := hbs.at (i := i) (by omega)
          obtain ⟨b2, o2, rfl, hb2, cb, rb, _⟩ := hes.at (i := i) (by omega)
          repeat (any_goals (first
          | (with_reducible ((refine idCond ?_); refine yN ?_))
          | ((with_reducible refine idO ?_); (with_reducible refine oM_gen fun Kv hK=>?_); simp [go_sem, ca _ h1, c0, h1]; (first|refine hK _ _ ?_|refine And.intro (by omega) (hK _ _ ?_)); clear hK; clear Kv)))
          refine ⟨Below W.heap.size W, h1.trans .drawn, ?_⟩
          repeat (any_goals ((with_reducible refine idOQ ?_); (with_reducible refine oQ_of ⟨_, rfl⟩ (fun W0 hW0 => by (refine oM_gen (fun Kv hK => ?_)); simp [go_sem, c0 _ hW0, c1 _ hW0, c2 _ hW0, cb _ hW0]; (first | exact hK _ _ ⟨rfl, rfl⟩ | exact ⟨by omega, hK _ _ ⟨rfl, rfl⟩⟩)) ?_)))
          refine callQ_of (fun W0 hW0 => Power_ok g _ _ (fun w' hw' => ⟨rfl, hW0.on hw'⟩)) ?_
          refine callQ_of (fun W0 hW0 => Mul_ok _ _ _ (fun w' hw' => ⟨rfl, hW0.on hw'⟩)) ?_
          intro w2 h2
          repeat (any_goals ((with_reducible refine idO ?_); (with_reducible refine oM_gen fun Kv hK=>?_); simp [go_sem]; (try simp (disch := omega) only [wrapI64, wrapU8, wrapU32, wrapU64]); refine hK _ _ ?_; clear hK; clear Kv))
          refine ⟨⟨h2, _, _, _, i + 1, rfl, by rw [hzl]; omega, he⟩, ?_⟩
          simp only [pdMu_eq]; omega
      · have e0 : prodG g bs es = (0, false) := by unfold prodG; rw [if_neg (fun h => hl h.2.2)]
        have hl' : ¬ (bs.length : Int) = es.length := by omega
        repeat (any_goals (first
        | (with_reducible first|refine pureM_in ?_|((refine idGd ?_); ((refine idGdN ?_); refine zO ?_))|((refine idPick ?_); refine yG ?_)|((refine idCond ?_); refine yL ?_))
        | ((with_reducible refine idO ?_); (with_reducible refine oM_gen fun Kv hK=>?_); simp [go_sem, c0, c1, c2, hr, hl']; refine hK _ _ ?_; clear hK; clear Kv)))
        exact k2 _ _ e0 hr
    · have e0 : prodG g bs es = (0, false) := by unfold prodG; rw [if_neg (fun h => hq h.2.1)]
      repeat (any_goals (first
      | (with_reducible ((refine idGd ?_); ((refine idGdN ?_); refine zO ?_)))
      | ((with_reducible refine idO ?_); (with_reducible refine oM_gen fun Kv hK=>?_); simp [go_sem, c0, c1, c2, hr]; refine hK _ _ ?_; clear hK; clear Kv)))
      refine valid_ok g.Q ?_
      repeat (any_goals (first
      | (with_reducible first|((refine idGd ?_); ((refine idGdN ?_); first|refine zO ?_|refine zP ?_))|((refine idPick ?_); first|refine yF ?_|refine yG ?_)|((refine idCond ?_); refine yL ?_))
      | ((with_reducible refine idO ?_); (with_reducible refine oM_gen fun Kv hK=>?_); simp [go_sem, c0, c1, c2, hr]; refine hK _ _ ?_; clear hK; clear Kv)))
      exact k2 _ _ e0 hr
  · have e0 : prodG g bs es = (0, false) := by unfold prodG; rw [if_neg (fun h => hp h.1)]
    repeat (any_goals (first
    | (with_reducible first|((refine idGd ?_); first|refine zD ?_|((refine idGdN ?_); refine zP ?_))|((refine idPick ?_); first|refine yB ?_|refine yF ?_)|((refine idCond ?_); refine yL ?_))
    | ((with_reducible refine idO ?_); (with_reducible refine oM_gen fun Kv hK=>?_); simp [go_sem, c0, c1, c2, hr]; refine hK _ _ ?_; clear hK; clear Kv)))
    exact k2 _ _ e0 hr
end
end Go.Proofs
