/- Parts of the proof of the seat's statements (HTk, HTa, HRa, HRb, FdSpec, FdPow, FdDiv, ShMap5, ShRow, ShRow2, ShBuf, ShBuf2, ShBit, ShBox, ShGo, FdA): lemmas about the given translation and plain laws. No condition of their own. -/
import Derived.Test.YtpimhdkjpccihaaGreatDoorLaa
import Derived.Test.YtpimhdkjpccihaaGreatDoorProg
import Derived.Lib.BufferWrite
import Derived.Lib.SliceRun
import Derived.Laws.MakeOwn
import Derived.Laws.OwnMore
import Derived.Great.BuildSlice
import Derived.Laws.IdiomStrings
import Derived.Lib.Mul64
set_option linter.all false
set_option linter.unusedVariables false
set_option maxRecDepth 100000
namespace Go.Proofs
open Go.Sh
def sh_13 (a0 : Value) (a1 : Value) (a2 : Value) (a3 : Value) (K : Value → World → Prop) (w : World) : Prop :=
 oM Tryz.prog (.box 35 (.tmp 0)) 0 [a0] (fun v4_1 w =>
 oM Tryz.prog (.box 28 (.tmp 0)) 0 [a2] (fun v6_2 w =>
 oM Tryz.prog (.alloc 47) 0 [] (fun v8_3 w =>
 oM Tryz.prog (.load 35 (.tmp 0)) 35 [v4_1] (fun v17_4 w =>
 callM Tryz.prog 70 #[v17_4, a1] (fun v19_5 w =>
 oM Tryz.prog (.extract (.tmp 0) 0) 111 [v19_5] (fun v20_6 w =>
 oM Tryz.prog (.extract (.tmp 0) 1) 3 [v19_5] (fun v21_7 w =>
 oM Tryz.prog (.extract (.tmp 0) 2) 4 [v19_5] (fun v22_8 w =>
 oM Tryz.prog (.alloc 111) 0 [] (fun v10_9 w =>
 oM Tryz.prog (.store 111 (.tmp 0) (.tmp 1)) 0 [v10_9, v20_6] (fun _ w =>
 oM Tryz.prog (.unOp .not 4 (.tmp 0)) 4 [v22_8] (fun v24_10 w =>
 gdM (gd v24_10 false) (oM Tryz.prog (.load 111 (.tmp 0)) 111 [v10_9]) (fun v26_11 w =>
 gdM (gd v24_10 false) (oM Tryz.prog (.load 28 (.tmp 0)) 28 [v6_2]) (fun v27_12 w =>
 gdM (gd v24_10 false) (callM Tryz.prog 71 #[v26_11, v27_12]) (fun v28_13 w =>
 gdM (gd v24_10 false) (oM Tryz.prog (.unOp .not 4 (.tmp 0)) 4 [v28_13]) (fun v29_14 w =>
 oM Tryz.prog (.pick (.tmp 0) (.tmp 1) (.tmp 2)) 4 [v24_10, (.bool true), v29_14] (fun v30_15 w =>
 gdM (gd v30_15 false) (oM Tryz.prog (.load 111 (.tmp 0)) 111 [v10_9]) (fun v32_16 w =>
 gdM (gd v30_15 false) (pureM a3) (fun v33_17 w =>
 gdM (gd v30_15 false) (oM Tryz.prog (.buildSlice 22 1 #[(0, (.tmp 0))]) 22 [v33_17]) (fun v34_18 w =>
 gdM (gd v30_15 false) (callM Tryz.prog 72 #[v32_16, (.int .i64 1), v34_18]) (fun v35_19 w =>
 gdM (gd v30_15 false) (oM Tryz.prog (.unOp .not 4 (.tmp 0)) 4 [v35_19]) (fun v36_20 w =>
 oM Tryz.prog (.pick (.tmp 0) (.tmp 1) (.tmp 2)) 4 [v30_15, (.bool true), v36_20] (fun v37_21 w =>
 condM v37_21
 (oM Tryz.prog (.build 47 #[]) 47 [] (fun v38_22 w =>
 oM Tryz.prog (.store 47 (.tmp 0) (.tmp 1)) 0 [v8_3, v38_22] (fun _ w =>
 ∃ r_23, (do loadVar 47 (← asAddr v8_3) : Sem Value).run Tryz.prog w = .ok r_23 w ∧ K (.tuple #[r_23, (.bool false)]) w) w) w)
 (oM Tryz.prog (.build 47 #[(0, (.tmp 0))]) 47 [a3] (fun v40_24 w =>
 oM Tryz.prog (.alloc 47) 0 [] (fun v13_25 w =>
 oM Tryz.prog (.store 47 (.tmp 0) (.tmp 1)) 0 [v13_25, v40_24] (fun _ w =>
 callM Tryz.prog 73 #[a1] (fun v42_26 w =>
 oM Tryz.prog (.call (Go.Call.mk (.builtin .len) #[(.tmp 0)] #[22])) 3 [v42_26] (fun v43_27 w =>
 loopM [undef, undef, (.int .i64 0)] w (fun J_28 m_29 l_30 u_l_30 w0_l_30 => (fun w => (
 oM Tryz.prog (.binOp .lss 3 (.tmp 0) (.tmp 1) 3) 0 [(l_30.getD 2 undef), v43_27] (fun v45_31 w =>
 condM v45_31
 (oM Tryz.prog (.indexAddr 22 (.tmp 0) (.tmp 1)) 0 [v42_26, (l_30.getD 2 undef)] (fun v47_32 w =>
 oM Tryz.prog (.load 3 (.tmp 0)) 3 [v47_32] (fun v48_33 w =>
 stageM w (fun C_34 w => (oH Tryz.prog (.fieldAddr 47 (.tmp 0) 1) 0 [v13_25] (upto C_34 4) (fun v49_35 =>
 oH Tryz.prog (.load 22 (.tmp 0)) 22 [v49_35] (upto C_34 4) (fun v50_36 =>
 oH Tryz.prog (.load 111 (.tmp 0)) 111 [v10_9] (upto C_34 2) (fun v51_37 =>
 oH Tryz.prog (.fieldAddr 28 (.tmp 0) 3) 0 [v6_2] (upto C_34 2) (fun v52_38 =>
 oH Tryz.prog (.load 22 (.tmp 0)) 22 [v52_38] (upto C_34 2) (fun v53_39 =>
 pureH (l_30.getD 2 undef) (upto C_34 2) (fun v54_40 =>
 oH Tryz.prog (.indexAddr 22 (.tmp 0) (.tmp 1)) 0 [v53_39, v54_40] (upto C_34 2) (fun v55_41 =>
 oH Tryz.prog (.load 3 (.tmp 0)) 3 [v55_41] (upto C_34 2) (fun v56_42 =>
 oH Tryz.prog (.load 111 (.tmp 0)) 111 [v10_9] (upto C_34 1) (fun v57_43 =>
 pureH a3 (upto C_34 1) (fun v58_44 =>
 oH Tryz.prog (.fieldAddr 28 (.tmp 0) 0) 0 [v6_2] (upto C_34 0) (fun v59_45 =>
 oH Tryz.prog (.load 3 (.tmp 0)) 3 [v59_45] (upto C_34 0) (fun v60_46 =>
 pureH v48_33 (upto C_34 0) (fun v61_47 =>
 oM Tryz.prog (.buildSlice 22 2 #[(0, (.tmp 0)), (1, (.tmp 1))]) 22 [v60_46, v61_47] (fun v62_48 w => C_34 1 w ∧ (
 callM Tryz.prog 75 #[v57_43, v58_44, v62_48] (fun v63_49 w => C_34 2 w ∧ (
 callM Tryz.prog 74 #[v51_37, v56_42, v63_49] (fun v64_50 w => C_34 3 w ∧ (
 oM Tryz.prog (.buildSlice 22 1 #[(0, (.tmp 0))]) 22 [v64_50] (fun v65_51 w => C_34 4 w ∧ (
 oM Tryz.prog (.call (Go.Call.mk (.builtin .append) #[(.tmp 0), (.tmp 1)] #[22, 22])) 22 [v50_36, v65_51] (fun v66_52 w => C_34 5 w ∧ (
 oM Tryz.prog (.fieldAddr 47 (.tmp 0) 1) 0 [v13_25] (fun v67_53 w => C_34 6 w ∧ (
 oM Tryz.prog (.store 22 (.tmp 0) (.tmp 1)) 0 [v67_53, v66_52] (fun _ w => C_34 7 w ∧ (
 oM Tryz.prog (.binOp .add 3 (.tmp 0) (.tmp 1) 3) 3 [(l_30.getD 2 undef), (.int .i64 1)] (fun v68_54 w =>
 J_28 [(l_30.getD 2 undef), v48_33, v68_54] w ∧ m_29 [(l_30.getD 2 undef), v48_33, v68_54] w < m_29 l_30 w0_l_30) w)) w)) w)) w)) w)) w)) w)) w)))))))))))))))) w) w)
 (oM Tryz.prog (.load 47 (.tmp 0)) 47 [v13_25] (fun v69_55 w =>
 oM Tryz.prog (.store 47 (.tmp 0) (.tmp 1)) 0 [v8_3, v69_55] (fun _ w =>
 ∃ r_56, (do loadVar 47 (← asAddr v8_3) : Sem Value).run Tryz.prog w = .ok r_56 w ∧ K (.tuple #[r_56, (.bool true)]) w) w) w)) w)) w0_l_30)) w) w) w) w) w)) w) w) w) w) w) w) w) w) w) w) w) w) w) w) w) w) w) w) w) w) w) w
theorem sh_13_eq (a0 : Value) (a1 : Value) (a2 : Value) (a3 : Value) (K : Value → World → Prop) (w : World) : sh_13 a0 a1 a2 a3 K w = code Tryz.prog (fun _ => 3) 70 (Tryz.f13.body.getD .skip) (slotsAt [a0, a1, a2, a3]) (retK Tryz.prog [.cell 8 47, .tmp 9] K) w := by kernel_rfl
theorem sh_13_ok {a0 a1 a2 a3 : Value} {K : Value → World → Prop} {w : World} (h : sh_13 a0 a1 a2 a3 K w) : callM Tryz.prog 13 #[a0, a1, a2, a3] K w :=
  calls_of_code (fun _ => 3) (fn := Tryz.f13) (rs := [.cell 8 47, .tmp 9]) Tryz.func13 rfl rfl (by kernel_rfl) (Nat.le_of_ble_eq_true rfl) ((sh_13_eq a0 a1 a2 a3 K w).mp h)
def sh_14 (a0 : Value) (a1 : Value) (a2 : Value) (a3 : Value) (K : Value → World → Prop) (w : World) : Prop :=
 oM Tryz.prog (.box 35 (.tmp 0)) 0 [a0] (fun v4_1 w =>
 oM Tryz.prog (.alloc 39) 0 [] (fun v8_2 w =>
 oM Tryz.prog (.load 35 (.tmp 0)) 35 [v4_1] (fun v14_3 w =>
 callM Tryz.prog 70 #[v14_3, a2] (fun v16_4 w =>
 oM Tryz.prog (.extract (.tmp 0) 0) 111 [v16_4] (fun v17_5 w =>
 oM Tryz.prog (.extract (.tmp 0) 1) 3 [v16_4] (fun v18_6 w =>
 oM Tryz.prog (.extract (.tmp 0) 2) 4 [v16_4] (fun v19_7 w =>
 oM Tryz.prog (.alloc 111) 0 [] (fun v10_8 w =>
 oM Tryz.prog (.store 111 (.tmp 0) (.tmp 1)) 0 [v10_8, v17_5] (fun _ w =>
 oM Tryz.prog (.unOp .not 4 (.tmp 0)) 4 [v19_7] (fun v21_9 w =>
 gdM (gd v21_9 false) (oM Tryz.prog (.load 111 (.tmp 0)) 111 [v10_8]) (fun v23_10 w =>
 gdM (gd v21_9 false) (pureM a1) (fun v24_11 w =>
 gdM (gd v21_9 false) (oM Tryz.prog (.buildSlice 22 1 #[(0, (.tmp 0))]) 22 [v24_11]) (fun v25_12 w =>
 gdM (gd v21_9 false) (callM Tryz.prog 72 #[v23_10, (.int .i64 1), v25_12]) (fun v26_13 w =>
 gdM (gd v21_9 false) (oM Tryz.prog (.unOp .not 4 (.tmp 0)) 4 [v26_13]) (fun v27_14 w =>
 oM Tryz.prog (.pick (.tmp 0) (.tmp 1) (.tmp 2)) 4 [v21_9, (.bool true), v27_14] (fun v28_15 w =>
 gdM (gd v28_15 false) (oM Tryz.prog (.load 111 (.tmp 0)) 111 [v10_8]) (fun v30_16 w =>
 gdM (gd v28_15 false) (pureM a3) (fun v31_17 w =>
 gdM (gd v28_15 false) (oM Tryz.prog (.buildSlice 22 1 #[(0, (.tmp 0))]) 22 [v31_17]) (fun v32_18 w =>
 gdM (gd v28_15 false) (callM Tryz.prog 72 #[v30_16, (.int .i64 0), v32_18]) (fun v33_19 w =>
 gdM (gd v28_15 false) (oM Tryz.prog (.unOp .not 4 (.tmp 0)) 4 [v33_19]) (fun v34_20 w =>
 oM Tryz.prog (.pick (.tmp 0) (.tmp 1) (.tmp 2)) 4 [v28_15, (.bool true), v34_20] (fun v35_21 w =>
 condM v35_21
 (oM Tryz.prog (.build 39 #[]) 39 [] (fun v36_22 w =>
 oM Tryz.prog (.store 39 (.tmp 0) (.tmp 1)) 0 [v8_2, v36_22] (fun _ w =>
 ∃ r_23, (do loadVar 39 (← asAddr v8_2) : Sem Value).run Tryz.prog w = .ok r_23 w ∧ K (.tuple #[r_23, (.int .i64 1)]) w) w) w)
 (heldM w (fun C_24 w => (oH Tryz.prog (.load 111 (.tmp 0)) 111 [v10_8] C_24 (fun v37_25 =>
 pureH v18_6 C_24 (fun v38_26 =>
 pureH a1 C_24 (fun v39_27 =>
 oH Tryz.prog (.load 111 (.tmp 0)) 111 [v10_8] C_24 (fun v41_28 =>
 pureH a3 C_24 (fun v42_29 =>
 oH Tryz.prog (.load 111 (.tmp 0)) 111 [v10_8] C_24 (fun v44_30 =>
 pureH v18_6 C_24 (fun v45_31 =>
 pureH a3 C_24 (fun v46_32 =>
 callM Tryz.prog 76 #[v37_25, v38_26, v39_27] (fun v40_33 w => C_24 w ∧ (
 callM Tryz.prog 77 #[v41_28, v42_29] (fun v43_34 w => C_24 w ∧ (
 callM Tryz.prog 76 #[v44_30, v45_31, v46_32] (fun v47_35 w => C_24 w ∧ (
 oM Tryz.prog (.build 39 #[(0, (.tmp 0)), (1, (.tmp 1)), (2, (.tmp 2))]) 39 [v40_33, v43_34, v47_35] (fun v48_36 w => C_24 w ∧ (
 oM Tryz.prog (.store 39 (.tmp 0) (.tmp 1)) 0 [v8_2, v48_36] (fun _ w => C_24 w ∧ (
 C_24 w ∧ (∃ r_38, (do loadVar 39 (← asAddr v8_2) : Sem Value).run Tryz.prog w = .ok r_38 w ∧ K (.tuple #[r_38, (.int .i64 0)]) w))) w)) w)) w)) w)) w)))))))))))) w) w) w) w) w) w) w) w) w) w) w) w) w) w) w) w) w) w) w) w) w) w
theorem sh_14_eq (a0 : Value) (a1 : Value) (a2 : Value) (a3 : Value) (K : Value → World → Prop) (w : World) : sh_14 a0 a1 a2 a3 K w = code Tryz.prog (fun _ => 2) 49 (Tryz.f14.body.getD .skip) (slotsAt [a0, a1, a2, a3]) (retK Tryz.prog [.cell 8 39, .tmp 9] K) w := by kernel_rfl
theorem sh_14_ok {a0 a1 a2 a3 : Value} {K : Value → World → Prop} {w : World} (h : sh_14 a0 a1 a2 a3 K w) : callM Tryz.prog 14 #[a0, a1, a2, a3] K w :=
  calls_of_code (fun _ => 2) (fn := Tryz.f14) (rs := [.cell 8 39, .tmp 9]) Tryz.func14 rfl rfl (by kernel_rfl) (Nat.le_of_ble_eq_true rfl) ((sh_14_eq a0 a1 a2 a3 K w).mp h)
def sh_15 (a0 : Value) (a1 : Value) (a2 : Value) (a3 : Value) (K : Value → World → Prop) (w : World) : Prop :=
 oM Tryz.prog (.box 35 (.tmp 0)) 0 [a0] (fun v4_1 w =>
 oM Tryz.prog (.load 35 (.tmp 0)) 35 [v4_1] (fun v12_2 w =>
 callM Tryz.prog 78 #[v12_2] (fun v13_3 w =>
 oM Tryz.prog (.extract (.tmp 0) 0) 111 [v13_3] (fun v14_4 w =>
 oM Tryz.prog (.extract (.tmp 0) 1) 4 [v13_3] (fun v15_5 w =>
 oM Tryz.prog (.alloc 111) 0 [] (fun v9_6 w =>
 oM Tryz.prog (.store 111 (.tmp 0) (.tmp 1)) 0 [v9_6, v14_4] (fun _ w =>
 gdM (gd v15_5 true) (oM Tryz.prog (.load 111 (.tmp 0)) 111 [v9_6]) (fun v18_7 w =>
 gdM (gd v15_5 true) (pureM a1) (fun v19_8 w =>
 gdM (gd v15_5 true) (oM Tryz.prog (.buildSlice 22 1 #[(0, (.tmp 0))]) 22 [v19_8]) (fun v20_9 w =>
 gdM (gd v15_5 true) (callM Tryz.prog 72 #[v18_7, (.int .i64 1), v20_9]) (fun v21_10 w =>
 oM Tryz.prog (.pick (.tmp 0) (.tmp 1) (.tmp 2)) 4 [v15_5, v21_10, (.bool false)] (fun v22_11 w =>
 gdM (gd v22_11 true) (oM Tryz.prog (.load 111 (.tmp 0)) 111 [v9_6]) (fun v24_12 w =>
 gdM (gd v22_11 true) (pureM a2) (fun v25_13 w =>
 gdM (gd v22_11 true) (pureM a3) (fun v26_14 w =>
 gdM (gd v22_11 true) (oM Tryz.prog (.buildSlice 22 2 #[(0, (.tmp 0)), (1, (.tmp 1))]) 22 [v25_13, v26_14]) (fun v27_15 w =>
 gdM (gd v22_11 true) (callM Tryz.prog 72 #[v24_12, (.int .i64 0), v27_15]) (fun v28_16 w =>
 oM Tryz.prog (.pick (.tmp 0) (.tmp 1) (.tmp 2)) 4 [v22_11, v28_16, (.bool false)] (fun v29_17 w =>
 condM v29_17
 (heldM w (fun C_18 w => (oH Tryz.prog (.load 111 (.tmp 0)) 111 [v9_6] C_18 (fun v30_19 =>
 oH Tryz.prog (.load 111 (.tmp 0)) 111 [v9_6] C_18 (fun v31_20 =>
 pureH a3 C_18 (fun v32_21 =>
 pureH a1 C_18 (fun v33_22 =>
 pureH a2 C_18 (fun v36_23 =>
 oM Tryz.prog (.buildSlice 22 1 #[(0, (.tmp 0))]) 22 [v33_22] (fun v34_24 w => C_18 w ∧ (
 callM Tryz.prog 75 #[v31_20, v32_21, v34_24] (fun v35_25 w => C_18 w ∧ (
 callM Tryz.prog 74 #[v30_19, v35_25, v36_23] (fun v37_26 w => C_18 w ∧ (
 C_18 w ∧ (K v37_26 w))) w)) w)) w))))))))
 (K (.int .i64 0) w)) w) w) w) w) w) w) w) w) w) w) w) w) w) w) w) w) w) w
theorem sh_15_eq (a0 : Value) (a1 : Value) (a2 : Value) (a3 : Value) (K : Value → World → Prop) (w : World) : sh_15 a0 a1 a2 a3 K w = code Tryz.prog (fun _ => 2) 38 (Tryz.f15.body.getD .skip) (slotsAt [a0, a1, a2, a3]) (retK Tryz.prog [.tmp 8] K) w := by kernel_rfl
theorem sh_15_ok {a0 a1 a2 a3 : Value} {K : Value → World → Prop} {w : World} (h : sh_15 a0 a1 a2 a3 K w) : callM Tryz.prog 15 #[a0, a1, a2, a3] K w :=
  calls_of_code (fun _ => 2) (fn := Tryz.f15) (rs := [.tmp 8]) Tryz.func15 rfl rfl (by kernel_rfl) (Nat.le_of_ble_eq_true rfl) ((sh_15_eq a0 a1 a2 a3 K w).mp h)
def sh_19 (a0 : Value) (a1 : Value) (K : Value → World → Prop) (w : World) : Prop :=
 oM Tryz.prog (.box 35 (.tmp 0)) 0 [a0] (fun v2_1 w =>
 oM Tryz.prog (.load 35 (.tmp 0)) 35 [v2_1] (fun v8_2 w =>
 callM Tryz.prog 78 #[v8_2] (fun v9_3 w =>
 oM Tryz.prog (.extract (.tmp 0) 0) 111 [v9_3] (fun v10_4 w =>
 oM Tryz.prog (.extract (.tmp 0) 1) 4 [v9_3] (fun v11_5 w =>
 oM Tryz.prog (.alloc 111) 0 [] (fun v5_6 w =>
 oM Tryz.prog (.store 111 (.tmp 0) (.tmp 1)) 0 [v5_6, v10_4] (fun _ w =>
 gdM (gd v11_5 true) (oM Tryz.prog (.load 111 (.tmp 0)) 111 [v5_6]) (fun v14_7 w =>
 gdM (gd v11_5 true) (pureM a1) (fun v15_8 w =>
 gdM (gd v11_5 true) (oM Tryz.prog (.buildSlice 22 1 #[(0, (.tmp 0))]) 22 [v15_8]) (fun v16_9 w =>
 gdM (gd v11_5 true) (callM Tryz.prog 72 #[v14_7, (.int .i64 1), v16_9]) (fun v17_10 w =>
 oM Tryz.prog (.pick (.tmp 0) (.tmp 1) (.tmp 2)) 4 [v11_5, v17_10, (.bool false)] (fun v18_11 w =>
 condM v18_11
 (oM Tryz.prog (.load 111 (.tmp 0)) 111 [v5_6] (fun v19_12 w =>
 callM Tryz.prog 77 #[v19_12, a1] (fun v21_13 w =>
 K v21_13 w) w) w)
 (K (.int .i64 0) w)) w) w) w) w) w) w) w) w) w) w) w) w
theorem sh_19_eq (a0 : Value) (a1 : Value) (K : Value → World → Prop) (w : World) : sh_19 a0 a1 K w = code Tryz.prog (fun _ => 2) 22 (Tryz.f19.body.getD .skip) (slotsAt [a0, a1]) (retK Tryz.prog [.tmp 4] K) w := by kernel_rfl
theorem sh_19_ok {a0 a1 : Value} {K : Value → World → Prop} {w : World} (h : sh_19 a0 a1 K w) : callM Tryz.prog 19 #[a0, a1] K w :=
  calls_of_code (fun _ => 2) (fn := Tryz.f19) (rs := [.tmp 4]) Tryz.func19 rfl rfl (by kernel_rfl) (Nat.le_of_ble_eq_true rfl) ((sh_19_eq a0 a1 K w).mp h)
def sh_27 (a0 : Value) (a1 : Value) (K : Value → World → Prop) (w : World) : Prop :=
 oM Tryz.prog (.box 35 (.tmp 0)) 0 [a0] (fun v2_1 w =>
 oM Tryz.prog (.load 35 (.tmp 0)) 35 [v2_1] (fun v9_2 w =>
 callM Tryz.prog 95 #[v9_2, a1] (fun v11_3 w =>
 oM Tryz.prog (.extract (.tmp 0) 0) 111 [v11_3] (fun v12_4 w =>
 oM Tryz.prog (.extract (.tmp 0) 1) 3 [v11_3] (fun v13_5 w =>
 oM Tryz.prog (.extract (.tmp 0) 2) 4 [v11_3] (fun v14_6 w =>
 oM Tryz.prog (.alloc 111) 0 [] (fun v5_7 w =>
 oM Tryz.prog (.store 111 (.tmp 0) (.tmp 1)) 0 [v5_7, v12_4] (fun _ w =>
 K v13_5 w) w) w) w) w) w) w) w) w
theorem sh_27_eq (a0 : Value) (a1 : Value) (K : Value → World → Prop) (w : World) : sh_27 a0 a1 K w = code Tryz.prog (fun _ => 0) 16 (Tryz.f27.body.getD .skip) (slotsAt [a0, a1]) (retK Tryz.prog [.tmp 4] K) w := by kernel_rfl
theorem sh_27_ok {a0 a1 : Value} {K : Value → World → Prop} {w : World} (h : sh_27 a0 a1 K w) : callM Tryz.prog 27 #[a0, a1] K w :=
  calls_of_code (fun _ => 0) (fn := Tryz.f27) (rs := [.tmp 4]) Tryz.func27 rfl rfl (by kernel_rfl) (Nat.le_of_ble_eq_true rfl) ((sh_27_eq a0 a1 K w).mp h)
def sh_29 (a0 : Value) (a1 : Value) (K : Value → World → Prop) (w : World) : Prop :=
 oM Tryz.prog (.box 35 (.tmp 0)) 0 [a0] (fun v2_1 w =>
 oM Tryz.prog (.load 35 (.tmp 0)) 35 [v2_1] (fun v9_2 w =>
 callM Tryz.prog 70 #[v9_2, a1] (fun v11_3 w =>
 oM Tryz.prog (.extract (.tmp 0) 0) 111 [v11_3] (fun v12_4 w =>
 oM Tryz.prog (.extract (.tmp 0) 1) 3 [v11_3] (fun v13_5 w =>
 oM Tryz.prog (.extract (.tmp 0) 2) 4 [v11_3] (fun v14_6 w =>
 oM Tryz.prog (.alloc 111) 0 [] (fun v5_7 w =>
 oM Tryz.prog (.store 111 (.tmp 0) (.tmp 1)) 0 [v5_7, v12_4] (fun _ w =>
 K v14_6 w) w) w) w) w) w) w) w) w
theorem sh_29_eq (a0 : Value) (a1 : Value) (K : Value → World → Prop) (w : World) : sh_29 a0 a1 K w = code Tryz.prog (fun _ => 0) 16 (Tryz.f29.body.getD .skip) (slotsAt [a0, a1]) (retK Tryz.prog [.tmp 4] K) w := by kernel_rfl
theorem sh_29_ok {a0 a1 : Value} {K : Value → World → Prop} {w : World} (h : sh_29 a0 a1 K w) : callM Tryz.prog 29 #[a0, a1] K w :=
  calls_of_code (fun _ => 0) (fn := Tryz.f29) (rs := [.tmp 4]) Tryz.func29 rfl rfl (by kernel_rfl) (Nat.le_of_ble_eq_true rfl) ((sh_29_eq a0 a1 K w).mp h)
def sh_48 (a0 : Value) (a1 : Value) (a2 : Value) (a3 : Value) (K : Value → World → Prop) (w : World) : Prop :=
 oM Tryz.prog (.box 35 (.tmp 0)) 0 [a0] (fun v4_1 w =>
 oM Tryz.prog (.box 43 (.tmp 0)) 0 [a1] (fun v5_2 w =>
 oM Tryz.prog (.box 47 (.tmp 0)) 0 [a2] (fun v6_3 w =>
 oM Tryz.prog (.box 47 (.tmp 0)) 0 [a3] (fun v7_4 w =>
 oM Tryz.prog (.load 35 (.tmp 0)) 35 [v4_1] (fun v17_5 w =>
 oM Tryz.prog (.load 43 (.tmp 0)) 43 [v5_2] (fun v18_6 w =>
 oM Tryz.prog (.load 47 (.tmp 0)) 47 [v6_3] (fun v19_7 w =>
 oM Tryz.prog (.load 47 (.tmp 0)) 47 [v7_4] (fun v20_8 w =>
 callM Tryz.prog 120 #[v17_5, v18_6, v19_7, v20_8] (fun v21_9 w =>
 oM Tryz.prog (.extract (.tmp 0) 0) 111 [v21_9] (fun v22_10 w =>
 oM Tryz.prog (.extract (.tmp 0) 1) 22 [v21_9] (fun v23_11 w =>
 oM Tryz.prog (.extract (.tmp 0) 2) 4 [v21_9] (fun v24_12 w =>
 oM Tryz.prog (.alloc 111) 0 [] (fun v10_13 w =>
 oM Tryz.prog (.store 111 (.tmp 0) (.tmp 1)) 0 [v10_13, v22_10] (fun _ w =>
 oM Tryz.prog (.unOp .not 4 (.tmp 0)) 4 [v24_12] (fun v26_14 w =>
 condM v26_14
 (K (.tuple #[(.slice none 0 0), (.bool false)]) w)
 (oM Tryz.prog (.slice 22 (.tmp 0) (some (.tmp 1)) none none) 22 [v23_11, (.int .i64 1)] (fun v28_15 w =>
 oM Tryz.prog (.call (Go.Call.mk (.builtin .len) #[(.tmp 0)] #[22])) 3 [v28_15] (fun v29_16 w =>
 loopM [undef, (.slice none 0 0), (.int .i64 0)] w (fun J_17 m_18 l_19 u_l_19 w0_l_19 => (fun w => (
 oM Tryz.prog (.binOp .lss 3 (.tmp 0) (.tmp 1) 3) 0 [(l_19.getD 2 undef), v29_16] (fun v31_20 w =>
 condM v31_20
 (oM Tryz.prog (.indexAddr 22 (.tmp 0) (.tmp 1)) 0 [v28_15, (l_19.getD 2 undef)] (fun v32_21 w =>
 oM Tryz.prog (.load 3 (.tmp 0)) 3 [v32_21] (fun v33_22 w =>
 heldM w (fun C_23 w => (pureH (l_19.getD 1 undef) C_23 (fun v34_24 =>
 oH Tryz.prog (.load 111 (.tmp 0)) 111 [v10_13] C_23 (fun v35_25 =>
 pureH v33_22 C_23 (fun v36_26 =>
 pureH v23_11 C_23 (fun v37_27 =>
 oH Tryz.prog (.indexAddr 22 (.tmp 0) (.tmp 1)) 0 [v37_27, (.int .i64 0)] C_23 (fun v38_28 =>
 oH Tryz.prog (.load 3 (.tmp 0)) 3 [v38_28] C_23 (fun v39_29 =>
 callM Tryz.prog 105 #[v35_25, v36_26, v39_29] (fun v40_30 w => C_23 w ∧ (
 oM Tryz.prog (.buildSlice 22 1 #[(0, (.tmp 0))]) 22 [v40_30] (fun v41_31 w => C_23 w ∧ (
 oM Tryz.prog (.call (Go.Call.mk (.builtin .append) #[(.tmp 0), (.tmp 1)] #[22, 22])) 22 [v34_24, v41_31] (fun v42_32 w => C_23 w ∧ (
 C_23 w ∧ (oM Tryz.prog (.binOp .add 3 (.tmp 0) (.tmp 1) 3) 3 [(l_19.getD 2 undef), (.int .i64 1)] (fun v43_34 w =>
 J_17 [v33_22, v42_32, v43_34] w ∧ m_18 [v33_22, v42_32, v43_34] w < m_18 l_19 w0_l_19) w))) w)) w)) w))))))))) w) w)
 (K (.tuple #[(l_19.getD 1 undef), (.bool true)]) w)) w)) w0_l_19)) w) w)) w) w) w) w) w) w) w) w) w) w) w) w) w) w) w
theorem sh_48_eq (a0 : Value) (a1 : Value) (a2 : Value) (a3 : Value) (K : Value → World → Prop) (w : World) : sh_48 a0 a1 a2 a3 K w = code Tryz.prog (fun _ => 2) 45 (Tryz.f48.body.getD .skip) (slotsAt [a0, a1, a2, a3]) (retK Tryz.prog [.tmp 8, .tmp 9] K) w := by kernel_rfl
theorem sh_48_ok {a0 a1 a2 a3 : Value} {K : Value → World → Prop} {w : World} (h : sh_48 a0 a1 a2 a3 K w) : callM Tryz.prog 48 #[a0, a1, a2, a3] K w :=
  calls_of_code (fun _ => 2) (fn := Tryz.f48) (rs := [.tmp 8, .tmp 9]) Tryz.func48 rfl rfl (by kernel_rfl) (Nat.le_of_ble_eq_true rfl) ((sh_48_eq a0 a1 a2 a3 K w).mp h)
def sh_57 (a0 : Value) (a1 : Value) (a2 : Value) (K : Value → World → Prop) (w : World) : Prop :=
 oM Tryz.prog (.box 35 (.tmp 0)) 0 [a0] (fun v3_1 w =>
 oM Tryz.prog (.box 43 (.tmp 0)) 0 [a1] (fun v4_2 w =>
 oM Tryz.prog (.box 47 (.tmp 0)) 0 [a2] (fun v5_3 w =>
 oM Tryz.prog (.load 35 (.tmp 0)) 35 [v3_1] (fun v10_4 w =>
 oM Tryz.prog (.load 43 (.tmp 0)) 43 [v4_2] (fun v11_5 w =>
 callM Tryz.prog 124 #[v10_4, v11_5] (fun v12_6 w =>
 oM Tryz.prog (.extract (.tmp 0) 0) 111 [v12_6] (fun v13_7 w =>
 oM Tryz.prog (.extract (.tmp 0) 1) 4 [v12_6] (fun v14_8 w =>
 oM Tryz.prog (.alloc 111) 0 [] (fun v7_9 w =>
 oM Tryz.prog (.store 111 (.tmp 0) (.tmp 1)) 0 [v7_9, v13_7] (fun _ w =>
 oM Tryz.prog (.unOp .not 4 (.tmp 0)) 4 [v14_8] (fun v16_10 w =>
 gdM (gd v16_10 false) (oM Tryz.prog (.load 111 (.tmp 0)) 111 [v7_9]) (fun v18_11 w =>
 gdM (gd v16_10 false) (oM Tryz.prog (.fieldAddr 47 (.tmp 0) 0) 0 [v5_3]) (fun v19_12 w =>
 gdM (gd v16_10 false) (oM Tryz.prog (.load 3 (.tmp 0)) 3 [v19_12]) (fun v20_13 w =>
 gdM (gd v16_10 false) (oM Tryz.prog (.buildSlice 22 1 #[(0, (.tmp 0))]) 22 [v20_13]) (fun v21_14 w =>
 gdM (gd v16_10 false) (callM Tryz.prog 72 #[v18_11, (.int .i64 1), v21_14]) (fun v22_15 w =>
 gdM (gd v16_10 false) (oM Tryz.prog (.unOp .not 4 (.tmp 0)) 4 [v22_15]) (fun v23_16 w =>
 oM Tryz.prog (.pick (.tmp 0) (.tmp 1) (.tmp 2)) 4 [v16_10, (.bool true), v23_16] (fun v24_17 w =>
 gdM (gd v24_17 false) (oM Tryz.prog (.fieldAddr 47 (.tmp 0) 1) 0 [v5_3]) (fun v26_18 w =>
 gdM (gd v24_17 false) (oM Tryz.prog (.load 22 (.tmp 0)) 22 [v26_18]) (fun v27_19 w =>
 gdM (gd v24_17 false) (oM Tryz.prog (.call (Go.Call.mk (.builtin .len) #[(.tmp 0)] #[22])) 3 [v27_19]) (fun v28_20 w =>
 gdM (gd v24_17 false) (oM Tryz.prog (.fieldAddr 35 (.tmp 0) 1) 0 [v3_1]) (fun v29_21 w =>
 gdM (gd v24_17 false) (oM Tryz.prog (.load 22 (.tmp 0)) 22 [v29_21]) (fun v30_22 w =>
 gdM (gd v24_17 false) (oM Tryz.prog (.call (Go.Call.mk (.builtin .len) #[(.tmp 0)] #[22])) 3 [v30_22]) (fun v31_23 w =>
 gdM (gd v24_17 false) (oM Tryz.prog (.binOp .neq 3 (.tmp 0) (.tmp 1) 3) 4 [v28_20, v31_23]) (fun v32_24 w =>
 oM Tryz.prog (.pick (.tmp 0) (.tmp 1) (.tmp 2)) 4 [v24_17, (.bool true), v32_24] (fun v33_25 w =>
 gdM (gd v33_25 false) (oM Tryz.prog (.load 111 (.tmp 0)) 111 [v7_9]) (fun v35_26 w =>
 gdM (gd v33_25 false) (oM Tryz.prog (.fieldAddr 47 (.tmp 0) 1) 0 [v5_3]) (fun v36_27 w =>
 gdM (gd v33_25 false) (oM Tryz.prog (.load 22 (.tmp 0)) 22 [v36_27]) (fun v37_28 w =>
 gdM (gd v33_25 false) (callM Tryz.prog 72 #[v35_26, (.int .i64 0), v37_28]) (fun v38_29 w =>
 gdM (gd v33_25 false) (oM Tryz.prog (.unOp .not 4 (.tmp 0)) 4 [v38_29]) (fun v39_30 w =>
 oM Tryz.prog (.pick (.tmp 0) (.tmp 1) (.tmp 2)) 4 [v33_25, (.bool true), v39_30] (fun v40_31 w =>
 condM v40_31
 (K (.bool false) w)
 (heldM w (fun C_32 w => (oH Tryz.prog (.load 111 (.tmp 0)) 111 [v7_9] C_32 (fun v41_33 =>
 oH Tryz.prog (.fieldAddr 47 (.tmp 0) 1) 0 [v5_3] C_32 (fun v42_34 =>
 oH Tryz.prog (.load 22 (.tmp 0)) 22 [v42_34] C_32 (fun v43_35 =>
 oH Tryz.prog (.load 111 (.tmp 0)) 111 [v7_9] C_32 (fun v45_36 =>
 oH Tryz.prog (.load 111 (.tmp 0)) 111 [v7_9] C_32 (fun v46_37 =>
 oH Tryz.prog (.fieldAddr 43 (.tmp 0) 0) 0 [v4_2] C_32 (fun v47_38 =>
 oH Tryz.prog (.load 3 (.tmp 0)) 3 [v47_38] C_32 (fun v48_39 =>
 oH Tryz.prog (.fieldAddr 47 (.tmp 0) 0) 0 [v5_3] C_32 (fun v49_40 =>
 oH Tryz.prog (.load 3 (.tmp 0)) 3 [v49_40] C_32 (fun v50_41 =>
 oH Tryz.prog (.fieldAddr 43 (.tmp 0) 1) 0 [v4_2] C_32 (fun v52_42 =>
 oH Tryz.prog (.load 3 (.tmp 0)) 3 [v52_42] C_32 (fun v53_43 =>
 (callM Tryz.prog 126 #[v41_33, v43_35] (fun v44_44 w => C_32 w ∧ (
 (callM Tryz.prog 76 #[v46_37, v48_39, v50_41] (fun v51_45 w => C_32 w ∧ (
 oM Tryz.prog (.buildSlice 22 1 #[(0, (.tmp 0))]) 22 [v53_43] (fun v54_46 w => C_32 w ∧ (
 callM Tryz.prog 127 #[v45_36, v51_45, v54_46] (fun v55_47 w => C_32 w ∧ (
 oH Tryz.prog (.binOp .eql 3 (.tmp 0) (.tmp 1) 3) 4 [v44_44, v55_47] C_32 (fun v56_48 =>
 C_32 w ∧ (K v56_48 w)))) w)) w)) w) ∧
 (oM Tryz.prog (.buildSlice 22 1 #[(0, (.tmp 0))]) 22 [v53_43] (fun v54_50 w => C_32 w ∧ (
 callM Tryz.prog 76 #[v46_37, v48_39, v50_41] (fun v51_51 w => C_32 w ∧ (
 callM Tryz.prog 127 #[v45_36, v51_51, v54_50] (fun v55_52 w => C_32 w ∧ (
 oH Tryz.prog (.binOp .eql 3 (.tmp 0) (.tmp 1) 3) 4 [v44_44, v55_52] C_32 (fun v56_53 =>
 C_32 w ∧ (K v56_53 w)))) w)) w)) w))) w) ∧
 (oM Tryz.prog (.buildSlice 22 1 #[(0, (.tmp 0))]) 22 [v53_43] (fun v54_55 w => C_32 w ∧ (
 callM Tryz.prog 126 #[v41_33, v43_35] (fun v44_56 w => C_32 w ∧ (
 callM Tryz.prog 76 #[v46_37, v48_39, v50_41] (fun v51_57 w => C_32 w ∧ (
 callM Tryz.prog 127 #[v45_36, v51_57, v54_55] (fun v55_58 w => C_32 w ∧ (
 oH Tryz.prog (.binOp .eql 3 (.tmp 0) (.tmp 1) 3) 4 [v44_56, v55_58] C_32 (fun v56_59 =>
 C_32 w ∧ (K v56_59 w)))) w)) w)) w)) w)))))))))))))))) w) w) w) w) w) w) w) w) w) w) w) w) w) w) w) w) w) w) w) w) w) w) w) w) w) w) w) w) w) w) w) w
theorem sh_57_eq (a0 : Value) (a1 : Value) (a2 : Value) (K : Value → World → Prop) (w : World) : sh_57 a0 a1 a2 K w = code Tryz.prog (fun _ => .tree (.look 0 (.look 1 (.look 2 (.look 4 (.look 5 (.look 6 (.look 7 (.look 8 (.look 9 (.look 11 (.look 12 (.alt 3 (.alt 10 (.only 13 (.only 14 (.look 15 (.only 16 (.done))))) (.only 13 (.only 10 (.only 14 (.look 15 (.only 16 (.done))))))) (.only 13 (.only 3 (.only 10 (.only 14 (.look 15 (.only 16 (.done)))))))))))))))))))) 57 (Tryz.f57.body.getD .skip) (slotsAt [a0, a1, a2]) (retK Tryz.prog [.tmp 6] K) w := by kernel_rfl
theorem sh_57_ok {a0 a1 a2 : Value} {K : Value → World → Prop} {w : World} (h : sh_57 a0 a1 a2 K w) : callM Tryz.prog 57 #[a0, a1, a2] K w :=
  calls_of_code (fun _ => .tree (.look 0 (.look 1 (.look 2 (.look 4 (.look 5 (.look 6 (.look 7 (.look 8 (.look 9 (.look 11 (.look 12 (.alt 3 (.alt 10 (.only 13 (.only 14 (.look 15 (.only 16 (.done))))) (.only 13 (.only 10 (.only 14 (.look 15 (.only 16 (.done))))))) (.only 13 (.only 3 (.only 10 (.only 14 (.look 15 (.only 16 (.done)))))))))))))))))))) (fn := Tryz.f57) (rs := [.tmp 6]) Tryz.func57 rfl rfl (by kernel_rfl) (Nat.le_of_ble_eq_true rfl) ((sh_57_eq a0 a1 a2 K w).mp h)
def sh_60 (a0 : Value) (a1 : Value) (a2 : Value) (a3 : Value) (a4 : Value) (K : Value → World → Prop) (w : World) : Prop :=
 oM Tryz.prog (.box 35 (.tmp 0)) 0 [a0] (fun v5_1 w =>
 oM Tryz.prog (.box 43 (.tmp 0)) 0 [a1] (fun v6_2 w =>
 oM Tryz.prog (.box 47 (.tmp 0)) 0 [a2] (fun v7_3 w =>
 oM Tryz.prog (.box 47 (.tmp 0)) 0 [a3] (fun v8_4 w =>
 oM Tryz.prog (.load 35 (.tmp 0)) 35 [v5_1] (fun v17_5 w =>
 oM Tryz.prog (.load 43 (.tmp 0)) 43 [v6_2] (fun v18_6 w =>
 oM Tryz.prog (.load 47 (.tmp 0)) 47 [v7_3] (fun v19_7 w =>
 oM Tryz.prog (.load 47 (.tmp 0)) 47 [v8_4] (fun v20_8 w =>
 callM Tryz.prog 120 #[v17_5, v18_6, v19_7, v20_8] (fun v21_9 w =>
 oM Tryz.prog (.extract (.tmp 0) 0) 111 [v21_9] (fun v22_10 w =>
 oM Tryz.prog (.extract (.tmp 0) 1) 22 [v21_9] (fun v23_11 w =>
 oM Tryz.prog (.extract (.tmp 0) 2) 4 [v21_9] (fun v24_12 w =>
 oM Tryz.prog (.alloc 111) 0 [] (fun v11_13 w =>
 oM Tryz.prog (.store 111 (.tmp 0) (.tmp 1)) 0 [v11_13, v22_10] (fun _ w =>
 oM Tryz.prog (.unOp .not 4 (.tmp 0)) 4 [v24_12] (fun v26_14 w =>
 gdM (gd v26_14 false) (pureM a4) (fun v28_15 w =>
 gdM (gd v26_14 false) (oM Tryz.prog (.call (Go.Call.mk (.builtin .len) #[(.tmp 0)] #[22])) 3 [v28_15]) (fun v29_16 w =>
 gdM (gd v26_14 false) (pureM v23_11) (fun v30_17 w =>
 gdM (gd v26_14 false) (oM Tryz.prog (.call (Go.Call.mk (.builtin .len) #[(.tmp 0)] #[22])) 3 [v30_17]) (fun v31_18 w =>
 gdM (gd v26_14 false) (oM Tryz.prog (.binOp .sub 3 (.tmp 0) (.tmp 1) 3) 3 [v31_18, (.int .i64 1)]) (fun v32_19 w =>
 gdM (gd v26_14 false) (oM Tryz.prog (.binOp .neq 3 (.tmp 0) (.tmp 1) 3) 4 [v29_16, v32_19]) (fun v33_20 w =>
 oM Tryz.prog (.pick (.tmp 0) (.tmp 1) (.tmp 2)) 4 [v26_14, (.bool true), v33_20] (fun v34_21 w =>
 gdM (gd v34_21 false) (oM Tryz.prog (.load 111 (.tmp 0)) 111 [v11_13]) (fun v36_22 w =>
 gdM (gd v34_21 false) (pureM a4) (fun v37_23 w =>
 gdM (gd v34_21 false) (callM Tryz.prog 72 #[v36_22, (.int .i64 0), v37_23]) (fun v38_24 w =>
 gdM (gd v34_21 false) (oM Tryz.prog (.unOp .not 4 (.tmp 0)) 4 [v38_24]) (fun v39_25 w =>
 oM Tryz.prog (.pick (.tmp 0) (.tmp 1) (.tmp 2)) 4 [v34_21, (.bool true), v39_25] (fun v40_26 w =>
 condM v40_26
 (K (.bool false) w)
 (oM Tryz.prog (.call (Go.Call.mk (.builtin .len) #[(.tmp 0)] #[22])) 3 [a4] (fun v42_27 w =>
 loopM [undef, undef, (.bool false), (.int .i64 0)] w (fun J_28 m_29 l_30 u_l_30 w0_l_30 => (fun w => (
 oM Tryz.prog (.binOp .lss 3 (.tmp 0) (.tmp 1) 3) 0 [(l_30.getD 3 undef), v42_27] (fun v44_31 w =>
 condM v44_31
 (oM Tryz.prog (.indexAddr 22 (.tmp 0) (.tmp 1)) 0 [a4, (l_30.getD 3 undef)] (fun v46_32 w =>
 oM Tryz.prog (.load 3 (.tmp 0)) 3 [v46_32] (fun v47_33 w =>
 heldM w (fun C_34 w => (oH Tryz.prog (.load 111 (.tmp 0)) 111 [v11_13] C_34 (fun v48_35 =>
 pureH v47_33 C_34 (fun v49_36 =>
 pureH v23_11 C_34 (fun v50_37 =>
 oH Tryz.prog (.indexAddr 22 (.tmp 0) (.tmp 1)) 0 [v50_37, (.int .i64 0)] C_34 (fun v51_38 =>
 oH Tryz.prog (.load 3 (.tmp 0)) 3 [v51_38] C_34 (fun v52_39 =>
 pureH v23_11 C_34 (fun v55_40 =>
 pureH (l_30.getD 3 undef) C_34 (fun v56_41 =>
 oH Tryz.prog (.binOp .add 3 (.tmp 0) (.tmp 1) 3) 3 [v56_41, (.int .i64 1)] C_34 (fun v57_42 =>
 oH Tryz.prog (.indexAddr 22 (.tmp 0) (.tmp 1)) 0 [v55_40, v57_42] C_34 (fun v58_43 =>
 oH Tryz.prog (.load 3 (.tmp 0)) 3 [v58_43] C_34 (fun v59_44 =>
 oM Tryz.prog (.buildSlice 22 1 #[(0, (.tmp 0))]) 22 [v52_39] (fun v53_45 w => C_34 w ∧ (
 callM Tryz.prog 75 #[v48_35, v49_36, v53_45] (fun v54_46 w => C_34 w ∧ (
 oM Tryz.prog (.binOp .neq 3 (.tmp 0) (.tmp 1) 3) 4 [v54_46, v59_44] (fun v60_47 w => C_34 w ∧ (
 condM v60_47
 (K (.bool false) w)
 (oM Tryz.prog (.binOp .add 3 (.tmp 0) (.tmp 1) 3) 3 [(l_30.getD 3 undef), (.int .i64 1)] (fun v61_48 w =>
 J_28 [(l_30.getD 3 undef), v47_33, (l_30.getD 2 undef), v61_48] w ∧ m_29 [(l_30.getD 3 undef), v47_33, (l_30.getD 2 undef), v61_48] w < m_29 l_30 w0_l_30) w))) w)) w)) w))))))))))))) w) w)
 (K (.bool true) w)) w)) w0_l_30)) w)) w) w) w) w) w) w) w) w) w) w) w) w) w) w) w) w) w) w) w) w) w) w) w) w) w) w) w
theorem sh_60_eq (a0 : Value) (a1 : Value) (a2 : Value) (a3 : Value) (a4 : Value) (K : Value → World → Prop) (w : World) : sh_60 a0 a1 a2 a3 a4 K w = code Tryz.prog (fun _ => 2) 62 (Tryz.f60.body.getD .skip) (slotsAt [a0, a1, a2, a3, a4]) (retK Tryz.prog [.tmp 10] K) w := by kernel_rfl
theorem sh_60_ok {a0 a1 a2 a3 a4 : Value} {K : Value → World → Prop} {w : World} (h : sh_60 a0 a1 a2 a3 a4 K w) : callM Tryz.prog 60 #[a0, a1, a2, a3, a4] K w :=
  calls_of_code (fun _ => 2) (fn := Tryz.f60) (rs := [.tmp 10]) Tryz.func60 rfl rfl (by kernel_rfl) (Nat.le_of_ble_eq_true rfl) ((sh_60_eq a0 a1 a2 a3 a4 K w).mp h)
def sh_70 (a0 : Value) (a1 : Value) (K : Value → World → Prop) (w : World) : Prop :=
 oM Tryz.prog (.box 35 (.tmp 0)) 0 [a0] (fun v2_1 w =>
 oM Tryz.prog (.alloc 111) 0 [] (fun v4_2 w =>
 oM Tryz.prog (.load 35 (.tmp 0)) 35 [v2_1] (fun v11_3 w =>
 callM Tryz.prog 95 #[v11_3, a1] (fun v13_4 w =>
 oM Tryz.prog (.extract (.tmp 0) 0) 111 [v13_4] (fun v14_5 w =>
 oM Tryz.prog (.extract (.tmp 0) 1) 3 [v13_4] (fun v15_6 w =>
 oM Tryz.prog (.extract (.tmp 0) 2) 4 [v13_4] (fun v16_7 w =>
 oM Tryz.prog (.alloc 111) 0 [] (fun v7_8 w =>
 oM Tryz.prog (.store 111 (.tmp 0) (.tmp 1)) 0 [v7_8, v14_5] (fun _ w =>
 oM Tryz.prog (.load 111 (.tmp 0)) 111 [v7_8] (fun v17_9 w =>
 gdM (gd v16_7 true) (pureM v15_6) (fun v21_10 w =>
 gdM (gd v16_7 true) (oM Tryz.prog (.binOp .neq 3 (.tmp 0) (.const (.int .i64 1)) 3) 4 [v21_10]) (fun v22_11 w =>
 oM Tryz.prog (.pick (.tmp 0) (.tmp 1) (.tmp 2)) 4 [v16_7, v22_11, (.bool false)] (fun v23_12 w =>
 oM Tryz.prog (.store 111 (.tmp 0) (.tmp 1)) 0 [v4_2, v17_9] (fun _ w =>
 ∃ r_13, (do loadVar 111 (← asAddr v4_2) : Sem Value).run Tryz.prog w = .ok r_13 w ∧ K (.tuple #[r_13, v15_6, v23_12]) w) w) w) w) w) w) w) w) w) w) w) w) w) w) w
theorem sh_70_eq (a0 : Value) (a1 : Value) (K : Value → World → Prop) (w : World) : sh_70 a0 a1 K w = code Tryz.prog (fun _ => 2) 24 (Tryz.f70.body.getD .skip) (slotsAt [a0, a1]) (retK Tryz.prog [.cell 4 111, .tmp 5, .tmp 6] K) w := by kernel_rfl
theorem sh_70_ok {a0 a1 : Value} {K : Value → World → Prop} {w : World} (h : sh_70 a0 a1 K w) : callM Tryz.prog 70 #[a0, a1] K w :=
  calls_of_code (fun _ => 2) (fn := Tryz.f70) (rs := [.cell 4 111, .tmp 5, .tmp 6]) Tryz.func70 rfl rfl (by kernel_rfl) (Nat.le_of_ble_eq_true rfl) ((sh_70_eq a0 a1 K w).mp h)
def sh_71 (a0 : Value) (a1 : Value) (K : Value → World → Prop) (w : World) : Prop :=
 oM Tryz.prog (.box 111 (.tmp 0)) 0 [a0] (fun v2_1 w =>
 oM Tryz.prog (.box 28 (.tmp 0)) 0 [a1] (fun v3_2 w =>
 oM Tryz.prog (.load 111 (.tmp 0)) 111 [v2_1] (fun v5_3 w =>
 oM Tryz.prog (.fieldAddr 28 (.tmp 0) 0) 0 [v3_2] (fun v6_4 w =>
 oM Tryz.prog (.load 3 (.tmp 0)) 3 [v6_4] (fun v7_5 w =>
 oM Tryz.prog (.fieldAddr 28 (.tmp 0) 1) 0 [v3_2] (fun v8_6 w =>
 oM Tryz.prog (.load 3 (.tmp 0)) 3 [v8_6] (fun v9_7 w =>
 oM Tryz.prog (.buildSlice 22 2 #[(0, (.tmp 0)), (1, (.tmp 1))]) 22 [v7_5, v9_7] (fun v10_8 w =>
 callM Tryz.prog 72 #[v5_3, (.int .i64 1), v10_8] (fun v11_9 w =>
 gdM (gd v11_9 true) (oM Tryz.prog (.load 111 (.tmp 0)) 111 [v2_1]) (fun v13_10 w =>
 gdM (gd v11_9 true) (oM Tryz.prog (.fieldAddr 28 (.tmp 0) 2) 0 [v3_2]) (fun v14_11 w =>
 gdM (gd v11_9 true) (oM Tryz.prog (.load 3 (.tmp 0)) 3 [v14_11]) (fun v15_12 w =>
 gdM (gd v11_9 true) (oM Tryz.prog (.buildSlice 22 1 #[(0, (.tmp 0))]) 22 [v15_12]) (fun v16_13 w =>
 gdM (gd v11_9 true) (callM Tryz.prog 72 #[v13_10, (.int .i64 0), v16_13]) (fun v17_14 w =>
 oM Tryz.prog (.pick (.tmp 0) (.tmp 1) (.tmp 2)) 4 [v11_9, v17_14, (.bool false)] (fun v18_15 w =>
 gdM (gd v18_15 true) (oM Tryz.prog (.fieldAddr 28 (.tmp 0) 3) 0 [v3_2]) (fun v20_16 w =>
 gdM (gd v18_15 true) (oM Tryz.prog (.load 22 (.tmp 0)) 22 [v20_16]) (fun v21_17 w =>
 gdM (gd v18_15 true) (oM Tryz.prog (.call (Go.Call.mk (.builtin .len) #[(.tmp 0)] #[22])) 3 [v21_17]) (fun v22_18 w =>
 gdM (gd v18_15 true) (oM Tryz.prog (.fieldAddr 111 (.tmp 0) 0) 0 [v2_1]) (fun v23_19 w =>
 gdM (gd v18_15 true) (oM Tryz.prog (.fieldAddr 35 (.tmp 0) 1) 0 [v23_19]) (fun v24_20 w =>
 gdM (gd v18_15 true) (oM Tryz.prog (.load 22 (.tmp 0)) 22 [v24_20]) (fun v25_21 w =>
 gdM (gd v18_15 true) (oM Tryz.prog (.call (Go.Call.mk (.builtin .len) #[(.tmp 0)] #[22])) 3 [v25_21]) (fun v26_22 w =>
 gdM (gd v18_15 true) (oM Tryz.prog (.binOp .eql 3 (.tmp 0) (.tmp 1) 3) 4 [v22_18, v26_22]) (fun v27_23 w =>
 oM Tryz.prog (.pick (.tmp 0) (.tmp 1) (.tmp 2)) 4 [v18_15, v27_23, (.bool false)] (fun v28_24 w =>
 gdM (gd v28_24 true) (oM Tryz.prog (.load 111 (.tmp 0)) 111 [v2_1]) (fun v30_25 w =>
 gdM (gd v28_24 true) (oM Tryz.prog (.fieldAddr 28 (.tmp 0) 3) 0 [v3_2]) (fun v31_26 w =>
 gdM (gd v28_24 true) (oM Tryz.prog (.load 22 (.tmp 0)) 22 [v31_26]) (fun v32_27 w =>
 gdM (gd v28_24 true) (callM Tryz.prog 72 #[v30_25, (.int .i64 0), v32_27]) (fun v33_28 w =>
 oM Tryz.prog (.pick (.tmp 0) (.tmp 1) (.tmp 2)) 4 [v28_24, v33_28, (.bool false)] (fun v34_29 w =>
 K v34_29 w) w) w) w) w) w) w) w) w) w) w) w) w) w) w) w) w) w) w) w) w) w) w) w) w) w) w) w) w) w
theorem sh_71_eq (a0 : Value) (a1 : Value) (K : Value → World → Prop) (w : World) : sh_71 a0 a1 K w = code Tryz.prog (fun _ => 2) 35 (Tryz.f71.body.getD .skip) (slotsAt [a0, a1]) (retK Tryz.prog [.tmp 4] K) w := by kernel_rfl
theorem sh_71_ok {a0 a1 : Value} {K : Value → World → Prop} {w : World} (h : sh_71 a0 a1 K w) : callM Tryz.prog 71 #[a0, a1] K w :=
  calls_of_code (fun _ => 2) (fn := Tryz.f71) (rs := [.tmp 4]) Tryz.func71 rfl rfl (by kernel_rfl) (Nat.le_of_ble_eq_true rfl) ((sh_71_eq a0 a1 K w).mp h)
def sh_72 (a0 : Value) (a1 : Value) (a2 : Value) (K : Value → World → Prop) (w : World) : Prop :=
 oM Tryz.prog (.box 111 (.tmp 0)) 0 [a0] (fun v3_1 w =>
 oM Tryz.prog (.box 3 (.tmp 0)) 0 [a1] (fun v4_2 w =>
 oM Tryz.prog (.makeFunc (Go.Fn.func 140) #[] #[(.tmp 0), (.tmp 1)]) 122 [v4_2, v3_1] (fun v8_3 w =>
 callM Tryz.prog 113 #[a2, v8_3] (fun v9_4 w =>
 oM Tryz.prog (.unOp .not 4 (.tmp 0)) 4 [v9_4] (fun v10_5 w =>
 K v10_5 w) w) w) w) w) w
theorem sh_72_eq (a0 : Value) (a1 : Value) (a2 : Value) (K : Value → World → Prop) (w : World) : sh_72 a0 a1 a2 K w = code Tryz.prog (fun _ => 0) 11 (Tryz.f72.body.getD .skip) (slotsAt [a0, a1, a2]) (retK Tryz.prog [.tmp 6] K) w := by kernel_rfl
theorem sh_72_ok {a0 a1 a2 : Value} {K : Value → World → Prop} {w : World} (h : sh_72 a0 a1 a2 K w) : callM Tryz.prog 72 #[a0, a1, a2] K w :=
  calls_of_code (fun _ => 0) (fn := Tryz.f72) (rs := [.tmp 6]) Tryz.func72 rfl rfl (by kernel_rfl) (Nat.le_of_ble_eq_true rfl) ((sh_72_eq a0 a1 a2 K w).mp h)
def sh_73 (a0 : Value) (K : Value → World → Prop) (w : World) : Prop :=
 callM Tryz.prog 142 #[a0] (fun v4_1 w =>
 oM Tryz.prog (.buildSlice 22 1 #[(0, (.tmp 0))]) 22 [(.int .i64 1)] (fun v5_2 w =>
 callM Tryz.prog 141 #[v4_1, (.int .i64 0), v5_2] (fun v6_3 w =>
 K v6_3 w) w) w) w
theorem sh_73_eq (a0 : Value) (K : Value → World → Prop) (w : World) : sh_73 a0 K w = code Tryz.prog (fun _ => 2) 7 (Tryz.f73.body.getD .skip) (slotsAt [a0]) (retK Tryz.prog [.tmp 2] K) w := by kernel_rfl
theorem sh_73_ok {a0 : Value} {K : Value → World → Prop} {w : World} (h : sh_73 a0 K w) : callM Tryz.prog 73 #[a0] K w :=
  calls_of_code (fun _ => 2) (fn := Tryz.f73) (rs := [.tmp 2]) Tryz.func73 rfl rfl (by kernel_rfl) (Nat.le_of_ble_eq_true rfl) ((sh_73_eq a0 K w).mp h)
def sh_74 (a0 : Value) (a1 : Value) (a2 : Value) (K : Value → World → Prop) (w : World) : Prop :=
 oM Tryz.prog (.box 111 (.tmp 0)) 0 [a0] (fun v3_1 w =>
 oM Tryz.prog (.fieldAddr 111 (.tmp 0) 0) 0 [v3_1] (fun v7_2 w =>
 oM Tryz.prog (.fieldAddr 35 (.tmp 0) 0) 0 [v7_2] (fun v8_3 w =>
 oM Tryz.prog (.fieldAddr 33 (.tmp 0) 1) 0 [v8_3] (fun v9_4 w =>
 oM Tryz.prog (.load 3 (.tmp 0)) 3 [v9_4] (fun v10_5 w =>
 callM Tryz.prog 143 #[v10_5, a1, a2] (fun v13_6 w =>
 K v13_6 w) w) w) w) w) w) w
theorem sh_74_eq (a0 : Value) (a1 : Value) (a2 : Value) (K : Value → World → Prop) (w : World) : sh_74 a0 a1 a2 K w = code Tryz.prog (fun _ => 2) 14 (Tryz.f74.body.getD .skip) (slotsAt [a0, a1, a2]) (retK Tryz.prog [.tmp 6] K) w := by kernel_rfl
theorem sh_74_ok {a0 a1 a2 : Value} {K : Value → World → Prop} {w : World} (h : sh_74 a0 a1 a2 K w) : callM Tryz.prog 74 #[a0, a1, a2] K w :=
  calls_of_code (fun _ => 2) (fn := Tryz.f74) (rs := [.tmp 6]) Tryz.func74 rfl rfl (by kernel_rfl) (Nat.le_of_ble_eq_true rfl) ((sh_74_eq a0 a1 a2 K w).mp h)
def sh_75 (a0 : Value) (a1 : Value) (a2 : Value) (K : Value → World → Prop) (w : World) : Prop :=
 oM Tryz.prog (.box 111 (.tmp 0)) 0 [a0] (fun v3_1 w =>
 oM Tryz.prog (.call (Go.Call.mk (.builtin .len) #[(.tmp 0)] #[22])) 3 [a2] (fun v10_2 w =>
 loopM [undef, a1, (.int .i64 0)] w (fun J_3 m_4 l_5 u_l_5 w0_l_5 => (fun w => (
 oM Tryz.prog (.binOp .lss 3 (.tmp 0) (.tmp 1) 3) 0 [(l_5.getD 2 undef), v10_2] (fun v12_6 w =>
 condM v12_6
 (oM Tryz.prog (.indexAddr 22 (.tmp 0) (.tmp 1)) 0 [a2, (l_5.getD 2 undef)] (fun v13_7 w =>
 oM Tryz.prog (.load 3 (.tmp 0)) 3 [v13_7] (fun v14_8 w =>
 oM Tryz.prog (.fieldAddr 111 (.tmp 0) 0) 0 [v3_1] (fun v15_9 w =>
 oM Tryz.prog (.fieldAddr 35 (.tmp 0) 0) 0 [v15_9] (fun v16_10 w =>
 oM Tryz.prog (.fieldAddr 33 (.tmp 0) 1) 0 [v16_10] (fun v17_11 w =>
 oM Tryz.prog (.load 3 (.tmp 0)) 3 [v17_11] (fun v18_12 w =>
 callM Tryz.prog 16 #[v18_12, (l_5.getD 1 undef), v14_8] (fun v21_13 w =>
 oM Tryz.prog (.binOp .add 3 (.tmp 0) (.tmp 1) 3) 3 [(l_5.getD 2 undef), (.int .i64 1)] (fun v22_14 w =>
 J_3 [v14_8, v21_13, v22_14] w ∧ m_4 [v14_8, v21_13, v22_14] w < m_4 l_5 w0_l_5) w) w) w) w) w) w) w) w)
 (K (l_5.getD 1 undef) w)) w)) w0_l_5)) w) w
theorem sh_75_eq (a0 : Value) (a1 : Value) (a2 : Value) (K : Value → World → Prop) (w : World) : sh_75 a0 a1 a2 K w = code Tryz.prog (fun _ => 2) 24 (Tryz.f75.body.getD .skip) (slotsAt [a0, a1, a2]) (retK Tryz.prog [.tmp 6] K) w := by kernel_rfl
theorem sh_75_ok {a0 a1 a2 : Value} {K : Value → World → Prop} {w : World} (h : sh_75 a0 a1 a2 K w) : callM Tryz.prog 75 #[a0, a1, a2] K w :=
  calls_of_code (fun _ => 2) (fn := Tryz.f75) (rs := [.tmp 6]) Tryz.func75 rfl rfl (by kernel_rfl) (Nat.le_of_ble_eq_true rfl) ((sh_75_eq a0 a1 a2 K w).mp h)
def sh_76 (a0 : Value) (a1 : Value) (a2 : Value) (K : Value → World → Prop) (w : World) : Prop :=
 oM Tryz.prog (.box 111 (.tmp 0)) 0 [a0] (fun v3_1 w =>
 oM Tryz.prog (.fieldAddr 111 (.tmp 0) 0) 0 [v3_1] (fun v7_2 w =>
 oM Tryz.prog (.fieldAddr 35 (.tmp 0) 0) 0 [v7_2] (fun v8_3 w =>
 oM Tryz.prog (.load 33 (.tmp 0)) 33 [v8_3] (fun v9_4 w =>
 callM Tryz.prog 37 #[v9_4, a1, a2] (fun v12_5 w =>
 K v12_5 w) w) w) w) w) w
theorem sh_76_eq (a0 : Value) (a1 : Value) (a2 : Value) (K : Value → World → Prop) (w : World) : sh_76 a0 a1 a2 K w = code Tryz.prog (fun _ => 2) 13 (Tryz.f76.body.getD .skip) (slotsAt [a0, a1, a2]) (retK Tryz.prog [.tmp 6] K) w := by kernel_rfl
theorem sh_76_ok {a0 a1 a2 : Value} {K : Value → World → Prop} {w : World} (h : sh_76 a0 a1 a2 K w) : callM Tryz.prog 76 #[a0, a1, a2] K w :=
  calls_of_code (fun _ => 2) (fn := Tryz.f76) (rs := [.tmp 6]) Tryz.func76 rfl rfl (by kernel_rfl) (Nat.le_of_ble_eq_true rfl) ((sh_76_eq a0 a1 a2 K w).mp h)
def sh_77 (a0 : Value) (a1 : Value) (K : Value → World → Prop) (w : World) : Prop :=
 oM Tryz.prog (.box 111 (.tmp 0)) 0 [a0] (fun v2_1 w =>
 oM Tryz.prog (.load 111 (.tmp 0)) 111 [v2_1] (fun v5_2 w =>
 oM Tryz.prog (.fieldAddr 111 (.tmp 0) 0) 0 [v2_1] (fun v6_3 w =>
 oM Tryz.prog (.fieldAddr 35 (.tmp 0) 0) 0 [v6_3] (fun v7_4 w =>
 oM Tryz.prog (.fieldAddr 33 (.tmp 0) 2) 0 [v7_4] (fun v8_5 w =>
 oM Tryz.prog (.load 3 (.tmp 0)) 3 [v8_5] (fun v9_6 w =>
 callM Tryz.prog 76 #[v5_2, v9_6, a1] (fun v11_7 w =>
 K v11_7 w) w) w) w) w) w) w) w
theorem sh_77_eq (a0 : Value) (a1 : Value) (K : Value → World → Prop) (w : World) : sh_77 a0 a1 K w = code Tryz.prog (fun _ => 2) 12 (Tryz.f77.body.getD .skip) (slotsAt [a0, a1]) (retK Tryz.prog [.tmp 4] K) w := by kernel_rfl
theorem sh_77_ok {a0 a1 : Value} {K : Value → World → Prop} {w : World} (h : sh_77 a0 a1 K w) : callM Tryz.prog 77 #[a0, a1] K w :=
  calls_of_code (fun _ => 2) (fn := Tryz.f77) (rs := [.tmp 4]) Tryz.func77 rfl rfl (by kernel_rfl) (Nat.le_of_ble_eq_true rfl) ((sh_77_eq a0 a1 K w).mp h)
def sh_78 (a0 : Value) (K : Value → World → Prop) (w : World) : Prop :=
 oM Tryz.prog (.box 35 (.tmp 0)) 0 [a0] (fun v1_1 w =>
 oM Tryz.prog (.alloc 111) 0 [] (fun v2_2 w =>
 heldM w (fun C_3 w => (oH Tryz.prog (.load 35 (.tmp 0)) 35 [v1_1] C_3 (fun v4_4 =>
 oH Tryz.prog (.load 35 (.tmp 0)) 35 [v1_1] C_3 (fun v6_5 =>
 (oM Tryz.prog (.build 111 #[(0, (.tmp 0))]) 111 [v4_4] (fun v5_6 w => C_3 w ∧ (
 callM Tryz.prog 135 #[v6_5] (fun v7_7 w => C_3 w ∧ (
 oM Tryz.prog (.store 111 (.tmp 0) (.tmp 1)) 0 [v2_2, v5_6] (fun _ w => C_3 w ∧ (
 C_3 w ∧ (∃ r_9, (do loadVar 111 (← asAddr v2_2) : Sem Value).run Tryz.prog w = .ok r_9 w ∧ K (.tuple #[r_9, v7_7]) w))) w)) w)) w) ∧
 (callM Tryz.prog 135 #[v6_5] (fun v7_10 w => C_3 w ∧ (
 oM Tryz.prog (.build 111 #[(0, (.tmp 0))]) 111 [v4_4] (fun v5_11 w => C_3 w ∧ (
 oM Tryz.prog (.store 111 (.tmp 0) (.tmp 1)) 0 [v2_2, v5_11] (fun _ w => C_3 w ∧ (
 C_3 w ∧ (∃ r_13, (do loadVar 111 (← asAddr v2_2) : Sem Value).run Tryz.prog w = .ok r_13 w ∧ K (.tuple #[r_13, v7_10]) w))) w)) w)) w)))))) w) w
theorem sh_78_eq (a0 : Value) (K : Value → World → Prop) (w : World) : sh_78 a0 K w = code Tryz.prog (fun _ => .tree (.look 0 (.look 2 (.alt 1 (.only 3 (.only 4 (.only 5 (.done)))) (.only 3 (.only 1 (.only 4 (.only 5 (.done))))))))) 8 (Tryz.f78.body.getD .skip) (slotsAt [a0]) (retK Tryz.prog [.cell 2 111, .tmp 3] K) w := by kernel_rfl
theorem sh_78_ok {a0 : Value} {K : Value → World → Prop} {w : World} (h : sh_78 a0 K w) : callM Tryz.prog 78 #[a0] K w :=
  calls_of_code (fun _ => .tree (.look 0 (.look 2 (.alt 1 (.only 3 (.only 4 (.only 5 (.done)))) (.only 3 (.only 1 (.only 4 (.only 5 (.done))))))))) (fn := Tryz.f78) (rs := [.cell 2 111, .tmp 3]) Tryz.func78 rfl rfl (by kernel_rfl) (Nat.le_of_ble_eq_true rfl) ((sh_78_eq a0 K w).mp h)
def sh_95 (a0 : Value) (a1 : Value) (K : Value → World → Prop) (w : World) : Prop :=
 oM Tryz.prog (.box 35 (.tmp 0)) 0 [a0] (fun v2_1 w =>
 oM Tryz.prog (.alloc 111) 0 [] (fun v4_2 w =>
 oM Tryz.prog (.load 35 (.tmp 0)) 35 [v2_1] (fun v10_3 w =>
 callM Tryz.prog 78 #[v10_3] (fun v11_4 w =>
 oM Tryz.prog (.extract (.tmp 0) 0) 111 [v11_4] (fun v12_5 w =>
 oM Tryz.prog (.extract (.tmp 0) 1) 4 [v11_4] (fun v13_6 w =>
 oM Tryz.prog (.alloc 111) 0 [] (fun v7_7 w =>
 oM Tryz.prog (.store 111 (.tmp 0) (.tmp 1)) 0 [v7_7, v12_5] (fun _ w =>
 oM Tryz.prog (.unOp .not 4 (.tmp 0)) 4 [v13_6] (fun v15_8 w =>
 gdM (gd v15_8 false) (pureM a1) (fun v17_9 w =>
 gdM (gd v15_8 false) (oM Tryz.prog (.call (Go.Call.mk (.builtin .len) #[(.tmp 0)] #[22])) 3 [v17_9]) (fun v18_10 w =>
 gdM (gd v15_8 false) (oM Tryz.prog (.fieldAddr 35 (.tmp 0) 1) 0 [v2_1]) (fun v19_11 w =>
 gdM (gd v15_8 false) (oM Tryz.prog (.load 22 (.tmp 0)) 22 [v19_11]) (fun v20_12 w =>
 gdM (gd v15_8 false) (oM Tryz.prog (.call (Go.Call.mk (.builtin .len) #[(.tmp 0)] #[22])) 3 [v20_12]) (fun v21_13 w =>
 gdM (gd v15_8 false) (oM Tryz.prog (.binOp .sub 3 (.tmp 0) (.tmp 1) 3) 3 [v21_13, (.int .i64 1)]) (fun v22_14 w =>
 gdM (gd v15_8 false) (oM Tryz.prog (.binOp .neq 3 (.tmp 0) (.tmp 1) 3) 4 [v18_10, v22_14]) (fun v23_15 w =>
 oM Tryz.prog (.pick (.tmp 0) (.tmp 1) (.tmp 2)) 4 [v15_8, (.bool true), v23_15] (fun v24_16 w =>
 gdM (gd v24_16 false) (oM Tryz.prog (.load 111 (.tmp 0)) 111 [v7_7]) (fun v26_17 w =>
 gdM (gd v24_16 false) (pureM a1) (fun v27_18 w =>
 gdM (gd v24_16 false) (callM Tryz.prog 72 #[v26_17, (.int .i64 0), v27_18]) (fun v28_19 w =>
 gdM (gd v24_16 false) (oM Tryz.prog (.unOp .not 4 (.tmp 0)) 4 [v28_19]) (fun v29_20 w =>
 oM Tryz.prog (.pick (.tmp 0) (.tmp 1) (.tmp 2)) 4 [v24_16, (.bool true), v29_20] (fun v30_21 w =>
 gdM (gd v30_21 false) (pureM a1) (fun v32_22 w =>
 gdM (gd v30_21 false) (oM Tryz.prog (.indexAddr 22 (.tmp 0) (.tmp 1)) 0 [v32_22, (.int .i64 0)]) (fun v33_23 w =>
 gdM (gd v30_21 false) (oM Tryz.prog (.load 3 (.tmp 0)) 3 [v33_23]) (fun v34_24 w =>
 gdM (gd v30_21 false) (oM Tryz.prog (.binOp .eql 3 (.tmp 0) (.const (.int .i64 0)) 3) 4 [v34_24]) (fun v35_25 w =>
 oM Tryz.prog (.pick (.tmp 0) (.tmp 1) (.tmp 2)) 4 [v30_21, (.bool true), v35_25] (fun v36_26 w =>
 condM v36_26
 (oM Tryz.prog (.load 111 (.tmp 0)) 111 [v7_7] (fun v37_27 w =>
 oM Tryz.prog (.store 111 (.tmp 0) (.tmp 1)) 0 [v4_2, v37_27] (fun _ w =>
 ∃ r_28, (do loadVar 111 (← asAddr v4_2) : Sem Value).run Tryz.prog w = .ok r_28 w ∧ K (.tuple #[r_28, (.int .i64 0), (.bool false)]) w) w) w)
 (heldM w (fun C_29 w => (oH Tryz.prog (.load 111 (.tmp 0)) 111 [v7_7] C_29 (fun v38_30 =>
 oH Tryz.prog (.load 111 (.tmp 0)) 111 [v7_7] C_29 (fun v39_31 =>
 pureH a1 C_29 (fun v40_32 =>
 callM Tryz.prog 73 #[v40_32] (fun v41_33 w => C_29 w ∧ (
 callM Tryz.prog 126 #[v39_31, v41_33] (fun v42_34 w => C_29 w ∧ (
 oM Tryz.prog (.store 111 (.tmp 0) (.tmp 1)) 0 [v4_2, v38_30] (fun _ w => C_29 w ∧ (
 C_29 w ∧ (C_29 w ∧ (∃ r_37, (do loadVar 111 (← asAddr v4_2) : Sem Value).run Tryz.prog w = .ok r_37 w ∧ K (.tuple #[r_37, v42_34, (.bool true)]) w)))) w)) w)) w))))))) w) w) w) w) w) w) w) w) w) w) w) w) w) w) w) w) w) w) w) w) w) w) w) w) w) w) w
theorem sh_95_eq (a0 : Value) (a1 : Value) (K : Value → World → Prop) (w : World) : sh_95 a0 a1 K w = code Tryz.prog (fun _ => 2) 43 (Tryz.f95.body.getD .skip) (slotsAt [a0, a1]) (retK Tryz.prog [.cell 4 111, .tmp 5, .tmp 6] K) w := by kernel_rfl
theorem sh_95_ok {a0 a1 : Value} {K : Value → World → Prop} {w : World} (h : sh_95 a0 a1 K w) : callM Tryz.prog 95 #[a0, a1] K w :=
  calls_of_code (fun _ => 2) (fn := Tryz.f95) (rs := [.cell 4 111, .tmp 5, .tmp 6]) Tryz.func95 rfl rfl (by kernel_rfl) (Nat.le_of_ble_eq_true rfl) ((sh_95_eq a0 a1 K w).mp h)
def sh_105 (a0 : Value) (a1 : Value) (a2 : Value) (K : Value → World → Prop) (w : World) : Prop :=
 oM Tryz.prog (.box 111 (.tmp 0)) 0 [a0] (fun v3_1 w =>
 heldM w (fun C_2 w => (oH Tryz.prog (.load 111 (.tmp 0)) 111 [v3_1] C_2 (fun v7_3 =>
 pureH a1 C_2 (fun v8_4 =>
 oH Tryz.prog (.fieldAddr 111 (.tmp 0) 0) 0 [v3_1] C_2 (fun v9_5 =>
 oH Tryz.prog (.fieldAddr 35 (.tmp 0) 0) 0 [v9_5] C_2 (fun v10_6 =>
 oH Tryz.prog (.fieldAddr 33 (.tmp 0) 1) 0 [v10_6] C_2 (fun v11_7 =>
 oH Tryz.prog (.load 3 (.tmp 0)) 3 [v11_7] C_2 (fun v12_8 =>
 pureH a2 C_2 (fun v13_9 =>
 callM Tryz.prog 134 #[v12_8, v13_9, (.int .i64 (-1))] (fun v14_10 w => C_2 w ∧ (
 oM Tryz.prog (.buildSlice 22 1 #[(0, (.tmp 0))]) 22 [v14_10] (fun v15_11 w => C_2 w ∧ (
 callM Tryz.prog 75 #[v7_3, v8_4, v15_11] (fun v16_12 w => C_2 w ∧ (
 C_2 w ∧ (K v16_12 w))) w)) w)) w)))))))))) w
theorem sh_105_eq (a0 : Value) (a1 : Value) (a2 : Value) (K : Value → World → Prop) (w : World) : sh_105 a0 a1 a2 K w = code Tryz.prog (fun _ => 2) 17 (Tryz.f105.body.getD .skip) (slotsAt [a0, a1, a2]) (retK Tryz.prog [.tmp 6] K) w := by kernel_rfl
theorem sh_105_ok {a0 a1 a2 : Value} {K : Value → World → Prop} {w : World} (h : sh_105 a0 a1 a2 K w) : callM Tryz.prog 105 #[a0, a1, a2] K w :=
  calls_of_code (fun _ => 2) (fn := Tryz.f105) (rs := [.tmp 6]) Tryz.func105 rfl rfl (by kernel_rfl) (Nat.le_of_ble_eq_true rfl) ((sh_105_eq a0 a1 a2 K w).mp h)
def sh_108 (a0 : Value) (a1 : Value) (a2 : Value) (K : Value → World → Prop) (w : World) : Prop :=
 oM Tryz.prog (.box 111 (.tmp 0)) 0 [a0] (fun v3_1 w =>
 oM Tryz.prog (.fieldAddr 111 (.tmp 0) 0) 0 [v3_1] (fun v7_2 w =>
 oM Tryz.prog (.fieldAddr 35 (.tmp 0) 0) 0 [v7_2] (fun v8_3 w =>
 oM Tryz.prog (.fieldAddr 33 (.tmp 0) 1) 0 [v8_3] (fun v9_4 w =>
 oM Tryz.prog (.load 3 (.tmp 0)) 3 [v9_4] (fun v10_5 w =>
 callM Tryz.prog 17 #[v10_5, a1, a2] (fun v13_6 w =>
 K v13_6 w) w) w) w) w) w) w
theorem sh_108_eq (a0 : Value) (a1 : Value) (a2 : Value) (K : Value → World → Prop) (w : World) : sh_108 a0 a1 a2 K w = code Tryz.prog (fun _ => 2) 14 (Tryz.f108.body.getD .skip) (slotsAt [a0, a1, a2]) (retK Tryz.prog [.tmp 6] K) w := by kernel_rfl
theorem sh_108_ok {a0 a1 a2 : Value} {K : Value → World → Prop} {w : World} (h : sh_108 a0 a1 a2 K w) : callM Tryz.prog 108 #[a0, a1, a2] K w :=
  calls_of_code (fun _ => 2) (fn := Tryz.f108) (rs := [.tmp 6]) Tryz.func108 rfl rfl (by kernel_rfl) (Nat.le_of_ble_eq_true rfl) ((sh_108_eq a0 a1 a2 K w).mp h)
def sh_113 (a0 : Value) (a1 : Value) (K : Value → World → Prop) (w : World) : Prop :=
 callM Tryz.prog 160 #[a0, a1] (fun v7_1 w =>
 oM Tryz.prog (.binOp .geq 3 (.tmp 0) (.tmp 1) 3) 4 [v7_1, (.int .i64 0)] (fun v8_2 w =>
 K v8_2 w) w) w
theorem sh_113_eq (a0 : Value) (a1 : Value) (K : Value → World → Prop) (w : World) : sh_113 a0 a1 K w = code Tryz.prog (fun _ => 0) 9 (Tryz.f113.body.getD .skip) (slotsAt [a0, a1]) (retK Tryz.prog [.tmp 4] K) w := by kernel_rfl
theorem sh_113_ok {a0 a1 : Value} {K : Value → World → Prop} {w : World} (h : sh_113 a0 a1 K w) : callM Tryz.prog 113 #[a0, a1] K w :=
  calls_of_code (fun _ => 0) (fn := Tryz.f113) (rs := [.tmp 4]) Tryz.func113 rfl rfl (by kernel_rfl) (Nat.le_of_ble_eq_true rfl) ((sh_113_eq a0 a1 K w).mp h)
def sh_120 (a0 : Value) (a1 : Value) (a2 : Value) (a3 : Value) (K : Value → World → Prop) (w : World) : Prop :=
 oM Tryz.prog (.box 35 (.tmp 0)) 0 [a0] (fun v4_1 w =>
 oM Tryz.prog (.box 43 (.tmp 0)) 0 [a1] (fun v5_2 w =>
 oM Tryz.prog (.box 47 (.tmp 0)) 0 [a2] (fun v6_3 w =>
 oM Tryz.prog (.box 47 (.tmp 0)) 0 [a3] (fun v7_4 w =>
 oM Tryz.prog (.alloc 111) 0 [] (fun v8_5 w =>
 oM Tryz.prog (.fieldAddr 47 (.tmp 0) 0) 0 [v6_3] (fun v15_6 w =>
 oM Tryz.prog (.load 3 (.tmp 0)) 3 [v15_6] (fun v16_7 w =>
 oM Tryz.prog (.fieldAddr 47 (.tmp 0) 0) 0 [v7_4] (fun v17_8 w =>
 oM Tryz.prog (.load 3 (.tmp 0)) 3 [v17_8] (fun v18_9 w =>
 oM Tryz.prog (.binOp .eql 3 (.tmp 0) (.tmp 1) 3) 4 [v16_7, v18_9] (fun v19_10 w =>
 gdM (gd v19_10 false) (oM Tryz.prog (.load 35 (.tmp 0)) 35 [v4_1]) (fun v21_11 w =>
 gdM (gd v19_10 false) (oM Tryz.prog (.load 43 (.tmp 0)) 43 [v5_2]) (fun v22_12 w =>
 gdM (gd v19_10 false) (oM Tryz.prog (.load 47 (.tmp 0)) 47 [v6_3]) (fun v23_13 w =>
 gdM (gd v19_10 false) (callM Tryz.prog 57 #[v21_11, v22_12, v23_13]) (fun v24_14 w =>
 gdM (gd v19_10 false) (oM Tryz.prog (.unOp .not 4 (.tmp 0)) 4 [v24_14]) (fun v25_15 w =>
 oM Tryz.prog (.pick (.tmp 0) (.tmp 1) (.tmp 2)) 4 [v19_10, (.bool true), v25_15] (fun v26_16 w =>
 gdM (gd v26_16 false) (oM Tryz.prog (.load 35 (.tmp 0)) 35 [v4_1]) (fun v28_17 w =>
 gdM (gd v26_16 false) (oM Tryz.prog (.load 43 (.tmp 0)) 43 [v5_2]) (fun v29_18 w =>
 gdM (gd v26_16 false) (oM Tryz.prog (.load 47 (.tmp 0)) 47 [v7_4]) (fun v30_19 w =>
 gdM (gd v26_16 false) (callM Tryz.prog 57 #[v28_17, v29_18, v30_19]) (fun v31_20 w =>
 gdM (gd v26_16 false) (oM Tryz.prog (.unOp .not 4 (.tmp 0)) 4 [v31_20]) (fun v32_21 w =>
 oM Tryz.prog (.pick (.tmp 0) (.tmp 1) (.tmp 2)) 4 [v26_16, (.bool true), v32_21] (fun v33_22 w =>
 condM v33_22
 (oM Tryz.prog (.build 111 #[]) 111 [] (fun v34_23 w =>
 oM Tryz.prog (.store 111 (.tmp 0) (.tmp 1)) 0 [v8_5, v34_23] (fun _ w =>
 ∃ r_24, (do loadVar 111 (← asAddr v8_5) : Sem Value).run Tryz.prog w = .ok r_24 w ∧ K (.tuple #[r_24, (.slice none 0 0), (.bool false)]) w) w) w)
 (oM Tryz.prog (.load 35 (.tmp 0)) 35 [v4_1] (fun v35_25 w =>
 oM Tryz.prog (.build 111 #[(0, (.tmp 0))]) 111 [v35_25] (fun v36_26 w =>
 oM Tryz.prog (.alloc 111) 0 [] (fun v11_27 w =>
 oM Tryz.prog (.store 111 (.tmp 0) (.tmp 1)) 0 [v11_27, v36_26] (fun _ w =>
 oM Tryz.prog (.fieldAddr 47 (.tmp 0) 1) 0 [v6_3] (fun v37_28 w =>
 oM Tryz.prog (.load 22 (.tmp 0)) 22 [v37_28] (fun v38_29 w =>
 oM Tryz.prog (.call (Go.Call.mk (.builtin .len) #[(.tmp 0)] #[22])) 3 [v38_29] (fun v39_30 w =>
 loopM [undef, undef, (.slice none 0 0), (.int .i64 0)] w (fun J_31 m_32 l_33 u_l_33 w0_l_33 => (fun w => (
 oM Tryz.prog (.binOp .lss 3 (.tmp 0) (.tmp 1) 3) 0 [(l_33.getD 3 undef), v39_30] (fun v41_34 w =>
 condM v41_34
 (oM Tryz.prog (.indexAddr 22 (.tmp 0) (.tmp 1)) 0 [v38_29, (l_33.getD 3 undef)] (fun v43_35 w =>
 oM Tryz.prog (.load 3 (.tmp 0)) 3 [v43_35] (fun v44_36 w =>
 heldM w (fun C_37 w => (pureH (l_33.getD 2 undef) C_37 (fun v45_38 =>
 oH Tryz.prog (.load 111 (.tmp 0)) 111 [v11_27] C_37 (fun v46_39 =>
 pureH v44_36 C_37 (fun v47_40 =>
 oH Tryz.prog (.fieldAddr 47 (.tmp 0) 1) 0 [v7_4] C_37 (fun v48_41 =>
 oH Tryz.prog (.load 22 (.tmp 0)) 22 [v48_41] C_37 (fun v49_42 =>
 pureH (l_33.getD 3 undef) C_37 (fun v50_43 =>
 oH Tryz.prog (.indexAddr 22 (.tmp 0) (.tmp 1)) 0 [v49_42, v50_43] C_37 (fun v51_44 =>
 oH Tryz.prog (.load 3 (.tmp 0)) 3 [v51_44] C_37 (fun v52_45 =>
 callM Tryz.prog 108 #[v46_39, v47_40, v52_45] (fun v53_46 w => C_37 w ∧ (
 oM Tryz.prog (.buildSlice 22 1 #[(0, (.tmp 0))]) 22 [v53_46] (fun v54_47 w => C_37 w ∧ (
 oM Tryz.prog (.call (Go.Call.mk (.builtin .append) #[(.tmp 0), (.tmp 1)] #[22, 22])) 22 [v45_38, v54_47] (fun v55_48 w => C_37 w ∧ (
 C_37 w ∧ (oM Tryz.prog (.binOp .add 3 (.tmp 0) (.tmp 1) 3) 3 [(l_33.getD 3 undef), (.int .i64 1)] (fun v56_50 w =>
 J_31 [(l_33.getD 3 undef), v44_36, v55_48, v56_50] w ∧ m_32 [(l_33.getD 3 undef), v44_36, v55_48, v56_50] w < m_32 l_33 w0_l_33) w))) w)) w)) w))))))))))) w) w)
 (heldM w (fun C_51 w => (oH Tryz.prog (.load 111 (.tmp 0)) 111 [v11_27] C_51 (fun v57_52 =>
 pureH (l_33.getD 2 undef) C_51 (fun v58_53 =>
 pureH (l_33.getD 2 undef) C_51 (fun v59_54 =>
 oH Tryz.prog (.indexAddr 22 (.tmp 0) (.tmp 1)) 0 [v59_54, (.int .i64 0)] C_51 (fun v60_55 =>
 oH Tryz.prog (.load 3 (.tmp 0)) 3 [v60_55] C_51 (fun v61_56 =>
 oH Tryz.prog (.binOp .neq 3 (.tmp 0) (.const (.int .i64 0)) 3) 4 [v61_56] C_51 (fun v62_57 =>
 oM Tryz.prog (.store 111 (.tmp 0) (.tmp 1)) 0 [v8_5, v57_52] (fun _ w => C_51 w ∧ (
 C_51 w ∧ (C_51 w ∧ (∃ r_60, (do loadVar 111 (← asAddr v8_5) : Sem Value).run Tryz.prog w = .ok r_60 w ∧ K (.tuple #[r_60, v58_53, v62_57]) w)))) w)))))))))) w)) w0_l_33)) w) w) w) w) w) w) w)) w) w) w) w) w) w) w) w) w) w) w) w) w) w) w) w) w) w) w) w) w) w
theorem sh_120_eq (a0 : Value) (a1 : Value) (a2 : Value) (a3 : Value) (K : Value → World → Prop) (w : World) : sh_120 a0 a1 a2 a3 K w = code Tryz.prog (fun _ => 2) 63 (Tryz.f120.body.getD .skip) (slotsAt [a0, a1, a2, a3]) (retK Tryz.prog [.cell 8 111, .tmp 9, .tmp 10] K) w := by kernel_rfl
theorem sh_120_ok {a0 a1 a2 a3 : Value} {K : Value → World → Prop} {w : World} (h : sh_120 a0 a1 a2 a3 K w) : callM Tryz.prog 120 #[a0, a1, a2, a3] K w :=
  calls_of_code (fun _ => 2) (fn := Tryz.f120) (rs := [.cell 8 111, .tmp 9, .tmp 10]) Tryz.func120 rfl rfl (by kernel_rfl) (Nat.le_of_ble_eq_true rfl) ((sh_120_eq a0 a1 a2 a3 K w).mp h)
def sh_124 (a0 : Value) (a1 : Value) (K : Value → World → Prop) (w : World) : Prop :=
 oM Tryz.prog (.box 35 (.tmp 0)) 0 [a0] (fun v2_1 w =>
 oM Tryz.prog (.box 43 (.tmp 0)) 0 [a1] (fun v3_2 w =>
 oM Tryz.prog (.alloc 111) 0 [] (fun v4_3 w =>
 oM Tryz.prog (.load 35 (.tmp 0)) 35 [v2_1] (fun v9_4 w =>
 callM Tryz.prog 78 #[v9_4] (fun v10_5 w =>
 oM Tryz.prog (.extract (.tmp 0) 0) 111 [v10_5] (fun v11_6 w =>
 oM Tryz.prog (.extract (.tmp 0) 1) 4 [v10_5] (fun v12_7 w =>
 oM Tryz.prog (.alloc 111) 0 [] (fun v6_8 w =>
 oM Tryz.prog (.store 111 (.tmp 0) (.tmp 1)) 0 [v6_8, v11_6] (fun _ w =>
 heldM w (fun C_9 w => (oH Tryz.prog (.load 111 (.tmp 0)) 111 [v6_8] C_9 (fun v13_10 =>
 pureH v12_7 C_9 (fun v14_11 =>
 pureH v14_11 C_9 (fun v15_12 =>
 gdH (gd v15_12 true) (oH Tryz.prog (.fieldAddr 43 (.tmp 0) 0) 0 [v3_2]) C_9 (fun v16_13 =>
 gdH (gd v15_12 true) (oH Tryz.prog (.load 3 (.tmp 0)) 3 [v16_13]) C_9 (fun v17_14 =>
 gdH (gd v15_12 true) (oH Tryz.prog (.binOp .neq 3 (.tmp 0) (.const (.int .i64 1)) 3) 4 [v17_14]) C_9 (fun v18_15 =>
 oH Tryz.prog (.pick (.tmp 0) (.tmp 1) (.tmp 2)) 4 [v15_12, v18_15, (.bool false)] C_9 (fun v19_16 =>
 pureH v19_16 C_9 (fun v20_17 =>
 gdH (gd v20_17 true) (oH Tryz.prog (.load 111 (.tmp 0)) 111 [v6_8]) C_9 (fun v21_18 =>
 gdH (gd v20_17 true) (oH Tryz.prog (.fieldAddr 43 (.tmp 0) 0) 0 [v3_2]) C_9 (fun v22_19 =>
 gdH (gd v20_17 true) (oH Tryz.prog (.load 3 (.tmp 0)) 3 [v22_19]) C_9 (fun v23_20 =>
 gdH (gd v20_17 true) (oH Tryz.prog (.fieldAddr 43 (.tmp 0) 1) 0 [v3_2]) C_9 (fun v24_21 =>
 gdH (gd v20_17 true) (oH Tryz.prog (.load 3 (.tmp 0)) 3 [v24_21]) C_9 (fun v25_22 =>
 gdH (gd v20_17 true) (oH Tryz.prog (.fieldAddr 43 (.tmp 0) 2) 0 [v3_2]) C_9 (fun v26_23 =>
 gdH (gd v20_17 true) (oH Tryz.prog (.load 3 (.tmp 0)) 3 [v26_23]) C_9 (fun v27_24 =>
 gdH (gd v20_17 true) (oH Tryz.prog (.fieldAddr 43 (.tmp 0) 3) 0 [v3_2]) C_9 (fun v28_25 =>
 gdH (gd v20_17 true) (oH Tryz.prog (.load 3 (.tmp 0)) 3 [v28_25]) C_9 (fun v29_26 =>
 gdH (gd v20_17 true) (oH Tryz.prog (.fieldAddr 43 (.tmp 0) 4) 0 [v3_2]) C_9 (fun v30_27 =>
 gdH (gd v20_17 true) (oH Tryz.prog (.load 3 (.tmp 0)) 3 [v30_27]) C_9 (fun v31_28 =>
 gdM (gd v20_17 true) (oM Tryz.prog (.buildSlice 22 5 #[(0, (.tmp 0)), (1, (.tmp 1)), (2, (.tmp 2)), (3, (.tmp 3)), (4, (.tmp 4))]) 22 [v23_20, v25_22, v27_24, v29_26, v31_28]) (fun v32_29 w => C_9 w ∧ (
 gdM (gd v20_17 true) (callM Tryz.prog 146 #[v21_18, v32_29]) (fun v33_30 w => C_9 w ∧ (
 oH Tryz.prog (.pick (.tmp 0) (.tmp 1) (.tmp 2)) 4 [v20_17, v33_30, (.bool false)] C_9 (fun v34_31 =>
 pureH v34_31 C_9 (fun v35_32 =>
 gdH (gd v35_32 true) (oH Tryz.prog (.load 111 (.tmp 0)) 111 [v6_8]) C_9 (fun v36_33 =>
 gdH (gd v35_32 true) (oH Tryz.prog (.fieldAddr 43 (.tmp 0) 5) 0 [v3_2]) C_9 (fun v37_34 =>
 gdH (gd v35_32 true) (oH Tryz.prog (.load 3 (.tmp 0)) 3 [v37_34]) C_9 (fun v38_35 =>
 gdM (gd v35_32 true) (oM Tryz.prog (.buildSlice 22 1 #[(0, (.tmp 0))]) 22 [v38_35]) (fun v39_36 w => C_9 w ∧ (
 gdM (gd v35_32 true) (callM Tryz.prog 72 #[v36_33, (.int .i64 0), v39_36]) (fun v40_37 w => C_9 w ∧ (
 oH Tryz.prog (.pick (.tmp 0) (.tmp 1) (.tmp 2)) 4 [v35_32, v40_37, (.bool false)] C_9 (fun v41_38 =>
 oM Tryz.prog (.store 111 (.tmp 0) (.tmp 1)) 0 [v4_3, v13_10] (fun _ w => C_9 w ∧ (
 C_9 w ∧ (∃ r_40, (do loadVar 111 (← asAddr v4_3) : Sem Value).run Tryz.prog w = .ok r_40 w ∧ K (.tuple #[r_40, v41_38]) w))) w))) w)) w))))))) w)) w)))))))))))))))))))))) w) w) w) w) w) w) w) w) w
theorem sh_124_eq (a0 : Value) (a1 : Value) (K : Value → World → Prop) (w : World) : sh_124 a0 a1 K w = code Tryz.prog (fun _ => .tree (.look 0 (.look 1 (.look 2 (.look 3 (.look 4 (.look 5 (.look 6 (.look 7 (.look 8 (.look 9 (.look 10 (.look 11 (.look 12 (.look 13 (.look 14 (.look 15 (.look 16 (.look 17 (.look 18 (.only 19 (.only 20 (.look 21 (.look 22 (.look 23 (.look 24 (.look 25 (.only 26 (.only 27 (.look 28 (.only 29 (.only 30 (.done))))))))))))))))))))))))))))))))) 42 (Tryz.f124.body.getD .skip) (slotsAt [a0, a1]) (retK Tryz.prog [.cell 4 111, .tmp 5] K) w := by kernel_rfl
theorem sh_124_ok {a0 a1 : Value} {K : Value → World → Prop} {w : World} (h : sh_124 a0 a1 K w) : callM Tryz.prog 124 #[a0, a1] K w :=
  calls_of_code (fun _ => .tree (.look 0 (.look 1 (.look 2 (.look 3 (.look 4 (.look 5 (.look 6 (.look 7 (.look 8 (.look 9 (.look 10 (.look 11 (.look 12 (.look 13 (.look 14 (.look 15 (.look 16 (.look 17 (.look 18 (.only 19 (.only 20 (.look 21 (.look 22 (.look 23 (.look 24 (.look 25 (.only 26 (.only 27 (.look 28 (.only 29 (.only 30 (.done))))))))))))))))))))))))))))))))) (fn := Tryz.f124) (rs := [.cell 4 111, .tmp 5]) Tryz.func124 rfl rfl (by kernel_rfl) (Nat.le_of_ble_eq_true rfl) ((sh_124_eq a0 a1 K w).mp h)
def sh_125 (a0 : Value) (a1 : Value) (K : Value → World → Prop) (w : World) : Prop :=
 oM Tryz.prog (.box 111 (.tmp 0)) 0 [a0] (fun v2_1 w =>
 oM Tryz.prog (.binOp .neq 3 (.tmp 0) (.const (.int .i64 1)) 3) 4 [a1] (fun v6_2 w =>
 gdM (gd v6_2 true) (oM Tryz.prog (.load 111 (.tmp 0)) 111 [v2_1]) (fun v8_3 w =>
 gdM (gd v6_2 true) (pureM a1) (fun v9_4 w =>
 gdM (gd v6_2 true) (oM Tryz.prog (.buildSlice 22 1 #[(0, (.tmp 0))]) 22 [v9_4]) (fun v10_5 w =>
 gdM (gd v6_2 true) (callM Tryz.prog 146 #[v8_3, v10_5]) (fun v11_6 w =>
 oM Tryz.prog (.pick (.tmp 0) (.tmp 1) (.tmp 2)) 4 [v6_2, v11_6, (.bool false)] (fun v12_7 w =>
 K v12_7 w) w) w) w) w) w) w) w
theorem sh_125_eq (a0 : Value) (a1 : Value) (K : Value → World → Prop) (w : World) : sh_125 a0 a1 K w = code Tryz.prog (fun _ => 2) 13 (Tryz.f125.body.getD .skip) (slotsAt [a0, a1]) (retK Tryz.prog [.tmp 4] K) w := by kernel_rfl
theorem sh_125_ok {a0 a1 : Value} {K : Value → World → Prop} {w : World} (h : sh_125 a0 a1 K w) : callM Tryz.prog 125 #[a0, a1] K w :=
  calls_of_code (fun _ => 2) (fn := Tryz.f125) (rs := [.tmp 4]) Tryz.func125 rfl rfl (by kernel_rfl) (Nat.le_of_ble_eq_true rfl) ((sh_125_eq a0 a1 K w).mp h)
def sh_126 (a0 : Value) (a1 : Value) (K : Value → World → Prop) (w : World) : Prop :=
 oM Tryz.prog (.box 111 (.tmp 0)) 0 [a0] (fun v2_1 w =>
 oM Tryz.prog (.fieldAddr 111 (.tmp 0) 0) 0 [v2_1] (fun v8_2 w =>
 oM Tryz.prog (.fieldAddr 35 (.tmp 0) 0) 0 [v8_2] (fun v9_3 w =>
 oM Tryz.prog (.load 33 (.tmp 0)) 33 [v9_3] (fun v10_4 w =>
 oM Tryz.prog (.fieldAddr 111 (.tmp 0) 0) 0 [v2_1] (fun v11_5 w =>
 oM Tryz.prog (.fieldAddr 35 (.tmp 0) 1) 0 [v11_5] (fun v12_6 w =>
 oM Tryz.prog (.load 22 (.tmp 0)) 22 [v12_6] (fun v13_7 w =>
 callM Tryz.prog 38 #[v10_4, v13_7, a1] (fun v15_8 w =>
 oM Tryz.prog (.extract (.tmp 0) 0) 3 [v15_8] (fun v16_9 w =>
 oM Tryz.prog (.extract (.tmp 0) 1) 4 [v15_8] (fun v17_10 w =>
 K v16_9 w) w) w) w) w) w) w) w) w) w) w
theorem sh_126_eq (a0 : Value) (a1 : Value) (K : Value → World → Prop) (w : World) : sh_126 a0 a1 K w = code Tryz.prog (fun _ => 2) 19 (Tryz.f126.body.getD .skip) (slotsAt [a0, a1]) (retK Tryz.prog [.tmp 4] K) w := by kernel_rfl
theorem sh_126_ok {a0 a1 : Value} {K : Value → World → Prop} {w : World} (h : sh_126 a0 a1 K w) : callM Tryz.prog 126 #[a0, a1] K w :=
  calls_of_code (fun _ => 2) (fn := Tryz.f126) (rs := [.tmp 4]) Tryz.func126 rfl rfl (by kernel_rfl) (Nat.le_of_ble_eq_true rfl) ((sh_126_eq a0 a1 K w).mp h)
def sh_127 (a0 : Value) (a1 : Value) (a2 : Value) (K : Value → World → Prop) (w : World) : Prop :=
 oM Tryz.prog (.box 111 (.tmp 0)) 0 [a0] (fun v3_1 w =>
 oM Tryz.prog (.call (Go.Call.mk (.builtin .len) #[(.tmp 0)] #[22])) 3 [a2] (fun v10_2 w =>
 loopM [undef, a1, (.int .i64 0)] w (fun J_3 m_4 l_5 u_l_5 w0_l_5 => (fun w => (
 oM Tryz.prog (.binOp .lss 3 (.tmp 0) (.tmp 1) 3) 0 [(l_5.getD 2 undef), v10_2] (fun v12_6 w =>
 condM v12_6
 (oM Tryz.prog (.indexAddr 22 (.tmp 0) (.tmp 1)) 0 [a2, (l_5.getD 2 undef)] (fun v13_7 w =>
 oM Tryz.prog (.load 3 (.tmp 0)) 3 [v13_7] (fun v14_8 w =>
 oM Tryz.prog (.fieldAddr 111 (.tmp 0) 0) 0 [v3_1] (fun v15_9 w =>
 oM Tryz.prog (.fieldAddr 35 (.tmp 0) 0) 0 [v15_9] (fun v16_10 w =>
 oM Tryz.prog (.load 33 (.tmp 0)) 33 [v16_10] (fun v17_11 w =>
 callM Tryz.prog 168 #[v17_11, (l_5.getD 1 undef), v14_8] (fun v20_12 w =>
 oM Tryz.prog (.binOp .add 3 (.tmp 0) (.tmp 1) 3) 3 [(l_5.getD 2 undef), (.int .i64 1)] (fun v21_13 w =>
 J_3 [v14_8, v20_12, v21_13] w ∧ m_4 [v14_8, v20_12, v21_13] w < m_4 l_5 w0_l_5) w) w) w) w) w) w) w)
 (K (l_5.getD 1 undef) w)) w)) w0_l_5)) w) w
theorem sh_127_eq (a0 : Value) (a1 : Value) (a2 : Value) (K : Value → World → Prop) (w : World) : sh_127 a0 a1 a2 K w = code Tryz.prog (fun _ => 2) 23 (Tryz.f127.body.getD .skip) (slotsAt [a0, a1, a2]) (retK Tryz.prog [.tmp 6] K) w := by kernel_rfl
theorem sh_127_ok {a0 a1 a2 : Value} {K : Value → World → Prop} {w : World} (h : sh_127 a0 a1 a2 K w) : callM Tryz.prog 127 #[a0, a1, a2] K w :=
  calls_of_code (fun _ => 2) (fn := Tryz.f127) (rs := [.tmp 6]) Tryz.func127 rfl rfl (by kernel_rfl) (Nat.le_of_ble_eq_true rfl) ((sh_127_eq a0 a1 a2 K w).mp h)
def sh_135 (a0 : Value) (K : Value → World → Prop) (w : World) : Prop :=
 oM Tryz.prog (.box 35 (.tmp 0)) 0 [a0] (fun v1_1 w =>
 oM Tryz.prog (.fieldAddr 35 (.tmp 0) 0) 0 [v1_1] (fun v6_2 w =>
 oM Tryz.prog (.load 33 (.tmp 0)) 33 [v6_2] (fun v7_3 w =>
 callM Tryz.prog 138 #[v7_3] (fun v8_4 w =>
 oM Tryz.prog (.unOp .not 4 (.tmp 0)) 4 [v8_4] (fun v9_5 w =>
 gdM (gd v9_5 false) (oM Tryz.prog (.fieldAddr 35 (.tmp 0) 1) 0 [v1_1]) (fun v11_6 w =>
 gdM (gd v9_5 false) (oM Tryz.prog (.load 22 (.tmp 0)) 22 [v11_6]) (fun v12_7 w =>
 gdM (gd v9_5 false) (oM Tryz.prog (.call (Go.Call.mk (.builtin .len) #[(.tmp 0)] #[22])) 3 [v12_7]) (fun v13_8 w =>
 gdM (gd v9_5 false) (oM Tryz.prog (.binOp .lss 3 (.tmp 0) (.tmp 1) 3) 4 [v13_8, (.int .i64 2)]) (fun v14_9 w =>
 oM Tryz.prog (.pick (.tmp 0) (.tmp 1) (.tmp 2)) 4 [v9_5, (.bool true), v14_9] (fun v15_10 w =>
 gdM (gd v15_10 false) (oM Tryz.prog (.fieldAddr 35 (.tmp 0) 1) 0 [v1_1]) (fun v17_11 w =>
 gdM (gd v15_10 false) (oM Tryz.prog (.load 22 (.tmp 0)) 22 [v17_11]) (fun v18_12 w =>
 gdM (gd v15_10 false) (oM Tryz.prog (.call (Go.Call.mk (.builtin .len) #[(.tmp 0)] #[22])) 3 [v18_12]) (fun v19_13 w =>
 gdM (gd v15_10 false) (oM Tryz.prog (.binOp .gtr 3 (.tmp 0) (.tmp 1) 3) 4 [v19_13, (.int .i64 7)]) (fun v20_14 w =>
 oM Tryz.prog (.pick (.tmp 0) (.tmp 1) (.tmp 2)) 4 [v15_10, (.bool true), v20_14] (fun v21_15 w =>
 condM v21_15
 (K (.bool false) w)
 (oM Tryz.prog (.makeFunc (Go.Fn.func 175) #[] #[(.tmp 0)]) 122 [v1_1] (fun v22_16 w =>
 oM Tryz.prog (.fieldAddr 35 (.tmp 0) 1) 0 [v1_1] (fun v23_17 w =>
 oM Tryz.prog (.load 22 (.tmp 0)) 22 [v23_17] (fun v24_18 w =>
 oM Tryz.prog (.call (Go.Call.mk (.builtin .len) #[(.tmp 0)] #[22])) 3 [v24_18] (fun v25_19 w =>
 loopM [undef, (.bool false), (.int .i64 0)] w (fun J_20 m_21 l_22 u_l_22 w0_l_22 => (fun w => (
 oM Tryz.prog (.binOp .lss 3 (.tmp 0) (.tmp 1) 3) 0 [(l_22.getD 2 undef), v25_19] (fun v27_23 w =>
 condM v27_23
 (oM Tryz.prog (.indexAddr 22 (.tmp 0) (.tmp 1)) 0 [v24_18, (l_22.getD 2 undef)] (fun v28_24 w =>
 oM Tryz.prog (.load 3 (.tmp 0)) 3 [v28_24] (fun v29_25 w =>
 oM Tryz.prog (.call (Go.Call.mk (.value (.tmp 0)) #[(.tmp 1)] #[3])) 4 [v22_16, v29_25] (fun v32_26 w =>
 oM Tryz.prog (.unOp .not 4 (.tmp 0)) 4 [v32_26] (fun v33_27 w =>
 condM v33_27
 (K (.bool false) w)
 (oM Tryz.prog (.binOp .add 3 (.tmp 0) (.tmp 1) 3) 3 [(l_22.getD 2 undef), (.int .i64 1)] (fun v34_28 w =>
 J_20 [v29_25, (l_22.getD 1 undef), v34_28] w ∧ m_21 [v29_25, (l_22.getD 1 undef), v34_28] w < m_21 l_22 w0_l_22) w)) w) w) w) w)
 (oM Tryz.prog (.fieldAddr 35 (.tmp 0) 2) 0 [v1_1] (fun v36_29 w =>
 oM Tryz.prog (.load 3 (.tmp 0)) 3 [v36_29] (fun v37_30 w =>
 oM Tryz.prog (.call (Go.Call.mk (.value (.tmp 0)) #[(.tmp 1)] #[3])) 4 [v22_16, v37_30] (fun v38_31 w =>
 K v38_31 w) w) w) w)) w)) w0_l_22)) w) w) w) w)) w) w) w) w) w) w) w) w) w) w) w) w) w) w) w
theorem sh_135_eq (a0 : Value) (K : Value → World → Prop) (w : World) : sh_135 a0 K w = code Tryz.prog (fun _ => 0) 39 (Tryz.f135.body.getD .skip) (slotsAt [a0]) (retK Tryz.prog [.tmp 2] K) w := by kernel_rfl
theorem sh_135_ok {a0 : Value} {K : Value → World → Prop} {w : World} (h : sh_135 a0 K w) : callM Tryz.prog 135 #[a0] K w :=
  calls_of_code (fun _ => 0) (fn := Tryz.f135) (rs := [.tmp 2]) Tryz.func135 rfl rfl (by kernel_rfl) (Nat.le_of_ble_eq_true rfl) ((sh_135_eq a0 K w).mp h)
def sh_140 (a0 : Value) (a1 : Value) (a2 : Value) (K : Value → World → Prop) (w : World) : Prop :=
 oM Tryz.prog (.load 3 (.tmp 0)) 3 [a1] (fun v6_1 w =>
 oM Tryz.prog (.binOp .lss 3 (.tmp 0) (.tmp 1) 3) 4 [a0, v6_1] (fun v7_2 w =>
 gdM (gd v7_2 false) (pureM a0) (fun v9_3 w =>
 gdM (gd v7_2 false) (oM Tryz.prog (.fieldAddr 111 (.tmp 0) 0) 0 [a2]) (fun v10_4 w =>
 gdM (gd v7_2 false) (oM Tryz.prog (.fieldAddr 35 (.tmp 0) 0) 0 [v10_4]) (fun v11_5 w =>
 gdM (gd v7_2 false) (oM Tryz.prog (.fieldAddr 33 (.tmp 0) 1) 0 [v11_5]) (fun v12_6 w =>
 gdM (gd v7_2 false) (oM Tryz.prog (.load 3 (.tmp 0)) 3 [v12_6]) (fun v13_7 w =>
 gdM (gd v7_2 false) (oM Tryz.prog (.binOp .geq 3 (.tmp 0) (.tmp 1) 3) 4 [v9_3, v13_7]) (fun v14_8 w =>
 oM Tryz.prog (.pick (.tmp 0) (.tmp 1) (.tmp 2)) 4 [v7_2, (.bool true), v14_8] (fun v15_9 w =>
 K v15_9 w) w) w) w) w) w) w) w) w) w
theorem sh_140_eq (a0 : Value) (a1 : Value) (a2 : Value) (K : Value → World → Prop) (w : World) : sh_140 a0 a1 a2 K w = code Tryz.prog (fun _ => 0) 16 (Tryz.f140.body.getD .skip) (slotsAt [a0, a1, a2]) (retK Tryz.prog [.tmp 4] K) w := by kernel_rfl
theorem sh_140_ok {a0 a1 a2 : Value} {K : Value → World → Prop} {w : World} (h : sh_140 a0 a1 a2 K w) : callM Tryz.prog 140 #[a0, a1, a2] K w :=
  calls_of_code (fun _ => 0) (fn := Tryz.f140) (rs := [.tmp 4]) Tryz.func140 rfl rfl (by kernel_rfl) (Nat.le_of_ble_eq_true rfl) ((sh_140_eq a0 a1 a2 K w).mp h)
def sh_142 (a0 : Value) (K : Value → World → Prop) (w : World) : Prop :=
 oM Tryz.prog (.binOp .eql 22 (.tmp 0) (.const (.slice none 0 0)) 22) 4 [a0] (fun v4_1 w =>
 condM v4_1
 (K (.slice none 0 0) w)
 (oM Tryz.prog (.buildSlice 22 0 #[]) 22 [] (fun v5_2 w =>
 oM Tryz.prog (.call (Go.Call.mk (.builtin .append) #[(.tmp 0), (.tmp 1)] #[22, 22])) 22 [v5_2, a0] (fun v7_3 w =>
 K v7_3 w) w) w)) w
theorem sh_142_eq (a0 : Value) (K : Value → World → Prop) (w : World) : sh_142 a0 K w = code Tryz.prog (fun _ => 2) 8 (Tryz.f142.body.getD .skip) (slotsAt [a0]) (retK Tryz.prog [.tmp 2] K) w := by kernel_rfl
theorem sh_142_ok {a0 : Value} {K : Value → World → Prop} {w : World} (h : sh_142 a0 K w) : callM Tryz.prog 142 #[a0] K w :=
  calls_of_code (fun _ => 2) (fn := Tryz.f142) (rs := [.tmp 2]) Tryz.func142 rfl rfl (by kernel_rfl) (Nat.le_of_ble_eq_true rfl) ((sh_142_eq a0 K w).mp h)
def sh_146 (a0 : Value) (a1 : Value) (K : Value → World → Prop) (w : World) : Prop :=
 oM Tryz.prog (.box 111 (.tmp 0)) 0 [a0] (fun v2_1 w =>
 oM Tryz.prog (.makeFunc (Go.Fn.func 185) #[] #[(.tmp 0)]) 122 [v2_1] (fun v6_2 w =>
 callM Tryz.prog 113 #[a1, v6_2] (fun v7_3 w =>
 oM Tryz.prog (.unOp .not 4 (.tmp 0)) 4 [v7_3] (fun v8_4 w =>
 K v8_4 w) w) w) w) w
theorem sh_146_eq (a0 : Value) (a1 : Value) (K : Value → World → Prop) (w : World) : sh_146 a0 a1 K w = code Tryz.prog (fun _ => 0) 9 (Tryz.f146.body.getD .skip) (slotsAt [a0, a1]) (retK Tryz.prog [.tmp 4] K) w := by kernel_rfl
theorem sh_146_ok {a0 a1 : Value} {K : Value → World → Prop} {w : World} (h : sh_146 a0 a1 K w) : callM Tryz.prog 146 #[a0, a1] K w :=
  calls_of_code (fun _ => 0) (fn := Tryz.f146) (rs := [.tmp 4]) Tryz.func146 rfl rfl (by kernel_rfl) (Nat.le_of_ble_eq_true rfl) ((sh_146_eq a0 a1 K w).mp h)
def sh_160 (a0 : Value) (a1 : Value) (K : Value → World → Prop) (w : World) : Prop :=
 oM Tryz.prog (.call (Go.Call.mk (.builtin .len) #[(.tmp 0)] #[22])) 3 [a0] (fun v7_1 w =>
 loopM [undef, (.int .i64 0), (.int .i64 0)] w (fun J_2 m_3 l_4 u_l_4 w0_l_4 => (fun w => (
 oM Tryz.prog (.binOp .lss 3 (.tmp 0) (.tmp 1) 3) 0 [(l_4.getD 2 undef), v7_1] (fun v9_5 w =>
 condM v9_5
 (oM Tryz.prog (.indexAddr 22 (.tmp 0) (.tmp 1)) 0 [a0, (l_4.getD 2 undef)] (fun v14_6 w =>
 oM Tryz.prog (.load 3 (.tmp 0)) 3 [v14_6] (fun v15_7 w =>
 oM Tryz.prog (.call (Go.Call.mk (.value (.tmp 0)) #[(.tmp 1)] #[3])) 4 [a1, v15_7] (fun v16_8 w =>
 condM v16_8
 (K (l_4.getD 2 undef) w)
 (oM Tryz.prog (.binOp .add 3 (.tmp 0) (.tmp 1) 3) 3 [(l_4.getD 2 undef), (.int .i64 1)] (fun v18_9 w =>
 J_2 [(l_4.getD 2 undef), (l_4.getD 1 undef), v18_9] w ∧ m_3 [(l_4.getD 2 undef), (l_4.getD 1 undef), v18_9] w < m_3 l_4 w0_l_4) w)) w) w) w)
 (K (.int .i64 (-1)) w)) w)) w0_l_4)) w
theorem sh_160_eq (a0 : Value) (a1 : Value) (K : Value → World → Prop) (w : World) : sh_160 a0 a1 K w = code Tryz.prog (fun _ => 0) 19 (Tryz.f160.body.getD .skip) (slotsAt [a0, a1]) (retK Tryz.prog [.tmp 4] K) w := by kernel_rfl
theorem sh_160_ok {a0 a1 : Value} {K : Value → World → Prop} {w : World} (h : sh_160 a0 a1 K w) : callM Tryz.prog 160 #[a0, a1] K w :=
  calls_of_code (fun _ => 0) (fn := Tryz.f160) (rs := [.tmp 4]) Tryz.func160 rfl rfl (by kernel_rfl) (Nat.le_of_ble_eq_true rfl) ((sh_160_eq a0 a1 K w).mp h)
def sh_175 (a0 : Value) (a1 : Value) (K : Value → World → Prop) (w : World) : Prop :=
 oM Tryz.prog (.binOp .neq 3 (.tmp 0) (.const (.int .i64 1)) 3) 4 [a0] (fun v5_1 w =>
 gdM (gd v5_1 true) (oM Tryz.prog (.fieldAddr 35 (.tmp 0) 0) 0 [a1]) (fun v7_2 w =>
 gdM (gd v5_1 true) (oM Tryz.prog (.load 33 (.tmp 0)) 33 [v7_2]) (fun v8_3 w =>
 gdM (gd v5_1 true) (pureM a0) (fun v9_4 w =>
 gdM (gd v5_1 true) (callM Tryz.prog 176 #[v8_3, v9_4]) (fun v10_5 w =>
 oM Tryz.prog (.pick (.tmp 0) (.tmp 1) (.tmp 2)) 4 [v5_1, v10_5, (.bool false)] (fun v11_6 w =>
 K v11_6 w) w) w) w) w) w) w
theorem sh_175_eq (a0 : Value) (a1 : Value) (K : Value → World → Prop) (w : World) : sh_175 a0 a1 K w = code Tryz.prog (fun _ => 0) 12 (Tryz.f175.body.getD .skip) (slotsAt [a0, a1]) (retK Tryz.prog [.tmp 3] K) w := by kernel_rfl
theorem sh_175_ok {a0 a1 : Value} {K : Value → World → Prop} {w : World} (h : sh_175 a0 a1 K w) : callM Tryz.prog 175 #[a0, a1] K w :=
  calls_of_code (fun _ => 0) (fn := Tryz.f175) (rs := [.tmp 3]) Tryz.func175 rfl rfl (by kernel_rfl) (Nat.le_of_ble_eq_true rfl) ((sh_175_eq a0 a1 K w).mp h)
def sh_185 (a0 : Value) (a1 : Value) (K : Value → World → Prop) (w : World) : Prop :=
 oM Tryz.prog (.fieldAddr 111 (.tmp 0) 0) 0 [a1] (fun v4_1 w =>
 oM Tryz.prog (.fieldAddr 35 (.tmp 0) 0) 0 [v4_1] (fun v5_2 w =>
 oM Tryz.prog (.load 33 (.tmp 0)) 33 [v5_2] (fun v6_3 w =>
 callM Tryz.prog 176 #[v6_3, a0] (fun v8_4 w =>
 oM Tryz.prog (.unOp .not 4 (.tmp 0)) 4 [v8_4] (fun v9_5 w =>
 K v9_5 w) w) w) w) w) w
theorem sh_185_eq (a0 : Value) (a1 : Value) (K : Value → World → Prop) (w : World) : sh_185 a0 a1 K w = code Tryz.prog (fun _ => 0) 10 (Tryz.f185.body.getD .skip) (slotsAt [a0, a1]) (retK Tryz.prog [.tmp 3] K) w := by kernel_rfl
theorem sh_185_ok {a0 a1 : Value} {K : Value → World → Prop} {w : World} (h : sh_185 a0 a1 K w) : callM Tryz.prog 185 #[a0, a1] K w :=
  calls_of_code (fun _ => 0) (fn := Tryz.f185) (rs := [.tmp 3]) Tryz.func185 rfl rfl (by kernel_rfl) (Nat.le_of_ble_eq_true rfl) ((sh_185_eq a0 a1 K w).mp h)
def sh_22 (K : Value → World → Prop) (w : World) : Prop :=
 oM Tryz.prog (.build 33 #[(0, (.tmp 0)), (1, (.tmp 1)), (2, (.tmp 2))]) 33 [(.int .i64 23), (.int .i64 11), (.int .i64 4)] (fun v18_1 w =>
 oM Tryz.prog (.buildSlice 22 3 #[(0, (.tmp 0)), (1, (.tmp 1)), (2, (.tmp 2))]) 22 [(.int .i64 4), (.int .i64 16), (.int .i64 18)] (fun v19_2 w =>
 oM Tryz.prog (.build 35 #[(0, (.tmp 0)), (1, (.tmp 1)), (2, (.tmp 2))]) 35 [v18_1, v19_2, (.int .i64 3)] (fun v20_3 w =>
 oM Tryz.prog (.alloc 35) 0 [] (fun v1_4 w =>
 oM Tryz.prog (.store 35 (.tmp 0) (.tmp 1)) 0 [v1_4, v20_3] (fun _ w =>
 oM Tryz.prog (.buildSlice 22 2 #[(0, (.tmp 0)), (1, (.tmp 1))]) 22 [(.int .i64 5), (.int .i64 7)] (fun v21_5 w =>
 oM Tryz.prog (.buildSlice 22 3 #[(0, (.tmp 0)), (1, (.tmp 1)), (2, (.tmp 2))]) 22 [(.int .i64 1), (.int .i64 2), (.int .i64 3)] (fun v22_6 w =>
 oM Tryz.prog (.build 28 #[(0, (.tmp 0)), (1, (.tmp 1)), (3, (.tmp 2))]) 28 [(.int .i64 4), (.int .i64 1), v22_6] (fun v23_7 w =>
 oM Tryz.prog (.alloc 28) 0 [] (fun v3_8 w =>
 oM Tryz.prog (.store 28 (.tmp 0) (.tmp 1)) 0 [v3_8, v23_7] (fun _ w =>
 oM Tryz.prog (.load 35 (.tmp 0)) 35 [v1_4] (fun v25_9 w =>
 callM Tryz.prog 14 #[v25_9, (.int .i64 3), v21_5, (.int .i64 2)] (fun v27_10 w =>
 oM Tryz.prog (.extract (.tmp 0) 0) 39 [v27_10] (fun v28_11 w =>
 oM Tryz.prog (.extract (.tmp 0) 1) 50 [v27_10] (fun v29_12 w =>
 oM Tryz.prog (.alloc 39) 0 [] (fun v4_13 w =>
 oM Tryz.prog (.store 39 (.tmp 0) (.tmp 1)) 0 [v4_13, v28_11] (fun _ w =>
 oM Tryz.prog (.load 35 (.tmp 0)) 35 [v1_4] (fun v31_14 w =>
 oM Tryz.prog (.load 28 (.tmp 0)) 28 [v3_8] (fun v33_15 w =>
 callM Tryz.prog 13 #[v31_14, v21_5, v33_15, (.int .i64 2)] (fun v34_16 w =>
 oM Tryz.prog (.extract (.tmp 0) 0) 47 [v34_16] (fun v35_17 w =>
 oM Tryz.prog (.extract (.tmp 0) 1) 4 [v34_16] (fun v36_18 w =>
 oM Tryz.prog (.alloc 47) 0 [] (fun v6_19 w =>
 oM Tryz.prog (.store 47 (.tmp 0) (.tmp 1)) 0 [v6_19, v35_17] (fun _ w =>
 oM Tryz.prog (.load 35 (.tmp 0)) 35 [v1_4] (fun v38_20 w =>
 oM Tryz.prog (.load 28 (.tmp 0)) 28 [v3_8] (fun v40_21 w =>
 callM Tryz.prog 13 #[v38_20, v21_5, v40_21, (.int .i64 5)] (fun v41_22 w =>
 oM Tryz.prog (.extract (.tmp 0) 0) 47 [v41_22] (fun v42_23 w =>
 oM Tryz.prog (.extract (.tmp 0) 1) 4 [v41_22] (fun v43_24 w =>
 oM Tryz.prog (.alloc 47) 0 [] (fun v8_25 w =>
 oM Tryz.prog (.store 47 (.tmp 0) (.tmp 1)) 0 [v8_25, v42_23] (fun _ w =>
 oM Tryz.prog (.build 43 #[(0, (.tmp 0)), (1, (.tmp 1)), (2, (.tmp 2)), (3, (.tmp 3)), (4, (.tmp 4))]) 43 [(.int .i64 8), (.int .i64 18), (.int .i64 9), (.int .i64 16), (.int .i64 13)] (fun v44_26 w =>
 oM Tryz.prog (.alloc 43) 0 [] (fun v10_27 w =>
 oM Tryz.prog (.store 43 (.tmp 0) (.tmp 1)) 0 [v10_27, v44_26] (fun _ w =>
 oM Tryz.prog (.load 35 (.tmp 0)) 35 [v1_4] (fun v46_28 w =>
 oM Tryz.prog (.load 43 (.tmp 0)) 43 [v10_27] (fun v47_29 w =>
 oM Tryz.prog (.load 47 (.tmp 0)) 47 [v6_19] (fun v48_30 w =>
 oM Tryz.prog (.load 47 (.tmp 0)) 47 [v8_25] (fun v49_31 w =>
 callM Tryz.prog 48 #[v46_28, v47_29, v48_30, v49_31] (fun v50_32 w =>
 oM Tryz.prog (.extract (.tmp 0) 0) 22 [v50_32] (fun v51_33 w =>
 oM Tryz.prog (.extract (.tmp 0) 1) 4 [v50_32] (fun v52_34 w =>
 oM Tryz.prog (.load 35 (.tmp 0)) 35 [v1_4] (fun v54_35 w =>
 oM Tryz.prog (.load 43 (.tmp 0)) 43 [v10_27] (fun v55_36 w =>
 oM Tryz.prog (.load 47 (.tmp 0)) 47 [v6_19] (fun v56_37 w =>
 oM Tryz.prog (.load 47 (.tmp 0)) 47 [v6_19] (fun v57_38 w =>
 callM Tryz.prog 48 #[v54_35, v55_36, v56_37, v57_38] (fun v58_39 w =>
 oM Tryz.prog (.extract (.tmp 0) 0) 22 [v58_39] (fun v59_40 w =>
 oM Tryz.prog (.extract (.tmp 0) 1) 4 [v58_39] (fun v60_41 w =>
 oM Tryz.prog (.fieldAddr 47 (.tmp 0) 1) 0 [v6_19] (fun v61_42 w =>
 oM Tryz.prog (.load 22 (.tmp 0)) 22 [v61_42] (fun v62_43 w =>
 oM Tryz.prog (.buildSlice 22 3 #[(0, (.tmp 0)), (1, (.tmp 1)), (2, (.tmp 2))]) 22 [(.int .i64 9), (.int .i64 9), (.int .i64 4)] (fun v63_44 w =>
 callM Tryz.prog 59 #[v62_43, v63_44] (fun v64_45 w =>
 oM Tryz.prog (.unOp .not 4 (.tmp 0)) 4 [v64_45] (fun v65_46 w =>
 gdM (gd v65_46 false) (oM Tryz.prog (.fieldAddr 47 (.tmp 0) 1) 0 [v8_25]) (fun v67_47 w =>
 gdM (gd v65_46 false) (oM Tryz.prog (.load 22 (.tmp 0)) 22 [v67_47]) (fun v68_48 w =>
 gdM (gd v65_46 false) (oM Tryz.prog (.buildSlice 22 3 #[(0, (.tmp 0)), (1, (.tmp 1)), (2, (.tmp 2))]) 22 [(.int .i64 10), (.int .i64 3), (.int .i64 0)]) (fun v69_49 w =>
 gdM (gd v65_46 false) (callM Tryz.prog 59 #[v68_48, v69_49]) (fun v70_50 w =>
 gdM (gd v65_46 false) (oM Tryz.prog (.unOp .not 4 (.tmp 0)) 4 [v70_50]) (fun v71_51 w =>
 oM Tryz.prog (.pick (.tmp 0) (.tmp 1) (.tmp 2)) 4 [v65_46, (.bool true), v71_51] (fun v72_52 w =>
 gdM (gd v72_52 false) (pureM v36_18) (fun v74_53 w =>
 gdM (gd v72_52 false) (oM Tryz.prog (.unOp .not 4 (.tmp 0)) 4 [v74_53]) (fun v75_54 w =>
 oM Tryz.prog (.pick (.tmp 0) (.tmp 1) (.tmp 2)) 4 [v72_52, (.bool true), v75_54] (fun v76_55 w =>
 gdM (gd v76_55 false) (pureM v43_24) (fun v78_56 w =>
 gdM (gd v76_55 false) (oM Tryz.prog (.unOp .not 4 (.tmp 0)) 4 [v78_56]) (fun v79_57 w =>
 oM Tryz.prog (.pick (.tmp 0) (.tmp 1) (.tmp 2)) 4 [v76_55, (.bool true), v79_57] (fun v80_58 w =>
 gdM (gd v80_58 false) (pureM v51_33) (fun v82_59 w =>
 gdM (gd v80_58 false) (pureM v21_5) (fun v83_60 w =>
 gdM (gd v80_58 false) (callM Tryz.prog 59 #[v82_59, v83_60]) (fun v84_61 w =>
 gdM (gd v80_58 false) (oM Tryz.prog (.unOp .not 4 (.tmp 0)) 4 [v84_61]) (fun v85_62 w =>
 oM Tryz.prog (.pick (.tmp 0) (.tmp 1) (.tmp 2)) 4 [v80_58, (.bool true), v85_62] (fun v86_63 w =>
 gdM (gd v86_63 false) (pureM v52_34) (fun v88_64 w =>
 gdM (gd v86_63 false) (oM Tryz.prog (.unOp .not 4 (.tmp 0)) 4 [v88_64]) (fun v89_65 w =>
 oM Tryz.prog (.pick (.tmp 0) (.tmp 1) (.tmp 2)) 4 [v86_63, (.bool true), v89_65] (fun v90_66 w =>
 gdM (gd v90_66 false) (pureM v60_41) (fun v92_67 w =>
 oM Tryz.prog (.pick (.tmp 0) (.tmp 1) (.tmp 2)) 4 [v90_66, (.bool true), v92_67] (fun v93_68 w =>
 condM v93_68
 (K (.bool false) w)
 (oM Tryz.prog (.fieldAddr 47 (.tmp 0) 1) 0 [v6_19] (fun v94_69 w =>
 oM Tryz.prog (.load 22 (.tmp 0)) 22 [v94_69] (fun v95_70 w =>
 oM Tryz.prog (.build 47 #[(0, (.tmp 0)), (1, (.tmp 1))]) 47 [(.int .i64 3), v95_70] (fun v96_71 w =>
 oM Tryz.prog (.alloc 47) 0 [] (fun v15_72 w =>
 oM Tryz.prog (.store 47 (.tmp 0) (.tmp 1)) 0 [v15_72, v96_71] (fun _ w =>
 oM Tryz.prog (.load 35 (.tmp 0)) 35 [v1_4] (fun v97_73 w =>
 callM Tryz.prog 27 #[v97_73, v21_5] (fun v99_74 w =>
 oM Tryz.prog (.binOp .eql 3 (.tmp 0) (.const (.int .i64 6)) 3) 4 [v99_74] (fun v100_75 w =>
 gdM (gd v100_75 true) (oM Tryz.prog (.load 35 (.tmp 0)) 35 [v1_4]) (fun v102_76 w =>
 gdM (gd v100_75 true) (pureM v21_5) (fun v103_77 w =>
 gdM (gd v100_75 true) (callM Tryz.prog 29 #[v102_76, v103_77]) (fun v104_78 w =>
 oM Tryz.prog (.pick (.tmp 0) (.tmp 1) (.tmp 2)) 4 [v100_75, v104_78, (.bool false)] (fun v105_79 w =>
 gdM (gd v105_79 true) (oM Tryz.prog (.load 35 (.tmp 0)) 35 [v1_4]) (fun v107_80 w =>
 gdM (gd v105_79 true) (oM Tryz.prog (.buildSlice 22 2 #[(0, (.tmp 0)), (1, (.tmp 1))]) 22 [(.int .i64 5), (.int .i64 0)]) (fun v108_81 w =>
 gdM (gd v105_79 true) (callM Tryz.prog 29 #[v107_80, v108_81]) (fun v109_82 w =>
 gdM (gd v105_79 true) (oM Tryz.prog (.unOp .not 4 (.tmp 0)) 4 [v109_82]) (fun v110_83 w =>
 oM Tryz.prog (.pick (.tmp 0) (.tmp 1) (.tmp 2)) 4 [v105_79, v110_83, (.bool false)] (fun v111_84 w =>
 gdM (gd v111_84 true) (oM Tryz.prog (.load 35 (.tmp 0)) 35 [v1_4]) (fun v113_85 w =>
 gdM (gd v111_84 true) (callM Tryz.prog 19 #[v113_85, (.int .i64 3)]) (fun v114_86 w =>
 gdM (gd v111_84 true) (oM Tryz.prog (.binOp .eql 3 (.tmp 0) (.const (.int .i64 18)) 3) 4 [v114_86]) (fun v115_87 w =>
 oM Tryz.prog (.pick (.tmp 0) (.tmp 1) (.tmp 2)) 4 [v111_84, v115_87, (.bool false)] (fun v116_88 w =>
 gdM (gd v116_88 true) (oM Tryz.prog (.load 35 (.tmp 0)) 35 [v1_4]) (fun v118_89 w =>
 gdM (gd v116_88 true) (callM Tryz.prog 19 #[v118_89, (.int .i64 0)]) (fun v119_90 w =>
 gdM (gd v116_88 true) (oM Tryz.prog (.binOp .eql 3 (.tmp 0) (.const (.int .i64 0)) 3) 4 [v119_90]) (fun v120_91 w =>
 oM Tryz.prog (.pick (.tmp 0) (.tmp 1) (.tmp 2)) 4 [v116_88, v120_91, (.bool false)] (fun v121_92 w =>
 oM Tryz.prog (.binOp .eql 50 (.tmp 0) (.const (.int .i64 0)) 50) 4 [v29_12] (fun v123_93 w =>
 gdM (gd v123_93 true) (oM Tryz.prog (.load 39 (.tmp 0)) 39 [v4_13]) (fun v125_94 w =>
 gdM (gd v123_93 true) (oM Tryz.prog (.build 39 #[(0, (.tmp 0)), (1, (.tmp 1)), (2, (.tmp 2))]) 39 [(.int .i64 9), (.int .i64 16), (.int .i64 13)]) (fun v126_95 w =>
 gdM (gd v123_93 true) (oM Tryz.prog (.binOp .eql 39 (.tmp 0) (.tmp 1) 39) 4 [v125_94, v126_95]) (fun v127_96 w =>
 oM Tryz.prog (.pick (.tmp 0) (.tmp 1) (.tmp 2)) 4 [v123_93, v127_96, (.bool false)] (fun v128_97 w =>
 gdM (gd v128_97 true) (oM Tryz.prog (.load 35 (.tmp 0)) 35 [v1_4]) (fun v130_98 w =>
 gdM (gd v128_97 true) (callM Tryz.prog 15 #[v130_98, (.int .i64 3), (.int .i64 2), (.int .i64 6)]) (fun v131_99 w =>
 gdM (gd v128_97 true) (oM Tryz.prog (.binOp .eql 3 (.tmp 0) (.const (.int .i64 9)) 3) 4 [v131_99]) (fun v132_100 w =>
 oM Tryz.prog (.pick (.tmp 0) (.tmp 1) (.tmp 2)) 4 [v128_97, v132_100, (.bool false)] (fun v133_101 w =>
 gdM (gd v133_101 true) (oM Tryz.prog (.load 35 (.tmp 0)) 35 [v1_4]) (fun v135_102 w =>
 gdM (gd v133_101 true) (oM Tryz.prog (.load 43 (.tmp 0)) 43 [v10_27]) (fun v136_103 w =>
 gdM (gd v133_101 true) (oM Tryz.prog (.load 47 (.tmp 0)) 47 [v6_19]) (fun v137_104 w =>
 gdM (gd v133_101 true) (callM Tryz.prog 57 #[v135_102, v136_103, v137_104]) (fun v138_105 w =>
 oM Tryz.prog (.pick (.tmp 0) (.tmp 1) (.tmp 2)) 4 [v133_101, v138_105, (.bool false)] (fun v139_106 w =>
 gdM (gd v139_106 true) (oM Tryz.prog (.load 35 (.tmp 0)) 35 [v1_4]) (fun v141_107 w =>
 gdM (gd v139_106 true) (oM Tryz.prog (.load 43 (.tmp 0)) 43 [v10_27]) (fun v142_108 w =>
 gdM (gd v139_106 true) (oM Tryz.prog (.load 47 (.tmp 0)) 47 [v8_25]) (fun v143_109 w =>
 gdM (gd v139_106 true) (callM Tryz.prog 57 #[v141_107, v142_108, v143_109]) (fun v144_110 w =>
 oM Tryz.prog (.pick (.tmp 0) (.tmp 1) (.tmp 2)) 4 [v139_106, v144_110, (.bool false)] (fun v145_111 w =>
 gdM (gd v145_111 true) (oM Tryz.prog (.load 35 (.tmp 0)) 35 [v1_4]) (fun v147_112 w =>
 gdM (gd v145_111 true) (oM Tryz.prog (.load 43 (.tmp 0)) 43 [v10_27]) (fun v148_113 w =>
 gdM (gd v145_111 true) (oM Tryz.prog (.load 47 (.tmp 0)) 47 [v15_72]) (fun v149_114 w =>
 gdM (gd v145_111 true) (callM Tryz.prog 57 #[v147_112, v148_113, v149_114]) (fun v150_115 w =>
 gdM (gd v145_111 true) (oM Tryz.prog (.unOp .not 4 (.tmp 0)) 4 [v150_115]) (fun v151_116 w =>
 oM Tryz.prog (.pick (.tmp 0) (.tmp 1) (.tmp 2)) 4 [v145_111, v151_116, (.bool false)] (fun v152_117 w =>
 gdM (gd v121_92 true) (pureM v152_117) (fun v155_118 w =>
 oM Tryz.prog (.pick (.tmp 0) (.tmp 1) (.tmp 2)) 4 [v121_92, v155_118, (.bool false)] (fun v156_119 w =>
 gdM (gd v156_119 true) (oM Tryz.prog (.load 35 (.tmp 0)) 35 [v1_4]) (fun v158_120 w =>
 gdM (gd v156_119 true) (oM Tryz.prog (.load 43 (.tmp 0)) 43 [v10_27]) (fun v159_121 w =>
 gdM (gd v156_119 true) (oM Tryz.prog (.load 47 (.tmp 0)) 47 [v6_19]) (fun v160_122 w =>
 gdM (gd v156_119 true) (oM Tryz.prog (.load 47 (.tmp 0)) 47 [v8_25]) (fun v161_123 w =>
 gdM (gd v156_119 true) (pureM v21_5) (fun v162_124 w =>
 gdM (gd v156_119 true) (callM Tryz.prog 60 #[v158_120, v159_121, v160_122, v161_123, v162_124]) (fun v163_125 w =>
 oM Tryz.prog (.pick (.tmp 0) (.tmp 1) (.tmp 2)) 4 [v156_119, v163_125, (.bool false)] (fun v164_126 w =>
 gdM (gd v164_126 true) (oM Tryz.prog (.load 43 (.tmp 0)) 43 [v10_27]) (fun v166_127 w =>
 gdM (gd v164_126 true) (callM Tryz.prog 46 #[v166_127]) (fun v167_128 w =>
 gdM (gd v164_126 true) (oM Tryz.prog (.binOp .eql 9 (.tmp 0) (.const (.string ⟨#[54, 91, 56, 59, 49, 56, 59, 57, 59, 49, 54, 59, 49, 51, 59, 48, 59, 93]⟩)) 9) 4 [v167_128]) (fun v168_129 w =>
 oM Tryz.prog (.pick (.tmp 0) (.tmp 1) (.tmp 2)) 4 [v164_126, v168_129, (.bool false)] (fun v169_130 w =>
 K v169_130 w) w) w) w) w) w) w) w) w) w) w) w) w) w) w) w) w) w) w) w) w) w) w) w) w) w) w) w) w) w) w) w) w) w) w) w) w) w) w) w) w) w) w) w) w) w) w) w) w) w) w) w) w) w) w) w) w) w) w) w) w) w) w) w)) w) w) w) w) w) w) w) w) w) w) w) w) w) w) w) w) w) w) w) w) w) w) w) w) w) w) w) w) w) w) w) w) w) w) w) w) w) w) w) w) w) w) w) w) w) w) w) w) w) w) w) w) w) w) w) w) w) w) w) w) w) w) w) w) w) w) w) w) w) w) w) w) w) w
theorem sh_22_eq (K : Value → World → Prop) (w : World) : sh_22 K w = code Tryz.prog (fun _ => 2) 170 (Tryz.f22.body.getD .skip) (slotsAt []) (retK Tryz.prog [.tmp 0] K) w := by kernel_rfl
theorem sh_22_ok {K : Value → World → Prop} {w : World} (h : sh_22 K w) : callM Tryz.prog 22 #[] K w :=
  calls_of_code (fun _ => 2) (fn := Tryz.f22) (rs := [.tmp 0]) Tryz.func22 rfl rfl (by kernel_rfl) (Nat.le_of_ble_eq_true rfl) ((sh_22_eq K w).mp h)
def sh_59 (a0 : Value) (a1 : Value) (K : Value → World → Prop) (w : World) : Prop :=
 oM Tryz.prog (.call (Go.Call.mk (.builtin .len) #[(.tmp 0)] #[22])) 3 [a0] (fun v7_1 w =>
 oM Tryz.prog (.call (Go.Call.mk (.builtin .len) #[(.tmp 0)] #[22])) 3 [a1] (fun v9_2 w =>
 oM Tryz.prog (.binOp .neq 3 (.tmp 0) (.tmp 1) 3) 4 [v7_1, v9_2] (fun v10_3 w =>
 condM v10_3
 (K (.bool false) w)
 (loopM [(.bool false), (.int .i64 0)] w (fun J_4 m_5 l_6 u_l_6 w0_l_6 => (fun w => (
 oM Tryz.prog (.call (Go.Call.mk (.builtin .len) #[(.tmp 0)] #[22])) 3 [a0] (fun v13_7 w =>
 oM Tryz.prog (.binOp .lss 3 (.tmp 0) (.tmp 1) 3) 4 [(l_6.getD 1 undef), v13_7] (fun v14_8 w =>
 condM v14_8
 (quietM w (fun C_9 => (oQ Tryz.prog (.indexAddr 22 (.tmp 0) (.tmp 1)) 0 [a0, (l_6.getD 1 undef)] C_9 (fun v19_10 =>
 oQ Tryz.prog (.load 3 (.tmp 0)) 3 [v19_10] C_9 (fun v20_11 =>
 oQ Tryz.prog (.indexAddr 22 (.tmp 0) (.tmp 1)) 0 [a1, (l_6.getD 1 undef)] C_9 (fun v23_12 =>
 oQ Tryz.prog (.load 3 (.tmp 0)) 3 [v23_12] C_9 (fun v24_13 =>
 oQ Tryz.prog (.binOp .neq 3 (.tmp 0) (.tmp 1) 3) 4 [v20_11, v24_13] C_9 (fun v25_14 =>
 ∀ w, C_9 w → (condM v25_14
 (K (.bool false) w)
 (oM Tryz.prog (.binOp .add 3 (.tmp 0) (.tmp 1) 3) 3 [(l_6.getD 1 undef), (.int .i64 1)] (fun v16_15 w =>
 J_4 [(l_6.getD 0 undef), v16_15] w ∧ m_5 [(l_6.getD 0 undef), v16_15] w < m_5 l_6 w0_l_6) w))))))))))
 (K (.bool true) w)) w) w)) w0_l_6))) w) w) w
theorem sh_59_eq (a0 : Value) (a1 : Value) (K : Value → World → Prop) (w : World) : sh_59 a0 a1 K w = code Tryz.prog (fun _ => 0) 26 (Tryz.f59.body.getD .skip) (slotsAt [a0, a1]) (retK Tryz.prog [.tmp 4] K) w := by kernel_rfl
theorem sh_59_ok {a0 a1 : Value} {K : Value → World → Prop} {w : World} (h : sh_59 a0 a1 K w) : callM Tryz.prog 59 #[a0, a1] K w :=
  calls_of_code (fun _ => 0) (fn := Tryz.f59) (rs := [.tmp 4]) Tryz.func59 rfl rfl (by kernel_rfl) (Nat.le_of_ble_eq_true rfl) ((sh_59_eq a0 a1 K w).mp h)
def sh_107 (a0 : Value) (a1 : Value) (K : Value → World → Prop) (w : World) : Prop :=
 oM Tryz.prog (.box 111 (.tmp 0)) 0 [a0] (fun v2_1 w =>
 oM Tryz.prog (.box 43 (.tmp 0)) 0 [a1] (fun v3_2 w =>
 heldM w (fun C_3 w => (oH Tryz.prog (.fieldAddr 43 (.tmp 0) 0) 0 [v3_2] C_3 (fun v5_4 =>
 oH Tryz.prog (.load 3 (.tmp 0)) 3 [v5_4] C_3 (fun v6_5 =>
 oH Tryz.prog (.fieldAddr 43 (.tmp 0) 1) 0 [v3_2] C_3 (fun v7_6 =>
 oH Tryz.prog (.load 3 (.tmp 0)) 3 [v7_6] C_3 (fun v8_7 =>
 oH Tryz.prog (.fieldAddr 43 (.tmp 0) 2) 0 [v3_2] C_3 (fun v9_8 =>
 oH Tryz.prog (.load 3 (.tmp 0)) 3 [v9_8] C_3 (fun v10_9 =>
 oH Tryz.prog (.fieldAddr 43 (.tmp 0) 3) 0 [v3_2] C_3 (fun v11_10 =>
 oH Tryz.prog (.load 3 (.tmp 0)) 3 [v11_10] C_3 (fun v12_11 =>
 oH Tryz.prog (.fieldAddr 43 (.tmp 0) 4) 0 [v3_2] C_3 (fun v13_12 =>
 oH Tryz.prog (.load 3 (.tmp 0)) 3 [v13_12] C_3 (fun v14_13 =>
 oH Tryz.prog (.fieldAddr 111 (.tmp 0) 0) 0 [v2_1] C_3 (fun v17_14 =>
 oH Tryz.prog (.fieldAddr 35 (.tmp 0) 0) 0 [v17_14] C_3 (fun v18_15 =>
 oH Tryz.prog (.fieldAddr 33 (.tmp 0) 1) 0 [v18_15] C_3 (fun v19_16 =>
 oH Tryz.prog (.load 3 (.tmp 0)) 3 [v19_16] C_3 (fun v20_17 =>
 oM Tryz.prog (.buildSlice 22 5 #[(0, (.tmp 0)), (1, (.tmp 1)), (2, (.tmp 2)), (3, (.tmp 3)), (4, (.tmp 4))]) 22 [v6_5, v8_7, v10_9, v12_11, v14_13] (fun v15_18 w => C_3 w ∧ (
 callM Tryz.prog 119 #[v15_18] (fun v16_19 w => C_3 w ∧ (
 callM Tryz.prog 130 #[v16_19, v20_17] (fun v21_20 w => C_3 w ∧ (
 C_3 w ∧ (K v21_20 w))) w)) w)) w))))))))))))))))) w) w
theorem sh_107_eq (a0 : Value) (a1 : Value) (K : Value → World → Prop) (w : World) : sh_107 a0 a1 K w = code Tryz.prog (fun _ => 2) 22 (Tryz.f107.body.getD .skip) (slotsAt [a0, a1]) (retK Tryz.prog [.tmp 4] K) w := by kernel_rfl
theorem sh_107_ok {a0 a1 : Value} {K : Value → World → Prop} {w : World} (h : sh_107 a0 a1 K w) : callM Tryz.prog 107 #[a0, a1] K w :=
  calls_of_code (fun _ => 2) (fn := Tryz.f107) (rs := [.tmp 4]) Tryz.func107 rfl rfl (by kernel_rfl) (Nat.le_of_ble_eq_true rfl) ((sh_107_eq a0 a1 K w).mp h)
def sh_130 (a0 : Value) (a1 : Value) (K : Value → World → Prop) (w : World) : Prop :=
 callM Tryz.prog 79 #[a1] (fun v9_1 w =>
 oM Tryz.prog (.unOp .not 4 (.tmp 0)) 4 [v9_1] (fun v10_2 w =>
 condM v10_2
 (K (.int .i64 0) w)
 (callM Tryz.prog 171 #[a0] (fun v12_3 w =>
 oM Tryz.prog (.convert 9 189 (.tmp 0)) 189 [v12_3] (fun v13_4 w =>
 oM Tryz.prog (.call (Go.Call.mk (.builtin .len) #[(.tmp 0)] #[189])) 3 [v13_4] (fun v14_5 w =>
 loopM [undef, (.int .i64 0), (.int .i64 0)] w (fun J_6 m_7 l_8 u_l_8 w0_l_8 => (fun w => (
 oM Tryz.prog (.binOp .lss 3 (.tmp 0) (.tmp 1) 3) 0 [(l_8.getD 2 undef), v14_5] (fun v16_9 w =>
 condM v16_9
 (oM Tryz.prog (.indexAddr 189 (.tmp 0) (.tmp 1)) 0 [v13_4, (l_8.getD 2 undef)] (fun v17_10 w =>
 oM Tryz.prog (.load 5 (.tmp 0)) 5 [v17_10] (fun v18_11 w =>
 callM Tryz.prog 16 #[a1, (l_8.getD 1 undef), (.int .i64 256)] (fun v22_12 w =>
 oM Tryz.prog (.convert 5 3 (.tmp 0)) 3 [v18_11] (fun v24_13 w =>
 callM Tryz.prog 143 #[a1, v22_12, v24_13] (fun v25_14 w =>
 oM Tryz.prog (.binOp .add 3 (.tmp 0) (.tmp 1) 3) 3 [(l_8.getD 2 undef), (.int .i64 1)] (fun v26_15 w =>
 J_6 [v18_11, v25_14, v26_15] w ∧ m_7 [v18_11, v25_14, v26_15] w < m_7 l_8 w0_l_8) w) w) w) w) w) w)
 (K (l_8.getD 1 undef) w)) w)) w0_l_8)) w) w) w)) w) w
theorem sh_130_eq (a0 : Value) (a1 : Value) (K : Value → World → Prop) (w : World) : sh_130 a0 a1 K w = code Tryz.prog (fun _ => 2) 28 (Tryz.f130.body.getD .skip) (slotsAt [a0, a1]) (retK Tryz.prog [.tmp 4] K) w := by kernel_rfl
theorem sh_130_ok {a0 a1 : Value} {K : Value → World → Prop} {w : World} (h : sh_130 a0 a1 K w) : callM Tryz.prog 130 #[a0, a1] K w :=
  calls_of_code (fun _ => 2) (fn := Tryz.f130) (rs := [.tmp 4]) Tryz.func130 rfl rfl (by kernel_rfl) (Nat.le_of_ble_eq_true rfl) ((sh_130_eq a0 a1 K w).mp h)
end Go.Proofs
set_option linter.unusedVariables false
set_option maxRecDepth 100000
namespace Go.Proofs
open Go.Sh
def sh_82 (a0 : Value) (a1 : Value) (a2 : Value) (a3 : Value) (a4 : Value) (K : Value → World → Prop) (w : World) : Prop :=
 oM Tryz.prog (.box 35 (.tmp 0)) 0 [a0] (fun v5_1 w =>
 oM Tryz.prog (.box 39 (.tmp 0)) 0 [a3] (fun v8_2 w =>
 oM Tryz.prog (.box 28 (.tmp 0)) 0 [a4] (fun v9_3 w =>
 oM Tryz.prog (.alloc 127) 0 [] (fun v10_4 w =>
 oM Tryz.prog (.load 35 (.tmp 0)) 35 [v5_1] (fun v18_5 w =>
 callM Tryz.prog 70 #[v18_5, a2] (fun v20_6 w =>
 oM Tryz.prog (.extract (.tmp 0) 0) 111 [v20_6] (fun v21_7 w =>
 oM Tryz.prog (.extract (.tmp 0) 1) 3 [v20_6] (fun v22_8 w =>
 oM Tryz.prog (.extract (.tmp 0) 2) 4 [v20_6] (fun v23_9 w =>
 oM Tryz.prog (.alloc 111) 0 [] (fun v12_10 w =>
 oM Tryz.prog (.store 111 (.tmp 0) (.tmp 1)) 0 [v12_10, v21_7] (fun _ w =>
 oM Tryz.prog (.unOp .not 4 (.tmp 0)) 4 [v23_9] (fun v25_11 w =>
 gdM (gd v25_11 false) (oM Tryz.prog (.load 111 (.tmp 0)) 111 [v12_10]) (fun v27_12 w =>
 gdM (gd v25_11 false) (pureM a1) (fun v28_13 w =>
 gdM (gd v25_11 false) (callM Tryz.prog 125 #[v27_12, v28_13]) (fun v29_14 w =>
 gdM (gd v25_11 false) (oM Tryz.prog (.unOp .not 4 (.tmp 0)) 4 [v29_14]) (fun v30_15 w =>
 oM Tryz.prog (.pick (.tmp 0) (.tmp 1) (.tmp 2)) 4 [v25_11, (.bool true), v30_15] (fun v31_16 w =>
 gdM (gd v31_16 false) (oM Tryz.prog (.load 111 (.tmp 0)) 111 [v12_10]) (fun v33_17 w =>
 gdM (gd v31_16 false) (oM Tryz.prog (.fieldAddr 39 (.tmp 0) 0) 0 [v8_2]) (fun v34_18 w =>
 gdM (gd v31_16 false) (oM Tryz.prog (.load 3 (.tmp 0)) 3 [v34_18]) (fun v35_19 w =>
 gdM (gd v31_16 false) (oM Tryz.prog (.fieldAddr 39 (.tmp 0) 1) 0 [v8_2]) (fun v36_20 w =>
 gdM (gd v31_16 false) (oM Tryz.prog (.load 3 (.tmp 0)) 3 [v36_20]) (fun v37_21 w =>
 gdM (gd v31_16 false) (oM Tryz.prog (.fieldAddr 39 (.tmp 0) 2) 0 [v8_2]) (fun v38_22 w =>
 gdM (gd v31_16 false) (oM Tryz.prog (.load 3 (.tmp 0)) 3 [v38_22]) (fun v39_23 w =>
 gdM (gd v31_16 false) (oM Tryz.prog (.buildSlice 22 3 #[(0, (.tmp 0)), (1, (.tmp 1)), (2, (.tmp 2))]) 22 [v35_19, v37_21, v39_23]) (fun v40_24 w =>
 gdM (gd v31_16 false) (callM Tryz.prog 146 #[v33_17, v40_24]) (fun v41_25 w =>
 gdM (gd v31_16 false) (oM Tryz.prog (.unOp .not 4 (.tmp 0)) 4 [v41_25]) (fun v42_26 w =>
 oM Tryz.prog (.pick (.tmp 0) (.tmp 1) (.tmp 2)) 4 [v31_16, (.bool true), v42_26] (fun v43_27 w =>
 gdM (gd v43_27 false) (oM Tryz.prog (.fieldAddr 39 (.tmp 0) 0) 0 [v8_2]) (fun v45_28 w =>
 gdM (gd v43_27 false) (oM Tryz.prog (.load 3 (.tmp 0)) 3 [v45_28]) (fun v46_29 w =>
 gdM (gd v43_27 false) (oM Tryz.prog (.binOp .eql 3 (.tmp 0) (.const (.int .i64 1)) 3) 4 [v46_29]) (fun v47_30 w =>
 oM Tryz.prog (.pick (.tmp 0) (.tmp 1) (.tmp 2)) 4 [v43_27, (.bool true), v47_30] (fun v48_31 w =>
 gdM (gd v48_31 false) (oM Tryz.prog (.load 111 (.tmp 0)) 111 [v12_10]) (fun v50_32 w =>
 gdM (gd v48_31 false) (oM Tryz.prog (.load 28 (.tmp 0)) 28 [v9_3]) (fun v51_33 w =>
 gdM (gd v48_31 false) (callM Tryz.prog 71 #[v50_32, v51_33]) (fun v52_34 w =>
 gdM (gd v48_31 false) (oM Tryz.prog (.unOp .not 4 (.tmp 0)) 4 [v52_34]) (fun v53_35 w =>
 oM Tryz.prog (.pick (.tmp 0) (.tmp 1) (.tmp 2)) 4 [v48_31, (.bool true), v53_35] (fun v54_36 w =>
 condM v54_36
 (oM Tryz.prog (.build 127 #[]) 127 [] (fun v55_37 w =>
 oM Tryz.prog (.store 127 (.tmp 0) (.tmp 1)) 0 [v10_4, v55_37] (fun _ w =>
 ∃ r_38, (do loadVar 127 (← asAddr v10_4) : Sem Value).run Tryz.prog w = .ok r_38 w ∧ K (.tuple #[r_38, (.int .i64 1)]) w) w) w)
 (heldM w (fun C_39 w => (((true : Bool) = true) ∧ (oH Tryz.prog (.load 111 (.tmp 0)) 111 [v12_10] C_39 (fun v56_40 =>
 pureH v22_8 C_39 (fun v57_41 =>
 oH Tryz.prog (.fieldAddr 28 (.tmp 0) 0) 0 [v9_3] C_39 (fun v58_42 =>
 oH Tryz.prog (.load 3 (.tmp 0)) 3 [v58_42] C_39 (fun v59_43 =>
 oH Tryz.prog (.load 111 (.tmp 0)) 111 [v12_10] C_39 (fun v61_44 =>
 oH Tryz.prog (.fieldAddr 28 (.tmp 0) 3) 0 [v9_3] C_39 (fun v62_45 =>
 oH Tryz.prog (.load 22 (.tmp 0)) 22 [v62_45] C_39 (fun v63_46 =>
 oH Tryz.prog (.load 111 (.tmp 0)) 111 [v12_10] C_39 (fun v65_47 =>
 oH Tryz.prog (.fieldAddr 39 (.tmp 0) 0) 0 [v8_2] C_39 (fun v66_48 =>
 oH Tryz.prog (.load 3 (.tmp 0)) 3 [v66_48] C_39 (fun v67_49 =>
 oH Tryz.prog (.fieldAddr 28 (.tmp 0) 0) 0 [v9_3] C_39 (fun v68_50 =>
 oH Tryz.prog (.load 3 (.tmp 0)) 3 [v68_50] C_39 (fun v69_51 =>
 ∃ S_52 : World → World → Prop, ∃ R_53 : Value → World → Prop, (∀ v w w_1, S_52 w w_1 → R_53 v w → R_53 v w_1) ∧
 (∀ w, C_39 w → (callM Tryz.prog 76 #[v56_40, v57_41, v59_43] (fun v w_1 => C_39 w_1 ∧ S_52 w w_1 ∧ R_53 v w_1) w)) ∧
 (∃ R_54 : Value → World → Prop, (∀ v w w_1, S_52 w w_1 → R_54 v w → R_54 v w_1) ∧
 (∀ w, C_39 w → (callM Tryz.prog 126 #[v61_44, v63_46] (fun v w_1 => C_39 w_1 ∧ S_52 w w_1 ∧ R_54 v w_1) w)) ∧
 (∃ R_55 : Value → World → Prop, (∀ v w w_1, S_52 w w_1 → R_55 v w → R_55 v w_1) ∧
 (∀ w, C_39 w → (callM Tryz.prog 76 #[v65_47, v67_49, v69_51] (fun v w_1 => C_39 w_1 ∧ S_52 w w_1 ∧ R_55 v w_1) w)) ∧
 (∃ R_56 : Value → World → Prop, (∀ v w w_1, S_52 w w_1 → R_56 v w → R_56 v w_1) ∧
 (∀ w, C_39 w → ∀ v60_57, R_53 v60_57 w → ∀ v64_58, R_54 v64_58 w → ∀ v70_59, R_55 v70_59 w → (oM Tryz.prog (.build 43 #[(0, (.tmp 0)), (1, (.tmp 1)), (2, (.tmp 2))]) 43 [v60_57, v64_58, v70_59] (fun v w_1 => C_39 w_1 ∧ S_52 w w_1 ∧ R_56 v w_1) w)) ∧
 (∃ R_60 : Value → World → Prop, (∀ v w w_1, S_52 w w_1 → R_60 v w → R_60 v w_1) ∧
 (∀ w, C_39 w → (oM Tryz.prog (.alloc 43) 0 [] (fun v w_1 => C_39 w_1 ∧ S_52 w w_1 ∧ R_60 v w_1) w)) ∧
 (∀ w, C_39 w → ∀ v60_61, R_53 v60_61 w → ∀ v64_62, R_54 v64_62 w → ∀ v70_63, R_55 v70_63 w → ∀ v71_64, R_56 v71_64 w → ∀ v15_65, R_60 v15_65 w → (
 oM Tryz.prog (.store 43 (.tmp 0) (.tmp 1)) 0 [v15_65, v71_64] (fun _ w => C_39 w ∧ (
 heldM w (fun C_66 w => (((true : Bool) = true) ∧ (oH Tryz.prog (.load 111 (.tmp 0)) 111 [v12_10] C_66 (fun v72_67 =>
 oH Tryz.prog (.load 111 (.tmp 0)) 111 [v12_10] C_66 (fun v73_68 =>
 oH Tryz.prog (.fieldAddr 39 (.tmp 0) 1) 0 [v8_2] C_66 (fun v74_69 =>
 oH Tryz.prog (.load 3 (.tmp 0)) 3 [v74_69] C_66 (fun v75_70 =>
 oH Tryz.prog (.fieldAddr 28 (.tmp 0) 1) 0 [v9_3] C_66 (fun v76_71 =>
 oH Tryz.prog (.load 3 (.tmp 0)) 3 [v76_71] C_66 (fun v77_72 =>
 oH Tryz.prog (.load 111 (.tmp 0)) 111 [v12_10] C_66 (fun v79_73 =>
 oH Tryz.prog (.fieldAddr 28 (.tmp 0) 2) 0 [v9_3] C_66 (fun v80_74 =>
 oH Tryz.prog (.load 3 (.tmp 0)) 3 [v80_74] C_66 (fun v81_75 =>
 ∃ S_76 : World → World → Prop, ∀ w, C_66 w → (
 callM Tryz.prog 76 #[v73_68, v75_70, v77_72] (fun v78_77 w => C_66 w ∧ (
 callM Tryz.prog 77 #[v79_73, v81_75] (fun v82_78 w => C_66 w ∧ (
 oM Tryz.prog (.buildSlice 22 1 #[(0, (.tmp 0))]) 22 [v82_78] (fun v83_79 w => C_66 w ∧ (
 callM Tryz.prog 127 #[v72_67, v78_77, v83_79] (fun v84_80 w => C_66 w ∧ (
 oM Tryz.prog (.fieldAddr 43 (.tmp 0) 3) 0 [v15_65] (fun v85_81 w => C_66 w ∧ (
 oM Tryz.prog (.store 3 (.tmp 0) (.tmp 1)) 0 [v85_81, v84_80] (fun _ w => C_66 w ∧ (
 heldM w (fun C_82 w => (((true : Bool) = true) ∧ (oH Tryz.prog (.load 111 (.tmp 0)) 111 [v12_10] C_82 (fun v86_83 =>
 oH Tryz.prog (.load 111 (.tmp 0)) 111 [v12_10] C_82 (fun v87_84 =>
 oH Tryz.prog (.fieldAddr 39 (.tmp 0) 2) 0 [v8_2] C_82 (fun v88_85 =>
 oH Tryz.prog (.load 3 (.tmp 0)) 3 [v88_85] C_82 (fun v89_86 =>
 oH Tryz.prog (.load 111 (.tmp 0)) 111 [v12_10] C_82 (fun v90_87 =>
 oH Tryz.prog (.fieldAddr 28 (.tmp 0) 0) 0 [v9_3] C_82 (fun v91_88 =>
 oH Tryz.prog (.load 3 (.tmp 0)) 3 [v91_88] C_82 (fun v92_89 =>
 oH Tryz.prog (.fieldAddr 28 (.tmp 0) 1) 0 [v9_3] C_82 (fun v93_90 =>
 oH Tryz.prog (.load 3 (.tmp 0)) 3 [v93_90] C_82 (fun v94_91 =>
 oH Tryz.prog (.load 111 (.tmp 0)) 111 [v12_10] C_82 (fun v98_92 =>
 oH Tryz.prog (.fieldAddr 43 (.tmp 0) 0) 0 [v15_65] C_82 (fun v99_93 =>
 oH Tryz.prog (.load 3 (.tmp 0)) 3 [v99_93] C_82 (fun v100_94 =>
 oH Tryz.prog (.fieldAddr 28 (.tmp 0) 2) 0 [v9_3] C_82 (fun v101_95 =>
 oH Tryz.prog (.load 3 (.tmp 0)) 3 [v101_95] C_82 (fun v102_96 =>
 ∃ S_97 : World → World → Prop, ∀ w, C_82 w → (
 oM Tryz.prog (.buildSlice 22 1 #[(0, (.tmp 0))]) 22 [v94_91] (fun v95_98 w => C_82 w ∧ (
 callM Tryz.prog 75 #[v90_87, v92_89, v95_98] (fun v96_99 w => C_82 w ∧ (
 callM Tryz.prog 76 #[v87_84, v89_86, v96_99] (fun v97_100 w => C_82 w ∧ (
 callM Tryz.prog 76 #[v98_92, v100_94, v102_96] (fun v103_101 w => C_82 w ∧ (
 oM Tryz.prog (.buildSlice 22 1 #[(0, (.tmp 0))]) 22 [v103_101] (fun v104_102 w => C_82 w ∧ (
 callM Tryz.prog 127 #[v86_83, v97_100, v104_102] (fun v105_103 w => C_82 w ∧ (
 oM Tryz.prog (.fieldAddr 43 (.tmp 0) 4) 0 [v15_65] (fun v106_104 w => C_82 w ∧ (
 oM Tryz.prog (.store 3 (.tmp 0) (.tmp 1)) 0 [v106_104, v105_103] (fun _ w => C_82 w ∧ (
 oM Tryz.prog (.load 111 (.tmp 0)) 111 [v12_10] (fun v107_105 w =>
 oM Tryz.prog (.load 43 (.tmp 0)) 43 [v15_65] (fun v108_106 w =>
 callM Tryz.prog 107 #[v107_105, v108_106] (fun v109_107 w =>
 oM Tryz.prog (.binOp .eql 3 (.tmp 0) (.const (.int .i64 0)) 3) 4 [v109_107] (fun v111_108 w =>
 condM v111_108
 (oM Tryz.prog (.build 127 #[]) 127 [] (fun v112_109 w =>
 oM Tryz.prog (.store 127 (.tmp 0) (.tmp 1)) 0 [v10_4, v112_109] (fun _ w =>
 ∃ r_110, (do loadVar 127 (← asAddr v10_4) : Sem Value).run Tryz.prog w = .ok r_110 w ∧ K (.tuple #[r_110, (.int .i64 7)]) w) w) w)
 (heldM w (fun C_111 w => (((true : Bool) = true) ∧ (oH Tryz.prog (.load 111 (.tmp 0)) 111 [v12_10] C_111 (fun v113_112 =>
 pureH v22_8 C_111 (fun v114_113 =>
 oH Tryz.prog (.load 111 (.tmp 0)) 111 [v12_10] C_111 (fun v115_114 =>
 pureH v109_107 C_111 (fun v116_115 =>
 oH Tryz.prog (.fieldAddr 28 (.tmp 0) 1) 0 [v9_3] C_111 (fun v117_116 =>
 oH Tryz.prog (.load 3 (.tmp 0)) 3 [v117_116] C_111 (fun v118_117 =>
 oH Tryz.prog (.load 43 (.tmp 0)) 43 [v15_65] C_111 (fun v120_118 =>
 ∃ S_119 : World → World → Prop, ∀ w, C_111 w → (
 callM Tryz.prog 105 #[v115_114, v116_115, v118_117] (fun v119_120 w => C_111 w ∧ (
 oM Tryz.prog (.build 127 #[(0, (.tmp 0)), (1, (.tmp 1)), (2, (.tmp 2)), (3, (.tmp 3))]) 127 [v113_112, v114_113, v119_120, v120_118] (fun v121_121 w => C_111 w ∧ (
 oM Tryz.prog (.store 127 (.tmp 0) (.tmp 1)) 0 [v10_4, v121_121] (fun _ w => C_111 w ∧ (
 C_111 w ∧ (∃ r_122, (do loadVar 127 (← asAddr v10_4) : Sem Value).run Tryz.prog w = .ok r_122 w ∧ K (.tuple #[r_122, (.int .i64 0)]) w))) w)) w)) w))))))))))))) w) w) w) w)) w)) w)) w)) w)) w)) w)) w)) w)))))))))))))))))))) w)) w)) w)) w)) w)) w))))))))))))))) w))))))))))))))))))))))) w) w) w) w) w) w) w) w) w) w) w) w) w) w) w) w) w) w) w) w) w) w) w) w) w) w) w) w) w) w) w) w) w) w) w) w) w
theorem sh_82_eq (a0 : Value) (a1 : Value) (a2 : Value) (a3 : Value) (a4 : Value) (K : Value → World → Prop) (w : World) : sh_82 a0 a1 a2 a3 a4 K w = code Tryz.prog (fun i => bif Nat.beq i 4 then .mono [0, 1, 2, 3, 5, 6, 7, 9, 10, 11, 12, 13] [4, 8, 14, 15, 16] [17] else bif Nat.beq i 5 then .mono [0, 1, 2, 3, 4, 5, 7, 8, 9] [] [6, 10, 11, 12, 13, 14] else bif Nat.beq i 6 then .mono [0, 1, 2, 3, 4, 5, 6, 7, 8, 12, 13, 14, 15, 16] [] [9, 10, 11, 17, 18, 19, 20, 21] else bif Nat.beq i 10 then .mono [0, 1, 2, 3, 4, 5, 7] [] [6, 8, 9, 10] else 0) 122 (Tryz.f82.body.getD .skip) (slotsAt [a0, a1, a2, a3, a4]) (retK Tryz.prog [.cell 10 127, .tmp 11] K) w := by kernel_rfl
theorem sh_82_ok {a0 a1 a2 a3 a4 : Value} {K : Value → World → Prop} {w : World} (h : sh_82 a0 a1 a2 a3 a4 K w) : callM Tryz.prog 82 #[a0, a1, a2, a3, a4] K w :=
  calls_of_code (fun i => bif Nat.beq i 4 then .mono [0, 1, 2, 3, 5, 6, 7, 9, 10, 11, 12, 13] [4, 8, 14, 15, 16] [17] else bif Nat.beq i 5 then .mono [0, 1, 2, 3, 4, 5, 7, 8, 9] [] [6, 10, 11, 12, 13, 14] else bif Nat.beq i 6 then .mono [0, 1, 2, 3, 4, 5, 6, 7, 8, 12, 13, 14, 15, 16] [] [9, 10, 11, 17, 18, 19, 20, 21] else bif Nat.beq i 10 then .mono [0, 1, 2, 3, 4, 5, 7] [] [6, 8, 9, 10] else 0) (fn := Tryz.f82) (rs := [.cell 10 127, .tmp 11]) Tryz.func82 rfl rfl (by kernel_rfl) (Nat.le_of_ble_eq_true rfl) ((sh_82_eq a0 a1 a2 a3 a4 K w).mp h)
def sh_83 (a0 : Value) (a1 : Value) (a2 : Value) (a3 : Value) (a4 : Value) (a5 : Value) (K : Value → World → Prop) (w : World) : Prop :=
 oM Tryz.prog (.box 111 (.tmp 0)) 0 [a0] (fun v6_1 w =>
 oM Tryz.prog (.box 39 (.tmp 0)) 0 [a5] (fun v11_2 w =>
 heldM w (fun C_3 w => (((true : Bool) = true) ∧ (oH Tryz.prog (.load 111 (.tmp 0)) 111 [v6_1] C_3 (fun v13_4 =>
 pureH a4 C_3 (fun v14_5 =>
 oH Tryz.prog (.load 111 (.tmp 0)) 111 [v6_1] C_3 (fun v16_6 =>
 oH Tryz.prog (.load 111 (.tmp 0)) 111 [v6_1] C_3 (fun v17_7 =>
 pureH a1 C_3 (fun v18_8 =>
 pureH a3 C_3 (fun v19_9 =>
 oH Tryz.prog (.fieldAddr 39 (.tmp 0) 1) 0 [v11_2] C_3 (fun v21_10 =>
 oH Tryz.prog (.load 3 (.tmp 0)) 3 [v21_10] C_3 (fun v22_11 =>
 ∃ S_12 : World → World → Prop, ∃ R_13 : Value → World → Prop, (∀ v w w_1, S_12 w w_1 → R_13 v w → R_13 v w_1) ∧
 (∀ w, C_3 w → (callM Tryz.prog 77 #[v13_4, v14_5] (fun v w_1 => C_3 w_1 ∧ S_12 w w_1 ∧ R_13 v w_1) w)) ∧
 (∃ R_14 : Value → World → Prop, (∀ v w w_1, S_12 w w_1 → R_14 v w → R_14 v w_1) ∧
 (∀ w, C_3 w → (callM Tryz.prog 76 #[v17_7, v18_8, v19_9] (fun v w_1 => C_3 w_1 ∧ S_12 w w_1 ∧ R_14 v w_1) w)) ∧
 (∃ R_15 : Value → World → Prop, (∀ v w w_1, S_12 w w_1 → R_15 v w → R_15 v w_1) ∧
 (∀ w, C_3 w → (oM Tryz.prog (.buildSlice 22 1 #[(0, (.tmp 0))]) 22 [v22_11] (fun v w_1 => C_3 w_1 ∧ S_12 w w_1 ∧ R_15 v w_1) w)) ∧
 (∃ R_16 : Value → World → Prop, (∀ v w w_1, S_12 w w_1 → R_16 v w → R_16 v w_1) ∧
 (∀ w, C_3 w → ∀ v20_17, R_14 v20_17 w → ∀ v23_18, R_15 v23_18 w → (callM Tryz.prog 127 #[v16_6, v20_17, v23_18] (fun v w_1 => C_3 w_1 ∧ S_12 w w_1 ∧ R_16 v w_1) w)) ∧
 (∃ R_19 : Value → World → Prop, (∀ v w w_1, S_12 w w_1 → R_19 v w → R_19 v w_1) ∧
 (∀ w, C_3 w → ∀ v15_20, R_13 v15_20 w → ∀ v24_21, R_16 v24_21 w → (oM Tryz.prog (.binOp .eql 3 (.tmp 0) (.tmp 1) 3) 4 [v15_20, v24_21] (fun v w_1 => C_3 w_1 ∧ S_12 w w_1 ∧ R_19 v w_1) w)) ∧
 (∃ R_22 : Value → World → Prop, (∀ v w w_1, S_12 w w_1 → R_22 v w → R_22 v w_1) ∧
 (∀ w, C_3 w → ∀ v25_23, R_19 v25_23 w → (C_3 w ∧ S_12 w w ∧ R_22 v25_23 w)) ∧
 (∃ R_24 : Value → World → Prop, (∀ v w w_1, S_12 w w_1 → R_24 v w → R_24 v w_1) ∧
 (∀ w, C_3 w → ∀ v26_25, R_22 v26_25 w → (gdM (gd v26_25 true) (oM Tryz.prog (.load 111 (.tmp 0)) 111 [v6_1]) (fun v w_1 => C_3 w_1 ∧ S_12 w w_1 ∧ R_24 v w_1) w)) ∧
 (∃ R_26 : Value → World → Prop, (∀ v w w_1, S_12 w w_1 → R_26 v w → R_26 v w_1) ∧
 (∀ w, C_3 w → ∀ v26_27, R_22 v26_27 w → (gdM (gd v26_27 true) (pureM a2) (fun v w_1 => C_3 w_1 ∧ S_12 w w_1 ∧ R_26 v w_1) w)) ∧
 (∃ R_28 : Value → World → Prop, (∀ v w w_1, S_12 w w_1 → R_28 v w → R_28 v w_1) ∧
 (∀ w, C_3 w → ∀ v26_29, R_22 v26_29 w → (gdM (gd v26_29 true) (pureM a4) (fun v w_1 => C_3 w_1 ∧ S_12 w w_1 ∧ R_28 v w_1) w)) ∧
 (∃ R_30 : Value → World → Prop, (∀ v w w_1, S_12 w w_1 → R_30 v w → R_30 v w_1) ∧
 (∀ w, C_3 w → ∀ v26_31, R_22 v26_31 w → ∀ v27_32, R_24 v27_32 w → ∀ v28_33, R_26 v28_33 w → ∀ v29_34, R_28 v29_34 w → (gdM (gd v26_31 true) (callM Tryz.prog 76 #[v27_32, v28_33, v29_34]) (fun v w_1 => C_3 w_1 ∧ S_12 w w_1 ∧ R_30 v w_1) w)) ∧
 (∃ R_35 : Value → World → Prop, (∀ v w w_1, S_12 w w_1 → R_35 v w → R_35 v w_1) ∧
 (∀ w, C_3 w → ∀ v26_36, R_22 v26_36 w → (gdM (gd v26_36 true) (oM Tryz.prog (.load 111 (.tmp 0)) 111 [v6_1]) (fun v w_1 => C_3 w_1 ∧ S_12 w w_1 ∧ R_35 v w_1) w)) ∧
 (∃ R_37 : Value → World → Prop, (∀ v w w_1, S_12 w w_1 → R_37 v w → R_37 v w_1) ∧
 (∀ w, C_3 w → ∀ v26_38, R_22 v26_38 w → (gdM (gd v26_38 true) (oM Tryz.prog (.load 111 (.tmp 0)) 111 [v6_1]) (fun v w_1 => C_3 w_1 ∧ S_12 w w_1 ∧ R_37 v w_1) w)) ∧
 (∃ R_39 : Value → World → Prop, (∀ v w w_1, S_12 w w_1 → R_39 v w → R_39 v w_1) ∧
 (∀ w, C_3 w → ∀ v26_40, R_22 v26_40 w → (gdM (gd v26_40 true) (oM Tryz.prog (.fieldAddr 39 (.tmp 0) 0) 0 [v11_2]) (fun v w_1 => C_3 w_1 ∧ S_12 w w_1 ∧ R_39 v w_1) w)) ∧
 (∃ R_41 : Value → World → Prop, (∀ v w w_1, S_12 w w_1 → R_41 v w → R_41 v w_1) ∧
 (∀ w, C_3 w → ∀ v26_42, R_22 v26_42 w → ∀ v33_43, R_39 v33_43 w → (gdM (gd v26_42 true) (oM Tryz.prog (.load 3 (.tmp 0)) 3 [v33_43]) (fun v w_1 => C_3 w_1 ∧ S_12 w w_1 ∧ R_41 v w_1) w)) ∧
 (∃ R_44 : Value → World → Prop, (∀ v w w_1, S_12 w w_1 → R_44 v w → R_44 v w_1) ∧
 (∀ w, C_3 w → ∀ v26_45, R_22 v26_45 w → (gdM (gd v26_45 true) (pureM a3) (fun v w_1 => C_3 w_1 ∧ S_12 w w_1 ∧ R_44 v w_1) w)) ∧
 (∃ R_46 : Value → World → Prop, (∀ v w w_1, S_12 w w_1 → R_46 v w → R_46 v w_1) ∧
 (∀ w, C_3 w → ∀ v26_47, R_22 v26_47 w → ∀ v32_48, R_37 v32_48 w → ∀ v34_49, R_41 v34_49 w → ∀ v35_50, R_44 v35_50 w → (gdM (gd v26_47 true) (callM Tryz.prog 76 #[v32_48, v34_49, v35_50]) (fun v w_1 => C_3 w_1 ∧ S_12 w w_1 ∧ R_46 v w_1) w)) ∧
 (∃ R_51 : Value → World → Prop, (∀ v w w_1, S_12 w w_1 → R_51 v w → R_51 v w_1) ∧
 (∀ w, C_3 w → ∀ v26_52, R_22 v26_52 w → (gdM (gd v26_52 true) (oM Tryz.prog (.fieldAddr 39 (.tmp 0) 2) 0 [v11_2]) (fun v w_1 => C_3 w_1 ∧ S_12 w w_1 ∧ R_51 v w_1) w)) ∧
 (∃ R_53 : Value → World → Prop, (∀ v w w_1, S_12 w w_1 → R_53 v w → R_53 v w_1) ∧
 (∀ w, C_3 w → ∀ v26_54, R_22 v26_54 w → ∀ v37_55, R_51 v37_55 w → (gdM (gd v26_54 true) (oM Tryz.prog (.load 3 (.tmp 0)) 3 [v37_55]) (fun v w_1 => C_3 w_1 ∧ S_12 w w_1 ∧ R_53 v w_1) w)) ∧
 (∃ R_56 : Value → World → Prop, (∀ v w w_1, S_12 w w_1 → R_56 v w → R_56 v w_1) ∧
 (∀ w, C_3 w → ∀ v26_57, R_22 v26_57 w → ∀ v38_58, R_53 v38_58 w → (gdM (gd v26_57 true) (oM Tryz.prog (.buildSlice 22 1 #[(0, (.tmp 0))]) 22 [v38_58]) (fun v w_1 => C_3 w_1 ∧ S_12 w w_1 ∧ R_56 v w_1) w)) ∧
 (∀ w, C_3 w → ∀ v15_59, R_13 v15_59 w → ∀ v20_60, R_14 v20_60 w → ∀ v23_61, R_15 v23_61 w → ∀ v24_62, R_16 v24_62 w → ∀ v25_63, R_19 v25_63 w → ∀ v26_64, R_22 v26_64 w → ∀ v27_65, R_24 v27_65 w → ∀ v28_66, R_26 v28_66 w → ∀ v29_67, R_28 v29_67 w → ∀ v30_68, R_30 v30_68 w → ∀ v31_69, R_35 v31_69 w → ∀ v32_70, R_37 v32_70 w → ∀ v33_71, R_39 v33_71 w → ∀ v34_72, R_41 v34_72 w → ∀ v35_73, R_44 v35_73 w → ∀ v36_74, R_46 v36_74 w → ∀ v37_75, R_51 v37_75 w → ∀ v38_76, R_53 v38_76 w → ∀ v39_77, R_56 v39_77 w → (
 gdM (gd v26_64 true) (callM Tryz.prog 127 #[v31_69, v36_74, v39_77]) (fun v40_78 w => C_3 w ∧ (
 gdM (gd v26_64 true) (oM Tryz.prog (.binOp .eql 3 (.tmp 0) (.tmp 1) 3) 4 [v30_68, v40_78]) (fun v41_79 w => C_3 w ∧ (
 oM Tryz.prog (.pick (.tmp 0) (.tmp 1) (.tmp 2)) 4 [v26_64, v41_79, (.bool false)] (fun v42_80 w => C_3 w ∧ (
 C_3 w ∧ (K v42_80 w))) w)) w)) w)))))))))))))))))))))))))))))))) w) w
theorem sh_83_eq (a0 : Value) (a1 : Value) (a2 : Value) (a3 : Value) (a4 : Value) (a5 : Value) (K : Value → World → Prop) (w : World) : sh_83 a0 a1 a2 a3 a4 a5 K w = code Tryz.prog (fun _ => .mono [0, 1, 3, 4, 5, 6, 8, 9] [2, 7, 10, 11, 12, 13, 14, 15, 16, 17, 18, 19, 20, 21, 22, 23, 24, 25, 26] [27, 28, 29, 30]) 43 (Tryz.f83.body.getD .skip) (slotsAt [a0, a1, a2, a3, a4, a5]) (retK Tryz.prog [.tmp 12] K) w := by kernel_rfl
theorem sh_83_ok {a0 a1 a2 a3 a4 a5 : Value} {K : Value → World → Prop} {w : World} (h : sh_83 a0 a1 a2 a3 a4 a5 K w) : callM Tryz.prog 83 #[a0, a1, a2, a3, a4, a5] K w :=
  calls_of_code (fun _ => .mono [0, 1, 3, 4, 5, 6, 8, 9] [2, 7, 10, 11, 12, 13, 14, 15, 16, 17, 18, 19, 20, 21, 22, 23, 24, 25, 26] [27, 28, 29, 30]) (fn := Tryz.f83) (rs := [.tmp 12]) Tryz.func83 rfl rfl (by kernel_rfl) (Nat.le_of_ble_eq_true rfl) ((sh_83_eq a0 a1 a2 a3 a4 a5 K w).mp h)
def sh_18 (a0 : Value) (a1 : Value) (a2 : Value) (a3 : Value) (a4 : Value) (K : Value → World → Prop) (w : World) : Prop :=
 oM Tryz.prog (.box 35 (.tmp 0)) 0 [a0] (fun v5_1 w =>
 oM Tryz.prog (.box 39 (.tmp 0)) 0 [a3] (fun v8_2 w =>
 oM Tryz.prog (.box 28 (.tmp 0)) 0 [a4] (fun v9_3 w =>
 oM Tryz.prog (.load 35 (.tmp 0)) 35 [v5_1] (fun v15_4 w =>
 oM Tryz.prog (.load 39 (.tmp 0)) 39 [v8_2] (fun v18_5 w =>
 oM Tryz.prog (.load 28 (.tmp 0)) 28 [v9_3] (fun v19_6 w =>
 callM Tryz.prog 82 #[v15_4, a1, a2, v18_5, v19_6] (fun v20_7 w =>
 oM Tryz.prog (.extract (.tmp 0) 0) 127 [v20_7] (fun v21_8 w =>
 oM Tryz.prog (.extract (.tmp 0) 1) 50 [v20_7] (fun v22_9 w =>
 oM Tryz.prog (.alloc 127) 0 [] (fun v12_10 w =>
 oM Tryz.prog (.store 127 (.tmp 0) (.tmp 1)) 0 [v12_10, v21_8] (fun _ w =>
 oM Tryz.prog (.fieldAddr 127 (.tmp 0) 2) 0 [v12_10] (fun v23_11 w =>
 oM Tryz.prog (.load 3 (.tmp 0)) 3 [v23_11] (fun v24_12 w =>
 K (.tuple #[v24_12, v22_9]) w) w) w) w) w) w) w) w) w) w) w) w) w) w
theorem sh_18_eq (a0 : Value) (a1 : Value) (a2 : Value) (a3 : Value) (a4 : Value) (K : Value → World → Prop) (w : World) : sh_18 a0 a1 a2 a3 a4 K w = code Tryz.prog (fun _ => 0) 26 (Tryz.f18.body.getD .skip) (slotsAt [a0, a1, a2, a3, a4]) (retK Tryz.prog [.tmp 10, .tmp 11] K) w := by kernel_rfl
theorem sh_18_ok {a0 a1 a2 a3 a4 : Value} {K : Value → World → Prop} {w : World} (h : sh_18 a0 a1 a2 a3 a4 K w) : callM Tryz.prog 18 #[a0, a1, a2, a3, a4] K w :=
  calls_of_code (fun _ => 0) (fn := Tryz.f18) (rs := [.tmp 10, .tmp 11]) Tryz.func18 rfl rfl (by kernel_rfl) (Nat.le_of_ble_eq_true rfl) ((sh_18_eq a0 a1 a2 a3 a4 K w).mp h)
def sh_20 (a0 : Value) (a1 : Value) (a2 : Value) (a3 : Value) (a4 : Value) (a5 : Value) (K : Value → World → Prop) (w : World) : Prop :=
 oM Tryz.prog (.box 35 (.tmp 0)) 0 [a0] (fun v6_1 w =>
 oM Tryz.prog (.box 39 (.tmp 0)) 0 [a3] (fun v9_2 w =>
 oM Tryz.prog (.box 28 (.tmp 0)) 0 [a4] (fun v10_3 w =>
 oM Tryz.prog (.alloc 43) 0 [] (fun v12_4 w =>
 oM Tryz.prog (.load 35 (.tmp 0)) 35 [v6_1] (fun v17_5 w =>
 oM Tryz.prog (.load 39 (.tmp 0)) 39 [v9_2] (fun v20_6 w =>
 oM Tryz.prog (.load 28 (.tmp 0)) 28 [v10_3] (fun v21_7 w =>
 callM Tryz.prog 82 #[v17_5, a1, a2, v20_6, v21_7] (fun v22_8 w =>
 oM Tryz.prog (.extract (.tmp 0) 0) 127 [v22_8] (fun v23_9 w =>
 oM Tryz.prog (.extract (.tmp 0) 1) 50 [v22_8] (fun v24_10 w =>
 oM Tryz.prog (.alloc 127) 0 [] (fun v14_11 w =>
 oM Tryz.prog (.store 127 (.tmp 0) (.tmp 1)) 0 [v14_11, v23_9] (fun _ w =>
 oM Tryz.prog (.binOp .neq 50 (.tmp 0) (.const (.int .i64 0)) 50) 4 [v24_10] (fun v27_12 w =>
 condM v27_12
 (oM Tryz.prog (.build 43 #[]) 43 [] (fun v28_13 w =>
 oM Tryz.prog (.store 43 (.tmp 0) (.tmp 1)) 0 [v12_4, v28_13] (fun _ w =>
 ∃ r_14, (do loadVar 43 (← asAddr v12_4) : Sem Value).run Tryz.prog w = .ok r_14 w ∧ K (.tuple #[r_14, v24_10]) w) w) w)
 (oM Tryz.prog (.fieldAddr 127 (.tmp 0) 0) 0 [v14_11] (fun v31_15 w =>
 oM Tryz.prog (.load 111 (.tmp 0)) 111 [v31_15] (fun v32_16 w =>
 oM Tryz.prog (.buildSlice 22 1 #[(0, (.tmp 0))]) 22 [a5] (fun v34_17 w =>
 callM Tryz.prog 72 #[v32_16, (.int .i64 0), v34_17] (fun v35_18 w =>
 oM Tryz.prog (.unOp .not 4 (.tmp 0)) 4 [v35_18] (fun v36_19 w =>
 condM v36_19
 (oM Tryz.prog (.build 43 #[]) 43 [] (fun v37_20 w =>
 oM Tryz.prog (.store 43 (.tmp 0) (.tmp 1)) 0 [v12_4, v37_20] (fun _ w =>
 ∃ r_21, (do loadVar 43 (← asAddr v12_4) : Sem Value).run Tryz.prog w = .ok r_21 w ∧ K (.tuple #[r_21, (.int .i64 1)]) w) w) w)
 (oM Tryz.prog (.fieldAddr 127 (.tmp 0) 0) 0 [v14_11] (fun v39_22 w =>
 oM Tryz.prog (.load 111 (.tmp 0)) 111 [v39_22] (fun v40_23 w =>
 oM Tryz.prog (.fieldAddr 127 (.tmp 0) 1) 0 [v14_11] (fun v42_24 w =>
 oM Tryz.prog (.load 3 (.tmp 0)) 3 [v42_24] (fun v43_25 w =>
 oM Tryz.prog (.fieldAddr 127 (.tmp 0) 2) 0 [v14_11] (fun v44_26 w =>
 oM Tryz.prog (.load 3 (.tmp 0)) 3 [v44_26] (fun v45_27 w =>
 oM Tryz.prog (.load 39 (.tmp 0)) 39 [v9_2] (fun v47_28 w =>
 callM Tryz.prog 83 #[v40_23, a1, v43_25, v45_27, a5, v47_28] (fun v48_29 w =>
 oM Tryz.prog (.unOp .not 4 (.tmp 0)) 4 [v48_29] (fun v49_30 w =>
 condM v49_30
 (oM Tryz.prog (.build 43 #[]) 43 [] (fun v50_31 w =>
 oM Tryz.prog (.store 43 (.tmp 0) (.tmp 1)) 0 [v12_4, v50_31] (fun _ w =>
 ∃ r_32, (do loadVar 43 (← asAddr v12_4) : Sem Value).run Tryz.prog w = .ok r_32 w ∧ K (.tuple #[r_32, (.int .i64 14)]) w) w) w)
 (heldM w (fun C_33 w => (((true : Bool) = true) ∧ (oH Tryz.prog (.fieldAddr 127 (.tmp 0) 0) 0 [v14_11] C_33 (fun v51_34 =>
 oH Tryz.prog (.load 111 (.tmp 0)) 111 [v51_34] C_33 (fun v52_35 =>
 oH Tryz.prog (.fieldAddr 127 (.tmp 0) 0) 0 [v14_11] C_33 (fun v53_36 =>
 oH Tryz.prog (.load 111 (.tmp 0)) 111 [v53_36] C_33 (fun v54_37 =>
 pureH a5 C_33 (fun v55_38 =>
 oH Tryz.prog (.fieldAddr 28 (.tmp 0) 1) 0 [v10_3] C_33 (fun v56_39 =>
 oH Tryz.prog (.load 3 (.tmp 0)) 3 [v56_39] C_33 (fun v57_40 =>
 oH Tryz.prog (.fieldAddr 28 (.tmp 0) 2) 0 [v10_3] C_33 (fun v60_41 =>
 oH Tryz.prog (.load 3 (.tmp 0)) 3 [v60_41] C_33 (fun v61_42 =>
 ∃ S_43 : World → World → Prop, ∀ w, C_33 w → (
 oM Tryz.prog (.buildSlice 22 1 #[(0, (.tmp 0))]) 22 [v57_40] (fun v58_44 w => C_33 w ∧ (
 callM Tryz.prog 75 #[v54_37, v55_38, v58_44] (fun v59_45 w => C_33 w ∧ (
 callM Tryz.prog 74 #[v52_35, v59_45, v61_42] (fun v62_46 w => C_33 w ∧ (
 oM Tryz.prog (.fieldAddr 127 (.tmp 0) 3) 0 [v14_11] (fun v63_47 w => C_33 w ∧ (
 oM Tryz.prog (.fieldAddr 43 (.tmp 0) 5) 0 [v63_47] (fun v64_48 w => C_33 w ∧ (
 oM Tryz.prog (.store 3 (.tmp 0) (.tmp 1)) 0 [v64_48, v62_46] (fun _ w => C_33 w ∧ (
 oM Tryz.prog (.fieldAddr 127 (.tmp 0) 3) 0 [v14_11] (fun v65_49 w =>
 oM Tryz.prog (.load 43 (.tmp 0)) 43 [v65_49] (fun v66_50 w =>
 oM Tryz.prog (.store 43 (.tmp 0) (.tmp 1)) 0 [v12_4, v66_50] (fun _ w =>
 ∃ r_51, (do loadVar 43 (← asAddr v12_4) : Sem Value).run Tryz.prog w = .ok r_51 w ∧ K (.tuple #[r_51, (.int .i64 0)]) w) w) w) w)) w)) w)) w)) w)) w)) w))))))))))))))) w) w) w) w) w) w) w) w) w)) w) w) w) w) w)) w) w) w) w) w) w) w) w) w) w) w) w) w
theorem sh_20_eq (a0 : Value) (a1 : Value) (a2 : Value) (a3 : Value) (a4 : Value) (a5 : Value) (K : Value → World → Prop) (w : World) : sh_20 a0 a1 a2 a3 a4 a5 K w = code Tryz.prog (fun _ => .mono [0, 1, 2, 3, 4, 5, 6, 9, 10] [] [7, 8, 11, 12, 13, 14]) 67 (Tryz.f20.body.getD .skip) (slotsAt [a0, a1, a2, a3, a4, a5]) (retK Tryz.prog [.cell 12 43, .tmp 13] K) w := by kernel_rfl
theorem sh_20_ok {a0 a1 a2 a3 a4 a5 : Value} {K : Value → World → Prop} {w : World} (h : sh_20 a0 a1 a2 a3 a4 a5 K w) : callM Tryz.prog 20 #[a0, a1, a2, a3, a4, a5] K w :=
  calls_of_code (fun _ => .mono [0, 1, 2, 3, 4, 5, 6, 9, 10] [] [7, 8, 11, 12, 13, 14]) (fn := Tryz.f20) (rs := [.cell 12 43, .tmp 13]) Tryz.func20 rfl rfl (by kernel_rfl) (Nat.le_of_ble_eq_true rfl) ((sh_20_eq a0 a1 a2 a3 a4 a5 K w).mp h)
end Go.Proofs
set_option linter.unusedVariables false
set_option maxRecDepth 100000
namespace Go.Proofs
open Go.Sh
def sh_93 (a0 : Value) (a1 : Value) (a2 : Value) (K : Value → World → Prop) (w : World) : Prop :=
 callM Tryz.prog 152 #[a0] (fun v8_1 w =>
 oM Tryz.prog (.unOp .not 4 (.tmp 0)) 4 [v8_1] (fun v9_2 w =>
 condM v9_2
 (K (.int .i64 0) w)
 (callM Tryz.prog 153 #[a0, a1] (fun v12_3 w =>
 callM Tryz.prog 153 #[a0, a2] (fun v15_4 w =>
 oM Tryz.prog (.binOp .add 3 (.tmp 0) (.tmp 1) 3) 3 [v12_3, v15_4] (fun v16_5 w =>
 oM Tryz.prog (.binOp .rem 3 (.tmp 0) (.tmp 1) 3) 3 [v16_5, a0] (fun v18_6 w =>
 K v18_6 w) w) w) w) w)) w) w
theorem sh_93_eq (a0 : Value) (a1 : Value) (a2 : Value) (K : Value → World → Prop) (w : World) : sh_93 a0 a1 a2 K w = code Tryz.prog (fun _ => 0) 19 (Tryz.f93.body.getD .skip) (slotsAt [a0, a1, a2]) (retK Tryz.prog [.tmp 6] K) w := by kernel_rfl
theorem sh_93_ok {a0 a1 a2 : Value} {K : Value → World → Prop} {w : World} (h : sh_93 a0 a1 a2 K w) : callM Tryz.prog 93 #[a0, a1, a2] K w :=
  calls_of_code (fun _ => 0) (fn := Tryz.f93) (rs := [.tmp 6]) Tryz.func93 rfl rfl (by kernel_rfl) (Nat.le_of_ble_eq_true rfl) ((sh_93_eq a0 a1 a2 K w).mp h)
def sh_112 (a0 : Value) (a1 : Value) (a2 : Value) (K : Value → World → Prop) (w : World) : Prop :=
 callM Tryz.prog 152 #[a0] (fun v8_1 w =>
 oM Tryz.prog (.unOp .not 4 (.tmp 0)) 4 [v8_1] (fun v9_2 w =>
 condM v9_2
 (K (.int .i64 0) w)
 (callM Tryz.prog 153 #[a0, a1] (fun v12_3 w =>
 oM Tryz.prog (.binOp .add 3 (.tmp 0) (.tmp 1) 3) 3 [v12_3, a0] (fun v14_4 w =>
 callM Tryz.prog 153 #[a0, a2] (fun v17_5 w =>
 oM Tryz.prog (.binOp .sub 3 (.tmp 0) (.tmp 1) 3) 3 [v14_4, v17_5] (fun v18_6 w =>
 oM Tryz.prog (.binOp .rem 3 (.tmp 0) (.tmp 1) 3) 3 [v18_6, a0] (fun v20_7 w =>
 K v20_7 w) w) w) w) w) w)) w) w
theorem sh_112_eq (a0 : Value) (a1 : Value) (a2 : Value) (K : Value → World → Prop) (w : World) : sh_112 a0 a1 a2 K w = code Tryz.prog (fun _ => 0) 21 (Tryz.f112.body.getD .skip) (slotsAt [a0, a1, a2]) (retK Tryz.prog [.tmp 6] K) w := by kernel_rfl
theorem sh_112_ok {a0 a1 a2 : Value} {K : Value → World → Prop} {w : World} (h : sh_112 a0 a1 a2 K w) : callM Tryz.prog 112 #[a0, a1, a2] K w :=
  calls_of_code (fun _ => 0) (fn := Tryz.f112) (rs := [.tmp 6]) Tryz.func112 rfl rfl (by kernel_rfl) (Nat.le_of_ble_eq_true rfl) ((sh_112_eq a0 a1 a2 K w).mp h)
def sh_147 (a0 : Value) (a1 : Value) (a2 : Value) (K : Value → World → Prop) (w : World) : Prop :=
 oM Tryz.prog (.box 33 (.tmp 0)) 0 [a0] (fun v3_1 w =>
 oM Tryz.prog (.fieldAddr 33 (.tmp 0) 0) 0 [v3_1] (fun v7_2 w =>
 oM Tryz.prog (.load 3 (.tmp 0)) 3 [v7_2] (fun v8_3 w =>
 callM Tryz.prog 152 #[v8_3] (fun v9_4 w =>
 oM Tryz.prog (.unOp .not 4 (.tmp 0)) 4 [v9_4] (fun v10_5 w =>
 gdM (gd v10_5 false) (oM Tryz.prog (.fieldAddr 33 (.tmp 0) 1) 0 [v3_1]) (fun v12_6 w =>
 gdM (gd v10_5 false) (oM Tryz.prog (.load 3 (.tmp 0)) 3 [v12_6]) (fun v13_7 w =>
 gdM (gd v10_5 false) (callM Tryz.prog 152 #[v13_7]) (fun v14_8 w =>
 gdM (gd v10_5 false) (oM Tryz.prog (.unOp .not 4 (.tmp 0)) 4 [v14_8]) (fun v15_9 w =>
 oM Tryz.prog (.pick (.tmp 0) (.tmp 1) (.tmp 2)) 4 [v10_5, (.bool true), v15_9] (fun v16_10 w =>
 condM v16_10
 (K (.int .i64 0) w)
 (heldM w (fun C_11 w => (((true : Bool) = true) ∧ (oH Tryz.prog (.fieldAddr 33 (.tmp 0) 0) 0 [v3_1] C_11 (fun v17_12 =>
 oH Tryz.prog (.load 3 (.tmp 0)) 3 [v17_12] C_11 (fun v18_13 =>
 pureH a1 C_11 (fun v19_14 =>
 oH Tryz.prog (.fieldAddr 33 (.tmp 0) 1) 0 [v3_1] C_11 (fun v20_15 =>
 oH Tryz.prog (.load 3 (.tmp 0)) 3 [v20_15] C_11 (fun v21_16 =>
 pureH a2 C_11 (fun v22_17 =>
 ∃ S_18 : World → World → Prop, ∀ w, C_11 w → (
 callM Tryz.prog 153 #[v21_16, v22_17] (fun v23_19 w => C_11 w ∧ (
 callM Tryz.prog 186 #[v18_13, v19_14, v23_19] (fun v24_20 w => C_11 w ∧ (
 C_11 w ∧ (K v24_20 w))) w)) w)))))))))))) w) w) w) w) w) w) w) w) w) w
theorem sh_147_eq (a0 : Value) (a1 : Value) (a2 : Value) (K : Value → World → Prop) (w : World) : sh_147 a0 a1 a2 K w = code Tryz.prog (fun _ => .mono [0, 1, 2, 3, 4, 5] [] [6, 7, 8]) 25 (Tryz.f147.body.getD .skip) (slotsAt [a0, a1, a2]) (retK Tryz.prog [.tmp 6] K) w := by kernel_rfl
theorem sh_147_ok {a0 a1 a2 : Value} {K : Value → World → Prop} {w : World} (h : sh_147 a0 a1 a2 K w) : callM Tryz.prog 147 #[a0, a1, a2] K w :=
  calls_of_code (fun _ => .mono [0, 1, 2, 3, 4, 5] [] [6, 7, 8]) (fn := Tryz.f147) (rs := [.tmp 6]) Tryz.func147 rfl rfl (by kernel_rfl) (Nat.le_of_ble_eq_true rfl) ((sh_147_eq a0 a1 a2 K w).mp h)
def sh_148 (a0 : Value) (K : Value → World → Prop) (w : World) : Prop :=
 oM Tryz.prog (.box 33 (.tmp 0)) 0 [a0] (fun v1_1 w =>
 oM Tryz.prog (.fieldAddr 33 (.tmp 0) 1) 0 [v1_1] (fun v3_2 w =>
 oM Tryz.prog (.load 3 (.tmp 0)) 3 [v3_2] (fun v4_3 w =>
 oM Tryz.prog (.binOp .lss 3 (.tmp 0) (.tmp 1) 3) 4 [v4_3, (.int .i64 5)] (fun v5_4 w =>
 gdM (gd v5_4 false) (oM Tryz.prog (.fieldAddr 33 (.tmp 0) 1) 0 [v1_1]) (fun v7_5 w =>
 gdM (gd v5_4 false) (oM Tryz.prog (.load 3 (.tmp 0)) 3 [v7_5]) (fun v8_6 w =>
 gdM (gd v5_4 false) (oM Tryz.prog (.binOp .geq 3 (.tmp 0) (.tmp 1) 3) 4 [v8_6, (.int .i64 1152921504606846976)]) (fun v9_7 w =>
 oM Tryz.prog (.pick (.tmp 0) (.tmp 1) (.tmp 2)) 4 [v5_4, (.bool true), v9_7] (fun v10_8 w =>
 gdM (gd v10_8 false) (oM Tryz.prog (.fieldAddr 33 (.tmp 0) 0) 0 [v1_1]) (fun v12_9 w =>
 gdM (gd v10_8 false) (oM Tryz.prog (.load 3 (.tmp 0)) 3 [v12_9]) (fun v13_10 w =>
 gdM (gd v10_8 false) (oM Tryz.prog (.fieldAddr 33 (.tmp 0) 1) 0 [v1_1]) (fun v14_11 w =>
 gdM (gd v10_8 false) (oM Tryz.prog (.load 3 (.tmp 0)) 3 [v14_11]) (fun v15_12 w =>
 gdM (gd v10_8 false) (oM Tryz.prog (.binOp .mul 3 (.tmp 0) (.tmp 1) 3) 3 [(.int .i64 2), v15_12]) (fun v16_13 w =>
 gdM (gd v10_8 false) (oM Tryz.prog (.binOp .add 3 (.tmp 0) (.tmp 1) 3) 3 [v16_13, (.int .i64 1)]) (fun v17_14 w =>
 gdM (gd v10_8 false) (oM Tryz.prog (.binOp .neq 3 (.tmp 0) (.tmp 1) 3) 4 [v13_10, v17_14]) (fun v18_15 w =>
 oM Tryz.prog (.pick (.tmp 0) (.tmp 1) (.tmp 2)) 4 [v10_8, (.bool true), v18_15] (fun v19_16 w =>
 gdM (gd v19_16 false) (oM Tryz.prog (.fieldAddr 33 (.tmp 0) 0) 0 [v1_1]) (fun v21_17 w =>
 gdM (gd v19_16 false) (oM Tryz.prog (.load 3 (.tmp 0)) 3 [v21_17]) (fun v22_18 w =>
 gdM (gd v19_16 false) (oM Tryz.prog (.binOp .geq 3 (.tmp 0) (.tmp 1) 3) 4 [v22_18, (.int .i64 2305843009213693952)]) (fun v23_19 w =>
 oM Tryz.prog (.pick (.tmp 0) (.tmp 1) (.tmp 2)) 4 [v19_16, (.bool true), v23_19] (fun v24_20 w =>
 gdM (gd v24_20 false) (oM Tryz.prog (.fieldAddr 33 (.tmp 0) 2) 0 [v1_1]) (fun v26_21 w =>
 gdM (gd v24_20 false) (oM Tryz.prog (.load 3 (.tmp 0)) 3 [v26_21]) (fun v27_22 w =>
 gdM (gd v24_20 false) (oM Tryz.prog (.binOp .lss 3 (.tmp 0) (.tmp 1) 3) 4 [v27_22, (.int .i64 2)]) (fun v28_23 w =>
 oM Tryz.prog (.pick (.tmp 0) (.tmp 1) (.tmp 2)) 4 [v24_20, (.bool true), v28_23] (fun v29_24 w =>
 gdM (gd v29_24 false) (oM Tryz.prog (.fieldAddr 33 (.tmp 0) 2) 0 [v1_1]) (fun v31_25 w =>
 gdM (gd v29_24 false) (oM Tryz.prog (.load 3 (.tmp 0)) 3 [v31_25]) (fun v32_26 w =>
 gdM (gd v29_24 false) (oM Tryz.prog (.fieldAddr 33 (.tmp 0) 0) 0 [v1_1]) (fun v33_27 w =>
 gdM (gd v29_24 false) (oM Tryz.prog (.load 3 (.tmp 0)) 3 [v33_27]) (fun v34_28 w =>
 gdM (gd v29_24 false) (oM Tryz.prog (.binOp .geq 3 (.tmp 0) (.tmp 1) 3) 4 [v32_26, v34_28]) (fun v35_29 w =>
 oM Tryz.prog (.pick (.tmp 0) (.tmp 1) (.tmp 2)) 4 [v29_24, (.bool true), v35_29] (fun v36_30 w =>
 condM v36_30
 (K (.bool false) w)
 (oM Tryz.prog (.fieldAddr 33 (.tmp 0) 1) 0 [v1_1] (fun v37_31 w =>
 oM Tryz.prog (.load 3 (.tmp 0)) 3 [v37_31] (fun v38_32 w =>
 callM Tryz.prog 187 #[v38_32] (fun v39_33 w =>
 gdM (gd v39_33 true) (oM Tryz.prog (.fieldAddr 33 (.tmp 0) 0) 0 [v1_1]) (fun v41_34 w =>
 gdM (gd v39_33 true) (oM Tryz.prog (.load 3 (.tmp 0)) 3 [v41_34]) (fun v42_35 w =>
 gdM (gd v39_33 true) (callM Tryz.prog 187 #[v42_35]) (fun v43_36 w =>
 oM Tryz.prog (.pick (.tmp 0) (.tmp 1) (.tmp 2)) 4 [v39_33, v43_36, (.bool false)] (fun v44_37 w =>
 gdM (gd v44_37 true) (oM Tryz.prog (.fieldAddr 33 (.tmp 0) 0) 0 [v1_1]) (fun v46_38 w =>
 gdM (gd v44_37 true) (oM Tryz.prog (.load 3 (.tmp 0)) 3 [v46_38]) (fun v47_39 w =>
 gdM (gd v44_37 true) (oM Tryz.prog (.fieldAddr 33 (.tmp 0) 2) 0 [v1_1]) (fun v48_40 w =>
 gdM (gd v44_37 true) (oM Tryz.prog (.load 3 (.tmp 0)) 3 [v48_40]) (fun v49_41 w =>
 gdM (gd v44_37 true) (oM Tryz.prog (.fieldAddr 33 (.tmp 0) 1) 0 [v1_1]) (fun v50_42 w =>
 gdM (gd v44_37 true) (oM Tryz.prog (.load 3 (.tmp 0)) 3 [v50_42]) (fun v51_43 w =>
 gdM (gd v44_37 true) (callM Tryz.prog 186 #[v47_39, v49_41, v51_43]) (fun v52_44 w =>
 gdM (gd v44_37 true) (oM Tryz.prog (.binOp .eql 3 (.tmp 0) (.const (.int .i64 1)) 3) 4 [v52_44]) (fun v53_45 w =>
 oM Tryz.prog (.pick (.tmp 0) (.tmp 1) (.tmp 2)) 4 [v44_37, v53_45, (.bool false)] (fun v54_46 w =>
 K v54_46 w) w) w) w) w) w) w) w) w) w) w) w) w) w) w) w) w)) w) w) w) w) w) w) w) w) w) w) w) w) w) w) w) w) w) w) w) w) w) w) w) w) w) w) w) w) w) w
theorem sh_148_eq (a0 : Value) (K : Value → World → Prop) (w : World) : sh_148 a0 K w = code Tryz.prog (fun _ => 0) 55 (Tryz.f148.body.getD .skip) (slotsAt [a0]) (retK Tryz.prog [.tmp 2] K) w := by kernel_rfl
theorem sh_148_ok {a0 : Value} {K : Value → World → Prop} {w : World} (h : sh_148 a0 K w) : callM Tryz.prog 148 #[a0] K w :=
  calls_of_code (fun _ => 0) (fn := Tryz.f148) (rs := [.tmp 2]) Tryz.func148 rfl rfl (by kernel_rfl) (Nat.le_of_ble_eq_true rfl) ((sh_148_eq a0 K w).mp h)
def sh_149 (a0 : Value) (a1 : Value) (K : Value → World → Prop) (w : World) : Prop :=
 oM Tryz.prog (.box 33 (.tmp 0)) 0 [a0] (fun v2_1 w =>
 oM Tryz.prog (.binOp .geq 3 (.tmp 0) (.tmp 1) 3) 4 [a1, (.int .i64 1)] (fun v6_2 w =>
 gdM (gd v6_2 true) (pureM a1) (fun v8_3 w =>
 gdM (gd v6_2 true) (oM Tryz.prog (.fieldAddr 33 (.tmp 0) 0) 0 [v2_1]) (fun v9_4 w =>
 gdM (gd v6_2 true) (oM Tryz.prog (.load 3 (.tmp 0)) 3 [v9_4]) (fun v10_5 w =>
 gdM (gd v6_2 true) (oM Tryz.prog (.binOp .lss 3 (.tmp 0) (.tmp 1) 3) 4 [v8_3, v10_5]) (fun v11_6 w =>
 oM Tryz.prog (.pick (.tmp 0) (.tmp 1) (.tmp 2)) 4 [v6_2, v11_6, (.bool false)] (fun v12_7 w =>
 gdM (gd v12_7 true) (oM Tryz.prog (.fieldAddr 33 (.tmp 0) 0) 0 [v2_1]) (fun v14_8 w =>
 gdM (gd v12_7 true) (oM Tryz.prog (.load 3 (.tmp 0)) 3 [v14_8]) (fun v15_9 w =>
 gdM (gd v12_7 true) (pureM a1) (fun v16_10 w =>
 gdM (gd v12_7 true) (oM Tryz.prog (.fieldAddr 33 (.tmp 0) 1) 0 [v2_1]) (fun v17_11 w =>
 gdM (gd v12_7 true) (oM Tryz.prog (.load 3 (.tmp 0)) 3 [v17_11]) (fun v18_12 w =>
 gdM (gd v12_7 true) (callM Tryz.prog 186 #[v15_9, v16_10, v18_12]) (fun v19_13 w =>
 gdM (gd v12_7 true) (oM Tryz.prog (.binOp .eql 3 (.tmp 0) (.const (.int .i64 1)) 3) 4 [v19_13]) (fun v20_14 w =>
 oM Tryz.prog (.pick (.tmp 0) (.tmp 1) (.tmp 2)) 4 [v12_7, v20_14, (.bool false)] (fun v21_15 w =>
 K v21_15 w) w) w) w) w) w) w) w) w) w) w) w) w) w) w) w
theorem sh_149_eq (a0 : Value) (a1 : Value) (K : Value → World → Prop) (w : World) : sh_149 a0 a1 K w = code Tryz.prog (fun _ => 0) 22 (Tryz.f149.body.getD .skip) (slotsAt [a0, a1]) (retK Tryz.prog [.tmp 4] K) w := by kernel_rfl
theorem sh_149_ok {a0 a1 : Value} {K : Value → World → Prop} {w : World} (h : sh_149 a0 a1 K w) : callM Tryz.prog 149 #[a0, a1] K w :=
  calls_of_code (fun _ => 0) (fn := Tryz.f149) (rs := [.tmp 4]) Tryz.func149 rfl rfl (by kernel_rfl) (Nat.le_of_ble_eq_true rfl) ((sh_149_eq a0 a1 K w).mp h)
def sh_150 (a0 : Value) (a1 : Value) (K : Value → World → Prop) (w : World) : Prop :=
 callM Tryz.prog 152 #[a0] (fun v14_1 w =>
 oM Tryz.prog (.unOp .not 4 (.tmp 0)) 4 [v14_1] (fun v15_2 w =>
 condM v15_2
 (K (.tuple #[(.int .i64 0), (.bool false)]) w)
 (callM Tryz.prog 153 #[a0, a1] (fun v19_3 w =>
 oM Tryz.prog (.binOp .rem 3 (.tmp 0) (.tmp 1) 3) 3 [(.int .i64 1), a0] (fun v21_4 w =>
 loopM [undef, undef, undef, a0, v19_3, (.int .i64 0), v21_4] w (fun J_5 m_6 l_7 u_l_7 w0_l_7 => (fun w => (
 oM Tryz.prog (.binOp .neq 3 (.tmp 0) (.const (.int .i64 0)) 3) 4 [(l_7.getD 4 undef)] (fun v23_8 w =>
 condM v23_8
 (oM Tryz.prog (.binOp .quo 3 (.tmp 0) (.tmp 1) 3) 3 [(l_7.getD 3 undef), (l_7.getD 4 undef)] (fun v26_9 w =>
 oM Tryz.prog (.binOp .mul 3 (.tmp 0) (.tmp 1) 3) 3 [v26_9, (l_7.getD 4 undef)] (fun v30_10 w =>
 oM Tryz.prog (.binOp .sub 3 (.tmp 0) (.tmp 1) 3) 3 [(l_7.getD 3 undef), v30_10] (fun v31_11 w =>
 callM Tryz.prog 154 #[a0, v26_9, (l_7.getD 6 undef)] (fun v37_12 w =>
 callM Tryz.prog 112 #[a0, (l_7.getD 5 undef), v37_12] (fun v38_13 w =>
 J_5 [v26_9, v31_11, v38_13, (l_7.getD 4 undef), v31_11, (l_7.getD 6 undef), v38_13] w ∧ m_6 [v26_9, v31_11, v38_13, (l_7.getD 4 undef), v31_11, (l_7.getD 6 undef), v38_13] w < m_6 l_7 w0_l_7) w) w) w) w) w)
 (oM Tryz.prog (.binOp .neq 3 (.tmp 0) (.const (.int .i64 1)) 3) 4 [(l_7.getD 3 undef)] (fun v44_14 w =>
 condM v44_14
 (K (.tuple #[(.int .i64 0), (.bool false)]) w)
 (oM Tryz.prog (.binOp .rem 3 (.tmp 0) (.tmp 1) 3) 3 [(l_7.getD 5 undef), a0] (fun v47_15 w =>
 K (.tuple #[v47_15, (.bool true)]) w) w)) w)) w)) w0_l_7)) w) w)) w) w
theorem sh_150_eq (a0 : Value) (a1 : Value) (K : Value → World → Prop) (w : World) : sh_150 a0 a1 K w = code Tryz.prog (fun _ => 0) 48 (Tryz.f150.body.getD .skip) (slotsAt [a0, a1]) (retK Tryz.prog [.tmp 4, .tmp 5] K) w := by kernel_rfl
theorem sh_150_ok {a0 a1 : Value} {K : Value → World → Prop} {w : World} (h : sh_150 a0 a1 K w) : callM Tryz.prog 150 #[a0, a1] K w :=
  calls_of_code (fun _ => 0) (fn := Tryz.f150) (rs := [.tmp 4, .tmp 5]) Tryz.func150 rfl rfl (by kernel_rfl) (Nat.le_of_ble_eq_true rfl) ((sh_150_eq a0 a1 K w).mp h)
def sh_151 (a0 : Value) (a1 : Value) (a2 : Value) (K : Value → World → Prop) (w : World) : Prop :=
 oM Tryz.prog (.box 33 (.tmp 0)) 0 [a0] (fun v3_1 w =>
 oM Tryz.prog (.fieldAddr 33 (.tmp 0) 1) 0 [v3_1] (fun v7_2 w =>
 oM Tryz.prog (.load 3 (.tmp 0)) 3 [v7_2] (fun v8_3 w =>
 callM Tryz.prog 152 #[v8_3] (fun v9_4 w =>
 oM Tryz.prog (.unOp .not 4 (.tmp 0)) 4 [v9_4] (fun v10_5 w =>
 condM v10_5
 (K (.int .i64 0) w)
 (oM Tryz.prog (.fieldAddr 33 (.tmp 0) 0) 0 [v3_1] (fun v11_6 w =>
 oM Tryz.prog (.load 3 (.tmp 0)) 3 [v11_6] (fun v12_7 w =>
 callM Tryz.prog 154 #[v12_7, a1, a2] (fun v15_8 w =>
 K v15_8 w) w) w) w)) w) w) w) w) w
theorem sh_151_eq (a0 : Value) (a1 : Value) (a2 : Value) (K : Value → World → Prop) (w : World) : sh_151 a0 a1 a2 K w = code Tryz.prog (fun _ => 0) 16 (Tryz.f151.body.getD .skip) (slotsAt [a0, a1, a2]) (retK Tryz.prog [.tmp 6] K) w := by kernel_rfl
theorem sh_151_ok {a0 a1 a2 : Value} {K : Value → World → Prop} {w : World} (h : sh_151 a0 a1 a2 K w) : callM Tryz.prog 151 #[a0, a1, a2] K w :=
  calls_of_code (fun _ => 0) (fn := Tryz.f151) (rs := [.tmp 6]) Tryz.func151 rfl rfl (by kernel_rfl) (Nat.le_of_ble_eq_true rfl) ((sh_151_eq a0 a1 a2 K w).mp h)
def sh_152 (a0 : Value) (K : Value → World → Prop) (w : World) : Prop :=
 oM Tryz.prog (.binOp .geq 3 (.tmp 0) (.tmp 1) 3) 4 [a0, (.int .i64 1)] (fun v4_1 w =>
 gdM (gd v4_1 true) (pureM a0) (fun v6_2 w =>
 gdM (gd v4_1 true) (oM Tryz.prog (.binOp .lss 3 (.tmp 0) (.tmp 1) 3) 4 [v6_2, (.int .i64 2305843009213693952)]) (fun v7_3 w =>
 oM Tryz.prog (.pick (.tmp 0) (.tmp 1) (.tmp 2)) 4 [v4_1, v7_3, (.bool false)] (fun v8_4 w =>
 K v8_4 w) w) w) w) w
theorem sh_152_eq (a0 : Value) (K : Value → World → Prop) (w : World) : sh_152 a0 K w = code Tryz.prog (fun _ => 0) 9 (Tryz.f152.body.getD .skip) (slotsAt [a0]) (retK Tryz.prog [.tmp 2] K) w := by kernel_rfl
theorem sh_152_ok {a0 : Value} {K : Value → World → Prop} {w : World} (h : sh_152 a0 K w) : callM Tryz.prog 152 #[a0] K w :=
  calls_of_code (fun _ => 0) (fn := Tryz.f152) (rs := [.tmp 2]) Tryz.func152 rfl rfl (by kernel_rfl) (Nat.le_of_ble_eq_true rfl) ((sh_152_eq a0 K w).mp h)
def sh_153 (a0 : Value) (a1 : Value) (K : Value → World → Prop) (w : World) : Prop :=
 oM Tryz.prog (.binOp .rem 3 (.tmp 0) (.tmp 1) 3) 3 [a1, a0] (fun v8_1 w =>
 joinM (fun M_2 => (oM Tryz.prog (.binOp .lss 3 (.tmp 0) (.tmp 1) 3) 4 [v8_1, (.int .i64 0)] (fun v10_4 w =>
 condM v10_4
 (oM Tryz.prog (.binOp .add 3 (.tmp 0) (.tmp 1) 3) 3 [v8_1, a0] (fun v13_5 w =>
 M_2 [v13_5] w) w)
 (M_2 [v8_1] w)) w))
 (fun l_3 u_l_3 w => (K (l_3.getD 0 undef) w))) w
theorem sh_153_eq (a0 : Value) (a1 : Value) (K : Value → World → Prop) (w : World) : sh_153 a0 a1 K w = code Tryz.prog (fun _ => 0) 15 (Tryz.f153.body.getD .skip) (slotsAt [a0, a1]) (retK Tryz.prog [.tmp 4] K) w := by kernel_rfl
theorem sh_153_ok {a0 a1 : Value} {K : Value → World → Prop} {w : World} (h : sh_153 a0 a1 K w) : callM Tryz.prog 153 #[a0, a1] K w :=
  calls_of_code (fun _ => 0) (fn := Tryz.f153) (rs := [.tmp 4]) Tryz.func153 rfl rfl (by kernel_rfl) (Nat.le_of_ble_eq_true rfl) ((sh_153_eq a0 a1 K w).mp h)
def sh_154 (a0 : Value) (a1 : Value) (a2 : Value) (K : Value → World → Prop) (w : World) : Prop :=
 callM Tryz.prog 152 #[a0] (fun v14_1 w =>
 oM Tryz.prog (.unOp .not 4 (.tmp 0)) 4 [v14_1] (fun v15_2 w =>
 condM v15_2
 (K (.int .i64 0) w)
 (callM Tryz.prog 153 #[a0, a1] (fun v18_3 w =>
 callM Tryz.prog 153 #[a0, a2] (fun v21_4 w =>
 oM Tryz.prog (.binOp .leq 3 (.tmp 0) (.tmp 1) 3) 4 [a0, (.int .i64 2147483648)] (fun v23_5 w =>
 condM v23_5
 (oM Tryz.prog (.binOp .mul 3 (.tmp 0) (.tmp 1) 3) 3 [v18_3, v21_4] (fun v26_6 w =>
 oM Tryz.prog (.binOp .rem 3 (.tmp 0) (.tmp 1) 3) 3 [v26_6, a0] (fun v28_7 w =>
 K v28_7 w) w) w)
 (loopM [(.int .i64 0), undef, undef, (.int .i64 60)] w (fun J_8 m_9 l_10 u_l_10 w0_l_10 => (fun w => (
 oM Tryz.prog (.binOp .geq 3 (.tmp 0) (.tmp 1) 3) 4 [(l_10.getD 3 undef), (.int .i64 0)] (fun v30_11 w =>
 condM v30_11
 (oM Tryz.prog (.binOp .mul 3 (.tmp 0) (.tmp 1) 3) 3 [(.int .i64 4), (l_10.getD 0 undef)] (fun v34_12 w =>
 oM Tryz.prog (.binOp .rem 3 (.tmp 0) (.tmp 1) 3) 3 [v34_12, a0] (fun v36_13 w =>
 oM Tryz.prog (.binOp .shr 3 (.tmp 0) (.tmp 1) 3) 3 [v21_4, (l_10.getD 3 undef)] (fun v39_14 w =>
 oM Tryz.prog (.binOp .and 3 (.tmp 0) (.tmp 1) 3) 3 [v39_14, (.int .i64 3)] (fun v40_15 w =>
 loopM [v36_13, (.int .i64 0)] w (fun J_16 m_17 l_18 u_l_18 w0_l_18 => (fun w => (
 oM Tryz.prog (.binOp .lss 3 (.tmp 0) (.tmp 1) 3) 4 [(l_18.getD 1 undef), v40_15] (fun v43_19 w =>
 condM v43_19
 (oM Tryz.prog (.binOp .add 3 (.tmp 0) (.tmp 1) 3) 3 [(l_18.getD 0 undef), v18_3] (fun v48_20 w =>
 oM Tryz.prog (.binOp .rem 3 (.tmp 0) (.tmp 1) 3) 3 [v48_20, a0] (fun v50_21 w =>
 oM Tryz.prog (.binOp .add 3 (.tmp 0) (.tmp 1) 3) 3 [(l_18.getD 1 undef), (.int .i64 1)] (fun v45_22 w =>
 J_16 [v50_21, v45_22] w ∧ m_17 [v50_21, v45_22] w < m_17 l_18 w0_l_18) w) w) w)
 (oM Tryz.prog (.binOp .sub 3 (.tmp 0) (.tmp 1) 3) 3 [(l_10.getD 3 undef), (.int .i64 2)] (fun v32_23 w =>
 J_8 [(l_18.getD 0 undef), v40_15, (l_18.getD 1 undef), v32_23] w ∧ m_9 [(l_18.getD 0 undef), v40_15, (l_18.getD 1 undef), v32_23] w < m_9 l_10 w0_l_10) w)) w)) w0_l_18)) w) w) w) w)
 (K (l_10.getD 0 undef) w)) w)) w0_l_10))) w) w) w)) w) w
theorem sh_154_eq (a0 : Value) (a1 : Value) (a2 : Value) (K : Value → World → Prop) (w : World) : sh_154 a0 a1 a2 K w = code Tryz.prog (fun _ => 0) 52 (Tryz.f154.body.getD .skip) (slotsAt [a0, a1, a2]) (retK Tryz.prog [.tmp 6] K) w := by kernel_rfl
theorem sh_154_ok {a0 a1 a2 : Value} {K : Value → World → Prop} {w : World} (h : sh_154 a0 a1 a2 K w) : callM Tryz.prog 154 #[a0, a1, a2] K w :=
  calls_of_code (fun _ => 0) (fn := Tryz.f154) (rs := [.tmp 6]) Tryz.func154 rfl rfl (by kernel_rfl) (Nat.le_of_ble_eq_true rfl) ((sh_154_eq a0 a1 a2 K w).mp h)
def sh_155 (a0 : Value) (a1 : Value) (a2 : Value) (K : Value → World → Prop) (w : World) : Prop :=
 oM Tryz.prog (.box 33 (.tmp 0)) 0 [a0] (fun v3_1 w =>
 oM Tryz.prog (.fieldAddr 33 (.tmp 0) 0) 0 [v3_1] (fun v10_2 w =>
 oM Tryz.prog (.load 3 (.tmp 0)) 3 [v10_2] (fun v11_3 w =>
 callM Tryz.prog 152 #[v11_3] (fun v12_4 w =>
 oM Tryz.prog (.unOp .not 4 (.tmp 0)) 4 [v12_4] (fun v13_5 w =>
 gdM (gd v13_5 false) (oM Tryz.prog (.fieldAddr 33 (.tmp 0) 1) 0 [v3_1]) (fun v15_6 w =>
 gdM (gd v13_5 false) (oM Tryz.prog (.load 3 (.tmp 0)) 3 [v15_6]) (fun v16_7 w =>
 gdM (gd v13_5 false) (callM Tryz.prog 152 #[v16_7]) (fun v17_8 w =>
 gdM (gd v13_5 false) (oM Tryz.prog (.unOp .not 4 (.tmp 0)) 4 [v17_8]) (fun v18_9 w =>
 oM Tryz.prog (.pick (.tmp 0) (.tmp 1) (.tmp 2)) 4 [v13_5, (.bool true), v18_9] (fun v19_10 w =>
 gdM (gd v19_10 false) (pureM a1) (fun v21_11 w =>
 gdM (gd v19_10 false) (oM Tryz.prog (.call (Go.Call.mk (.builtin .len) #[(.tmp 0)] #[22])) 3 [v21_11]) (fun v22_12 w =>
 gdM (gd v19_10 false) (pureM a2) (fun v23_13 w =>
 gdM (gd v19_10 false) (oM Tryz.prog (.call (Go.Call.mk (.builtin .len) #[(.tmp 0)] #[22])) 3 [v23_13]) (fun v24_14 w =>
 gdM (gd v19_10 false) (oM Tryz.prog (.binOp .neq 3 (.tmp 0) (.tmp 1) 3) 4 [v22_12, v24_14]) (fun v25_15 w =>
 oM Tryz.prog (.pick (.tmp 0) (.tmp 1) (.tmp 2)) 4 [v19_10, (.bool true), v25_15] (fun v26_16 w =>
 condM v26_16
 (K (.tuple #[(.int .i64 0), (.bool false)]) w)
 (oM Tryz.prog (.fieldAddr 33 (.tmp 0) 0) 0 [v3_1] (fun v27_17 w =>
 oM Tryz.prog (.load 3 (.tmp 0)) 3 [v27_17] (fun v28_18 w =>
 oM Tryz.prog (.binOp .rem 3 (.tmp 0) (.tmp 1) 3) 3 [(.int .i64 1), v28_18] (fun v29_19 w =>
 loopM [v29_19, (.int .i64 0)] w (fun J_20 m_21 l_22 u_l_22 w0_l_22 => (fun w => (
 oM Tryz.prog (.call (Go.Call.mk (.builtin .len) #[(.tmp 0)] #[22])) 3 [a1] (fun v32_23 w =>
 oM Tryz.prog (.binOp .lss 3 (.tmp 0) (.tmp 1) 3) 4 [(l_22.getD 1 undef), v32_23] (fun v33_24 w =>
 condM v33_24
 (quietM w (fun C_25 => (oQ Tryz.prog (.fieldAddr 33 (.tmp 0) 0) 0 [v3_1] C_25 (fun v36_26 =>
 oQ Tryz.prog (.load 3 (.tmp 0)) 3 [v36_26] C_25 (fun v37_27 =>
 oQ Tryz.prog (.load 33 (.tmp 0)) 33 [v3_1] C_25 (fun v39_28 =>
 oQ Tryz.prog (.indexAddr 22 (.tmp 0) (.tmp 1)) 0 [a1, (l_22.getD 1 undef)] C_25 (fun v42_29 =>
 oQ Tryz.prog (.load 3 (.tmp 0)) 3 [v42_29] C_25 (fun v43_30 =>
 oQ Tryz.prog (.indexAddr 22 (.tmp 0) (.tmp 1)) 0 [a2, (l_22.getD 1 undef)] C_25 (fun v46_31 =>
 oQ Tryz.prog (.load 3 (.tmp 0)) 3 [v46_31] C_25 (fun v47_32 =>
 callQ Tryz.prog 147 #[v39_28, v43_30, v47_32] C_25 (fun v48_33 =>
 callQ Tryz.prog 154 #[v37_27, (l_22.getD 0 undef), v48_33] C_25 (fun v49_34 =>
 ∀ w, C_25 w → (oM Tryz.prog (.binOp .add 3 (.tmp 0) (.tmp 1) 3) 3 [(l_22.getD 1 undef), (.int .i64 1)] (fun v35_35 w =>
 J_20 [v49_34, v35_35] w ∧ m_21 [v49_34, v35_35] w < m_21 l_22 w0_l_22) w)))))))))))))
 (K (.tuple #[(l_22.getD 0 undef), (.bool true)]) w)) w) w)) w0_l_22)) w) w) w)) w) w) w) w) w) w) w) w) w) w) w) w) w) w) w) w
theorem sh_155_eq (a0 : Value) (a1 : Value) (a2 : Value) (K : Value → World → Prop) (w : World) : sh_155 a0 a1 a2 K w = code Tryz.prog (fun _ => 0) 51 (Tryz.f155.body.getD .skip) (slotsAt [a0, a1, a2]) (retK Tryz.prog [.tmp 6, .tmp 7] K) w := by kernel_rfl
theorem sh_155_ok {a0 a1 a2 : Value} {K : Value → World → Prop} {w : World} (h : sh_155 a0 a1 a2 K w) : callM Tryz.prog 155 #[a0, a1, a2] K w :=
  calls_of_code (fun _ => 0) (fn := Tryz.f155) (rs := [.tmp 6, .tmp 7]) Tryz.func155 rfl rfl (by kernel_rfl) (Nat.le_of_ble_eq_true rfl) ((sh_155_eq a0 a1 a2 K w).mp h)
def sh_186 (a0 : Value) (a1 : Value) (a2 : Value) (K : Value → World → Prop) (w : World) : Prop :=
 oM Tryz.prog (.binOp .rem 3 (.tmp 0) (.tmp 1) 3) 3 [(.int .i64 1), a0] (fun v10_1 w =>
 callM Tryz.prog 153 #[a0, a1] (fun v13_2 w =>
 loopM [v10_1, v13_2, a2] w (fun J_3 m_4 l_5 u_l_5 w0_l_5 => (fun w => (
 oM Tryz.prog (.binOp .gtr 3 (.tmp 0) (.tmp 1) 3) 4 [(l_5.getD 2 undef), (.int .i64 0)] (fun v15_6 w =>
 condM v15_6
 (joinM (fun M_7 => (oM Tryz.prog (.binOp .rem 3 (.tmp 0) (.tmp 1) 3) 3 [(l_5.getD 2 undef), (.int .i64 2)] (fun v17_9 w =>
 oM Tryz.prog (.binOp .eql 3 (.tmp 0) (.const (.int .i64 1)) 3) 4 [v17_9] (fun v18_10 w =>
 condM v18_10
 (callM Tryz.prog 154 #[a0, (l_5.getD 0 undef), (l_5.getD 1 undef)] (fun v22_11 w =>
 M_7 [v22_11] w) w)
 (M_7 [(l_5.getD 0 undef)] w)) w) w))
 (fun l_8 u_l_8 w => (callM Tryz.prog 154 #[a0, (l_5.getD 1 undef), (l_5.getD 1 undef)] (fun v26_12 w =>
 oM Tryz.prog (.binOp .quo 3 (.tmp 0) (.tmp 1) 3) 3 [(l_5.getD 2 undef), (.int .i64 2)] (fun v28_13 w =>
 J_3 [(l_8.getD 0 undef), v26_12, v28_13] w ∧ m_4 [(l_8.getD 0 undef), v26_12, v28_13] w < m_4 l_5 w0_l_5) w) w)))
 (K (l_5.getD 0 undef) w)) w)) w0_l_5)) w) w
theorem sh_186_eq (a0 : Value) (a1 : Value) (a2 : Value) (K : Value → World → Prop) (w : World) : sh_186 a0 a1 a2 K w = code Tryz.prog (fun _ => 0) 30 (Tryz.f186.body.getD .skip) (slotsAt [a0, a1, a2]) (retK Tryz.prog [.tmp 6] K) w := by kernel_rfl
theorem sh_186_ok {a0 a1 a2 : Value} {K : Value → World → Prop} {w : World} (h : sh_186 a0 a1 a2 K w) : callM Tryz.prog 186 #[a0, a1, a2] K w :=
  calls_of_code (fun _ => 0) (fn := Tryz.f186) (rs := [.tmp 6]) Tryz.func186 rfl rfl (by kernel_rfl) (Nat.le_of_ble_eq_true rfl) ((sh_186_eq a0 a1 a2 K w).mp h)
def sh_187 (a0 : Value) (K : Value → World → Prop) (w : World) : Prop :=
 oM Tryz.prog (.binOp .lss 3 (.tmp 0) (.tmp 1) 3) 4 [a0, (.int .i64 2)] (fun v7_1 w =>
 gdM (gd v7_1 false) (pureM a0) (fun v9_2 w =>
 gdM (gd v7_1 false) (oM Tryz.prog (.binOp .geq 3 (.tmp 0) (.tmp 1) 3) 4 [v9_2, (.int .i64 2305843009213693952)]) (fun v10_3 w =>
 oM Tryz.prog (.pick (.tmp 0) (.tmp 1) (.tmp 2)) 4 [v7_1, (.bool true), v10_3] (fun v11_4 w =>
 condM v11_4
 (K (.bool false) w)
 (callM Tryz.prog 207 #[] (fun v12_5 w =>
 loopM [(.bool false), (.int .i64 0)] w (fun J_6 m_7 l_8 u_l_8 w0_l_8 => (fun w => (
 oM Tryz.prog (.call (Go.Call.mk (.builtin .len) #[(.tmp 0)] #[22])) 3 [v12_5] (fun v15_9 w =>
 oM Tryz.prog (.binOp .lss 3 (.tmp 0) (.tmp 1) 3) 4 [(l_8.getD 1 undef), v15_9] (fun v16_10 w =>
 condM v16_10
 (oM Tryz.prog (.indexAddr 22 (.tmp 0) (.tmp 1)) 0 [v12_5, (l_8.getD 1 undef)] (fun v22_11 w =>
 oM Tryz.prog (.load 3 (.tmp 0)) 3 [v22_11] (fun v23_12 w =>
 oM Tryz.prog (.binOp .rem 3 (.tmp 0) (.tmp 1) 3) 3 [a0, v23_12] (fun v24_13 w =>
 oM Tryz.prog (.binOp .eql 3 (.tmp 0) (.const (.int .i64 0)) 3) 4 [v24_13] (fun v25_14 w =>
 condM v25_14
 (oM Tryz.prog (.indexAddr 22 (.tmp 0) (.tmp 1)) 0 [v12_5, (l_8.getD 1 undef)] (fun v29_15 w =>
 oM Tryz.prog (.load 3 (.tmp 0)) 3 [v29_15] (fun v30_16 w =>
 oM Tryz.prog (.binOp .eql 3 (.tmp 0) (.tmp 1) 3) 4 [a0, v30_16] (fun v31_17 w =>
 K v31_17 w) w) w) w)
 (oM Tryz.prog (.binOp .add 3 (.tmp 0) (.tmp 1) 3) 3 [(l_8.getD 1 undef), (.int .i64 1)] (fun v18_18 w =>
 J_6 [(l_8.getD 0 undef), v18_18] w ∧ m_7 [(l_8.getD 0 undef), v18_18] w < m_7 l_8 w0_l_8) w)) w) w) w) w)
 (loopM [(l_8.getD 0 undef), (.int .i64 0)] w (fun J_19 m_20 l_21 u_l_21 w0_l_21 => (fun w => (
 oM Tryz.prog (.call (Go.Call.mk (.builtin .len) #[(.tmp 0)] #[22])) 3 [v12_5] (fun v34_22 w =>
 oM Tryz.prog (.binOp .lss 3 (.tmp 0) (.tmp 1) 3) 4 [(l_21.getD 1 undef), v34_22] (fun v35_23 w =>
 condM v35_23
 (oM Tryz.prog (.indexAddr 22 (.tmp 0) (.tmp 1)) 0 [v12_5, (l_21.getD 1 undef)] (fun v41_24 w =>
 oM Tryz.prog (.load 3 (.tmp 0)) 3 [v41_24] (fun v42_25 w =>
 callM Tryz.prog 208 #[a0, v42_25] (fun v43_26 w =>
 oM Tryz.prog (.unOp .not 4 (.tmp 0)) 4 [v43_26] (fun v44_27 w =>
 condM v44_27
 (K (.bool false) w)
 (oM Tryz.prog (.binOp .add 3 (.tmp 0) (.tmp 1) 3) 3 [(l_21.getD 1 undef), (.int .i64 1)] (fun v37_28 w =>
 J_19 [(l_21.getD 0 undef), v37_28] w ∧ m_20 [(l_21.getD 0 undef), v37_28] w < m_20 l_21 w0_l_21) w)) w) w) w) w)
 (K (.bool true) w)) w) w)) w0_l_21))) w) w)) w0_l_8)) w)) w) w) w) w
theorem sh_187_eq (a0 : Value) (K : Value → World → Prop) (w : World) : sh_187 a0 K w = code Tryz.prog (fun _ => 0) 45 (Tryz.f187.body.getD .skip) (slotsAt [a0]) (retK Tryz.prog [.tmp 2] K) w := by kernel_rfl
theorem sh_187_ok {a0 : Value} {K : Value → World → Prop} {w : World} (h : sh_187 a0 K w) : callM Tryz.prog 187 #[a0] K w :=
  calls_of_code (fun _ => 0) (fn := Tryz.f187) (rs := [.tmp 2]) Tryz.func187 rfl rfl (by kernel_rfl) (Nat.le_of_ble_eq_true rfl) ((sh_187_eq a0 K w).mp h)
def sh_208 (a0 : Value) (a1 : Value) (K : Value → World → Prop) (w : World) : Prop :=
 oM Tryz.prog (.binOp .sub 3 (.tmp 0) (.tmp 1) 3) 3 [a0, (.int .i64 1)] (fun v10_1 w =>
 loopM [v10_1, (.int .i64 0)] w (fun J_2 m_3 l_4 u_l_4 w0_l_4 => (fun w => (
 oM Tryz.prog (.binOp .rem 3 (.tmp 0) (.tmp 1) 3) 3 [(l_4.getD 0 undef), (.int .i64 2)] (fun v12_5 w =>
 oM Tryz.prog (.binOp .eql 3 (.tmp 0) (.const (.int .i64 0)) 3) 4 [v12_5] (fun v13_6 w =>
 condM v13_6
 (oM Tryz.prog (.binOp .quo 3 (.tmp 0) (.tmp 1) 3) 3 [(l_4.getD 0 undef), (.int .i64 2)] (fun v15_7 w =>
 oM Tryz.prog (.binOp .add 3 (.tmp 0) (.tmp 1) 3) 3 [(l_4.getD 1 undef), (.int .i64 1)] (fun v17_8 w =>
 J_2 [v15_7, v17_8] w ∧ m_3 [v15_7, v17_8] w < m_3 l_4 w0_l_4) w) w)
 (callM Tryz.prog 186 #[a0, a1, (l_4.getD 0 undef)] (fun v21_9 w =>
 oM Tryz.prog (.binOp .eql 3 (.tmp 0) (.const (.int .i64 1)) 3) 4 [v21_9] (fun v23_10 w =>
 condM v23_10
 (K (.bool true) w)
 (loopM [(.bool false), v21_9, (.int .i64 0)] w (fun J_11 m_12 l_13 u_l_13 w0_l_13 => (fun w => (
 oM Tryz.prog (.binOp .lss 3 (.tmp 0) (.tmp 1) 3) 4 [(l_13.getD 2 undef), (l_4.getD 1 undef)] (fun v26_14 w =>
 condM v26_14
 (oM Tryz.prog (.binOp .sub 3 (.tmp 0) (.tmp 1) 3) 3 [a0, (.int .i64 1)] (fun v31_15 w =>
 oM Tryz.prog (.binOp .eql 3 (.tmp 0) (.tmp 1) 3) 4 [(l_13.getD 1 undef), v31_15] (fun v32_16 w =>
 condM v32_16
 (K (.bool true) w)
 (callM Tryz.prog 154 #[a0, (l_13.getD 1 undef), (l_13.getD 1 undef)] (fun v36_17 w =>
 oM Tryz.prog (.binOp .add 3 (.tmp 0) (.tmp 1) 3) 3 [(l_13.getD 2 undef), (.int .i64 1)] (fun v28_18 w =>
 J_11 [(l_13.getD 0 undef), v36_17, v28_18] w ∧ m_12 [(l_13.getD 0 undef), v36_17, v28_18] w < m_12 l_13 w0_l_13) w) w)) w) w)
 (K (.bool false) w)) w)) w0_l_13))) w) w)) w) w)) w0_l_4)) w
theorem sh_208_eq (a0 : Value) (a1 : Value) (K : Value → World → Prop) (w : World) : sh_208 a0 a1 K w = code Tryz.prog (fun _ => 0) 37 (Tryz.f208.body.getD .skip) (slotsAt [a0, a1]) (retK Tryz.prog [.tmp 4] K) w := by kernel_rfl
theorem sh_208_ok {a0 a1 : Value} {K : Value → World → Prop} {w : World} (h : sh_208 a0 a1 K w) : callM Tryz.prog 208 #[a0, a1] K w :=
  calls_of_code (fun _ => 0) (fn := Tryz.f208) (rs := [.tmp 4]) Tryz.func208 rfl rfl (by kernel_rfl) (Nat.le_of_ble_eq_true rfl) ((sh_208_eq a0 a1 K w).mp h)
def sh_207 (K : Value → World → Prop) (w : World) : Prop :=
 oM Tryz.prog (.buildSlice 22 12 #[(0, (.tmp 0)), (1, (.tmp 1)), (2, (.tmp 2)), (3, (.tmp 3)), (4, (.tmp 4)), (5, (.tmp 5)), (6, (.tmp 6)), (7, (.tmp 7)), (8, (.tmp 8)), (9, (.tmp 9)), (10, (.tmp 10)), (11, (.tmp 11))]) 22 [(.int .i64 2), (.int .i64 3), (.int .i64 5), (.int .i64 7), (.int .i64 11), (.int .i64 13), (.int .i64 17), (.int .i64 19), (.int .i64 23), (.int .i64 29), (.int .i64 31), (.int .i64 37)] (fun v1_1 w =>
 K v1_1 w) w
theorem sh_207_eq (K : Value → World → Prop) (w : World) : sh_207 K w = code Tryz.prog (fun _ => 0) 2 (Tryz.f207.body.getD .skip) (slotsAt []) (retK Tryz.prog [.tmp 0] K) w := by kernel_rfl
theorem sh_207_ok {K : Value → World → Prop} {w : World} (h : sh_207 K w) : callM Tryz.prog 207 #[] K w :=
  calls_of_code (fun _ => 0) (fn := Tryz.f207) (rs := [.tmp 0]) Tryz.func207 rfl rfl (by kernel_rfl) (Nat.le_of_ble_eq_true rfl) ((sh_207_eq K w).mp h)
def sh_87 (a0 : Value) (a1 : Value) (K : Value → World → Prop) (w : World) : Prop :=
 oM Tryz.prog (.box 33 (.tmp 0)) 0 [a0] (fun v2_1 w =>
 oM Tryz.prog (.binOp .geq 3 (.tmp 0) (.tmp 1) 3) 4 [a1, (.int .i64 1)] (fun v6_2 w =>
 gdM (gd v6_2 true) (pureM a1) (fun v8_3 w =>
 gdM (gd v6_2 true) (oM Tryz.prog (.fieldAddr 33 (.tmp 0) 0) 0 [v2_1]) (fun v9_4 w =>
 gdM (gd v6_2 true) (oM Tryz.prog (.load 3 (.tmp 0)) 3 [v9_4]) (fun v10_5 w =>
 gdM (gd v6_2 true) (oM Tryz.prog (.binOp .lss 3 (.tmp 0) (.tmp 1) 3) 4 [v8_3, v10_5]) (fun v11_6 w =>
 oM Tryz.prog (.pick (.tmp 0) (.tmp 1) (.tmp 2)) 4 [v6_2, v11_6, (.bool false)] (fun v12_7 w =>
 gdM (gd v12_7 true) (oM Tryz.prog (.load 33 (.tmp 0)) 33 [v2_1]) (fun v14_8 w =>
 gdM (gd v12_7 true) (callM Tryz.prog 148 #[v14_8]) (fun v15_9 w =>
 oM Tryz.prog (.pick (.tmp 0) (.tmp 1) (.tmp 2)) 4 [v12_7, v15_9, (.bool false)] (fun v16_10 w =>
 gdM (gd v16_10 true) (oM Tryz.prog (.load 33 (.tmp 0)) 33 [v2_1]) (fun v18_11 w =>
 gdM (gd v16_10 true) (pureM a1) (fun v19_12 w =>
 gdM (gd v16_10 true) (callM Tryz.prog 149 #[v18_11, v19_12]) (fun v20_13 w =>
 oM Tryz.prog (.pick (.tmp 0) (.tmp 1) (.tmp 2)) 4 [v16_10, v20_13, (.bool false)] (fun v21_14 w =>
 K v21_14 w) w) w) w) w) w) w) w) w) w) w) w) w) w) w
theorem sh_87_eq (a0 : Value) (a1 : Value) (K : Value → World → Prop) (w : World) : sh_87 a0 a1 K w = code Tryz.prog (fun _ => 0) 22 (Tryz.f87.body.getD .skip) (slotsAt [a0, a1]) (retK Tryz.prog [.tmp 4] K) w := by kernel_rfl
theorem sh_87_ok {a0 a1 : Value} {K : Value → World → Prop} {w : World} (h : sh_87 a0 a1 K w) : callM Tryz.prog 87 #[a0, a1] K w :=
  calls_of_code (fun _ => 0) (fn := Tryz.f87) (rs := [.tmp 4]) Tryz.func87 rfl rfl (by kernel_rfl) (Nat.le_of_ble_eq_true rfl) ((sh_87_eq a0 a1 K w).mp h)
def sh_99 (a0 : Value) (K : Value → World → Prop) (w : World) : Prop :=
 oM Tryz.prog (.box 35 (.tmp 0)) 0 [a0] (fun v1_1 w =>
 oM Tryz.prog (.fieldAddr 35 (.tmp 0) 0) 0 [v1_1] (fun v4_2 w =>
 oM Tryz.prog (.load 33 (.tmp 0)) 33 [v4_2] (fun v5_3 w =>
 callM Tryz.prog 148 #[v5_3] (fun v6_4 w =>
 oM Tryz.prog (.unOp .not 4 (.tmp 0)) 4 [v6_4] (fun v7_5 w =>
 gdM (gd v7_5 false) (oM Tryz.prog (.fieldAddr 35 (.tmp 0) 1) 0 [v1_1]) (fun v9_6 w =>
 gdM (gd v7_5 false) (oM Tryz.prog (.load 22 (.tmp 0)) 22 [v9_6]) (fun v10_7 w =>
 gdM (gd v7_5 false) (oM Tryz.prog (.call (Go.Call.mk (.builtin .len) #[(.tmp 0)] #[22])) 3 [v10_7]) (fun v11_8 w =>
 gdM (gd v7_5 false) (oM Tryz.prog (.binOp .lss 3 (.tmp 0) (.tmp 1) 3) 4 [v11_8, (.int .i64 2)]) (fun v12_9 w =>
 oM Tryz.prog (.pick (.tmp 0) (.tmp 1) (.tmp 2)) 4 [v7_5, (.bool true), v12_9] (fun v13_10 w =>
 gdM (gd v13_10 false) (oM Tryz.prog (.fieldAddr 35 (.tmp 0) 1) 0 [v1_1]) (fun v15_11 w =>
 gdM (gd v13_10 false) (oM Tryz.prog (.load 22 (.tmp 0)) 22 [v15_11]) (fun v16_12 w =>
 gdM (gd v13_10 false) (oM Tryz.prog (.call (Go.Call.mk (.builtin .len) #[(.tmp 0)] #[22])) 3 [v16_12]) (fun v17_13 w =>
 gdM (gd v13_10 false) (oM Tryz.prog (.binOp .gtr 3 (.tmp 0) (.tmp 1) 3) 4 [v17_13, (.int .i64 7)]) (fun v18_14 w =>
 oM Tryz.prog (.pick (.tmp 0) (.tmp 1) (.tmp 2)) 4 [v13_10, (.bool true), v18_14] (fun v19_15 w =>
 gdM (gd v19_15 false) (oM Tryz.prog (.fieldAddr 35 (.tmp 0) 0) 0 [v1_1]) (fun v21_16 w =>
 gdM (gd v19_15 false) (oM Tryz.prog (.load 33 (.tmp 0)) 33 [v21_16]) (fun v22_17 w =>
 gdM (gd v19_15 false) (oM Tryz.prog (.fieldAddr 35 (.tmp 0) 2) 0 [v1_1]) (fun v23_18 w =>
 gdM (gd v19_15 false) (oM Tryz.prog (.load 3 (.tmp 0)) 3 [v23_18]) (fun v24_19 w =>
 gdM (gd v19_15 false) (callM Tryz.prog 156 #[v22_17, v24_19]) (fun v25_20 w =>
 gdM (gd v19_15 false) (oM Tryz.prog (.unOp .not 4 (.tmp 0)) 4 [v25_20]) (fun v26_21 w =>
 oM Tryz.prog (.pick (.tmp 0) (.tmp 1) (.tmp 2)) 4 [v19_15, (.bool true), v26_21] (fun v27_22 w =>
 condM v27_22
 (K (.bool false) w)
 (loopM [(.bool false), (.int .i64 0)] w (fun J_23 m_24 l_25 u_l_25 w0_l_25 => (fun w => (
 oM Tryz.prog (.fieldAddr 35 (.tmp 0) 1) 0 [v1_1] (fun v29_26 w =>
 oM Tryz.prog (.load 22 (.tmp 0)) 22 [v29_26] (fun v30_27 w =>
 oM Tryz.prog (.call (Go.Call.mk (.builtin .len) #[(.tmp 0)] #[22])) 3 [v30_27] (fun v31_28 w =>
 oM Tryz.prog (.binOp .lss 3 (.tmp 0) (.tmp 1) 3) 4 [(l_25.getD 1 undef), v31_28] (fun v32_29 w =>
 condM v32_29
 (heldM w (fun C_30 w => (((true : Bool) = true) ∧ (oH Tryz.prog (.fieldAddr 35 (.tmp 0) 0) 0 [v1_1] C_30 (fun v35_31 =>
 oH Tryz.prog (.load 33 (.tmp 0)) 33 [v35_31] C_30 (fun v36_32 =>
 oH Tryz.prog (.fieldAddr 35 (.tmp 0) 1) 0 [v1_1] C_30 (fun v37_33 =>
 oH Tryz.prog (.load 22 (.tmp 0)) 22 [v37_33] C_30 (fun v38_34 =>
 pureH (l_25.getD 1 undef) C_30 (fun v39_35 =>
 oH Tryz.prog (.indexAddr 22 (.tmp 0) (.tmp 1)) 0 [v38_34, v39_35] C_30 (fun v40_36 =>
 oH Tryz.prog (.load 3 (.tmp 0)) 3 [v40_36] C_30 (fun v41_37 =>
 ∃ S_38 : World → World → Prop, ∀ w, C_30 w → (
 callM Tryz.prog 156 #[v36_32, v41_37] (fun v42_39 w => C_30 w ∧ (
 oM Tryz.prog (.unOp .not 4 (.tmp 0)) 4 [v42_39] (fun v43_40 w => C_30 w ∧ (
 condM v43_40
 (K (.bool false) w)
 (oM Tryz.prog (.binOp .add 3 (.tmp 0) (.tmp 1) 3) 3 [(l_25.getD 1 undef), (.int .i64 1)] (fun v34_41 w =>
 J_23 [(l_25.getD 0 undef), v34_41] w ∧ m_24 [(l_25.getD 0 undef), v34_41] w < m_24 l_25 w0_l_25) w))) w)) w))))))))))))
 (K (.bool true) w)) w) w) w) w)) w0_l_25))) w) w) w) w) w) w) w) w) w) w) w) w) w) w) w) w) w) w) w) w) w) w
theorem sh_99_eq (a0 : Value) (K : Value → World → Prop) (w : World) : sh_99 a0 K w = code Tryz.prog (fun _ => .mono [0, 1, 2, 3, 4, 5, 6] [] [7, 8]) 44 (Tryz.f99.body.getD .skip) (slotsAt [a0]) (retK Tryz.prog [.tmp 2] K) w := by kernel_rfl
theorem sh_99_ok {a0 : Value} {K : Value → World → Prop} {w : World} (h : sh_99 a0 K w) : callM Tryz.prog 99 #[a0] K w :=
  calls_of_code (fun _ => .mono [0, 1, 2, 3, 4, 5, 6] [] [7, 8]) (fn := Tryz.f99) (rs := [.tmp 2]) Tryz.func99 rfl rfl (by kernel_rfl) (Nat.le_of_ble_eq_true rfl) ((sh_99_eq a0 K w).mp h)
def sh_156 (a0 : Value) (a1 : Value) (K : Value → World → Prop) (w : World) : Prop :=
 oM Tryz.prog (.box 33 (.tmp 0)) 0 [a0] (fun v2_1 w =>
 oM Tryz.prog (.binOp .neq 3 (.tmp 0) (.const (.int .i64 1)) 3) 4 [a1] (fun v6_2 w =>
 gdM (gd v6_2 true) (oM Tryz.prog (.load 33 (.tmp 0)) 33 [v2_1]) (fun v8_3 w =>
 gdM (gd v6_2 true) (pureM a1) (fun v9_4 w =>
 gdM (gd v6_2 true) (callM Tryz.prog 149 #[v8_3, v9_4]) (fun v10_5 w =>
 oM Tryz.prog (.pick (.tmp 0) (.tmp 1) (.tmp 2)) 4 [v6_2, v10_5, (.bool false)] (fun v11_6 w =>
 K v11_6 w) w) w) w) w) w) w
theorem sh_156_eq (a0 : Value) (a1 : Value) (K : Value → World → Prop) (w : World) : sh_156 a0 a1 K w = code Tryz.prog (fun _ => 0) 12 (Tryz.f156.body.getD .skip) (slotsAt [a0, a1]) (retK Tryz.prog [.tmp 4] K) w := by kernel_rfl
theorem sh_156_ok {a0 a1 : Value} {K : Value → World → Prop} {w : World} (h : sh_156 a0 a1 K w) : callM Tryz.prog 156 #[a0, a1] K w :=
  calls_of_code (fun _ => 0) (fn := Tryz.f156) (rs := [.tmp 4]) Tryz.func156 rfl rfl (by kernel_rfl) (Nat.le_of_ble_eq_true rfl) ((sh_156_eq a0 a1 K w).mp h)
end Go.Proofs
set_option linter.unusedVariables false
set_option maxRecDepth 100000
namespace Go.Proofs
open Go.Sh
def sh_132 (a0 : Value) (a1 : Value) (K : Value → World → Prop) (w : World) : Prop :=
 callM Tryz.prog 152 #[a1] (fun v9_1 w =>
 oM Tryz.prog (.unOp .not 4 (.tmp 0)) 4 [v9_1] (fun v10_2 w =>
 condM v10_2
 (K (.int .i64 0) w)
 (callM Tryz.prog 173 #[a0] (fun v12_3 w =>
 loopM [(.int .i64 0), (.int .i64 0)] w (fun J_4 m_5 l_6 u_l_6 w0_l_6 => (fun w => (
 oM Tryz.prog (.call (Go.Call.mk (.builtin .len) #[(.tmp 0)] #[9])) 3 [v12_3] (fun v15_7 w =>
 oM Tryz.prog (.binOp .lss 3 (.tmp 0) (.tmp 1) 3) 4 [(l_6.getD 1 undef), v15_7] (fun v16_8 w =>
 condM v16_8
 (quietM w (fun C_9 => (callQ Tryz.prog 154 #[a1, (l_6.getD 0 undef), (.int .i64 256)] C_9 (fun v22_10 =>
 oQ Tryz.prog (.index 9 (.tmp 0) (.tmp 1)) 5 [v12_3, (l_6.getD 1 undef)] C_9 (fun v25_11 =>
 oQ Tryz.prog (.convert 5 3 (.tmp 0)) 3 [v25_11] C_9 (fun v26_12 =>
 callQ Tryz.prog 93 #[a1, v22_10, v26_12] C_9 (fun v27_13 =>
 ∀ w, C_9 w → (oM Tryz.prog (.binOp .add 3 (.tmp 0) (.tmp 1) 3) 3 [(l_6.getD 1 undef), (.int .i64 1)] (fun v18_14 w =>
 J_4 [v27_13, v18_14] w ∧ m_5 [v27_13, v18_14] w < m_5 l_6 w0_l_6) w))))))))
 (K (l_6.getD 0 undef) w)) w) w)) w0_l_6)) w)) w) w
theorem sh_132_eq (a0 : Value) (a1 : Value) (K : Value → World → Prop) (w : World) : sh_132 a0 a1 K w = code Tryz.prog (fun _ => 0) 29 (Tryz.f132.body.getD .skip) (slotsAt [a0, a1]) (retK Tryz.prog [.tmp 4] K) w := by kernel_rfl
theorem sh_132_ok {a0 a1 : Value} {K : Value → World → Prop} {w : World} (h : sh_132 a0 a1 K w) : callM Tryz.prog 132 #[a0, a1] K w :=
  calls_of_code (fun _ => 0) (fn := Tryz.f132) (rs := [.tmp 4]) Tryz.func132 rfl rfl (by kernel_rfl) (Nat.le_of_ble_eq_true rfl) ((sh_132_eq a0 a1 K w).mp h)
def sh_173 (a0 : Value) (K : Value → World → Prop) (w : World) : Prop :=
 oM Tryz.prog (.convert 9 189 (.tmp 0)) 189 [a0] (fun v9_1 w =>
 callM Tryz.prog 198 #[v9_1] (fun v10_2 w =>
 callM Tryz.prog 199 #[] (fun v11_3 w =>
 loopM [v11_3, (.int .i64 0)] w (fun J_4 m_5 l_6 u_l_6 w0_l_6 => (fun w => (
 oM Tryz.prog (.call (Go.Call.mk (.builtin .len) #[(.tmp 0)] #[189])) 3 [v10_2] (fun v14_7 w =>
 oM Tryz.prog (.binOp .lss 3 (.tmp 0) (.tmp 1) 3) 4 [(l_6.getD 1 undef), v14_7] (fun v15_8 w =>
 condM v15_8
 (oM Tryz.prog (.binOp .add 3 (.tmp 0) (.tmp 1) 3) 3 [(l_6.getD 1 undef), (.int .i64 64)] (fun v22_9 w =>
 oM Tryz.prog (.slice 189 (.tmp 0) (some (.tmp 1)) (some (.tmp 2)) none) 189 [v10_2, (l_6.getD 1 undef), v22_9] (fun v23_10 w =>
 callM Tryz.prog 200 #[(l_6.getD 0 undef), v23_10] (fun v24_11 w =>
 oM Tryz.prog (.binOp .add 3 (.tmp 0) (.tmp 1) 3) 3 [(l_6.getD 1 undef), (.int .i64 64)] (fun v17_12 w =>
 J_4 [v24_11, v17_12] w ∧ m_5 [v24_11, v17_12] w < m_5 l_6 w0_l_6) w) w) w) w)
 (oM Tryz.prog (.buildSlice 189 0 #[]) 189 [] (fun v25_13 w =>
 loopM [v25_13, (.int .i64 0)] w (fun J_14 m_15 l_16 u_l_16 w0_l_16 => (fun w => (
 oM Tryz.prog (.binOp .lss 3 (.tmp 0) (.tmp 1) 3) 4 [(l_16.getD 1 undef), (.int .i64 32)] (fun v27_17 w =>
 condM v27_17
 (oM Tryz.prog (.binOp .quo 3 (.tmp 0) (.tmp 1) 3) 3 [(l_16.getD 1 undef), (.int .i64 4)] (fun v33_18 w =>
 oM Tryz.prog (.indexAddr 211 (.tmp 0) (.tmp 1)) 0 [(l_6.getD 0 undef), v33_18] (fun v34_19 w =>
 oM Tryz.prog (.load 205 (.tmp 0)) 205 [v34_19] (fun v35_20 w =>
 oM Tryz.prog (.binOp .rem 3 (.tmp 0) (.tmp 1) 3) 3 [(l_16.getD 1 undef), (.int .i64 4)] (fun v37_21 w =>
 oM Tryz.prog (.binOp .mul 3 (.tmp 0) (.tmp 1) 3) 3 [(.int .i64 8), v37_21] (fun v38_22 w =>
 oM Tryz.prog (.binOp .sub 3 (.tmp 0) (.tmp 1) 3) 3 [(.int .i64 24), v38_22] (fun v39_23 w =>
 oM Tryz.prog (.binOp .shr 205 (.tmp 0) (.tmp 1) 3) 205 [v35_20, v39_23] (fun v40_24 w =>
 oM Tryz.prog (.convert 205 5 (.tmp 0)) 5 [v40_24] (fun v41_25 w =>
 oM Tryz.prog (.buildSlice 189 1 #[(0, (.tmp 0))]) 189 [v41_25] (fun v42_26 w =>
 oM Tryz.prog (.call (Go.Call.mk (.builtin .append) #[(.tmp 0), (.tmp 1)] #[189, 189])) 189 [(l_16.getD 0 undef), v42_26] (fun v43_27 w =>
 oM Tryz.prog (.binOp .add 3 (.tmp 0) (.tmp 1) 3) 3 [(l_16.getD 1 undef), (.int .i64 1)] (fun v29_28 w =>
 J_14 [v43_27, v29_28] w ∧ m_15 [v43_27, v29_28] w < m_15 l_16 w0_l_16) w) w) w) w) w) w) w) w) w) w) w)
 (oM Tryz.prog (.convert 189 9 (.tmp 0)) 9 [(l_16.getD 0 undef)] (fun v45_29 w =>
 K v45_29 w) w)) w)) w0_l_16)) w)) w) w)) w0_l_6)) w) w) w
theorem sh_173_eq (a0 : Value) (K : Value → World → Prop) (w : World) : sh_173 a0 K w = code Tryz.prog (fun _ => 0) 46 (Tryz.f173.body.getD .skip) (slotsAt [a0]) (retK Tryz.prog [.tmp 2] K) w := by kernel_rfl
theorem sh_173_ok {a0 : Value} {K : Value → World → Prop} {w : World} (h : sh_173 a0 K w) : callM Tryz.prog 173 #[a0] K w :=
  calls_of_code (fun _ => 0) (fn := Tryz.f173) (rs := [.tmp 2]) Tryz.func173 rfl rfl (by kernel_rfl) (Nat.le_of_ble_eq_true rfl) ((sh_173_eq a0 K w).mp h)
def sh_198 (a0 : Value) (K : Value → World → Prop) (w : World) : Prop :=
 oM Tryz.prog (.buildSlice 189 0 #[]) 189 [] (fun v6_1 w =>
 oM Tryz.prog (.call (Go.Call.mk (.builtin .append) #[(.tmp 0), (.tmp 1)] #[189, 189])) 189 [v6_1, a0] (fun v8_2 w =>
 oM Tryz.prog (.buildSlice 189 1 #[(0, (.tmp 0))]) 189 [(.int .u8 128)] (fun v10_3 w =>
 oM Tryz.prog (.call (Go.Call.mk (.builtin .append) #[(.tmp 0), (.tmp 1)] #[189, 189])) 189 [v8_2, v10_3] (fun v11_4 w =>
 loopM [v11_4] w (fun J_5 m_6 l_7 u_l_7 w0_l_7 => (fun w => (
 oM Tryz.prog (.call (Go.Call.mk (.builtin .len) #[(.tmp 0)] #[189])) 3 [(l_7.getD 0 undef)] (fun v13_8 w =>
 oM Tryz.prog (.binOp .rem 3 (.tmp 0) (.tmp 1) 3) 3 [v13_8, (.int .i64 64)] (fun v14_9 w =>
 oM Tryz.prog (.binOp .neq 3 (.tmp 0) (.const (.int .i64 56)) 3) 4 [v14_9] (fun v15_10 w =>
 condM v15_10
 (oM Tryz.prog (.buildSlice 189 1 #[(0, (.tmp 0))]) 189 [(.int .u8 0)] (fun v17_11 w =>
 oM Tryz.prog (.call (Go.Call.mk (.builtin .append) #[(.tmp 0), (.tmp 1)] #[189, 189])) 189 [(l_7.getD 0 undef), v17_11] (fun v18_12 w =>
 J_5 [v18_12] w ∧ m_6 [v18_12] w < m_6 l_7 w0_l_7) w) w)
 (oM Tryz.prog (.call (Go.Call.mk (.builtin .len) #[(.tmp 0)] #[189])) 3 [a0] (fun v20_13 w =>
 oM Tryz.prog (.convert 3 123 (.tmp 0)) 123 [v20_13] (fun v21_14 w =>
 oM Tryz.prog (.binOp .mul 123 (.tmp 0) (.tmp 1) 123) 123 [(.int .u64 8), v21_14] (fun v22_15 w =>
 loopM [(l_7.getD 0 undef), (.int .i64 56)] w (fun J_16 m_17 l_18 u_l_18 w0_l_18 => (fun w => (
 oM Tryz.prog (.binOp .geq 3 (.tmp 0) (.tmp 1) 3) 4 [(l_18.getD 1 undef), (.int .i64 0)] (fun v24_19 w =>
 condM v24_19
 (oM Tryz.prog (.binOp .shr 123 (.tmp 0) (.tmp 1) 3) 123 [v22_15, (l_18.getD 1 undef)] (fun v30_20 w =>
 oM Tryz.prog (.convert 123 5 (.tmp 0)) 5 [v30_20] (fun v31_21 w =>
 oM Tryz.prog (.buildSlice 189 1 #[(0, (.tmp 0))]) 189 [v31_21] (fun v32_22 w =>
 oM Tryz.prog (.call (Go.Call.mk (.builtin .append) #[(.tmp 0), (.tmp 1)] #[189, 189])) 189 [(l_18.getD 0 undef), v32_22] (fun v33_23 w =>
 oM Tryz.prog (.binOp .sub 3 (.tmp 0) (.tmp 1) 3) 3 [(l_18.getD 1 undef), (.int .i64 8)] (fun v26_24 w =>
 J_16 [v33_23, v26_24] w ∧ m_17 [v33_23, v26_24] w < m_17 l_18 w0_l_18) w) w) w) w) w)
 (K (l_18.getD 0 undef) w)) w)) w0_l_18)) w) w) w)) w) w) w)) w0_l_7)) w) w) w) w
theorem sh_198_eq (a0 : Value) (K : Value → World → Prop) (w : World) : sh_198 a0 K w = code Tryz.prog (fun _ => 0) 35 (Tryz.f198.body.getD .skip) (slotsAt [a0]) (retK Tryz.prog [.tmp 2] K) w := by kernel_rfl
theorem sh_198_ok {a0 : Value} {K : Value → World → Prop} {w : World} (h : sh_198 a0 K w) : callM Tryz.prog 198 #[a0] K w :=
  calls_of_code (fun _ => 0) (fn := Tryz.f198) (rs := [.tmp 2]) Tryz.func198 rfl rfl (by kernel_rfl) (Nat.le_of_ble_eq_true rfl) ((sh_198_eq a0 K w).mp h)
def sh_199 (K : Value → World → Prop) (w : World) : Prop :=
 oM Tryz.prog (.buildSlice 211 8 #[(0, (.tmp 0)), (1, (.tmp 1)), (2, (.tmp 2)), (3, (.tmp 3)), (4, (.tmp 4)), (5, (.tmp 5)), (6, (.tmp 6)), (7, (.tmp 7))]) 211 [(.int .u32 1779033703), (.int .u32 3144134277), (.int .u32 1013904242), (.int .u32 2773480762), (.int .u32 1359893119), (.int .u32 2600822924), (.int .u32 528734635), (.int .u32 1541459225)] (fun v1_1 w =>
 K v1_1 w) w
theorem sh_199_eq (K : Value → World → Prop) (w : World) : sh_199 K w = code Tryz.prog (fun _ => 0) 2 (Tryz.f199.body.getD .skip) (slotsAt []) (retK Tryz.prog [.tmp 0] K) w := by kernel_rfl
theorem sh_199_ok {K : Value → World → Prop} {w : World} (h : sh_199 K w) : callM Tryz.prog 199 #[] K w :=
  calls_of_code (fun _ => 0) (fn := Tryz.f199) (rs := [.tmp 0]) Tryz.func199 rfl rfl (by kernel_rfl) (Nat.le_of_ble_eq_true rfl) ((sh_199_eq K w).mp h)
def sh_200 (a0 : Value) (a1 : Value) (K : Value → World → Prop) (w : World) : Prop :=
 callM Tryz.prog 219 #[a1] (fun v16_1 w =>
 callM Tryz.prog 220 #[] (fun v17_2 w =>
 oM Tryz.prog (.buildSlice 211 0 #[]) 211 [] (fun v18_3 w =>
 oM Tryz.prog (.call (Go.Call.mk (.builtin .append) #[(.tmp 0), (.tmp 1)] #[211, 211])) 211 [v18_3, a0] (fun v20_4 w =>
 loopM [undef, undef, undef, undef, undef, v20_4, (.int .i64 0)] w (fun J_5 m_6 l_7 u_l_7 w0_l_7 => (fun w => (
 oM Tryz.prog (.binOp .lss 3 (.tmp 0) (.tmp 1) 3) 4 [(l_7.getD 6 undef), (.int .i64 64)] (fun v22_8 w =>
 condM v22_8
 (quietM w (fun C_9 => (oQ Tryz.prog (.indexAddr 211 (.tmp 0) (.tmp 1)) 0 [(l_7.getD 5 undef), (.int .i64 4)] C_9 (fun v26_10 =>
 oQ Tryz.prog (.load 205 (.tmp 0)) 205 [v26_10] C_9 (fun v27_11 =>
 callQ Tryz.prog 221 #[v27_11, (.int .i64 6)] C_9 (fun v28_12 =>
 oQ Tryz.prog (.indexAddr 211 (.tmp 0) (.tmp 1)) 0 [(l_7.getD 5 undef), (.int .i64 4)] C_9 (fun v30_13 =>
 oQ Tryz.prog (.load 205 (.tmp 0)) 205 [v30_13] C_9 (fun v31_14 =>
 callQ Tryz.prog 221 #[v31_14, (.int .i64 11)] C_9 (fun v32_15 =>
 oQ Tryz.prog (.binOp .xor 205 (.tmp 0) (.tmp 1) 205) 205 [v28_12, v32_15] C_9 (fun v33_16 =>
 oQ Tryz.prog (.indexAddr 211 (.tmp 0) (.tmp 1)) 0 [(l_7.getD 5 undef), (.int .i64 4)] C_9 (fun v35_17 =>
 oQ Tryz.prog (.load 205 (.tmp 0)) 205 [v35_17] C_9 (fun v36_18 =>
 callQ Tryz.prog 221 #[v36_18, (.int .i64 25)] C_9 (fun v37_19 =>
 oQ Tryz.prog (.binOp .xor 205 (.tmp 0) (.tmp 1) 205) 205 [v33_16, v37_19] C_9 (fun v38_20 =>
 ∀ w, C_9 w → (quietM w (fun C_21 => (oQ Tryz.prog (.indexAddr 211 (.tmp 0) (.tmp 1)) 0 [(l_7.getD 5 undef), (.int .i64 4)] C_21 (fun v40_22 =>
 oQ Tryz.prog (.load 205 (.tmp 0)) 205 [v40_22] C_21 (fun v41_23 =>
 oQ Tryz.prog (.indexAddr 211 (.tmp 0) (.tmp 1)) 0 [(l_7.getD 5 undef), (.int .i64 5)] C_21 (fun v43_24 =>
 oQ Tryz.prog (.load 205 (.tmp 0)) 205 [v43_24] C_21 (fun v44_25 =>
 oQ Tryz.prog (.binOp .and 205 (.tmp 0) (.tmp 1) 205) 205 [v41_23, v44_25] C_21 (fun v45_26 =>
 oQ Tryz.prog (.indexAddr 211 (.tmp 0) (.tmp 1)) 0 [(l_7.getD 5 undef), (.int .i64 4)] C_21 (fun v47_27 =>
 oQ Tryz.prog (.load 205 (.tmp 0)) 205 [v47_27] C_21 (fun v48_28 =>
 oQ Tryz.prog (.unOp .xor 205 (.tmp 0)) 205 [v48_28] C_21 (fun v49_29 =>
 oQ Tryz.prog (.indexAddr 211 (.tmp 0) (.tmp 1)) 0 [(l_7.getD 5 undef), (.int .i64 6)] C_21 (fun v51_30 =>
 oQ Tryz.prog (.load 205 (.tmp 0)) 205 [v51_30] C_21 (fun v52_31 =>
 oQ Tryz.prog (.binOp .and 205 (.tmp 0) (.tmp 1) 205) 205 [v49_29, v52_31] C_21 (fun v53_32 =>
 oQ Tryz.prog (.binOp .xor 205 (.tmp 0) (.tmp 1) 205) 205 [v45_26, v53_32] C_21 (fun v54_33 =>
 ∀ w, C_21 w → (quietM w (fun C_34 => (oQ Tryz.prog (.indexAddr 211 (.tmp 0) (.tmp 1)) 0 [(l_7.getD 5 undef), (.int .i64 7)] C_34 (fun v56_35 =>
 oQ Tryz.prog (.load 205 (.tmp 0)) 205 [v56_35] C_34 (fun v57_36 =>
 oQ Tryz.prog (.binOp .add 205 (.tmp 0) (.tmp 1) 205) 205 [v57_36, v38_20] C_34 (fun v59_37 =>
 oQ Tryz.prog (.binOp .add 205 (.tmp 0) (.tmp 1) 205) 205 [v59_37, v54_33] C_34 (fun v61_38 =>
 oQ Tryz.prog (.indexAddr 211 (.tmp 0) (.tmp 1)) 0 [v17_2, (l_7.getD 6 undef)] C_34 (fun v64_39 =>
 oQ Tryz.prog (.load 205 (.tmp 0)) 205 [v64_39] C_34 (fun v65_40 =>
 oQ Tryz.prog (.binOp .add 205 (.tmp 0) (.tmp 1) 205) 205 [v61_38, v65_40] C_34 (fun v66_41 =>
 oQ Tryz.prog (.indexAddr 211 (.tmp 0) (.tmp 1)) 0 [v16_1, (l_7.getD 6 undef)] C_34 (fun v69_42 =>
 oQ Tryz.prog (.load 205 (.tmp 0)) 205 [v69_42] C_34 (fun v70_43 =>
 oQ Tryz.prog (.binOp .add 205 (.tmp 0) (.tmp 1) 205) 205 [v66_41, v70_43] C_34 (fun v71_44 =>
 ∀ w, C_34 w → (quietM w (fun C_45 => (oQ Tryz.prog (.indexAddr 211 (.tmp 0) (.tmp 1)) 0 [(l_7.getD 5 undef), (.int .i64 0)] C_45 (fun v73_46 =>
 oQ Tryz.prog (.load 205 (.tmp 0)) 205 [v73_46] C_45 (fun v74_47 =>
 callQ Tryz.prog 221 #[v74_47, (.int .i64 2)] C_45 (fun v75_48 =>
 oQ Tryz.prog (.indexAddr 211 (.tmp 0) (.tmp 1)) 0 [(l_7.getD 5 undef), (.int .i64 0)] C_45 (fun v77_49 =>
 oQ Tryz.prog (.load 205 (.tmp 0)) 205 [v77_49] C_45 (fun v78_50 =>
 callQ Tryz.prog 221 #[v78_50, (.int .i64 13)] C_45 (fun v79_51 =>
 oQ Tryz.prog (.binOp .xor 205 (.tmp 0) (.tmp 1) 205) 205 [v75_48, v79_51] C_45 (fun v80_52 =>
 oQ Tryz.prog (.indexAddr 211 (.tmp 0) (.tmp 1)) 0 [(l_7.getD 5 undef), (.int .i64 0)] C_45 (fun v82_53 =>
 oQ Tryz.prog (.load 205 (.tmp 0)) 205 [v82_53] C_45 (fun v83_54 =>
 callQ Tryz.prog 221 #[v83_54, (.int .i64 22)] C_45 (fun v84_55 =>
 oQ Tryz.prog (.binOp .xor 205 (.tmp 0) (.tmp 1) 205) 205 [v80_52, v84_55] C_45 (fun v85_56 =>
 ∀ w, C_45 w → (quietM w (fun C_57 => (oQ Tryz.prog (.indexAddr 211 (.tmp 0) (.tmp 1)) 0 [(l_7.getD 5 undef), (.int .i64 0)] C_57 (fun v87_58 =>
 oQ Tryz.prog (.load 205 (.tmp 0)) 205 [v87_58] C_57 (fun v88_59 =>
 oQ Tryz.prog (.indexAddr 211 (.tmp 0) (.tmp 1)) 0 [(l_7.getD 5 undef), (.int .i64 1)] C_57 (fun v90_60 =>
 oQ Tryz.prog (.load 205 (.tmp 0)) 205 [v90_60] C_57 (fun v91_61 =>
 oQ Tryz.prog (.binOp .and 205 (.tmp 0) (.tmp 1) 205) 205 [v88_59, v91_61] C_57 (fun v92_62 =>
 oQ Tryz.prog (.indexAddr 211 (.tmp 0) (.tmp 1)) 0 [(l_7.getD 5 undef), (.int .i64 0)] C_57 (fun v94_63 =>
 oQ Tryz.prog (.load 205 (.tmp 0)) 205 [v94_63] C_57 (fun v95_64 =>
 oQ Tryz.prog (.indexAddr 211 (.tmp 0) (.tmp 1)) 0 [(l_7.getD 5 undef), (.int .i64 2)] C_57 (fun v97_65 =>
 oQ Tryz.prog (.load 205 (.tmp 0)) 205 [v97_65] C_57 (fun v98_66 =>
 oQ Tryz.prog (.binOp .and 205 (.tmp 0) (.tmp 1) 205) 205 [v95_64, v98_66] C_57 (fun v99_67 =>
 oQ Tryz.prog (.binOp .xor 205 (.tmp 0) (.tmp 1) 205) 205 [v92_62, v99_67] C_57 (fun v100_68 =>
 oQ Tryz.prog (.indexAddr 211 (.tmp 0) (.tmp 1)) 0 [(l_7.getD 5 undef), (.int .i64 1)] C_57 (fun v102_69 =>
 oQ Tryz.prog (.load 205 (.tmp 0)) 205 [v102_69] C_57 (fun v103_70 =>
 oQ Tryz.prog (.indexAddr 211 (.tmp 0) (.tmp 1)) 0 [(l_7.getD 5 undef), (.int .i64 2)] C_57 (fun v105_71 =>
 oQ Tryz.prog (.load 205 (.tmp 0)) 205 [v105_71] C_57 (fun v106_72 =>
 oQ Tryz.prog (.binOp .and 205 (.tmp 0) (.tmp 1) 205) 205 [v103_70, v106_72] C_57 (fun v107_73 =>
 oQ Tryz.prog (.binOp .xor 205 (.tmp 0) (.tmp 1) 205) 205 [v100_68, v107_73] C_57 (fun v108_74 =>
 ∀ w, C_57 w → (heldM w (fun C_75 w => (((true : Bool) = true) ∧ (pureH v71_44 C_75 (fun v109_76 =>
 pureH v85_56 C_75 (fun v110_77 =>
 oH Tryz.prog (.binOp .add 205 (.tmp 0) (.tmp 1) 205) 205 [v109_76, v110_77] C_75 (fun v111_78 =>
 pureH v108_74 C_75 (fun v112_79 =>
 oH Tryz.prog (.binOp .add 205 (.tmp 0) (.tmp 1) 205) 205 [v111_78, v112_79] C_75 (fun v113_80 =>
 pureH (l_7.getD 5 undef) C_75 (fun v114_81 =>
 oH Tryz.prog (.indexAddr 211 (.tmp 0) (.tmp 1)) 0 [v114_81, (.int .i64 0)] C_75 (fun v115_82 =>
 oH Tryz.prog (.load 205 (.tmp 0)) 205 [v115_82] C_75 (fun v116_83 =>
 pureH (l_7.getD 5 undef) C_75 (fun v117_84 =>
 oH Tryz.prog (.indexAddr 211 (.tmp 0) (.tmp 1)) 0 [v117_84, (.int .i64 1)] C_75 (fun v118_85 =>
 oH Tryz.prog (.load 205 (.tmp 0)) 205 [v118_85] C_75 (fun v119_86 =>
 pureH (l_7.getD 5 undef) C_75 (fun v120_87 =>
 oH Tryz.prog (.indexAddr 211 (.tmp 0) (.tmp 1)) 0 [v120_87, (.int .i64 2)] C_75 (fun v121_88 =>
 oH Tryz.prog (.load 205 (.tmp 0)) 205 [v121_88] C_75 (fun v122_89 =>
 pureH (l_7.getD 5 undef) C_75 (fun v123_90 =>
 oH Tryz.prog (.indexAddr 211 (.tmp 0) (.tmp 1)) 0 [v123_90, (.int .i64 3)] C_75 (fun v124_91 =>
 oH Tryz.prog (.load 205 (.tmp 0)) 205 [v124_91] C_75 (fun v125_92 =>
 pureH v71_44 C_75 (fun v126_93 =>
 oH Tryz.prog (.binOp .add 205 (.tmp 0) (.tmp 1) 205) 205 [v125_92, v126_93] C_75 (fun v127_94 =>
 pureH (l_7.getD 5 undef) C_75 (fun v128_95 =>
 oH Tryz.prog (.indexAddr 211 (.tmp 0) (.tmp 1)) 0 [v128_95, (.int .i64 4)] C_75 (fun v129_96 =>
 oH Tryz.prog (.load 205 (.tmp 0)) 205 [v129_96] C_75 (fun v130_97 =>
 pureH (l_7.getD 5 undef) C_75 (fun v131_98 =>
 oH Tryz.prog (.indexAddr 211 (.tmp 0) (.tmp 1)) 0 [v131_98, (.int .i64 5)] C_75 (fun v132_99 =>
 oH Tryz.prog (.load 205 (.tmp 0)) 205 [v132_99] C_75 (fun v133_100 =>
 pureH (l_7.getD 5 undef) C_75 (fun v134_101 =>
 oH Tryz.prog (.indexAddr 211 (.tmp 0) (.tmp 1)) 0 [v134_101, (.int .i64 6)] C_75 (fun v135_102 =>
 oH Tryz.prog (.load 205 (.tmp 0)) 205 [v135_102] C_75 (fun v136_103 =>
 ∃ S_104 : World → World → Prop, ∀ w, C_75 w → (
 oM Tryz.prog (.buildSlice 211 8 #[(0, (.tmp 0)), (1, (.tmp 1)), (2, (.tmp 2)), (3, (.tmp 3)), (4, (.tmp 4)), (5, (.tmp 5)), (6, (.tmp 6)), (7, (.tmp 7))]) 211 [v113_80, v116_83, v119_86, v122_89, v127_94, v130_97, v133_100, v136_103] (fun v137_105 w =>
 oM Tryz.prog (.binOp .add 3 (.tmp 0) (.tmp 1) 3) 3 [(l_7.getD 6 undef), (.int .i64 1)] (fun v24_106 w =>
 J_5 [v38_20, v54_33, v71_44, v85_56, v108_74, v137_105, v24_106] w ∧ m_6 [v38_20, v54_33, v71_44, v85_56, v108_74, v137_105, v24_106] w < m_6 l_7 w0_l_7) w) w)))))))))))))))))))))))))))))))))))))))))))))))))))))))))))))))))))))))))))))))))))))))))))))))))))))))))))))
 (loopM [(.int .i64 0)] w (fun J_107 m_108 l_109 u_l_109 w0_l_109 => (fun w => (
 oM Tryz.prog (.binOp .lss 3 (.tmp 0) (.tmp 1) 3) 4 [(l_109.getD 0 undef), (.int .i64 8)] (fun v139_110 w =>
 condM v139_110
 (heldM w (fun C_111 w => (((true : Bool) = true) ∧ (pureH (l_7.getD 5 undef) C_111 (fun v142_112 =>
 pureH (l_109.getD 0 undef) C_111 (fun v143_113 =>
 pureH (l_7.getD 5 undef) C_111 (fun v144_114 =>
 pureH (l_109.getD 0 undef) C_111 (fun v145_115 =>
 oH Tryz.prog (.indexAddr 211 (.tmp 0) (.tmp 1)) 0 [v144_114, v145_115] C_111 (fun v146_116 =>
 oH Tryz.prog (.load 205 (.tmp 0)) 205 [v146_116] C_111 (fun v147_117 =>
 pureH a0 C_111 (fun v148_118 =>
 pureH (l_109.getD 0 undef) C_111 (fun v149_119 =>
 oH Tryz.prog (.indexAddr 211 (.tmp 0) (.tmp 1)) 0 [v148_118, v149_119] C_111 (fun v150_120 =>
 oH Tryz.prog (.load 205 (.tmp 0)) 205 [v150_120] C_111 (fun v151_121 =>
 oH Tryz.prog (.binOp .add 205 (.tmp 0) (.tmp 1) 205) 205 [v147_117, v151_121] C_111 (fun v152_122 =>
 oH Tryz.prog (.indexAddr 211 (.tmp 0) (.tmp 1)) 0 [v142_112, v143_113] C_111 (fun v153_123 =>
 ∃ S_124 : World → World → Prop, ∀ w, C_111 w → (
 oM Tryz.prog (.store 205 (.tmp 0) (.tmp 1)) 0 [v153_123, v152_122] (fun _ w =>
 oM Tryz.prog (.binOp .add 3 (.tmp 0) (.tmp 1) 3) 3 [(l_109.getD 0 undef), (.int .i64 1)] (fun v141_125 w =>
 J_107 [v141_125] w ∧ m_108 [v141_125] w < m_108 l_109 w0_l_109) w) w)))))))))))))))))
 (K (l_7.getD 5 undef) w)) w)) w0_l_109))) w)) w0_l_7)) w) w) w) w
theorem sh_200_eq (a0 : Value) (a1 : Value) (K : Value → World → Prop) (w : World) : sh_200 a0 a1 K w = code Tryz.prog (fun i => bif Nat.beq i 7 then 0 else bif Nat.beq i 8 then 0 else bif Nat.beq i 9 then 0 else bif Nat.beq i 10 then 0 else bif Nat.beq i 11 then 0 else bif Nat.beq i 12 then .free [0, 1, 2, 3, 4, 5, 6, 7, 8, 9, 10, 11, 12, 13, 14, 15, 16, 17, 18, 19, 20, 21, 22, 23, 24, 25, 26, 27] [] [28, 29] else bif Nat.beq i 16 then .free [0, 1, 2, 3, 4, 5, 6, 7, 8, 9, 10, 11] [] [12] else 0) 155 (Tryz.f200.body.getD .skip) (slotsAt [a0, a1]) (retK Tryz.prog [.tmp 4] K) w := by kernel_rfl
theorem sh_200_ok {a0 a1 : Value} {K : Value → World → Prop} {w : World} (h : sh_200 a0 a1 K w) : callM Tryz.prog 200 #[a0, a1] K w :=
  calls_of_code (fun i => bif Nat.beq i 7 then 0 else bif Nat.beq i 8 then 0 else bif Nat.beq i 9 then 0 else bif Nat.beq i 10 then 0 else bif Nat.beq i 11 then 0 else bif Nat.beq i 12 then .free [0, 1, 2, 3, 4, 5, 6, 7, 8, 9, 10, 11, 12, 13, 14, 15, 16, 17, 18, 19, 20, 21, 22, 23, 24, 25, 26, 27] [] [28, 29] else bif Nat.beq i 16 then .free [0, 1, 2, 3, 4, 5, 6, 7, 8, 9, 10, 11] [] [12] else 0) (fn := Tryz.f200) (rs := [.tmp 4]) Tryz.func200 rfl rfl (by kernel_rfl) (Nat.le_of_ble_eq_true rfl) ((sh_200_eq a0 a1 K w).mp h)
def sh_219 (a0 : Value) (K : Value → World → Prop) (w : World) : Prop :=
 loopM [(.slice none 0 0), (.int .i64 0)] w (fun J_1 m_2 l_3 u_l_3 w0_l_3 => (fun w => (
 oM Tryz.prog (.binOp .lss 3 (.tmp 0) (.tmp 1) 3) 4 [(l_3.getD 1 undef), (.int .i64 16)] (fun v11_4 w =>
 condM v11_4
 (heldM w (fun C_5 w => (((true : Bool) = true) ∧ (pureH (l_3.getD 0 undef) C_5 (fun v14_6 =>
 pureH a0 C_5 (fun v15_7 =>
 pureH (l_3.getD 1 undef) C_5 (fun v16_8 =>
 oH Tryz.prog (.binOp .mul 3 (.tmp 0) (.tmp 1) 3) 3 [(.int .i64 4), v16_8] C_5 (fun v17_9 =>
 oH Tryz.prog (.indexAddr 189 (.tmp 0) (.tmp 1)) 0 [v15_7, v17_9] C_5 (fun v18_10 =>
 oH Tryz.prog (.load 5 (.tmp 0)) 5 [v18_10] C_5 (fun v19_11 =>
 oH Tryz.prog (.convert 5 205 (.tmp 0)) 205 [v19_11] C_5 (fun v20_12 =>
 oH Tryz.prog (.binOp .shl 205 (.tmp 0) (.tmp 1) 176) 205 [v20_12, (.int .u64 24)] C_5 (fun v21_13 =>
 pureH a0 C_5 (fun v22_14 =>
 pureH (l_3.getD 1 undef) C_5 (fun v23_15 =>
 oH Tryz.prog (.binOp .mul 3 (.tmp 0) (.tmp 1) 3) 3 [(.int .i64 4), v23_15] C_5 (fun v24_16 =>
 oH Tryz.prog (.binOp .add 3 (.tmp 0) (.tmp 1) 3) 3 [v24_16, (.int .i64 1)] C_5 (fun v25_17 =>
 oH Tryz.prog (.indexAddr 189 (.tmp 0) (.tmp 1)) 0 [v22_14, v25_17] C_5 (fun v26_18 =>
 oH Tryz.prog (.load 5 (.tmp 0)) 5 [v26_18] C_5 (fun v27_19 =>
 oH Tryz.prog (.convert 5 205 (.tmp 0)) 205 [v27_19] C_5 (fun v28_20 =>
 oH Tryz.prog (.binOp .shl 205 (.tmp 0) (.tmp 1) 176) 205 [v28_20, (.int .u64 16)] C_5 (fun v29_21 =>
 oH Tryz.prog (.binOp .or 205 (.tmp 0) (.tmp 1) 205) 205 [v21_13, v29_21] C_5 (fun v30_22 =>
 pureH a0 C_5 (fun v31_23 =>
 pureH (l_3.getD 1 undef) C_5 (fun v32_24 =>
 oH Tryz.prog (.binOp .mul 3 (.tmp 0) (.tmp 1) 3) 3 [(.int .i64 4), v32_24] C_5 (fun v33_25 =>
 oH Tryz.prog (.binOp .add 3 (.tmp 0) (.tmp 1) 3) 3 [v33_25, (.int .i64 2)] C_5 (fun v34_26 =>
 oH Tryz.prog (.indexAddr 189 (.tmp 0) (.tmp 1)) 0 [v31_23, v34_26] C_5 (fun v35_27 =>
 oH Tryz.prog (.load 5 (.tmp 0)) 5 [v35_27] C_5 (fun v36_28 =>
 oH Tryz.prog (.convert 5 205 (.tmp 0)) 205 [v36_28] C_5 (fun v37_29 =>
 oH Tryz.prog (.binOp .shl 205 (.tmp 0) (.tmp 1) 176) 205 [v37_29, (.int .u64 8)] C_5 (fun v38_30 =>
 oH Tryz.prog (.binOp .or 205 (.tmp 0) (.tmp 1) 205) 205 [v30_22, v38_30] C_5 (fun v39_31 =>
 pureH a0 C_5 (fun v40_32 =>
 pureH (l_3.getD 1 undef) C_5 (fun v41_33 =>
 oH Tryz.prog (.binOp .mul 3 (.tmp 0) (.tmp 1) 3) 3 [(.int .i64 4), v41_33] C_5 (fun v42_34 =>
 oH Tryz.prog (.binOp .add 3 (.tmp 0) (.tmp 1) 3) 3 [v42_34, (.int .i64 3)] C_5 (fun v43_35 =>
 oH Tryz.prog (.indexAddr 189 (.tmp 0) (.tmp 1)) 0 [v40_32, v43_35] C_5 (fun v44_36 =>
 oH Tryz.prog (.load 5 (.tmp 0)) 5 [v44_36] C_5 (fun v45_37 =>
 oH Tryz.prog (.convert 5 205 (.tmp 0)) 205 [v45_37] C_5 (fun v46_38 =>
 oH Tryz.prog (.binOp .or 205 (.tmp 0) (.tmp 1) 205) 205 [v39_31, v46_38] C_5 (fun v47_39 =>
 ∃ S_40 : World → World → Prop, ∃ R_41 : Value → World → Prop, (∀ v w w_1, S_40 w w_1 → R_41 v w → R_41 v w_1) ∧
 (∀ w, C_5 w → (oM Tryz.prog (.buildSlice 211 1 #[(0, (.tmp 0))]) 211 [v47_39] (fun v w_1 => C_5 w_1 ∧ S_40 w w_1 ∧ R_41 v w_1) w)) ∧
 (∀ w, C_5 w → ∀ v48_42, R_41 v48_42 w → (
 oM Tryz.prog (.call (Go.Call.mk (.builtin .append) #[(.tmp 0), (.tmp 1)] #[211, 211])) 211 [v14_6, v48_42] (fun v49_43 w =>
 oM Tryz.prog (.binOp .add 3 (.tmp 0) (.tmp 1) 3) 3 [(l_3.getD 1 undef), (.int .i64 1)] (fun v13_44 w =>
 J_1 [v49_43, v13_44] w ∧ m_2 [v49_43, v13_44] w < m_2 l_3 w0_l_3) w) w))))))))))))))))))))))))))))))))))))))))
 (loopM [undef, undef, undef, undef, (l_3.getD 0 undef), (.int .i64 16)] w (fun J_45 m_46 l_47 u_l_47 w0_l_47 => (fun w => (
 oM Tryz.prog (.binOp .lss 3 (.tmp 0) (.tmp 1) 3) 4 [(l_47.getD 5 undef), (.int .i64 64)] (fun v51_48 w =>
 condM v51_48
 (oM Tryz.prog (.binOp .sub 3 (.tmp 0) (.tmp 1) 3) 3 [(l_47.getD 5 undef), (.int .i64 15)] (fun v56_49 w =>
 oM Tryz.prog (.indexAddr 211 (.tmp 0) (.tmp 1)) 0 [(l_47.getD 4 undef), v56_49] (fun v57_50 w =>
 oM Tryz.prog (.load 205 (.tmp 0)) 205 [v57_50] (fun v58_51 w =>
 oM Tryz.prog (.binOp .sub 3 (.tmp 0) (.tmp 1) 3) 3 [(l_47.getD 5 undef), (.int .i64 2)] (fun v61_52 w =>
 oM Tryz.prog (.indexAddr 211 (.tmp 0) (.tmp 1)) 0 [(l_47.getD 4 undef), v61_52] (fun v62_53 w =>
 oM Tryz.prog (.load 205 (.tmp 0)) 205 [v62_53] (fun v63_54 w =>
 callM Tryz.prog 221 #[v58_51, (.int .i64 7)] (fun v65_55 w =>
 callM Tryz.prog 221 #[v58_51, (.int .i64 18)] (fun v67_56 w =>
 oM Tryz.prog (.binOp .xor 205 (.tmp 0) (.tmp 1) 205) 205 [v65_55, v67_56] (fun v68_57 w =>
 oM Tryz.prog (.binOp .shr 205 (.tmp 0) (.tmp 1) 176) 205 [v58_51, (.int .u64 3)] (fun v70_58 w =>
 oM Tryz.prog (.binOp .xor 205 (.tmp 0) (.tmp 1) 205) 205 [v68_57, v70_58] (fun v71_59 w =>
 callM Tryz.prog 221 #[v63_54, (.int .i64 17)] (fun v73_60 w =>
 callM Tryz.prog 221 #[v63_54, (.int .i64 19)] (fun v75_61 w =>
 oM Tryz.prog (.binOp .xor 205 (.tmp 0) (.tmp 1) 205) 205 [v73_60, v75_61] (fun v76_62 w =>
 oM Tryz.prog (.binOp .shr 205 (.tmp 0) (.tmp 1) 176) 205 [v63_54, (.int .u64 10)] (fun v78_63 w =>
 oM Tryz.prog (.binOp .xor 205 (.tmp 0) (.tmp 1) 205) 205 [v76_62, v78_63] (fun v79_64 w =>
 heldM w (fun C_65 w => (((true : Bool) = true) ∧ (pureH (l_47.getD 4 undef) C_65 (fun v80_66 =>
 pureH (l_47.getD 4 undef) C_65 (fun v81_67 =>
 pureH (l_47.getD 5 undef) C_65 (fun v82_68 =>
 oH Tryz.prog (.binOp .sub 3 (.tmp 0) (.tmp 1) 3) 3 [v82_68, (.int .i64 16)] C_65 (fun v83_69 =>
 oH Tryz.prog (.indexAddr 211 (.tmp 0) (.tmp 1)) 0 [v81_67, v83_69] C_65 (fun v84_70 =>
 oH Tryz.prog (.load 205 (.tmp 0)) 205 [v84_70] C_65 (fun v85_71 =>
 pureH v71_59 C_65 (fun v86_72 =>
 oH Tryz.prog (.binOp .add 205 (.tmp 0) (.tmp 1) 205) 205 [v85_71, v86_72] C_65 (fun v87_73 =>
 pureH (l_47.getD 4 undef) C_65 (fun v88_74 =>
 pureH (l_47.getD 5 undef) C_65 (fun v89_75 =>
 oH Tryz.prog (.binOp .sub 3 (.tmp 0) (.tmp 1) 3) 3 [v89_75, (.int .i64 7)] C_65 (fun v90_76 =>
 oH Tryz.prog (.indexAddr 211 (.tmp 0) (.tmp 1)) 0 [v88_74, v90_76] C_65 (fun v91_77 =>
 oH Tryz.prog (.load 205 (.tmp 0)) 205 [v91_77] C_65 (fun v92_78 =>
 oH Tryz.prog (.binOp .add 205 (.tmp 0) (.tmp 1) 205) 205 [v87_73, v92_78] C_65 (fun v93_79 =>
 pureH v79_64 C_65 (fun v94_80 =>
 oH Tryz.prog (.binOp .add 205 (.tmp 0) (.tmp 1) 205) 205 [v93_79, v94_80] C_65 (fun v95_81 =>
 ∃ S_82 : World → World → Prop, ∃ R_83 : Value → World → Prop, (∀ v w w_1, S_82 w w_1 → R_83 v w → R_83 v w_1) ∧
 (∀ w, C_65 w → (oM Tryz.prog (.buildSlice 211 1 #[(0, (.tmp 0))]) 211 [v95_81] (fun v w_1 => C_65 w_1 ∧ S_82 w w_1 ∧ R_83 v w_1) w)) ∧
 (∀ w, C_65 w → ∀ v96_84, R_83 v96_84 w → (
 oM Tryz.prog (.call (Go.Call.mk (.builtin .append) #[(.tmp 0), (.tmp 1)] #[211, 211])) 211 [v80_66, v96_84] (fun v97_85 w =>
 oM Tryz.prog (.binOp .add 3 (.tmp 0) (.tmp 1) 3) 3 [(l_47.getD 5 undef), (.int .i64 1)] (fun v53_86 w =>
 J_45 [v58_51, v63_54, v71_59, v79_64, v97_85, v53_86] w ∧ m_46 [v58_51, v63_54, v71_59, v79_64, v97_85, v53_86] w < m_46 l_47 w0_l_47) w) w)))))))))))))))))))))) w) w) w) w) w) w) w) w) w) w) w) w) w) w) w) w)
 (K (l_47.getD 4 undef) w)) w)) w0_l_47))) w)) w0_l_3)
theorem sh_219_eq (a0 : Value) (K : Value → World → Prop) (w : World) : sh_219 a0 K w = code Tryz.prog (fun i => bif Nat.beq i 5 then .free [0, 1, 2, 3, 4, 5, 6, 7, 8, 9, 10, 11, 12, 13, 14, 15, 16, 17, 18, 19, 20, 21, 22, 23, 24, 25, 26, 27, 28, 29, 30, 31, 32, 33] [34] [35, 36] else bif Nat.beq i 13 then .free [0, 1, 2, 3, 4, 5, 6, 7, 8, 9, 10, 11, 12, 13, 14, 15] [16] [17, 18] else 0) 99 (Tryz.f219.body.getD .skip) (slotsAt [a0]) (retK Tryz.prog [.tmp 2] K) w := by kernel_rfl
theorem sh_219_ok {a0 : Value} {K : Value → World → Prop} {w : World} (h : sh_219 a0 K w) : callM Tryz.prog 219 #[a0] K w :=
  calls_of_code (fun i => bif Nat.beq i 5 then .free [0, 1, 2, 3, 4, 5, 6, 7, 8, 9, 10, 11, 12, 13, 14, 15, 16, 17, 18, 19, 20, 21, 22, 23, 24, 25, 26, 27, 28, 29, 30, 31, 32, 33] [34] [35, 36] else bif Nat.beq i 13 then .free [0, 1, 2, 3, 4, 5, 6, 7, 8, 9, 10, 11, 12, 13, 14, 15] [16] [17, 18] else 0) (fn := Tryz.f219) (rs := [.tmp 2]) Tryz.func219 rfl rfl (by kernel_rfl) (Nat.le_of_ble_eq_true rfl) ((sh_219_eq a0 K w).mp h)
def sh_220 (K : Value → World → Prop) (w : World) : Prop :=
 oM Tryz.prog (.buildSlice 211 64 #[(0, (.tmp 0)), (1, (.tmp 1)), (2, (.tmp 2)), (3, (.tmp 3)), (4, (.tmp 4)), (5, (.tmp 5)), (6, (.tmp 6)), (7, (.tmp 7)), (8, (.tmp 8)), (9, (.tmp 9)), (10, (.tmp 10)), (11, (.tmp 11)), (12, (.tmp 12)), (13, (.tmp 13)), (14, (.tmp 14)), (15, (.tmp 15)), (16, (.tmp 16)), (17, (.tmp 17)), (18, (.tmp 18)), (19, (.tmp 19)), (20, (.tmp 20)), (21, (.tmp 21)), (22, (.tmp 22)), (23, (.tmp 23)), (24, (.tmp 24)), (25, (.tmp 25)), (26, (.tmp 26)), (27, (.tmp 27)), (28, (.tmp 28)), (29, (.tmp 29)), (30, (.tmp 30)), (31, (.tmp 31)), (32, (.tmp 32)), (33, (.tmp 33)), (34, (.tmp 34)), (35, (.tmp 35)), (36, (.tmp 36)), (37, (.tmp 37)), (38, (.tmp 38)), (39, (.tmp 39)), (40, (.tmp 40)), (41, (.tmp 41)), (42, (.tmp 42)), (43, (.tmp 43)), (44, (.tmp 44)), (45, (.tmp 45)), (46, (.tmp 46)), (47, (.tmp 47)), (48, (.tmp 48)), (49, (.tmp 49)), (50, (.tmp 50)), (51, (.tmp 51)), (52, (.tmp 52)), (53, (.tmp 53)), (54, (.tmp 54)), (55, (.tmp 55)), (56, (.tmp 56)), (57, (.tmp 57)), (58, (.tmp 58)), (59, (.tmp 59)), (60, (.tmp 60)), (61, (.tmp 61)), (62, (.tmp 62)), (63, (.tmp 63))]) 211 [(.int .u32 1116352408), (.int .u32 1899447441), (.int .u32 3049323471), (.int .u32 3921009573), (.int .u32 961987163), (.int .u32 1508970993), (.int .u32 2453635748), (.int .u32 2870763221), (.int .u32 3624381080), (.int .u32 310598401), (.int .u32 607225278), (.int .u32 1426881987), (.int .u32 1925078388), (.int .u32 2162078206), (.int .u32 2614888103), (.int .u32 3248222580), (.int .u32 3835390401), (.int .u32 4022224774), (.int .u32 264347078), (.int .u32 604807628), (.int .u32 770255983), (.int .u32 1249150122), (.int .u32 1555081692), (.int .u32 1996064986), (.int .u32 2554220882), (.int .u32 2821834349), (.int .u32 2952996808), (.int .u32 3210313671), (.int .u32 3336571891), (.int .u32 3584528711), (.int .u32 113926993), (.int .u32 338241895), (.int .u32 666307205), (.int .u32 773529912), (.int .u32 1294757372), (.int .u32 1396182291), (.int .u32 1695183700), (.int .u32 1986661051), (.int .u32 2177026350), (.int .u32 2456956037), (.int .u32 2730485921), (.int .u32 2820302411), (.int .u32 3259730800), (.int .u32 3345764771), (.int .u32 3516065817), (.int .u32 3600352804), (.int .u32 4094571909), (.int .u32 275423344), (.int .u32 430227734), (.int .u32 506948616), (.int .u32 659060556), (.int .u32 883997877), (.int .u32 958139571), (.int .u32 1322822218), (.int .u32 1537002063), (.int .u32 1747873779), (.int .u32 1955562222), (.int .u32 2024104815), (.int .u32 2227730452), (.int .u32 2361852424), (.int .u32 2428436474), (.int .u32 2756734187), (.int .u32 3204031479), (.int .u32 3329325298)] (fun v1_1 w =>
 K v1_1 w) w
theorem sh_220_eq (K : Value → World → Prop) (w : World) : sh_220 K w = code Tryz.prog (fun _ => 0) 2 (Tryz.f220.body.getD .skip) (slotsAt []) (retK Tryz.prog [.tmp 0] K) w := by kernel_rfl
theorem sh_220_ok {K : Value → World → Prop} {w : World} (h : sh_220 K w) : callM Tryz.prog 220 #[] K w :=
  calls_of_code (fun _ => 0) (fn := Tryz.f220) (rs := [.tmp 0]) Tryz.func220 rfl rfl (by kernel_rfl) (Nat.le_of_ble_eq_true rfl) ((sh_220_eq K w).mp h)
def sh_221 (a0 : Value) (a1 : Value) (K : Value → World → Prop) (w : World) : Prop :=
 quietM w (fun C_1 => (oQ Tryz.prog (.binOp .shr 205 (.tmp 0) (.tmp 1) 3) 205 [a0, a1] C_1 (fun v7_2 =>
 oQ Tryz.prog (.binOp .sub 3 (.tmp 0) (.tmp 1) 3) 3 [(.int .i64 32), a1] C_1 (fun v10_3 =>
 oQ Tryz.prog (.binOp .shl 205 (.tmp 0) (.tmp 1) 3) 205 [a0, v10_3] C_1 (fun v11_4 =>
 oQ Tryz.prog (.binOp .or 205 (.tmp 0) (.tmp 1) 205) 205 [v7_2, v11_4] C_1 (fun v12_5 =>
 ∀ w, C_1 w → (K v12_5 w)))))))
theorem sh_221_eq (a0 : Value) (a1 : Value) (K : Value → World → Prop) (w : World) : sh_221 a0 a1 K w = code Tryz.prog (fun _ => 0) 13 (Tryz.f221.body.getD .skip) (slotsAt [a0, a1]) (retK Tryz.prog [.tmp 4] K) w := by kernel_rfl
theorem sh_221_ok {a0 a1 : Value} {K : Value → World → Prop} {w : World} (h : sh_221 a0 a1 K w) : callM Tryz.prog 221 #[a0, a1] K w :=
  calls_of_code (fun _ => 0) (fn := Tryz.f221) (rs := [.tmp 4]) Tryz.func221 rfl rfl (by kernel_rfl) (Nat.le_of_ble_eq_true rfl) ((sh_221_eq a0 a1 K w).mp h)
end Go.Proofs
namespace FdSpec
def okN (n : Int) : Prop := 1 ≤ n ∧ n < 2305843009213693952
instance (n : Int) : Decidable (okN n) := inferInstanceAs (Decidable (_ ∧ _))
def addM (n a b : Int) : Int := if okN n then (a + b) % n else 0
def subM (n a b : Int) : Int := if okN n then (a - b) % n else 0
def mulM (n a b : Int) : Int := if okN n then a * b % n else 0
def pw (n a : Int) (b : Nat) : Int := a ^ b % n
def euc (n : Int) : Nat → Int → Int → Int → Int → Int × Int
  | 0, r, _, x, _ => (r, x)
  | k + 1, r, s, x, y => if s = 0 then (r, x) else euc n k s (r % s) y (subM n x (mulM n (r / s) y))
def eucAll (n r s x y : Int) : Int × Int := euc n (s.toNat + 1) r s x y
def invM (n a : Int) : Option Int := if okN n then (if (eucAll n n (a % n) 0 1).1 = 1 then some ((eucAll n n (a % n) 0 1).2 % n) else none) else none
def powM (n a b : Int) : Int :=
  if okN n then (if 0 ≤ b then pw n a b.toNat else match invM n a with | some x => pw n x (-b).toNat | none => 0) else 0
theorem euc_zero (n : Int) (k : Nat) (r x y : Int) : euc n k r 0 x y = (r, x) := by
  cases k <;> simp [euc]
theorem euc_more (n : Int) (k : Nat) (r s x y : Int) (hs : 0 ≤ s) (hk : s.toNat + 1 ≤ k) : euc n k r s x y = eucAll n r s x y := by
  unfold eucAll
  induction k using Nat.strongRecOn generalizing r s x y with
  | _ k ih =>
    cases k with
    | zero => omega
    | succ k =>
      by_cases h0 : s = 0
      · subst h0; simp [euc]
      · have h1 := Int.emod_nonneg r h0
        have h2 := Int.emod_lt_of_pos r (b := s) (by omega)
        have e1 : euc n (k + 1) r s x y = euc n k s (r % s) y (subM n x (mulM n (r / s) y)) := by
          rw [euc, if_neg h0]
        have e2 : euc n (s.toNat + 1) r s x y = euc n s.toNat s (r % s) y (subM n x (mulM n (r / s) y)) := by
          rw [euc, if_neg h0]
        rw [e1, e2]
        have h3 : (r % s).toNat + 1 ≤ s.toNat := by omega
        rw [ih k (by omega) s (r % s) _ _ h1 (by omega)]
        by_cases hks : s.toNat = k
        · rw [hks, ih k (by omega) s (r % s) _ _ h1 (by omega)]
        · rw [ih s.toNat (by omega) s (r % s) _ _ h1 h3]
theorem euc_step (n r s x y : Int) (hs : 0 < s) : eucAll n r s x y = eucAll n s (r % s) y (subM n x (mulM n (r / s) y)) := by
  have h1 := Int.emod_nonneg r (b := s) (by omega)
  have h2 := Int.emod_lt_of_pos r (b := s) hs
  rw [← euc_more n s.toNat s (r % s) _ _ h1 (by omega)]
  unfold eucAll
  rw [euc, if_neg (by omega)]
def tz : Nat → Nat → Nat
  | 0, _ => 0
  | k + 1, m => if m % 2 = 0 then tz k (m / 2) + 1 else 0
def mrUp (n : Int) : Nat → Int → Bool
  | 0, _ => false
  | k + 1, x => if x = n - 1 then true else mrUp n k (x * x % n)
def passes (n b : Int) : Bool :=
  let k := tz 64 (n - 1).toNat
  let x := pw n b ((n - 1).toNat / 2 ^ k)
  if x = 1 then true else mrUp n k x
def smallP : List Int := [2, 3, 5, 7, 11, 13, 17, 19, 23, 29, 31, 37]
def primeM (n : Int) : Bool :=
  if n < 2 ∨ 2305843009213693952 ≤ n then false
  else match smallP.find? (fun p => decide (n % p = 0)) with
    | some p => decide (n = p)
    | none => smallP.all (fun p => passes n p)
structure Grp where
  P : Int
  Q : Int
  G : Int
deriving DecidableEq
def validG (g : Grp) : Bool :=
  if g.Q < 5 ∨ 1152921504606846976 ≤ g.Q ∨ g.P ≠ 2 * g.Q + 1 ∨ g.G < 2 ∨ g.P ≤ g.G then false
  else primeM g.Q && primeM g.P && decide (pw g.P g.G g.Q.toNat = 1)
def elemG (g : Grp) (x : Int) : Bool := decide (1 ≤ x) && decide (x < g.P) && validG g && decide (pw g.P x g.Q.toNat = 1)
def powerG (g : Grp) (x k : Int) : Int := if okN g.P ∧ okN g.Q then pw g.P x (k % g.Q).toNat else 0
def timesG (g : Grp) (a b : Int) : Int := if okN g.Q then mulM g.P a b else 0
def prodL (g : Grp) : Int → List (Int × Int) → Int
  | out, [] => out
  | out, (b, e) :: l => prodL g (mulM g.P out (powerG g b e)) l
def prodG (g : Grp) (bases exps : List Int) : Int × Bool :=
  if okN g.P ∧ okN g.Q ∧ bases.length = exps.length then (prodL g (1 % g.P) (bases.zip exps), true) else (0, false)
end FdSpec
namespace FdSpec
theorem emod_pow (a n : Int) (k : Nat) : (a % n) ^ k % n = a ^ k % n := by
  induction k with
  | zero => rw [Int.pow_zero, Int.pow_zero]
  | succ k ih => rw [Int.pow_succ, Int.pow_succ, Int.mul_emod, ih, Int.emod_emod_of_dvd a (Int.dvd_refl n), ← Int.mul_emod]
theorem pow_half (a : Int) (b : Nat) : a ^ b = (a * a) ^ (b / 2) * a ^ (b % 2) := by
  have h1 : b = 2 * (b / 2) + b % 2 := (Nat.div_add_mod b 2).symm
  have h2 : ∀ k, a ^ (2 * k) = (a * a) ^ k := by
    intro k
    induction k with
    | zero => rw [Nat.mul_zero, Int.pow_zero, Int.pow_zero]
    | succ k ih => rw [Nat.mul_succ, Int.pow_succ, Int.pow_succ, Int.pow_succ, ih, Int.mul_assoc]
  conv => lhs; rw [h1]
  rw [Int.pow_add, h2]
theorem pw_even (n a out : Int) (b : Nat) (hb : b % 2 = 0) : out * (a * a % n) ^ (b / 2) % n = out * a ^ b % n := by
  rw [pow_half a b, hb, Int.pow_zero, Int.mul_one, Int.mul_emod, emod_pow, ← Int.mul_emod]
theorem pw_odd (n a out : Int) (b : Nat) (hb : b % 2 = 1) : out * a % n * (a * a % n) ^ (b / 2) % n = out * a ^ b % n := by
  have e : a ^ (1 : Nat) = a := by rw [show (1 : Nat) = 0 + 1 from rfl, Int.pow_succ, Int.pow_zero, Int.one_mul]
  rw [pow_half a b, hb, e, Int.mul_emod, Int.emod_emod_of_dvd _ (Int.dvd_refl n), emod_pow, ← Int.mul_emod]
  congr 1
  rw [Int.mul_comm ((a * a) ^ (b / 2)) a, ← Int.mul_assoc]
theorem pw_emod (n a : Int) (b : Nat) : pw n (a % n) b = pw n a b := emod_pow a n b
theorem pw_nonneg (n a : Int) (b : Nat) (hn : 0 < n) : 0 ≤ pw n a b ∧ pw n a b < n := ⟨Int.emod_nonneg _ (by omega), Int.emod_lt_of_pos _ hn⟩
theorem tz_lt (k m : Nat) (hm : 0 < m) (h : m < 2 ^ k) : tz k m < k ∧ ∃ j, m = 2 ^ tz k m * (2 * j + 1) := by
  induction k generalizing m with
  | zero => omega
  | succ k ih =>
    unfold tz
    split
    · rename_i h2
      obtain ⟨h3, j, h4⟩ := ih (m / 2) (by omega) (by rw [Nat.pow_succ] at h; omega)
      refine ⟨by omega, j, ?_⟩
      have h5 : m = 2 * (m / 2) := by omega
      rw [Nat.pow_succ, Nat.mul_comm (2 ^ _) 2, Nat.mul_assoc, ← h4]
      exact h5
    · exact ⟨by omega, m / 2, by rw [Nat.pow_zero]; omega⟩
theorem addM_eq (n a b : Int) (hn : okN n) : (a % n + b % n) % n = addM n a b := by
  rw [addM, if_pos hn, ← Int.add_emod]
theorem subM_eq (n a b : Int) (hn : okN n) : (a % n + n - b % n) % n = subM n a b := by
  rw [subM, if_pos hn, Int.sub_emod, Int.add_emod, Int.emod_self, Int.add_zero, Int.emod_emod_of_dvd _ (Int.dvd_refl n), Int.emod_emod_of_dvd _ (Int.dvd_refl n), Int.emod_emod_of_dvd _ (Int.dvd_refl n), ← Int.sub_emod]
theorem mulM_eq (n a b : Int) (hn : okN n) : a % n * (b % n) % n = mulM n a b := by
  rw [mulM, if_pos hn, ← Int.mul_emod]
theorem mulM_range (n a b : Int) (hn : okN n) : 0 ≤ mulM n a b ∧ mulM n a b < n := by
  rw [mulM, if_pos hn]; exact ⟨Int.emod_nonneg _ (by have := hn.1; omega), Int.emod_lt_of_pos _ (by have := hn.1; omega)⟩
theorem subM_range (n a b : Int) (hn : okN n) : 0 ≤ subM n a b ∧ subM n a b < n := by
  rw [subM, if_pos hn]; exact ⟨Int.emod_nonneg _ (by have := hn.1; omega), Int.emod_lt_of_pos _ (by have := hn.1; omega)⟩
theorem addM_range (n a b : Int) (hn : okN n) : 0 ≤ addM n a b ∧ addM n a b < n := by
  rw [addM, if_pos hn]; exact ⟨Int.emod_nonneg _ (by have := hn.1; omega), Int.emod_lt_of_pos _ (by have := hn.1; omega)⟩
theorem residue_eq (n a : Int) (hn : 0 < n) : (if a.tmod n < 0 then a.tmod n + n else a.tmod n) = a % n := by
  have h1 := Int.emod_nonneg a (b := n) (by omega)
  have h2 := Int.emod_lt_of_pos a hn
  have h3 := Int.tmod_add_mul_tdiv a n
  have h4 := Int.emod_add_mul_ediv a n
  have h5 : a.tmod n < n := by have := Int.tmod_lt_of_pos a hn; omega
  have h6 : -n < a.tmod n := by
    have := Int.lt_tmod_of_pos a hn
    omega
  have h7 : n ∣ a.tmod n - a % n := by
    refine ⟨a / n - a.tdiv n, ?_⟩
    rw [Int.mul_sub]; omega
  obtain ⟨k, hk⟩ := h7
  have hk2 : k = 0 ∨ k = -1 ∨ 1 ≤ k ∨ k ≤ -2 := by omega
  rcases hk2 with rfl | rfl | hk2 | hk2
  · simp at hk; split <;> omega
  · rw [Int.mul_neg, Int.mul_one] at hk; split <;> omega
  · have := Int.mul_le_mul_of_nonneg_left hk2 (by omega : 0 ≤ n); omega
  · have := Int.mul_le_mul_of_nonneg_left hk2 (by omega : 0 ≤ n); omega
end FdSpec
namespace FdSpec
structure Digit (h l u d q r : Nat) : Prop where
  sum : q * h + r = u
  up : u * 4294967296 + d < (q + 1) * (h * 4294967296 + l)
  le : q ≤ 4294967297
section
variable {h l u d q r : Nat}
theorem digit_start (hh : 2147483648 ≤ h) (hh2 : h < 4294967296) (hl : l < 4294967296) (hd : d < 4294967296) (hu : u < h * 4294967296 + l) : Digit h l u d (u / h) (u - u / h * h) := by
  have h1 : u / h * h ≤ u := Nat.div_mul_le_self u h
  have h2 : u < (u / h + 1) * h := by rw [Nat.add_mul, Nat.one_mul]; have := Nat.mod_lt u (show h > 0 by omega); have := Nat.div_add_mod u h; rw [Nat.mul_comm] at this; omega
  have h3 : u / h < 4294967298 := by
    rw [Nat.div_lt_iff_lt_mul (by omega)]
    omega
  refine ⟨by omega, ?_, by omega⟩
  have h4 : (u + 1) * 4294967296 ≤ (u / h + 1) * h * 4294967296 := Nat.mul_le_mul_right _ h2
  have h5 : (u / h + 1) * (h * 4294967296 + l) = (u / h + 1) * h * 4294967296 + (u / h + 1) * l := by rw [Nat.mul_add, Nat.mul_assoc]
  rw [h5]
  omega
theorem digit_test (D : Digit h l u d q r) : (4294967296 * r + d < q * l) ↔ u * 4294967296 + d < q * (h * 4294967296 + l) := by
  have h5 : q * (h * 4294967296 + l) = q * h * 4294967296 + q * l := by rw [Nat.mul_add, Nat.mul_assoc]
  have := D.sum
  rw [h5]
  generalize q * h = a at *
  generalize q * l = b at *
  omega
theorem digit_big (hu : u < h * 4294967296 + l) (hd : d < 4294967296) (hq : 4294967296 ≤ q) : u * 4294967296 + d < q * (h * 4294967296 + l) := by
  have h1 : 4294967296 * (h * 4294967296 + l) ≤ q * (h * 4294967296 + l) := Nat.mul_le_mul_right _ hq
  have h2 : (u + 1) * 4294967296 ≤ (h * 4294967296 + l) * 4294967296 := Nat.mul_le_mul_right _ hu
  omega
theorem digit_pos (D : Digit h l u d q r) (ht : u * 4294967296 + d < q * (h * 4294967296 + l)) : 0 < q := by
  rcases Nat.eq_zero_or_pos q with rfl | h
  · simp at ht
  · exact h
theorem digit_step (D : Digit h l u d q r) (ht : u * 4294967296 + d < q * (h * 4294967296 + l)) : Digit h l u d (q - 1) (r + h) := by
  have hq := digit_pos D ht
  have := D.sum
  refine ⟨?_, ?_, by have := D.le; omega⟩
  · obtain ⟨p, rfl⟩ : ∃ p, q = p + 1 := ⟨q - 1, by omega⟩
    rw [Nat.add_mul] at this
    simp only [Nat.add_sub_cancel]
    omega
  · rw [show q - 1 + 1 = q by omega]; exact ht
theorem digit_end (D : Digit h l u d q r) (ht : ¬ u * 4294967296 + d < q * (h * 4294967296 + l)) : q = (u * 4294967296 + d) / (h * 4294967296 + l) :=
  (Nat.div_eq_of_lt_le (by omega) D.up).symm
theorem digit_break (D : Digit h l u d q r) (hl : l < 4294967296) (hq : q ≤ 4294967296) (hr : 4294967296 ≤ r) : ¬ u * 4294967296 + d < q * (h * 4294967296 + l) := by
  rw [← digit_test D]
  have h1 : q * l ≤ 4294967296 * 4294967295 := Nat.mul_le_mul hq (by omega)
  omega
end
theorem div_total (x y s : Nat) : x * 2 ^ s % (y * 2 ^ s) / 2 ^ s = x % y := by
  rw [Nat.mul_mod_mul_right, Nat.mul_div_cancel _ (Nat.pow_pos (by omega))]
theorem two_digits (N d y : Nat) : (N * 4294967296 + d) % y = ((N % y) * 4294967296 + d) % y := by
  have h : N * 4294967296 % y = N % y * 4294967296 % y := by simp
  rw [Nat.add_mod, h, ← Nat.add_mod]
theorem split32 (X D : Nat) : (X * 4294967296 + D / 4294967296) * 4294967296 + D % 4294967296 = X * 18446744073709551616 + D := by
  rw [Nat.add_mul, Nat.mul_assoc, Nat.add_assoc, Nat.mul_comm (D / 4294967296), Nat.div_add_mod]
theorem norm_gen (a c M y s : Nat) (h : a * 4294967296 + c = M * 2 ^ s) : (a % (y * 2 ^ s) * 4294967296 + c) % (y * 2 ^ s) / 2 ^ s = M % y := by
  have t := two_digits a c (y * 2 ^ s)
  have u := div_total M y s
  rw [h] at t
  rw [← t, u]
theorem norm_rest (hi lo y s X D : Nat) (hN : X * 18446744073709551616 + D = (hi * 18446744073709551616 + lo) * 2 ^ s) : (((X * 4294967296 + D / 4294967296) % (y * 2 ^ s)) * 4294967296 + D % 4294967296) % (y * 2 ^ s) / 2 ^ s = (hi * 18446744073709551616 + lo) % y := by
  rw [← split32 X D] at hN
  exact norm_gen _ _ _ y s hN
end FdSpec
namespace Go.Sh
open Go Go.RowKit
section
variable {P : Program} {K : Value → World → Prop} {w : World}
@[go_sem] theorem oM_lookup (t T : TypeId) (x i : Value) : oM P (.lookup t (.tmp 0) (.tmp 1) false) T [x, i] K w = rM ((Instr.lookup t x i false).run P w) K := rM_of rfl
@[go_sem] theorem oM_mapUpdate (t T : TypeId) (m k x : Value) : oM P (.mapUpdate t (.tmp 0) (.tmp 1) (.tmp 2)) T [m, k, x] K w = uM ((Instr.mapUpdate t m k x).run P w) K := by
  rw [oM_unit (S := Instr.mapUpdate t m k x) rfl]
@[go_sem] theorem oM_mapEntry (t T : TypeId) (m k : Value) : oM P (.mapEntry t (.tmp 0) (.tmp 1)) T [m, k] K w = rM ((Instr.mapEntry t m k).run P w) K := rM_of rfl
@[go_sem] theorem oM_entryStore (t T : TypeId) (m s x : Value) : oM P (.entryStore t (.tmp 0) (.tmp 1) (.tmp 2)) T [m, s, x] K w = uM ((Instr.entryStore t m s x).run P w) K := by
  rw [oM_unit (S := Instr.entryStore t m s x) rfl]
@[go_sem] theorem oM_makeMap (t T : TypeId) : oM P (.makeMap t none) T [] K w = K (.map (some w.heap.size)) (w.alloc (.map #[] 0)) := by
  rw [rM_of (S := Instr.makeMap t none) rfl, run_makeMap]
  rfl
@[go_sem] theorem oM_range (t T : TypeId) (x : Value) : oM P (.range t (.tmp 0)) T [x] K w = rM ((Instr.range t x).run P w) K := rM_of rfl
@[go_sem] theorem oM_next (T : TypeId) (s : Bool) (x : Value) : oM P (.next (.tmp 0) s) T [x] K w = rM ((Instr.next x s T).run P w) K := rM_of rfl
@[go_sem] theorem oM_entry (T : TypeId) (x : Value) : oM P (.entry (.tmp 0)) T [x] K w = rM ((Instr.entry x).run P w) K := rM_of rfl
@[go_sem] theorem oM_delete (T : TypeId) (ts : Array TypeId) (x y : Value) : oM P (.call { callee := .builtin .delete, args := #[.tmp 0, .tmp 1], argTypes := ts }) T [x, y] K w = rM ((Builtin.delete_ ts T #[x, y]).run P w) K :=
  rM_of (by simp [xop, execOp, evalL, evE, resolve, invoke, builtin])
@[go_sem] theorem oM_clear (T : TypeId) (ts : Array TypeId) (x : Value) : oM P (.call { callee := .builtin .clear, args := #[.tmp 0], argTypes := ts }) T [x] K w = rM ((Builtin.clear_ ts T #[x]).run P w) K :=
  rM_of (by simp [xop, execOp, evalL, evE, resolve, invoke, builtin])
@[go_sem] theorem oM_copy (T : TypeId) (ts : Array TypeId) (x y : Value) : oM P (.call { callee := .builtin .copy, args := #[.tmp 0, .tmp 1], argTypes := ts }) T [x, y] K w = rM ((Builtin.copy_ ts T #[x, y]).run P w) K :=
  rM_of (by simp [xop, execOp, evalL, evE, resolve, invoke, builtin])
theorem oM_append (T : TypeId) (ts : Array TypeId) (x y : Value) : oM P (.call { callee := .builtin .append, args := #[.tmp 0, .tmp 1], argTypes := ts }) T [x, y] K w = rM ((Builtin.append_ ts T #[x, y]).run P w) K :=
  rM_of (by simp [xop, execOp, evalL, evE, resolve, invoke, builtin])
@[go_sem] theorem oM_makeSlice (t T : TypeId) (x y : Value) : oM P (.makeSlice t (.tmp 0) (.tmp 1)) T [x, y] K w = rM ((Instr.makeSlice t x y).run P w) K := rM_of rfl
@[go_sem] theorem oM_typeAssert (t u T : TypeId) (x : Value) : oM P (.typeAssert (.tmp 0) t u false) T [x] K w = rM ((Instr.typeAssert x t u false).run P w) K := rM_of rfl
@[go_sem] theorem oM_makeInterface (t T : TypeId) (x : Value) : oM P (.makeInterface t (.tmp 0)) T [x] K w = rM ((Instr.makeInterface t x).run P w) K := rM_of rfl
@[go_sem] theorem oM_buildSlice0 (T t : Nat) (n : Nat) : oM P (.buildSlice t n #[]) T [] K w = rM ((Instr.buildSlice t n #[]).run P w) K := rM_of (by simp [xop, execOp, evalL, evE])
theorem oM_sliceFrom (t T : TypeId) (x i : Value) : oM P (.slice t (.tmp 0) (some (.tmp 1)) none none) T [x, i] K w = rM ((Instr.sliceAt t x (some i) none none).run P w) K := rM_of rfl
theorem oM_sliceTo (t T : TypeId) (x i : Value) : oM P (.slice t (.tmp 0) none (some (.tmp 1)) none) T [x, i] K w = rM ((Instr.sliceAt t x none (some i) none).run P w) K := rM_of rfl
theorem low_bits (n : Nat) (hn : n < 60) (x : Int) : IntKind.i64.wrap ((BitVec.ofInt 64 x &&& BitVec.ofInt 64 (2 ^ n - 1)).toNat : Int) = x % 2 ^ n := by
  have hp : (0 : Int) < 2 ^ n := Int.pow_pos (by omega)
  have hp' : (2 : Nat) ^ n ≤ 2 ^ 59 := Nat.pow_le_pow_right (by omega) (by omega)
  have hpc : ((2 : Int) ^ n) = ((2 ^ n : Nat) : Int) := by simp
  have hb : (BitVec.ofInt 64 (2 ^ n - 1)).toNat = 2 ^ n - 1 := by
    rw [BitVec.toNat_ofInt, hpc]
    omega
  have ha : (BitVec.ofInt 64 x).toNat = (x % 2 ^ 64).toNat := by rw [BitVec.toNat_ofInt]; rfl
  rw [BitVec.toNat_and, hb, ha, Nat.and_two_pow_sub_one_eq_mod]
  have hdv : ((2 : Int) ^ n) ∣ 2 ^ 64 := ⟨2 ^ (64 - n), by rw [← Int.pow_add]; congr 1; omega⟩
  have h1 : (((x % 2 ^ 64).toNat % 2 ^ n : Nat) : Int) = x % 2 ^ n := by
    rw [Int.natCast_emod, Int.toNat_of_nonneg (Int.emod_nonneg _ (by omega)), ← hpc, Int.emod_emod_of_dvd _ hdv]
  rw [h1]
  have h2 := Int.emod_nonneg x (b := 2 ^ n) (by omega)
  have h3 := Int.emod_lt_of_pos x hp
  exact wrapI64 _ (by omega) (by omega)
theorem oM_low (n : Nat) (hn : n < 60) (t t' T : TypeId) (x m : Int) (hm : m = 2 ^ n - 1) : oM P (.binOp .and t (.tmp 0) (.tmp 1) t') T [.int .i64 x, .int .i64 m] K w = K (.int .i64 (x % 2 ^ n)) w := by
  subst hm
  rw [← low_bits n hn x]
  exact oM_of_run rfl
@[go_sem] theorem oM_and1 (t t' T : TypeId) (x : Int) : oM P (.binOp .and t (.tmp 0) (.tmp 1) t') T [.int .i64 x, .int .i64 1] K w = K (.int .i64 (x % 2)) w := oM_low 1 (by omega) t t' T x 1 rfl
@[go_sem] theorem oM_and3 (t t' T : TypeId) (x : Int) : oM P (.binOp .and t (.tmp 0) (.tmp 1) t') T [.int .i64 x, .int .i64 3] K w = K (.int .i64 (x % 4)) w := oM_low 2 (by omega) t t' T x 3 rfl
@[go_sem] theorem oM_and7 (t t' T : TypeId) (x : Int) : oM P (.binOp .and t (.tmp 0) (.tmp 1) t') T [.int .i64 x, .int .i64 7] K w = K (.int .i64 (x % 8)) w := oM_low 3 (by omega) t t' T x 7 rfl
end
end Go.Sh
namespace Go.Sh
open Go Go.RowKit
section
variable {w : World} {B : Nat} {e : TypeId} {sz : Nat} {v : Value} {n : Nat} {xs : List Value}
theorem owns_cells (h : w.ownsRow B e sz v n xs) (hn : 0 < n) : ∃ g cap cur, v = .slice (some ⟨g, 0, none⟩) n cap ∧ g < w.heap.size ∧ B ≤ g ∧ w.heap[g]? = some (.cells cur e (0, 0)) ∧ cur.size = cap * sz ∧ n ≤ cap ∧ ∀ (k : Nat) (x : Value), xs[k]? = some x → w.cell? ⟨g, k, none⟩ = some x := by
  rcases h.2 with ⟨_, h0⟩ | ⟨g, cap, cur, hv, hb, hg, hc, hm, hs, ht⟩
  · omega
  · refine ⟨g, cap, cur, hv, (Array.getElem?_eq_some_iff.1 hg).1, hb, hg, hs, hc, fun k x hk => ?_⟩
    have hlt : k < n * sz := by have := (List.getElem?_eq_some_iff.1 hk).1; rw [h.1] at this; exact this
    rw [← ht, List.getElem?_take_of_lt hlt] at hk
    unfold World.cell?
    rw [hg]
    simpa using hk
theorem owns_own (h : w.ownsRow B e sz v n xs) {i : Nat} (hi : v.ownBlock = some i) : i < w.heap.size ∧ B ≤ i ∧ ∃ cur, w.heap[i]? = some (.cells cur e (0, 0)) := by
  rcases h.2 with ⟨rfl, h0⟩ | ⟨g, cap, cur, rfl, hb, hg, hc, hm, hs, ht⟩
  · cases hi
  · cases hi
    exact ⟨(Array.getElem?_eq_some_iff.1 hg).1, hb, cur, hg⟩
theorem owns_keep {w' : World} (h : w.ownsRow B e sz v n xs) (hk : ∀ i, v.ownBlock = some i → w'.heap[i]? = w.heap[i]?) : w'.ownsRow B e sz v n xs := by
  refine ⟨h.1, ?_⟩
  rcases h.2 with h0 | ⟨g, cap, cur, rfl, hb, hg, hr⟩
  · exact .inl h0
  · exact .inr ⟨g, cap, cur, rfl, hb, by rw [hk g rfl]; exact hg, hr⟩
theorem owns_len (h : w.ownsRow B e sz v n xs) : ∃ a c, v = .slice a n c := by
  rcases h.2 with ⟨rfl, rfl⟩ | ⟨g, cap, cur, rfl, _⟩
  · exact ⟨none, 0, rfl⟩
  · exact ⟨_, cap, rfl⟩
end
def flat {α : Type} (mk : α → List Value) (l : List α) : List Value := l.flatMap mk
section
variable {α : Type} {mk : α → List Value} {sz : Nat}
theorem flat_cons (x : α) (l : List α) : flat mk (x :: l) = mk x ++ flat mk l := rfl
theorem flat_snoc (l : List α) (x : α) : flat mk (l ++ [x]) = flat mk l ++ mk x := by simp [flat]
theorem flat_length (hm : ∀ x, (mk x).length = sz) (l : List α) : (flat mk l).length = l.length * sz := by
  induction l with
  | nil => simp [flat]
  | cons x l ih => rw [flat_cons, List.length_append, hm, ih, List.length_cons, Nat.succ_mul, Nat.add_comm]
end
structure Fr (S : Nat → Prop) (w w' : World) : Prop where
  os : w'.os = w.os
  tape : w'.tape = w.tape
  output : w'.output = w.output
  size : w.heap.size ≤ w'.heap.size
  block : ∀ i, i < w.heap.size → ¬ S i → w'.heap[i]? = w.heap[i]?
section
variable {S S' : Nat → Prop} {w w1 w2 : World}
theorem Fr.refl (S : Nat → Prop) (w : World) : Fr S w w := ⟨rfl, rfl, rfl, Nat.le_refl _, fun _ _ _ => rfl⟩
theorem Fr.trans (h : Fr S w w1) (k : Fr S' w1 w2) (hs : ∀ i, S' i → S i ∨ w.heap.size ≤ i) : Fr S w w2 :=
  ⟨k.os.trans h.os, k.tape.trans h.tape, k.output.trans h.output, Nat.le_trans h.size k.size, fun i hi hn => (k.block i (Nat.lt_of_lt_of_le hi h.size) (fun hx => (hs i hx).elim hn (by omega))).trans (h.block i hi hn)⟩
theorem Fr.by (h : Fr S w w1) {b : Option Nat} (k : w1.grownBy w2 b) (hs : ∀ i, b = some i → S i ∨ w.heap.size ≤ i) : Fr S w w2 :=
  ⟨k.os.trans h.os, k.tape.trans h.tape, k.output.trans h.output, Nat.le_trans h.size k.size, fun i hi hn => (k.block i (Nat.lt_of_lt_of_le hi h.size) (fun hx => (hs i hx.symm).elim hn (by omega))).trans (h.block i hi hn)⟩
theorem Fr.none_by (h : Fr S w w1) (k : w1.grownBy w2 none) : Fr S w w2 := h.by k (fun _ h => by cases h)
theorem Fr.alloc (h : Fr S w w1) (o : Obj) : Fr S w (w1.alloc o) := h.none_by (World.grownBy_alloc w1 o none)
theorem Fr.drew (h : Fr S w w1) : Fr S w { w1 with drawn := w1.drawn + 1 } := ⟨h.os, h.tape, h.output, h.size, h.block⟩
theorem Fr.mono (h : Fr S w w1) (hs : ∀ i, i < w.heap.size → S i → S' i) : Fr S' w w1 := ⟨h.os, h.tape, h.output, h.size, fun i hi hn => h.block i hi (fun hx => hn (hs i hi hx))⟩
theorem setCell_heap_ne (w : World) (a : Addr) (u : Value) (i : Nat) (h : i ≠ a.block) : (w.setCell a u).heap[i]? = w.heap[i]? := by
  simp only [World.setCell, Array.getElem?_modify]
  rw [if_neg (Ne.symm h)]
theorem grown_setCell (w : World) (a : Addr) (u : Value) : w.grownBy (w.setCell a u) (some a.block) :=
  ⟨rfl, rfl, rfl, by simp [World.setCell], fun i _ hi => setCell_heap_ne w a u i (fun e => hi (by rw [e]))⟩
theorem Fr.set (h : Fr S w w1) (a : Addr) (u : Value) (hs : S a.block ∨ w.heap.size ≤ a.block) : Fr S w (w1.setCell a u) := h.by (grown_setCell w1 a u) (fun i e => by cases e; exact hs)
end
theorem cell_of_block {w : World} {b : Nat} {cs : Array Value} {T : TypeId} {f : Nat × Nat} (h : w.heap[b]? = some (.cells cs T f)) (i : Nat) : w.cell? ⟨b, i, none⟩ = cs[i]? := by
  simp [World.cell?, h]
theorem block_set {w : World} {b i : Nat} {cs : Array Value} {T : TypeId} {f : Nat × Nat} (h : w.heap[b]? = some (.cells cs T f)) (u : Value) : (w.setCell ⟨b, i, none⟩ u).heap[b]? = some (.cells (cs.setIfInBounds i u) T f) := by
  simp [World.setCell, Array.getElem?_modify, h]
end Go.Sh
namespace Go.Sh
open Go Go.RowKit
section
variable {P : Program} {w : World} {K : Value → World → Prop}
theorem owns_base {B C : Nat} {e : TypeId} {sz : Nat} {v : Value} {n : Nat} {xs : List Value} (h : w.ownsRow B e sz v n xs) (hc : C ≤ B) : w.ownsRow C e sz v n xs :=
  ⟨h.1, h.2.imp id (fun ⟨g, cap, cur, a, b, r⟩ => ⟨g, cap, cur, a, Nat.le_trans hc b, r⟩)⟩
theorem run_append_more (t ty e : TypeId) (i : TypeInfo) (z : Value) (size bytes : Nat) (ht : P.underlying t = some (.slice e)) (hi : P.info? e = some i) (hz : i.zero = some z)
    (hsize : i.size = size) (hby : i.bytes = bytes) (hzs : z.cells.size = size) (hsz : 0 < size)
    (v : Value) (n : Nat) (xs : List Value) (hown : w.ownsRow 0 e size v n xs)
    (a : Addr) (m c : Nat) (news : List Value) (hl : news.length = m * size) (hnews : ∀ j u, news[j]? = some u → w.cell? (a.add j) = some u) (h1 : ∀ u ∈ news, u.oneCell' = true)
    (h63 : n + m ≤ maxLen) (hbytes : (n + m) * bytes ≤ 140737488355328) :
    ∃ v' w', (Builtin.append_ #[t, t] ty #[v, .slice (some a) m c]).run P w = .ok v' w' ∧ w'.ownsRow 0 e size v' (n + m) (xs ++ news) ∧ w.grownBy w' v.ownBlock ∧
      (∀ i, v'.ownBlock = some i → v.ownBlock = some i ∨ w.heap.size ≤ i) := by
  rcases hown.2 with ⟨hv, hn⟩ | ⟨g, cap, cur, hv, hb, hg, hnc, hm, hcs, htk⟩
  · have h' : w.ownsRow w.heap.size e size v n xs := ⟨hown.1, .inl ⟨hv, hn⟩⟩
    obtain ⟨v', w', hr, ho, hgr, _⟩ := run_append_own (P := P) (w := w) w.heap.size t ty e i z size bytes ht hi hz hsize hby hzs hsz v n xs h' a m c news hl hnews h1 h63 hbytes (Nat.le_refl _)
    exact ⟨v', w', hr, owns_base ho (Nat.zero_le _), hgr, fun j hj => .inr (owns_own ho hj).2.1⟩
  · by_cases hroom : n + m ≤ cap
    · subst hv
      obtain ⟨w', hr, ho, hgr⟩ := run_append_fits (P := P) (w := w) 0 t ty e i size ht hi hsize g n cap xs hown a m c news hl hnews h1 hroom
      exact ⟨_, w', hr, ho, hgr, fun j hj => .inl hj⟩
    · obtain ⟨v', w', hr, ho, hgr, _⟩ := run_append_own (P := P) (w := w) 0 t ty e i z size bytes ht hi hz hsize hby hzs hsz v n xs hown a m c news hl hnews h1 h63 hbytes (Nat.zero_le _)
      subst hsize
      subst hv
      have holds : ∀ j u, xs[j]? = some u → w.cell? ((⟨g, 0, none⟩ : Addr).add j) = some u := hown.cells (g := g) rfl
      have hr2 := run_append_grow (P := P) (w := w) t ty e i z ht hi hz ⟨g, 0, none⟩ n cap xs hown.1 holds a m c news hl hnews (by omega) (by simp only [maxLen] at h63; omega) (growslice_fits (by omega) (by rw [hby]; exact hbytes))
      rw [hr] at hr2
      cases hr2
      exact ⟨_, _, hr, ho, hgr, fun j hj => by cases hj; exact .inr (Nat.le_refl _)⟩
theorem append_at (t T e : TypeId) (i : TypeInfo) (z : Value) (size bytes : Nat) (ht : P.underlying t = some (.slice e)) (hi : P.info? e = some i) (hz : i.zero = some z)
    (hsize : i.size = size) (hby : i.bytes = bytes) (hzs : z.cells.size = size) (hsz : 0 < size)
    {v : Value} {n : Nat} {xs : List Value} (hown : w.ownsRow 0 e size v n xs)
    {ad : Option Addr} {m c : Nat} (news : List Value) (hl : news.length = m * size) (had : ad = none → m = 0 ∧ c = 0) (hnews : ∀ a, ad = some a → ∀ j u, news[j]? = some u → w.cell? (a.add j) = some u) (h1 : ∀ u ∈ news, u.oneCell' = true)
    (h63 : n + m ≤ maxLen) (hbytes : (n + m) * bytes ≤ 140737488355328)
    (k : ∀ v' w', w'.ownsRow 0 e size v' (n + m) (xs ++ news) → w.grownBy w' v.ownBlock → (∀ i, v'.ownBlock = some i → v.ownBlock = some i ∨ w.heap.size ≤ i) → K v' w') :
    oM P (.call { callee := .builtin .append, args := #[.tmp 0, .tmp 1], argTypes := #[t, t] }) T [v, .slice ad m c] K w := by
  rw [oM_append]
  cases ad with
  | some a =>
    obtain ⟨v', w', hr, h2, h3, h4⟩ := run_append_more (P := P) (w := w) t T e i z size bytes ht hi hz hsize hby hzs hsz v n xs hown a m c news hl (hnews a rfl) h1 h63 hbytes
    rw [hr]
    exact k v' w' h2 h3 h4
  | none =>
    obtain ⟨rfl, rfl⟩ := had rfl
    have hn : news = [] := List.eq_nil_of_length_eq_zero (by simpa using hl)
    subst hn
    rw [run_append_owned_none (P := P) (w := w) 0 t T e i size ht hi v n xs hown]
    refine k v w ?_ ⟨rfl, rfl, rfl, Nat.le_refl _, fun _ _ _ => rfl⟩ (fun i h => .inl h)
    simpa using hown
end
def RowR {α : Type} (mk : α → List Value) (sz : Nat) (w : World) (v : Value) (l : List α) : Prop :=
  ∃ ad c, v = .slice ad l.length c ∧ (ad = none → l.length = 0 ∧ c = 0) ∧ (l = [] ∨ ∃ b o, ad = some ⟨b, o, none⟩ ∧ b < w.heap.size ∧ ∀ (k : Nat) (x : Value), (flat mk l)[k]? = some x → w.cell? ⟨b, o + k, none⟩ = some x)
section
variable {α : Type} {mk : α → List Value} {sz : Nat} {w w' : World} {v : Value} {l : List α}
theorem RowR.of_owns {B : Nat} {e : TypeId} (h : w.ownsRow B e sz v l.length (flat mk l)) : RowR mk sz w v l := by
  rcases h.2 with ⟨rfl, h0⟩ | ⟨g, cap, cur, rfl, hb, hg, hn, hm, hcs, ht⟩
  · exact ⟨none, 0, by rw [h0], fun _ => ⟨h0, rfl⟩, .inl (List.eq_nil_of_length_eq_zero h0)⟩
  · refine ⟨_, cap, rfl, by simp, ?_⟩
    by_cases h0 : l = []
    · exact .inl h0
    · obtain ⟨g', cap', cur', hv, hlt, _, _, _, _, hc⟩ := owns_cells h (List.length_pos_iff.2 h0)
      cases hv
      exact .inr ⟨g, 0, rfl, hlt, fun k x hk => by rw [Nat.zero_add]; exact hc k x hk⟩
def Value.inBlock : Value → Option Nat
  | .slice (some a) _ _ => some a.block
  | _ => none
theorem RowR.keep (h : RowR mk sz w v l) (hs : w.heap.size ≤ w'.heap.size) (hk : ∀ i, Value.inBlock v = some i → i < w.heap.size → w'.heap[i]? = w.heap[i]?) : RowR mk sz w' v l := by
  obtain ⟨ad, c, rfl, h0, h⟩ := h
  refine ⟨ad, c, rfl, h0, h.imp id ?_⟩
  rintro ⟨b, o, rfl, hlt, hc⟩
  refine ⟨b, o, rfl, Nat.lt_of_lt_of_le hlt hs, fun k x hx => ?_⟩
  have := hc k x hx
  unfold World.cell? at this ⊢
  rw [hk b rfl hlt]
  exact this
end
theorem add_none (b o k : Nat) : (⟨b, o, none⟩ : Addr).add k = ⟨b, o + k, none⟩ := by
  unfold Addr.add
  split
  · rename_i h0; rw [h0]; simp
  · rfl
theorem clone_at {P : Program} {α : Type} {mk : α → List Value} {w : World} {K : Value → World → Prop} (t T e : TypeId) (i : TypeInfo) (z : Value) (size bytes : Nat) (ht : P.underlying t = some (.slice e)) (hi : P.info? e = some i) (hz : i.zero = some z)
    (hsize : i.size = size) (hby : i.bytes = bytes) (hzs : z.cells.size = size) (hsz : 0 < size) (hm : ∀ x, (mk x).length = size) (h1 : ∀ x, ∀ u ∈ mk x, u.oneCell' = true)
    {v u : Value} {l : List α} (hr : RowR mk size w v l) (hu : w.ownsRow 0 e size u 0 []) {B : Nat} (hB : B ≤ w.heap.size) (hf : ∀ i, u.ownBlock = some i → B ≤ i) (hll : l.length ≤ 4611686018427387904) (hb : l.length * bytes ≤ 140737488355328)
    (k : ∀ v' w', w'.ownsRow 0 e size v' l.length (flat mk l) → w.grownBy w' u.ownBlock → (∀ i, v'.ownBlock = some i → B ≤ i) → K v' w') :
    oM P (.call { callee := .builtin .append, args := #[.tmp 0, .tmp 1], argTypes := #[t, t] }) T [u, v] K w := by
  obtain ⟨ad, c, rfl, h0, hc⟩ := hr
  refine append_at t T e i z size bytes ht hi hz hsize hby hzs hsz hu (flat mk l) (flat_length hm l) h0 ?_ ?_ (by simp only [maxLen]; omega) (by rw [Nat.zero_add]; exact hb) ?_
  · rintro a rfl j x hj
    rcases hc with rfl | ⟨b, o, hbo, hlt, hc⟩
    · simp [flat] at hj
    · cases hbo
      rw [add_none]; exact hc j x hj
  · intro x hx
    unfold flat at hx
    obtain ⟨y, _, hy⟩ := List.mem_flatMap.1 hx
    exact h1 y x hy
  · intro v' w' ho hg hv
    rw [Nat.zero_add] at ho
    exact k v' w' ho hg (fun i hi => (hv i hi).elim (hf i) (Nat.le_trans hB))
end Go.Sh
namespace Go.Sh
open Go Go.RowKit
theorem alloc_size (w : World) (o : Obj) : (w.alloc o).heap.size = w.heap.size + 1 := by
  show (w.heap.push o).size = _
  simp
theorem grown_setRow (w : World) (g : Nat) (cs : Array Value) : w.grownBy (w.setRow g cs) (some g) :=
  ⟨rfl, rfl, rfl, by simp [World.setRow], fun i _ hi => setRow_other w g i cs (fun e => hi (by rw [e]))⟩
section
variable {P : Program} {w : World} {K : Value → World → Prop}
theorem sliceFrom_at {t T : TypeId} {g o n c : Nat} {sz : Nat} (ht : P.underlying t = some (.slice (P.elem t))) (hs : ∀ w, (sizeOf (P.elem t)).run P w = .ok sz w) (i : Nat) (hi : i ≤ n) (hc : i < c) (k : K (.slice (some ⟨g, o + i * sz, none⟩) (n - i) (c - i)) w) :
    oM P (.slice t (.tmp 0) (some (.tmp 1)) none none) T [.slice (some ⟨g, o, none⟩) n c, .int .i64 i] K w := by
  rw [oM_sliceFrom, run_sliceAt_slice w t _ _ _ _ ht, run_slice_l w t _ n c ht .i64 i (by omega) (by omega), hs]
  have : ¬ c = i := by omega
  simp only [Result.andThen_ok, sliced, Int.toNat_natCast, if_neg this, Option.map_some, add_none]
  exact k
theorem sliceTo_at {t T : TypeId} {a : Option Addr} {n c : Nat} {sz : Nat} (ht : P.underlying t = some (.slice (P.elem t))) (hs : ∀ w, (sizeOf (P.elem t)).run P w = .ok sz w) (i : Nat) (hi : i ≤ c) (k : K (.slice a i c) w) :
    oM P (.slice t (.tmp 0) none (some (.tmp 1)) none) T [.slice a n c, .int .i64 i] K w := by
  rw [oM_sliceTo, run_sliceAt_slice w t _ _ _ _ ht, run_slice_h w t _ n c ht .i64 i (by omega) (by omega), hs]
  have e : a.map (fun x => x.add (0 * sz)) = a := by
    cases a with
    | none => rfl
    | some a => simp [Addr.add]
  simp only [Result.andThen_ok, sliced, Int.toNat_natCast, Nat.sub_zero, e, ite_self]
  exact k
end
end Go.Sh
namespace Go.Sh
open Go Go.RowKit
def BufM (w : World) (e : TypeId) (v : Value) (l : List UInt8) : Prop :=
  ∃ g cap cur fz, v = .slice (some ⟨g, 0, none⟩) l.length cap ∧ w.heap[g]? = some (.cells cur e fz) ∧ (∀ i, i < cur.size → ¬ (fz.1 ≤ i ∧ i < fz.2)) ∧ cur.size = cap ∧ l.length ≤ cap ∧ ∀ j (h : j < l.length), cur[j]? = some (.int .u8 (l[j].toNat : Int))
section
variable {P : Program} {w w' : World} {e : TypeId} {v : Value} {l : List UInt8} {K : Value → World → Prop}
theorem BufM.shape (h : BufM w e v l) : ∃ g c, v = .slice (some ⟨g, 0, none⟩) l.length c ∧ g < w.heap.size := by
  obtain ⟨g, cap, cur, fz, rfl, hg, _⟩ := h
  exact ⟨g, cap, rfl, (Array.getElem?_eq_some_iff.1 hg).1⟩
theorem BufM.keep (h : BufM w e v l) (hk : ∀ i, v.ownBlock = some i → w'.heap[i]? = w.heap[i]?) : BufM w' e v l := by
  obtain ⟨g, cap, cur, fz, rfl, hg, r⟩ := h
  exact ⟨g, cap, cur, fz, rfl, by rw [hk g rfl]; exact hg, r⟩
theorem ofStr_at {s d T : TypeId} (hs : P.underlying s = some .string) (hd : P.underlying d = some (.slice e)) (he : P.underlying e = some (.int .u8)) (l : List UInt8)
    (k : ∀ v w', BufM w' e v l → w.grownBy w' none → v.ownBlock = some w.heap.size → w.heap.size < w'.heap.size → K v w') : oM P (.convert s d (.tmp 0)) T [.string ⟨l.toArray⟩] K w := by
  have hr := run_bytes_of_string (P := P) w s d e ⟨l.toArray⟩ hs hd he
  rw [rM_of (S := convert s d (.string ⟨l.toArray⟩)) rfl, hr]
  have hge : l.length ≤ grownCap w (⟨l.toArray⟩ : ByteArray).size 0 e := grownCap_ge w l.length 0 e
  generalize grownCap w (⟨l.toArray⟩ : ByteArray).size 0 e = C at *
  have hsz : (bytesRow ⟨l.toArray⟩ C).size = C := by
    simp only [bytesRow, Array.size_append, Array.size_map, List.size_toArray, Array.size_replicate, ByteArray.size]
    omega
  rw [hsz]
  refine k _ _ ⟨w.heap.size, C, bytesRow ⟨l.toArray⟩ C, (C, C + 1), rfl, heap_alloc_new w.drew _, fun i hi => by rw [hsz] at hi; simp only; omega, hsz, hge, fun j hj => ?_⟩ ⟨rfl, rfl, rfl, by simp, fun i hi _ => heap_alloc_old w.drew _ hi⟩ rfl (by simp)
  unfold bytesRow
  rw [Array.getElem?_append_left (by simpa using hj)]
  simp [hj]
theorem pushB_at {t T : TypeId} {i : TypeInfo} {x : UInt8} {a : Addr} {c : Nat} (ht : P.underlying t = some (.slice e)) (hi : P.info? e = some i) (hz : i.zero = some (.int .u8 0)) (hs : i.size = 1) (hb : i.bytes = 1) (h : BufM w e v l) (ha : w.cell? a = some (.int .u8 (x.toNat : Int))) (hl : l.length + 1 ≤ 1099511627776)
    (k : ∀ v' w', BufM w' e v' (l ++ [x]) → w.grownBy w' v.ownBlock → (v'.ownBlock = v.ownBlock ∨ ∃ g, v'.ownBlock = some g ∧ w.heap.size ≤ g) → K v' w') :
    oM P (.call { callee := .builtin .append, args := #[.tmp 0, .tmp 1], argTypes := #[t, t] }) T [v, .slice (some a) 1 c] K w := by
  obtain ⟨g, cap, cur, fz, rfl, hg, hfz, hcs, hlc, hcell⟩ := h
  rw [oM_append]
  have hnews : ∀ j u, ([Value.int .u8 (x.toNat : Int)] : List Value)[j]? = some u → w.cell? (a.add j) = some u := by
    intro j u hj
    match j, hj with
    | 0, hj =>
      simp only [List.getElem?_cons_zero, Option.some.injEq] at hj
      subst hj
      have : a.add 0 = a := by simp [Addr.add]
      rw [this]; exact ha
  by_cases hroom : l.length + 1 ≤ cap
  · have hr := run_append_room_cells (P := P) (w := w) t T e i ht hi g 0 l.length cap a 1 c [.int .u8 (x.toNat : Int)] (by rw [hs]; rfl) hnews (by simp [Value.oneCell']) hroom (by
      intro j hj
      simp only [List.length_cons, List.length_nil] at hj
      rw [cell_of_block hg]
      simp [hs]
      omega) (by
      intro j hj
      simp only [List.length_cons, List.length_nil] at hj
      unfold World.frozen?
      rw [hg]
      have := hfz (0 + l.length * i.size + j) (by rw [hs]; omega)
      simp only [Bool.and_eq_false_iff, decide_eq_false_iff_not]
      omega)
    rw [hr, hs, Nat.zero_add, Nat.mul_one]
    refine k _ (w.setCell ⟨g, l.length, none⟩ (.int .u8 (x.toNat : Int))) ⟨g, cap, cur.setIfInBounds l.length (.int .u8 (x.toNat : Int)), fz, by rw [List.length_append]; rfl, block_set hg _, by simpa using hfz, by simpa using hcs, by simpa using hroom, fun j hj => ?_⟩ (grown_setCell w ⟨g, l.length, none⟩ _) (.inl rfl)
    rw [List.length_append, List.length_cons, List.length_nil] at hj
    by_cases hjl : j < l.length
    · rw [Array.getElem?_setIfInBounds_ne (by omega), hcell j hjl, List.getElem_append_left hjl]
    · obtain rfl : j = l.length := by omega
      rw [Array.getElem?_setIfInBounds_self_of_lt (by omega)]
      simp
  · have hholds : ∀ j u, (Lib.byteCells l)[j]? = some u → w.cell? ((⟨g, 0, none⟩ : Addr).add j) = some u := by
      intro j u hj
      rw [add_none, Nat.zero_add, cell_of_block hg]
      have hjl : j < l.length := by have := (List.getElem?_eq_some_iff.1 hj).1; simpa [Lib.byteCells] using this
      rw [hcell j hjl, ← hj]
      simp [Lib.byteCells, hjl]
    obtain ⟨v', w', hr, ho, hgr⟩ := run_append_arg_grows (P := P) (w := w) t T e i (.int .u8 0) 1 1 ht hi hz hs hb rfl (by omega) ⟨g, 0, none⟩ l.length cap (Lib.byteCells l) (by simp [Lib.byteCells]) hholds a 1 c [.int .u8 (x.toNat : Int)] rfl hnews (by omega) (by simp only [maxLen]; omega) (by omega)
    rw [hr]
    rcases ho.2 with ⟨_, h0⟩ | ⟨g', cap', cur', rfl, hb', hg', hnc, hcm, hcs', htk⟩
    · omega
    · refine k _ w' ⟨g', cap', cur', (0, 0), by rw [List.length_append]; rfl, hg', fun i _ => by omega, by omega, by rw [List.length_append]; exact hnc, fun j hj => ?_⟩ ⟨hgr.os, hgr.tape, hgr.output, hgr.size, fun i hi _ => hgr.block i hi (by simp)⟩ (.inr ⟨g', rfl, hb'⟩)
      have e1 : cur'.toList.take (l.length + 1) = Lib.byteCells (l ++ [x]) := by
        rw [Nat.mul_one] at htk
        rw [htk]
        simp [Lib.byteCells]
      have e2 := congrArg (fun q => q[j]?) e1
      rw [List.length_append, List.length_cons, List.length_nil] at hj
      simp only [List.getElem?_take_of_lt hj, Array.getElem?_toList] at e2
      rw [e2]
      have hj' : j < (l ++ [x]).length := by simpa using hj
      simp only [Lib.byteCells, List.getElem?_map, List.getElem?_eq_getElem hj', Option.map_some]
theorem BufM.set (h : BufM w e v l) {j : Nat} (hj : j < l.length) (x : UInt8) : ∃ g c, v = .slice (some ⟨g, 0, none⟩) l.length c ∧ w.frozen? ⟨g, j, none⟩ = false ∧ (w.cell? ⟨g, j, none⟩).isSome = true ∧ BufM (w.setCell ⟨g, j, none⟩ (.int .u8 (x.toNat : Int))) e v (l.set j x) := by
  obtain ⟨g, cap, cur, fz, rfl, hg, hfz, hcs, hlc, hcell⟩ := h
  refine ⟨g, cap, rfl, ?_, ?_, ⟨g, cap, cur.setIfInBounds j (.int .u8 (x.toNat : Int)), fz, by rw [List.length_set], block_set hg _, by simpa using hfz, by simpa using hcs, by simpa using hlc, fun k hk => ?_⟩⟩
  · unfold World.frozen?
    rw [hg]
    have := hfz j (by omega)
    simp only [Bool.and_eq_false_iff, decide_eq_false_iff_not]
    omega
  · rw [cell_of_block hg, hcell j hj]; rfl
  · rw [List.length_set] at hk
    by_cases hkj : k = j
    · subst hkj
      rw [Array.getElem?_setIfInBounds_self_of_lt (by omega)]
      simp
    · rw [Array.getElem?_setIfInBounds_ne (Ne.symm hkj), hcell k hk, List.getElem_set_ne (Ne.symm hkj)]
theorem BufM.cell (h : BufM w e v l) {j : Nat} (hj : j < l.length) : ∃ g c, v = .slice (some ⟨g, 0, none⟩) l.length c ∧ w.cell? ⟨g, j, none⟩ = some (.int .u8 (l[j].toNat : Int)) := by
  obtain ⟨g, cap, cur, fz, rfl, hg, hfz, hcs, hlc, hcell⟩ := h
  exact ⟨g, cap, rfl, by rw [cell_of_block hg]; exact hcell j hj⟩
end
end Go.Sh
namespace Go.Sh
open Go Go.RowKit
section
variable {P : Program} {K : Value → World → Prop} {w : World}
@[go_sem] theorem oM_shr64 (t t' T : TypeId) (yk : IntKind) (x y : Int) (h0 : 0 ≤ y) (h1 : y ≤ 64) : oM P (.binOp .shr t (.tmp 0) (.tmp 1) t') T [.int .u64 x, .int yk y] = pureM (.int .u64 (x / 2 ^ y.toNat)) := by
  funext K w
  simp [oM, opM, xop, execOp, evalL, evE, binOp]
  rfl
@[go_sem] theorem oM_shl64 (t t' T : TypeId) (yk : IntKind) (x y : Int) (h0 : 0 ≤ y) (h1 : y ≤ 64) : oM P (.binOp .shl t (.tmp 0) (.tmp 1) t') T [.int .u64 x, .int yk y] = pureM (.int .u64 (x * 2 ^ y.toNat % 18446744073709551616)) := by
  funext K w
  simp [oM, opM, xop, execOp, evalL, evE, binOp]
  rfl
@[go_sem] theorem oM_shr32 (t t' T : TypeId) (yk : IntKind) (x y : Int) (h0 : 0 ≤ y) (h1 : y ≤ 32) : oM P (.binOp .shr t (.tmp 0) (.tmp 1) t') T [.int .u32 x, .int yk y] = pureM (.int .u32 (x / 2 ^ y.toNat)) := by
  funext K w
  simp [oM, opM, xop, execOp, evalL, evE, binOp]
  rfl
@[go_sem] theorem oM_shl32 (t t' T : TypeId) (yk : IntKind) (x y : Int) (h0 : 0 ≤ y) (h1 : y ≤ 32) : oM P (.binOp .shl t (.tmp 0) (.tmp 1) t') T [.int .u32 x, .int yk y] = pureM (.int .u32 (x * 2 ^ y.toNat % 4294967296)) := by
  funext K w
  simp [oM, opM, xop, execOp, evalL, evE, binOp]
  rfl
@[go_sem] theorem oM_and64 (t t' T : TypeId) (x y : Int) : oM P (.binOp .and t (.tmp 0) (.tmp 1) t') T [.int .u64 x, .int .u64 y] = pureM (.int .u64 (bits .and .u64 x y)) := by
  funext K w
  simp [oM, opM, xop, execOp, evalL, evE, binOp, go_sem]
@[go_sem] theorem oM_or64 (t t' T : TypeId) (x y : Int) : oM P (.binOp .or t (.tmp 0) (.tmp 1) t') T [.int .u64 x, .int .u64 y] = pureM (.int .u64 (bits .or .u64 x y)) := by
  funext K w
  simp [oM, opM, xop, execOp, evalL, evE, binOp, go_sem]
end
theorem bits_and64 (x y : Int) (hx : 0 ≤ x ∧ x < 18446744073709551616) (hy : 0 ≤ y ∧ y < 18446744073709551616) : bits .and .u64 x y = ((x.toNat &&& y.toNat : Nat) : Int) := by
  obtain ⟨a, rfl⟩ := Int.eq_ofNat_of_zero_le hx.1
  obtain ⟨b, rfl⟩ := Int.eq_ofNat_of_zero_le hy.1
  have ha : a < 2 ^ 64 := by omega
  have hb : b < 2 ^ 64 := by omega
  simp only [bits, Int.toNat_natCast]
  rw [BitVec.ofInt_natCast, BitVec.ofInt_natCast, BitVec.toNat_and]
  simp only [BitVec.toNat_ofNat]
  rw [show IntKind.u64.bits = 64 from rfl, Nat.mod_eq_of_lt ha, Nat.mod_eq_of_lt hb]
  have : a &&& b ≤ a := Nat.and_le_left
  exact wrapU64 _ (by omega) (by omega)
theorem bits_or64 (x y : Int) (hx : 0 ≤ x ∧ x < 18446744073709551616) (hy : 0 ≤ y ∧ y < 18446744073709551616) : bits .or .u64 x y = ((x.toNat ||| y.toNat : Nat) : Int) := by
  obtain ⟨a, rfl⟩ := Int.eq_ofNat_of_zero_le hx.1
  obtain ⟨b, rfl⟩ := Int.eq_ofNat_of_zero_le hy.1
  have ha : a < 2 ^ 64 := by omega
  have hb : b < 2 ^ 64 := by omega
  simp only [bits, Int.toNat_natCast]
  rw [BitVec.ofInt_natCast, BitVec.ofInt_natCast, BitVec.toNat_or]
  simp only [BitVec.toNat_ofNat]
  rw [show IntKind.u64.bits = 64 from rfl, Nat.mod_eq_of_lt ha, Nat.mod_eq_of_lt hb]
  have := Nat.or_lt_two_pow ha hb
  exact wrapU64 _ (by omega) (by omega)
theorem mask64 (n : Nat) (x m : Int) (hn : n ≤ 64) (hm : m = 2 ^ n - 1) (hx : 0 ≤ x ∧ x < 18446744073709551616) : bits .and .u64 x m = x % 2 ^ n := by
  have hp : (0 : Int) < 2 ^ n := Int.pow_pos (by omega)
  have hp' : (2 : Nat) ^ n ≤ 2 ^ 64 := Nat.pow_le_pow_right (by omega) hn
  have hpc : ((2 : Int) ^ n) = ((2 ^ n : Nat) : Int) := by simp
  rw [bits_and64 x m hx (by rw [hm, hpc]; omega)]
  have : m.toNat = 2 ^ n - 1 := by rw [hm, hpc]; omega
  rw [this, Nat.and_two_pow_sub_one_eq_mod, Int.natCast_emod, Int.toNat_of_nonneg hx.1, hpc]
theorem or_add64 (s : Nat) (x y : Int) (hs : s ≤ 64) (hx : 0 ≤ x) (hy : 0 ≤ y ∧ y < 2 ^ s) (h : x * 2 ^ s < 18446744073709551616) : bits .or .u64 (x * 2 ^ s) y = x * 2 ^ s + y := by
  obtain ⟨a, rfl⟩ := Int.eq_ofNat_of_zero_le hx
  obtain ⟨b, rfl⟩ := Int.eq_ofNat_of_zero_le hy.1
  have hpc : ((2 : Int) ^ s) = ((2 ^ s : Nat) : Int) := by simp
  rw [hpc] at hy h ⊢
  have hp' : (2 : Nat) ^ s ≤ 2 ^ 64 := Nat.pow_le_pow_right (by omega) hs
  have hb : b < 2 ^ s := by omega
  have e : ((a : Int) * ((2 ^ s : Nat) : Int)) = ((2 ^ s * a : Nat) : Int) := by rw [Int.natCast_mul]; exact Int.mul_comm _ _
  rw [e] at h ⊢
  rw [bits_or64 _ _ (by omega) (by omega), Int.toNat_natCast, Int.toNat_natCast, ← Nat.two_pow_add_eq_or_of_lt hb]
  simp
end Go.Sh
namespace Go.Sh
open Go Go.RowKit
abbrev Next (w w' : World) : Prop := Below w.heap.size w w'
theorem _root_.Go.RowKit.Below.on {a b c : World} (h : Below a.heap.size a b) (k : Below b.heap.size b c) : Below a.heap.size a c := h.trans (k.mono h.size)
theorem _root_.Go.RowKit.Below.drawn {B : Nat} {w : World} : Below B w { w with drawn := w.drawn + 1 } := ⟨rfl, rfl, rfl, Nat.le_refl _, fun _ _ => rfl⟩
def BoxIs (w : World) (g : Nat) (cs : List Value) : Prop := ∀ w', Below w.heap.size w w' → ∀ (i : Nat) (v : Value), cs[i]? = some v → w'.cell? ⟨g, i, none⟩ = some v
theorem BoxIs.next {w w' : World} {g : Nat} {cs : List Value} (h : BoxIs w g cs) (hb : Below w.heap.size w w') : BoxIs w' g cs :=
  fun w2 h2 => h w2 (Below.on hb h2)
theorem box_in {P : Program} {w : World} {K : Value → World → Prop} {T T' : TypeId} {x : Value} {cs : List Value} (hx : x.cells = cs.toArray)
    (k : ∀ g W, Below w.heap.size w W → w.heap.size ≤ g → BoxIs W g cs → K (.pointer (some ⟨g, 0, none⟩)) W) : oM P (.box T (.tmp 0)) T' [x] K w := by
  rw [oM_box]
  have e : (Instr.box T x).run P w = .ok (.pointer (some ⟨w.heap.size, 0, none⟩)) (w.alloc (.cells cs.toArray T)) := by
    rw [← hx]; rfl
  rw [e]
  refine k _ _ ((Below.refl _ w).alloc (Nat.le_refl _) _) (Nat.le_refl _) (fun w' hb i v hi => ?_)
  have hlt : w.heap.size < (w.alloc (.cells cs.toArray T)).heap.size := by simp
  rw [hb.cell hlt]
  have := World.cell?_alloc_at (w := w) cs.toArray T w.heap.size i rfl
  rw [this]
  simpa using hi
def I64 (n : Int) : Prop := -9223372036854775808 ≤ n ∧ n < 9223372036854775808
def intC (n : Int) : List Value := [.int .i64 n]
structure Ints (w : World) (v : Value) (l : List Int) : Prop where
  row : RowR intC 1 w v l
  rng : ∀ n ∈ l, I64 n
  len : l.length ≤ 9223372036854775807
theorem Ints.next {w w' : World} {v : Value} {l : List Int} (h : Ints w v l) (hb : Below w.heap.size w w') : Ints w' v l :=
  ⟨h.row.keep hb.size (fun i _ hi => hb.block i hi), h.rng, h.len⟩
theorem Ints.nil (w : World) : Ints w (.slice none 0 0) [] := ⟨⟨none, 0, rfl, fun _ => ⟨rfl, rfl⟩, .inl rfl⟩, by simp, by simp⟩
theorem Ints.isSlice {w : World} {v : Value} {l : List Int} (h : Ints w v l) : ∃ ad c, v = .slice ad l.length c := by
  obtain ⟨⟨ad, c, hv, _⟩, _⟩ := h; exact ⟨ad, c, hv⟩
theorem flat_int (l : List Int) : flat intC l = l.map (fun n => Value.int .i64 n) := by
  induction l with
  | nil => rfl
  | cons a l ih => rw [flat_cons, ih]; rfl
theorem Ints.at {w : World} {ad : Option Addr} {n c : Nat} {l : List Int} (h : Ints w (.slice ad n c) l) {i : Nat} (hi : i < l.length) :
    ∃ b o, ad = some ⟨b, o, none⟩ ∧ b < w.heap.size ∧ (∀ w', Below w.heap.size w w' → w'.cell? ⟨b, o + i, none⟩ = some (.int .i64 l[i])) ∧ I64 l[i] ∧ n = l.length := by
  obtain ⟨⟨ad', c', hv, h0, hc⟩, hr, _⟩ := h
  cases hv
  rcases hc with rfl | ⟨b, o, rfl, hlt, hc⟩
  · simp at hi
  · refine ⟨b, o, rfl, hlt, fun w' hb => ?_, hr _ (List.getElem_mem hi), rfl⟩
    rw [hb.cell hlt]
    exact hc i _ (by rw [flat_int]; simp [hi])
theorem Ints.of_owns {w : World} {B : Nat} {e : TypeId} {v : Value} {l : List Int} (h : w.ownsRow B e 1 v l.length (flat intC l)) (hr : ∀ n ∈ l, I64 n) (hl : l.length ≤ 9223372036854775807) : Ints w v l :=
  ⟨RowR.of_owns h, hr, hl⟩
@[go_sem] theorem oM_makeFunc2 {P : Program} {K : Value → World → Prop} {w : World} (fn : Fn) (T : TypeId) (x y : Value) : oM P (.makeFunc fn #[] #[.tmp 0, .tmp 1]) T [x, y] K w = K (.func fn #[] #[x, y]) w := oM_of_run (by simp [xop, execOp, evalL, evE, Instr.makeFunc])
@[go_sem] theorem oM_makeFunc01 {P : Program} {K : Value → World → Prop} {w : World} (fn : Fn) (T : TypeId) (x : Value) : oM P (.makeFunc fn #[] #[.tmp 0]) T [x] K w = K (.func fn #[] #[x]) w := oM_of_run (by simp [xop, execOp, evalL, evE, Instr.makeFunc])
end Go.Sh
namespace Go.Sh
open Go
section
variable {P : Program} {K : Value → World → Prop} {w : World} {A B : Prop} {p : Prop} [Decidable p] {b c : Bool} {m : (Value → World → Prop) → World → Prop} {T : TypeId} {x y v : Value} {C : World → Prop} {KQ : Value → Prop}
theorem idGd {g : Bool} (h : gdM g m K w) : gdM g m K w := h
theorem idGdD {q : Prop} {d : Decidable q} (h : gdM (gd (.bool (@decide q d)) c) m K w) : gdM (gd (.bool (@decide q d)) c) m K w := h
theorem idGdN {q : Prop} {d : Decidable q} (h : gdM (gd (.bool (!@decide q d)) c) m K w) : gdM (gd (.bool (!@decide q d)) c) m K w := h
theorem idPick (h : oM P (.pick (.tmp 0) (.tmp 1) (.tmp 2)) T [v, x, y] K w) : oM P (.pick (.tmp 0) (.tmp 1) (.tmp 2)) T [v, x, y] K w := h
theorem idCond (h : condM v A B) : condM v A B := h
theorem idO {o : Op} {l : List Value} (h : oM P o T l K w) : oM P o T l K w := h
theorem idOQ {o : Op} {l : List Value} (h : oQ P o T l C KQ) : oQ P o T l C KQ := h
theorem idGdQ {g : Bool} {n : (World → Prop) → (Value → Prop) → Prop} (h : gdQ g n C KQ) : gdQ g n C KQ := h
theorem zF (k : m K w) (h : p := by first|assumption|omega) : gdM (gd (.bool (decide p)) true) m K w := gdt_pos h k
theorem zG (k : K undef w) (h : ¬p := by first|assumption|omega) : gdM (gd (.bool (decide p)) true) m K w := gdt_neg h k
theorem zI (k : m K w) (h : ¬p := by first|assumption|omega) : gdM (gd (.bool (decide p)) false) m K w := gdf_pos h k
theorem zJ (k : K undef w) (h : p := by first|assumption|omega) : gdM (gd (.bool (decide p)) false) m K w := gdf_neg h k
theorem zL (k : m K w) (h : ¬p := by first|assumption|omega) : gdM (gd (.bool (!decide p)) true) m K w := gdtn_pos h k
theorem zM (k : K undef w) (h : p := by first|assumption|omega) : gdM (gd (.bool (!decide p)) true) m K w := gdtn_neg h k
theorem zO (k : m K w) (h : p := by first|assumption|omega) : gdM (gd (.bool (!decide p)) false) m K w := gdfn_pos h k
theorem zP (k : K undef w) (h : ¬p := by first|assumption|omega) : gdM (gd (.bool (!decide p)) false) m K w := gdfn_neg h k
theorem zS (k : K undef w) (h : b = true := by assumption) : gdM (gd (.bool (!b)) true) m K w := gdtbn_neg h k
theorem zT (k : m K w) (h : b = true := by assumption) : gdM (gd (.bool (!b)) false) m K w := gdfbn_pos h k
theorem zA (k : m K w) : gdM (gd (.bool true) true) m K w := gdtT k
theorem zB (k : K undef w) : gdM (gd (.bool false) true) m K w := gdtF k
theorem zC (k : m K w) : gdM (gd (.bool false) false) m K w := gdfF k
theorem zD (k : K undef w) : gdM (gd (.bool true) false) m K w := gdfT k
theorem zH (h1 : p → m K w) (h2 : ¬p → K undef w) : gdM (gd (.bool (decide p)) true) m K w := gdt_split h1 h2
theorem zK (h1 : p → K undef w) (h2 : ¬p → m K w) : gdM (gd (.bool (decide p)) false) m K w := gdf_split h1 h2
theorem zQ (h1 : p → m K w) (h2 : ¬p → K undef w) : gdM (gd (.bool (!decide p)) false) m K w := gdfn_split h1 h2
theorem yB (k : K x w) : oM P (.pick (.tmp 0) (.tmp 1) (.tmp 2)) T [.bool true, x, y] K w := pickT k
theorem yC (k : K y w) : oM P (.pick (.tmp 0) (.tmp 1) (.tmp 2)) T [.bool false, x, y] K w := pickF k
theorem yD (k : K x w) (h : p := by first|assumption|omega) : oM P (.pick (.tmp 0) (.tmp 1) (.tmp 2)) T [.bool (decide p), x, y] K w := pick_pos h k
theorem yE (k : K y w) (h : ¬p := by first|assumption|omega) : oM P (.pick (.tmp 0) (.tmp 1) (.tmp 2)) T [.bool (decide p), x, y] K w := pick_neg h k
theorem yF (k : K x w) (h : ¬p := by first|assumption|omega) : oM P (.pick (.tmp 0) (.tmp 1) (.tmp 2)) T [.bool (!decide p), x, y] K w := pickn_pos h k
theorem yG (k : K y w) (h : p := by first|assumption|omega) : oM P (.pick (.tmp 0) (.tmp 1) (.tmp 2)) T [.bool (!decide p), x, y] K w := pickn_neg h k
theorem yL (k : A) : condM (.bool true) A B := condT k
theorem yM (k : B) : condM (.bool false) A B := condF k
theorem yN (k : A) (h : p := by first|assumption|omega) : condM (.bool (decide p)) A B := cond_pos h k
theorem yO (k : B) (h : ¬p := by first|assumption|omega) : condM (.bool (decide p)) A B := cond_neg h k
theorem yQ (k : A) (h : ¬p := by first|assumption|omega) : condM (.bool (!decide p)) A B := condn_pos h k
theorem yR (k : B) (h : p := by first|assumption|omega) : condM (.bool (!decide p)) A B := condn_neg h k
theorem yP (h1 : p → A) (h2 : ¬p → B) : condM (.bool (decide p)) A B := condM_dec h1 h2
theorem wA (k : KQ x) : oQ P (.pick (.tmp 0) (.tmp 1) (.tmp 2)) T [.bool true, x, y] C KQ := pickQT k
theorem wB (k : KQ y) : oQ P (.pick (.tmp 0) (.tmp 1) (.tmp 2)) T [.bool false, x, y] C KQ := pickQF k
theorem wE (k : KQ x) (h : ¬p := by first|assumption|omega) : oQ P (.pick (.tmp 0) (.tmp 1) (.tmp 2)) T [.bool (!decide p), x, y] C KQ := pickQn_pos h k
theorem wF (k : KQ y) (h : p := by first|assumption|omega) : oQ P (.pick (.tmp 0) (.tmp 1) (.tmp 2)) T [.bool (!decide p), x, y] C KQ := pickQn_neg h k
end
end Go.Sh
namespace Go.Proofs
open Go Go.Sh Go.RowKit FdSpec
set_option linter.unusedSimpArgs false
set_option linter.unusedVariables false
set_option maxRecDepth 10000
section
variable {K : Value → World → Prop} {w : World}
theorem K_eq {a b : Value} (h : K a w) (e : b = a) : K b w := e ▸ h
@[reducible] def u64V (n : Int) : Value := .int .u64 n
theorem valid_ok (n : Int) (h : K (.bool (decide (okN n))) w) : callM Tryz.prog 79 #[.int .i64 n] K w := by
  apply sh_79_ok
  unfold sh_79
  have e : decide (okN n) = (decide (1 ≤ n) && decide (n < 2305843009213693952)) := by
    by_cases h1 : 1 ≤ n <;> by_cases h2 : n < 2305843009213693952 <;> simp [okN, h1, h2]
  rw [e] at h
  by_cases h1 : 1 ≤ n
  · repeat (any_goals (first
    | (with_reducible first|refine pureM_in ?_|((refine idGd ?_); refine zA ?_)|((refine idPick ?_); refine yB ?_))
    | ((with_reducible refine idO ?_); (with_reducible refine oM_gen fun Kv hK=>?_); simp [go_sem, h1]; refine hK _ _ ?_; clear hK; clear Kv)))
    simpa [h1] using h
  · repeat (any_goals (first
    | (with_reducible first|((refine idGd ?_); refine zB ?_)|((refine idPick ?_); refine yC ?_))
    | ((with_reducible refine idO ?_); (with_reducible refine oM_gen fun Kv hK=>?_); simp [go_sem, h1]; refine hK _ _ ?_; clear hK; clear Kv)))
    simpa [h1] using h
theorem residue_ok (n a : Int) (hn : okN n) (h : K (.int .u64 (a % n)) w) : callM Tryz.prog 81 #[.int .i64 n, .int .i64 a] K w := by
  apply sh_81_ok
  unfold sh_81
  obtain ⟨h1, h2⟩ := hn
  have e := residue_eq n a (by omega)
  have h3 := Int.emod_nonneg a (b := n) (by omega)
  have h4 := Int.emod_lt_of_pos a (b := n) (by omega)
  obtain ⟨r, hr⟩ : ∃ r, r = a.tmod n := ⟨_, rfl⟩
  rw [← hr] at e
  repeat (any_goals (first
  | (with_reducible ((refine idCond ?_); refine yP (fun hg=>?_) fun hg=>?_))
  | ((with_reducible refine idO ?_); (with_reducible refine oM_gen fun Kv hK=>?_); simp [go_sem, ← hr]; (try simp (disch := omega) only [wrapI64, wrapU8, wrapU32, wrapU64]); (first|refine hK _ _ ?_|refine And.intro (by omega) (hK _ _ ?_)); clear hK; clear Kv)))
  · rw [if_pos (by assumption)] at e; rw [e]; exact h
  · rw [if_neg (by assumption)] at e; rw [e]; exact h
theorem natN (x : Int) (h : 0 ≤ x) : ∃ a : Nat, x = a := ⟨x.toNat, by omega⟩
theorem maskU (a : Nat) (ha : a < 18446744073709551616) : bits .and .u64 (a : Int) 4294967295 = ((a % 4294967296 : Nat) : Int) := by
  rw [mask64 32 a 4294967295 (by omega) (by decide) (by omega)]; omega
theorem divU (a : Nat) : (a : Int) / 4294967296 = ((a / 4294967296 : Nat) : Int) := by omega
theorem modU (a : Nat) : (a : Int) % 4294967296 = ((a % 4294967296 : Nat) : Int) := by omega
theorem mulU (a b : Nat) : (a : Int) * (b : Int) = ((a * b : Nat) : Int) := (Int.natCast_mul a b).symm
theorem addU (a b : Nat) : (a : Int) + (b : Int) = ((a + b : Nat) : Int) := (Int.natCast_add a b).symm
theorem wrapU (a : Nat) (ha : a < 18446744073709551616) : IntKind.u64.wrap (a : Int) = (a : Int) := wrapU64 _ (by omega) (by omega)
theorem wrapUM (a : Nat) : IntKind.u64.wrap (a : Int) = ((a % 18446744073709551616 : Nat) : Int) := by rw [IntKind.wrap_u64]; omega
theorem mul64_ok (x y : Int) (hx : 0 ≤ x ∧ x < 18446744073709551616) (hy : 0 ≤ y ∧ y < 18446744073709551616) (h : K (.tuple #[.int .u64 (x * y / 18446744073709551616), .int .u64 (x * y % 18446744073709551616)]) w) : callM Tryz.prog 144 #[.int .u64 x, .int .u64 y] K w := by
  apply sh_144_ok
  unfold sh_144
  have mx := mask64 32 x 4294967295 (by omega) (by decide) hx
  have my := mask64 32 y 4294967295 (by omega) (by decide) hy
  obtain ⟨a, rfl⟩ := natN x hx.1
  obtain ⟨b, rfl⟩ := natN y hy.1
  repeat (any_goals ((with_reducible refine idO ?_); (with_reducible refine oM_gen fun Kv hK=>?_); simp [go_sem, mx, my]; refine hK _ _ ?_; clear hK; clear Kv))
  clear mx my
  have hx : a < 18446744073709551616 := by omega
  have hy : b < 18446744073709551616 := by omega
  obtain ⟨bd, bt, bw, hhi⟩ := Lib.mul64_hi a b hx hy
  have ba := Lib.half_mul_le (a := a / 4294967296) (b := b / 4294967296) (by omega) (by omega)
  have bb := Lib.half_mul_le (a := a / 4294967296) (b := b % 4294967296) (by omega) (by omega)
  have bc := Lib.half_mul_le (a := a % 4294967296) (b := b / 4294967296) (by omega) (by omega)
  have ba' : a / 4294967296 * (b / 4294967296) < 18446744073709551616 := by omega
  have bb' : a / 4294967296 * (b % 4294967296) < 18446744073709551616 := by omega
  have bc' : a % 4294967296 * (b / 4294967296) < 18446744073709551616 := by omega
  have bh1 : a / 4294967296 * (b / 4294967296) + (a / 4294967296 * (b % 4294967296) + a % 4294967296 * (b % 4294967296) / 4294967296) / 4294967296 < 18446744073709551616 := by omega
  have bh : a / 4294967296 * (b / 4294967296) + (a / 4294967296 * (b % 4294967296) + a % 4294967296 * (b % 4294967296) / 4294967296) / 4294967296 + ((a / 4294967296 * (b % 4294967296) + a % 4294967296 * (b % 4294967296) / 4294967296) % 4294967296 + a % 4294967296 * (b / 4294967296)) / 4294967296 < 18446744073709551616 := by omega
  simp only [modU, divU, mulU, addU, wrapU _ bd, wrapU _ bb', wrapU _ bt, maskU _ bt, wrapU _ bc', wrapU _ bw, wrapU _ ba', wrapU _ bh1, wrapU _ bh, wrapUM (a * b)]
  rw [hhi]
  exact K_eq h (by simp)
def len8 : ByteArray := ⟨#[0, 1, 2, 2, 3, 3, 3, 3, 4, 4, 4, 4, 4, 4, 4, 4, 5, 5, 5, 5, 5, 5, 5, 5, 5, 5, 5, 5, 5, 5, 5, 5, 6, 6, 6, 6, 6, 6, 6, 6, 6, 6, 6, 6, 6, 6, 6, 6, 6, 6, 6, 6, 6, 6, 6, 6, 6, 6, 6, 6, 6, 6, 6, 6, 7, 7, 7, 7, 7, 7, 7, 7, 7, 7, 7, 7, 7, 7, 7, 7, 7, 7, 7, 7, 7, 7, 7, 7, 7, 7, 7, 7, 7, 7, 7, 7, 7, 7, 7, 7, 7, 7, 7, 7, 7, 7, 7, 7, 7, 7, 7, 7, 7, 7, 7, 7, 7, 7, 7, 7, 7, 7, 7, 7, 7, 7, 7, 7, 8, 8, 8, 8, 8, 8, 8, 8, 8, 8, 8, 8, 8, 8, 8, 8, 8, 8, 8, 8, 8, 8, 8, 8, 8, 8, 8, 8, 8, 8, 8, 8, 8, 8, 8, 8, 8, 8, 8, 8, 8, 8, 8, 8, 8, 8, 8, 8, 8, 8, 8, 8, 8, 8, 8, 8, 8, 8, 8, 8, 8, 8, 8, 8, 8, 8, 8, 8, 8, 8, 8, 8, 8, 8, 8, 8, 8, 8, 8, 8, 8, 8, 8, 8, 8, 8, 8, 8, 8, 8, 8, 8, 8, 8, 8, 8, 8, 8, 8, 8, 8, 8, 8, 8, 8, 8, 8, 8, 8, 8, 8, 8, 8, 8, 8, 8, 8, 8, 8, 8, 8, 8, 8, 8, 8, 8, 8, 8]⟩
theorem len8_size : len8.size = 256 := by decide +kernel
theorem len_bits (x : Nat) (hx : x < 256) : x < 2 ^ (byteAt len8 x).toNat ∧ (x ≠ 0 → 1 ≤ (byteAt len8 x).toNat ∧ 2 ^ ((byteAt len8 x).toNat - 1) ≤ x) ∧ (byteAt len8 x).toNat ≤ 8 ∧ (x = 0 → (byteAt len8 x).toNat = 0) := by
  have : ∀ x, x < 256 → x < 2 ^ (byteAt len8 x).toNat ∧ (x ≠ 0 → 1 ≤ (byteAt len8 x).toNat ∧ 2 ^ ((byteAt len8 x).toNat - 1) ≤ x) ∧ (byteAt len8 x).toNat ≤ 8 ∧ (x = 0 → (byteAt len8 x).toNat = 0) := by decide +kernel
  exact this x hx
theorem oM_index_len8 (i : Int) (T : TypeId) : oM Tryz.prog (.index 9 (.tmp 0) (.tmp 1)) T [.string len8, .int .u8 i] = onM (0 ≤ i ∧ i < 256) (.int .u8 (byteAt len8 i.toNat).toNat) := by
  funext K w
  rw [oM_value (S := Instr.index 9 (.string len8) (.int .u8 i)) rfl, run_index_string (P := Tryz.prog) (w := w) 9 len8 .u8 i (by kernel_rfl)]
  have e := len8_size
  by_cases hi : 0 ≤ i ∧ i < len8.size
  · rw [dif_pos hi, ok_iff, ← byteAt_get]
    exact propext ⟨fun hk => ⟨⟨hi.1, by omega⟩, hk⟩, fun ⟨_, hk⟩ => hk⟩
  · rw [dif_neg hi]
    obtain ⟨e', w', he⟩ := halts Value Tryz.prog .u8 i len8.size .index w
    rw [he, halt_iff]
    exact propext ⟨fun h => h.elim, fun ⟨h, _⟩ => hi ⟨h.1, by omega⟩⟩
theorem stage (x k s : Nat) (h : 2 ^ s ≤ x / 2 ^ k) : x / 2 ^ (k + s) = x / 2 ^ k / 2 ^ s ∧ 2 ^ (k + s) ≤ x := by
  refine ⟨by rw [Nat.pow_add, Nat.div_div_eq_div_mul], ?_⟩
  rw [Nat.pow_add, Nat.mul_comm]
  exact (Nat.le_div_iff_mul_le (Nat.pow_pos (by omega))).1 h
structure BitLen (x L : Nat) : Prop where
  lt : x < 2 ^ L
  ge : x ≠ 0 → 1 ≤ L ∧ 2 ^ (L - 1) ≤ x
  le : L ≤ 64
def BlM (x B m : Nat) (w : World) (l : List Value) (w' : World) : Prop := w' = w ∧ ∃ k : Nat, l = [.int .u64 ((x / 2 ^ k : Nat) : Int), .int .i64 (k : Int)] ∧ x / 2 ^ k < B ∧ (k = 0 ∨ 2 ^ k ≤ x) ∧ k ≤ m
theorem len64_ok (x : Nat) (hx : x < 18446744073709551616) (h : ∀ L, BitLen x L → K (.int .i64 (L : Nat)) w) : callM Tryz.prog 224 #[.int .u64 (x : Int)] K w := by
  apply sh_224_ok
  unfold sh_224
  rw [show (⟨#[0, 1, 2, 2, 3, 3, 3, 3, 4, 4, 4, 4, 4, 4, 4, 4, 5, 5, 5, 5, 5, 5, 5, 5, 5, 5, 5, 5, 5, 5, 5, 5, 6, 6, 6, 6, 6, 6, 6, 6, 6, 6, 6, 6, 6, 6, 6, 6, 6, 6, 6, 6, 6, 6, 6, 6, 6, 6, 6, 6, 6, 6, 6, 6, 7, 7, 7, 7, 7, 7, 7, 7, 7, 7, 7, 7, 7, 7, 7, 7, 7, 7, 7, 7, 7, 7, 7, 7, 7, 7, 7, 7, 7, 7, 7, 7, 7, 7, 7, 7, 7, 7, 7, 7, 7, 7, 7, 7, 7, 7, 7, 7, 7, 7, 7, 7, 7, 7, 7, 7, 7, 7, 7, 7, 7, 7, 7, 7, 8, 8, 8, 8, 8, 8, 8, 8, 8, 8, 8, 8, 8, 8, 8, 8, 8, 8, 8, 8, 8, 8, 8, 8, 8, 8, 8, 8, 8, 8, 8, 8, 8, 8, 8, 8, 8, 8, 8, 8, 8, 8, 8, 8, 8, 8, 8, 8, 8, 8, 8, 8, 8, 8, 8, 8, 8, 8, 8, 8, 8, 8, 8, 8, 8, 8, 8, 8, 8, 8, 8, 8, 8, 8, 8, 8, 8, 8, 8, 8, 8, 8, 8, 8, 8, 8, 8, 8, 8, 8, 8, 8, 8, 8, 8, 8, 8, 8, 8, 8, 8, 8, 8, 8, 8, 8, 8, 8, 8, 8, 8, 8, 8, 8, 8, 8, 8, 8, 8, 8, 8, 8, 8, 8, 8, 8, 8, 8]⟩ : ByteArray) = len8 from rfl]
  refine ⟨BlM x 4294967296 32 w, ?_, ?_⟩
  · repeat (any_goals (first
    | (with_reducible ((refine idCond ?_); refine yP (fun hg=>?_) fun hg=>?_))
    | ((with_reducible refine idO ?_); (with_reducible refine oM_gen fun Kv hK=>?_); simp [go_sem]; refine hK _ _ ?_; clear hK; clear Kv)))
    · exact ⟨rfl, 32, by simp, by omega, by omega, by omega⟩
    · exact ⟨rfl, 0, by simp, by simp; omega, by omega, by omega⟩
  rintro _ _ w1 ⟨e1, k, rfl, h1, h2, h3⟩
  rw [e1]
  clear e1 w1
  refine ⟨BlM x 65536 48 w, ?_, ?_⟩
  · have hs := stage x k 16
    obtain ⟨y, hy⟩ : ∃ y, y = x / 2 ^ k := ⟨_, rfl⟩
    rw [← hy] at hs h1 ⊢
    repeat (any_goals (first
    | (with_reducible ((refine idCond ?_); refine yP (fun hg=>?_) fun hg=>?_))
    | ((with_reducible refine idO ?_); (with_reducible refine oM_gen fun Kv hK=>?_); simp [go_sem]; (try simp (disch := omega) only [wrapI64, wrapU8, wrapU32, wrapU64]); refine hK _ _ ?_; clear hK; clear Kv)))
    · have hs := hs (by omega)
      exact ⟨rfl, k + 16, by rw [hs.1]; simp, by rw [hs.1]; omega, .inr hs.2, by omega⟩
    · exact ⟨rfl, k, by rw [hy]; rfl, by omega, h2, by omega⟩
  clear h1 h2 h3 k
  rintro _ _ w1 ⟨e1, k, rfl, h1, h2, h3⟩
  rw [e1]
  clear e1 w1
  refine ⟨BlM x 256 56 w, ?_, ?_⟩
  · have hs := stage x k 8
    obtain ⟨y, hy⟩ : ∃ y, y = x / 2 ^ k := ⟨_, rfl⟩
    rw [← hy] at hs h1 ⊢
    repeat (any_goals (first
    | (with_reducible ((refine idCond ?_); refine yP (fun hg=>?_) fun hg=>?_))
    | ((with_reducible refine idO ?_); (with_reducible refine oM_gen fun Kv hK=>?_); simp [go_sem]; (try simp (disch := omega) only [wrapI64, wrapU8, wrapU32, wrapU64]); refine hK _ _ ?_; clear hK; clear Kv)))
    · have hs := hs (by omega)
      exact ⟨rfl, k + 8, by rw [hs.1]; simp, by rw [hs.1]; omega, .inr hs.2, by omega⟩
    · exact ⟨rfl, k, by rw [hy]; rfl, by omega, h2, by omega⟩
  clear h1 h2 h3 k
  rintro _ _ w1 ⟨e1, k, rfl, h1, h2, h3⟩
  rw [e1]
  clear e1 w1
  obtain ⟨l1, l2, l3, l4⟩ := len_bits (x / 2 ^ k) h1
  have hL : BitLen x (k + (byteAt len8 (x / 2 ^ k)).toNat) := by
    generalize (byteAt len8 (x / 2 ^ k)).toNat = L at *
    have hp : 0 < 2 ^ k := Nat.pow_pos (by omega)
    refine ⟨?_, ?_, by omega⟩
    · rw [Nat.pow_add, Nat.mul_comm]
      exact (Nat.div_lt_iff_lt_mul hp).1 l1
    · intro h0
      by_cases hy : x / 2 ^ k = 0
      · rw [Nat.div_eq_zero_iff] at hy
        rcases h2 with rfl | h2 <;> simp at hy <;> omega
      · obtain ⟨a, b⟩ := l2 hy
        refine ⟨by omega, ?_⟩
        rw [show k + L - 1 = k + (L - 1) by omega, Nat.pow_add, Nat.mul_comm]
        exact (Nat.le_div_iff_mul_le hp).1 b
  obtain ⟨y, hy⟩ : ∃ y, y = x / 2 ^ k := ⟨_, rfl⟩
  have hk := h _ hL
  simp only [← hy] at hk h1 l3 ⊢
  repeat (any_goals ((with_reducible refine idO ?_); (with_reducible refine oM_gen fun Kv hK=>?_); simp [go_sem, oM_index_len8]; (try simp (disch := omega) only [wrapI64, wrapU8, wrapU32, wrapU64]); (first|refine hK _ _ ?_|refine And.intro (by omega) (hK _ _ ?_)); clear hK; clear Kv))
  exact K_eq hk (by simp)
end
end Go.Proofs
