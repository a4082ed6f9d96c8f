/- Parts of the proof of the seat's statements (HTk, ShKn, TkSpec, TkA, TkB, ShKn2, TkC, ShelfI, TkD, TkE, TkF, TkG, TkH, TkI, TkJ, TkK, TkL, TkM, TkN, HTd): lemmas about the given translation and plain laws. No condition of their own. -/
import Derived.Test.YtpfjmfgnlpnflaaGreatDoorZlb
import Derived.Test.YtpfjmfgnlpnflaaGreatDoorProg
import Derived.Shelf.Spec.SlicesInsertGrow
set_option linter.all false
set_option maxRecDepth 100000
set_option linter.unusedVariables false
set_option maxRecDepth 100000
namespace Go.Proofs
open Go.Sh
def sh_15 (a0 : Value) (a1 : Value) (a2 : Value) (a3 : Value) (K : Value → World → Prop) (w : World) : Prop :=
 oM Tryz.prog (.box 32 (.tmp 0)) 0 [a0] (fun v4_1 w =>
 oM Tryz.prog (.box 45 (.tmp 0)) 0 [a2] (fun v6_2 w =>
 oM Tryz.prog (.alloc 49) 0 [] (fun v8_3 w =>
 oM Tryz.prog (.load 32 (.tmp 0)) 32 [v4_1] (fun v17_4 w =>
 callM Tryz.prog 67 #[v17_4, a1] (fun v19_5 w =>
 oM Tryz.prog (.extract (.tmp 0) 0) 116 [v19_5] (fun v20_6 w =>
 oM Tryz.prog (.extract (.tmp 0) 1) 3 [v19_5] (fun v21_7 w =>
 oM Tryz.prog (.extract (.tmp 0) 2) 4 [v19_5] (fun v22_8 w =>
 oM Tryz.prog (.alloc 116) 0 [] (fun v10_9 w =>
 oM Tryz.prog (.store 116 (.tmp 0) (.tmp 1)) 0 [v10_9, v20_6] (fun _ w =>
 oM Tryz.prog (.unOp .not 4 (.tmp 0)) 4 [v22_8] (fun v24_10 w =>
 gdM (gd v24_10 false) (oM Tryz.prog (.load 116 (.tmp 0)) 116 [v10_9]) (fun v26_11 w =>
 gdM (gd v24_10 false) (oM Tryz.prog (.load 45 (.tmp 0)) 45 [v6_2]) (fun v27_12 w =>
 gdM (gd v24_10 false) (callM Tryz.prog 68 #[v26_11, v27_12]) (fun v28_13 w =>
 gdM (gd v24_10 false) (oM Tryz.prog (.unOp .not 4 (.tmp 0)) 4 [v28_13]) (fun v29_14 w =>
 oM Tryz.prog (.pick (.tmp 0) (.tmp 1) (.tmp 2)) 4 [v24_10, (.bool true), v29_14] (fun v30_15 w =>
 gdM (gd v30_15 false) (oM Tryz.prog (.load 116 (.tmp 0)) 116 [v10_9]) (fun v32_16 w =>
 gdM (gd v30_15 false) (pureM a3) (fun v33_17 w =>
 gdM (gd v30_15 false) (oM Tryz.prog (.buildSlice 22 1 #[(0, (.tmp 0))]) 22 [v33_17]) (fun v34_18 w =>
 gdM (gd v30_15 false) (callM Tryz.prog 65 #[v32_16, (.int .i64 1), v34_18]) (fun v35_19 w =>
 gdM (gd v30_15 false) (oM Tryz.prog (.unOp .not 4 (.tmp 0)) 4 [v35_19]) (fun v36_20 w =>
 oM Tryz.prog (.pick (.tmp 0) (.tmp 1) (.tmp 2)) 4 [v30_15, (.bool true), v36_20] (fun v37_21 w =>
 condM v37_21
 (oM Tryz.prog (.build 49 #[]) 49 [] (fun v38_22 w =>
 oM Tryz.prog (.store 49 (.tmp 0) (.tmp 1)) 0 [v8_3, v38_22] (fun _ w =>
 ∃ r_23, (do loadVar 49 (← asAddr v8_3) : Sem Value).run Tryz.prog w = .ok r_23 w ∧ K (.tuple #[r_23, (.bool false)]) w) w) w)
 (oM Tryz.prog (.build 49 #[(0, (.tmp 0))]) 49 [a3] (fun v40_24 w =>
 oM Tryz.prog (.alloc 49) 0 [] (fun v13_25 w =>
 oM Tryz.prog (.store 49 (.tmp 0) (.tmp 1)) 0 [v13_25, v40_24] (fun _ w =>
 callM Tryz.prog 69 #[a1] (fun v42_26 w =>
 oM Tryz.prog (.call (Go.Call.mk (.builtin .len) #[(.tmp 0)] #[22])) 3 [v42_26] (fun v43_27 w =>
 loopM [undef, undef, (.int .i64 0)] w (fun J_28 m_29 l_30 u_l_30 w0_l_30 => (fun w => (
 oM Tryz.prog (.binOp .lss 3 (.tmp 0) (.tmp 1) 3) 0 [(l_30.getD 2 undef), v43_27] (fun v45_31 w =>
 condM v45_31
 (oM Tryz.prog (.indexAddr 22 (.tmp 0) (.tmp 1)) 0 [v42_26, (l_30.getD 2 undef)] (fun v47_32 w =>
 oM Tryz.prog (.load 3 (.tmp 0)) 3 [v47_32] (fun v48_33 w =>
 stageM w (fun C_34 w => (oH Tryz.prog (.fieldAddr 49 (.tmp 0) 1) 0 [v13_25] (upto C_34 4) (fun v49_35 =>
 oH Tryz.prog (.load 22 (.tmp 0)) 22 [v49_35] (upto C_34 4) (fun v50_36 =>
 oH Tryz.prog (.load 116 (.tmp 0)) 116 [v10_9] (upto C_34 2) (fun v51_37 =>
 oH Tryz.prog (.fieldAddr 45 (.tmp 0) 3) 0 [v6_2] (upto C_34 2) (fun v52_38 =>
 oH Tryz.prog (.load 22 (.tmp 0)) 22 [v52_38] (upto C_34 2) (fun v53_39 =>
 pureH (l_30.getD 2 undef) (upto C_34 2) (fun v54_40 =>
 oH Tryz.prog (.indexAddr 22 (.tmp 0) (.tmp 1)) 0 [v53_39, v54_40] (upto C_34 2) (fun v55_41 =>
 oH Tryz.prog (.load 3 (.tmp 0)) 3 [v55_41] (upto C_34 2) (fun v56_42 =>
 oH Tryz.prog (.load 116 (.tmp 0)) 116 [v10_9] (upto C_34 1) (fun v57_43 =>
 pureH a3 (upto C_34 1) (fun v58_44 =>
 oH Tryz.prog (.fieldAddr 45 (.tmp 0) 0) 0 [v6_2] (upto C_34 0) (fun v59_45 =>
 oH Tryz.prog (.load 3 (.tmp 0)) 3 [v59_45] (upto C_34 0) (fun v60_46 =>
 pureH v48_33 (upto C_34 0) (fun v61_47 =>
 oM Tryz.prog (.buildSlice 22 2 #[(0, (.tmp 0)), (1, (.tmp 1))]) 22 [v60_46, v61_47] (fun v62_48 w => C_34 1 w ∧ (
 callM Tryz.prog 71 #[v57_43, v58_44, v62_48] (fun v63_49 w => C_34 2 w ∧ (
 callM Tryz.prog 70 #[v51_37, v56_42, v63_49] (fun v64_50 w => C_34 3 w ∧ (
 oM Tryz.prog (.buildSlice 22 1 #[(0, (.tmp 0))]) 22 [v64_50] (fun v65_51 w => C_34 4 w ∧ (
 oM Tryz.prog (.call (Go.Call.mk (.builtin .append) #[(.tmp 0), (.tmp 1)] #[22, 22])) 22 [v50_36, v65_51] (fun v66_52 w => C_34 5 w ∧ (
 oM Tryz.prog (.fieldAddr 49 (.tmp 0) 1) 0 [v13_25] (fun v67_53 w => C_34 6 w ∧ (
 oM Tryz.prog (.store 22 (.tmp 0) (.tmp 1)) 0 [v67_53, v66_52] (fun _ w => C_34 7 w ∧ (
 oM Tryz.prog (.binOp .add 3 (.tmp 0) (.tmp 1) 3) 3 [(l_30.getD 2 undef), (.int .i64 1)] (fun v68_54 w =>
 J_28 [(l_30.getD 2 undef), v48_33, v68_54] w ∧ m_29 [(l_30.getD 2 undef), v48_33, v68_54] w < m_29 l_30 w0_l_30) w)) w)) w)) w)) w)) w)) w)) w)))))))))))))))) w) w)
 (oM Tryz.prog (.load 49 (.tmp 0)) 49 [v13_25] (fun v69_55 w =>
 oM Tryz.prog (.store 49 (.tmp 0) (.tmp 1)) 0 [v8_3, v69_55] (fun _ w =>
 ∃ r_56, (do loadVar 49 (← asAddr v8_3) : Sem Value).run Tryz.prog w = .ok r_56 w ∧ K (.tuple #[r_56, (.bool true)]) w) w) w)) w)) w0_l_30)) w) w) w) w) w)) w) w) w) w) w) w) w) w) w) w) w) w) w) w) w) w) w) w) w) w) w) w
theorem sh_15_eq (a0 : Value) (a1 : Value) (a2 : Value) (a3 : Value) (K : Value → World → Prop) (w : World) : sh_15 a0 a1 a2 a3 K w = code Tryz.prog (fun _ => 3) 70 (Tryz.f15.body.getD .skip) (slotsAt [a0, a1, a2, a3]) (retK Tryz.prog [.cell 8 49, .tmp 9] K) w := by kernel_rfl
theorem sh_15_ok {a0 a1 a2 a3 : Value} {K : Value → World → Prop} {w : World} (h : sh_15 a0 a1 a2 a3 K w) : callM Tryz.prog 15 #[a0, a1, a2, a3] K w :=
  calls_of_code (fun _ => 3) (fn := Tryz.f15) (rs := [.cell 8 49, .tmp 9]) Tryz.func15 rfl rfl (by kernel_rfl) (Nat.le_of_ble_eq_true rfl) ((sh_15_eq a0 a1 a2 a3 K w).mp h)
def sh_34 (a0 : Value) (a1 : Value) (a2 : Value) (a3 : Value) (K : Value → World → Prop) (w : World) : Prop :=
 oM Tryz.prog (.box 32 (.tmp 0)) 0 [a0] (fun v4_1 w =>
 oM Tryz.prog (.alloc 37) 0 [] (fun v8_2 w =>
 oM Tryz.prog (.load 32 (.tmp 0)) 32 [v4_1] (fun v14_3 w =>
 callM Tryz.prog 67 #[v14_3, a2] (fun v16_4 w =>
 oM Tryz.prog (.extract (.tmp 0) 0) 116 [v16_4] (fun v17_5 w =>
 oM Tryz.prog (.extract (.tmp 0) 1) 3 [v16_4] (fun v18_6 w =>
 oM Tryz.prog (.extract (.tmp 0) 2) 4 [v16_4] (fun v19_7 w =>
 oM Tryz.prog (.alloc 116) 0 [] (fun v10_8 w =>
 oM Tryz.prog (.store 116 (.tmp 0) (.tmp 1)) 0 [v10_8, v17_5] (fun _ w =>
 oM Tryz.prog (.unOp .not 4 (.tmp 0)) 4 [v19_7] (fun v21_9 w =>
 gdM (gd v21_9 false) (oM Tryz.prog (.load 116 (.tmp 0)) 116 [v10_8]) (fun v23_10 w =>
 gdM (gd v21_9 false) (pureM a1) (fun v24_11 w =>
 gdM (gd v21_9 false) (oM Tryz.prog (.buildSlice 22 1 #[(0, (.tmp 0))]) 22 [v24_11]) (fun v25_12 w =>
 gdM (gd v21_9 false) (callM Tryz.prog 65 #[v23_10, (.int .i64 1), v25_12]) (fun v26_13 w =>
 gdM (gd v21_9 false) (oM Tryz.prog (.unOp .not 4 (.tmp 0)) 4 [v26_13]) (fun v27_14 w =>
 oM Tryz.prog (.pick (.tmp 0) (.tmp 1) (.tmp 2)) 4 [v21_9, (.bool true), v27_14] (fun v28_15 w =>
 gdM (gd v28_15 false) (oM Tryz.prog (.load 116 (.tmp 0)) 116 [v10_8]) (fun v30_16 w =>
 gdM (gd v28_15 false) (pureM a3) (fun v31_17 w =>
 gdM (gd v28_15 false) (oM Tryz.prog (.buildSlice 22 1 #[(0, (.tmp 0))]) 22 [v31_17]) (fun v32_18 w =>
 gdM (gd v28_15 false) (callM Tryz.prog 65 #[v30_16, (.int .i64 0), v32_18]) (fun v33_19 w =>
 gdM (gd v28_15 false) (oM Tryz.prog (.unOp .not 4 (.tmp 0)) 4 [v33_19]) (fun v34_20 w =>
 oM Tryz.prog (.pick (.tmp 0) (.tmp 1) (.tmp 2)) 4 [v28_15, (.bool true), v34_20] (fun v35_21 w =>
 condM v35_21
 (oM Tryz.prog (.build 37 #[]) 37 [] (fun v36_22 w =>
 oM Tryz.prog (.store 37 (.tmp 0) (.tmp 1)) 0 [v8_2, v36_22] (fun _ w =>
 ∃ r_23, (do loadVar 37 (← asAddr v8_2) : Sem Value).run Tryz.prog w = .ok r_23 w ∧ K (.tuple #[r_23, (.int .i64 1)]) w) w) w)
 (heldM w (fun C_24 w => (oH Tryz.prog (.load 116 (.tmp 0)) 116 [v10_8] C_24 (fun v37_25 =>
 pureH v18_6 C_24 (fun v38_26 =>
 pureH a1 C_24 (fun v39_27 =>
 oH Tryz.prog (.load 116 (.tmp 0)) 116 [v10_8] C_24 (fun v41_28 =>
 pureH a3 C_24 (fun v42_29 =>
 oH Tryz.prog (.load 116 (.tmp 0)) 116 [v10_8] C_24 (fun v44_30 =>
 pureH v18_6 C_24 (fun v45_31 =>
 pureH a3 C_24 (fun v46_32 =>
 callM Tryz.prog 89 #[v37_25, v38_26, v39_27] (fun v40_33 w => C_24 w ∧ (
 callM Tryz.prog 66 #[v41_28, v42_29] (fun v43_34 w => C_24 w ∧ (
 callM Tryz.prog 89 #[v44_30, v45_31, v46_32] (fun v47_35 w => C_24 w ∧ (
 oM Tryz.prog (.build 37 #[(0, (.tmp 0)), (1, (.tmp 1)), (2, (.tmp 2))]) 37 [v40_33, v43_34, v47_35] (fun v48_36 w => C_24 w ∧ (
 oM Tryz.prog (.store 37 (.tmp 0) (.tmp 1)) 0 [v8_2, v48_36] (fun _ w => C_24 w ∧ (
 C_24 w ∧ (∃ r_38, (do loadVar 37 (← asAddr v8_2) : Sem Value).run Tryz.prog w = .ok r_38 w ∧ K (.tuple #[r_38, (.int .i64 0)]) w))) w)) w)) w)) w)) w)))))))))))) w) w) w) w) w) w) w) w) w) w) w) w) w) w) w) w) w) w) w) w) w) w
theorem sh_34_eq (a0 : Value) (a1 : Value) (a2 : Value) (a3 : Value) (K : Value → World → Prop) (w : World) : sh_34 a0 a1 a2 a3 K w = code Tryz.prog (fun _ => 2) 49 (Tryz.f34.body.getD .skip) (slotsAt [a0, a1, a2, a3]) (retK Tryz.prog [.cell 8 37, .tmp 9] K) w := by kernel_rfl
theorem sh_34_ok {a0 a1 a2 a3 : Value} {K : Value → World → Prop} {w : World} (h : sh_34 a0 a1 a2 a3 K w) : callM Tryz.prog 34 #[a0, a1, a2, a3] K w :=
  calls_of_code (fun _ => 2) (fn := Tryz.f34) (rs := [.cell 8 37, .tmp 9]) Tryz.func34 rfl rfl (by kernel_rfl) (Nat.le_of_ble_eq_true rfl) ((sh_34_eq a0 a1 a2 a3 K w).mp h)
def sh_35 (a0 : Value) (a1 : Value) (a2 : Value) (a3 : Value) (K : Value → World → Prop) (w : World) : Prop :=
 oM Tryz.prog (.box 32 (.tmp 0)) 0 [a0] (fun v4_1 w =>
 oM Tryz.prog (.load 32 (.tmp 0)) 32 [v4_1] (fun v12_2 w =>
 callM Tryz.prog 64 #[v12_2] (fun v13_3 w =>
 oM Tryz.prog (.extract (.tmp 0) 0) 116 [v13_3] (fun v14_4 w =>
 oM Tryz.prog (.extract (.tmp 0) 1) 4 [v13_3] (fun v15_5 w =>
 oM Tryz.prog (.alloc 116) 0 [] (fun v9_6 w =>
 oM Tryz.prog (.store 116 (.tmp 0) (.tmp 1)) 0 [v9_6, v14_4] (fun _ w =>
 gdM (gd v15_5 true) (oM Tryz.prog (.load 116 (.tmp 0)) 116 [v9_6]) (fun v18_7 w =>
 gdM (gd v15_5 true) (pureM a1) (fun v19_8 w =>
 gdM (gd v15_5 true) (oM Tryz.prog (.buildSlice 22 1 #[(0, (.tmp 0))]) 22 [v19_8]) (fun v20_9 w =>
 gdM (gd v15_5 true) (callM Tryz.prog 65 #[v18_7, (.int .i64 1), v20_9]) (fun v21_10 w =>
 oM Tryz.prog (.pick (.tmp 0) (.tmp 1) (.tmp 2)) 4 [v15_5, v21_10, (.bool false)] (fun v22_11 w =>
 gdM (gd v22_11 true) (oM Tryz.prog (.load 116 (.tmp 0)) 116 [v9_6]) (fun v24_12 w =>
 gdM (gd v22_11 true) (pureM a2) (fun v25_13 w =>
 gdM (gd v22_11 true) (pureM a3) (fun v26_14 w =>
 gdM (gd v22_11 true) (oM Tryz.prog (.buildSlice 22 2 #[(0, (.tmp 0)), (1, (.tmp 1))]) 22 [v25_13, v26_14]) (fun v27_15 w =>
 gdM (gd v22_11 true) (callM Tryz.prog 65 #[v24_12, (.int .i64 0), v27_15]) (fun v28_16 w =>
 oM Tryz.prog (.pick (.tmp 0) (.tmp 1) (.tmp 2)) 4 [v22_11, v28_16, (.bool false)] (fun v29_17 w =>
 condM v29_17
 (heldM w (fun C_18 w => (oH Tryz.prog (.load 116 (.tmp 0)) 116 [v9_6] C_18 (fun v30_19 =>
 oH Tryz.prog (.load 116 (.tmp 0)) 116 [v9_6] C_18 (fun v31_20 =>
 pureH a3 C_18 (fun v32_21 =>
 pureH a1 C_18 (fun v33_22 =>
 pureH a2 C_18 (fun v36_23 =>
 oM Tryz.prog (.buildSlice 22 1 #[(0, (.tmp 0))]) 22 [v33_22] (fun v34_24 w => C_18 w ∧ (
 callM Tryz.prog 71 #[v31_20, v32_21, v34_24] (fun v35_25 w => C_18 w ∧ (
 callM Tryz.prog 70 #[v30_19, v35_25, v36_23] (fun v37_26 w => C_18 w ∧ (
 C_18 w ∧ (K v37_26 w))) w)) w)) w))))))))
 (K (.int .i64 0) w)) w) w) w) w) w) w) w) w) w) w) w) w) w) w) w) w) w) w
theorem sh_35_eq (a0 : Value) (a1 : Value) (a2 : Value) (a3 : Value) (K : Value → World → Prop) (w : World) : sh_35 a0 a1 a2 a3 K w = code Tryz.prog (fun _ => 2) 38 (Tryz.f35.body.getD .skip) (slotsAt [a0, a1, a2, a3]) (retK Tryz.prog [.tmp 8] K) w := by kernel_rfl
theorem sh_35_ok {a0 a1 a2 a3 : Value} {K : Value → World → Prop} {w : World} (h : sh_35 a0 a1 a2 a3 K w) : callM Tryz.prog 35 #[a0, a1, a2, a3] K w :=
  calls_of_code (fun _ => 2) (fn := Tryz.f35) (rs := [.tmp 8]) Tryz.func35 rfl rfl (by kernel_rfl) (Nat.le_of_ble_eq_true rfl) ((sh_35_eq a0 a1 a2 a3 K w).mp h)
def sh_13 (a0 : Value) (a1 : Value) (K : Value → World → Prop) (w : World) : Prop :=
 oM Tryz.prog (.box 32 (.tmp 0)) 0 [a0] (fun v2_1 w =>
 oM Tryz.prog (.load 32 (.tmp 0)) 32 [v2_1] (fun v8_2 w =>
 callM Tryz.prog 64 #[v8_2] (fun v9_3 w =>
 oM Tryz.prog (.extract (.tmp 0) 0) 116 [v9_3] (fun v10_4 w =>
 oM Tryz.prog (.extract (.tmp 0) 1) 4 [v9_3] (fun v11_5 w =>
 oM Tryz.prog (.alloc 116) 0 [] (fun v5_6 w =>
 oM Tryz.prog (.store 116 (.tmp 0) (.tmp 1)) 0 [v5_6, v10_4] (fun _ w =>
 gdM (gd v11_5 true) (oM Tryz.prog (.load 116 (.tmp 0)) 116 [v5_6]) (fun v14_7 w =>
 gdM (gd v11_5 true) (pureM a1) (fun v15_8 w =>
 gdM (gd v11_5 true) (oM Tryz.prog (.buildSlice 22 1 #[(0, (.tmp 0))]) 22 [v15_8]) (fun v16_9 w =>
 gdM (gd v11_5 true) (callM Tryz.prog 65 #[v14_7, (.int .i64 1), v16_9]) (fun v17_10 w =>
 oM Tryz.prog (.pick (.tmp 0) (.tmp 1) (.tmp 2)) 4 [v11_5, v17_10, (.bool false)] (fun v18_11 w =>
 condM v18_11
 (oM Tryz.prog (.load 116 (.tmp 0)) 116 [v5_6] (fun v19_12 w =>
 callM Tryz.prog 66 #[v19_12, a1] (fun v21_13 w =>
 K v21_13 w) w) w)
 (K (.int .i64 0) w)) w) w) w) w) w) w) w) w) w) w) w) w
theorem sh_13_eq (a0 : Value) (a1 : Value) (K : Value → World → Prop) (w : World) : sh_13 a0 a1 K w = code Tryz.prog (fun _ => 2) 22 (Tryz.f13.body.getD .skip) (slotsAt [a0, a1]) (retK Tryz.prog [.tmp 4] K) w := by kernel_rfl
theorem sh_13_ok {a0 a1 : Value} {K : Value → World → Prop} {w : World} (h : sh_13 a0 a1 K w) : callM Tryz.prog 13 #[a0, a1] K w :=
  calls_of_code (fun _ => 2) (fn := Tryz.f13) (rs := [.tmp 4]) Tryz.func13 rfl rfl (by kernel_rfl) (Nat.le_of_ble_eq_true rfl) ((sh_13_eq a0 a1 K w).mp h)
def sh_80 (a0 : Value) (a1 : Value) (K : Value → World → Prop) (w : World) : Prop :=
 oM Tryz.prog (.box 32 (.tmp 0)) 0 [a0] (fun v2_1 w =>
 oM Tryz.prog (.load 32 (.tmp 0)) 32 [v2_1] (fun v9_2 w =>
 callM Tryz.prog 134 #[v9_2, a1] (fun v11_3 w =>
 oM Tryz.prog (.extract (.tmp 0) 0) 116 [v11_3] (fun v12_4 w =>
 oM Tryz.prog (.extract (.tmp 0) 1) 3 [v11_3] (fun v13_5 w =>
 oM Tryz.prog (.extract (.tmp 0) 2) 4 [v11_3] (fun v14_6 w =>
 oM Tryz.prog (.alloc 116) 0 [] (fun v5_7 w =>
 oM Tryz.prog (.store 116 (.tmp 0) (.tmp 1)) 0 [v5_7, v12_4] (fun _ w =>
 K v13_5 w) w) w) w) w) w) w) w) w
theorem sh_80_eq (a0 : Value) (a1 : Value) (K : Value → World → Prop) (w : World) : sh_80 a0 a1 K w = code Tryz.prog (fun _ => 0) 16 (Tryz.f80.body.getD .skip) (slotsAt [a0, a1]) (retK Tryz.prog [.tmp 4] K) w := by kernel_rfl
theorem sh_80_ok {a0 a1 : Value} {K : Value → World → Prop} {w : World} (h : sh_80 a0 a1 K w) : callM Tryz.prog 80 #[a0, a1] K w :=
  calls_of_code (fun _ => 0) (fn := Tryz.f80) (rs := [.tmp 4]) Tryz.func80 rfl rfl (by kernel_rfl) (Nat.le_of_ble_eq_true rfl) ((sh_80_eq a0 a1 K w).mp h)
def sh_81 (a0 : Value) (a1 : Value) (K : Value → World → Prop) (w : World) : Prop :=
 oM Tryz.prog (.box 32 (.tmp 0)) 0 [a0] (fun v2_1 w =>
 oM Tryz.prog (.load 32 (.tmp 0)) 32 [v2_1] (fun v9_2 w =>
 callM Tryz.prog 67 #[v9_2, a1] (fun v11_3 w =>
 oM Tryz.prog (.extract (.tmp 0) 0) 116 [v11_3] (fun v12_4 w =>
 oM Tryz.prog (.extract (.tmp 0) 1) 3 [v11_3] (fun v13_5 w =>
 oM Tryz.prog (.extract (.tmp 0) 2) 4 [v11_3] (fun v14_6 w =>
 oM Tryz.prog (.alloc 116) 0 [] (fun v5_7 w =>
 oM Tryz.prog (.store 116 (.tmp 0) (.tmp 1)) 0 [v5_7, v12_4] (fun _ w =>
 K v14_6 w) w) w) w) w) w) w) w) w
theorem sh_81_eq (a0 : Value) (a1 : Value) (K : Value → World → Prop) (w : World) : sh_81 a0 a1 K w = code Tryz.prog (fun _ => 0) 16 (Tryz.f81.body.getD .skip) (slotsAt [a0, a1]) (retK Tryz.prog [.tmp 4] K) w := by kernel_rfl
theorem sh_81_ok {a0 a1 : Value} {K : Value → World → Prop} {w : World} (h : sh_81 a0 a1 K w) : callM Tryz.prog 81 #[a0, a1] K w :=
  calls_of_code (fun _ => 0) (fn := Tryz.f81) (rs := [.tmp 4]) Tryz.func81 rfl rfl (by kernel_rfl) (Nat.le_of_ble_eq_true rfl) ((sh_81_eq a0 a1 K w).mp h)
def sh_31 (a0 : Value) (a1 : Value) (a2 : Value) (a3 : Value) (K : Value → World → Prop) (w : World) : Prop :=
 oM Tryz.prog (.box 32 (.tmp 0)) 0 [a0] (fun v4_1 w =>
 oM Tryz.prog (.box 41 (.tmp 0)) 0 [a1] (fun v5_2 w =>
 oM Tryz.prog (.box 49 (.tmp 0)) 0 [a2] (fun v6_3 w =>
 oM Tryz.prog (.box 49 (.tmp 0)) 0 [a3] (fun v7_4 w =>
 oM Tryz.prog (.load 32 (.tmp 0)) 32 [v4_1] (fun v17_5 w =>
 oM Tryz.prog (.load 41 (.tmp 0)) 41 [v5_2] (fun v18_6 w =>
 oM Tryz.prog (.load 49 (.tmp 0)) 49 [v6_3] (fun v19_7 w =>
 oM Tryz.prog (.load 49 (.tmp 0)) 49 [v7_4] (fun v20_8 w =>
 callM Tryz.prog 88 #[v17_5, v18_6, v19_7, v20_8] (fun v21_9 w =>
 oM Tryz.prog (.extract (.tmp 0) 0) 116 [v21_9] (fun v22_10 w =>
 oM Tryz.prog (.extract (.tmp 0) 1) 22 [v21_9] (fun v23_11 w =>
 oM Tryz.prog (.extract (.tmp 0) 2) 4 [v21_9] (fun v24_12 w =>
 oM Tryz.prog (.alloc 116) 0 [] (fun v10_13 w =>
 oM Tryz.prog (.store 116 (.tmp 0) (.tmp 1)) 0 [v10_13, v22_10] (fun _ w =>
 oM Tryz.prog (.unOp .not 4 (.tmp 0)) 4 [v24_12] (fun v26_14 w =>
 condM v26_14
 (K (.tuple #[(.slice none 0 0), (.bool false)]) w)
 (oM Tryz.prog (.slice 22 (.tmp 0) (some (.tmp 1)) none none) 22 [v23_11, (.int .i64 1)] (fun v28_15 w =>
 oM Tryz.prog (.call (Go.Call.mk (.builtin .len) #[(.tmp 0)] #[22])) 3 [v28_15] (fun v29_16 w =>
 loopM [undef, (.slice none 0 0), (.int .i64 0)] w (fun J_17 m_18 l_19 u_l_19 w0_l_19 => (fun w => (
 oM Tryz.prog (.binOp .lss 3 (.tmp 0) (.tmp 1) 3) 0 [(l_19.getD 2 undef), v29_16] (fun v31_20 w =>
 condM v31_20
 (oM Tryz.prog (.indexAddr 22 (.tmp 0) (.tmp 1)) 0 [v28_15, (l_19.getD 2 undef)] (fun v32_21 w =>
 oM Tryz.prog (.load 3 (.tmp 0)) 3 [v32_21] (fun v33_22 w =>
 heldM w (fun C_23 w => (pureH (l_19.getD 1 undef) C_23 (fun v34_24 =>
 oH Tryz.prog (.load 116 (.tmp 0)) 116 [v10_13] C_23 (fun v35_25 =>
 pureH v33_22 C_23 (fun v36_26 =>
 pureH v23_11 C_23 (fun v37_27 =>
 oH Tryz.prog (.indexAddr 22 (.tmp 0) (.tmp 1)) 0 [v37_27, (.int .i64 0)] C_23 (fun v38_28 =>
 oH Tryz.prog (.load 3 (.tmp 0)) 3 [v38_28] C_23 (fun v39_29 =>
 callM Tryz.prog 74 #[v35_25, v36_26, v39_29] (fun v40_30 w => C_23 w ∧ (
 oM Tryz.prog (.buildSlice 22 1 #[(0, (.tmp 0))]) 22 [v40_30] (fun v41_31 w => C_23 w ∧ (
 oM Tryz.prog (.call (Go.Call.mk (.builtin .append) #[(.tmp 0), (.tmp 1)] #[22, 22])) 22 [v34_24, v41_31] (fun v42_32 w => C_23 w ∧ (
 C_23 w ∧ (oM Tryz.prog (.binOp .add 3 (.tmp 0) (.tmp 1) 3) 3 [(l_19.getD 2 undef), (.int .i64 1)] (fun v43_34 w =>
 J_17 [v33_22, v42_32, v43_34] w ∧ m_18 [v33_22, v42_32, v43_34] w < m_18 l_19 w0_l_19) w))) w)) w)) w))))))))) w) w)
 (K (.tuple #[(l_19.getD 1 undef), (.bool true)]) w)) w)) w0_l_19)) w) w)) w) w) w) w) w) w) w) w) w) w) w) w) w) w) w
theorem sh_31_eq (a0 : Value) (a1 : Value) (a2 : Value) (a3 : Value) (K : Value → World → Prop) (w : World) : sh_31 a0 a1 a2 a3 K w = code Tryz.prog (fun _ => 2) 45 (Tryz.f31.body.getD .skip) (slotsAt [a0, a1, a2, a3]) (retK Tryz.prog [.tmp 8, .tmp 9] K) w := by kernel_rfl
theorem sh_31_ok {a0 a1 a2 a3 : Value} {K : Value → World → Prop} {w : World} (h : sh_31 a0 a1 a2 a3 K w) : callM Tryz.prog 31 #[a0, a1, a2, a3] K w :=
  calls_of_code (fun _ => 2) (fn := Tryz.f31) (rs := [.tmp 8, .tmp 9]) Tryz.func31 rfl rfl (by kernel_rfl) (Nat.le_of_ble_eq_true rfl) ((sh_31_eq a0 a1 a2 a3 K w).mp h)
def sh_36 (a0 : Value) (a1 : Value) (a2 : Value) (K : Value → World → Prop) (w : World) : Prop :=
 oM Tryz.prog (.box 32 (.tmp 0)) 0 [a0] (fun v3_1 w =>
 oM Tryz.prog (.box 41 (.tmp 0)) 0 [a1] (fun v4_2 w =>
 oM Tryz.prog (.box 49 (.tmp 0)) 0 [a2] (fun v5_3 w =>
 oM Tryz.prog (.load 32 (.tmp 0)) 32 [v3_1] (fun v10_4 w =>
 oM Tryz.prog (.load 41 (.tmp 0)) 41 [v4_2] (fun v11_5 w =>
 callM Tryz.prog 85 #[v10_4, v11_5] (fun v12_6 w =>
 oM Tryz.prog (.extract (.tmp 0) 0) 116 [v12_6] (fun v13_7 w =>
 oM Tryz.prog (.extract (.tmp 0) 1) 4 [v12_6] (fun v14_8 w =>
 oM Tryz.prog (.alloc 116) 0 [] (fun v7_9 w =>
 oM Tryz.prog (.store 116 (.tmp 0) (.tmp 1)) 0 [v7_9, v13_7] (fun _ w =>
 oM Tryz.prog (.unOp .not 4 (.tmp 0)) 4 [v14_8] (fun v16_10 w =>
 gdM (gd v16_10 false) (oM Tryz.prog (.load 116 (.tmp 0)) 116 [v7_9]) (fun v18_11 w =>
 gdM (gd v16_10 false) (oM Tryz.prog (.fieldAddr 49 (.tmp 0) 0) 0 [v5_3]) (fun v19_12 w =>
 gdM (gd v16_10 false) (oM Tryz.prog (.load 3 (.tmp 0)) 3 [v19_12]) (fun v20_13 w =>
 gdM (gd v16_10 false) (oM Tryz.prog (.buildSlice 22 1 #[(0, (.tmp 0))]) 22 [v20_13]) (fun v21_14 w =>
 gdM (gd v16_10 false) (callM Tryz.prog 65 #[v18_11, (.int .i64 1), v21_14]) (fun v22_15 w =>
 gdM (gd v16_10 false) (oM Tryz.prog (.unOp .not 4 (.tmp 0)) 4 [v22_15]) (fun v23_16 w =>
 oM Tryz.prog (.pick (.tmp 0) (.tmp 1) (.tmp 2)) 4 [v16_10, (.bool true), v23_16] (fun v24_17 w =>
 gdM (gd v24_17 false) (oM Tryz.prog (.fieldAddr 49 (.tmp 0) 1) 0 [v5_3]) (fun v26_18 w =>
 gdM (gd v24_17 false) (oM Tryz.prog (.load 22 (.tmp 0)) 22 [v26_18]) (fun v27_19 w =>
 gdM (gd v24_17 false) (oM Tryz.prog (.call (Go.Call.mk (.builtin .len) #[(.tmp 0)] #[22])) 3 [v27_19]) (fun v28_20 w =>
 gdM (gd v24_17 false) (oM Tryz.prog (.fieldAddr 32 (.tmp 0) 1) 0 [v3_1]) (fun v29_21 w =>
 gdM (gd v24_17 false) (oM Tryz.prog (.load 22 (.tmp 0)) 22 [v29_21]) (fun v30_22 w =>
 gdM (gd v24_17 false) (oM Tryz.prog (.call (Go.Call.mk (.builtin .len) #[(.tmp 0)] #[22])) 3 [v30_22]) (fun v31_23 w =>
 gdM (gd v24_17 false) (oM Tryz.prog (.binOp .neq 3 (.tmp 0) (.tmp 1) 3) 4 [v28_20, v31_23]) (fun v32_24 w =>
 oM Tryz.prog (.pick (.tmp 0) (.tmp 1) (.tmp 2)) 4 [v24_17, (.bool true), v32_24] (fun v33_25 w =>
 gdM (gd v33_25 false) (oM Tryz.prog (.load 116 (.tmp 0)) 116 [v7_9]) (fun v35_26 w =>
 gdM (gd v33_25 false) (oM Tryz.prog (.fieldAddr 49 (.tmp 0) 1) 0 [v5_3]) (fun v36_27 w =>
 gdM (gd v33_25 false) (oM Tryz.prog (.load 22 (.tmp 0)) 22 [v36_27]) (fun v37_28 w =>
 gdM (gd v33_25 false) (callM Tryz.prog 65 #[v35_26, (.int .i64 0), v37_28]) (fun v38_29 w =>
 gdM (gd v33_25 false) (oM Tryz.prog (.unOp .not 4 (.tmp 0)) 4 [v38_29]) (fun v39_30 w =>
 oM Tryz.prog (.pick (.tmp 0) (.tmp 1) (.tmp 2)) 4 [v33_25, (.bool true), v39_30] (fun v40_31 w =>
 condM v40_31
 (K (.bool false) w)
 (heldM w (fun C_32 w => (oH Tryz.prog (.load 116 (.tmp 0)) 116 [v7_9] C_32 (fun v41_33 =>
 oH Tryz.prog (.fieldAddr 49 (.tmp 0) 1) 0 [v5_3] C_32 (fun v42_34 =>
 oH Tryz.prog (.load 22 (.tmp 0)) 22 [v42_34] C_32 (fun v43_35 =>
 oH Tryz.prog (.load 116 (.tmp 0)) 116 [v7_9] C_32 (fun v45_36 =>
 oH Tryz.prog (.load 116 (.tmp 0)) 116 [v7_9] C_32 (fun v46_37 =>
 oH Tryz.prog (.fieldAddr 41 (.tmp 0) 0) 0 [v4_2] C_32 (fun v47_38 =>
 oH Tryz.prog (.load 3 (.tmp 0)) 3 [v47_38] C_32 (fun v48_39 =>
 oH Tryz.prog (.fieldAddr 49 (.tmp 0) 0) 0 [v5_3] C_32 (fun v49_40 =>
 oH Tryz.prog (.load 3 (.tmp 0)) 3 [v49_40] C_32 (fun v50_41 =>
 oH Tryz.prog (.fieldAddr 41 (.tmp 0) 1) 0 [v4_2] C_32 (fun v52_42 =>
 oH Tryz.prog (.load 3 (.tmp 0)) 3 [v52_42] C_32 (fun v53_43 =>
 (callM Tryz.prog 90 #[v41_33, v43_35] (fun v44_44 w => C_32 w ∧ (
 (callM Tryz.prog 89 #[v46_37, v48_39, v50_41] (fun v51_45 w => C_32 w ∧ (
 oM Tryz.prog (.buildSlice 22 1 #[(0, (.tmp 0))]) 22 [v53_43] (fun v54_46 w => C_32 w ∧ (
 callM Tryz.prog 91 #[v45_36, v51_45, v54_46] (fun v55_47 w => C_32 w ∧ (
 oH Tryz.prog (.binOp .eql 3 (.tmp 0) (.tmp 1) 3) 4 [v44_44, v55_47] C_32 (fun v56_48 =>
 C_32 w ∧ (K v56_48 w)))) w)) w)) w) ∧
 (oM Tryz.prog (.buildSlice 22 1 #[(0, (.tmp 0))]) 22 [v53_43] (fun v54_50 w => C_32 w ∧ (
 callM Tryz.prog 89 #[v46_37, v48_39, v50_41] (fun v51_51 w => C_32 w ∧ (
 callM Tryz.prog 91 #[v45_36, v51_51, v54_50] (fun v55_52 w => C_32 w ∧ (
 oH Tryz.prog (.binOp .eql 3 (.tmp 0) (.tmp 1) 3) 4 [v44_44, v55_52] C_32 (fun v56_53 =>
 C_32 w ∧ (K v56_53 w)))) w)) w)) w))) w) ∧
 (oM Tryz.prog (.buildSlice 22 1 #[(0, (.tmp 0))]) 22 [v53_43] (fun v54_55 w => C_32 w ∧ (
 callM Tryz.prog 90 #[v41_33, v43_35] (fun v44_56 w => C_32 w ∧ (
 callM Tryz.prog 89 #[v46_37, v48_39, v50_41] (fun v51_57 w => C_32 w ∧ (
 callM Tryz.prog 91 #[v45_36, v51_57, v54_55] (fun v55_58 w => C_32 w ∧ (
 oH Tryz.prog (.binOp .eql 3 (.tmp 0) (.tmp 1) 3) 4 [v44_56, v55_58] C_32 (fun v56_59 =>
 C_32 w ∧ (K v56_59 w)))) w)) w)) w)) w)))))))))))))))) w) w) w) w) w) w) w) w) w) w) w) w) w) w) w) w) w) w) w) w) w) w) w) w) w) w) w) w) w) w) w) w
theorem sh_36_eq (a0 : Value) (a1 : Value) (a2 : Value) (K : Value → World → Prop) (w : World) : sh_36 a0 a1 a2 K w = code Tryz.prog (fun _ => .tree (.look 0 (.look 1 (.look 2 (.look 4 (.look 5 (.look 6 (.look 7 (.look 8 (.look 9 (.look 11 (.look 12 (.alt 3 (.alt 10 (.only 13 (.only 14 (.look 15 (.only 16 (.done))))) (.only 13 (.only 10 (.only 14 (.look 15 (.only 16 (.done))))))) (.only 13 (.only 3 (.only 10 (.only 14 (.look 15 (.only 16 (.done)))))))))))))))))))) 57 (Tryz.f36.body.getD .skip) (slotsAt [a0, a1, a2]) (retK Tryz.prog [.tmp 6] K) w := by kernel_rfl
theorem sh_36_ok {a0 a1 a2 : Value} {K : Value → World → Prop} {w : World} (h : sh_36 a0 a1 a2 K w) : callM Tryz.prog 36 #[a0, a1, a2] K w :=
  calls_of_code (fun _ => .tree (.look 0 (.look 1 (.look 2 (.look 4 (.look 5 (.look 6 (.look 7 (.look 8 (.look 9 (.look 11 (.look 12 (.alt 3 (.alt 10 (.only 13 (.only 14 (.look 15 (.only 16 (.done))))) (.only 13 (.only 10 (.only 14 (.look 15 (.only 16 (.done))))))) (.only 13 (.only 3 (.only 10 (.only 14 (.look 15 (.only 16 (.done)))))))))))))))))))) (fn := Tryz.f36) (rs := [.tmp 6]) Tryz.func36 rfl rfl (by kernel_rfl) (Nat.le_of_ble_eq_true rfl) ((sh_36_eq a0 a1 a2 K w).mp h)
def sh_32 (a0 : Value) (a1 : Value) (a2 : Value) (a3 : Value) (a4 : Value) (K : Value → World → Prop) (w : World) : Prop :=
 oM Tryz.prog (.box 32 (.tmp 0)) 0 [a0] (fun v5_1 w =>
 oM Tryz.prog (.box 41 (.tmp 0)) 0 [a1] (fun v6_2 w =>
 oM Tryz.prog (.box 49 (.tmp 0)) 0 [a2] (fun v7_3 w =>
 oM Tryz.prog (.box 49 (.tmp 0)) 0 [a3] (fun v8_4 w =>
 oM Tryz.prog (.load 32 (.tmp 0)) 32 [v5_1] (fun v17_5 w =>
 oM Tryz.prog (.load 41 (.tmp 0)) 41 [v6_2] (fun v18_6 w =>
 oM Tryz.prog (.load 49 (.tmp 0)) 49 [v7_3] (fun v19_7 w =>
 oM Tryz.prog (.load 49 (.tmp 0)) 49 [v8_4] (fun v20_8 w =>
 callM Tryz.prog 88 #[v17_5, v18_6, v19_7, v20_8] (fun v21_9 w =>
 oM Tryz.prog (.extract (.tmp 0) 0) 116 [v21_9] (fun v22_10 w =>
 oM Tryz.prog (.extract (.tmp 0) 1) 22 [v21_9] (fun v23_11 w =>
 oM Tryz.prog (.extract (.tmp 0) 2) 4 [v21_9] (fun v24_12 w =>
 oM Tryz.prog (.alloc 116) 0 [] (fun v11_13 w =>
 oM Tryz.prog (.store 116 (.tmp 0) (.tmp 1)) 0 [v11_13, v22_10] (fun _ w =>
 oM Tryz.prog (.unOp .not 4 (.tmp 0)) 4 [v24_12] (fun v26_14 w =>
 gdM (gd v26_14 false) (pureM a4) (fun v28_15 w =>
 gdM (gd v26_14 false) (oM Tryz.prog (.call (Go.Call.mk (.builtin .len) #[(.tmp 0)] #[22])) 3 [v28_15]) (fun v29_16 w =>
 gdM (gd v26_14 false) (pureM v23_11) (fun v30_17 w =>
 gdM (gd v26_14 false) (oM Tryz.prog (.call (Go.Call.mk (.builtin .len) #[(.tmp 0)] #[22])) 3 [v30_17]) (fun v31_18 w =>
 gdM (gd v26_14 false) (oM Tryz.prog (.binOp .sub 3 (.tmp 0) (.tmp 1) 3) 3 [v31_18, (.int .i64 1)]) (fun v32_19 w =>
 gdM (gd v26_14 false) (oM Tryz.prog (.binOp .neq 3 (.tmp 0) (.tmp 1) 3) 4 [v29_16, v32_19]) (fun v33_20 w =>
 oM Tryz.prog (.pick (.tmp 0) (.tmp 1) (.tmp 2)) 4 [v26_14, (.bool true), v33_20] (fun v34_21 w =>
 gdM (gd v34_21 false) (oM Tryz.prog (.load 116 (.tmp 0)) 116 [v11_13]) (fun v36_22 w =>
 gdM (gd v34_21 false) (pureM a4) (fun v37_23 w =>
 gdM (gd v34_21 false) (callM Tryz.prog 65 #[v36_22, (.int .i64 0), v37_23]) (fun v38_24 w =>
 gdM (gd v34_21 false) (oM Tryz.prog (.unOp .not 4 (.tmp 0)) 4 [v38_24]) (fun v39_25 w =>
 oM Tryz.prog (.pick (.tmp 0) (.tmp 1) (.tmp 2)) 4 [v34_21, (.bool true), v39_25] (fun v40_26 w =>
 condM v40_26
 (K (.bool false) w)
 (oM Tryz.prog (.call (Go.Call.mk (.builtin .len) #[(.tmp 0)] #[22])) 3 [a4] (fun v42_27 w =>
 loopM [undef, undef, (.bool false), (.int .i64 0)] w (fun J_28 m_29 l_30 u_l_30 w0_l_30 => (fun w => (
 oM Tryz.prog (.binOp .lss 3 (.tmp 0) (.tmp 1) 3) 0 [(l_30.getD 3 undef), v42_27] (fun v44_31 w =>
 condM v44_31
 (oM Tryz.prog (.indexAddr 22 (.tmp 0) (.tmp 1)) 0 [a4, (l_30.getD 3 undef)] (fun v46_32 w =>
 oM Tryz.prog (.load 3 (.tmp 0)) 3 [v46_32] (fun v47_33 w =>
 heldM w (fun C_34 w => (oH Tryz.prog (.load 116 (.tmp 0)) 116 [v11_13] C_34 (fun v48_35 =>
 pureH v47_33 C_34 (fun v49_36 =>
 pureH v23_11 C_34 (fun v50_37 =>
 oH Tryz.prog (.indexAddr 22 (.tmp 0) (.tmp 1)) 0 [v50_37, (.int .i64 0)] C_34 (fun v51_38 =>
 oH Tryz.prog (.load 3 (.tmp 0)) 3 [v51_38] C_34 (fun v52_39 =>
 pureH v23_11 C_34 (fun v55_40 =>
 pureH (l_30.getD 3 undef) C_34 (fun v56_41 =>
 oH Tryz.prog (.binOp .add 3 (.tmp 0) (.tmp 1) 3) 3 [v56_41, (.int .i64 1)] C_34 (fun v57_42 =>
 oH Tryz.prog (.indexAddr 22 (.tmp 0) (.tmp 1)) 0 [v55_40, v57_42] C_34 (fun v58_43 =>
 oH Tryz.prog (.load 3 (.tmp 0)) 3 [v58_43] C_34 (fun v59_44 =>
 oM Tryz.prog (.buildSlice 22 1 #[(0, (.tmp 0))]) 22 [v52_39] (fun v53_45 w => C_34 w ∧ (
 callM Tryz.prog 71 #[v48_35, v49_36, v53_45] (fun v54_46 w => C_34 w ∧ (
 oM Tryz.prog (.binOp .neq 3 (.tmp 0) (.tmp 1) 3) 4 [v54_46, v59_44] (fun v60_47 w => C_34 w ∧ (
 condM v60_47
 (K (.bool false) w)
 (oM Tryz.prog (.binOp .add 3 (.tmp 0) (.tmp 1) 3) 3 [(l_30.getD 3 undef), (.int .i64 1)] (fun v61_48 w =>
 J_28 [(l_30.getD 3 undef), v47_33, (l_30.getD 2 undef), v61_48] w ∧ m_29 [(l_30.getD 3 undef), v47_33, (l_30.getD 2 undef), v61_48] w < m_29 l_30 w0_l_30) w))) w)) w)) w))))))))))))) w) w)
 (K (.bool true) w)) w)) w0_l_30)) w)) w) w) w) w) w) w) w) w) w) w) w) w) w) w) w) w) w) w) w) w) w) w) w) w) w) w) w
theorem sh_32_eq (a0 : Value) (a1 : Value) (a2 : Value) (a3 : Value) (a4 : Value) (K : Value → World → Prop) (w : World) : sh_32 a0 a1 a2 a3 a4 K w = code Tryz.prog (fun _ => 2) 62 (Tryz.f32.body.getD .skip) (slotsAt [a0, a1, a2, a3, a4]) (retK Tryz.prog [.tmp 10] K) w := by kernel_rfl
theorem sh_32_ok {a0 a1 a2 a3 a4 : Value} {K : Value → World → Prop} {w : World} (h : sh_32 a0 a1 a2 a3 a4 K w) : callM Tryz.prog 32 #[a0, a1, a2, a3, a4] K w :=
  calls_of_code (fun _ => 2) (fn := Tryz.f32) (rs := [.tmp 10]) Tryz.func32 rfl rfl (by kernel_rfl) (Nat.le_of_ble_eq_true rfl) ((sh_32_eq a0 a1 a2 a3 a4 K w).mp h)
def sh_67 (a0 : Value) (a1 : Value) (K : Value → World → Prop) (w : World) : Prop :=
 oM Tryz.prog (.box 32 (.tmp 0)) 0 [a0] (fun v2_1 w =>
 oM Tryz.prog (.alloc 116) 0 [] (fun v4_2 w =>
 oM Tryz.prog (.load 32 (.tmp 0)) 32 [v2_1] (fun v11_3 w =>
 callM Tryz.prog 134 #[v11_3, a1] (fun v13_4 w =>
 oM Tryz.prog (.extract (.tmp 0) 0) 116 [v13_4] (fun v14_5 w =>
 oM Tryz.prog (.extract (.tmp 0) 1) 3 [v13_4] (fun v15_6 w =>
 oM Tryz.prog (.extract (.tmp 0) 2) 4 [v13_4] (fun v16_7 w =>
 oM Tryz.prog (.alloc 116) 0 [] (fun v7_8 w =>
 oM Tryz.prog (.store 116 (.tmp 0) (.tmp 1)) 0 [v7_8, v14_5] (fun _ w =>
 oM Tryz.prog (.load 116 (.tmp 0)) 116 [v7_8] (fun v17_9 w =>
 gdM (gd v16_7 true) (pureM v15_6) (fun v21_10 w =>
 gdM (gd v16_7 true) (oM Tryz.prog (.binOp .neq 3 (.tmp 0) (.const (.int .i64 1)) 3) 4 [v21_10]) (fun v22_11 w =>
 oM Tryz.prog (.pick (.tmp 0) (.tmp 1) (.tmp 2)) 4 [v16_7, v22_11, (.bool false)] (fun v23_12 w =>
 oM Tryz.prog (.store 116 (.tmp 0) (.tmp 1)) 0 [v4_2, v17_9] (fun _ w =>
 ∃ r_13, (do loadVar 116 (← asAddr v4_2) : Sem Value).run Tryz.prog w = .ok r_13 w ∧ K (.tuple #[r_13, v15_6, v23_12]) w) w) w) w) w) w) w) w) w) w) w) w) w) w) w
theorem sh_67_eq (a0 : Value) (a1 : Value) (K : Value → World → Prop) (w : World) : sh_67 a0 a1 K w = code Tryz.prog (fun _ => 2) 24 (Tryz.f67.body.getD .skip) (slotsAt [a0, a1]) (retK Tryz.prog [.cell 4 116, .tmp 5, .tmp 6] K) w := by kernel_rfl
theorem sh_67_ok {a0 a1 : Value} {K : Value → World → Prop} {w : World} (h : sh_67 a0 a1 K w) : callM Tryz.prog 67 #[a0, a1] K w :=
  calls_of_code (fun _ => 2) (fn := Tryz.f67) (rs := [.cell 4 116, .tmp 5, .tmp 6]) Tryz.func67 rfl rfl (by kernel_rfl) (Nat.le_of_ble_eq_true rfl) ((sh_67_eq a0 a1 K w).mp h)
def sh_68 (a0 : Value) (a1 : Value) (K : Value → World → Prop) (w : World) : Prop :=
 oM Tryz.prog (.box 116 (.tmp 0)) 0 [a0] (fun v2_1 w =>
 oM Tryz.prog (.box 45 (.tmp 0)) 0 [a1] (fun v3_2 w =>
 oM Tryz.prog (.load 116 (.tmp 0)) 116 [v2_1] (fun v5_3 w =>
 oM Tryz.prog (.fieldAddr 45 (.tmp 0) 0) 0 [v3_2] (fun v6_4 w =>
 oM Tryz.prog (.load 3 (.tmp 0)) 3 [v6_4] (fun v7_5 w =>
 oM Tryz.prog (.fieldAddr 45 (.tmp 0) 1) 0 [v3_2] (fun v8_6 w =>
 oM Tryz.prog (.load 3 (.tmp 0)) 3 [v8_6] (fun v9_7 w =>
 oM Tryz.prog (.buildSlice 22 2 #[(0, (.tmp 0)), (1, (.tmp 1))]) 22 [v7_5, v9_7] (fun v10_8 w =>
 callM Tryz.prog 65 #[v5_3, (.int .i64 1), v10_8] (fun v11_9 w =>
 gdM (gd v11_9 true) (oM Tryz.prog (.load 116 (.tmp 0)) 116 [v2_1]) (fun v13_10 w =>
 gdM (gd v11_9 true) (oM Tryz.prog (.fieldAddr 45 (.tmp 0) 2) 0 [v3_2]) (fun v14_11 w =>
 gdM (gd v11_9 true) (oM Tryz.prog (.load 3 (.tmp 0)) 3 [v14_11]) (fun v15_12 w =>
 gdM (gd v11_9 true) (oM Tryz.prog (.buildSlice 22 1 #[(0, (.tmp 0))]) 22 [v15_12]) (fun v16_13 w =>
 gdM (gd v11_9 true) (callM Tryz.prog 65 #[v13_10, (.int .i64 0), v16_13]) (fun v17_14 w =>
 oM Tryz.prog (.pick (.tmp 0) (.tmp 1) (.tmp 2)) 4 [v11_9, v17_14, (.bool false)] (fun v18_15 w =>
 gdM (gd v18_15 true) (oM Tryz.prog (.fieldAddr 45 (.tmp 0) 3) 0 [v3_2]) (fun v20_16 w =>
 gdM (gd v18_15 true) (oM Tryz.prog (.load 22 (.tmp 0)) 22 [v20_16]) (fun v21_17 w =>
 gdM (gd v18_15 true) (oM Tryz.prog (.call (Go.Call.mk (.builtin .len) #[(.tmp 0)] #[22])) 3 [v21_17]) (fun v22_18 w =>
 gdM (gd v18_15 true) (oM Tryz.prog (.fieldAddr 116 (.tmp 0) 0) 0 [v2_1]) (fun v23_19 w =>
 gdM (gd v18_15 true) (oM Tryz.prog (.fieldAddr 32 (.tmp 0) 1) 0 [v23_19]) (fun v24_20 w =>
 gdM (gd v18_15 true) (oM Tryz.prog (.load 22 (.tmp 0)) 22 [v24_20]) (fun v25_21 w =>
 gdM (gd v18_15 true) (oM Tryz.prog (.call (Go.Call.mk (.builtin .len) #[(.tmp 0)] #[22])) 3 [v25_21]) (fun v26_22 w =>
 gdM (gd v18_15 true) (oM Tryz.prog (.binOp .eql 3 (.tmp 0) (.tmp 1) 3) 4 [v22_18, v26_22]) (fun v27_23 w =>
 oM Tryz.prog (.pick (.tmp 0) (.tmp 1) (.tmp 2)) 4 [v18_15, v27_23, (.bool false)] (fun v28_24 w =>
 gdM (gd v28_24 true) (oM Tryz.prog (.load 116 (.tmp 0)) 116 [v2_1]) (fun v30_25 w =>
 gdM (gd v28_24 true) (oM Tryz.prog (.fieldAddr 45 (.tmp 0) 3) 0 [v3_2]) (fun v31_26 w =>
 gdM (gd v28_24 true) (oM Tryz.prog (.load 22 (.tmp 0)) 22 [v31_26]) (fun v32_27 w =>
 gdM (gd v28_24 true) (callM Tryz.prog 65 #[v30_25, (.int .i64 0), v32_27]) (fun v33_28 w =>
 oM Tryz.prog (.pick (.tmp 0) (.tmp 1) (.tmp 2)) 4 [v28_24, v33_28, (.bool false)] (fun v34_29 w =>
 K v34_29 w) w) w) w) w) w) w) w) w) w) w) w) w) w) w) w) w) w) w) w) w) w) w) w) w) w) w) w) w) w
theorem sh_68_eq (a0 : Value) (a1 : Value) (K : Value → World → Prop) (w : World) : sh_68 a0 a1 K w = code Tryz.prog (fun _ => 2) 35 (Tryz.f68.body.getD .skip) (slotsAt [a0, a1]) (retK Tryz.prog [.tmp 4] K) w := by kernel_rfl
theorem sh_68_ok {a0 a1 : Value} {K : Value → World → Prop} {w : World} (h : sh_68 a0 a1 K w) : callM Tryz.prog 68 #[a0, a1] K w :=
  calls_of_code (fun _ => 2) (fn := Tryz.f68) (rs := [.tmp 4]) Tryz.func68 rfl rfl (by kernel_rfl) (Nat.le_of_ble_eq_true rfl) ((sh_68_eq a0 a1 K w).mp h)
def sh_65 (a0 : Value) (a1 : Value) (a2 : Value) (K : Value → World → Prop) (w : World) : Prop :=
 oM Tryz.prog (.box 116 (.tmp 0)) 0 [a0] (fun v3_1 w =>
 oM Tryz.prog (.box 3 (.tmp 0)) 0 [a1] (fun v4_2 w =>
 oM Tryz.prog (.makeFunc (Go.Fn.func 133) #[] #[(.tmp 0), (.tmp 1)]) 138 [v4_2, v3_1] (fun v8_3 w =>
 callM Tryz.prog 92 #[a2, v8_3] (fun v9_4 w =>
 oM Tryz.prog (.unOp .not 4 (.tmp 0)) 4 [v9_4] (fun v10_5 w =>
 K v10_5 w) w) w) w) w) w
theorem sh_65_eq (a0 : Value) (a1 : Value) (a2 : Value) (K : Value → World → Prop) (w : World) : sh_65 a0 a1 a2 K w = code Tryz.prog (fun _ => 0) 11 (Tryz.f65.body.getD .skip) (slotsAt [a0, a1, a2]) (retK Tryz.prog [.tmp 6] K) w := by kernel_rfl
theorem sh_65_ok {a0 a1 a2 : Value} {K : Value → World → Prop} {w : World} (h : sh_65 a0 a1 a2 K w) : callM Tryz.prog 65 #[a0, a1, a2] K w :=
  calls_of_code (fun _ => 0) (fn := Tryz.f65) (rs := [.tmp 6]) Tryz.func65 rfl rfl (by kernel_rfl) (Nat.le_of_ble_eq_true rfl) ((sh_65_eq a0 a1 a2 K w).mp h)
def sh_69 (a0 : Value) (K : Value → World → Prop) (w : World) : Prop :=
 callM Tryz.prog 136 #[a0] (fun v4_1 w =>
 oM Tryz.prog (.buildSlice 22 1 #[(0, (.tmp 0))]) 22 [(.int .i64 1)] (fun v5_2 w =>
 callM Tryz.prog 135 #[v4_1, (.int .i64 0), v5_2] (fun v6_3 w =>
 K v6_3 w) w) w) w
theorem sh_69_eq (a0 : Value) (K : Value → World → Prop) (w : World) : sh_69 a0 K w = code Tryz.prog (fun _ => 2) 7 (Tryz.f69.body.getD .skip) (slotsAt [a0]) (retK Tryz.prog [.tmp 2] K) w := by kernel_rfl
theorem sh_69_ok {a0 : Value} {K : Value → World → Prop} {w : World} (h : sh_69 a0 K w) : callM Tryz.prog 69 #[a0] K w :=
  calls_of_code (fun _ => 2) (fn := Tryz.f69) (rs := [.tmp 2]) Tryz.func69 rfl rfl (by kernel_rfl) (Nat.le_of_ble_eq_true rfl) ((sh_69_eq a0 K w).mp h)
def sh_70 (a0 : Value) (a1 : Value) (a2 : Value) (K : Value → World → Prop) (w : World) : Prop :=
 oM Tryz.prog (.box 116 (.tmp 0)) 0 [a0] (fun v3_1 w =>
 oM Tryz.prog (.fieldAddr 116 (.tmp 0) 0) 0 [v3_1] (fun v7_2 w =>
 oM Tryz.prog (.fieldAddr 32 (.tmp 0) 0) 0 [v7_2] (fun v8_3 w =>
 oM Tryz.prog (.fieldAddr 30 (.tmp 0) 1) 0 [v8_3] (fun v9_4 w =>
 oM Tryz.prog (.load 3 (.tmp 0)) 3 [v9_4] (fun v10_5 w =>
 callM Tryz.prog 26 #[v10_5, a1, a2] (fun v13_6 w =>
 K v13_6 w) w) w) w) w) w) w
theorem sh_70_eq (a0 : Value) (a1 : Value) (a2 : Value) (K : Value → World → Prop) (w : World) : sh_70 a0 a1 a2 K w = code Tryz.prog (fun _ => 2) 14 (Tryz.f70.body.getD .skip) (slotsAt [a0, a1, a2]) (retK Tryz.prog [.tmp 6] K) w := by kernel_rfl
theorem sh_70_ok {a0 a1 a2 : Value} {K : Value → World → Prop} {w : World} (h : sh_70 a0 a1 a2 K w) : callM Tryz.prog 70 #[a0, a1, a2] K w :=
  calls_of_code (fun _ => 2) (fn := Tryz.f70) (rs := [.tmp 6]) Tryz.func70 rfl rfl (by kernel_rfl) (Nat.le_of_ble_eq_true rfl) ((sh_70_eq a0 a1 a2 K w).mp h)
def sh_71 (a0 : Value) (a1 : Value) (a2 : Value) (K : Value → World → Prop) (w : World) : Prop :=
 oM Tryz.prog (.box 116 (.tmp 0)) 0 [a0] (fun v3_1 w =>
 oM Tryz.prog (.call (Go.Call.mk (.builtin .len) #[(.tmp 0)] #[22])) 3 [a2] (fun v10_2 w =>
 loopM [undef, a1, (.int .i64 0)] w (fun J_3 m_4 l_5 u_l_5 w0_l_5 => (fun w => (
 oM Tryz.prog (.binOp .lss 3 (.tmp 0) (.tmp 1) 3) 0 [(l_5.getD 2 undef), v10_2] (fun v12_6 w =>
 condM v12_6
 (oM Tryz.prog (.indexAddr 22 (.tmp 0) (.tmp 1)) 0 [a2, (l_5.getD 2 undef)] (fun v13_7 w =>
 oM Tryz.prog (.load 3 (.tmp 0)) 3 [v13_7] (fun v14_8 w =>
 oM Tryz.prog (.fieldAddr 116 (.tmp 0) 0) 0 [v3_1] (fun v15_9 w =>
 oM Tryz.prog (.fieldAddr 32 (.tmp 0) 0) 0 [v15_9] (fun v16_10 w =>
 oM Tryz.prog (.fieldAddr 30 (.tmp 0) 1) 0 [v16_10] (fun v17_11 w =>
 oM Tryz.prog (.load 3 (.tmp 0)) 3 [v17_11] (fun v18_12 w =>
 callM Tryz.prog 27 #[v18_12, (l_5.getD 1 undef), v14_8] (fun v21_13 w =>
 oM Tryz.prog (.binOp .add 3 (.tmp 0) (.tmp 1) 3) 3 [(l_5.getD 2 undef), (.int .i64 1)] (fun v22_14 w =>
 J_3 [v14_8, v21_13, v22_14] w ∧ m_4 [v14_8, v21_13, v22_14] w < m_4 l_5 w0_l_5) w) w) w) w) w) w) w) w)
 (K (l_5.getD 1 undef) w)) w)) w0_l_5)) w) w
theorem sh_71_eq (a0 : Value) (a1 : Value) (a2 : Value) (K : Value → World → Prop) (w : World) : sh_71 a0 a1 a2 K w = code Tryz.prog (fun _ => 2) 24 (Tryz.f71.body.getD .skip) (slotsAt [a0, a1, a2]) (retK Tryz.prog [.tmp 6] K) w := by kernel_rfl
theorem sh_71_ok {a0 a1 a2 : Value} {K : Value → World → Prop} {w : World} (h : sh_71 a0 a1 a2 K w) : callM Tryz.prog 71 #[a0, a1, a2] K w :=
  calls_of_code (fun _ => 2) (fn := Tryz.f71) (rs := [.tmp 6]) Tryz.func71 rfl rfl (by kernel_rfl) (Nat.le_of_ble_eq_true rfl) ((sh_71_eq a0 a1 a2 K w).mp h)
def sh_89 (a0 : Value) (a1 : Value) (a2 : Value) (K : Value → World → Prop) (w : World) : Prop :=
 oM Tryz.prog (.box 116 (.tmp 0)) 0 [a0] (fun v3_1 w =>
 oM Tryz.prog (.fieldAddr 116 (.tmp 0) 0) 0 [v3_1] (fun v7_2 w =>
 oM Tryz.prog (.fieldAddr 32 (.tmp 0) 0) 0 [v7_2] (fun v8_3 w =>
 oM Tryz.prog (.load 30 (.tmp 0)) 30 [v8_3] (fun v9_4 w =>
 callM Tryz.prog 24 #[v9_4, a1, a2] (fun v12_5 w =>
 K v12_5 w) w) w) w) w) w
theorem sh_89_eq (a0 : Value) (a1 : Value) (a2 : Value) (K : Value → World → Prop) (w : World) : sh_89 a0 a1 a2 K w = code Tryz.prog (fun _ => 2) 13 (Tryz.f89.body.getD .skip) (slotsAt [a0, a1, a2]) (retK Tryz.prog [.tmp 6] K) w := by kernel_rfl
theorem sh_89_ok {a0 a1 a2 : Value} {K : Value → World → Prop} {w : World} (h : sh_89 a0 a1 a2 K w) : callM Tryz.prog 89 #[a0, a1, a2] K w :=
  calls_of_code (fun _ => 2) (fn := Tryz.f89) (rs := [.tmp 6]) Tryz.func89 rfl rfl (by kernel_rfl) (Nat.le_of_ble_eq_true rfl) ((sh_89_eq a0 a1 a2 K w).mp h)
def sh_66 (a0 : Value) (a1 : Value) (K : Value → World → Prop) (w : World) : Prop :=
 oM Tryz.prog (.box 116 (.tmp 0)) 0 [a0] (fun v2_1 w =>
 oM Tryz.prog (.load 116 (.tmp 0)) 116 [v2_1] (fun v5_2 w =>
 oM Tryz.prog (.fieldAddr 116 (.tmp 0) 0) 0 [v2_1] (fun v6_3 w =>
 oM Tryz.prog (.fieldAddr 32 (.tmp 0) 0) 0 [v6_3] (fun v7_4 w =>
 oM Tryz.prog (.fieldAddr 30 (.tmp 0) 2) 0 [v7_4] (fun v8_5 w =>
 oM Tryz.prog (.load 3 (.tmp 0)) 3 [v8_5] (fun v9_6 w =>
 callM Tryz.prog 89 #[v5_2, v9_6, a1] (fun v11_7 w =>
 K v11_7 w) w) w) w) w) w) w) w
theorem sh_66_eq (a0 : Value) (a1 : Value) (K : Value → World → Prop) (w : World) : sh_66 a0 a1 K w = code Tryz.prog (fun _ => 2) 12 (Tryz.f66.body.getD .skip) (slotsAt [a0, a1]) (retK Tryz.prog [.tmp 4] K) w := by kernel_rfl
theorem sh_66_ok {a0 a1 : Value} {K : Value → World → Prop} {w : World} (h : sh_66 a0 a1 K w) : callM Tryz.prog 66 #[a0, a1] K w :=
  calls_of_code (fun _ => 2) (fn := Tryz.f66) (rs := [.tmp 4]) Tryz.func66 rfl rfl (by kernel_rfl) (Nat.le_of_ble_eq_true rfl) ((sh_66_eq a0 a1 K w).mp h)
def sh_64 (a0 : Value) (K : Value → World → Prop) (w : World) : Prop :=
 oM Tryz.prog (.box 32 (.tmp 0)) 0 [a0] (fun v1_1 w =>
 oM Tryz.prog (.alloc 116) 0 [] (fun v2_2 w =>
 heldM w (fun C_3 w => (oH Tryz.prog (.load 32 (.tmp 0)) 32 [v1_1] C_3 (fun v4_4 =>
 oH Tryz.prog (.load 32 (.tmp 0)) 32 [v1_1] C_3 (fun v6_5 =>
 (oM Tryz.prog (.build 116 #[(0, (.tmp 0))]) 116 [v4_4] (fun v5_6 w => C_3 w ∧ (
 callM Tryz.prog 128 #[v6_5] (fun v7_7 w => C_3 w ∧ (
 oM Tryz.prog (.store 116 (.tmp 0) (.tmp 1)) 0 [v2_2, v5_6] (fun _ w => C_3 w ∧ (
 C_3 w ∧ (∃ r_9, (do loadVar 116 (← asAddr v2_2) : Sem Value).run Tryz.prog w = .ok r_9 w ∧ K (.tuple #[r_9, v7_7]) w))) w)) w)) w) ∧
 (callM Tryz.prog 128 #[v6_5] (fun v7_10 w => C_3 w ∧ (
 oM Tryz.prog (.build 116 #[(0, (.tmp 0))]) 116 [v4_4] (fun v5_11 w => C_3 w ∧ (
 oM Tryz.prog (.store 116 (.tmp 0) (.tmp 1)) 0 [v2_2, v5_11] (fun _ w => C_3 w ∧ (
 C_3 w ∧ (∃ r_13, (do loadVar 116 (← asAddr v2_2) : Sem Value).run Tryz.prog w = .ok r_13 w ∧ K (.tuple #[r_13, v7_10]) w))) w)) w)) w)))))) w) w
theorem sh_64_eq (a0 : Value) (K : Value → World → Prop) (w : World) : sh_64 a0 K w = code Tryz.prog (fun _ => .tree (.look 0 (.look 2 (.alt 1 (.only 3 (.only 4 (.only 5 (.done)))) (.only 3 (.only 1 (.only 4 (.only 5 (.done))))))))) 8 (Tryz.f64.body.getD .skip) (slotsAt [a0]) (retK Tryz.prog [.cell 2 116, .tmp 3] K) w := by kernel_rfl
theorem sh_64_ok {a0 : Value} {K : Value → World → Prop} {w : World} (h : sh_64 a0 K w) : callM Tryz.prog 64 #[a0] K w :=
  calls_of_code (fun _ => .tree (.look 0 (.look 2 (.alt 1 (.only 3 (.only 4 (.only 5 (.done)))) (.only 3 (.only 1 (.only 4 (.only 5 (.done))))))))) (fn := Tryz.f64) (rs := [.cell 2 116, .tmp 3]) Tryz.func64 rfl rfl (by kernel_rfl) (Nat.le_of_ble_eq_true rfl) ((sh_64_eq a0 K w).mp h)
def sh_134 (a0 : Value) (a1 : Value) (K : Value → World → Prop) (w : World) : Prop :=
 oM Tryz.prog (.box 32 (.tmp 0)) 0 [a0] (fun v2_1 w =>
 oM Tryz.prog (.alloc 116) 0 [] (fun v4_2 w =>
 oM Tryz.prog (.load 32 (.tmp 0)) 32 [v2_1] (fun v10_3 w =>
 callM Tryz.prog 64 #[v10_3] (fun v11_4 w =>
 oM Tryz.prog (.extract (.tmp 0) 0) 116 [v11_4] (fun v12_5 w =>
 oM Tryz.prog (.extract (.tmp 0) 1) 4 [v11_4] (fun v13_6 w =>
 oM Tryz.prog (.alloc 116) 0 [] (fun v7_7 w =>
 oM Tryz.prog (.store 116 (.tmp 0) (.tmp 1)) 0 [v7_7, v12_5] (fun _ w =>
 oM Tryz.prog (.unOp .not 4 (.tmp 0)) 4 [v13_6] (fun v15_8 w =>
 gdM (gd v15_8 false) (pureM a1) (fun v17_9 w =>
 gdM (gd v15_8 false) (oM Tryz.prog (.call (Go.Call.mk (.builtin .len) #[(.tmp 0)] #[22])) 3 [v17_9]) (fun v18_10 w =>
 gdM (gd v15_8 false) (oM Tryz.prog (.fieldAddr 32 (.tmp 0) 1) 0 [v2_1]) (fun v19_11 w =>
 gdM (gd v15_8 false) (oM Tryz.prog (.load 22 (.tmp 0)) 22 [v19_11]) (fun v20_12 w =>
 gdM (gd v15_8 false) (oM Tryz.prog (.call (Go.Call.mk (.builtin .len) #[(.tmp 0)] #[22])) 3 [v20_12]) (fun v21_13 w =>
 gdM (gd v15_8 false) (oM Tryz.prog (.binOp .sub 3 (.tmp 0) (.tmp 1) 3) 3 [v21_13, (.int .i64 1)]) (fun v22_14 w =>
 gdM (gd v15_8 false) (oM Tryz.prog (.binOp .neq 3 (.tmp 0) (.tmp 1) 3) 4 [v18_10, v22_14]) (fun v23_15 w =>
 oM Tryz.prog (.pick (.tmp 0) (.tmp 1) (.tmp 2)) 4 [v15_8, (.bool true), v23_15] (fun v24_16 w =>
 gdM (gd v24_16 false) (oM Tryz.prog (.load 116 (.tmp 0)) 116 [v7_7]) (fun v26_17 w =>
 gdM (gd v24_16 false) (pureM a1) (fun v27_18 w =>
 gdM (gd v24_16 false) (callM Tryz.prog 65 #[v26_17, (.int .i64 0), v27_18]) (fun v28_19 w =>
 gdM (gd v24_16 false) (oM Tryz.prog (.unOp .not 4 (.tmp 0)) 4 [v28_19]) (fun v29_20 w =>
 oM Tryz.prog (.pick (.tmp 0) (.tmp 1) (.tmp 2)) 4 [v24_16, (.bool true), v29_20] (fun v30_21 w =>
 gdM (gd v30_21 false) (pureM a1) (fun v32_22 w =>
 gdM (gd v30_21 false) (oM Tryz.prog (.indexAddr 22 (.tmp 0) (.tmp 1)) 0 [v32_22, (.int .i64 0)]) (fun v33_23 w =>
 gdM (gd v30_21 false) (oM Tryz.prog (.load 3 (.tmp 0)) 3 [v33_23]) (fun v34_24 w =>
 gdM (gd v30_21 false) (oM Tryz.prog (.binOp .eql 3 (.tmp 0) (.const (.int .i64 0)) 3) 4 [v34_24]) (fun v35_25 w =>
 oM Tryz.prog (.pick (.tmp 0) (.tmp 1) (.tmp 2)) 4 [v30_21, (.bool true), v35_25] (fun v36_26 w =>
 condM v36_26
 (oM Tryz.prog (.load 116 (.tmp 0)) 116 [v7_7] (fun v37_27 w =>
 oM Tryz.prog (.store 116 (.tmp 0) (.tmp 1)) 0 [v4_2, v37_27] (fun _ w =>
 ∃ r_28, (do loadVar 116 (← asAddr v4_2) : Sem Value).run Tryz.prog w = .ok r_28 w ∧ K (.tuple #[r_28, (.int .i64 0), (.bool false)]) w) w) w)
 (heldM w (fun C_29 w => (oH Tryz.prog (.load 116 (.tmp 0)) 116 [v7_7] C_29 (fun v38_30 =>
 oH Tryz.prog (.load 116 (.tmp 0)) 116 [v7_7] C_29 (fun v39_31 =>
 pureH a1 C_29 (fun v40_32 =>
 callM Tryz.prog 69 #[v40_32] (fun v41_33 w => C_29 w ∧ (
 callM Tryz.prog 90 #[v39_31, v41_33] (fun v42_34 w => C_29 w ∧ (
 oM Tryz.prog (.store 116 (.tmp 0) (.tmp 1)) 0 [v4_2, v38_30] (fun _ w => C_29 w ∧ (
 C_29 w ∧ (C_29 w ∧ (∃ r_37, (do loadVar 116 (← asAddr v4_2) : Sem Value).run Tryz.prog w = .ok r_37 w ∧ K (.tuple #[r_37, v42_34, (.bool true)]) w)))) w)) w)) w))))))) w) w) w) w) w) w) w) w) w) w) w) w) w) w) w) w) w) w) w) w) w) w) w) w) w) w) w
theorem sh_134_eq (a0 : Value) (a1 : Value) (K : Value → World → Prop) (w : World) : sh_134 a0 a1 K w = code Tryz.prog (fun _ => 2) 43 (Tryz.f134.body.getD .skip) (slotsAt [a0, a1]) (retK Tryz.prog [.cell 4 116, .tmp 5, .tmp 6] K) w := by kernel_rfl
theorem sh_134_ok {a0 a1 : Value} {K : Value → World → Prop} {w : World} (h : sh_134 a0 a1 K w) : callM Tryz.prog 134 #[a0, a1] K w :=
  calls_of_code (fun _ => 2) (fn := Tryz.f134) (rs := [.cell 4 116, .tmp 5, .tmp 6]) Tryz.func134 rfl rfl (by kernel_rfl) (Nat.le_of_ble_eq_true rfl) ((sh_134_eq a0 a1 K w).mp h)
def sh_74 (a0 : Value) (a1 : Value) (a2 : Value) (K : Value → World → Prop) (w : World) : Prop :=
 oM Tryz.prog (.box 116 (.tmp 0)) 0 [a0] (fun v3_1 w =>
 heldM w (fun C_2 w => (oH Tryz.prog (.load 116 (.tmp 0)) 116 [v3_1] C_2 (fun v7_3 =>
 pureH a1 C_2 (fun v8_4 =>
 oH Tryz.prog (.fieldAddr 116 (.tmp 0) 0) 0 [v3_1] C_2 (fun v9_5 =>
 oH Tryz.prog (.fieldAddr 32 (.tmp 0) 0) 0 [v9_5] C_2 (fun v10_6 =>
 oH Tryz.prog (.fieldAddr 30 (.tmp 0) 1) 0 [v10_6] C_2 (fun v11_7 =>
 oH Tryz.prog (.load 3 (.tmp 0)) 3 [v11_7] C_2 (fun v12_8 =>
 pureH a2 C_2 (fun v13_9 =>
 callM Tryz.prog 127 #[v12_8, v13_9, (.int .i64 (-1))] (fun v14_10 w => C_2 w ∧ (
 oM Tryz.prog (.buildSlice 22 1 #[(0, (.tmp 0))]) 22 [v14_10] (fun v15_11 w => C_2 w ∧ (
 callM Tryz.prog 71 #[v7_3, v8_4, v15_11] (fun v16_12 w => C_2 w ∧ (
 C_2 w ∧ (K v16_12 w))) w)) w)) w)))))))))) w
theorem sh_74_eq (a0 : Value) (a1 : Value) (a2 : Value) (K : Value → World → Prop) (w : World) : sh_74 a0 a1 a2 K w = code Tryz.prog (fun _ => 2) 17 (Tryz.f74.body.getD .skip) (slotsAt [a0, a1, a2]) (retK Tryz.prog [.tmp 6] K) w := by kernel_rfl
theorem sh_74_ok {a0 a1 a2 : Value} {K : Value → World → Prop} {w : World} (h : sh_74 a0 a1 a2 K w) : callM Tryz.prog 74 #[a0, a1, a2] K w :=
  calls_of_code (fun _ => 2) (fn := Tryz.f74) (rs := [.tmp 6]) Tryz.func74 rfl rfl (by kernel_rfl) (Nat.le_of_ble_eq_true rfl) ((sh_74_eq a0 a1 a2 K w).mp h)
def sh_77 (a0 : Value) (a1 : Value) (a2 : Value) (K : Value → World → Prop) (w : World) : Prop :=
 oM Tryz.prog (.box 116 (.tmp 0)) 0 [a0] (fun v3_1 w =>
 oM Tryz.prog (.fieldAddr 116 (.tmp 0) 0) 0 [v3_1] (fun v7_2 w =>
 oM Tryz.prog (.fieldAddr 32 (.tmp 0) 0) 0 [v7_2] (fun v8_3 w =>
 oM Tryz.prog (.fieldAddr 30 (.tmp 0) 1) 0 [v8_3] (fun v9_4 w =>
 oM Tryz.prog (.load 3 (.tmp 0)) 3 [v9_4] (fun v10_5 w =>
 callM Tryz.prog 28 #[v10_5, a1, a2] (fun v13_6 w =>
 K v13_6 w) w) w) w) w) w) w
theorem sh_77_eq (a0 : Value) (a1 : Value) (a2 : Value) (K : Value → World → Prop) (w : World) : sh_77 a0 a1 a2 K w = code Tryz.prog (fun _ => 2) 14 (Tryz.f77.body.getD .skip) (slotsAt [a0, a1, a2]) (retK Tryz.prog [.tmp 6] K) w := by kernel_rfl
theorem sh_77_ok {a0 a1 a2 : Value} {K : Value → World → Prop} {w : World} (h : sh_77 a0 a1 a2 K w) : callM Tryz.prog 77 #[a0, a1, a2] K w :=
  calls_of_code (fun _ => 2) (fn := Tryz.f77) (rs := [.tmp 6]) Tryz.func77 rfl rfl (by kernel_rfl) (Nat.le_of_ble_eq_true rfl) ((sh_77_eq a0 a1 a2 K w).mp h)
def sh_92 (a0 : Value) (a1 : Value) (K : Value → World → Prop) (w : World) : Prop :=
 callM Tryz.prog 143 #[a0, a1] (fun v7_1 w =>
 oM Tryz.prog (.binOp .geq 3 (.tmp 0) (.tmp 1) 3) 4 [v7_1, (.int .i64 0)] (fun v8_2 w =>
 K v8_2 w) w) w
theorem sh_92_eq (a0 : Value) (a1 : Value) (K : Value → World → Prop) (w : World) : sh_92 a0 a1 K w = code Tryz.prog (fun _ => 0) 9 (Tryz.f92.body.getD .skip) (slotsAt [a0, a1]) (retK Tryz.prog [.tmp 4] K) w := by kernel_rfl
theorem sh_92_ok {a0 a1 : Value} {K : Value → World → Prop} {w : World} (h : sh_92 a0 a1 K w) : callM Tryz.prog 92 #[a0, a1] K w :=
  calls_of_code (fun _ => 0) (fn := Tryz.f92) (rs := [.tmp 4]) Tryz.func92 rfl rfl (by kernel_rfl) (Nat.le_of_ble_eq_true rfl) ((sh_92_eq a0 a1 K w).mp h)
def sh_88 (a0 : Value) (a1 : Value) (a2 : Value) (a3 : Value) (K : Value → World → Prop) (w : World) : Prop :=
 oM Tryz.prog (.box 32 (.tmp 0)) 0 [a0] (fun v4_1 w =>
 oM Tryz.prog (.box 41 (.tmp 0)) 0 [a1] (fun v5_2 w =>
 oM Tryz.prog (.box 49 (.tmp 0)) 0 [a2] (fun v6_3 w =>
 oM Tryz.prog (.box 49 (.tmp 0)) 0 [a3] (fun v7_4 w =>
 oM Tryz.prog (.alloc 116) 0 [] (fun v8_5 w =>
 oM Tryz.prog (.fieldAddr 49 (.tmp 0) 0) 0 [v6_3] (fun v15_6 w =>
 oM Tryz.prog (.load 3 (.tmp 0)) 3 [v15_6] (fun v16_7 w =>
 oM Tryz.prog (.fieldAddr 49 (.tmp 0) 0) 0 [v7_4] (fun v17_8 w =>
 oM Tryz.prog (.load 3 (.tmp 0)) 3 [v17_8] (fun v18_9 w =>
 oM Tryz.prog (.binOp .eql 3 (.tmp 0) (.tmp 1) 3) 4 [v16_7, v18_9] (fun v19_10 w =>
 gdM (gd v19_10 false) (oM Tryz.prog (.load 32 (.tmp 0)) 32 [v4_1]) (fun v21_11 w =>
 gdM (gd v19_10 false) (oM Tryz.prog (.load 41 (.tmp 0)) 41 [v5_2]) (fun v22_12 w =>
 gdM (gd v19_10 false) (oM Tryz.prog (.load 49 (.tmp 0)) 49 [v6_3]) (fun v23_13 w =>
 gdM (gd v19_10 false) (callM Tryz.prog 36 #[v21_11, v22_12, v23_13]) (fun v24_14 w =>
 gdM (gd v19_10 false) (oM Tryz.prog (.unOp .not 4 (.tmp 0)) 4 [v24_14]) (fun v25_15 w =>
 oM Tryz.prog (.pick (.tmp 0) (.tmp 1) (.tmp 2)) 4 [v19_10, (.bool true), v25_15] (fun v26_16 w =>
 gdM (gd v26_16 false) (oM Tryz.prog (.load 32 (.tmp 0)) 32 [v4_1]) (fun v28_17 w =>
 gdM (gd v26_16 false) (oM Tryz.prog (.load 41 (.tmp 0)) 41 [v5_2]) (fun v29_18 w =>
 gdM (gd v26_16 false) (oM Tryz.prog (.load 49 (.tmp 0)) 49 [v7_4]) (fun v30_19 w =>
 gdM (gd v26_16 false) (callM Tryz.prog 36 #[v28_17, v29_18, v30_19]) (fun v31_20 w =>
 gdM (gd v26_16 false) (oM Tryz.prog (.unOp .not 4 (.tmp 0)) 4 [v31_20]) (fun v32_21 w =>
 oM Tryz.prog (.pick (.tmp 0) (.tmp 1) (.tmp 2)) 4 [v26_16, (.bool true), v32_21] (fun v33_22 w =>
 condM v33_22
 (oM Tryz.prog (.build 116 #[]) 116 [] (fun v34_23 w =>
 oM Tryz.prog (.store 116 (.tmp 0) (.tmp 1)) 0 [v8_5, v34_23] (fun _ w =>
 ∃ r_24, (do loadVar 116 (← asAddr v8_5) : Sem Value).run Tryz.prog w = .ok r_24 w ∧ K (.tuple #[r_24, (.slice none 0 0), (.bool false)]) w) w) w)
 (oM Tryz.prog (.load 32 (.tmp 0)) 32 [v4_1] (fun v35_25 w =>
 oM Tryz.prog (.build 116 #[(0, (.tmp 0))]) 116 [v35_25] (fun v36_26 w =>
 oM Tryz.prog (.alloc 116) 0 [] (fun v11_27 w =>
 oM Tryz.prog (.store 116 (.tmp 0) (.tmp 1)) 0 [v11_27, v36_26] (fun _ w =>
 oM Tryz.prog (.fieldAddr 49 (.tmp 0) 1) 0 [v6_3] (fun v37_28 w =>
 oM Tryz.prog (.load 22 (.tmp 0)) 22 [v37_28] (fun v38_29 w =>
 oM Tryz.prog (.call (Go.Call.mk (.builtin .len) #[(.tmp 0)] #[22])) 3 [v38_29] (fun v39_30 w =>
 loopM [undef, undef, (.slice none 0 0), (.int .i64 0)] w (fun J_31 m_32 l_33 u_l_33 w0_l_33 => (fun w => (
 oM Tryz.prog (.binOp .lss 3 (.tmp 0) (.tmp 1) 3) 0 [(l_33.getD 3 undef), v39_30] (fun v41_34 w =>
 condM v41_34
 (oM Tryz.prog (.indexAddr 22 (.tmp 0) (.tmp 1)) 0 [v38_29, (l_33.getD 3 undef)] (fun v43_35 w =>
 oM Tryz.prog (.load 3 (.tmp 0)) 3 [v43_35] (fun v44_36 w =>
 heldM w (fun C_37 w => (pureH (l_33.getD 2 undef) C_37 (fun v45_38 =>
 oH Tryz.prog (.load 116 (.tmp 0)) 116 [v11_27] C_37 (fun v46_39 =>
 pureH v44_36 C_37 (fun v47_40 =>
 oH Tryz.prog (.fieldAddr 49 (.tmp 0) 1) 0 [v7_4] C_37 (fun v48_41 =>
 oH Tryz.prog (.load 22 (.tmp 0)) 22 [v48_41] C_37 (fun v49_42 =>
 pureH (l_33.getD 3 undef) C_37 (fun v50_43 =>
 oH Tryz.prog (.indexAddr 22 (.tmp 0) (.tmp 1)) 0 [v49_42, v50_43] C_37 (fun v51_44 =>
 oH Tryz.prog (.load 3 (.tmp 0)) 3 [v51_44] C_37 (fun v52_45 =>
 callM Tryz.prog 77 #[v46_39, v47_40, v52_45] (fun v53_46 w => C_37 w ∧ (
 oM Tryz.prog (.buildSlice 22 1 #[(0, (.tmp 0))]) 22 [v53_46] (fun v54_47 w => C_37 w ∧ (
 oM Tryz.prog (.call (Go.Call.mk (.builtin .append) #[(.tmp 0), (.tmp 1)] #[22, 22])) 22 [v45_38, v54_47] (fun v55_48 w => C_37 w ∧ (
 C_37 w ∧ (oM Tryz.prog (.binOp .add 3 (.tmp 0) (.tmp 1) 3) 3 [(l_33.getD 3 undef), (.int .i64 1)] (fun v56_50 w =>
 J_31 [(l_33.getD 3 undef), v44_36, v55_48, v56_50] w ∧ m_32 [(l_33.getD 3 undef), v44_36, v55_48, v56_50] w < m_32 l_33 w0_l_33) w))) w)) w)) w))))))))))) w) w)
 (heldM w (fun C_51 w => (oH Tryz.prog (.load 116 (.tmp 0)) 116 [v11_27] C_51 (fun v57_52 =>
 pureH (l_33.getD 2 undef) C_51 (fun v58_53 =>
 pureH (l_33.getD 2 undef) C_51 (fun v59_54 =>
 oH Tryz.prog (.indexAddr 22 (.tmp 0) (.tmp 1)) 0 [v59_54, (.int .i64 0)] C_51 (fun v60_55 =>
 oH Tryz.prog (.load 3 (.tmp 0)) 3 [v60_55] C_51 (fun v61_56 =>
 oH Tryz.prog (.binOp .neq 3 (.tmp 0) (.const (.int .i64 0)) 3) 4 [v61_56] C_51 (fun v62_57 =>
 oM Tryz.prog (.store 116 (.tmp 0) (.tmp 1)) 0 [v8_5, v57_52] (fun _ w => C_51 w ∧ (
 C_51 w ∧ (C_51 w ∧ (∃ r_60, (do loadVar 116 (← asAddr v8_5) : Sem Value).run Tryz.prog w = .ok r_60 w ∧ K (.tuple #[r_60, v58_53, v62_57]) w)))) w)))))))))) w)) w0_l_33)) w) w) w) w) w) w) w)) w) w) w) w) w) w) w) w) w) w) w) w) w) w) w) w) w) w) w) w) w) w
theorem sh_88_eq (a0 : Value) (a1 : Value) (a2 : Value) (a3 : Value) (K : Value → World → Prop) (w : World) : sh_88 a0 a1 a2 a3 K w = code Tryz.prog (fun _ => 2) 63 (Tryz.f88.body.getD .skip) (slotsAt [a0, a1, a2, a3]) (retK Tryz.prog [.cell 8 116, .tmp 9, .tmp 10] K) w := by kernel_rfl
theorem sh_88_ok {a0 a1 a2 a3 : Value} {K : Value → World → Prop} {w : World} (h : sh_88 a0 a1 a2 a3 K w) : callM Tryz.prog 88 #[a0, a1, a2, a3] K w :=
  calls_of_code (fun _ => 2) (fn := Tryz.f88) (rs := [.cell 8 116, .tmp 9, .tmp 10]) Tryz.func88 rfl rfl (by kernel_rfl) (Nat.le_of_ble_eq_true rfl) ((sh_88_eq a0 a1 a2 a3 K w).mp h)
def sh_85 (a0 : Value) (a1 : Value) (K : Value → World → Prop) (w : World) : Prop :=
 oM Tryz.prog (.box 32 (.tmp 0)) 0 [a0] (fun v2_1 w =>
 oM Tryz.prog (.box 41 (.tmp 0)) 0 [a1] (fun v3_2 w =>
 oM Tryz.prog (.alloc 116) 0 [] (fun v4_3 w =>
 oM Tryz.prog (.load 32 (.tmp 0)) 32 [v2_1] (fun v9_4 w =>
 callM Tryz.prog 64 #[v9_4] (fun v10_5 w =>
 oM Tryz.prog (.extract (.tmp 0) 0) 116 [v10_5] (fun v11_6 w =>
 oM Tryz.prog (.extract (.tmp 0) 1) 4 [v10_5] (fun v12_7 w =>
 oM Tryz.prog (.alloc 116) 0 [] (fun v6_8 w =>
 oM Tryz.prog (.store 116 (.tmp 0) (.tmp 1)) 0 [v6_8, v11_6] (fun _ w =>
 heldM w (fun C_9 w => (oH Tryz.prog (.load 116 (.tmp 0)) 116 [v6_8] C_9 (fun v13_10 =>
 pureH v12_7 C_9 (fun v14_11 =>
 pureH v14_11 C_9 (fun v15_12 =>
 gdH (gd v15_12 true) (oH Tryz.prog (.fieldAddr 41 (.tmp 0) 0) 0 [v3_2]) C_9 (fun v16_13 =>
 gdH (gd v15_12 true) (oH Tryz.prog (.load 3 (.tmp 0)) 3 [v16_13]) C_9 (fun v17_14 =>
 gdH (gd v15_12 true) (oH Tryz.prog (.binOp .neq 3 (.tmp 0) (.const (.int .i64 1)) 3) 4 [v17_14]) C_9 (fun v18_15 =>
 oH Tryz.prog (.pick (.tmp 0) (.tmp 1) (.tmp 2)) 4 [v15_12, v18_15, (.bool false)] C_9 (fun v19_16 =>
 pureH v19_16 C_9 (fun v20_17 =>
 gdH (gd v20_17 true) (oH Tryz.prog (.load 116 (.tmp 0)) 116 [v6_8]) C_9 (fun v21_18 =>
 gdH (gd v20_17 true) (oH Tryz.prog (.fieldAddr 41 (.tmp 0) 0) 0 [v3_2]) C_9 (fun v22_19 =>
 gdH (gd v20_17 true) (oH Tryz.prog (.load 3 (.tmp 0)) 3 [v22_19]) C_9 (fun v23_20 =>
 gdH (gd v20_17 true) (oH Tryz.prog (.fieldAddr 41 (.tmp 0) 1) 0 [v3_2]) C_9 (fun v24_21 =>
 gdH (gd v20_17 true) (oH Tryz.prog (.load 3 (.tmp 0)) 3 [v24_21]) C_9 (fun v25_22 =>
 gdH (gd v20_17 true) (oH Tryz.prog (.fieldAddr 41 (.tmp 0) 2) 0 [v3_2]) C_9 (fun v26_23 =>
 gdH (gd v20_17 true) (oH Tryz.prog (.load 3 (.tmp 0)) 3 [v26_23]) C_9 (fun v27_24 =>
 gdH (gd v20_17 true) (oH Tryz.prog (.fieldAddr 41 (.tmp 0) 3) 0 [v3_2]) C_9 (fun v28_25 =>
 gdH (gd v20_17 true) (oH Tryz.prog (.load 3 (.tmp 0)) 3 [v28_25]) C_9 (fun v29_26 =>
 gdH (gd v20_17 true) (oH Tryz.prog (.fieldAddr 41 (.tmp 0) 4) 0 [v3_2]) C_9 (fun v30_27 =>
 gdH (gd v20_17 true) (oH Tryz.prog (.load 3 (.tmp 0)) 3 [v30_27]) C_9 (fun v31_28 =>
 gdM (gd v20_17 true) (oM Tryz.prog (.buildSlice 22 5 #[(0, (.tmp 0)), (1, (.tmp 1)), (2, (.tmp 2)), (3, (.tmp 3)), (4, (.tmp 4))]) 22 [v23_20, v25_22, v27_24, v29_26, v31_28]) (fun v32_29 w => C_9 w ∧ (
 gdM (gd v20_17 true) (callM Tryz.prog 138 #[v21_18, v32_29]) (fun v33_30 w => C_9 w ∧ (
 oH Tryz.prog (.pick (.tmp 0) (.tmp 1) (.tmp 2)) 4 [v20_17, v33_30, (.bool false)] C_9 (fun v34_31 =>
 pureH v34_31 C_9 (fun v35_32 =>
 gdH (gd v35_32 true) (oH Tryz.prog (.load 116 (.tmp 0)) 116 [v6_8]) C_9 (fun v36_33 =>
 gdH (gd v35_32 true) (oH Tryz.prog (.fieldAddr 41 (.tmp 0) 5) 0 [v3_2]) C_9 (fun v37_34 =>
 gdH (gd v35_32 true) (oH Tryz.prog (.load 3 (.tmp 0)) 3 [v37_34]) C_9 (fun v38_35 =>
 gdM (gd v35_32 true) (oM Tryz.prog (.buildSlice 22 1 #[(0, (.tmp 0))]) 22 [v38_35]) (fun v39_36 w => C_9 w ∧ (
 gdM (gd v35_32 true) (callM Tryz.prog 65 #[v36_33, (.int .i64 0), v39_36]) (fun v40_37 w => C_9 w ∧ (
 oH Tryz.prog (.pick (.tmp 0) (.tmp 1) (.tmp 2)) 4 [v35_32, v40_37, (.bool false)] C_9 (fun v41_38 =>
 oM Tryz.prog (.store 116 (.tmp 0) (.tmp 1)) 0 [v4_3, v13_10] (fun _ w => C_9 w ∧ (
 C_9 w ∧ (∃ r_40, (do loadVar 116 (← asAddr v4_3) : Sem Value).run Tryz.prog w = .ok r_40 w ∧ K (.tuple #[r_40, v41_38]) w))) w))) w)) w))))))) w)) w)))))))))))))))))))))) w) w) w) w) w) w) w) w) w
theorem sh_85_eq (a0 : Value) (a1 : Value) (K : Value → World → Prop) (w : World) : sh_85 a0 a1 K w = code Tryz.prog (fun _ => .tree (.look 0 (.look 1 (.look 2 (.look 3 (.look 4 (.look 5 (.look 6 (.look 7 (.look 8 (.look 9 (.look 10 (.look 11 (.look 12 (.look 13 (.look 14 (.look 15 (.look 16 (.look 17 (.look 18 (.only 19 (.only 20 (.look 21 (.look 22 (.look 23 (.look 24 (.look 25 (.only 26 (.only 27 (.look 28 (.only 29 (.only 30 (.done))))))))))))))))))))))))))))))))) 42 (Tryz.f85.body.getD .skip) (slotsAt [a0, a1]) (retK Tryz.prog [.cell 4 116, .tmp 5] K) w := by kernel_rfl
theorem sh_85_ok {a0 a1 : Value} {K : Value → World → Prop} {w : World} (h : sh_85 a0 a1 K w) : callM Tryz.prog 85 #[a0, a1] K w :=
  calls_of_code (fun _ => .tree (.look 0 (.look 1 (.look 2 (.look 3 (.look 4 (.look 5 (.look 6 (.look 7 (.look 8 (.look 9 (.look 10 (.look 11 (.look 12 (.look 13 (.look 14 (.look 15 (.look 16 (.look 17 (.look 18 (.only 19 (.only 20 (.look 21 (.look 22 (.look 23 (.look 24 (.look 25 (.only 26 (.only 27 (.look 28 (.only 29 (.only 30 (.done))))))))))))))))))))))))))))))))) (fn := Tryz.f85) (rs := [.cell 4 116, .tmp 5]) Tryz.func85 rfl rfl (by kernel_rfl) (Nat.le_of_ble_eq_true rfl) ((sh_85_eq a0 a1 K w).mp h)
def sh_87 (a0 : Value) (a1 : Value) (K : Value → World → Prop) (w : World) : Prop :=
 oM Tryz.prog (.box 116 (.tmp 0)) 0 [a0] (fun v2_1 w =>
 oM Tryz.prog (.binOp .neq 3 (.tmp 0) (.const (.int .i64 1)) 3) 4 [a1] (fun v6_2 w =>
 gdM (gd v6_2 true) (oM Tryz.prog (.load 116 (.tmp 0)) 116 [v2_1]) (fun v8_3 w =>
 gdM (gd v6_2 true) (pureM a1) (fun v9_4 w =>
 gdM (gd v6_2 true) (oM Tryz.prog (.buildSlice 22 1 #[(0, (.tmp 0))]) 22 [v9_4]) (fun v10_5 w =>
 gdM (gd v6_2 true) (callM Tryz.prog 138 #[v8_3, v10_5]) (fun v11_6 w =>
 oM Tryz.prog (.pick (.tmp 0) (.tmp 1) (.tmp 2)) 4 [v6_2, v11_6, (.bool false)] (fun v12_7 w =>
 K v12_7 w) w) w) w) w) w) w) w
theorem sh_87_eq (a0 : Value) (a1 : Value) (K : Value → World → Prop) (w : World) : sh_87 a0 a1 K w = code Tryz.prog (fun _ => 2) 13 (Tryz.f87.body.getD .skip) (slotsAt [a0, a1]) (retK Tryz.prog [.tmp 4] K) w := by kernel_rfl
theorem sh_87_ok {a0 a1 : Value} {K : Value → World → Prop} {w : World} (h : sh_87 a0 a1 K w) : callM Tryz.prog 87 #[a0, a1] K w :=
  calls_of_code (fun _ => 2) (fn := Tryz.f87) (rs := [.tmp 4]) Tryz.func87 rfl rfl (by kernel_rfl) (Nat.le_of_ble_eq_true rfl) ((sh_87_eq a0 a1 K w).mp h)
def sh_90 (a0 : Value) (a1 : Value) (K : Value → World → Prop) (w : World) : Prop :=
 oM Tryz.prog (.box 116 (.tmp 0)) 0 [a0] (fun v2_1 w =>
 oM Tryz.prog (.fieldAddr 116 (.tmp 0) 0) 0 [v2_1] (fun v8_2 w =>
 oM Tryz.prog (.fieldAddr 32 (.tmp 0) 0) 0 [v8_2] (fun v9_3 w =>
 oM Tryz.prog (.load 30 (.tmp 0)) 30 [v9_3] (fun v10_4 w =>
 oM Tryz.prog (.fieldAddr 116 (.tmp 0) 0) 0 [v2_1] (fun v11_5 w =>
 oM Tryz.prog (.fieldAddr 32 (.tmp 0) 1) 0 [v11_5] (fun v12_6 w =>
 oM Tryz.prog (.load 22 (.tmp 0)) 22 [v12_6] (fun v13_7 w =>
 callM Tryz.prog 141 #[v10_4, v13_7, a1] (fun v15_8 w =>
 oM Tryz.prog (.extract (.tmp 0) 0) 3 [v15_8] (fun v16_9 w =>
 oM Tryz.prog (.extract (.tmp 0) 1) 4 [v15_8] (fun v17_10 w =>
 K v16_9 w) w) w) w) w) w) w) w) w) w) w
theorem sh_90_eq (a0 : Value) (a1 : Value) (K : Value → World → Prop) (w : World) : sh_90 a0 a1 K w = code Tryz.prog (fun _ => 2) 19 (Tryz.f90.body.getD .skip) (slotsAt [a0, a1]) (retK Tryz.prog [.tmp 4] K) w := by kernel_rfl
theorem sh_90_ok {a0 a1 : Value} {K : Value → World → Prop} {w : World} (h : sh_90 a0 a1 K w) : callM Tryz.prog 90 #[a0, a1] K w :=
  calls_of_code (fun _ => 2) (fn := Tryz.f90) (rs := [.tmp 4]) Tryz.func90 rfl rfl (by kernel_rfl) (Nat.le_of_ble_eq_true rfl) ((sh_90_eq a0 a1 K w).mp h)
def sh_91 (a0 : Value) (a1 : Value) (a2 : Value) (K : Value → World → Prop) (w : World) : Prop :=
 oM Tryz.prog (.box 116 (.tmp 0)) 0 [a0] (fun v3_1 w =>
 oM Tryz.prog (.call (Go.Call.mk (.builtin .len) #[(.tmp 0)] #[22])) 3 [a2] (fun v10_2 w =>
 loopM [undef, a1, (.int .i64 0)] w (fun J_3 m_4 l_5 u_l_5 w0_l_5 => (fun w => (
 oM Tryz.prog (.binOp .lss 3 (.tmp 0) (.tmp 1) 3) 0 [(l_5.getD 2 undef), v10_2] (fun v12_6 w =>
 condM v12_6
 (oM Tryz.prog (.indexAddr 22 (.tmp 0) (.tmp 1)) 0 [a2, (l_5.getD 2 undef)] (fun v13_7 w =>
 oM Tryz.prog (.load 3 (.tmp 0)) 3 [v13_7] (fun v14_8 w =>
 oM Tryz.prog (.fieldAddr 116 (.tmp 0) 0) 0 [v3_1] (fun v15_9 w =>
 oM Tryz.prog (.fieldAddr 32 (.tmp 0) 0) 0 [v15_9] (fun v16_10 w =>
 oM Tryz.prog (.load 30 (.tmp 0)) 30 [v16_10] (fun v17_11 w =>
 callM Tryz.prog 142 #[v17_11, (l_5.getD 1 undef), v14_8] (fun v20_12 w =>
 oM Tryz.prog (.binOp .add 3 (.tmp 0) (.tmp 1) 3) 3 [(l_5.getD 2 undef), (.int .i64 1)] (fun v21_13 w =>
 J_3 [v14_8, v20_12, v21_13] w ∧ m_4 [v14_8, v20_12, v21_13] w < m_4 l_5 w0_l_5) w) w) w) w) w) w) w)
 (K (l_5.getD 1 undef) w)) w)) w0_l_5)) w) w
theorem sh_91_eq (a0 : Value) (a1 : Value) (a2 : Value) (K : Value → World → Prop) (w : World) : sh_91 a0 a1 a2 K w = code Tryz.prog (fun _ => 2) 23 (Tryz.f91.body.getD .skip) (slotsAt [a0, a1, a2]) (retK Tryz.prog [.tmp 6] K) w := by kernel_rfl
theorem sh_91_ok {a0 a1 a2 : Value} {K : Value → World → Prop} {w : World} (h : sh_91 a0 a1 a2 K w) : callM Tryz.prog 91 #[a0, a1, a2] K w :=
  calls_of_code (fun _ => 2) (fn := Tryz.f91) (rs := [.tmp 6]) Tryz.func91 rfl rfl (by kernel_rfl) (Nat.le_of_ble_eq_true rfl) ((sh_91_eq a0 a1 a2 K w).mp h)
def sh_128 (a0 : Value) (K : Value → World → Prop) (w : World) : Prop :=
 oM Tryz.prog (.box 32 (.tmp 0)) 0 [a0] (fun v1_1 w =>
 oM Tryz.prog (.fieldAddr 32 (.tmp 0) 0) 0 [v1_1] (fun v6_2 w =>
 oM Tryz.prog (.load 30 (.tmp 0)) 30 [v6_2] (fun v7_3 w =>
 callM Tryz.prog 131 #[v7_3] (fun v8_4 w =>
 oM Tryz.prog (.unOp .not 4 (.tmp 0)) 4 [v8_4] (fun v9_5 w =>
 gdM (gd v9_5 false) (oM Tryz.prog (.fieldAddr 32 (.tmp 0) 1) 0 [v1_1]) (fun v11_6 w =>
 gdM (gd v9_5 false) (oM Tryz.prog (.load 22 (.tmp 0)) 22 [v11_6]) (fun v12_7 w =>
 gdM (gd v9_5 false) (oM Tryz.prog (.call (Go.Call.mk (.builtin .len) #[(.tmp 0)] #[22])) 3 [v12_7]) (fun v13_8 w =>
 gdM (gd v9_5 false) (oM Tryz.prog (.binOp .lss 3 (.tmp 0) (.tmp 1) 3) 4 [v13_8, (.int .i64 2)]) (fun v14_9 w =>
 oM Tryz.prog (.pick (.tmp 0) (.tmp 1) (.tmp 2)) 4 [v9_5, (.bool true), v14_9] (fun v15_10 w =>
 gdM (gd v15_10 false) (oM Tryz.prog (.fieldAddr 32 (.tmp 0) 1) 0 [v1_1]) (fun v17_11 w =>
 gdM (gd v15_10 false) (oM Tryz.prog (.load 22 (.tmp 0)) 22 [v17_11]) (fun v18_12 w =>
 gdM (gd v15_10 false) (oM Tryz.prog (.call (Go.Call.mk (.builtin .len) #[(.tmp 0)] #[22])) 3 [v18_12]) (fun v19_13 w =>
 gdM (gd v15_10 false) (oM Tryz.prog (.binOp .gtr 3 (.tmp 0) (.tmp 1) 3) 4 [v19_13, (.int .i64 7)]) (fun v20_14 w =>
 oM Tryz.prog (.pick (.tmp 0) (.tmp 1) (.tmp 2)) 4 [v15_10, (.bool true), v20_14] (fun v21_15 w =>
 condM v21_15
 (K (.bool false) w)
 (oM Tryz.prog (.makeFunc (Go.Fn.func 173) #[] #[(.tmp 0)]) 138 [v1_1] (fun v22_16 w =>
 oM Tryz.prog (.fieldAddr 32 (.tmp 0) 1) 0 [v1_1] (fun v23_17 w =>
 oM Tryz.prog (.load 22 (.tmp 0)) 22 [v23_17] (fun v24_18 w =>
 oM Tryz.prog (.call (Go.Call.mk (.builtin .len) #[(.tmp 0)] #[22])) 3 [v24_18] (fun v25_19 w =>
 loopM [undef, (.bool false), (.int .i64 0)] w (fun J_20 m_21 l_22 u_l_22 w0_l_22 => (fun w => (
 oM Tryz.prog (.binOp .lss 3 (.tmp 0) (.tmp 1) 3) 0 [(l_22.getD 2 undef), v25_19] (fun v27_23 w =>
 condM v27_23
 (oM Tryz.prog (.indexAddr 22 (.tmp 0) (.tmp 1)) 0 [v24_18, (l_22.getD 2 undef)] (fun v28_24 w =>
 oM Tryz.prog (.load 3 (.tmp 0)) 3 [v28_24] (fun v29_25 w =>
 oM Tryz.prog (.call (Go.Call.mk (.value (.tmp 0)) #[(.tmp 1)] #[3])) 4 [v22_16, v29_25] (fun v32_26 w =>
 oM Tryz.prog (.unOp .not 4 (.tmp 0)) 4 [v32_26] (fun v33_27 w =>
 condM v33_27
 (K (.bool false) w)
 (oM Tryz.prog (.binOp .add 3 (.tmp 0) (.tmp 1) 3) 3 [(l_22.getD 2 undef), (.int .i64 1)] (fun v34_28 w =>
 J_20 [v29_25, (l_22.getD 1 undef), v34_28] w ∧ m_21 [v29_25, (l_22.getD 1 undef), v34_28] w < m_21 l_22 w0_l_22) w)) w) w) w) w)
 (oM Tryz.prog (.fieldAddr 32 (.tmp 0) 2) 0 [v1_1] (fun v36_29 w =>
 oM Tryz.prog (.load 3 (.tmp 0)) 3 [v36_29] (fun v37_30 w =>
 oM Tryz.prog (.call (Go.Call.mk (.value (.tmp 0)) #[(.tmp 1)] #[3])) 4 [v22_16, v37_30] (fun v38_31 w =>
 K v38_31 w) w) w) w)) w)) w0_l_22)) w) w) w) w)) w) w) w) w) w) w) w) w) w) w) w) w) w) w) w
theorem sh_128_eq (a0 : Value) (K : Value → World → Prop) (w : World) : sh_128 a0 K w = code Tryz.prog (fun _ => 0) 39 (Tryz.f128.body.getD .skip) (slotsAt [a0]) (retK Tryz.prog [.tmp 2] K) w := by kernel_rfl
theorem sh_128_ok {a0 : Value} {K : Value → World → Prop} {w : World} (h : sh_128 a0 K w) : callM Tryz.prog 128 #[a0] K w :=
  calls_of_code (fun _ => 0) (fn := Tryz.f128) (rs := [.tmp 2]) Tryz.func128 rfl rfl (by kernel_rfl) (Nat.le_of_ble_eq_true rfl) ((sh_128_eq a0 K w).mp h)
def sh_133 (a0 : Value) (a1 : Value) (a2 : Value) (K : Value → World → Prop) (w : World) : Prop :=
 oM Tryz.prog (.load 3 (.tmp 0)) 3 [a1] (fun v6_1 w =>
 oM Tryz.prog (.binOp .lss 3 (.tmp 0) (.tmp 1) 3) 4 [a0, v6_1] (fun v7_2 w =>
 gdM (gd v7_2 false) (pureM a0) (fun v9_3 w =>
 gdM (gd v7_2 false) (oM Tryz.prog (.fieldAddr 116 (.tmp 0) 0) 0 [a2]) (fun v10_4 w =>
 gdM (gd v7_2 false) (oM Tryz.prog (.fieldAddr 32 (.tmp 0) 0) 0 [v10_4]) (fun v11_5 w =>
 gdM (gd v7_2 false) (oM Tryz.prog (.fieldAddr 30 (.tmp 0) 1) 0 [v11_5]) (fun v12_6 w =>
 gdM (gd v7_2 false) (oM Tryz.prog (.load 3 (.tmp 0)) 3 [v12_6]) (fun v13_7 w =>
 gdM (gd v7_2 false) (oM Tryz.prog (.binOp .geq 3 (.tmp 0) (.tmp 1) 3) 4 [v9_3, v13_7]) (fun v14_8 w =>
 oM Tryz.prog (.pick (.tmp 0) (.tmp 1) (.tmp 2)) 4 [v7_2, (.bool true), v14_8] (fun v15_9 w =>
 K v15_9 w) w) w) w) w) w) w) w) w) w
theorem sh_133_eq (a0 : Value) (a1 : Value) (a2 : Value) (K : Value → World → Prop) (w : World) : sh_133 a0 a1 a2 K w = code Tryz.prog (fun _ => 0) 16 (Tryz.f133.body.getD .skip) (slotsAt [a0, a1, a2]) (retK Tryz.prog [.tmp 4] K) w := by kernel_rfl
theorem sh_133_ok {a0 a1 a2 : Value} {K : Value → World → Prop} {w : World} (h : sh_133 a0 a1 a2 K w) : callM Tryz.prog 133 #[a0, a1, a2] K w :=
  calls_of_code (fun _ => 0) (fn := Tryz.f133) (rs := [.tmp 4]) Tryz.func133 rfl rfl (by kernel_rfl) (Nat.le_of_ble_eq_true rfl) ((sh_133_eq a0 a1 a2 K w).mp h)
def sh_136 (a0 : Value) (K : Value → World → Prop) (w : World) : Prop :=
 oM Tryz.prog (.binOp .eql 22 (.tmp 0) (.const (.slice none 0 0)) 22) 4 [a0] (fun v4_1 w =>
 condM v4_1
 (K (.slice none 0 0) w)
 (oM Tryz.prog (.buildSlice 22 0 #[]) 22 [] (fun v5_2 w =>
 oM Tryz.prog (.call (Go.Call.mk (.builtin .append) #[(.tmp 0), (.tmp 1)] #[22, 22])) 22 [v5_2, a0] (fun v7_3 w =>
 K v7_3 w) w) w)) w
theorem sh_136_eq (a0 : Value) (K : Value → World → Prop) (w : World) : sh_136 a0 K w = code Tryz.prog (fun _ => 2) 8 (Tryz.f136.body.getD .skip) (slotsAt [a0]) (retK Tryz.prog [.tmp 2] K) w := by kernel_rfl
theorem sh_136_ok {a0 : Value} {K : Value → World → Prop} {w : World} (h : sh_136 a0 K w) : callM Tryz.prog 136 #[a0] K w :=
  calls_of_code (fun _ => 2) (fn := Tryz.f136) (rs := [.tmp 2]) Tryz.func136 rfl rfl (by kernel_rfl) (Nat.le_of_ble_eq_true rfl) ((sh_136_eq a0 K w).mp h)
def sh_138 (a0 : Value) (a1 : Value) (K : Value → World → Prop) (w : World) : Prop :=
 oM Tryz.prog (.box 116 (.tmp 0)) 0 [a0] (fun v2_1 w =>
 oM Tryz.prog (.makeFunc (Go.Fn.func 182) #[] #[(.tmp 0)]) 138 [v2_1] (fun v6_2 w =>
 callM Tryz.prog 92 #[a1, v6_2] (fun v7_3 w =>
 oM Tryz.prog (.unOp .not 4 (.tmp 0)) 4 [v7_3] (fun v8_4 w =>
 K v8_4 w) w) w) w) w
theorem sh_138_eq (a0 : Value) (a1 : Value) (K : Value → World → Prop) (w : World) : sh_138 a0 a1 K w = code Tryz.prog (fun _ => 0) 9 (Tryz.f138.body.getD .skip) (slotsAt [a0, a1]) (retK Tryz.prog [.tmp 4] K) w := by kernel_rfl
theorem sh_138_ok {a0 a1 : Value} {K : Value → World → Prop} {w : World} (h : sh_138 a0 a1 K w) : callM Tryz.prog 138 #[a0, a1] K w :=
  calls_of_code (fun _ => 0) (fn := Tryz.f138) (rs := [.tmp 4]) Tryz.func138 rfl rfl (by kernel_rfl) (Nat.le_of_ble_eq_true rfl) ((sh_138_eq a0 a1 K w).mp h)
def sh_143 (a0 : Value) (a1 : Value) (K : Value → World → Prop) (w : World) : Prop :=
 oM Tryz.prog (.call (Go.Call.mk (.builtin .len) #[(.tmp 0)] #[22])) 3 [a0] (fun v7_1 w =>
 loopM [undef, (.int .i64 0), (.int .i64 0)] w (fun J_2 m_3 l_4 u_l_4 w0_l_4 => (fun w => (
 oM Tryz.prog (.binOp .lss 3 (.tmp 0) (.tmp 1) 3) 0 [(l_4.getD 2 undef), v7_1] (fun v9_5 w =>
 condM v9_5
 (oM Tryz.prog (.indexAddr 22 (.tmp 0) (.tmp 1)) 0 [a0, (l_4.getD 2 undef)] (fun v14_6 w =>
 oM Tryz.prog (.load 3 (.tmp 0)) 3 [v14_6] (fun v15_7 w =>
 oM Tryz.prog (.call (Go.Call.mk (.value (.tmp 0)) #[(.tmp 1)] #[3])) 4 [a1, v15_7] (fun v16_8 w =>
 condM v16_8
 (K (l_4.getD 2 undef) w)
 (oM Tryz.prog (.binOp .add 3 (.tmp 0) (.tmp 1) 3) 3 [(l_4.getD 2 undef), (.int .i64 1)] (fun v18_9 w =>
 J_2 [(l_4.getD 2 undef), (l_4.getD 1 undef), v18_9] w ∧ m_3 [(l_4.getD 2 undef), (l_4.getD 1 undef), v18_9] w < m_3 l_4 w0_l_4) w)) w) w) w)
 (K (.int .i64 (-1)) w)) w)) w0_l_4)) w
theorem sh_143_eq (a0 : Value) (a1 : Value) (K : Value → World → Prop) (w : World) : sh_143 a0 a1 K w = code Tryz.prog (fun _ => 0) 19 (Tryz.f143.body.getD .skip) (slotsAt [a0, a1]) (retK Tryz.prog [.tmp 4] K) w := by kernel_rfl
theorem sh_143_ok {a0 a1 : Value} {K : Value → World → Prop} {w : World} (h : sh_143 a0 a1 K w) : callM Tryz.prog 143 #[a0, a1] K w :=
  calls_of_code (fun _ => 0) (fn := Tryz.f143) (rs := [.tmp 4]) Tryz.func143 rfl rfl (by kernel_rfl) (Nat.le_of_ble_eq_true rfl) ((sh_143_eq a0 a1 K w).mp h)
def sh_173 (a0 : Value) (a1 : Value) (K : Value → World → Prop) (w : World) : Prop :=
 oM Tryz.prog (.binOp .neq 3 (.tmp 0) (.const (.int .i64 1)) 3) 4 [a0] (fun v5_1 w =>
 gdM (gd v5_1 true) (oM Tryz.prog (.fieldAddr 32 (.tmp 0) 0) 0 [a1]) (fun v7_2 w =>
 gdM (gd v5_1 true) (oM Tryz.prog (.load 30 (.tmp 0)) 30 [v7_2]) (fun v8_3 w =>
 gdM (gd v5_1 true) (pureM a0) (fun v9_4 w =>
 gdM (gd v5_1 true) (callM Tryz.prog 174 #[v8_3, v9_4]) (fun v10_5 w =>
 oM Tryz.prog (.pick (.tmp 0) (.tmp 1) (.tmp 2)) 4 [v5_1, v10_5, (.bool false)] (fun v11_6 w =>
 K v11_6 w) w) w) w) w) w) w
theorem sh_173_eq (a0 : Value) (a1 : Value) (K : Value → World → Prop) (w : World) : sh_173 a0 a1 K w = code Tryz.prog (fun _ => 0) 12 (Tryz.f173.body.getD .skip) (slotsAt [a0, a1]) (retK Tryz.prog [.tmp 3] K) w := by kernel_rfl
theorem sh_173_ok {a0 a1 : Value} {K : Value → World → Prop} {w : World} (h : sh_173 a0 a1 K w) : callM Tryz.prog 173 #[a0, a1] K w :=
  calls_of_code (fun _ => 0) (fn := Tryz.f173) (rs := [.tmp 3]) Tryz.func173 rfl rfl (by kernel_rfl) (Nat.le_of_ble_eq_true rfl) ((sh_173_eq a0 a1 K w).mp h)
def sh_182 (a0 : Value) (a1 : Value) (K : Value → World → Prop) (w : World) : Prop :=
 oM Tryz.prog (.fieldAddr 116 (.tmp 0) 0) 0 [a1] (fun v4_1 w =>
 oM Tryz.prog (.fieldAddr 32 (.tmp 0) 0) 0 [v4_1] (fun v5_2 w =>
 oM Tryz.prog (.load 30 (.tmp 0)) 30 [v5_2] (fun v6_3 w =>
 callM Tryz.prog 174 #[v6_3, a0] (fun v8_4 w =>
 oM Tryz.prog (.unOp .not 4 (.tmp 0)) 4 [v8_4] (fun v9_5 w =>
 K v9_5 w) w) w) w) w) w
theorem sh_182_eq (a0 : Value) (a1 : Value) (K : Value → World → Prop) (w : World) : sh_182 a0 a1 K w = code Tryz.prog (fun _ => 0) 10 (Tryz.f182.body.getD .skip) (slotsAt [a0, a1]) (retK Tryz.prog [.tmp 3] K) w := by kernel_rfl
theorem sh_182_ok {a0 a1 : Value} {K : Value → World → Prop} {w : World} (h : sh_182 a0 a1 K w) : callM Tryz.prog 182 #[a0, a1] K w :=
  calls_of_code (fun _ => 0) (fn := Tryz.f182) (rs := [.tmp 3]) Tryz.func182 rfl rfl (by kernel_rfl) (Nat.le_of_ble_eq_true rfl) ((sh_182_eq a0 a1 K w).mp h)
def sh_33 (a0 : Value) (a1 : Value) (K : Value → World → Prop) (w : World) : Prop :=
 oM Tryz.prog (.call (Go.Call.mk (.builtin .len) #[(.tmp 0)] #[22])) 3 [a0] (fun v7_1 w =>
 oM Tryz.prog (.call (Go.Call.mk (.builtin .len) #[(.tmp 0)] #[22])) 3 [a1] (fun v9_2 w =>
 oM Tryz.prog (.binOp .neq 3 (.tmp 0) (.tmp 1) 3) 4 [v7_1, v9_2] (fun v10_3 w =>
 condM v10_3
 (K (.bool false) w)
 (loopM [(.bool false), (.int .i64 0)] w (fun J_4 m_5 l_6 u_l_6 w0_l_6 => (fun w => (
 oM Tryz.prog (.call (Go.Call.mk (.builtin .len) #[(.tmp 0)] #[22])) 3 [a0] (fun v13_7 w =>
 oM Tryz.prog (.binOp .lss 3 (.tmp 0) (.tmp 1) 3) 4 [(l_6.getD 1 undef), v13_7] (fun v14_8 w =>
 condM v14_8
 (quietM w (fun C_9 => (oQ Tryz.prog (.indexAddr 22 (.tmp 0) (.tmp 1)) 0 [a0, (l_6.getD 1 undef)] C_9 (fun v19_10 =>
 oQ Tryz.prog (.load 3 (.tmp 0)) 3 [v19_10] C_9 (fun v20_11 =>
 oQ Tryz.prog (.indexAddr 22 (.tmp 0) (.tmp 1)) 0 [a1, (l_6.getD 1 undef)] C_9 (fun v23_12 =>
 oQ Tryz.prog (.load 3 (.tmp 0)) 3 [v23_12] C_9 (fun v24_13 =>
 oQ Tryz.prog (.binOp .neq 3 (.tmp 0) (.tmp 1) 3) 4 [v20_11, v24_13] C_9 (fun v25_14 =>
 ∀ w, C_9 w → (condM v25_14
 (K (.bool false) w)
 (oM Tryz.prog (.binOp .add 3 (.tmp 0) (.tmp 1) 3) 3 [(l_6.getD 1 undef), (.int .i64 1)] (fun v16_15 w =>
 J_4 [(l_6.getD 0 undef), v16_15] w ∧ m_5 [(l_6.getD 0 undef), v16_15] w < m_5 l_6 w0_l_6) w))))))))))
 (K (.bool true) w)) w) w)) w0_l_6))) w) w) w
theorem sh_33_eq (a0 : Value) (a1 : Value) (K : Value → World → Prop) (w : World) : sh_33 a0 a1 K w = code Tryz.prog (fun _ => 0) 26 (Tryz.f33.body.getD .skip) (slotsAt [a0, a1]) (retK Tryz.prog [.tmp 4] K) w := by kernel_rfl
theorem sh_33_ok {a0 a1 : Value} {K : Value → World → Prop} {w : World} (h : sh_33 a0 a1 K w) : callM Tryz.prog 33 #[a0, a1] K w :=
  calls_of_code (fun _ => 0) (fn := Tryz.f33) (rs := [.tmp 4]) Tryz.func33 rfl rfl (by kernel_rfl) (Nat.le_of_ble_eq_true rfl) ((sh_33_eq a0 a1 K w).mp h)
def sh_76 (a0 : Value) (a1 : Value) (K : Value → World → Prop) (w : World) : Prop :=
 oM Tryz.prog (.box 116 (.tmp 0)) 0 [a0] (fun v2_1 w =>
 oM Tryz.prog (.box 41 (.tmp 0)) 0 [a1] (fun v3_2 w =>
 heldM w (fun C_3 w => (oH Tryz.prog (.fieldAddr 41 (.tmp 0) 0) 0 [v3_2] C_3 (fun v5_4 =>
 oH Tryz.prog (.load 3 (.tmp 0)) 3 [v5_4] C_3 (fun v6_5 =>
 oH Tryz.prog (.fieldAddr 41 (.tmp 0) 1) 0 [v3_2] C_3 (fun v7_6 =>
 oH Tryz.prog (.load 3 (.tmp 0)) 3 [v7_6] C_3 (fun v8_7 =>
 oH Tryz.prog (.fieldAddr 41 (.tmp 0) 2) 0 [v3_2] C_3 (fun v9_8 =>
 oH Tryz.prog (.load 3 (.tmp 0)) 3 [v9_8] C_3 (fun v10_9 =>
 oH Tryz.prog (.fieldAddr 41 (.tmp 0) 3) 0 [v3_2] C_3 (fun v11_10 =>
 oH Tryz.prog (.load 3 (.tmp 0)) 3 [v11_10] C_3 (fun v12_11 =>
 oH Tryz.prog (.fieldAddr 41 (.tmp 0) 4) 0 [v3_2] C_3 (fun v13_12 =>
 oH Tryz.prog (.load 3 (.tmp 0)) 3 [v13_12] C_3 (fun v14_13 =>
 oH Tryz.prog (.fieldAddr 116 (.tmp 0) 0) 0 [v2_1] C_3 (fun v17_14 =>
 oH Tryz.prog (.fieldAddr 32 (.tmp 0) 0) 0 [v17_14] C_3 (fun v18_15 =>
 oH Tryz.prog (.fieldAddr 30 (.tmp 0) 1) 0 [v18_15] C_3 (fun v19_16 =>
 oH Tryz.prog (.load 3 (.tmp 0)) 3 [v19_16] C_3 (fun v20_17 =>
 oM Tryz.prog (.buildSlice 22 5 #[(0, (.tmp 0)), (1, (.tmp 1)), (2, (.tmp 2)), (3, (.tmp 3)), (4, (.tmp 4))]) 22 [v6_5, v8_7, v10_9, v12_11, v14_13] (fun v15_18 w => C_3 w ∧ (
 callM Tryz.prog 123 #[v15_18] (fun v16_19 w => C_3 w ∧ (
 callM Tryz.prog 94 #[v16_19, v20_17] (fun v21_20 w => C_3 w ∧ (
 C_3 w ∧ (K v21_20 w))) w)) w)) w))))))))))))))))) w) w
theorem sh_76_eq (a0 : Value) (a1 : Value) (K : Value → World → Prop) (w : World) : sh_76 a0 a1 K w = code Tryz.prog (fun _ => 2) 22 (Tryz.f76.body.getD .skip) (slotsAt [a0, a1]) (retK Tryz.prog [.tmp 4] K) w := by kernel_rfl
theorem sh_76_ok {a0 a1 : Value} {K : Value → World → Prop} {w : World} (h : sh_76 a0 a1 K w) : callM Tryz.prog 76 #[a0, a1] K w :=
  calls_of_code (fun _ => 2) (fn := Tryz.f76) (rs := [.tmp 4]) Tryz.func76 rfl rfl (by kernel_rfl) (Nat.le_of_ble_eq_true rfl) ((sh_76_eq a0 a1 K w).mp h)
def sh_94 (a0 : Value) (a1 : Value) (K : Value → World → Prop) (w : World) : Prop :=
 callM Tryz.prog 82 #[a1] (fun v9_1 w =>
 oM Tryz.prog (.unOp .not 4 (.tmp 0)) 4 [v9_1] (fun v10_2 w =>
 condM v10_2
 (K (.int .i64 0) w)
 (callM Tryz.prog 144 #[a0] (fun v12_3 w =>
 oM Tryz.prog (.convert 9 181 (.tmp 0)) 181 [v12_3] (fun v13_4 w =>
 oM Tryz.prog (.call (Go.Call.mk (.builtin .len) #[(.tmp 0)] #[181])) 3 [v13_4] (fun v14_5 w =>
 loopM [undef, (.int .i64 0), (.int .i64 0)] w (fun J_6 m_7 l_8 u_l_8 w0_l_8 => (fun w => (
 oM Tryz.prog (.binOp .lss 3 (.tmp 0) (.tmp 1) 3) 0 [(l_8.getD 2 undef), v14_5] (fun v16_9 w =>
 condM v16_9
 (oM Tryz.prog (.indexAddr 181 (.tmp 0) (.tmp 1)) 0 [v13_4, (l_8.getD 2 undef)] (fun v17_10 w =>
 oM Tryz.prog (.load 5 (.tmp 0)) 5 [v17_10] (fun v18_11 w =>
 callM Tryz.prog 27 #[a1, (l_8.getD 1 undef), (.int .i64 256)] (fun v22_12 w =>
 oM Tryz.prog (.convert 5 3 (.tmp 0)) 3 [v18_11] (fun v24_13 w =>
 callM Tryz.prog 26 #[a1, v22_12, v24_13] (fun v25_14 w =>
 oM Tryz.prog (.binOp .add 3 (.tmp 0) (.tmp 1) 3) 3 [(l_8.getD 2 undef), (.int .i64 1)] (fun v26_15 w =>
 J_6 [v18_11, v25_14, v26_15] w ∧ m_7 [v18_11, v25_14, v26_15] w < m_7 l_8 w0_l_8) w) w) w) w) w) w)
 (K (l_8.getD 1 undef) w)) w)) w0_l_8)) w) w) w)) w) w
theorem sh_94_eq (a0 : Value) (a1 : Value) (K : Value → World → Prop) (w : World) : sh_94 a0 a1 K w = code Tryz.prog (fun _ => 2) 28 (Tryz.f94.body.getD .skip) (slotsAt [a0, a1]) (retK Tryz.prog [.tmp 4] K) w := by kernel_rfl
theorem sh_94_ok {a0 a1 : Value} {K : Value → World → Prop} {w : World} (h : sh_94 a0 a1 K w) : callM Tryz.prog 94 #[a0, a1] K w :=
  calls_of_code (fun _ => 2) (fn := Tryz.f94) (rs := [.tmp 4]) Tryz.func94 rfl rfl (by kernel_rfl) (Nat.le_of_ble_eq_true rfl) ((sh_94_eq a0 a1 K w).mp h)
def sh_29 (a0 : Value) (a1 : Value) (a2 : Value) (K : Value → World → Prop) (w : World) : Prop :=
 oM Tryz.prog (.box 32 (.tmp 0)) 0 [a0] (fun v3_1 w =>
 oM Tryz.prog (.box 41 (.tmp 0)) 0 [a2] (fun v5_2 w =>
 oM Tryz.prog (.load 32 (.tmp 0)) 32 [v3_1] (fun v11_3 w =>
 oM Tryz.prog (.load 41 (.tmp 0)) 41 [v5_2] (fun v12_4 w =>
 callM Tryz.prog 85 #[v11_3, v12_4] (fun v13_5 w =>
 oM Tryz.prog (.extract (.tmp 0) 0) 116 [v13_5] (fun v14_6 w =>
 oM Tryz.prog (.extract (.tmp 0) 1) 4 [v13_5] (fun v15_7 w =>
 oM Tryz.prog (.alloc 116) 0 [] (fun v7_8 w =>
 oM Tryz.prog (.store 116 (.tmp 0) (.tmp 1)) 0 [v7_8, v14_6] (fun _ w =>
 oM Tryz.prog (.unOp .not 4 (.tmp 0)) 4 [v15_7] (fun v17_9 w =>
 gdM (gd v17_9 false) (oM Tryz.prog (.load 116 (.tmp 0)) 116 [v7_8]) (fun v19_10 w =>
 gdM (gd v17_9 false) (pureM a1) (fun v20_11 w =>
 gdM (gd v17_9 false) (callM Tryz.prog 87 #[v19_10, v20_11]) (fun v21_12 w =>
 gdM (gd v17_9 false) (oM Tryz.prog (.unOp .not 4 (.tmp 0)) 4 [v21_12]) (fun v22_13 w =>
 oM Tryz.prog (.pick (.tmp 0) (.tmp 1) (.tmp 2)) 4 [v17_9, (.bool true), v22_13] (fun v23_14 w =>
 condM v23_14
 (K (.bool false) w)
 (oM Tryz.prog (.load 116 (.tmp 0)) 116 [v7_8] (fun v24_15 w =>
 oM Tryz.prog (.load 41 (.tmp 0)) 41 [v5_2] (fun v25_16 w =>
 callM Tryz.prog 76 #[v24_15, v25_16] (fun v26_17 w =>
 oM Tryz.prog (.binOp .neq 3 (.tmp 0) (.const (.int .i64 0)) 3) 4 [v26_17] (fun v28_18 w =>
 gdM (gd v28_18 true) (oM Tryz.prog (.load 116 (.tmp 0)) 116 [v7_8]) (fun v30_19 w =>
 gdM (gd v28_18 true) (pureM a1) (fun v31_20 w =>
 gdM (gd v28_18 true) (oM Tryz.prog (.fieldAddr 41 (.tmp 0) 0) 0 [v5_2]) (fun v32_21 w =>
 gdM (gd v28_18 true) (oM Tryz.prog (.load 3 (.tmp 0)) 3 [v32_21]) (fun v33_22 w =>
 gdM (gd v28_18 true) (pureM v26_17) (fun v34_23 w =>
 gdM (gd v28_18 true) (oM Tryz.prog (.fieldAddr 41 (.tmp 0) 5) 0 [v5_2]) (fun v35_24 w =>
 gdM (gd v28_18 true) (oM Tryz.prog (.load 3 (.tmp 0)) 3 [v35_24]) (fun v36_25 w =>
 gdM (gd v28_18 true) (oM Tryz.prog (.fieldAddr 41 (.tmp 0) 2) 0 [v5_2]) (fun v37_26 w =>
 gdM (gd v28_18 true) (oM Tryz.prog (.load 3 (.tmp 0)) 3 [v37_26]) (fun v38_27 w =>
 gdM (gd v28_18 true) (oM Tryz.prog (.fieldAddr 41 (.tmp 0) 3) 0 [v5_2]) (fun v39_28 w =>
 gdM (gd v28_18 true) (oM Tryz.prog (.load 3 (.tmp 0)) 3 [v39_28]) (fun v40_29 w =>
 gdM (gd v28_18 true) (oM Tryz.prog (.fieldAddr 41 (.tmp 0) 4) 0 [v5_2]) (fun v41_30 w =>
 gdM (gd v28_18 true) (oM Tryz.prog (.load 3 (.tmp 0)) 3 [v41_30]) (fun v42_31 w =>
 gdM (gd v28_18 true) (oM Tryz.prog (.build 37 #[(0, (.tmp 0)), (1, (.tmp 1)), (2, (.tmp 2))]) 37 [v38_27, v40_29, v42_31]) (fun v43_32 w =>
 gdM (gd v28_18 true) (callM Tryz.prog 79 #[v30_19, v31_20, v33_22, v34_23, v36_25, v43_32]) (fun v44_33 w =>
 oM Tryz.prog (.pick (.tmp 0) (.tmp 1) (.tmp 2)) 4 [v28_18, v44_33, (.bool false)] (fun v45_34 w =>
 K v45_34 w) w) w) w) w) w) w) w) w) w) w) w) w) w) w) w) w) w) w) w) w)) w) w) w) w) w) w) w) w) w) w) w) w) w) w) w
theorem sh_29_eq (a0 : Value) (a1 : Value) (a2 : Value) (K : Value → World → Prop) (w : World) : sh_29 a0 a1 a2 K w = code Tryz.prog (fun _ => 2) 46 (Tryz.f29.body.getD .skip) (slotsAt [a0, a1, a2]) (retK Tryz.prog [.tmp 6] K) w := by kernel_rfl
theorem sh_29_ok {a0 a1 a2 : Value} {K : Value → World → Prop} {w : World} (h : sh_29 a0 a1 a2 K w) : callM Tryz.prog 29 #[a0, a1, a2] K w :=
  calls_of_code (fun _ => 2) (fn := Tryz.f29) (rs := [.tmp 6]) Tryz.func29 rfl rfl (by kernel_rfl) (Nat.le_of_ble_eq_true rfl) ((sh_29_eq a0 a1 a2 K w).mp h)
def sh_39 (a0 : Value) (a1 : Value) (a2 : Value) (K : Value → World → Prop) (w : World) : Prop :=
 oM Tryz.prog (.box 32 (.tmp 0)) 0 [a0] (fun v3_1 w =>
 oM Tryz.prog (.box 41 (.tmp 0)) 0 [a1] (fun v4_2 w =>
 oM Tryz.prog (.load 32 (.tmp 0)) 32 [v3_1] (fun v11_3 w =>
 callM Tryz.prog 64 #[v11_3] (fun v12_4 w =>
 oM Tryz.prog (.extract (.tmp 0) 0) 116 [v12_4] (fun v13_5 w =>
 oM Tryz.prog (.extract (.tmp 0) 1) 4 [v12_4] (fun v14_6 w =>
 oM Tryz.prog (.alloc 116) 0 [] (fun v7_7 w =>
 oM Tryz.prog (.store 116 (.tmp 0) (.tmp 1)) 0 [v7_7, v13_5] (fun _ w =>
 oM Tryz.prog (.unOp .not 4 (.tmp 0)) 4 [v14_6] (fun v16_8 w =>
 condM v16_8
 (K (.int .i64 0) w)
 (oM Tryz.prog (.fieldAddr 32 (.tmp 0) 0) 0 [v3_1] (fun v17_9 w =>
 oM Tryz.prog (.fieldAddr 30 (.tmp 0) 1) 0 [v17_9] (fun v18_10 w =>
 oM Tryz.prog (.load 3 (.tmp 0)) 3 [v18_10] (fun v19_11 w =>
 oM Tryz.prog (.binOp .quo 3 (.tmp 0) (.tmp 1) 3) 3 [v19_11, (.int .i64 2)] (fun v20_12 w =>
 heldM w (fun C_13 w => (pureH v20_12 C_13 (fun v21_14 =>
 oH Tryz.prog (.binOp .add 3 (.tmp 0) (.tmp 1) 3) 3 [v21_14, (.int .i64 1)] C_13 (fun v22_15 =>
 oH Tryz.prog (.load 41 (.tmp 0)) 41 [v4_2] C_13 (fun v23_16 =>
 pureH a2 C_13 (fun v25_17 =>
 oH Tryz.prog (.fieldAddr 32 (.tmp 0) 0) 0 [v3_1] C_13 (fun v28_18 =>
 oH Tryz.prog (.fieldAddr 30 (.tmp 0) 1) 0 [v28_18] C_13 (fun v29_19 =>
 oH Tryz.prog (.load 3 (.tmp 0)) 3 [v29_19] C_13 (fun v30_20 =>
 oH Tryz.prog (.binOp .sub 3 (.tmp 0) (.tmp 1) 3) 3 [v30_20, (.int .i64 1)] C_13 (fun v31_21 =>
 pureH v20_12 C_13 (fun v32_22 =>
 oH Tryz.prog (.binOp .sub 3 (.tmp 0) (.tmp 1) 3) 3 [v31_21, v32_22] C_13 (fun v33_23 =>
 callM Tryz.prog 56 #[v23_16] (fun v24_24 w => C_13 w ∧ (
 callM Tryz.prog 95 #[v25_17] (fun v26_25 w => C_13 w ∧ (
 oM Tryz.prog (.binOp .add 9 (.tmp 0) (.tmp 1) 9) 9 [v24_24, v26_25] (fun v27_26 w => C_13 w ∧ (
 callM Tryz.prog 94 #[v27_26, v33_23] (fun v34_27 w => C_13 w ∧ (
 oM Tryz.prog (.binOp .add 3 (.tmp 0) (.tmp 1) 3) 3 [v22_15, v34_27] (fun v35_28 w => C_13 w ∧ (
 C_13 w ∧ (K v35_28 w))) w)) w)) w)) w)) w))))))))))))) w) w) w) w)) w) w) w) w) w) w) w) w) w
theorem sh_39_eq (a0 : Value) (a1 : Value) (a2 : Value) (K : Value → World → Prop) (w : World) : sh_39 a0 a1 a2 K w = code Tryz.prog (fun _ => 2) 36 (Tryz.f39.body.getD .skip) (slotsAt [a0, a1, a2]) (retK Tryz.prog [.tmp 6] K) w := by kernel_rfl
theorem sh_39_ok {a0 a1 a2 : Value} {K : Value → World → Prop} {w : World} (h : sh_39 a0 a1 a2 K w) : callM Tryz.prog 39 #[a0, a1, a2] K w :=
  calls_of_code (fun _ => 2) (fn := Tryz.f39) (rs := [.tmp 6]) Tryz.func39 rfl rfl (by kernel_rfl) (Nat.le_of_ble_eq_true rfl) ((sh_39_eq a0 a1 a2 K w).mp h)
end Go.Proofs
namespace Go.Sh
open Go Go.RowKit
@[reducible] def cellsAre (w : World) : List (Addr × Value) → Prop
  | [] => True
  | p :: l => w.cell? p.1 = some p.2 ∧ cellsAre w l
theorem cellsAre_keep {w w' : World} : ∀ {L : List (Addr × Value)}, cellsAre w L → (∀ (a : Addr), a.block < w.heap.size → w'.cell? a = w.cell? a) → cellsAre w' L
  | [], _, _ => trivial
  | p :: l, h, k => by
    refine ⟨?_, cellsAre_keep h.2 k⟩
    have hlt : p.1.block < w.heap.size := by
      have h1 := h.1
      by_cases hc : p.1.block < w.heap.size
      · exact hc
      · unfold World.cell? at h1
        rw [Array.getElem?_eq_none (by omega)] at h1
        simp at h1
    rw [k _ hlt]; exact h.1
theorem cellsAre_keepBut {w w' : World} {g : Nat} : ∀ {L : List (Addr × Value)}, cellsAre w L → (∀ p ∈ L, p.1.block ≠ g) → (∀ (a : Addr), a.block < w.heap.size → a.block ≠ g → w'.cell? a = w.cell? a) → cellsAre w' L
  | [], _, _, _ => trivial
  | p :: l, h, hn, k => by
    refine ⟨?_, cellsAre_keepBut h.2 (fun q hq => hn q (List.mem_cons_of_mem _ hq)) k⟩
    have hlt : p.1.block < w.heap.size := by
      have h1 := h.1
      by_cases hc : p.1.block < w.heap.size
      · exact hc
      · unfold World.cell? at h1
        rw [Array.getElem?_eq_none (by omega)] at h1
        simp at h1
    rw [k _ hlt (hn p (List.mem_cons_self ..))]; exact h.1
theorem cellsAre_append {w : World} : ∀ {A B : List (Addr × Value)}, cellsAre w A → cellsAre w B → cellsAre w (A ++ B)
  | [], _, _, hb => hb
  | _ :: _, _, ha, hb => ⟨ha.1, cellsAre_append ha.2 hb⟩
structure Kn (w0 : World) (L : List (Addr × Value)) (w' : World) : Prop where
  below : Below w0.heap.size w0 w'
  cells : cellsAre w' L
namespace Kn
variable {w0 w w' : World} {L : List (Addr × Value)}
theorem start (w : World) : Kn w [] w := ⟨Below.refl _ _, trivial⟩
theorem next (h : Kn w0 L w) (hb : Below w.heap.size w w') : Kn w0 L w' := ⟨h.below.on hb, cellsAre_keep h.cells fun a ha => hb.cell ha⟩
theorem drew (h : Kn w0 L w) : Kn w0 L { w with drawn := w.drawn + 1 } := h.next .drawn
theorem wrote (h : Kn w0 L w) {g : Nat} (hg : w.grownBy w' (some g)) (h0 : w0.heap.size ≤ g) (hn : ∀ p ∈ L, p.1.block ≠ g) : Kn w0 L w' :=
  ⟨h.below.grown hg h.below.size (fun k hk => by cases hk; exact h0),
    cellsAre_keepBut h.cells hn fun a ha hna => World.cell?_of_block (w := w) (hg.block _ ha (fun e => hna (Option.some.inj e)))⟩
theorem more {A : List (Addr × Value)} (h : Kn w0 L w) (ha : cellsAre w A) : Kn w0 (A ++ L) w := ⟨h.below, cellsAre_append ha h.cells⟩
theorem less {A : List (Addr × Value)} (h : Kn w0 (A ++ L) w) : Kn w0 L w := ⟨h.below, by
  have := h.cells
  clear h
  induction A with
  | nil => exact this
  | cons a A ih => exact ih this.2⟩
end Kn
@[reducible] def cellsOf (L : List (Addr × Value)) (b : Nat) : Nat → List Value → List (Addr × Value)
  | _, [] => L
  | i, v :: l => (⟨b, i, none⟩, v) :: cellsOf L b (i + 1) l
theorem cellsOf_are {w : World} {b : Nat} {xs : List Value} {L : List (Addr × Value)} (hL : cellsAre w L) (h : ∀ (i : Nat) (v : Value), xs[i]? = some v → w.cell? ⟨b, i, none⟩ = some v) : ∀ (l : List Value) (i : Nat), xs.drop i = l → cellsAre w (cellsOf L b i l)
  | [], _, _ => hL
  | v :: l, i, e => by
    have hv : xs[i]? = some v := by
      have := congrArg (·[0]?) e
      simpa using this
    refine ⟨h i v hv, cellsOf_are hL h l (i + 1) ?_⟩
    have := congrArg List.tail e
    simpa using this
def Mine (w : World) (g : Nat) (n : Nat) : Prop := ∃ cur T, w.heap[g]? = some (.cells cur T (0, 0)) ∧ cur.size = n
theorem Mine.next {w w' : World} {g n : Nat} (h : Mine w g n) (hb : Below w.heap.size w w') : Mine w' g n := by
  obtain ⟨cur, T, h1, h2⟩ := h
  refine ⟨cur, T, ?_, h2⟩
  rw [hb.block g (Array.getElem?_eq_some_iff.1 h1).1]; exact h1
section
variable {P : Program} {w0 w : World} {K : Value → World → Prop} {T T' : TypeId} {L : List (Addr × Value)}
theorem box_kn {x : Value} {cs : List Value} (hx : x.cells = cs.toArray) (hk : Kn w0 L w) (k : ∀ b W, Kn w0 (cellsOf L b 0 cs) W → Below w.heap.size w W → w.heap.size ≤ b → K (.pointer (some ⟨b, 0, none⟩)) W) : oM P (.box T (.tmp 0)) T' [x] K w :=
  box_in hx fun g W h1 h2 h3 => k g W ⟨(hk.next h1).below, cellsOf_are (xs := cs) (hk.next h1).cells (fun i v hi => h3 W (Below.refl _ _) i v hi) cs 0 rfl⟩ h1 h2
end
end Go.Sh
namespace TkSpec
open FdSpec
structure Stp where
  g : Grp
  bases : List Int
  blind : Int
deriving DecidableEq
structure Bld where
  s : Int
  u : Int
  v : Int
  ys : List Int
deriving DecidableEq
structure Tkt where
  mark : Int
  first : Int
  z : Int
  a : Int
  b : Int
  r : Int
deriving DecidableEq
structure Spd where
  dare : Int
  answers : List Int
deriving DecidableEq
structure Off where
  z : Int
  a : Int
  b : Int
deriving DecidableEq
def otherM (g : Grp) (x : Int) : Bool := !decide (x = 1) && elemG g x
def validS (s : Stp) : Bool := validG s.g && decide (2 ≤ s.bases.length) && decide (s.bases.length ≤ 7) && s.bases.all (otherM s.g) && otherM s.g s.blind
def numsM (s : Stp) (least : Int) (l : List Int) : Bool := l.all fun n => decide (least ≤ n) && decide (n < s.g.Q)
def elementsM (s : Stp) (l : List Int) : Bool := l.all (elemG s.g)
def keyM (s : Stp) (k : Int) : Bool := !decide (k = 1) && elementsM s [k]
def genM (s : Stp) (k : Int) : Int := powerG s.g s.g.G k
def timesM (s : Stp) (first : Int) (l : List Int) : Int := l.foldl (fun a x => timesG s.g a x) first
def mulQ (s : Stp) (first : Int) (l : List Int) : Int := l.foldl (fun a x => mulM s.g.Q a x) first
def overQ (s : Stp) (a b : Int) : Int := mulQ s a [powM s.g.Q b (-1)]
def plusQ (s : Stp) (a b : Int) : Int := addM s.g.Q a b
def lessQ (s : Stp) (a b : Int) : Int := subM s.g.Q a b
def expsM (attrs : List Int) : List Int := 1 :: attrs
def markM (s : Stp) (attrs : List Int) : Int × Bool :=
  if validS s && decide (attrs.length + 1 = s.bases.length) && numsM s 0 attrs && !decide (attrs.headD 0 = 0) then ((prodG s.g s.bases (expsM attrs)).1, true) else (0, false)
def usableM (s : Stp) (attrs : List Int) : Int × Bool := ((markM s attrs).1, (markM s attrs).2 && !decide ((markM s attrs).1 = 1))
def publicM (s : Stp) (x : Int) : Int := if validS s && numsM s 1 [x] then genM s x else 0
def proposeM (s : Stp) (x : Int) (attrs : List Int) (w : Int) : Off × Int :=
  if (usableM s attrs).2 && numsM s 1 [x] && numsM s 0 [w] then (⟨powerG s.g (usableM s attrs).1 x, genM s w, powerG s.g (usableM s attrs).1 w⟩, 0) else (⟨0, 0, 0⟩, 1)
def blindsM (s : Stp) (b : Bld) : Bool := numsM s 1 [b.s, b.u] && numsM s 0 [b.v] && decide (b.ys.length = s.bases.length) && numsM s 0 b.ys
def grantM (s : Stp) (x w c : Int) : Int := if validS s && numsM s 1 [x] && numsM s 0 [w, c] then plusQ s (mulQ s c [x]) w else 0
def useM (s : Stp) (attrs : List Int) (b : Bld) (dare : Int) : Spd × Bool :=
  if (usableM s attrs).2 && blindsM s b && numsM s 1 [dare] then (⟨dare, ((expsM attrs).zip b.ys).map fun p => plusQ s p.2 (mulQ s dare [b.s, p.1])⟩, true) else (⟨0, []⟩, false)
def formedM (s : Stp) (t : Tkt) : Bool := validS s && !decide (t.mark = 1) && elementsM s [t.mark, t.first, t.z, t.a, t.b] && numsM s 0 [t.r]
def acceptsM (s : Stp) (t : Tkt) (x : Spd) : Bool :=
  if formedM s t && numsM s 1 [x.dare] && decide (x.answers.length = s.bases.length) && numsM s 0 x.answers then decide ((prodG s.g s.bases x.answers).1 = timesM s (powerG s.g t.mark x.dare) [t.first]) else false
def gapsM (s : Stp) (t : Tkt) (a b : Spd) : List Int × Bool :=
  if decide (a.dare = b.dare) || !acceptsM s t a || !acceptsM s t b then ([], false)
  else ((a.answers.zip b.answers).map fun p => lessQ s p.1 p.2, !decide (((a.answers.zip b.answers).map fun p => lessQ s p.1 p.2).headD 0 = 0))
def traceM (s : Stp) (t : Tkt) (a b : Spd) : List Int × Bool :=
  if (gapsM s t a b).2 then ((gapsM s t a b).1.tail.map fun n => overQ s n ((gapsM s t a b).1.headD 0), true) else ([], false)
def guiltyM (s : Stp) (t : Tkt) (a b : Spd) (attrs : List Int) : Bool :=
  if (gapsM s t a b).2 && decide (attrs.length + 1 = (gapsM s t a b).1.length) && numsM s 0 attrs then
    (attrs.zip (gapsM s t a b).1.tail).all fun p => decide (mulQ s p.1 [(gapsM s t a b).1.headD 0] = p.2)
  else false
def s0 : Stp := ⟨⟨23, 11, 4⟩, [4, 16, 18], 3⟩
def b0 : Bld := ⟨4, 1, 0, [1, 2, 3]⟩
def t0 : Tkt := ⟨8, 18, 9, 16, 13, 0⟩
theorem sane_facts :
    proposeM s0 3 [5, 7] 2 = (⟨9, 16, 13⟩, 0) ∧ useM s0 [5, 7] b0 2 = (⟨2, [9, 9, 4]⟩, true) ∧ useM s0 [5, 7] b0 5 = (⟨5, [10, 3, 0]⟩, true) ∧
    traceM s0 t0 ⟨2, [9, 9, 4]⟩ ⟨5, [10, 3, 0]⟩ = ([5, 7], true) ∧ (traceM s0 t0 ⟨2, [9, 9, 4]⟩ ⟨2, [9, 9, 4]⟩).2 = false ∧
    markM s0 [5, 7] = (6, true) ∧ (usableM s0 [5, 7]).2 = true ∧ (usableM s0 [5, 0]).2 = false ∧ publicM s0 3 = 18 ∧ publicM s0 0 = 0 ∧ grantM s0 3 2 6 = 9 ∧
    acceptsM s0 t0 ⟨2, [9, 9, 4]⟩ = true ∧ acceptsM s0 t0 ⟨5, [10, 3, 0]⟩ = true ∧ acceptsM s0 t0 ⟨3, [9, 9, 4]⟩ = false ∧ guiltyM s0 t0 ⟨2, [9, 9, 4]⟩ ⟨5, [10, 3, 0]⟩ [5, 7] = true := by
  decide +kernel
end TkSpec
namespace Go.Proofs
open Go Go.Sh Go.RowKit FdSpec TkSpec
set_option linter.unusedSimpArgs false
set_option linter.unusedVariables false
set_option maxRecDepth 10000
section
variable {K : Value → World → Prop} {w : World}
@[reducible] def stpV (s : Stp) (v : Value) : Value := .agg #[.int .i64 s.g.P, .int .i64 s.g.Q, .int .i64 s.g.G, v, .int .i64 s.blind]
@[reducible] def stpC (s : Stp) (v : Value) : List Value := [.int .i64 s.g.P, .int .i64 s.g.Q, .int .i64 s.g.G, v, .int .i64 s.blind]
structure SetR (w : World) (s : Stp) (v : Value) : Prop where
  grp : GrpR s.g
  ints : Ints w v s.bases
  blind : I64 s.blind
  db : DbT w
theorem DbT.next {w w' : World} (h : DbT w) (hb : Below w.heap.size w w') : DbT w' := h.below hb (Nat.le_refl _)
theorem SetR.next {w w' : World} {s : Stp} {v : Value} (h : SetR w s v) (hb : Below w.heap.size w w') : SetR w' s v := ⟨h.grp, h.ints.next hb, h.blind, h.db.next hb⟩
theorem other_ok (g : Grp) (x : Int) {b : Nat} (hg : GrpR g) (hT : DbT w) (h0 : w.cell? ⟨b, 0, none⟩ = some (.int .i64 g.P)) (h1 : w.cell? ⟨b, 1, none⟩ = some (.int .i64 g.Q)) (h2 : w.cell? ⟨b, 2, none⟩ = some (.int .i64 g.G))
    (k : ∀ w', Below w.heap.size w w' → K (.bool (otherM g x)) w') : callM Tryz.prog 173 #[.int .i64 x, .pointer (some ⟨b, 0, none⟩)] K w := by
  apply sh_173_ok
  unfold sh_173
  unfold otherM at k
  by_cases hx : x = 1
  · have k := k w (Below.refl _ _)
    repeat (any_goals (first
    | (with_reducible first|((refine idGd ?_); ((refine idGdN ?_); refine zM ?_))|((refine idPick ?_); refine yG ?_))
    | ((with_reducible refine idO ?_); (with_reducible refine oM_gen fun Kv hK=>?_); simp [go_sem, h0, h1, h2]; refine hK _ _ ?_; clear hK; clear Kv)))
    simpa [hx] using k
  · repeat (any_goals (first
    | (with_reducible first|refine pureM_in ?_|((refine idGd ?_); ((refine idGdN ?_); refine zL ?_)))
    | ((with_reducible refine idO ?_); (with_reducible refine oM_gen fun Kv hK=>?_); simp [go_sem, h0, h1, h2]; refine hK _ _ ?_; clear hK; clear Kv)))
    refine Element_ok g x hg hT (fun w' hw => ?_)
    have k := k w' hw
    repeat (any_goals (with_reducible ((refine idPick ?_); refine yF ?_)))
    simpa [hx] using k
def VsJ (s : Stp) (L : List (Addr × Value)) (R : Bool) (w0 : World) (l : List Value) (w' : World) : Prop := Kn w0 L w' ∧ ∃ (v u : Value) (i : Nat), l = [v, u, .int .i64 (i : Int)] ∧ i ≤ s.bases.length ∧ (s.bases.drop i).all (otherM s.g) = R
def vsMu (n : Nat) (l : List Value) (_ : World) : Nat := match l with | [_, _, .int _ i] => n - i.toNat | _ => 0
theorem vsMu_eq (n : Nat) (x y : Value) (q : IntKind) (i : Int) (w : World) : vsMu n [x, y, .int q i] w = n - i.toNat := rfl
theorem ValidSetup_ok (s : Stp) {v : Value} (hs : SetR w s v) (k : ∀ w', Below w.heap.size w w' → K (.bool (validS s)) w') : callM Tryz.prog 128 #[stpV s v] K w := by
  apply sh_128_ok
  unfold sh_128
  obtain ⟨ad, c, rfl⟩ := hs.ints.isSlice
  refine box_kn (cs := stpC s (.slice ad s.bases.length c)) rfl (.start w) fun b W hk hb1 hb => ?_
  have k2 : ∀ w' r, validS s = r → Below w.heap.size w w' → K (.bool r) w' := fun w' r e hb => by rw [← e]; exact k w' hb
  have e0 : validS s = (validG s.g && decide (2 ≤ s.bases.length) && decide (s.bases.length ≤ 7) && s.bases.all (otherM s.g) && otherM s.g s.blind) := rfl
  have hl := hs.ints.len
  clear k
  repeat (any_goals ((with_reducible refine idO ?_); (with_reducible refine oM_gen fun Kv hK=>?_); simp [go_sem, hk.cells]; refine hK _ _ ?_; clear hK; clear Kv))
  refine ValidGroup_ok s.g hs.grp (hs.db.next hk.below) (fun w1 h1 => ?_)
  have hk := hk.next h1
  clear h1 hb1
  cases hv : validG s.g with
  | false =>
    repeat (any_goals (first
    | (with_reducible first|((refine idGd ?_); refine zD ?_)|((refine idPick ?_); refine yB ?_)|((refine idCond ?_); refine yL ?_))
    | ((with_reducible refine idO ?_); (with_reducible refine oM_gen fun Kv hK=>?_); simp [go_sem]; refine hK _ _ ?_; clear hK; clear Kv)))
    exact k2 _ _ (by rw [e0, hv]; simp) hk.below
  | true =>
    repeat (any_goals (first
    | (with_reducible first|((refine idGd ?_); first|refine zC ?_|((refine idGdD ?_); first|refine zI ?_|refine zJ ?_|refine zK (fun hg=>?_) fun hg=>?_))|((refine idPick ?_); first|refine yC ?_|refine yD ?_|refine yE ?_)|((refine idCond ?_); first|refine yL ?_|refine yP (fun hg=>?_) fun hg=>?_))
    | ((with_reducible refine idO ?_); (with_reducible refine oM_gen fun Kv hK=>?_); simp [go_sem, hk.cells]; refine hK _ _ ?_; clear hK; clear Kv)))
    · exact k2 _ _ (by rw [e0]; simp; omega) hk.below
    · exact k2 _ _ (by rw [e0]; simp; omega) hk.below
    have e1 : validS s = (s.bases.all (otherM s.g) && otherM s.g s.blind) := by
      rw [e0, hv, decide_eq_true (by omega : 2 ≤ s.bases.length), decide_eq_true (by omega : s.bases.length ≤ 7)]; rfl
    refine ⟨VsJ s _ (s.bases.all (otherM s.g)) w, vsMu s.bases.length, ⟨hk, _, _, 0, rfl, by omega, rfl⟩, ?_⟩
    generalize s.bases.all (otherM s.g) = R at *
    rintro _ _ w2 ⟨hk, u1, u2, i, rfl, hi, hall⟩
    have hc := hk.cells
    by_cases hin : i = s.bases.length
    · rw [List.drop_of_length_le (by omega), List.all_nil] at hall
      subst hall
      repeat (any_goals (first
      | (with_reducible ((refine idCond ?_); refine yO ?_))
      | ((with_reducible refine idO ?_); (with_reducible refine oM_gen fun Kv hK=>?_); simp [go_sem, hc]; refine hK _ _ ?_; clear hK; clear Kv)))
      refine oM_callv1 (by kernel_rfl) ?_
      refine other_ok s.g s.blind hs.grp (hs.db.next hk.below) hc.1 hc.2.1 hc.2.2.1 (fun w3 h3 => ?_)
      exact k2 _ _ (by rw [e1, Bool.true_and]) (hk.next h3).below
    · rw [List.drop_eq_getElem_cons (by omega), List.all_cons] at hall
      obtain ⟨b1, o1, rfl, hb1, ca, ra, _⟩ := hs.ints.at (i := i) (by omega)
      repeat (any_goals (first
      | (with_reducible ((refine idCond ?_); refine yN ?_))
      | ((with_reducible refine idO ?_); (with_reducible refine oM_gen fun Kv hK=>?_); simp [go_sem, ca _ hk.below]; (first|refine hK _ _ ?_|refine And.intro (by omega) (hK _ _ ?_)); clear hK; clear Kv)))
      refine oM_callv1 (by kernel_rfl) ?_
      refine other_ok s.g _ hs.grp (hs.db.next hk.below) hc.1 hc.2.1 hc.2.2.1 (fun w3 h3 => ?_)
      cases ho : otherM s.g s.bases[i] with
      | false =>
        rw [ho, Bool.false_and] at hall
        subst hall
        repeat (any_goals (first
        | (with_reducible ((refine idCond ?_); refine yL ?_))
        | ((with_reducible refine idO ?_); (with_reducible refine oM_gen fun Kv hK=>?_); simp [go_sem]; refine hK _ _ ?_; clear hK; clear Kv)))
        exact k2 _ _ (by rw [e1, Bool.false_and]) (hk.next h3).below
      | true =>
        rw [ho, Bool.true_and] at hall
        repeat (any_goals (first
        | (with_reducible ((refine idCond ?_); refine yM ?_))
        | ((with_reducible refine idO ?_); (with_reducible refine oM_gen fun Kv hK=>?_); simp [go_sem]; (try simp (disch := omega) only [wrapI64, wrapU8, wrapU32, wrapU64]); refine hK _ _ ?_; clear hK; clear Kv)))
        refine ⟨⟨hk.next h3, _, _, i + 1, rfl, by omega, hall⟩, ?_⟩
        simp only [vsMu_eq]; omega
end
end Go.Proofs
namespace Go.Proofs
open Go Go.Sh Go.RowKit FdSpec TkSpec
set_option linter.unusedSimpArgs false
set_option linter.unusedVariables false
set_option maxRecDepth 10000
section
variable {K : Value → World → Prop} {w w0 : World} {L : List (Addr × Value)}
theorem ints_alloc (w : World) (l : List Int) (T : TypeId) (c : Nat) (hr : ∀ n ∈ l, I64 n) (hl : l.length ≤ 9223372036854775807) : Ints (w.alloc (.cells (l.map (Value.int .i64)).toArray T)) (.slice (some ⟨w.heap.size, 0, none⟩) l.length c) l := by
  refine ⟨⟨_, c, rfl, by simp, ?_⟩, hr, hl⟩
  by_cases h0 : l = []
  · exact .inl h0
  · refine .inr ⟨_, 0, rfl, by simp, fun k x hk => ?_⟩
    rw [flat_int] at hk
    rw [Nat.zero_add]
    have := World.cell?_alloc_at (w := w) (l.map (Value.int .i64)).toArray T w.heap.size k rfl
    rw [this]
    simpa using hk
theorem mk1 {T : TypeId} (x : Int) (hx : I64 x) (k : ∀ v W, Below w.heap.size w W → Ints W v [x] → K v W) : oM Tryz.prog (.buildSlice 22 1 #[(0, .tmp 0)]) T [.int .i64 x] K w := by
  rw [oM_buildSlice1]
  have e : (Instr.buildSlice 22 1 #[(0, .int .i64 x)]).run Tryz.prog w = .ok (.slice (some ⟨w.heap.size, 0, none⟩) 1 1) (w.alloc (.cells #[.int .i64 x] 3)) := by kernel_rfl
  rw [e]
  exact k _ _ ((Below.refl _ w).alloc (Nat.le_refl _) _) (ints_alloc w [x] _ 1 (by simpa using hx) (by simp))
theorem mk2 {T : TypeId} (x y : Int) (hx : I64 x) (hy : I64 y) (k : ∀ v W, Below w.heap.size w W → Ints W v [x, y] → K v W) : oM Tryz.prog (.buildSlice 22 2 #[(0, .tmp 0), (1, .tmp 1)]) T [.int .i64 x, .int .i64 y] K w := by
  rw [oM_buildSlice2]
  have e : (Instr.buildSlice 22 2 #[(0, .int .i64 x), (1, .int .i64 y)]).run Tryz.prog w = .ok (.slice (some ⟨w.heap.size, 0, none⟩) 2 2) (w.alloc (.cells #[.int .i64 x, .int .i64 y] 3)) := by kernel_rfl
  rw [e]
  exact k _ _ ((Below.refl _ w).alloc (Nat.le_refl _) _) (ints_alloc w [x, y] _ 2 (by simp; exact ⟨hx, hy⟩) (by simp))
def IfJ (p : Int → Bool) (l : List Int) (R : Bool) (w0 : World) (vs : List Value) (w' : World) : Prop := Below w0.heap.size w0 w' ∧ ∃ (v u : Value) (i : Nat), vs = [v, u, .int .i64 (i : Int)] ∧ i ≤ l.length ∧ (l.drop i).any p = R
theorem IndexFunc_ok {v F : Value} {l : List Int} (p : Int → Bool) (hl : Ints w v l)
    (hF : ∀ (w' : World) (x : Int) (K' : Value → World → Prop) (T : TypeId), Below w.heap.size w w' → I64 x → (∀ w'', Below w'.heap.size w' w'' → K' (.bool (p x)) w'') → oM Tryz.prog (.call { callee := .value (.tmp 0), args := #[.tmp 1], argTypes := #[3] }) T [F, .int .i64 x] K' w')
    (k : ∀ w' (r : Int), Below w.heap.size w w' → decide (0 ≤ r) = l.any p → K (.int .i64 r) w') : callM Tryz.prog 143 #[v, F] K w := by
  apply sh_143_ok
  unfold sh_143
  obtain ⟨ad, c, rfl⟩ := hl.isSlice
  have hll := hl.len
  repeat (any_goals ((with_reducible refine idO ?_); (with_reducible refine oM_gen fun Kv hK=>?_); simp [go_sem]; refine hK _ _ ?_; clear hK; clear Kv))
  refine ⟨IfJ p l (l.any p) w, vsMu l.length, ⟨Below.refl _ _, _, _, 0, rfl, by omega, rfl⟩, ?_⟩
  generalize l.any p = R at *
  rintro _ _ w1 ⟨h1, u1, u2, i, rfl, hi, ha⟩
  by_cases hin : i = l.length
  · rw [List.drop_of_length_le (by omega), List.any_nil] at ha
    repeat (any_goals (first
    | (with_reducible ((refine idCond ?_); refine yO ?_))
    | ((with_reducible refine idO ?_); (with_reducible refine oM_gen fun Kv hK=>?_); simp [go_sem]; refine hK _ _ ?_; clear hK; clear Kv)))
    exact k _ _ h1 (by rw [← ha]; rfl)
  · rw [List.drop_eq_getElem_cons (by omega), List.any_cons] at ha
    obtain ⟨b1, o1, rfl, hb1, ca, ra, _⟩ := hl.at (i := i) (by omega)
    repeat (any_goals (first
    | (with_reducible ((refine idCond ?_); refine yN ?_))
    | ((with_reducible refine idO ?_); (with_reducible refine oM_gen fun Kv hK=>?_); simp [go_sem, ca _ h1]; (first|refine hK _ _ ?_|refine And.intro (by omega) (hK _ _ ?_)); clear hK; clear Kv)))
    refine hF w1 _ _ _ h1 ra (fun w2 h2 => ?_)
    cases hp : p l[i] with
    | true =>
      rw [hp, Bool.true_or] at ha
      repeat (any_goals (with_reducible ((refine idCond ?_); refine yL ?_)))
      exact k _ _ (h1.on h2) (by rw [← ha]; simp)
    | false =>
      rw [hp, Bool.false_or] at ha
      repeat (any_goals (first
      | (with_reducible ((refine idCond ?_); refine yM ?_))
      | ((with_reducible refine idO ?_); (with_reducible refine oM_gen fun Kv hK=>?_); simp [go_sem]; (try simp (disch := omega) only [wrapI64, wrapU8, wrapU32, wrapU64]); refine hK _ _ ?_; clear hK; clear Kv)))
      refine ⟨⟨h1.on h2, _, _, i + 1, rfl, by omega, ha⟩, ?_⟩
      simp only [vsMu_eq]; omega
theorem ContainsFunc_ok {v F : Value} {l : List Int} (p : Int → Bool) (hl : Ints w v l)
    (hF : ∀ (w' : World) (x : Int) (K' : Value → World → Prop) (T : TypeId), Below w.heap.size w w' → I64 x → (∀ w'', Below w'.heap.size w' w'' → K' (.bool (p x)) w'') → oM Tryz.prog (.call { callee := .value (.tmp 0), args := #[.tmp 1], argTypes := #[3] }) T [F, .int .i64 x] K' w')
    (k : ∀ w', Below w.heap.size w w' → K (.bool (l.any p)) w') : callM Tryz.prog 92 #[v, F] K w := by
  apply sh_92_ok
  unfold sh_92
  refine IndexFunc_ok p hl hF (fun w' r hb hr => ?_)
  repeat (any_goals ((with_reducible refine idO ?_); (with_reducible refine oM_gen fun Kv hK=>?_); simp [go_sem]; refine hK _ _ ?_; clear hK; clear Kv))
  rw [hr]
  exact k _ hb
theorem numsM_any (s : Stp) (least : Int) (l : List Int) : numsM s least l = !(l.any fun n => decide (n < least) || decide (s.g.Q ≤ n)) := by
  unfold numsM
  rw [List.not_any_eq_all_not]
  congr 1
  funext n
  by_cases h1 : n < least <;> by_cases h2 : s.g.Q ≤ n <;> simp [h1, h2] <;> omega
theorem elementsM_any (s : Stp) (l : List Int) : elementsM s l = !(l.any fun n => !elemG s.g n) := by
  unfold elementsM
  rw [List.not_any_eq_all_not]
  congr 1
  funext n
  simp
theorem numsF_ok (s : Stp) (least x : Int) {b d : Nat} (h0 : w.cell? ⟨b, 0, none⟩ = some (.int .i64 least)) (h1 : w.cell? ⟨d, 1, none⟩ = some (.int .i64 s.g.Q)) (h : K (.bool (decide (x < least) || decide (s.g.Q ≤ x))) w) :
    callM Tryz.prog 133 #[.int .i64 x, .pointer (some ⟨b, 0, none⟩), .pointer (some ⟨d, 0, none⟩)] K w := by
  apply sh_133_ok
  unfold sh_133
  by_cases hx : x < least
  · repeat (any_goals (first
    | (with_reducible first|((refine idGd ?_); ((refine idGdD ?_); refine zJ ?_))|((refine idPick ?_); refine yD ?_))
    | ((with_reducible refine idO ?_); (with_reducible refine oM_gen fun Kv hK=>?_); simp [go_sem, h0, h1]; refine hK _ _ ?_; clear hK; clear Kv)))
    simpa [hx] using h
  · repeat (any_goals (first
    | (with_reducible first|refine pureM_in ?_|((refine idGd ?_); ((refine idGdD ?_); refine zI ?_))|((refine idPick ?_); refine yE ?_))
    | ((with_reducible refine idO ?_); (with_reducible refine oM_gen fun Kv hK=>?_); simp [go_sem, h0, h1]; refine hK _ _ ?_; clear hK; clear Kv)))
    simpa [hx] using h
theorem nums_ok (s : Stp) (least : Int) {dv v : Value} {l : List Int} (hs : SetR w s dv) (hl : Ints w v l) (k : ∀ w', Below w.heap.size w w' → K (.bool (numsM s least l)) w') : callM Tryz.prog 65 #[stpV s dv, .int .i64 least, v] K w := by
  apply sh_65_ok
  unfold sh_65
  obtain ⟨ad, c, rfl⟩ := hs.ints.isSlice
  refine box_kn (cs := stpC s (.slice ad s.bases.length c)) rfl (.start w) fun b W hk hb1 hb => ?_
  refine box_kn (cs := [.int .i64 least]) rfl hk fun b2 W2 hk hb2 hbb => ?_
  repeat (any_goals ((with_reducible refine idO ?_); (with_reducible refine oM_gen fun Kv hK=>?_); simp [go_sem]; refine hK _ _ ?_; clear hK; clear Kv))
  refine ContainsFunc_ok (fun n => decide (n < least) || decide (s.g.Q ≤ n)) (hl.next hk.below) ?_ ?_
  · intro w' x K' T hb _ h'
    refine oM_callv1 (by kernel_rfl) ?_
    have hk := (hk.next hb).cells
    exact numsF_ok s least x hk.1 hk.2.2.1 (h' _ (Below.refl _ _))
  · intro w' hb
    repeat (any_goals ((with_reducible refine idO ?_); (with_reducible refine oM_gen fun Kv hK=>?_); simp [go_sem]; refine hK _ _ ?_; clear hK; clear Kv))
    rw [← numsM_any]
    exact k _ (hk.next hb).below
theorem elemF_ok (s : Stp) (x : Int) {d : Nat} (hg : GrpR s.g) (hT : DbT w) (h0 : w.cell? ⟨d, 0, none⟩ = some (.int .i64 s.g.P)) (h1 : w.cell? ⟨d, 1, none⟩ = some (.int .i64 s.g.Q)) (h2 : w.cell? ⟨d, 2, none⟩ = some (.int .i64 s.g.G)) (k : ∀ w', Below w.heap.size w w' → K (.bool (!elemG s.g x)) w') :
    callM Tryz.prog 182 #[.int .i64 x, .pointer (some ⟨d, 0, none⟩)] K w := by
  apply sh_182_ok
  unfold sh_182
  repeat (any_goals ((with_reducible refine idO ?_); (with_reducible refine oM_gen fun Kv hK=>?_); simp [go_sem, h0, h1, h2]; refine hK _ _ ?_; clear hK; clear Kv))
  refine Element_ok s.g x hg hT (fun w' hb => ?_)
  repeat (any_goals ((with_reducible refine idO ?_); (with_reducible refine oM_gen fun Kv hK=>?_); simp [go_sem]; refine hK _ _ ?_; clear hK; clear Kv))
  exact k _ hb
theorem elements_ok (s : Stp) {dv v : Value} {l : List Int} (hs : SetR w s dv) (hl : Ints w v l) (k : ∀ w', Below w.heap.size w w' → K (.bool (elementsM s l)) w') : callM Tryz.prog 138 #[stpV s dv, v] K w := by
  apply sh_138_ok
  unfold sh_138
  obtain ⟨ad, c, rfl⟩ := hs.ints.isSlice
  refine box_kn (cs := stpC s (.slice ad s.bases.length c)) rfl (.start w) fun b W hk hb1 hb => ?_
  repeat (any_goals ((with_reducible refine idO ?_); (with_reducible refine oM_gen fun Kv hK=>?_); simp [go_sem]; refine hK _ _ ?_; clear hK; clear Kv))
  refine ContainsFunc_ok (fun n => !elemG s.g n) (hl.next hk.below) ?_ ?_
  · intro w' x K' T hb _ h'
    refine oM_callv1 (by kernel_rfl) ?_
    have hk := hk.next hb
    have hc := hk.cells
    exact elemF_ok s x hs.grp (hs.db.next hk.below) hc.1 hc.2.1 hc.2.2.1 h'
  · intro w' hb
    repeat (any_goals ((with_reducible refine idO ?_); (with_reducible refine oM_gen fun Kv hK=>?_); simp [go_sem]; refine hK _ _ ?_; clear hK; clear Kv))
    rw [← elementsM_any]
    exact k _ (hk.next hb).below
theorem key_ok (s : Stp) (x : Int) {dv : Value} (hx : I64 x) (hs : SetR w s dv) (k : ∀ w', Below w.heap.size w w' → K (.bool (keyM s x)) w') : callM Tryz.prog 87 #[stpV s dv, .int .i64 x] K w := by
  apply sh_87_ok
  unfold sh_87
  obtain ⟨ad, c, rfl⟩ := hs.ints.isSlice
  refine box_kn (cs := stpC s (.slice ad s.bases.length c)) rfl (.start w) fun b W hk hb1 hb => ?_
  unfold keyM at k
  by_cases hx1 : x = 1
  · have k := k _ hk.below
    repeat (any_goals (first
    | (with_reducible first|((refine idGd ?_); ((refine idGdN ?_); refine zM ?_))|((refine idPick ?_); refine yG ?_))
    | ((with_reducible refine idO ?_); (with_reducible refine oM_gen fun Kv hK=>?_); simp [go_sem]; refine hK _ _ ?_; clear hK; clear Kv)))
    simpa [hx1] using k
  · repeat (any_goals (first
    | ((with_reducible refine mk1 x hx ?_); intro v W2 hb2 hi)
    | (with_reducible first|refine pureM_in ?_|((refine idGd ?_); ((refine idGdN ?_); refine zL ?_)))
    | ((with_reducible refine idO ?_); (with_reducible refine oM_gen fun Kv hK=>?_); simp [go_sem, hk.cells]; refine hK _ _ ?_; clear hK; clear Kv)))
    have hk := hk.next hb2
    refine elements_ok s (hs.next hk.below) hi (fun w3 h3 => ?_)
    have k := k _ (hk.next h3).below
    repeat (any_goals (with_reducible ((refine idPick ?_); refine yF ?_)))
    simpa [hx1] using k
theorem tpower_ok (s : Stp) (x n : Int) {dv : Value} (hs : SetR w s dv) (k : ∀ w', Below w.heap.size w w' → K (.int .i64 (powerG s.g x n)) w') : callM Tryz.prog 89 #[stpV s dv, .int .i64 x, .int .i64 n] K w := by
  apply sh_89_ok
  unfold sh_89
  obtain ⟨ad, c, rfl⟩ := hs.ints.isSlice
  refine box_kn (cs := stpC s (.slice ad s.bases.length c)) rfl (.start w) fun b W hk hb1 hb => ?_
  repeat (any_goals ((with_reducible refine idO ?_); (with_reducible refine oM_gen fun Kv hK=>?_); simp [go_sem, hk.cells]; refine hK _ _ ?_; clear hK; clear Kv))
  refine Power_ok s.g x n (fun w2 h2 => ?_)
  exact k _ (hk.next h2).below
theorem generated_ok (s : Stp) (n : Int) {dv : Value} (hs : SetR w s dv) (k : ∀ w', Below w.heap.size w w' → K (.int .i64 (genM s n)) w') : callM Tryz.prog 66 #[stpV s dv, .int .i64 n] K w := by
  apply sh_66_ok
  unfold sh_66
  obtain ⟨ad, c, rfl⟩ := hs.ints.isSlice
  refine box_kn (cs := stpC s (.slice ad s.bases.length c)) rfl (.start w) fun b W hk hb1 hb => ?_
  repeat (any_goals ((with_reducible refine idO ?_); (with_reducible refine oM_gen fun Kv hK=>?_); simp [go_sem, hk.cells]; refine hK _ _ ?_; clear hK; clear Kv))
  refine tpower_ok s _ n (hs.next hk.below) (fun w2 h2 => ?_)
  exact k _ (hk.next h2).below
theorem plus_ok (s : Stp) (x n : Int) {dv : Value} (hs : SetR w s dv) (k : ∀ w', Below w.heap.size w w' → K (.int .i64 (plusQ s x n)) w') : callM Tryz.prog 70 #[stpV s dv, .int .i64 x, .int .i64 n] K w := by
  apply sh_70_ok
  unfold sh_70
  obtain ⟨ad, c, rfl⟩ := hs.ints.isSlice
  refine box_kn (cs := stpC s (.slice ad s.bases.length c)) rfl (.start w) fun b W hk hb1 hb => ?_
  repeat (any_goals ((with_reducible refine idO ?_); (with_reducible refine oM_gen fun Kv hK=>?_); simp [go_sem, hk.cells]; refine hK _ _ ?_; clear hK; clear Kv))
  refine Add_ok _ x n ?_
  exact k _ hk.below
theorem less_ok (s : Stp) (x n : Int) {dv : Value} (hs : SetR w s dv) (k : ∀ w', Below w.heap.size w w' → K (.int .i64 (lessQ s x n)) w') : callM Tryz.prog 77 #[stpV s dv, .int .i64 x, .int .i64 n] K w := by
  apply sh_77_ok
  unfold sh_77
  obtain ⟨ad, c, rfl⟩ := hs.ints.isSlice
  refine box_kn (cs := stpC s (.slice ad s.bases.length c)) rfl (.start w) fun b W hk hb1 hb => ?_
  repeat (any_goals ((with_reducible refine idO ?_); (with_reducible refine oM_gen fun Kv hK=>?_); simp [go_sem, hk.cells]; refine hK _ _ ?_; clear hK; clear Kv))
  refine Sub_ok _ x n ?_
  exact k _ hk.below
theorem product_t_ok (s : Stp) {dv ev : Value} {es : List Int} (hs : SetR w s dv) (he : Ints w ev es) (k : ∀ w', Below w.heap.size w w' → K (.int .i64 (prodG s.g s.bases es).1) w') : callM Tryz.prog 90 #[stpV s dv, ev] K w := by
  apply sh_90_ok
  unfold sh_90
  have hi := hs.ints
  obtain ⟨ad, c, rfl⟩ := hs.ints.isSlice
  refine box_kn (cs := stpC s (.slice ad s.bases.length c)) rfl (.start w) fun b W hk hb1 hb => ?_
  repeat (any_goals ((with_reducible refine idO ?_); (with_reducible refine oM_gen fun Kv hK=>?_); simp [go_sem, hk.cells]; refine hK _ _ ?_; clear hK; clear Kv))
  refine Product_ok s.g (hi.next hk.below) (he.next hk.below) (fun w2 h2 => ?_)
  repeat (any_goals ((with_reducible refine idO ?_); (with_reducible refine oM_gen fun Kv hK=>?_); simp [go_sem]; refine hK _ _ ?_; clear hK; clear Kv))
  exact k _ (hk.next h2).below
def TmJ (f : Int → Int → Int) (l : List Int) (R : Int) (L : List (Addr × Value)) (w0 : World) (vs : List Value) (w' : World) : Prop := Kn w0 L w' ∧ ∃ (v : Value) (o : Int) (i : Nat), vs = [v, .int .i64 o, .int .i64 (i : Int)] ∧ i ≤ l.length ∧ (l.drop i).foldl f o = R
theorem times_ok (s : Stp) (x : Int) {dv v : Value} {l : List Int} (hs : SetR w s dv) (hl : Ints w v l) (k : ∀ w', Below w.heap.size w w' → K (.int .i64 (timesM s x l)) w') : callM Tryz.prog 91 #[stpV s dv, .int .i64 x, v] K w := by
  apply sh_91_ok
  unfold sh_91
  obtain ⟨ad, c, rfl⟩ := hs.ints.isSlice
  refine box_kn (cs := stpC s (.slice ad s.bases.length c)) rfl (.start w) fun b W hk hb1 hb => ?_
  obtain ⟨ad2, c2, rfl⟩ := hl.isSlice
  have hll := hl.len
  repeat (any_goals ((with_reducible refine idO ?_); (with_reducible refine oM_gen fun Kv hK=>?_); simp [go_sem]; refine hK _ _ ?_; clear hK; clear Kv))
  unfold timesM at k
  refine ⟨TmJ (fun a x => timesG s.g a x) l _ _ w, vsMu l.length, ⟨hk, _, _, 0, rfl, by omega, rfl⟩, ?_⟩
  rintro _ _ w1 ⟨hk, u1, o, i, rfl, hi, ha⟩
  by_cases hin : i = l.length
  · rw [List.drop_of_length_le (by omega), List.foldl_nil] at ha
    repeat (any_goals (first
    | (with_reducible ((refine idCond ?_); refine yO ?_))
    | ((with_reducible refine idO ?_); (with_reducible refine oM_gen fun Kv hK=>?_); simp [go_sem]; refine hK _ _ ?_; clear hK; clear Kv)))
    rw [ha]
    exact k _ hk.below
  · rw [List.drop_eq_getElem_cons (by omega), List.foldl_cons] at ha
    obtain ⟨b1, o1, rfl, hb1, ca, ra, _⟩ := hl.at (i := i) (by omega)
    repeat (any_goals (first
    | (with_reducible ((refine idCond ?_); refine yN ?_))
    | ((with_reducible refine idO ?_); (with_reducible refine oM_gen fun Kv hK=>?_); simp [go_sem, ca _ hk.below, hk.cells]; (first|refine hK _ _ ?_|refine And.intro (by omega) (hK _ _ ?_)); clear hK; clear Kv)))
    refine Times_ok s.g _ _ (fun w2 h2 => ?_)
    repeat (any_goals ((with_reducible refine idO ?_); (with_reducible refine oM_gen fun Kv hK=>?_); simp [go_sem]; (try simp (disch := omega) only [wrapI64, wrapU8, wrapU32, wrapU64]); refine hK _ _ ?_; clear hK; clear Kv))
    refine ⟨⟨hk.next h2, _, _, i + 1, rfl, by omega, ha⟩, ?_⟩
    simp only [vsMu_eq]; omega
theorem mul_ok (s : Stp) (x : Int) {dv v : Value} {l : List Int} (hs : SetR w s dv) (hl : Ints w v l) (k : ∀ w', Below w.heap.size w w' → K (.int .i64 (mulQ s x l)) w') : callM Tryz.prog 71 #[stpV s dv, .int .i64 x, v] K w := by
  apply sh_71_ok
  unfold sh_71
  obtain ⟨ad, c, rfl⟩ := hs.ints.isSlice
  refine box_kn (cs := stpC s (.slice ad s.bases.length c)) rfl (.start w) fun b W hk hb1 hb => ?_
  obtain ⟨ad2, c2, rfl⟩ := hl.isSlice
  have hll := hl.len
  repeat (any_goals ((with_reducible refine idO ?_); (with_reducible refine oM_gen fun Kv hK=>?_); simp [go_sem]; refine hK _ _ ?_; clear hK; clear Kv))
  unfold mulQ at k
  refine ⟨TmJ (fun a x => mulM s.g.Q a x) l _ _ w, vsMu l.length, ⟨hk, _, _, 0, rfl, by omega, rfl⟩, ?_⟩
  rintro _ _ w1 ⟨hk, u1, o, i, rfl, hi, ha⟩
  by_cases hin : i = l.length
  · rw [List.drop_of_length_le (by omega), List.foldl_nil] at ha
    repeat (any_goals (first
    | (with_reducible ((refine idCond ?_); refine yO ?_))
    | ((with_reducible refine idO ?_); (with_reducible refine oM_gen fun Kv hK=>?_); simp [go_sem]; refine hK _ _ ?_; clear hK; clear Kv)))
    rw [ha]
    exact k _ hk.below
  · rw [List.drop_eq_getElem_cons (by omega), List.foldl_cons] at ha
    obtain ⟨b1, o1, rfl, hb1, ca, ra, _⟩ := hl.at (i := i) (by omega)
    repeat (any_goals (first
    | (with_reducible ((refine idCond ?_); refine yN ?_))
    | ((with_reducible refine idO ?_); (with_reducible refine oM_gen fun Kv hK=>?_); simp [go_sem, ca _ hk.below, hk.cells]; (first|refine hK _ _ ?_|refine And.intro (by omega) (hK _ _ ?_)); clear hK; clear Kv)))
    refine Mul_ok _ _ _ (fun w2 h2 => ?_)
    repeat (any_goals ((with_reducible refine idO ?_); (with_reducible refine oM_gen fun Kv hK=>?_); simp [go_sem]; (try simp (disch := omega) only [wrapI64, wrapU8, wrapU32, wrapU64]); refine hK _ _ ?_; clear hK; clear Kv))
    refine ⟨⟨hk.next h2, _, _, i + 1, rfl, by omega, ha⟩, ?_⟩
    simp only [vsMu_eq]; omega
end
end Go.Proofs
namespace Go.Sh
open Go Go.RowKit
theorem cells_lt {w : World} : ∀ {L : List (Addr × Value)}, cellsAre w L → ∀ p ∈ L, p.1.block < w.heap.size
  | p :: l, h, q, hq => by
    rcases List.mem_cons.1 hq with rfl | hq
    · have h1 := h.1
      by_cases hc : q.1.block < w.heap.size
      · exact hc
      · unfold World.cell? at h1
        rw [Array.getElem?_eq_none (by omega)] at h1
        simp at h1
    · exact cells_lt h.2 q hq
structure KnM (w0 : World) (L : List (Addr × Value)) (g n : Nat) (w' : World) : Prop where
  kn : Kn w0 L w'
  mine : Mine w' g n
  base : w0.heap.size ≤ g
  off : ∀ p ∈ L, p.1.block ≠ g
theorem mine_lt {w : World} {g n : Nat} (h : Mine w g n) : g < w.heap.size := by
  obtain ⟨cur, T, h1, _⟩ := h
  exact (Array.getElem?_eq_some_iff.1 h1).1
theorem cellsOf_mem {L : List (Addr × Value)} {b : Nat} : ∀ (cs : List Value) (i : Nat) (p : Addr × Value), p ∈ cellsOf L b i cs → p.1.block = b ∨ p ∈ L
  | [], _, _, h => .inr h
  | _ :: l, i, p, h => by
    rcases List.mem_cons.1 h with rfl | h
    · exact .inl rfl
    · exact cellsOf_mem l (i + 1) p h
namespace KnM
variable {w0 w w' : World} {L : List (Addr × Value)} {g n : Nat}
theorem next (h : KnM w0 L g n w) (hb : Below w.heap.size w w') : KnM w0 L g n w' := ⟨h.kn.next hb, h.mine.next hb, h.base, h.off⟩
theorem drew (h : KnM w0 L g n w) : KnM w0 L g n { w with drawn := w.drawn + 1 } := h.next .drawn
theorem cells (h : KnM w0 L g n w) : cellsAre w L := h.kn.cells
theorem below (h : KnM w0 L g n w) : Below w0.heap.size w0 w := h.kn.below
end KnM
section
variable {P : Program} {w0 w : World} {K : Value → World → Prop} {T T' : TypeId} {L : List (Addr × Value)} {g n : Nat}
theorem alloc_mine {zs : List Value} (hA : ∀ w, (Instr.alloc T true (.tuple #[])).run P w = .ok (.pointer (some ⟨w.heap.size, 0, none⟩)) (w.alloc (.cells zs.toArray T))) (hn : zs.length = n) (hk : Kn w0 L w)
    (k : ∀ g W, KnM w0 L g n W → Below w.heap.size w W → w.heap.size ≤ g → K (.pointer (some ⟨g, 0, none⟩)) W) : oM P (.alloc T) T' [] K w := by
  rw [oM_alloc, hA]
  have hb := (Below.refl w.heap.size w).alloc (Nat.le_refl _) (.cells zs.toArray T)
  refine k _ _ ⟨hk.next hb, ⟨zs.toArray, T, ?_, by simpa using hn⟩, hk.below.size, fun p hp => ?_⟩ hb (Nat.le_refl _)
  · show (w.heap.push _)[w.heap.size]? = _
    simp
  · have := cells_lt hk.cells p hp
    omega
theorem store_run {x : Value} {xs : List Value} {W : World} (hT : ∀ w, (sizeOf T).run P w = .ok n w) (hx : x.cells = xs.toArray) (hl : xs.length = n) (h1 : ∀ u ∈ xs, u.oneCell' = true) (hm : Mine w g n) :
    ∃ W, (Instr.storeAt T (.pointer (some ⟨g, 0, none⟩)) x).run P w = .ok () W ∧ w.grownBy W (some g) ∧ Mine W g n ∧ cellsAre W (cellsOf [] g 0 xs) := by
  obtain ⟨cur, T0, hg, hc⟩ := hm
  have hst := run_storeCells_at P g 0 T0 xs 0 cur w hg (by omega) h1
  have e1 : (cur.toList.take (0 + 0) ++ xs ++ cur.toList.drop (0 + 0 + xs.length)).toArray = xs.toArray := by
    rw [List.drop_of_length_le (by simp; omega)]
    simp
  rw [e1] at hst
  have hh := setRow_heap w g cur xs.toArray T0 (0, 0) hg
  refine ⟨w.setRow g xs.toArray, ?_, grown_setRow _ _ _, ⟨_, _, hh, by simpa using hl⟩, cellsOf_are (xs := xs) (L := []) trivial (fun i v hi => ?_) xs 0 rfl⟩
  · have e2 : x.cells.toList = xs := by rw [hx]
    have e3 : x.cells.size = n := by rw [hx]; simpa using hl
    unfold Instr.storeAt storeVar
    rw [e2, e3]
    simp [hT, go_sem]
    exact hst
  · unfold World.cell?
    rw [hh]
    simpa using hi
theorem store_mine {x : Value} {xs : List Value} (hT : ∀ w, (sizeOf T).run P w = .ok n w) (hx : x.cells = xs.toArray) (hl : xs.length = n) (h1 : ∀ u ∈ xs, u.oneCell' = true) (hk : KnM w0 L g n w)
    (k : ∀ W, KnM w0 L g n W → cellsAre W (cellsOf [] g 0 xs) → K undef W) : oM P (.store T (.tmp 0) (.tmp 1)) T' [.pointer (some ⟨g, 0, none⟩), x] K w := by
  obtain ⟨W, e, hg, hm, hc⟩ := store_run (W := w) hT hx hl h1 hk.mine
  rw [oM_store, e]
  exact k W ⟨hk.kn.wrote hg hk.base hk.off, hm, hk.base, hk.off⟩ hc
theorem local_kn {zs : List Value} {x : Value} {xs : List Value} {T2 : TypeId} {K : Value → World → Prop} (hA : ∀ w, (Instr.alloc T true (.tuple #[])).run P w = .ok (.pointer (some ⟨w.heap.size, 0, none⟩)) (w.alloc (.cells zs.toArray T))) (hn : zs.length = n)
    (hT : ∀ w, (sizeOf T).run P w = .ok n w) (hx : x.cells = xs.toArray) (hl : xs.length = n) (h1 : ∀ u ∈ xs, u.oneCell' = true) (hk : Kn w0 L w)
    (k : ∀ b W, Kn w0 (cellsOf L b 0 xs) W → Below w.heap.size w W → w.heap.size ≤ b → K (.pointer (some ⟨b, 0, none⟩)) W) :
    oM P (.alloc T) T' [] (fun v w => oM P (.store T (.tmp 0) (.tmp 1)) T2 [v, x] (fun _ w => K v w) w) w := by
  refine alloc_mine hA hn hk fun g W hk2 hb hg => ?_
  obtain ⟨W2, e, hgr, hm, hc⟩ := store_run (W := w) hT hx hl h1 hk2.mine
  rw [oM_store, e]
  have hb2 : Below w.heap.size w W2 := hb.grown hgr hb.size (fun k hk => by cases hk; exact hg)
  refine k g W2 ⟨(hk2.kn.wrote hgr hk2.base hk2.off).below, ?_⟩ hb2 hg
  have hL := (hk2.kn.wrote hgr hk2.base hk2.off).cells
  clear e k
  have : ∀ (l : List Value) (i : Nat), cellsAre W2 (cellsOf [] g i l) → cellsAre W2 (cellsOf L g i l) := by
    intro l
    induction l with
    | nil => intro i _; exact hL
    | cons a l ih => intro i h; exact ⟨h.1, ih (i + 1) h.2⟩
  exact this xs 0 hc
theorem local_knm {zs : List Value} {x : Value} {xs : List Value} {T2 : TypeId} {K : Value → World → Prop} {m : Nat} (hA : ∀ w, (Instr.alloc T true (.tuple #[])).run P w = .ok (.pointer (some ⟨w.heap.size, 0, none⟩)) (w.alloc (.cells zs.toArray T))) (hn : zs.length = m)
    (hT : ∀ w, (sizeOf T).run P w = .ok m w) (hx : x.cells = xs.toArray) (hl : xs.length = m) (h1 : ∀ u ∈ xs, u.oneCell' = true) (hk : KnM w0 L g n w)
    (k : ∀ b W, KnM w0 (cellsOf L b 0 xs) g n W → Below w.heap.size w W → w.heap.size ≤ b → K (.pointer (some ⟨b, 0, none⟩)) W) :
    oM P (.alloc T) T' [] (fun v w => oM P (.store T (.tmp 0) (.tmp 1)) T2 [v, x] (fun _ w => K v w) w) w :=
  local_kn hA hn hT hx hl h1 hk.kn fun b W hk' h1 h2 => k b W ⟨hk', hk.mine.next h1, hk.base, fun p hp => (cellsOf_mem xs 0 p hp).elim (fun e => by have := mine_lt hk.mine; omega) (hk.off p)⟩ h1 h2
variable {C : World → Prop} {KQ : Value → Prop} {x y v : Value} {p : Prop} [Decidable p]
theorem idOH {o : Op} {l : List Value} (h : oH P o T l C KQ) : oH P o T l C KQ := h
theorem idGdH {c : Bool} {m : (World → Prop) → (Value → Prop) → Prop} (h : gdH c m C KQ) : gdH c m C KQ := h
theorem gdH_conv {c : Bool} {m : (World → Prop) → (Value → Prop) → Prop} (h : ∀ W0, gdM c (fun K' w => m C (fun v => K' v w)) (fun v _ => KQ v) W0) : gdH c m C KQ := by
  have h := h ⟨#[], default, 0, default, default⟩
  cases c <;> exact h
theorem pickH {b : Bool} (k : KQ (bif b then x else y)) : oH P (.pick (.tmp 0) (.tmp 1) (.tmp 2)) T [.bool b, x, y] C KQ := by
  refine ⟨_, fun w _ => ?_, k⟩
  simp [xop, execOp, evalL, evE, asBool]
theorem pickHT (k : KQ x) : oH P (.pick (.tmp 0) (.tmp 1) (.tmp 2)) T [.bool true, x, y] C KQ := pickH k
theorem pickHF (k : KQ y) : oH P (.pick (.tmp 0) (.tmp 1) (.tmp 2)) T [.bool false, x, y] C KQ := pickH k
theorem vA (k : KQ x) : oH P (.pick (.tmp 0) (.tmp 1) (.tmp 2)) T [.bool true, x, y] C KQ := pickHT k
theorem vB (k : KQ y) : oH P (.pick (.tmp 0) (.tmp 1) (.tmp 2)) T [.bool false, x, y] C KQ := pickHF k
end
end Go.Sh
namespace Go.Proofs
open Go Go.Sh Go.RowKit FdSpec TkSpec
set_option linter.unusedSimpArgs false
set_option linter.unusedVariables false
set_option maxRecDepth 10000
section
variable {K : Value → World → Prop} {w w0 : World} {L : List (Addr × Value)}
theorem sz_desk (w : World) : (sizeOf 116).run Tryz.prog w = .ok 5 w := by kernel_rfl
theorem al_desk (w : World) : (Instr.alloc 116 true (.tuple #[])).run Tryz.prog w = .ok (.pointer (some ⟨w.heap.size, 0, none⟩)) (w.alloc (.cells [.int .i64 0, .int .i64 0, .int .i64 0, .slice none 0 0, .int .i64 0].toArray 116)) := by kernel_rfl
theorem stp_one (s : Stp) (ad : Option Addr) (n c : Nat) : ∀ u ∈ stpC s (.slice ad n c), u.oneCell' = true := by
  intro u hu
  simp only [stpC, List.mem_cons, List.not_mem_nil, or_false] at hu
  rcases hu with rfl | rfl | rfl | rfl | rfl <;> rfl
theorem open_ok (s : Stp) {v : Value} (hs : SetR w s v) (k : ∀ w', Below w.heap.size w w' → K (.tuple #[stpV s v, .bool (validS s)]) w') : callM Tryz.prog 64 #[stpV s v] K w := by
  apply sh_64_ok
  unfold sh_64
  obtain ⟨ad, c, rfl⟩ := hs.ints.isSlice
  refine box_kn (cs := stpC s (.slice ad s.bases.length c)) rfl (.start w) fun b W hk hb1 hb => ?_
  refine alloc_mine al_desk rfl hk fun g W2 hk hb2 hg => ?_
  refine ⟨KnM w _ g 5, hk.drew, ?_⟩
  have hk := hk.drew
  have hone := stp_one s ad s.bases.length c
  repeat (any_goals ((with_reducible refine idOH ?_); (with_reducible refine oH_of ⟨_, rfl⟩ (fun W0 hW0 => by (refine oM_gen (fun Kv hK => ?_)); simp [go_sem, hW0.cells]; (first | exact hK _ _ ⟨rfl, rfl⟩ | exact ⟨by omega, hK _ _ ⟨rfl, rfl⟩⟩)) ?_)))
  refine ⟨?_, ?_⟩
  · repeat (any_goals ((with_reducible refine idO ?_); (with_reducible refine oM_gen fun Kv hK=>?_); simp [go_sem]; refine hK _ _ ?_; clear hK; clear Kv))
    refine ⟨hk, ?_⟩
    refine ValidSetup_ok s (hs.next hk.below) (fun w2 h2 => ?_)
    have hk := hk.next h2
    refine ⟨hk, ?_⟩
    refine store_mine sz_desk rfl rfl hone hk (fun W3 hk hc => ?_)
    exact ⟨hk, hk, _, by simp [go_sem, hc], k _ hk.below⟩
  · refine ValidSetup_ok s (hs.next hk.below) (fun w2 h2 => ?_)
    have hk := hk.next h2
    refine ⟨hk, ?_⟩
    repeat (any_goals ((with_reducible refine idO ?_); (with_reducible refine oM_gen fun Kv hK=>?_); simp [go_sem]; refine hK _ _ ?_; clear hK; clear Kv))
    refine ⟨hk, ?_⟩
    refine store_mine sz_desk rfl rfl hone hk (fun W3 hk hc => ?_)
    exact ⟨hk, hk, _, by simp [go_sem, hc], k _ hk.below⟩
end
end Go.Proofs
set_option linter.all false
namespace Go.Proofs
open Go.Shelf
def Tryz.laysNm2_21_ren : Go.Shelf.Ren := ⟨fun | 21 => 135 | 27 => 180 | 28 => 181 | 35 => 203 | 39 => 221 | n => n, fun | 22 => 22 | 3 => 3 | 4 => 4 | 0 => 0 | n => n, fun | n => n⟩
theorem Tryz.laysNm2_21 : Go.Proofs.Lays2.n21 Tryz.prog Tryz.laysNm2_21_ren := {
  mixed := by kernel_rfl
  f21 := Tryz.func135.trans (congrArg some (by kernel_rfl))
  f27 := Tryz.func180.trans (congrArg some (by kernel_rfl))
  f28 := Tryz.func181.trans (congrArg some (by kernel_rfl))
  f35 := Tryz.func203.trans (congrArg some (by kernel_rfl))
  f39 := Tryz.func221.trans (congrArg some (by kernel_rfl))
  t0 := Tryz.underlying0
  a0 := Tryz.isAgg0
  z0 := Tryz.sizeOf0
  v0 := Tryz.zeroValue0
  t3 := Tryz.underlying3
  a3 := Tryz.isAgg3
  z3 := Tryz.sizeOf3
  v3 := Tryz.zeroValue3
  t4 := Tryz.underlying4
  a4 := Tryz.isAgg4
  z4 := Tryz.sizeOf4
  v4 := Tryz.zeroValue4
  t22 := Tryz.underlying22
  a22 := Tryz.isAgg22
  z22 := Tryz.sizeOf22
  v22 := Tryz.zeroValue22
  i3 := by kernel_rfl }
end Go.Proofs
namespace Go.Proofs
open Go Go.Sh Go.RowKit FdSpec TkSpec
set_option linter.unusedSimpArgs false
set_option linter.unusedVariables false
set_option maxRecDepth 10000
section
variable {K : Value → World → Prop} {w w0 : World} {L : List (Addr × Value)}
theorem eqNil_at {P : Program} {w : World} {K : Value → World → Prop} {t e T : TypeId} {a : Option Addr} {n c : Nat} (ht : P.underlying t = some (.slice e)) (k : K (.bool a.isNone) w) : oM P (.binOp .eql t (.tmp 0) (.const (.slice none 0 0)) t) T [.slice a n c] K w := by
  rw [oM_eqc]
  have := Lib.run_eql_slice_nil (P := P) w t e a n c 0 0 ht
  simp only [Sem.run_bind]
  have h2 : (eqGuard .eql t (.tmp 0) (.const (.slice none 0 0)) (.slice a n c) (.slice none 0 0)).run P w = .ok () w := by
    simp [eqGuard]
  rw [h2, Result.andThen_ok, this]
  exact k
theorem below_set {B : Nat} {a : World} (g : Nat) (hg : B ≤ g) : ∀ (vs : List Value) (o : Nat) (w : World), Below B a w → Below B a (w.setCells g o vs)
  | [], _, _, h => h
  | v :: r, o, w, h => below_set g hg r (o + 1) _ (h.setCell (p := ⟨g, o, none⟩) hg v)
theorem some_set (b : Nat) (vs : List Value) (o : Nat) (w : World) (h : ∀ j, j < vs.length → (w.cell? ⟨b, o + j, none⟩).isSome = true) (k : Nat) (hk : (w.cell? ⟨b, k, none⟩).isSome = true) : ((w.setCells b o vs).cell? ⟨b, k, none⟩).isSome = true := by
  by_cases hin : o ≤ k ∧ k < o + vs.length
  · have := World.cell?_setCells_in b vs o w h (k - o) (by omega)
    rw [show o + (k - o) = k by omega] at this
    rw [this]; rfl
  · rw [World.cell?_setCells_out b vs o w ⟨b, k, none⟩ (fun _ _ => by show k < o ∨ o + vs.length ≤ k; omega)]
    exact hk
theorem shifted1 {w : World} {g : Nat} {x : Value} {cs : List Value} (h : ∀ j, j < cs.length + 1 → (w.cell? ⟨g, j, none⟩).isSome = true) (k : Nat) (v : Value) (hk : (x :: cs)[k]? = some v) : ((w.setCells g 1 cs).setCells g 0 [x]).cell? ⟨g, k, none⟩ = some v := by
  have h1 : ∀ j, j < cs.length → (w.cell? ⟨g, 1 + j, none⟩).isSome = true := fun j hj => h _ (by omega)
  cases k with
  | zero =>
    have := World.cell?_setCells_in g [x] 0 (w.setCells g 1 cs) (fun j hj => by
      have : j = 0 := by simpa using hj
      subst this
      exact some_set g cs 1 w h1 0 (h 0 (by omega))) 0 (by simp)
    rw [this]
    simpa using hk
  | succ k =>
    have hlt : k < cs.length := by
      have := (List.getElem?_eq_some_iff.1 hk).1
      simpa using this
    rw [World.cell?_setCells_out g [x] 0 _ ⟨g, k + 1, none⟩ (fun _ _ => by show k + 1 < 0 ∨ 0 + 1 ≤ k + 1; omega)]
    have := World.cell?_setCells_in g cs 1 w h1 k hlt
    rw [show k + 1 = 1 + k by omega, this, ← hk]
    simp [hlt]
theorem shifted2 {w : World} {g : Nat} {x : Value} {cs : List Value} (h : ∀ j, j < cs.length + 1 → (w.cell? ⟨g, j, none⟩).isSome = true) (k : Nat) (v : Value) (hk : (x :: cs)[k]? = some v) : ((w.setCells g 0 [x]).setCells g 1 cs).cell? ⟨g, k, none⟩ = some v := by
  have h1 : ∀ j, j < [x].length → (w.cell? ⟨g, 0 + j, none⟩).isSome = true := fun j hj => h _ (by simp at hj; omega)
  cases k with
  | zero =>
    rw [World.cell?_setCells_out g cs 1 _ ⟨g, 0, none⟩ (fun _ _ => by show 0 < 1 ∨ 1 + cs.length ≤ 0; omega)]
    have := World.cell?_setCells_in g [x] 0 w h1 0 (by simp)
    rw [this]
    simpa using hk
  | succ k =>
    have hlt : k < cs.length := by
      have := (List.getElem?_eq_some_iff.1 hk).1
      simpa using this
    have := World.cell?_setCells_in g cs 1 (w.setCells g 0 [x]) (fun j hj => some_set g [x] 0 w h1 (1 + j) (h _ (by omega))) k hlt
    rw [show k + 1 = 1 + k by omega, this, ← hk]
    simp [hlt]
theorem Clone_ok {v : Value} {l : List Int} (hr : Ints w v l) (hl : l.length < 1099511627776) (k : ∀ v' w', w'.ownsRow 0 3 1 v' l.length (flat intC l) → Below w.heap.size w w' → (∀ i, v'.ownBlock = some i → w.heap.size ≤ i) → K v' w') : callM Tryz.prog 136 #[v] K w := by
  apply sh_136_ok
  unfold sh_136
  have hi := hr.row
  obtain ⟨ad, c, rfl, h0, hc⟩ := id hi
  refine eqNil_at (e := 3) (by kernel_rfl) ?_
  cases ad with
  | none =>
    obtain ⟨hl0, rfl⟩ := h0 rfl
    obtain rfl : l = [] := List.eq_nil_of_length_eq_zero hl0
    simp only [Option.isNone_none]
    repeat (any_goals (with_reducible ((refine idCond ?_); refine yL ?_)))
    exact k _ _ (World.ownsRow_nil _ _ _ _) (Below.refl _ _) (fun i hi => by cases hi)
  | some a =>
    simp only [Option.isNone_some]
    repeat (any_goals (first
    | (with_reducible ((refine idCond ?_); refine yM ?_))
    | ((with_reducible refine idO ?_); (with_reducible refine oM_gen fun Kv hK=>?_); simp [go_sem]; refine hK _ _ ?_; clear hK; clear Kv)))
    have hr2 : RowR intC 1 (w.alloc (.cells #[] 3)) (.slice (some a) l.length c) l := hi.keep (by rw [alloc_size]; omega) (fun i _ hi => heap_alloc_old _ _ hi)
    refine clone_at 22 22 3 ((Tryz.prog.info? 3).getD default) (.int .i64 0) 1 8 (by kernel_rfl) (by kernel_rfl) (by kernel_rfl) (by kernel_rfl) (by kernel_rfl) (by kernel_rfl) (by omega) (fun _ => rfl) (fun x u hu => by simp [intC] at hu; subst hu; rfl) hr2 (World.ownsRow_lit w #[] 0 (Nat.zero_le _) (Nat.zero_le _) rfl) (B := w.heap.size) (by rw [alloc_size]; omega) (fun i hi => by cases hi; exact Nat.le_refl _) (by omega) (by omega) ?_
    intro v' w' ho hg hv
    exact k v' w' ho (((Below.refl _ _).alloc (Nat.le_refl _) _).grown hg (by rw [alloc_size]; omega) (fun i hi => by cases hi; exact Nat.le_refl _)) hv
theorem Insert_ok {g c : Nat} {l : List Int} {x : Int} {b : Nat} (hne : 0 < l.length) (hl : l.length < 1099511627776) (ho : w.ownsRow 0 3 1 (.slice (some ⟨g, 0, none⟩) l.length c) l.length (flat intC l)) {B : Nat} (hB : B ≤ g) (hBw : B ≤ w.heap.size)
    (hx : w.heap[b]? = some (.cells #[.int .i64 x] 3 (0, 0))) (hbg : b ≠ g) (hr : ∀ n ∈ l, I64 n) (hrx : I64 x) (k : ∀ v' w', Ints w' v' (x :: l) → Below B w w' → (∀ i, Value.inBlock v' = some i → B ≤ i) → K v' w') :
    callM Tryz.prog 135 #[.slice (some ⟨g, 0, none⟩) l.length c, .int .i64 0, .slice (some ⟨b, 0, none⟩) 1 1] K w := by
  obtain ⟨g', cap, cur, hv, hgw, _, hgb, hcs, hcap, hcell⟩ := owns_cells ho hne
  cases hv
  have hxc : ∀ (j : Nat) (v : Value), [Value.int .i64 x][j]? = some v → w.cell? ⟨b, 0 + j, none⟩ = some v := by
    intro j v hj
    rw [cell_of_block hx]
    simpa using hj
  have hcc : ∀ (j : Nat) (v : Value), (flat intC l)[j]? = some v → w.cell? ⟨g, 0 + j, none⟩ = some v := by
    intro j v hj
    rw [Nat.zero_add]
    exact hcell j v hj
  have h1 : ∀ v ∈ flat intC l, v.oneCell' = true := by
    intro v hv
    rw [flat_int] at hv
    obtain ⟨n, _, rfl⟩ := List.mem_map.1 hv
    rfl
  have h1x : ∀ v ∈ [Value.int .i64 x], v.oneCell' = true := by
    intro v hv
    simp at hv
    subst hv
    rfl
  have hfl : (flat intC l).length = l.length := by rw [flat_int]; simp
  have hbw : b < w.heap.size := (Array.getElem?_eq_some_iff.1 hx).1
  have hxx : ∀ n ∈ x :: l, I64 n := by
    intro n hn
    rcases List.mem_cons.1 hn with rfl | hn
    · exact hrx
    · exact hr n hn
  have hlx : (flat intC (x :: l)) = .int .i64 x :: flat intC l := rfl
  have hcm : c ≤ 9223372036854775807 := by
    rcases ho.2 with ⟨h0, _⟩ | ⟨g2, cap2, cur2, hv2, _, _, _, hm2, _⟩
    · cases h0
    · cases hv2
      simp only [maxLen] at hm2
      omega
  by_cases hroom : l.length + 1 ≤ c
  · have hsm : ∀ j, j < l.length + 1 → (w.cell? ⟨g, j, none⟩).isSome = true := by
      intro j hj
      rw [cell_of_block hgb]
      simp
      omega
    have h := Any2.slices_Insert_int_shift Tryz.laysNm2_21 g 0 l.length c 0 b 0 1 1 (flat intC l) [.int .i64 x] w (by omega) (by omega) hroom hcm hbg hfl rfl hcc (fun j hj => by rw [Nat.zero_add]; exact hsm j hj)
      (fun j hj => by unfold World.frozen?; rw [hgb]; simp) hxc h1 h1x 3 3 1 cur.size (by unfold World.shape?; rw [hx]; rfl) (by unfold World.shape?; rw [hgb]) (by omega) (by unfold World.frozen?; rw [hx]; simp) (by unfold World.frozen?; rw [hx]; simp)
    refine Calls.mono h ?_
    rintro e w' ⟨rfl, rfl⟩
    have hb2 : ∀ B' : Nat, B' ≤ g → Below B' w ((w.drew.setCells g (0 + (0 + 1)) (List.drop 0 (flat intC l))).setCells g (0 + 0) [Value.int .i64 x]) := fun B' hB' =>
      below_set g hB' _ _ _ (below_set g hB' _ _ _ (Below.refl _ w).drew)
    refine ⟨_, rfl, k _ _ ⟨⟨_, c, rfl, by simp, .inr ⟨g, 0, rfl, Nat.lt_of_lt_of_le hgw (hb2 0 (Nat.zero_le _)).size, fun j v hj => ?_⟩⟩, hxx, by simp; omega⟩ (hb2 B hB) (fun i hi => by cases hi; exact hB)⟩
    simp only [Nat.zero_add, Nat.add_zero, List.drop_zero]
    rw [hlx] at hj
    exact shifted1 (w := w.drew) (fun j hj => hsm j (by rw [hfl] at hj; exact hj)) j v hj
  · have h := Any2.slices_Insert_int_grow Tryz.laysNm2_21 g 0 l.length c 0 b 0 1 1 (flat intC l) [.int .i64 x] w (by omega) (by omega) (by omega) (by omega) (by omega) hfl rfl hcc hxc h1 h1x
    refine Calls.mono h ?_
    rintro e w' ⟨rfl, rfl⟩
    have hG := grownCap_ge w (l.length + 1) c 3
    have e3 : Tryz.laysNm2_21_ren.t 3 = 3 := rfl
    rw [e3]
    generalize grownCap w (l.length + 1) c 3 = G at *
    simp only [List.take_zero, List.drop_zero, Nat.zero_add, Nat.add_zero, Nat.sub_zero]
    have hsm : ∀ j, j < (flat intC l).length + 1 → ((w.alloc (.cells (([] : List Value).toArray ++ Builtin.zeroCells (Value.int .i64 0).cells (l.length + 1) ++ Builtin.zeroCells (Value.int .i64 0).cells (G - (l.length + 1))) 3)).drew.cell? ⟨w.heap.size, j, none⟩).isSome = true := by
      intro j hj
      rw [hfl] at hj
      have := World.cell?_alloc_at (w := w) (([] : List Value).toArray ++ Builtin.zeroCells (Value.int .i64 0).cells (l.length + 1) ++ Builtin.zeroCells (Value.int .i64 0).cells (G - (l.length + 1))) 3 w.heap.size j rfl
      show (World.cell? _ _).isSome = true
      refine (congrArg Option.isSome this).trans ?_
      rw [Array.getElem?_eq_getElem (by simp [Builtin.zeroCells, Value.cells]; omega)]
      rfl
    generalize hW : w.alloc (.cells (([] : List Value).toArray ++ Builtin.zeroCells (Value.int .i64 0).cells (l.length + 1) ++ Builtin.zeroCells (Value.int .i64 0).cells (G - (l.length + 1))) 3) = W at *
    have hbW : Below w.heap.size w W := by rw [← hW]; exact (Below.refl _ w).alloc (Nat.le_refl _) _
    have hWs : w.heap.size < W.heap.size := by rw [← hW, alloc_size]; omega
    have hb2 : Below w.heap.size w (((W.drew.setCells w.heap.size 0 [Value.int .i64 x]).drew).setCells w.heap.size 1 (flat intC l)) :=
      below_set _ (Nat.le_refl _) _ _ _ (below_set _ (Nat.le_refl _) _ _ _ hbW.drew).drew
    have hs2 : w.heap.size < (((W.drew.setCells w.heap.size 0 [Value.int .i64 x]).drew).setCells w.heap.size 1 (flat intC l)).heap.size :=
      Nat.lt_of_lt_of_le hWs (below_set w.heap.size (Nat.zero_le _) _ _ _ (below_set w.heap.size (Nat.zero_le _) _ _ _ (Below.refl 0 W).drew).drew).size
    refine ⟨_, rfl, k _ _ ⟨⟨_, G, rfl, by simp, .inr ⟨_, 0, rfl, hs2, fun j v hj => ?_⟩⟩, hxx, by simp; omega⟩ (hb2.mono hBw) (fun i hi => by cases hi; exact hBw)⟩
    rw [Nat.zero_add]
    rw [hlx] at hj
    rw [drew_setCells]
    exact shifted2 (w := W.drew.drew) (g := w.heap.size) (x := .int .i64 x) (cs := flat intC l) hsm j v hj
end
end Go.Proofs
namespace Go.Proofs
open Go Go.Sh Go.RowKit FdSpec TkSpec
set_option linter.unusedSimpArgs false
set_option linter.unusedVariables false
set_option maxRecDepth 10000
section
variable {K : Value → World → Prop} {w w0 : World} {L : List (Addr × Value)}
theorem exps_ok {v : Value} {l : List Int} (hl : Ints w v l) (hne : 0 < l.length) (hln : l.length < 1099511627776) (k : ∀ v' w', Ints w' v' (expsM l) → Below w.heap.size w w' → (∀ i, Value.inBlock v' = some i → w.heap.size ≤ i) → K v' w') : callM Tryz.prog 69 #[v] K w := by
  apply sh_69_ok
  unfold sh_69
  refine Clone_ok hl hln (fun v1 w1 ho hb hv => ?_)
  obtain ⟨g, cap, cur, rfl, hgw, _, hgb, hcs, hcap, hcell⟩ := owns_cells ho hne
  have hg := hv g rfl
  have e : (Instr.buildSlice 22 1 #[(0, .int .i64 1)]).run Tryz.prog w1 = .ok (.slice (some ⟨w1.heap.size, 0, none⟩) 1 1) (w1.alloc (.cells #[.int .i64 1] 3)) := by kernel_rfl
  rw [oM_buildSlice1, e, rM_ok]
  have hb2 := (Below.refl w1.heap.size w1).alloc (Nat.le_refl _) (.cells #[.int .i64 1] 3)
  refine Insert_ok (x := 1) (B := w.heap.size) hne hln (ho.alloc _) hg (by rw [alloc_size]; have := hb.size; omega) (b := w1.heap.size) (by show (w1.heap.push _)[w1.heap.size]? = _; exact Array.getElem?_push_size) (by omega) hl.rng (by unfold I64; omega) (fun v' w' hi hbb hff => ?_)
  exact k _ _ hi ((hb.on hb2).trans hbb) hff
theorem markM_no {s : Stp} {l : List Int} (h : validS s = false ∨ l.length + 1 ≠ s.bases.length ∨ numsM s 0 l = false ∨ l.headD 0 = 0) : markM s l = (0, false) := by
  unfold markM
  rw [if_neg]
  intro hc
  simp only [Bool.and_eq_true, decide_eq_true_eq, Bool.not_eq_true', decide_eq_false_iff_not] at hc
  obtain ⟨⟨⟨h1, h2⟩, h3⟩, h4⟩ := hc
  rcases h with h | h | h | h
  · rw [h] at h1; cases h1
  · exact h h2
  · rw [h] at h3; cases h3
  · exact h4 h
theorem markM_yes {s : Stp} {l : List Int} (h1 : validS s = true) (h2 : l.length + 1 = s.bases.length) (h3 : numsM s 0 l = true) (h4 : l.headD 0 ≠ 0) : markM s l = ((prodG s.g s.bases (expsM l)).1, true) := by
  unfold markM
  rw [if_pos]
  simp only [Bool.and_eq_true, decide_eq_true_eq, Bool.not_eq_true', decide_eq_false_iff_not]
  exact ⟨⟨⟨h1, h2⟩, h3⟩, h4⟩
theorem local_desk {K : Value → World → Prop} {T' T2 : TypeId} {g n : Nat} (s : Stp) (ad : Option Addr) (m c : Nat) (hk : KnM w0 L g n w)
    (k : ∀ b W, KnM w0 (cellsOf L b 0 (stpC s (.slice ad m c))) g n W → Below w.heap.size w W → w.heap.size ≤ b → K (.pointer (some ⟨b, 0, none⟩)) W) :
    oM Tryz.prog (.alloc 116) T' [] (fun v w => oM Tryz.prog (.store 116 (.tmp 0) (.tmp 1)) T2 [v, stpV s (.slice ad m c)] (fun _ w => K v w) w) w :=
  local_knm al_desk rfl sz_desk rfl rfl (stp_one s ad m c) hk k
theorem local_desk' {K : Value → World → Prop} {T' T2 : TypeId} (s : Stp) (ad : Option Addr) (m c : Nat) (hk : Kn w0 L w)
    (k : ∀ b W, Kn w0 (cellsOf L b 0 (stpC s (.slice ad m c))) W → Below w.heap.size w W → w.heap.size ≤ b → K (.pointer (some ⟨b, 0, none⟩)) W) :
    oM Tryz.prog (.alloc 116) T' [] (fun v w => oM Tryz.prog (.store 116 (.tmp 0) (.tmp 1)) T2 [v, stpV s (.slice ad m c)] (fun _ w => K v w) w) w :=
  local_kn al_desk rfl sz_desk rfl rfl (stp_one s ad m c) hk k
theorem validS_len {s : Stp} (h : validS s = true) : 2 ≤ s.bases.length ∧ s.bases.length ≤ 7 := by
  unfold validS at h
  simp only [Bool.and_eq_true, decide_eq_true_eq] at h
  exact ⟨h.1.1.1.2, h.1.1.2⟩
theorem store_desk {K : Value → World → Prop} {T' : TypeId} {g : Nat} (s : Stp) (ad : Option Addr) (m c : Nat) (hk : KnM w0 L g 5 w)
    (k : ∀ W, KnM w0 L g 5 W → cellsAre W (cellsOf [] g 0 (stpC s (.slice ad m c))) → K undef W) : oM Tryz.prog (.store 116 (.tmp 0) (.tmp 1)) T' [.pointer (some ⟨g, 0, none⟩), stpV s (.slice ad m c)] K w :=
  store_mine sz_desk rfl rfl (stp_one s ad m c) hk k
theorem _root_.Go.Sh.Ints.headD {w : World} {ad : Option Addr} {n c : Nat} {l : List Int} (h : Ints w (.slice ad n c) l) (hne : 0 < l.length) :
    ∃ b o, ad = some ⟨b, o, none⟩ ∧ (∀ w', Below w.heap.size w w' → w'.cell? ⟨b, o, none⟩ = some (.int .i64 (l.headD 0))) ∧ I64 (l.headD 0) := by
  obtain ⟨b, o, rfl, _, hc, hr, _⟩ := h.at hne
  have e : l[0] = l.headD 0 := by
    cases l with
    | nil => simp at hne
    | cons a l => rfl
  rw [e] at hc hr
  exact ⟨b, o, rfl, fun w' hb => by have := hc w' hb; simpa using this, hr⟩
theorem mark_ok (s : Stp) {v lv : Value} {l : List Int} (hs : SetR w s v) (hl : Ints w lv l) (k : ∀ w', Below w.heap.size w w' → K (.tuple #[stpV s v, .int .i64 (markM s l).1, .bool (markM s l).2]) w') : callM Tryz.prog 134 #[stpV s v, lv] K w := by
  apply sh_134_ok
  unfold sh_134
  obtain ⟨ad, c, rfl⟩ := hs.ints.isSlice
  have hone := stp_one s ad s.bases.length c
  have k2 : ∀ w' r, markM s l = r → Below w.heap.size w w' → K (.tuple #[stpV s (.slice ad s.bases.length c), .int .i64 r.1, .bool r.2]) w' := fun w' r e hb => by rw [← e]; exact k w' hb
  clear k
  refine box_kn (cs := stpC s (.slice ad s.bases.length c)) rfl (.start w) fun b W hk hb1 hb => ?_
  refine alloc_mine al_desk rfl hk fun g W2 hk hb2 hg => ?_
  repeat (any_goals ((with_reducible refine idO ?_); (with_reducible refine oM_gen fun Kv hK=>?_); simp [go_sem, hk.cells]; refine hK _ _ ?_; clear hK; clear Kv))
  refine open_ok s (hs.next hk.below) (fun w2 h2 => ?_)
  have hk := hk.next h2
  clear h2 hb1 hb2
  have hll := hl.len
  have hbl := hs.ints.len
  obtain ⟨lad, lc, rfl⟩ := hl.isSlice
  cases hv : validS s with
  | false =>
    repeat (any_goals (first
    | ((with_reducible refine local_desk s ad s.bases.length c hk ?_); intro b7 W7 hk hb7 hg7)
    | (with_reducible first|((refine idGd ?_); refine zD ?_)|((refine idPick ?_); refine yB ?_)|((refine idCond ?_); refine yL ?_))
    | ((with_reducible refine idO ?_); (with_reducible refine oM_gen fun Kv hK=>?_); simp [go_sem, hk.cells]; refine hK _ _ ?_; clear hK; clear Kv)))
    refine store_desk s ad _ c hk (fun W3 hk hc => ⟨_, by simp [go_sem, hc], k2 _ _ (markM_no (.inl hv)) hk.below⟩)
  | true =>
    have hlen := validS_len hv
    repeat (any_goals (first
    | ((with_reducible refine local_desk s ad s.bases.length c hk ?_); intro b7 W7 hk hb7 hg7)
    | (with_reducible first|refine pureM_in ?_|((refine idGd ?_); first|refine zC ?_|refine zD ?_|((refine idGdN ?_); first|refine zO ?_|refine zP ?_|refine zQ (fun hg=>?_) fun hg=>?_))|((refine idPick ?_); first|refine yB ?_|refine yC ?_|refine yF ?_)|((refine idCond ?_); refine yL ?_))
    | ((with_reducible refine idO ?_); (with_reducible refine oM_gen fun Kv hK=>?_); simp [go_sem, hk.cells]; (try simp (disch := omega) only [wrapI64, wrapU8, wrapU32, wrapU64]); refine hK _ _ ?_; clear hK; clear Kv)))
    · refine nums_ok s 0 (hs.next hk.below) (hl.next hk.below) (fun w3 h3 => ?_)
      have hk := hk.next h3
      obtain ⟨b8, o8, rfl, c8, r8⟩ := hl.headD (by omega)
      obtain ⟨x0, hx0⟩ : ∃ x0, l.headD 0 = x0 := ⟨_, rfl⟩
      rw [hx0] at c8 r8
      cases hn : numsM s 0 l with
      | false =>
        repeat (any_goals (first
        | (with_reducible first|((refine idGd ?_); first|refine zD ?_|((refine idGdN ?_); refine zO ?_))|((refine idPick ?_); first|refine yB ?_|refine yG ?_)|((refine idCond ?_); refine yL ?_))
        | ((with_reducible refine idO ?_); (with_reducible refine oM_gen fun Kv hK=>?_); simp [go_sem, hk.cells]; refine hK _ _ ?_; clear hK; clear Kv)))
        refine store_desk s ad _ c hk (fun W3 hk hc => ⟨_, by simp [go_sem, hc], k2 _ _ (markM_no (.inr (.inr (.inl hn)))) hk.below⟩)
      | true =>
        by_cases h0 : x0 = 0
        · repeat (any_goals (first
          | (with_reducible first|refine pureM_in ?_|((refine idGd ?_); first|refine zC ?_|((refine idGdN ?_); refine zO ?_))|((refine idPick ?_); first|refine yC ?_|refine yG ?_)|((refine idCond ?_); refine yL ?_))
          | ((with_reducible refine idO ?_); (with_reducible refine oM_gen fun Kv hK=>?_); simp [go_sem, hk.cells, c8 _ hk.below, h0]; (first|refine hK _ _ ?_|refine And.intro (by omega) (hK _ _ ?_)); clear hK; clear Kv)))
          refine store_desk s ad _ c hk (fun W3 hk hc => ⟨_, by simp [go_sem, hc], k2 _ _ (markM_no (.inr (.inr (.inr (hx0.trans h0))))) hk.below⟩)
        · repeat (any_goals (first
          | (with_reducible first|refine pureM_in ?_|((refine idGd ?_); first|refine zC ?_|((refine idGdN ?_); refine zO ?_))|((refine idPick ?_); first|refine yC ?_|refine yG ?_)|((refine idCond ?_); refine yM ?_))
          | ((with_reducible refine idO ?_); (with_reducible refine oM_gen fun Kv hK=>?_); simp [go_sem, hk.cells, c8 _ hk.below, h0]; (first|refine hK _ _ ?_|refine And.intro (by omega) (hK _ _ ?_)); clear hK; clear Kv)))
          have em := markM_yes hv (by omega) hn (by rw [hx0]; exact h0)
          refine ⟨KnM w _ g 5, hk.drew, ?_⟩
          have hk := hk.drew
          repeat (any_goals (first
          | (with_reducible refine pureH_in ?_)
          | ((with_reducible refine idOH ?_); (with_reducible refine oH_of ⟨_, rfl⟩ (fun W0 hW0 => by (refine oM_gen (fun Kv hK => ?_)); simp [go_sem, hW0.cells]; (first | exact hK _ _ ⟨rfl, rfl⟩ | exact ⟨by omega, hK _ _ ⟨rfl, rfl⟩⟩)) ?_))))
          refine exps_ok (hl.next hk.below) (by omega) (by omega) (fun ev w4 he h4 _ => ?_)
          have hk := hk.next h4
          refine ⟨hk, ?_⟩
          refine product_t_ok s (hs.next hk.below) he (fun w5 h5 => ?_)
          have hk := hk.next h5
          refine ⟨hk, ?_⟩
          refine store_desk s ad _ c hk (fun W3 hk hc => ⟨hk, hk, hk, _, by simp [go_sem, hc], k2 _ _ em hk.below⟩)
    · refine store_desk s ad _ c hk (fun W3 hk hc => ⟨_, by simp [go_sem, hc], k2 _ _ (markM_no (.inr (.inl (by omega)))) hk.below⟩)
theorem usable_ok (s : Stp) {v lv : Value} {l : List Int} (hs : SetR w s v) (hl : Ints w lv l) (k : ∀ w', Below w.heap.size w w' → K (.tuple #[stpV s v, .int .i64 (usableM s l).1, .bool (usableM s l).2]) w') : callM Tryz.prog 67 #[stpV s v, lv] K w := by
  apply sh_67_ok
  unfold sh_67
  obtain ⟨ad, c, rfl⟩ := hs.ints.isSlice
  refine box_kn (cs := stpC s (.slice ad s.bases.length c)) rfl (.start w) fun b W hk hb1 hb => ?_
  refine alloc_mine al_desk rfl hk fun g W2 hk hb2 hg => ?_
  repeat (any_goals ((with_reducible refine idO ?_); (with_reducible refine oM_gen fun Kv hK=>?_); simp [go_sem, hk.cells]; refine hK _ _ ?_; clear hK; clear Kv))
  refine mark_ok s (hs.next hk.below) (hl.next hk.below) (fun w2 h2 => ?_)
  have hk := hk.next h2
  clear h2 hb1 hb2
  unfold usableM at k
  obtain ⟨⟨m, u⟩, hm⟩ : ∃ x, markM s l = x := ⟨_, rfl⟩
  rw [hm] at k ⊢
  simp only at k ⊢
  cases u with
  | false =>
    repeat (any_goals (first
    | ((with_reducible refine local_desk s ad s.bases.length c hk ?_); intro b7 W7 hk hb7 hg7)
    | (with_reducible first|((refine idGd ?_); refine zB ?_)|((refine idPick ?_); refine yC ?_))
    | ((with_reducible refine idO ?_); (with_reducible refine oM_gen fun Kv hK=>?_); simp [go_sem, hk.cells]; refine hK _ _ ?_; clear hK; clear Kv)))
    refine store_desk s ad _ c hk (fun W3 hk hc => ⟨_, by simp [go_sem, hc], k _ hk.below⟩)
  | true =>
    repeat (any_goals (first
    | ((with_reducible refine local_desk s ad s.bases.length c hk ?_); intro b7 W7 hk hb7 hg7)
    | (with_reducible first|refine pureM_in ?_|((refine idGd ?_); refine zA ?_)|((refine idPick ?_); refine yB ?_))
    | ((with_reducible refine idO ?_); (with_reducible refine oM_gen fun Kv hK=>?_); simp [go_sem, hk.cells]; refine hK _ _ ?_; clear hK; clear Kv)))
    refine store_desk s ad _ c hk (fun W3 hk hc => ⟨stpV s (.slice ad s.bases.length c), by simp [go_sem, hc], by simpa using k _ hk.below⟩)
end
end Go.Proofs
namespace Go.Proofs
open Go Go.Sh Go.RowKit FdSpec TkSpec
set_option linter.unusedSimpArgs false
set_option linter.unusedVariables false
set_option maxRecDepth 10000
theorem I64_of {x n : Int} (h : 0 ≤ x ∧ x < n) (hn : okN n) : I64 x := by unfold I64; unfold okN at hn; omega
theorem I64_0 : I64 0 := by unfold I64; omega
theorem mulM_I64 (n a b : Int) : I64 (mulM n a b) := by
  by_cases hn : okN n
  · exact I64_of (mulM_range n a b hn) hn
  · unfold mulM; rw [if_neg hn]; exact I64_0
theorem addM_I64 (n a b : Int) : I64 (addM n a b) := by
  by_cases hn : okN n
  · exact I64_of (addM_range n a b hn) hn
  · unfold addM; rw [if_neg hn]; exact I64_0
theorem subM_I64 (n a b : Int) : I64 (subM n a b) := by
  by_cases hn : okN n
  · exact I64_of (subM_range n a b hn) hn
  · unfold subM; rw [if_neg hn]; exact I64_0
theorem powM_I64 (n a b : Int) : I64 (powM n a b) := by
  by_cases hn : okN n
  · have h1 : 0 < n := by unfold okN at hn; omega
    unfold powM; rw [if_pos hn]
    split
    · exact I64_of (pw_nonneg n a _ h1) hn
    · split
      · exact I64_of (pw_nonneg n _ _ h1) hn
      · exact I64_0
  · unfold powM; rw [if_neg hn]; exact I64_0
theorem powerG_I64 (g : Grp) (x k : Int) : I64 (powerG g x k) := by
  unfold powerG
  split
  · rename_i h
    exact I64_of (pw_nonneg g.P x _ (by have := h.1; unfold okN at this; omega)) h.1
  · exact I64_0
theorem timesG_I64 (g : Grp) (a b : Int) : I64 (timesG g a b) := by
  unfold timesG
  split
  · exact mulM_I64 _ _ _
  · exact I64_0
theorem mulQ_I64 (s : Stp) (x : Int) (l : List Int) (h : l ≠ []) : I64 (mulQ s x l) := by
  unfold mulQ
  obtain ⟨l', y, rfl⟩ : ∃ l' y, l = l' ++ [y] := ⟨l.dropLast, l.getLast h, (List.dropLast_concat_getLast h).symm⟩
  rw [List.foldl_append]
  exact mulM_I64 _ _ _
section
variable {K : Value → World → Prop} {w w0 : World} {L : List (Addr × Value)}
theorem mk5 {T : TypeId} (a b c d e : Int) (ha : I64 a) (hb : I64 b) (hc : I64 c) (hd : I64 d) (he : I64 e) (k : ∀ v W, Below w.heap.size w W → Ints W v [a, b, c, d, e] → K v W) : oM Tryz.prog (.buildSlice 22 5 #[(0, .tmp 0), (1, .tmp 1), (2, .tmp 2), (3, .tmp 3), (4, .tmp 4)]) T [.int .i64 a, .int .i64 b, .int .i64 c, .int .i64 d, .int .i64 e] K w := by
  rw [rM_of (S := Instr.buildSlice 22 5 #[(0, .int .i64 a), (1, .int .i64 b), (2, .int .i64 c), (3, .int .i64 d), (4, .int .i64 e)]) (by simp [xop, execOp, evalL, evE])]
  have e : (Instr.buildSlice 22 5 #[(0, .int .i64 a), (1, .int .i64 b), (2, .int .i64 c), (3, .int .i64 d), (4, .int .i64 e)]).run Tryz.prog w = .ok (.slice (some ⟨w.heap.size, 0, none⟩) 5 5) (w.alloc (.cells #[.int .i64 a, .int .i64 b, .int .i64 c, .int .i64 d, .int .i64 e] 3)) := by kernel_rfl
  rw [e]
  exact k _ _ ((Below.refl _ w).alloc (Nat.le_refl _) _) (ints_alloc w [a, b, c, d, _] _ 5 (by simp; exact ⟨ha, hb, hc, hd, he⟩) (by simp))
theorem over_ok (s : Stp) (x y : Int) {dv : Value} (hs : SetR w s dv) (k : ∀ w', Below w.heap.size w w' → K (.int .i64 (overQ s x y)) w') : callM Tryz.prog 74 #[stpV s dv, .int .i64 x, .int .i64 y] K w := by
  apply sh_74_ok
  unfold sh_74
  obtain ⟨ad, c, rfl⟩ := hs.ints.isSlice
  refine box_kn (cs := stpC s (.slice ad s.bases.length c)) rfl (.start w) fun b W hk hb1 hb => ?_
  refine ⟨Kn w _, hk.drew, ?_⟩
  have hk := hk.drew
  repeat (any_goals (first
  | (with_reducible refine pureH_in ?_)
  | ((with_reducible refine idOH ?_); (with_reducible refine oH_of ⟨_, rfl⟩ (fun W0 hW0 => by (refine oM_gen (fun Kv hK => ?_)); simp [go_sem, hW0.cells]; (first | exact hK _ _ ⟨rfl, rfl⟩ | exact ⟨by omega, hK _ _ ⟨rfl, rfl⟩⟩)) ?_))))
  refine Pow_ok _ _ _ (by omega) (fun w2 h2 => ?_)
  have hk := hk.next h2
  refine ⟨hk, mk1 _ (powM_I64 _ _ _) (fun v w3 h3 hi => ?_)⟩
  have hk := hk.next h3
  refine ⟨hk, mul_ok s x (hs.next hk.below) hi (fun w4 h4 => ?_)⟩
  have hk := hk.next h4
  exact ⟨hk, hk, k _ hk.below⟩
theorem Mark_ok (s : Stp) {v lv : Value} {l : List Int} (hs : SetR w s v) (hl : Ints w lv l) (k : ∀ w', Below w.heap.size w w' → K (.int .i64 (markM s l).1) w') : callM Tryz.prog 80 #[stpV s v, lv] K w := by
  apply sh_80_ok
  unfold sh_80
  obtain ⟨ad, c, rfl⟩ := hs.ints.isSlice
  refine box_kn (cs := stpC s (.slice ad s.bases.length c)) rfl (.start w) fun b W hk hb1 hb => ?_
  repeat (any_goals ((with_reducible refine idO ?_); (with_reducible refine oM_gen fun Kv hK=>?_); simp [go_sem, hk.cells]; refine hK _ _ ?_; clear hK; clear Kv))
  refine mark_ok s (hs.next hk.below) (hl.next hk.below) (fun w2 h2 => ?_)
  have hk := hk.next h2
  repeat (any_goals (first
  | ((with_reducible refine local_desk' s ad s.bases.length c hk ?_); intro b7 W7 hk hb7 hg7)
  | ((with_reducible refine idO ?_); (with_reducible refine oM_gen fun Kv hK=>?_); simp [go_sem, hk.cells]; refine hK _ _ ?_; clear hK; clear Kv)))
  exact k _ hk.below
theorem Usable_ok (s : Stp) {v lv : Value} {l : List Int} (hs : SetR w s v) (hl : Ints w lv l) (k : ∀ w', Below w.heap.size w w' → K (.bool (usableM s l).2) w') : callM Tryz.prog 81 #[stpV s v, lv] K w := by
  apply sh_81_ok
  unfold sh_81
  obtain ⟨ad, c, rfl⟩ := hs.ints.isSlice
  refine box_kn (cs := stpC s (.slice ad s.bases.length c)) rfl (.start w) fun b W hk hb1 hb => ?_
  repeat (any_goals ((with_reducible refine idO ?_); (with_reducible refine oM_gen fun Kv hK=>?_); simp [go_sem, hk.cells]; refine hK _ _ ?_; clear hK; clear Kv))
  refine usable_ok s (hs.next hk.below) (hl.next hk.below) (fun w2 h2 => ?_)
  have hk := hk.next h2
  repeat (any_goals (first
  | ((with_reducible refine local_desk' s ad s.bases.length c hk ?_); intro b7 W7 hk hb7 hg7)
  | ((with_reducible refine idO ?_); (with_reducible refine oM_gen fun Kv hK=>?_); simp [go_sem, hk.cells]; refine hK _ _ ?_; clear hK; clear Kv)))
  exact k _ hk.below
theorem Public_ok (s : Stp) (x : Int) {v : Value} (hx : I64 x) (hs : SetR w s v) (k : ∀ w', Below w.heap.size w w' → K (.int .i64 (publicM s x)) w') : callM Tryz.prog 13 #[stpV s v, .int .i64 x] K w := by
  apply sh_13_ok
  unfold sh_13
  obtain ⟨ad, c, rfl⟩ := hs.ints.isSlice
  refine box_kn (cs := stpC s (.slice ad s.bases.length c)) rfl (.start w) fun b W hk hb1 hb => ?_
  have k2 : ∀ w' r, publicM s x = r → Below w.heap.size w w' → K (.int .i64 r) w' := fun w' r e hb => by rw [← e]; exact k w' hb
  clear k
  unfold publicM at k2
  repeat (any_goals ((with_reducible refine idO ?_); (with_reducible refine oM_gen fun Kv hK=>?_); simp [go_sem, hk.cells]; refine hK _ _ ?_; clear hK; clear Kv))
  refine open_ok s (hs.next hk.below) (fun w2 h2 => ?_)
  have hk := hk.next h2
  clear hb1 h2
  cases hv : validS s with
  | false =>
    repeat (any_goals (first
    | ((with_reducible refine local_desk' s ad s.bases.length c hk ?_); intro b7 W7 hk hb7 hg7)
    | (with_reducible first|((refine idGd ?_); refine zB ?_)|((refine idPick ?_); refine yC ?_)|((refine idCond ?_); refine yM ?_))
    | ((with_reducible refine idO ?_); (with_reducible refine oM_gen fun Kv hK=>?_); simp [go_sem, hk.cells]; refine hK _ _ ?_; clear hK; clear Kv)))
    exact k2 _ _ (by rw [hv]; rfl) hk.below
  | true =>
    repeat (any_goals (first
    | ((with_reducible refine local_desk' s ad s.bases.length c hk ?_); intro b7 W7 hk hb7 hg7) | ((with_reducible refine mk1 x hx ?_); intro v8 W8 hb8 hi)
    | (with_reducible first|refine pureM_in ?_|((refine idGd ?_); refine zA ?_))
    | ((with_reducible refine idO ?_); (with_reducible refine oM_gen fun Kv hK=>?_); simp [go_sem, hk.cells]; refine hK _ _ ?_; clear hK; clear Kv)))
    have hk := hk.next hb8
    refine nums_ok s 1 (hs.next hk.below) hi (fun w3 h3 => ?_)
    have hk := hk.next h3
    cases hn : numsM s 1 [x] with
    | false =>
      repeat (any_goals (with_reducible first|((refine idPick ?_); refine yB ?_)|((refine idCond ?_); refine yM ?_)))
      exact k2 _ _ (by rw [hv, hn]; rfl) hk.below
    | true =>
      repeat (any_goals (first
      | (with_reducible first|((refine idPick ?_); refine yB ?_)|((refine idCond ?_); refine yL ?_))
      | ((with_reducible refine idO ?_); (with_reducible refine oM_gen fun Kv hK=>?_); simp [go_sem, hk.cells]; refine hK _ _ ?_; clear hK; clear Kv)))
      refine generated_ok s x (hs.next hk.below) (fun w4 h4 => ?_)
      have hk := hk.next h4
      exact k2 _ _ (by rw [hv, hn]; rfl) hk.below
theorem Grant_ok (s : Stp) (x y z : Int) {v : Value} (hx : I64 x) (hy : I64 y) (hz : I64 z) (hs : SetR w s v) (k : ∀ w', Below w.heap.size w w' → K (.int .i64 (grantM s x y z)) w') : callM Tryz.prog 35 #[stpV s v, .int .i64 x, .int .i64 y, .int .i64 z] K w := by
  apply sh_35_ok
  unfold sh_35
  obtain ⟨ad, c, rfl⟩ := hs.ints.isSlice
  refine box_kn (cs := stpC s (.slice ad s.bases.length c)) rfl (.start w) fun b W hk hb1 hb => ?_
  have k2 : ∀ w' r, grantM s x y z = r → Below w.heap.size w w' → K (.int .i64 r) w' := fun w' r e hb => by rw [← e]; exact k w' hb
  clear k
  unfold grantM at k2
  repeat (any_goals ((with_reducible refine idO ?_); (with_reducible refine oM_gen fun Kv hK=>?_); simp [go_sem, hk.cells]; refine hK _ _ ?_; clear hK; clear Kv))
  refine open_ok s (hs.next hk.below) (fun w2 h2 => ?_)
  have hk := hk.next h2
  clear hb1 h2
  cases hv : validS s with
  | false =>
    repeat (any_goals (first
    | ((with_reducible refine local_desk' s ad s.bases.length c hk ?_); intro b7 W7 hk hb7 hg7)
    | (with_reducible first|((refine idGd ?_); refine zB ?_)|((refine idPick ?_); refine yC ?_)|((refine idCond ?_); refine yM ?_))
    | ((with_reducible refine idO ?_); (with_reducible refine oM_gen fun Kv hK=>?_); simp [go_sem, hk.cells]; refine hK _ _ ?_; clear hK; clear Kv)))
    exact k2 _ _ (by rw [hv]; rfl) hk.below
  | true =>
    repeat (any_goals (first
    | ((with_reducible refine local_desk' s ad s.bases.length c hk ?_); intro b7 W7 hk hb7 hg7) | ((with_reducible refine mk1 x hx ?_); intro v8 W8 hb8 hi)
    | (with_reducible first|refine pureM_in ?_|((refine idGd ?_); refine zA ?_))
    | ((with_reducible refine idO ?_); (with_reducible refine oM_gen fun Kv hK=>?_); simp [go_sem, hk.cells]; refine hK _ _ ?_; clear hK; clear Kv)))
    have hk := hk.next hb8
    refine nums_ok s 1 (hs.next hk.below) hi (fun w3 h3 => ?_)
    have hk := hk.next h3
    cases hn : numsM s 1 [x] with
    | false =>
      repeat (any_goals (with_reducible first|((refine idGd ?_); refine zB ?_)|((refine idPick ?_); first|refine yB ?_|refine yC ?_)|((refine idCond ?_); refine yM ?_)))
      exact k2 _ _ (by rw [hv, hn]; rfl) hk.below
    | true =>
      repeat (any_goals (first
      | ((with_reducible refine mk2 y z hy hz ?_); intro v9 W9 hb9 hi)
      | (with_reducible first|refine pureM_in ?_|((refine idGd ?_); refine zA ?_)|((refine idPick ?_); refine yB ?_))
      | ((with_reducible refine idO ?_); (with_reducible refine oM_gen fun Kv hK=>?_); simp [go_sem, hk.cells]; refine hK _ _ ?_; clear hK; clear Kv)))
      have hk := hk.next hb9
      refine nums_ok s 0 (hs.next hk.below) hi (fun w4 h4 => ?_)
      have hk := hk.next h4
      cases hn2 : numsM s 0 [y, z] with
      | false =>
        repeat (any_goals (with_reducible first|((refine idPick ?_); refine yB ?_)|((refine idCond ?_); refine yM ?_)))
        exact k2 _ _ (by rw [hv, hn, hn2]; rfl) hk.below
      | true =>
        repeat (any_goals (with_reducible first|((refine idPick ?_); refine yB ?_)|((refine idCond ?_); refine yL ?_)))
        refine ⟨Kn w _, hk.drew, ?_⟩
        have hk := hk.drew
        repeat (any_goals (first
        | ((with_reducible refine mk1 x hx ?_); intro v9 W9 hb9 hi)
        | (with_reducible refine pureH_in ?_)
        | ((with_reducible refine idOH ?_); (with_reducible refine oH_of ⟨_, rfl⟩ (fun W0 hW0 => by (refine oM_gen (fun Kv hK => ?_)); simp [go_sem, hW0.cells]; (first | exact hK _ _ ⟨rfl, rfl⟩ | exact ⟨by omega, hK _ _ ⟨rfl, rfl⟩⟩)) ?_))))
        have hk := hk.next hb9
        refine ⟨hk, mul_ok s z (hs.next hk.below) hi (fun w5 h5 => ?_)⟩
        have hk := hk.next h5
        refine ⟨hk, plus_ok s _ y (hs.next hk.below) (fun w6 h6 => ?_)⟩
        have hk := hk.next h6
        exact ⟨hk, hk, k2 _ _ (by rw [hv, hn, hn2]; rfl) hk.below⟩
end
end Go.Proofs
namespace Go.Proofs
open Go Go.Sh Go.RowKit FdSpec TkSpec
set_option linter.unusedSimpArgs false
set_option linter.unusedVariables false
set_option maxRecDepth 10000
section
variable {K : Value → World → Prop} {w w0 : World} {L : List (Addr × Value)}
@[reducible] def offV (o : Off) : Value := .agg #[.int .i64 o.z, .int .i64 o.a, .int .i64 o.b]
@[reducible] def tktV (t : Tkt) : Value := .agg #[.int .i64 t.mark, .int .i64 t.first, .int .i64 t.z, .int .i64 t.a, .int .i64 t.b, .int .i64 t.r]
@[reducible] def tktC (t : Tkt) : List Value := [.int .i64 t.mark, .int .i64 t.first, .int .i64 t.z, .int .i64 t.a, .int .i64 t.b, .int .i64 t.r]
@[reducible] def bldV (b : Bld) (v : Value) : Value := .agg #[.int .i64 b.s, .int .i64 b.u, .int .i64 b.v, v]
@[reducible] def bldC (b : Bld) (v : Value) : List Value := [.int .i64 b.s, .int .i64 b.u, .int .i64 b.v, v]
@[reducible] def spdV (x : Spd) (v : Value) : Value := .agg #[.int .i64 x.dare, v]
@[reducible] def spdC (x : Spd) (v : Value) : List Value := [.int .i64 x.dare, v]
structure TktR (t : Tkt) : Prop where
  mark : I64 t.mark
  first : I64 t.first
  z : I64 t.z
  a : I64 t.a
  b : I64 t.b
  r : I64 t.r
structure BldR (w : World) (b : Bld) (bv : Value) : Prop where
  s : I64 b.s
  u : I64 b.u
  v : I64 b.v
  ys : Ints w bv b.ys
structure SpdR (w : World) (x : Spd) (v : Value) : Prop where
  dare : I64 x.dare
  answers : Ints w v x.answers
theorem BldR.next {w w' : World} {b : Bld} {v : Value} (h : BldR w b v) (hb : Below w.heap.size w w') : BldR w' b v := ⟨h.s, h.u, h.v, h.ys.next hb⟩
theorem SpdR.next {w w' : World} {x : Spd} {v : Value} (h : SpdR w x v) (hb : Below w.heap.size w w') : SpdR w' x v := ⟨h.dare, h.answers.next hb⟩
theorem sz_off (w : World) : (sizeOf 37).run Tryz.prog w = .ok 3 w := by kernel_rfl
theorem al_off (w : World) : (Instr.alloc 37 true (.tuple #[])).run Tryz.prog w = .ok (.pointer (some ⟨w.heap.size, 0, none⟩)) (w.alloc (.cells [.int .i64 0, .int .i64 0, .int .i64 0].toArray 37)) := by kernel_rfl
theorem off_one (o : Off) : ∀ u ∈ [Value.int .i64 o.z, .int .i64 o.a, .int .i64 o.b], u.oneCell' = true := by
  intro u hu
  simp only [List.mem_cons, List.not_mem_nil, or_false] at hu
  rcases hu with rfl | rfl | rfl <;> rfl
theorem store_off {K : Value → World → Prop} {T' : TypeId} {g : Nat} (o : Off) (hk : KnM w0 L g 3 w)
    (k : ∀ W, KnM w0 L g 3 W → cellsAre W (cellsOf [] g 0 [.int .i64 o.z, .int .i64 o.a, .int .i64 o.b]) → K undef W) : oM Tryz.prog (.store 37 (.tmp 0) (.tmp 1)) T' [.pointer (some ⟨g, 0, none⟩), offV o] K w :=
  store_mine sz_off rfl rfl (off_one o) hk k
theorem propose_no {s : Stp} {x : Int} {l : List Int} {y : Int} (h : (usableM s l).2 = false ∨ numsM s 1 [x] = false ∨ numsM s 0 [y] = false) : proposeM s x l y = (⟨0, 0, 0⟩, 1) := by
  unfold proposeM
  rw [if_neg]
  rcases h with h | h | h <;> simp [h]
theorem Propose_ok (s : Stp) (x y : Int) {v lv : Value} {l : List Int} (hx : I64 x) (hy : I64 y) (hs : SetR w s v) (hl : Ints w lv l) (k : ∀ w', Below w.heap.size w w' → K (.tuple #[offV (proposeM s x l y).1, .int .i64 (proposeM s x l y).2]) w') : callM Tryz.prog 34 #[stpV s v, .int .i64 x, lv, .int .i64 y] K w := by
  apply sh_34_ok
  unfold sh_34
  obtain ⟨ad, c, rfl⟩ := hs.ints.isSlice
  have k2 : ∀ w' r, proposeM s x l y = r → Below w.heap.size w w' → K (.tuple #[offV r.1, .int .i64 r.2]) w' := fun w' r e hb => by rw [← e]; exact k w' hb
  clear k
  refine box_kn (cs := stpC s (.slice ad s.bases.length c)) rfl (.start w) fun b W hk hb1 hb => ?_
  refine alloc_mine al_off rfl hk fun g W2 hk hb2 hg => ?_
  repeat (any_goals ((with_reducible refine idO ?_); (with_reducible refine oM_gen fun Kv hK=>?_); simp [go_sem, hk.cells]; refine hK _ _ ?_; clear hK; clear Kv))
  refine usable_ok s (hs.next hk.below) (hl.next hk.below) (fun w2 h2 => ?_)
  have hk := hk.next h2
  clear hb1 h2 hb2
  obtain ⟨⟨m, u⟩, hm⟩ : ∃ x, usableM s l = x := ⟨_, rfl⟩
  rw [hm]
  cases u with
  | false =>
    repeat (any_goals (first
    | ((with_reducible refine local_desk s ad s.bases.length c hk ?_); intro b7 W7 hk hb7 hg7)
    | (with_reducible first|((refine idGd ?_); refine zD ?_)|((refine idPick ?_); refine yB ?_)|((refine idCond ?_); refine yL ?_))
    | ((with_reducible refine idO ?_); (with_reducible refine oM_gen fun Kv hK=>?_); simp [go_sem, hk.cells]; refine hK _ _ ?_; clear hK; clear Kv)))
    refine store_off ⟨0, 0, 0⟩ hk (fun W3 hk hc => ⟨_, by simp [go_sem, hc], k2 _ _ (propose_no (.inl (by rw [hm]))) hk.below⟩)
  | true =>
    repeat (any_goals (first
    | ((with_reducible refine local_desk s ad s.bases.length c hk ?_); intro b7 W7 hk hb7 hg7) | ((with_reducible refine mk1 x hx ?_); intro v8 W8 hb8 hi)
    | (with_reducible first|refine pureM_in ?_|((refine idGd ?_); refine zC ?_))
    | ((with_reducible refine idO ?_); (with_reducible refine oM_gen fun Kv hK=>?_); simp [go_sem, hk.cells]; refine hK _ _ ?_; clear hK; clear Kv)))
    have hk := hk.next hb8
    refine nums_ok s 1 (hs.next hk.below) hi (fun w3 h3 => ?_)
    have hk := hk.next h3
    cases hn : numsM s 1 [x] with
    | false =>
      repeat (any_goals (first
      | (with_reducible first|((refine idGd ?_); first|refine zC ?_|refine zD ?_)|((refine idPick ?_); first|refine yB ?_|refine yC ?_)|((refine idCond ?_); refine yL ?_))
      | ((with_reducible refine idO ?_); (with_reducible refine oM_gen fun Kv hK=>?_); simp [go_sem, hk.cells]; refine hK _ _ ?_; clear hK; clear Kv)))
      refine store_off ⟨0, 0, 0⟩ hk (fun W3 hk hc => ⟨_, by simp [go_sem, hc], k2 _ _ (propose_no (.inr (.inl hn))) hk.below⟩)
    | true =>
      repeat (any_goals (first
      | ((with_reducible refine mk1 y hy ?_); intro v9 W9 hb9 hi)
      | (with_reducible first|refine pureM_in ?_|((refine idGd ?_); refine zC ?_)|((refine idPick ?_); refine yC ?_))
      | ((with_reducible refine idO ?_); (with_reducible refine oM_gen fun Kv hK=>?_); simp [go_sem, hk.cells]; refine hK _ _ ?_; clear hK; clear Kv)))
      have hk := hk.next hb9
      refine nums_ok s 0 (hs.next hk.below) hi (fun w4 h4 => ?_)
      have hk := hk.next h4
      cases hn2 : numsM s 0 [y] with
      | false =>
        repeat (any_goals (first
        | (with_reducible first|((refine idGd ?_); refine zC ?_)|((refine idPick ?_); refine yC ?_)|((refine idCond ?_); refine yL ?_))
        | ((with_reducible refine idO ?_); (with_reducible refine oM_gen fun Kv hK=>?_); simp [go_sem, hk.cells]; refine hK _ _ ?_; clear hK; clear Kv)))
        refine store_off ⟨0, 0, 0⟩ hk (fun W3 hk hc => ⟨_, by simp [go_sem, hc], k2 _ _ (propose_no (.inr (.inr hn2))) hk.below⟩)
      | true =>
        have e : proposeM s x l y = (⟨powerG s.g m x, genM s y, powerG s.g m y⟩, 0) := by
          unfold proposeM
          rw [if_pos (by rw [hm, hn, hn2]; rfl), hm]
        repeat (any_goals (first
        | (with_reducible first|((refine idGd ?_); refine zC ?_)|((refine idPick ?_); refine yC ?_)|((refine idCond ?_); refine yM ?_))
        | ((with_reducible refine idO ?_); (with_reducible refine oM_gen fun Kv hK=>?_); simp [go_sem, hk.cells]; refine hK _ _ ?_; clear hK; clear Kv)))
        refine ⟨KnM w _ g 3, hk.drew, ?_⟩
        have hk := hk.drew
        repeat (any_goals (first
        | (with_reducible refine pureH_in ?_)
        | ((with_reducible refine idOH ?_); (with_reducible refine oH_of ⟨_, rfl⟩ (fun W0 hW0 => by (refine oM_gen (fun Kv hK => ?_)); simp [go_sem, hW0.cells]; (first | exact hK _ _ ⟨rfl, rfl⟩ | exact ⟨by omega, hK _ _ ⟨rfl, rfl⟩⟩)) ?_))))
        refine tpower_ok s m x (hs.next hk.below) (fun w5 h5 => ?_)
        have hk := hk.next h5
        refine ⟨hk, generated_ok s y (hs.next hk.below) (fun w6 h6 => ?_)⟩
        have hk := hk.next h6
        refine ⟨hk, tpower_ok s m y (hs.next hk.below) (fun w7 h7 => ?_)⟩
        have hk := hk.next h7
        refine ⟨hk, ?_⟩
        generalize powerG s.g m x = p1 at *
        generalize genM s y = p2 at *
        generalize powerG s.g m y = p3 at *
        repeat (any_goals ((with_reducible refine idO ?_); (with_reducible refine oM_gen fun Kv hK=>?_); simp [go_sem]; refine hK _ _ ?_; clear hK; clear Kv))
        refine ⟨hk, store_off ⟨p1, p2, p3⟩ hk (fun W3 hk hc => ⟨hk, hk, _, by simp [go_sem, hc], k2 _ _ e hk.below⟩)⟩
theorem blinds_ok (s : Stp) (b : Bld) {v bv : Value} (hs : SetR w s v) (hb : BldR w b bv) (k : ∀ w', Below w.heap.size w w' → K (.bool (blindsM s b)) w') : callM Tryz.prog 68 #[stpV s v, bldV b bv] K w := by
  apply sh_68_ok
  unfold sh_68
  obtain ⟨ad, c, rfl⟩ := hs.ints.isSlice
  have hys := hb.ys
  obtain ⟨yad, yc, rfl⟩ := hb.ys.isSlice
  have k2 : ∀ w' r, blindsM s b = r → Below w.heap.size w w' → K (.bool r) w' := fun w' r e hb => by rw [← e]; exact k w' hb
  clear k
  unfold blindsM at k2
  refine box_kn (cs := stpC s (.slice ad s.bases.length c)) rfl (.start w) fun b1 W hk hb1 hbb => ?_
  refine box_kn (cs := bldC b (.slice yad b.ys.length yc)) rfl hk fun b2 W2 hk hb2 hbb => ?_
  repeat (any_goals (first
  | ((with_reducible refine mk2 b.s b.u hb.s hb.u ?_); intro v8 W8 hb8 hi)
  | ((with_reducible refine idO ?_); (with_reducible refine oM_gen fun Kv hK=>?_); simp [go_sem, hk.cells]; refine hK _ _ ?_; clear hK; clear Kv)))
  have hk := hk.next hb8
  refine nums_ok s 1 (hs.next hk.below) hi (fun w3 h3 => ?_)
  have hk := hk.next h3
  cases hn : numsM s 1 [b.s, b.u] with
  | false =>
    repeat (any_goals (with_reducible first|((refine idGd ?_); refine zB ?_)|((refine idPick ?_); refine yC ?_)))
    exact k2 _ _ (by rw [hn]; rfl) hk.below
  | true =>
    repeat (any_goals (first
    | ((with_reducible refine mk1 b.v hb.v ?_); intro v9 W9 hb9 hi)
    | (with_reducible ((refine idGd ?_); refine zA ?_))
    | ((with_reducible refine idO ?_); (with_reducible refine oM_gen fun Kv hK=>?_); simp [go_sem, hk.cells]; refine hK _ _ ?_; clear hK; clear Kv)))
    have hk := hk.next hb9
    refine nums_ok s 0 (hs.next hk.below) hi (fun w4 h4 => ?_)
    have hk := hk.next h4
    cases hn2 : numsM s 0 [b.v] with
    | false =>
      repeat (any_goals (with_reducible first|((refine idGd ?_); refine zB ?_)|((refine idPick ?_); first|refine yB ?_|refine yC ?_)))
      exact k2 _ _ (by rw [hn, hn2]; rfl) hk.below
    | true =>
      by_cases hlen : b.ys.length = s.bases.length
      · repeat (any_goals (first
        | (with_reducible first|((refine idGd ?_); refine zA ?_)|((refine idPick ?_); refine yB ?_))
        | ((with_reducible refine idO ?_); (with_reducible refine oM_gen fun Kv hK=>?_); simp [go_sem, hk.cells, hlen]; refine hK _ _ ?_; clear hK; clear Kv)))
        have hys2 : Ints w (.slice yad s.bases.length yc) b.ys := by rw [← hlen]; exact hys
        refine nums_ok s 0 (hs.next hk.below) (hys2.next hk.below) (fun w5 h5 => ?_)
        have hk := hk.next h5
        repeat (any_goals (with_reducible ((refine idPick ?_); refine yB ?_)))
        exact k2 _ _ (by rw [hn, hn2]; simp [hlen]) hk.below
      · have hl' : ¬ (b.ys.length : Int) = s.bases.length := by omega
        repeat (any_goals (first
        | (with_reducible first|((refine idGd ?_); first|refine zA ?_|refine zB ?_)|((refine idPick ?_); first|refine yB ?_|refine yC ?_))
        | ((with_reducible refine idO ?_); (with_reducible refine oM_gen fun Kv hK=>?_); simp [go_sem, hk.cells, hl']; refine hK _ _ ?_; clear hK; clear Kv)))
        exact k2 _ _ (by rw [hn, hn2]; simp [hlen]) hk.below
end
end Go.Proofs
namespace Go.Proofs
open Go Go.Sh Go.RowKit FdSpec TkSpec
set_option linter.unusedSimpArgs false
set_option linter.unusedVariables false
set_option maxRecDepth 10000
section
variable {K : Value → World → Prop} {w w0 : World} {L : List (Addr × Value)}
theorem formed_ok (s : Stp) (t : Tkt) {v : Value} (ht : TktR t) (hs : SetR w s v) (k : ∀ w', Below w.heap.size w w' → K (.tuple #[stpV s v, .bool (formedM s t)]) w') : callM Tryz.prog 85 #[stpV s v, tktV t] K w := by
  apply sh_85_ok
  unfold sh_85
  obtain ⟨ad, c, rfl⟩ := hs.ints.isSlice
  have k2 : ∀ w' r, formedM s t = r → Below w.heap.size w w' → K (.tuple #[stpV s (.slice ad s.bases.length c), .bool r]) w' := fun w' r e hb => by rw [← e]; exact k w' hb
  clear k
  unfold formedM at k2
  refine box_kn (cs := stpC s (.slice ad s.bases.length c)) rfl (.start w) fun b1 W hk hb1 hbb => ?_
  refine box_kn (cs := tktC t) rfl hk fun b2 W2 hk hb2 hbb => ?_
  refine alloc_mine (n := 5) al_desk rfl hk fun g W2 hk hb2 hg => ?_
  repeat (any_goals ((with_reducible refine idO ?_); (with_reducible refine oM_gen fun Kv hK=>?_); simp [go_sem, hk.cells]; refine hK _ _ ?_; clear hK; clear Kv))
  refine open_ok s (hs.next hk.below) (fun w2 h2 => ?_)
  have hk := hk.next h2
  clear hb1 h2 hb2
  cases hv : validS s with
  | false =>
    repeat (any_goals (first
    | ((with_reducible refine local_desk s ad s.bases.length c hk ?_); intro b7 W7 hk hb7 hg7)
    | ((with_reducible refine idO ?_); (with_reducible refine oM_gen fun Kv hK=>?_); simp [go_sem, hk.cells]; refine hK _ _ ?_; clear hK; clear Kv)))
    refine ⟨KnM w _ g 5, hk.drew, ?_⟩
    have hk := hk.drew
    repeat (any_goals (first
    | (with_reducible refine And.intro hk ?_)
    | (with_reducible first|refine pureH_in ?_|((refine idGdH ?_); refine gdH_conv fun _=>?_)|((refine idGd ?_); refine zB ?_))
    | ((with_reducible refine idOH ?_); first|(with_reducible refine vB ?_)|(with_reducible refine oH_of ⟨_, rfl⟩ (fun W0 hW0 => by (refine oM_gen (fun Kv hK => ?_)); simp [go_sem, hW0.cells]; (first | exact hK _ _ ⟨rfl, rfl⟩ | exact ⟨by omega, hK _ _ ⟨rfl, rfl⟩⟩)) ?_))))
    exact store_desk s ad _ c hk (fun W3 hk hc => ⟨hk, hk, _, by simp [go_sem, hc], k2 _ _ (by rw [hv]; rfl) hk.below⟩)
  | true =>
    repeat (any_goals (first
    | ((with_reducible refine local_desk s ad s.bases.length c hk ?_); intro b7 W7 hk hb7 hg7)
    | ((with_reducible refine idO ?_); (with_reducible refine oM_gen fun Kv hK=>?_); simp [go_sem, hk.cells]; refine hK _ _ ?_; clear hK; clear Kv)))
    refine ⟨KnM w _ g 5, hk.drew, ?_⟩
    have hk := hk.drew
    by_cases hm : t.mark = 1
    · repeat (any_goals (first
      | (with_reducible refine And.intro hk ?_)
      | (with_reducible first|refine pureH_in ?_|((refine idGdH ?_); refine gdH_conv fun _=>?_)|((refine idGd ?_); first|refine zA ?_|refine zB ?_))
      | ((with_reducible refine idOH ?_); first|(with_reducible first|refine vA ?_|refine vB ?_)|(with_reducible refine oH_of ⟨_, rfl⟩ (fun W0 hW0 => by (refine oM_gen (fun Kv hK => ?_)); simp [go_sem, hW0.cells, hm]; (first | exact hK _ _ ⟨rfl, rfl⟩ | exact ⟨by omega, hK _ _ ⟨rfl, rfl⟩⟩)) ?_))))
      exact store_desk s ad _ c hk (fun W3 hk hc => ⟨hk, hk, _, by simp [go_sem, hc], k2 _ _ (by rw [hv, hm]; rfl) hk.below⟩)
    · repeat (any_goals (first
      | (with_reducible refine And.intro hk ?_)
      | ((with_reducible refine mk5 t.mark t.first t.z t.a t.b ht.mark ht.first ht.z ht.a ht.b ?_); intro v8 W8 hb8 hi)
      | (with_reducible first|refine pureH_in ?_|((refine idGdH ?_); refine gdH_conv fun _=>?_)|((refine idGd ?_); refine zA ?_))
      | ((with_reducible refine idOH ?_); first|(with_reducible refine vA ?_)|(with_reducible refine oH_of ⟨_, rfl⟩ (fun W0 hW0 => by (refine oM_gen (fun Kv hK => ?_)); simp [go_sem, hW0.cells, hm]; (first | exact hK _ _ ⟨rfl, rfl⟩ | exact ⟨by omega, hK _ _ ⟨rfl, rfl⟩⟩)) ?_))))
      have hk := hk.next hb8
      refine ⟨hk, elements_ok s (hs.next hk.below) hi (fun w3 h3 => ?_)⟩
      have hk := hk.next h3
      refine ⟨hk, ?_⟩
      cases he : elementsM s [t.mark, t.first, t.z, t.a, t.b] with
      | false =>
        repeat (any_goals (first
        | (with_reducible refine And.intro hk ?_)
        | (with_reducible first|refine pureH_in ?_|((refine idGdH ?_); refine gdH_conv fun _=>?_)|((refine idGd ?_); refine zB ?_))
        | ((with_reducible refine idOH ?_); (with_reducible first|refine vA ?_|refine vB ?_))))
        exact store_desk s ad _ c hk (fun W3 hk hc => ⟨hk, hk, _, by simp [go_sem, hc], k2 _ _ (by rw [hv, he]; simp) hk.below⟩)
      | true =>
        repeat (any_goals (first
        | (with_reducible refine And.intro hk ?_)
        | ((with_reducible refine mk1 t.r ht.r ?_); intro v9 W9 hb9 hi9)
        | (with_reducible first|refine pureH_in ?_|((refine idGdH ?_); refine gdH_conv fun _=>?_)|((refine idGd ?_); refine zA ?_))
        | ((with_reducible refine idOH ?_); first|(with_reducible refine vA ?_)|(with_reducible refine oH_of ⟨_, rfl⟩ (fun W0 hW0 => by (refine oM_gen (fun Kv hK => ?_)); simp [go_sem, hW0.cells]; (first | exact hK _ _ ⟨rfl, rfl⟩ | exact ⟨by omega, hK _ _ ⟨rfl, rfl⟩⟩)) ?_))))
        have hk := hk.next hb9
        refine ⟨hk, nums_ok s 0 (hs.next hk.below) hi9 (fun w4 h4 => ?_)⟩
        have hk := hk.next h4
        refine ⟨hk, ?_⟩
        repeat (any_goals (first
        | (with_reducible refine And.intro hk ?_)
        | ((with_reducible refine idOH ?_); (with_reducible refine vA ?_))))
        exact store_desk s ad _ c hk (fun W3 hk hc => ⟨hk, hk, _, by simp [go_sem, hc], k2 _ _ (by rw [hv, he]; simp [hm]) hk.below⟩)
theorem acceptsM_no {s : Stp} {t : Tkt} {x : Spd} (h : formedM s t = false ∨ numsM s 1 [x.dare] = false ∨ x.answers.length ≠ s.bases.length ∨ numsM s 0 x.answers = false) : acceptsM s t x = false := by
  unfold acceptsM
  rw [if_neg]
  rcases h with h | h | h | h <;> simp [h]
theorem Accepts_ok (s : Stp) (t : Tkt) (x : Spd) {v xv : Value} (ht : TktR t) (hs : SetR w s v) (hx : SpdR w x xv) (k : ∀ w', Below w.heap.size w w' → K (.bool (acceptsM s t x)) w') : callM Tryz.prog 36 #[stpV s v, tktV t, spdV x xv] K w := by
  apply sh_36_ok
  unfold sh_36
  obtain ⟨ad, c, rfl⟩ := hs.ints.isSlice
  have hans := hx.answers
  obtain ⟨xad, xc, rfl⟩ := hx.answers.isSlice
  have k2 : ∀ w' r, acceptsM s t x = r → Below w.heap.size w w' → K (.bool r) w' := fun w' r e hb => by rw [← e]; exact k w' hb
  clear k
  refine box_kn (cs := stpC s (.slice ad s.bases.length c)) rfl (.start w) fun b1 W hk hb1 hbb => ?_
  refine box_kn (cs := tktC t) rfl hk fun b2 W2 hk hb2 hbb => ?_
  refine box_kn (cs := spdC x (.slice xad x.answers.length xc)) rfl hk fun b3 W3 hk hb3 hbb => ?_
  repeat (any_goals ((with_reducible refine idO ?_); (with_reducible refine oM_gen fun Kv hK=>?_); simp [go_sem, hk.cells]; refine hK _ _ ?_; clear hK; clear Kv))
  refine formed_ok s t ht (hs.next hk.below) (fun w2 h2 => ?_)
  have hk := hk.next h2
  clear hb1 h2 hb2 hb3
  cases hv : formedM s t with
  | false =>
    repeat (any_goals (first
    | ((with_reducible refine local_desk' s ad s.bases.length c hk ?_); intro b7 W7 hk hb7 hg7)
    | (with_reducible first|((refine idGd ?_); refine zD ?_)|((refine idPick ?_); refine yB ?_)|((refine idCond ?_); refine yL ?_))
    | ((with_reducible refine idO ?_); (with_reducible refine oM_gen fun Kv hK=>?_); simp [go_sem, hk.cells]; refine hK _ _ ?_; clear hK; clear Kv)))
    exact k2 _ _ (acceptsM_no (.inl hv)) hk.below
  | true =>
    repeat (any_goals (first
    | ((with_reducible refine local_desk' s ad s.bases.length c hk ?_); intro b7 W7 hk hb7 hg7) | ((with_reducible refine mk1 x.dare hx.dare ?_); intro v8 W8 hb8 hi)
    | (with_reducible ((refine idGd ?_); refine zC ?_))
    | ((with_reducible refine idO ?_); (with_reducible refine oM_gen fun Kv hK=>?_); simp [go_sem, hk.cells]; refine hK _ _ ?_; clear hK; clear Kv)))
    have hk := hk.next hb8
    refine nums_ok s 1 (hs.next hk.below) hi (fun w3 h3 => ?_)
    have hk := hk.next h3
    cases hn : numsM s 1 [x.dare] with
    | false =>
      repeat (any_goals (first
      | (with_reducible first|((refine idGd ?_); first|refine zC ?_|refine zD ?_)|((refine idPick ?_); first|refine yB ?_|refine yC ?_)|((refine idCond ?_); refine yL ?_))
      | ((with_reducible refine idO ?_); (with_reducible refine oM_gen fun Kv hK=>?_); simp [go_sem, hk.cells]; refine hK _ _ ?_; clear hK; clear Kv)))
      exact k2 _ _ (acceptsM_no (.inr (.inl hn))) hk.below
    | true =>
      by_cases hlen : x.answers.length = s.bases.length
      · repeat (any_goals (first
        | (with_reducible first|((refine idGd ?_); refine zC ?_)|((refine idPick ?_); refine yC ?_))
        | ((with_reducible refine idO ?_); (with_reducible refine oM_gen fun Kv hK=>?_); simp [go_sem, hk.cells, hlen]; refine hK _ _ ?_; clear hK; clear Kv)))
        have hans2 : Ints w (.slice xad s.bases.length xc) x.answers := by rw [← hlen]; exact hans
        refine nums_ok s 0 (hs.next hk.below) (hans2.next hk.below) (fun w5 h5 => ?_)
        have hk := hk.next h5
        cases hn2 : numsM s 0 x.answers with
        | false =>
          repeat (any_goals (first
          | (with_reducible first|((refine idGd ?_); refine zC ?_)|((refine idPick ?_); refine yC ?_)|((refine idCond ?_); refine yL ?_))
          | ((with_reducible refine idO ?_); (with_reducible refine oM_gen fun Kv hK=>?_); simp [go_sem, hk.cells]; refine hK _ _ ?_; clear hK; clear Kv)))
          exact k2 _ _ (acceptsM_no (.inr (.inr (.inr hn2)))) hk.below
        | true =>
          repeat (any_goals (first
          | (with_reducible first|((refine idGd ?_); refine zC ?_)|((refine idPick ?_); refine yC ?_)|((refine idCond ?_); refine yM ?_))
          | ((with_reducible refine idO ?_); (with_reducible refine oM_gen fun Kv hK=>?_); simp [go_sem, hk.cells]; refine hK _ _ ?_; clear hK; clear Kv)))
          have e : acceptsM s t x = decide ((prodG s.g s.bases x.answers).1 = timesM s (powerG s.g t.mark x.dare) [t.first]) := by
            unfold acceptsM
            rw [if_pos (by rw [hv, hn, hn2]; simp [hlen])]
          refine ⟨Kn w _, hk.drew, ?_⟩
          have hk := hk.drew
          repeat (any_goals ((with_reducible refine idOH ?_); (with_reducible refine oH_of ⟨_, rfl⟩ (fun W0 hW0 => by (refine oM_gen (fun Kv hK => ?_)); simp [go_sem, hW0.cells, hlen]; (first | exact hK _ _ ⟨rfl, rfl⟩ | exact ⟨by omega, hK _ _ ⟨rfl, rfl⟩⟩)) ?_)))
          refine ⟨?_, ?_⟩
          · refine product_t_ok s (hs.next hk.below) (hans2.next hk.below) (fun w6 h6 => ?_)
            have hk := hk.next h6
            refine ⟨hk, ?_, ?_⟩
            · refine tpower_ok s t.mark x.dare (hs.next hk.below) (fun w7 h7 => ?_)
              have hk := hk.next h7
              refine ⟨hk, mk1 t.first ht.first (fun v8 w8 h8 hi => ?_)⟩
              have hk := hk.next h8
              refine ⟨hk, times_ok s _ (hs.next hk.below) hi (fun w9 h9 => ?_)⟩
              have hk := hk.next h9
              refine ⟨hk, ?_⟩
              repeat (any_goals ((with_reducible refine idOH ?_); (with_reducible refine oH_of ⟨_, rfl⟩ (fun W0 hW0 => by (refine oM_gen (fun Kv hK => ?_)); simp [go_sem]; (first | exact hK _ _ ⟨rfl, rfl⟩ | exact ⟨by omega, hK _ _ ⟨rfl, rfl⟩⟩)) ?_)))
              exact ⟨hk, k2 _ _ e hk.below⟩
            · refine mk1 t.first ht.first (fun v8 w8 h8 hi => ?_)
              have hk := hk.next h8
              refine ⟨hk, tpower_ok s t.mark x.dare (hs.next hk.below) (fun w7 h7 => ?_)⟩
              have hk := hk.next h7
              refine ⟨hk, times_ok s _ (hs.next hk.below) (hi.next h7) (fun w9 h9 => ?_)⟩
              have hk := hk.next h9
              refine ⟨hk, ?_⟩
              repeat (any_goals ((with_reducible refine idOH ?_); (with_reducible refine oH_of ⟨_, rfl⟩ (fun W0 hW0 => by (refine oM_gen (fun Kv hK => ?_)); simp [go_sem]; (first | exact hK _ _ ⟨rfl, rfl⟩ | exact ⟨by omega, hK _ _ ⟨rfl, rfl⟩⟩)) ?_)))
              exact ⟨hk, k2 _ _ e hk.below⟩
          · refine mk1 t.first ht.first (fun v8 w8 h8 hi => ?_)
            have hk := hk.next h8
            refine ⟨hk, product_t_ok s (hs.next hk.below) (hans2.next hk.below) (fun w6 h6 => ?_)⟩
            have hk := hk.next h6
            refine ⟨hk, tpower_ok s t.mark x.dare (hs.next hk.below) (fun w7 h7 => ?_)⟩
            have hk := hk.next h7
            refine ⟨hk, times_ok s _ (hs.next hk.below) ((hi.next h6).next h7) (fun w9 h9 => ?_)⟩
            have hk := hk.next h9
            refine ⟨hk, ?_⟩
            repeat (any_goals ((with_reducible refine idOH ?_); (with_reducible refine oH_of ⟨_, rfl⟩ (fun W0 hW0 => by (refine oM_gen (fun Kv hK => ?_)); simp [go_sem]; (first | exact hK _ _ ⟨rfl, rfl⟩ | exact ⟨by omega, hK _ _ ⟨rfl, rfl⟩⟩)) ?_)))
            exact ⟨hk, k2 _ _ e hk.below⟩
      · have hl' : ¬ (x.answers.length : Int) = s.bases.length := by omega
        repeat (any_goals (first
        | (with_reducible first|((refine idGd ?_); first|refine zC ?_|refine zD ?_)|((refine idPick ?_); first|refine yB ?_|refine yC ?_)|((refine idCond ?_); refine yL ?_))
        | ((with_reducible refine idO ?_); (with_reducible refine oM_gen fun Kv hK=>?_); simp [go_sem, hk.cells, hl']; refine hK _ _ ?_; clear hK; clear Kv)))
        exact k2 _ _ (acceptsM_no (.inr (.inr (.inl hlen)))) hk.below
end
end Go.Proofs
namespace Go.Proofs
open Go Go.Sh Go.RowKit FdSpec TkSpec
set_option linter.unusedSimpArgs false
set_option linter.unusedVariables false
set_option maxRecDepth 10000
section
variable {K : Value → World → Prop} {w w0 : World} {L : List (Addr × Value)}
abbrev OwnI (w : World) (B : Nat) (v : Value) (l : List Int) : Prop := w.ownsRow B 3 1 v l.length (flat intC l)
theorem OwnI.ints {B : Nat} {v : Value} {l : List Int} (h : OwnI w B v l) (hr : ∀ n ∈ l, I64 n) (hl : l.length ≤ 9223372036854775807) : Ints w v l := Ints.of_owns h hr hl
theorem owns_up {B C : Nat} {e : TypeId} {sz : Nat} {v : Value} {n : Nat} {xs : List Value} (h : w.ownsRow B e sz v n xs) (hc : ∀ i, v.ownBlock = some i → C ≤ i) : w.ownsRow C e sz v n xs := by
  refine ⟨h.1, h.2.imp id ?_⟩
  rintro ⟨g, cap, cur, rfl, hb, hr⟩
  exact ⟨g, cap, cur, rfl, hc g rfl, hr⟩
theorem OwnI.keep {B : Nat} {v : Value} {l : List Int} {w' : World} (h : OwnI w B v l) (hb : Below w.heap.size w w') : OwnI w' B v l :=
  owns_keep h (fun i hi => hb.block i (owns_own h hi).1)
theorem append1 {B : Nat} {T : TypeId} {v xv : Value} {l : List Int} {x : Int} (ho : OwnI w B v l) (hB : B ≤ w.heap.size) (hx : Ints w xv [x]) (hl : l.length < 1099511627776)
    (k : ∀ v' w', OwnI w' B v' (l ++ [x]) → Below B w w' → K v' w') : oM Tryz.prog (.call { callee := .builtin .append, args := #[.tmp 0, .tmp 1], argTypes := #[22, 22] }) T [v, xv] K w := by
  obtain ⟨⟨ad, c, rfl, h0, hc⟩, hr, _⟩ := hx
  have hc := hc.resolve_left (by simp)
  obtain ⟨b, o, rfl, hlt, hcell⟩ := hc
  refine append_at 22 T 3 ((Tryz.prog.info? 3).getD default) (.int .i64 0) 1 8 (by kernel_rfl) (by kernel_rfl) (by kernel_rfl) (by kernel_rfl) (by kernel_rfl) (by kernel_rfl) (by omega) (owns_base ho (Nat.zero_le _)) [.int .i64 x] (by simp) (by simp) ?_ ?_ (by simp only [maxLen, List.length_singleton]; omega) (by simp only [List.length_singleton]; omega) ?_
  · rintro a ha j u hj
    cases ha
    rw [add_none]
    exact hcell j u hj
  · intro u hu
    simp only [List.mem_singleton] at hu
    subst hu; rfl
  · intro v' w' ho' hg hv
    have hbl : ∀ i, v.ownBlock = some i → B ≤ i := fun i hi => (owns_own ho hi).2.1
    refine k v' w' ?_ ((Below.refl B w).grown hg hB hbl)
    have e1 : (l ++ [x]).length = l.length + [x].length := by simp
    have e2 : flat intC (l ++ [x]) = flat intC l ++ [Value.int .i64 x] := by rw [flat_int, flat_int]; simp
    show w'.ownsRow B 3 1 v' (l ++ [x]).length (flat intC (l ++ [x]))
    rw [e1, e2]
    exact owns_up ho' (fun i hi => (hv i hi).elim (hbl i) (fun h => Nat.le_trans hB h))
theorem Same_ok {v u : Value} {a b : List Int} (ha : Ints w v a) (hb : Ints w u b) (k : ∀ w', Below w.heap.size w w' → K (.bool (decide (a = b))) w') : callM Tryz.prog 33 #[v, u] K w := by
  apply sh_33_ok
  unfold sh_33
  obtain ⟨ad1, c1, rfl⟩ := ha.isSlice
  obtain ⟨ad2, c2, rfl⟩ := hb.isSlice
  have l1 := ha.len
  have l2 := hb.len
  by_cases hl : a.length = b.length
  · repeat (any_goals (first
    | (with_reducible ((refine idCond ?_); refine yM ?_))
    | ((with_reducible refine idO ?_); (with_reducible refine oM_gen fun Kv hK=>?_); simp [go_sem, hl]; refine hK _ _ ?_; clear hK; clear Kv)))
    refine ⟨fun vs w' => Below w.heap.size w w' ∧ ∃ (v : Value) (i : Nat), vs = [v, .int .i64 (i : Int)] ∧ i ≤ a.length ∧ a.take i = b.take i, fun vs _ => match vs with | [_, .int _ i] => b.length - i.toNat | _ => 0, ⟨Below.refl _ _, _, 0, rfl, by omega, rfl⟩, ?_⟩
    rintro _ _ w1 ⟨h1, u1, i, rfl, hi, he⟩
    by_cases hin : i = b.length
    · have e : a = b := by
        rw [List.take_of_length_le (by omega), List.take_of_length_le (by omega)] at he
        exact he
      have k := k _ h1
      rw [decide_eq_true e] at k
      repeat (any_goals (first
      | (with_reducible ((refine idCond ?_); refine yO ?_))
      | ((with_reducible refine idO ?_); (with_reducible refine oM_gen fun Kv hK=>?_); simp [go_sem, hl]; refine hK _ _ ?_; clear hK; clear Kv)))
      exact k
    · obtain ⟨b1, o1, rfl, hb1, ca, ra, _⟩ := ha.at (i := i) (by omega)
      obtain ⟨b2, o2, rfl, hb2, cb, rb, _⟩ := hb.at (i := i) (by omega)
      repeat (any_goals (first
      | (with_reducible ((refine idCond ?_); refine yN ?_))
      | ((with_reducible refine idO ?_); (with_reducible refine oM_gen fun Kv hK=>?_); simp [go_sem, hl]; refine hK _ _ ?_; clear hK; clear Kv)))
      refine ⟨Below w.heap.size w, h1.trans .drawn, ?_⟩
      by_cases hx : a[i] = b[i]
      · repeat (any_goals ((with_reducible refine idOQ ?_); (with_reducible refine oQ_of ⟨_, rfl⟩ (fun W0 hW0 => by (refine oM_gen (fun Kv hK => ?_)); simp [go_sem, ca _ hW0, cb _ hW0, hl, hx]; (first | exact hK _ _ ⟨rfl, rfl⟩ | exact ⟨by omega, hK _ _ ⟨rfl, rfl⟩⟩)) ?_)))
        intro w2 h2
        repeat (any_goals (first
        | (with_reducible ((refine idCond ?_); refine yM ?_))
        | ((with_reducible refine idO ?_); (with_reducible refine oM_gen fun Kv hK=>?_); simp [go_sem, hx]; (try simp (disch := omega) only [wrapI64, wrapU8, wrapU32, wrapU64]); refine hK _ _ ?_; clear hK; clear Kv)))
        refine ⟨⟨h2, _, i + 1, rfl, by omega, ?_⟩, by show b.length - (((i + 1 : Nat) : Int)).toNat < b.length - ((i : Nat) : Int).toNat; omega⟩
        rw [List.take_succ_eq_append_getElem (by omega), List.take_succ_eq_append_getElem (by omega), he, hx]
      · repeat (any_goals ((with_reducible refine idOQ ?_); (with_reducible refine oQ_of ⟨_, rfl⟩ (fun W0 hW0 => by (refine oM_gen (fun Kv hK => ?_)); simp [go_sem, ca _ hW0, cb _ hW0, hl, hx]; (first | exact hK _ _ ⟨rfl, rfl⟩ | exact ⟨by omega, hK _ _ ⟨rfl, rfl⟩⟩)) ?_)))
        intro w2 h2
        have k := k _ h2
        rw [decide_eq_false (by rintro rfl; exact hx rfl)] at k
        repeat (any_goals (with_reducible ((refine idCond ?_); refine yL ?_)))
        exact k
  · have hl' : ¬ (a.length : Int) = b.length := by omega
    have k := k _ (Below.refl _ _)
    rw [decide_eq_false (by rintro rfl; exact hl rfl)] at k
    repeat (any_goals (first
    | (with_reducible ((refine idCond ?_); refine yL ?_))
    | ((with_reducible refine idO ?_); (with_reducible refine oM_gen fun Kv hK=>?_); simp [go_sem, hl']; refine hK _ _ ?_; clear hK; clear Kv)))
    exact k
end
end Go.Proofs
namespace Go.Proofs
open Go Go.Sh Go.RowKit FdSpec TkSpec
set_option linter.unusedSimpArgs false
set_option linter.unusedVariables false
set_option maxRecDepth 10000
section
variable {K : Value → World → Prop} {w w0 : World} {L : List (Addr × Value)}
theorem accepts_len {s : Stp} {t : Tkt} {x : Spd} (h : acceptsM s t x = true) : x.answers.length = s.bases.length ∧ validS s = true := by
  unfold acceptsM at h
  split at h
  · rename_i hc
    simp only [Bool.and_eq_true, decide_eq_true_eq] at hc
    refine ⟨hc.1.2, ?_⟩
    have hf := hc.1.1.1
    unfold formedM at hf
    simp only [Bool.and_eq_true] at hf
    exact hf.1.1.1
  · cases h
def gapL (s : Stp) (a b : Spd) : List Int := (a.answers.zip b.answers).map fun p => lessQ s p.1 p.2
theorem gapL_len {s : Stp} {a b : Spd} {n : Nat} (ha : a.answers.length = n) (hb : b.answers.length = n) : (gapL s a b).length = n := by
  simp [gapL, ha, hb]
theorem gapL_at {s : Stp} {a b : Spd} {i : Nat} (ha : i < a.answers.length) (hb : i < b.answers.length) (hg : i < (gapL s a b).length) : (gapL s a b)[i] = lessQ s a.answers[i] b.answers[i] := by
  simp [gapL]
theorem gapL_rng {s : Stp} {a b : Spd} : ∀ n ∈ gapL s a b, I64 n := by
  intro n hn
  obtain ⟨p, _, rfl⟩ := List.mem_map.1 hn
  exact subM_I64 _ _ _
theorem gapsM_no {s : Stp} {t : Tkt} {a b : Spd} (h : a.dare = b.dare ∨ acceptsM s t a = false ∨ acceptsM s t b = false) : gapsM s t a b = ([], false) := by
  unfold gapsM
  rw [if_pos]
  rcases h with h | h | h <;> simp [h]
theorem gapsM_yes {s : Stp} {t : Tkt} {a b : Spd} (h1 : ¬ a.dare = b.dare) (h2 : acceptsM s t a = true) (h3 : acceptsM s t b = true) : gapsM s t a b = (gapL s a b, !decide ((gapL s a b).headD 0 = 0)) := by
  unfold gapsM
  rw [if_neg (by simp [h1, h2, h3])]
  rfl
theorem _root_.Go.Sh.KnM.add1 {g n : Nat} (h : KnM w0 L g n w) {b o : Nat} {v : Value} (hc : w.cell? ⟨b, o, none⟩ = some v) (hne : b ≠ g) : KnM w0 ((⟨b, o, none⟩, v) :: L) g n w :=
  ⟨⟨h.kn.below, hc, h.kn.cells⟩, h.mine, h.base, fun p hp => (List.mem_cons.1 hp).elim (fun e => by rw [e]; exact hne) (h.off p)⟩
theorem store_desk2 {K : Value → World → Prop} {T' : TypeId} {g : Nat} (s : Stp) (ad : Option Addr) (m c : Nat) (hk : KnM w0 L g 5 w)
    (k : ∀ W, KnM w0 L g 5 W → cellsAre W (cellsOf [] g 0 (stpC s (.slice ad m c))) → w.grownBy W (some g) → K undef W) : oM Tryz.prog (.store 116 (.tmp 0) (.tmp 1)) T' [.pointer (some ⟨g, 0, none⟩), stpV s (.slice ad m c)] K w := by
  obtain ⟨W, e, hg, hm, hc⟩ := store_run (P := Tryz.prog) (W := w) sz_desk (x := stpV s (.slice ad m c)) rfl rfl (stp_one s ad m c) hk.mine
  rw [oM_store, e]
  exact k W ⟨hk.kn.wrote hg hk.base hk.off, hm, hk.base, hk.off⟩ hc hg
@[reducible] def zstp : Stp := ⟨⟨0, 0, 0⟩, [], 0⟩
def GpJ (gl : List Int) (Wl : World) (vs : List Value) (w' : World) : Prop := Below Wl.heap.size Wl w' ∧ ∃ (v u o : Value) (i : Nat), vs = [v, u, o, .int .i64 (i : Int)] ∧ i ≤ gl.length ∧ OwnI w' Wl.heap.size o (gl.take i)
theorem gaps_ok (s : Stp) (t : Tkt) (x y : Spd) {v xv yv : Value} (ht : TktR t) (hs : SetR w s v) (hx : SpdR w x xv) (hy : SpdR w y yv)
    (k : ∀ w' s' ad n c ov, Below w.heap.size w w' → Ints w' ov (gapsM s t x y).1 → (∃ ad n c, ov = .slice ad n c ∧ n ≤ c) → ((gapsM s t x y).2 = true → stpV s' (.slice ad n c) = stpV s v) → K (.tuple #[stpV s' (.slice ad n c), ov, .bool (gapsM s t x y).2]) w') : callM Tryz.prog 88 #[stpV s v, tktV t, spdV x xv, spdV y yv] K w := by
  apply sh_88_ok
  unfold sh_88
  obtain ⟨ad, c, rfl⟩ := hs.ints.isSlice
  have hxa := hx.answers
  have hya := hy.answers
  have hx0 := hx
  have hy0 := hy
  obtain ⟨xad, xc, rfl⟩ := hx.answers.isSlice
  obtain ⟨yad, yc, rfl⟩ := hy.answers.isSlice
  have k0 : ∀ w', gapsM s t x y = ([], false) → Below w.heap.size w w' → K (.tuple #[stpV zstp (.slice none 0 0), .slice none 0 0, .bool false]) w' := fun w' e hb => by
    rw [e] at k
    exact k w' zstp none 0 0 _ hb (Ints.nil _) ⟨_, _, _, rfl, Nat.le_refl _⟩ (by simp)
  have k2 : ∀ w' ov l r, gapsM s t x y = (l, r) → Below w.heap.size w w' → Ints w' ov l → (∃ ad n c, ov = .slice ad n c ∧ n ≤ c) → K (.tuple #[stpV s (.slice ad s.bases.length c), ov, .bool r]) w' := fun w' ov l r e hb hi hcp => by
    rw [e] at k
    exact k w' s _ _ _ ov hb hi hcp (fun _ => rfl)
  clear k
  refine box_kn (cs := stpC s (.slice ad s.bases.length c)) rfl (.start w) fun b1 W hk hb1 hbb => ?_
  refine box_kn (cs := tktC t) rfl hk fun b2 W2 hk hb2 hbb => ?_
  refine box_kn (cs := spdC x (.slice xad x.answers.length xc)) rfl hk fun b3 W3 hk hb3 hbb => ?_
  refine box_kn (cs := spdC y (.slice yad y.answers.length yc)) rfl hk fun b4 W4 hk hb4 hbb => ?_
  refine alloc_mine (n := 5) al_desk rfl hk fun g W2 hk hb2 hg => ?_
  clear hb1 hb2 hb3 hb4
  by_cases hd : x.dare = y.dare
  · repeat (any_goals (first
    | (with_reducible first|((refine idGd ?_); refine zD ?_)|((refine idPick ?_); refine yB ?_)|((refine idCond ?_); refine yL ?_))
    | ((with_reducible refine idO ?_); (with_reducible refine oM_gen fun Kv hK=>?_); simp [go_sem, hk.cells, hd]; refine hK _ _ ?_; clear hK; clear Kv)))
    exact store_desk zstp none 0 0 hk (fun W3 hk hc => ⟨_, by simp [go_sem, hc], k0 _ (gapsM_no (.inl hd)) hk.below⟩)
  repeat (any_goals (first
  | (with_reducible ((refine idGd ?_); refine zC ?_))
  | ((with_reducible refine idO ?_); (with_reducible refine oM_gen fun Kv hK=>?_); simp [go_sem, hk.cells, hd]; refine hK _ _ ?_; clear hK; clear Kv)))
  refine Accepts_ok s t x ht (hs.next hk.below) (hx0.next hk.below) (fun w2 h2 => ?_)
  have hk := hk.next h2
  cases ha : acceptsM s t x with
  | false =>
    repeat (any_goals (first
    | (with_reducible first|((refine idGd ?_); first|refine zC ?_|refine zD ?_)|((refine idPick ?_); first|refine yB ?_|refine yC ?_)|((refine idCond ?_); refine yL ?_))
    | ((with_reducible refine idO ?_); (with_reducible refine oM_gen fun Kv hK=>?_); simp [go_sem, hk.cells]; refine hK _ _ ?_; clear hK; clear Kv)))
    exact store_desk zstp none 0 0 hk (fun W3 hk hc => ⟨_, by simp [go_sem, hc], k0 _ (gapsM_no (.inr (.inl ha))) hk.below⟩)
  | true =>
    repeat (any_goals (first
    | (with_reducible first|((refine idGd ?_); refine zC ?_)|((refine idPick ?_); refine yC ?_))
    | ((with_reducible refine idO ?_); (with_reducible refine oM_gen fun Kv hK=>?_); simp [go_sem, hk.cells]; refine hK _ _ ?_; clear hK; clear Kv)))
    refine Accepts_ok s t y ht (hs.next hk.below) (hy0.next hk.below) (fun w3 h3 => ?_)
    have hk := hk.next h3
    cases hb : acceptsM s t y with
    | false =>
      repeat (any_goals (first
      | (with_reducible first|((refine idGd ?_); refine zC ?_)|((refine idPick ?_); refine yC ?_)|((refine idCond ?_); refine yL ?_))
      | ((with_reducible refine idO ?_); (with_reducible refine oM_gen fun Kv hK=>?_); simp [go_sem, hk.cells]; refine hK _ _ ?_; clear hK; clear Kv)))
      exact store_desk zstp none 0 0 hk (fun W3 hk hc => ⟨_, by simp [go_sem, hc], k0 _ (gapsM_no (.inr (.inr hb))) hk.below⟩)
    | true =>
      have e0 := gapsM_yes hd ha hb
      obtain ⟨l1, hv⟩ := accepts_len ha
      obtain ⟨l2, _⟩ := accepts_len hb
      have hv7 := validS_len hv
      have hgl := gapL_len (s := s) l1 l2
      have hat := fun i h1 h2 h3 => gapL_at (s := s) (a := x) (b := y) (i := i) h1 h2 h3
      have hrng := gapL_rng (s := s) (a := x) (b := y)
      generalize gapL s x y = gl at *
      repeat (any_goals (first
      | ((with_reducible refine local_desk s ad s.bases.length c hk ?_); intro b7 W7 hk hb7 hg7)
      | (with_reducible first|((refine idGd ?_); refine zC ?_)|((refine idPick ?_); refine yC ?_)|((refine idCond ?_); refine yM ?_))
      | ((with_reducible refine idO ?_); (with_reducible refine oM_gen fun Kv hK=>?_); simp [go_sem, hk.cells]; refine hK _ _ ?_; clear hK; clear Kv)))
      have hgW : g < W7.heap.size := mine_lt hk.mine
      have hk0 := hk
      refine ⟨GpJ gl W7, pdMu x.answers.length, ⟨Below.refl _ _, _, _, _, 0, rfl, by omega, World.ownsRow_nil _ _ _ _⟩, ?_⟩
      rintro _ _ w5 ⟨h5, u1, u2, o, i, rfl, hi, ho⟩
      have hk := hk.next h5
      by_cases hin : i = x.answers.length
      · rw [List.take_of_length_le (by omega)] at ho
        have hints := ho.ints hrng (by omega)
        obtain ⟨g', cap, cur, rfl, hlt, hB, _, _, hcp, hcell⟩ := owns_cells ho (by omega)
        obtain ⟨x0, hx0⟩ : ∃ x0, gl.headD 0 = x0 := ⟨_, rfl⟩
        rw [hx0] at e0
        have c8 : w5.cell? ⟨g', 0, none⟩ = some (.int .i64 x0) := hcell 0 _ (by
          rw [flat_int, ← hx0]
          cases hgl2 : gl with
          | nil => rw [hgl2] at hgl; simp at hgl; omega
          | cons a l => rfl)
        have hk := hk.add1 c8 (by omega)
        have hgl8 : 0 < gl.length := by omega
        repeat (any_goals (first
        | (with_reducible ((refine idCond ?_); refine yO ?_))
        | ((with_reducible refine idO ?_); (with_reducible refine oM_gen fun Kv hK=>?_); simp [go_sem]; refine hK _ _ ?_; clear hK; clear Kv)))
        refine ⟨KnM w _ g 5, hk.drew, ?_⟩
        have hints := hints.next .drawn
        have hk := hk.drew
        repeat (any_goals (first
        | (with_reducible refine And.intro hk ?_)
        | (with_reducible refine pureH_in ?_)
        | ((with_reducible refine idOH ?_); (with_reducible refine oH_of ⟨_, rfl⟩ (fun W0 hW0 => by (refine oM_gen (fun Kv hK => ?_)); simp [go_sem, hW0.cells]; (first | exact hK _ _ ⟨rfl, rfl⟩ | exact ⟨by omega, hK _ _ ⟨rfl, rfl⟩⟩)) ?_))))
        refine store_desk2 s ad _ c hk (fun W3 hk hc hgr => ⟨hk, hk, hk, _, by simp [go_sem, hc], k2 _ _ _ _ e0 hk.below ⟨hints.row.keep hgr.size (fun i hi hlt => hgr.block i hlt ?_), hrng, by omega⟩ ⟨_, _, _, rfl, hcp⟩⟩)
        cases hi
        intro e
        have e2 : g' = g := Option.some.inj e
        omega
      · obtain ⟨b1, o1, rfl, hb1, ca, ra, _⟩ := hxa.at (i := i) (by omega)
        obtain ⟨b2, o2, rfl, hb2, cb, rb, _⟩ := hya.at (i := i) (by omega)
        repeat (any_goals (first
        | (with_reducible ((refine idCond ?_); refine yN ?_))
        | ((with_reducible refine idO ?_); (with_reducible refine oM_gen fun Kv hK=>?_); simp [go_sem, ca _ hk.below, hk.cells]; (first|refine hK _ _ ?_|refine And.intro (by omega) (hK _ _ ?_)); clear hK; clear Kv)))
        refine ⟨KnM w _ g 5, hk.drew, ?_⟩
        have h5 := h5.trans (Below.drawn (w := w5))
        have ho := ho.keep (Below.drawn (w := w5))
        have hk := hk.drew
        repeat (any_goals (first
        | (with_reducible refine And.intro hk ?_)
        | (with_reducible refine pureH_in ?_)
        | ((with_reducible refine idOH ?_); (with_reducible refine oH_of ⟨_, rfl⟩ (fun W0 hW0 => by (refine oM_gen (fun Kv hK => ?_)); simp [go_sem, hW0.cells, cb _ hW0.below]; (first | exact hK _ _ ⟨rfl, rfl⟩ | exact ⟨by omega, hK _ _ ⟨rfl, rfl⟩⟩)) ?_))))
        refine less_ok s _ _ (hs.next hk.below) (fun w6 h6 => ?_)
        have hk := hk.next h6
        have ho := ho.keep h6
        have h5 := h5.on h6
        refine ⟨hk, mk1 _ (subM_I64 _ _ _) (fun v7 w7 h7 hi7 => ?_)⟩
        have hk := hk.next h7
        have ho := ho.keep h7
        have h5 := h5.on h7
        refine ⟨hk, append1 ho h5.size hi7 (by simp; omega) (fun v8 w8 ho8 h8 => ?_)⟩
        have h5 := h5.trans h8
        have hk := hk0.next h5
        refine ⟨hk, ?_⟩
        repeat (any_goals (first
        | (with_reducible refine And.intro hk ?_)
        | ((with_reducible refine idO ?_); (with_reducible refine oM_gen fun Kv hK=>?_); simp [go_sem]; (try simp (disch := omega) only [wrapI64, wrapU8, wrapU32, wrapU64]); refine hK _ _ ?_; clear hK; clear Kv)))
        refine ⟨⟨h5, _, _, _, i + 1, rfl, by omega, ?_⟩, ?_⟩
        · rw [List.take_succ_eq_append_getElem (by omega), hat i (by omega) (by omega) (by omega)]
          exact ho8
        · simp only [pdMu_eq]; omega
end
end Go.Proofs
namespace Go.Proofs
open Go Go.Sh Go.RowKit FdSpec TkSpec
set_option linter.unusedSimpArgs false
set_option linter.unusedVariables false
set_option maxRecDepth 10000
section
variable {K : Value → World → Prop} {w w0 : World} {L : List (Addr × Value)}
theorem _root_.Go.Sh.Ints.tail {b o n c : Nat} {l : List Int} (h : Ints w (.slice (some ⟨b, o, none⟩) n c) l) (hne : 0 < l.length) : Ints w (.slice (some ⟨b, o + 1, none⟩) (n - 1) (c - 1)) l.tail := by
  obtain ⟨⟨ad, c', hv, h0, hc⟩, hr, hl⟩ := h
  cases hv
  refine ⟨⟨some ⟨b, o + 1, none⟩, c - 1, by rw [List.length_tail], by simp, ?_⟩, fun n hn => hr n (List.mem_of_mem_tail hn), by rw [List.length_tail]; omega⟩
  rcases hc with rfl | ⟨b', o', hbo, hlt, hcell⟩
  · simp at hne
  · cases hbo
    refine .inr ⟨b, o + 1, rfl, hlt, fun k x hk => ?_⟩
    have := hcell (k + 1) x (by
      rw [flat_int] at hk ⊢
      rw [← hk]
      simp)
    rw [show o + 1 + k = o + (k + 1) by omega]
    exact this
theorem traceM_no {s : Stp} {t : Tkt} {a b : Spd} (h : (gapsM s t a b).2 = false) : traceM s t a b = ([], false) := by
  unfold traceM; rw [if_neg (by simp [h])]
theorem gapsM_len {s : Stp} {t : Tkt} {a b : Spd} (h : (gapsM s t a b).2 = true) : (gapsM s t a b).1.length = s.bases.length ∧ validS s = true := by
  by_cases h1 : a.dare = b.dare
  · rw [gapsM_no (.inl h1)] at h; cases h
  cases h2 : acceptsM s t a with
  | false => rw [gapsM_no (.inr (.inl h2))] at h; cases h
  | true =>
    cases h3 : acceptsM s t b with
    | false => rw [gapsM_no (.inr (.inr h3))] at h; cases h
    | true =>
      rw [gapsM_yes h1 h2 h3]
      obtain ⟨l1, hv⟩ := accepts_len h2
      obtain ⟨l2, _⟩ := accepts_len h3
      exact ⟨gapL_len l1 l2, hv⟩
def TrJ (n : Nat) (tl : List Int) (Wl : World) (vs : List Value) (w' : World) : Prop := Below Wl.heap.size Wl w' ∧ ∃ (v o : Value) (i : Nat), vs = [v, o, .int .i64 (i : Int)] ∧ i ≤ n ∧ OwnI w' Wl.heap.size o (tl.take i)
theorem Trace_ok (s : Stp) (t : Tkt) (x y : Spd) {v xv yv : Value} (ht : TktR t) (hs : SetR w s v) (hx : SpdR w x xv) (hy : SpdR w y yv)
    (k : ∀ w' ov, Below w.heap.size w w' → Ints w' ov (traceM s t x y).1 → K (.tuple #[ov, .bool (traceM s t x y).2]) w') : callM Tryz.prog 31 #[stpV s v, tktV t, spdV x xv, spdV y yv] K w := by
  apply sh_31_ok
  unfold sh_31
  obtain ⟨ad, c, rfl⟩ := hs.ints.isSlice
  have hx0 := hx
  have hy0 := hy
  obtain ⟨xad, xc, rfl⟩ := hx.answers.isSlice
  obtain ⟨yad, yc, rfl⟩ := hy.answers.isSlice
  have k2 : ∀ w' ov r, traceM s t x y = r → Below w.heap.size w w' → Ints w' ov r.1 → K (.tuple #[ov, .bool r.2]) w' := fun w' ov r e hb hi => by
    rw [← e] at hi ⊢
    exact k w' ov hb hi
  clear k
  refine box_kn (cs := stpC s (.slice ad s.bases.length c)) rfl (.start w) fun b1 W hk hb1 hbb => ?_
  refine box_kn (cs := tktC t) rfl hk fun b2 W2 hk hb2 hbb => ?_
  refine box_kn (cs := spdC x (.slice xad x.answers.length xc)) rfl hk fun b3 W3 hk hb3 hbb => ?_
  refine box_kn (cs := spdC y (.slice yad y.answers.length yc)) rfl hk fun b4 W4 hk hb4 hbb => ?_
  clear hb1 hb2 hb3 hb4
  repeat (any_goals ((with_reducible refine idO ?_); (with_reducible refine oM_gen fun Kv hK=>?_); simp [go_sem, hk.cells]; refine hK _ _ ?_; clear hK; clear Kv))
  refine gaps_ok s t x y ht (hs.next hk.below) (hx0.next hk.below) (hy0.next hk.below) (fun w2 s' ad' n' c' ov h2 hgi hcap hds => ?_)
  have hk := hk.next h2
  have hT := traceM_no (s := s) (t := t) (a := x) (b := y)
  have hG := gapsM_len (s := s) (t := t) (a := x) (b := y)
  have eT : (gapsM s t x y).2 = true → traceM s t x y = ((gapsM s t x y).1.tail.map fun n => overQ s n ((gapsM s t x y).1.headD 0), true) := fun h => by unfold traceM; rw [if_pos h]
  obtain ⟨⟨gl, u⟩, hg⟩ : ∃ p, gapsM s t x y = p := ⟨_, rfl⟩
  rw [hg] at hT hG eT hgi hds ⊢
  simp only at hT hG eT hgi hds ⊢
  cases u with
  | false =>
    repeat (any_goals (first
    | ((with_reducible refine local_desk' s' ad' n' c' hk ?_); intro b7 W7 hk hb7 hg7)
    | (with_reducible ((refine idCond ?_); refine yL ?_))
    | ((with_reducible refine idO ?_); (with_reducible refine oM_gen fun Kv hK=>?_); simp [go_sem, hk.cells]; refine hK _ _ ?_; clear hK; clear Kv)))
    exact k2 _ _ _ (hT rfl) hk.below (Ints.nil _)
  | true =>
    have hds := hds rfl
    obtain ⟨hG, hv⟩ := hG rfl
    have hv7 := validS_len hv
    have eT2 := eT rfl
    clear eT
    rw [hds]
    obtain ⟨oad, n0, oc, rfl, hcp⟩ := hcap
    obtain ⟨ob, oo, rfl, c8, r8⟩ := hgi.headD (by omega)
    obtain ⟨oad2, oc2, hoe⟩ := hgi.isSlice
    cases hoe
    obtain ⟨x0, hx0⟩ : ∃ x0, gl.headD 0 = x0 := ⟨_, rfl⟩
    rw [hx0] at c8 r8 eT2
    repeat (any_goals (first
    | ((with_reducible refine local_desk' s ad s.bases.length c hk ?_); intro b7 W7 hk hb7 hg7)
    | (with_reducible ((refine idCond ?_); refine yM ?_))
    | ((with_reducible refine idO ?_); (with_reducible refine oM_gen fun Kv hK=>?_); simp [go_sem, hk.cells]; refine hK _ _ ?_; clear hK; clear Kv)))
    refine sliceFrom_at (by kernel_rfl) (sz := 1) (fun w => by kernel_rfl) 1 (by omega) (by omega) ?_
    have hti := (hgi.tail (by omega)).next hb7
    have c8 := fun w' hb => c8 w' (hb7.on hb)
    have htl : gl.tail.length = gl.length - 1 := List.length_tail
    have hat : ∀ (i : Nat) (y : Int), gl.tail[i]? = some y → (gl.tail.map fun n => overQ s n x0)[i]? = some (overQ s y x0) := fun i y h => by rw [List.getElem?_map, h]; rfl
    have hml : (gl.tail.map fun n => overQ s n x0).length = gl.tail.length := by simp
    have hrng : ∀ n ∈ (gl.tail.map fun n => overQ s n x0), I64 n := by
      intro n hn
      obtain ⟨m, _, rfl⟩ := List.mem_map.1 hn
      exact mulQ_I64 _ _ _ (by simp)
    generalize (gl.tail.map fun n => overQ s n x0) = tl at *
    generalize gl.tail = gt at *
    repeat (any_goals ((with_reducible refine idO ?_); (with_reducible refine oM_gen fun Kv hK=>?_); simp [go_sem]; refine hK _ _ ?_; clear hK; clear Kv))
    refine ⟨TrJ gt.length tl W7, vsMu gt.length, ⟨Below.refl _ _, _, _, 0, rfl, by omega, World.ownsRow_nil _ _ _ _⟩, ?_⟩
    have hk0 := hk
    rintro _ _ w5 ⟨h5, u1, o, i, rfl, hi, ho⟩
    have hk := hk0.next h5
    by_cases hin : i = gt.length
    · rw [List.take_of_length_le (by omega)] at ho
      repeat (any_goals (first
      | (with_reducible ((refine idCond ?_); refine yO ?_))
      | ((with_reducible refine idO ?_); (with_reducible refine oM_gen fun Kv hK=>?_); simp [go_sem]; refine hK _ _ ?_; clear hK; clear Kv)))
      exact k2 _ _ _ eT2 hk.below (ho.ints hrng (by omega))
    · obtain ⟨b1, o1, hbe, hb1, ca, ra, hnn⟩ := hti.at (i := i) (by omega)
      cases hbe
      repeat (any_goals (first
      | (with_reducible ((refine idCond ?_); refine yN ?_))
      | ((with_reducible refine idO ?_); (with_reducible refine oM_gen fun Kv hK=>?_); simp [go_sem, ca _ h5]; (first|refine hK _ _ ?_|refine And.intro (by omega) (hK _ _ ?_)); clear hK; clear Kv)))
      refine ⟨fun w' => Kn w _ w' ∧ Below W7.heap.size W7 w', ⟨hk.drew, h5.trans .drawn⟩, ?_⟩
      have h5 := h5.trans (Below.drawn (w := w5))
      have ho := ho.keep (Below.drawn (w := w5))
      have hk := hk.drew
      have hgl8 : 0 < gl.length := by omega
      repeat (any_goals (first
      | (with_reducible refine pureH_in ?_)
      | ((with_reducible refine idOH ?_); (with_reducible refine oH_of ⟨_, rfl⟩ (fun W0 hW0 => by (refine oM_gen (fun Kv hK => ?_)); simp [go_sem, hW0.1.cells, c8 _ hW0.2]; (first | exact hK _ _ ⟨rfl, rfl⟩ | exact ⟨by omega, hK _ _ ⟨rfl, rfl⟩⟩)) ?_))))
      refine over_ok s _ _ (hs.next hk.below) (fun w6 h6 => ?_)
      have hk := hk.next h6
      have ho := ho.keep h6
      have h5 := h5.on h6
      refine ⟨⟨hk, h5⟩, mk1 _ (mulQ_I64 _ _ _ (by simp)) (fun v7 w7 h7 hi7 => ?_)⟩
      have hk := hk.next h7
      have ho := ho.keep h7
      have h5 := h5.on h7
      refine ⟨⟨hk, h5⟩, append1 ho h5.size hi7 (by simp; omega) (fun v8 w8 ho8 h8 => ?_)⟩
      have h5 := h5.trans h8
      have hk := hk0.next h5
      refine ⟨⟨hk, h5⟩, ⟨hk, h5⟩, ?_⟩
      repeat (any_goals ((with_reducible refine idO ?_); (with_reducible refine oM_gen fun Kv hK=>?_); simp [go_sem]; (try simp (disch := omega) only [wrapI64, wrapU8, wrapU32, wrapU64]); refine hK _ _ ?_; clear hK; clear Kv))
      refine ⟨⟨h5, _, _, i + 1, rfl, by omega, ?_⟩, ?_⟩
      · have e2 : tl.take (i + 1) = tl.take i ++ [overQ s gt[i] x0] := by
          rw [List.take_add_one, hat i _ (List.getElem?_eq_getElem (by omega))]
          rfl
        rw [e2]
        exact ho8
      · simp only [vsMu_eq]; omega
end
end Go.Proofs
namespace Go.Proofs
open Go Go.Sh Go.RowKit FdSpec TkSpec
set_option linter.unusedSimpArgs false
set_option linter.unusedVariables false
set_option maxRecDepth 10000
section
variable {K : Value → World → Prop} {w w0 : World} {L : List (Addr × Value)}
theorem guiltyM_no {s : Stp} {t : Tkt} {a b : Spd} {l : List Int} (h : (gapsM s t a b).2 = false ∨ l.length + 1 ≠ (gapsM s t a b).1.length ∨ numsM s 0 l = false) : guiltyM s t a b l = false := by
  unfold guiltyM
  rw [if_neg]
  rcases h with h | h | h <;> simp [h]
def GuJ (ps : List (Int × Int)) (f : Int × Int → Bool) (R : Bool) (Wl : World) (vs : List Value) (w' : World) : Prop := Below Wl.heap.size Wl w' ∧ ∃ (v u o : Value) (i : Nat), vs = [v, u, o, .int .i64 (i : Int)] ∧ i ≤ ps.length ∧ (ps.drop i).all f = R
theorem Guilty_ok (s : Stp) (t : Tkt) (x y : Spd) {v xv yv lv : Value} {l : List Int} (ht : TktR t) (hs : SetR w s v) (hx : SpdR w x xv) (hy : SpdR w y yv) (hl : Ints w lv l)
    (k : ∀ w', Below w.heap.size w w' → K (.bool (guiltyM s t x y l)) w') : callM Tryz.prog 32 #[stpV s v, tktV t, spdV x xv, spdV y yv, lv] K w := by
  apply sh_32_ok
  unfold sh_32
  obtain ⟨ad, c, rfl⟩ := hs.ints.isSlice
  have hx0 := hx
  have hy0 := hy
  obtain ⟨xad, xc, rfl⟩ := hx.answers.isSlice
  obtain ⟨yad, yc, rfl⟩ := hy.answers.isSlice
  obtain ⟨lad, lc, rfl⟩ := hl.isSlice
  have hll := hl.len
  have k2 : ∀ w' r, guiltyM s t x y l = r → Below w.heap.size w w' → K (.bool r) w' := fun w' r e hb => by
    rw [← e]
    exact k w' hb
  clear k
  refine box_kn (cs := stpC s (.slice ad s.bases.length c)) rfl (.start w) fun b1 W hk hb1 hbb => ?_
  refine box_kn (cs := tktC t) rfl hk fun b2 W2 hk hb2 hbb => ?_
  refine box_kn (cs := spdC x (.slice xad x.answers.length xc)) rfl hk fun b3 W3 hk hb3 hbb => ?_
  refine box_kn (cs := spdC y (.slice yad y.answers.length yc)) rfl hk fun b4 W4 hk hb4 hbb => ?_
  clear hb1 hb2 hb3 hb4
  repeat (any_goals ((with_reducible refine idO ?_); (with_reducible refine oM_gen fun Kv hK=>?_); simp [go_sem, hk.cells]; refine hK _ _ ?_; clear hK; clear Kv))
  refine gaps_ok s t x y ht (hs.next hk.below) (hx0.next hk.below) (hy0.next hk.below) (fun w2 s' ad' n' c' ov h2 hgi hcap hds => ?_)
  have hk := hk.next h2
  have hN := guiltyM_no (s := s) (t := t) (a := x) (b := y) (l := l)
  have hG := gapsM_len (s := s) (t := t) (a := x) (b := y)
  have eT : (gapsM s t x y).2 = true → l.length + 1 = (gapsM s t x y).1.length → numsM s 0 l = true → guiltyM s t x y l = (l.zip (gapsM s t x y).1.tail).all fun p => decide (mulQ s p.1 [(gapsM s t x y).1.headD 0] = p.2) := fun h1 h2 h3 => by
    unfold guiltyM; rw [if_pos (by rw [h1, h3, decide_eq_true h2]; rfl)]
  obtain ⟨⟨gl, u⟩, hg⟩ : ∃ p, gapsM s t x y = p := ⟨_, rfl⟩
  rw [hg] at hN hG eT hgi hds ⊢
  simp only at hN hG eT hgi hds ⊢
  obtain ⟨oad0, oc0, rfl⟩ := hgi.isSlice
  have hgl := hgi.len
  cases u with
  | false =>
    repeat (any_goals (first
    | ((with_reducible refine local_desk' s' ad' n' c' hk ?_); intro b7 W7 hk hb7 hg7)
    | (with_reducible first|((refine idGd ?_); refine zD ?_)|((refine idPick ?_); refine yB ?_)|((refine idCond ?_); refine yL ?_))
    | ((with_reducible refine idO ?_); (with_reducible refine oM_gen fun Kv hK=>?_); simp [go_sem, hk.cells]; refine hK _ _ ?_; clear hK; clear Kv)))
    exact k2 _ _ (hN (.inl rfl)) hk.below
  | true =>
    have hds := hds rfl
    obtain ⟨hG, hv⟩ := hG rfl
    have hv7 := validS_len hv
    rw [hds]
    by_cases hlen : l.length + 1 = gl.length
    · repeat (any_goals (first
      | ((with_reducible refine local_desk' s ad s.bases.length c hk ?_); intro b7 W7 hk hb7 hg7)
      | (with_reducible first|refine pureM_in ?_|((refine idGd ?_); first|refine zC ?_|((refine idGdN ?_); refine zO ?_))|((refine idPick ?_); refine yC ?_))
      | ((with_reducible refine idO ?_); (with_reducible refine oM_gen fun Kv hK=>?_); simp [go_sem, hk.cells]; (try simp (disch := omega) only [wrapI64, wrapU8, wrapU32, wrapU64]); refine hK _ _ ?_; clear hK; clear Kv)))
      have hk0 := hk
      refine nums_ok s 0 (hs.next hk.below) (hl.next hk.below) (fun w3 h3 => ?_)
      have hk := hk.next h3
      cases hn : numsM s 0 l with
      | false =>
        repeat (any_goals (first
        | (with_reducible first|((refine idGd ?_); ((refine idGdN ?_); refine zO ?_))|((refine idPick ?_); refine yG ?_)|((refine idCond ?_); refine yL ?_))
        | ((with_reducible refine idO ?_); (with_reducible refine oM_gen fun Kv hK=>?_); simp [go_sem, hk.cells]; refine hK _ _ ?_; clear hK; clear Kv)))
        exact k2 _ _ (hN (.inr (.inr hn))) hk.below
      | true =>
        have eT2 := eT rfl hlen hn
        obtain ⟨x0, hx0⟩ : ∃ x0, gl.headD 0 = x0 := ⟨_, rfl⟩
        obtain ⟨ob, oo, rfl, c8, r8⟩ := hgi.headD (by omega)
        rw [hx0] at c8 r8 eT2
        have c8 := fun w' hb => c8 w' (hb7.on (h3.on hb))
        have hgi3 := (hgi.next hb7).next h3
        have hzl : (l.zip gl.tail).length = l.length := by simp; omega
        repeat (any_goals (first
        | (with_reducible first|((refine idGd ?_); ((refine idGdN ?_); refine zO ?_))|((refine idPick ?_); refine yG ?_)|((refine idCond ?_); refine yM ?_))
        | ((with_reducible refine idO ?_); (with_reducible refine oM_gen fun Kv hK=>?_); simp [go_sem, hk.cells]; refine hK _ _ ?_; clear hK; clear Kv)))
        refine ⟨GuJ (l.zip gl.tail) (fun p => decide (mulQ s p.1 [x0] = p.2)) _ w3, pdMu l.length, ⟨Below.refl _ _, _, _, _, 0, rfl, by omega, rfl⟩, ?_⟩
        have hk0 := hk
        rintro _ _ w5 ⟨h5, u1, u2, u3, i, rfl, hi, hall⟩
        rw [hzl] at hi
        have hk := hk0.next h5
        by_cases hin : i = l.length
        · rw [List.drop_of_length_le (by omega), List.all_nil] at hall
          repeat (any_goals (first
          | (with_reducible ((refine idCond ?_); refine yO ?_))
          | ((with_reducible refine idO ?_); (with_reducible refine oM_gen fun Kv hK=>?_); simp [go_sem]; refine hK _ _ ?_; clear hK; clear Kv)))
          exact k2 _ _ (eT2.trans hall.symm) hk.below
        · rw [zip_drop l gl.tail i (by omega) (by rw [List.length_tail]; omega), List.all_cons] at hall
          simp only [List.getElem_tail] at hall
          obtain ⟨b1, o1, rfl, hb1, ca, ra, _⟩ := hl.at (i := i) (by omega)
          obtain ⟨b2, o2, hbe, hb2, cb, rb, _⟩ := hgi3.at (i := i + 1) (by omega)
          cases hbe
          repeat (any_goals (first
          | (with_reducible ((refine idCond ?_); refine yN ?_))
          | ((with_reducible refine idO ?_); (with_reducible refine oM_gen fun Kv hK=>?_); simp [go_sem, ca _ hk.below, hk.cells]; (first|refine hK _ _ ?_|refine And.intro (by omega) (hK _ _ ?_)); clear hK; clear Kv)))
          refine ⟨fun w' => Kn w _ w' ∧ Below w3.heap.size w3 w', ⟨hk.drew, h5.trans .drawn⟩, ?_⟩
          have h5 := h5.trans (Below.drawn (w := w5))
          have hk := hk.drew
          have hgl8 : 0 < gl.length := by omega
          have e7 : IntKind.i64.wrap ((i : Int) + 1) = ((i + 1 : Nat) : Int) := by rw [wrapI64 _ (by omega) (by omega)]; omega
          repeat (any_goals (first
          | ((with_reducible refine mk1 x0 r8 ?_); intro v7 w7 h7 hi7)
          | (with_reducible refine pureH_in ?_)
          | ((with_reducible refine idOH ?_); (with_reducible refine oH_of ⟨_, rfl⟩ (fun W0 hW0 => by (refine oM_gen (fun Kv hK => ?_)); simp [go_sem, hW0.1.cells, c8 _ hW0.2, e7, cb _ hW0.2]; (first | exact hK _ _ ⟨rfl, rfl⟩ | exact ⟨by omega, hK _ _ ⟨rfl, rfl⟩⟩)) ?_))))
          have hk := hk.next h7
          have h5 := h5.on h7
          refine ⟨⟨hk, h5⟩, mul_ok s _ (hs.next hk.below) hi7 (fun w8 h8 => ?_)⟩
          have hk := hk.next h8
          have h5 := h5.on h8
          refine ⟨⟨hk, h5⟩, ?_⟩
          by_cases he : mulQ s l[i] [x0] = gl[i + 1]
          · repeat (any_goals ((with_reducible refine idO ?_); (with_reducible refine oM_gen fun Kv hK=>?_); simp [go_sem]; refine hK _ _ ?_; clear hK; clear Kv))
            refine ⟨⟨hk, h5⟩, ?_⟩
            repeat (any_goals (first
            | (with_reducible ((refine idCond ?_); refine yR ?_))
            | ((with_reducible refine idO ?_); (with_reducible refine oM_gen fun Kv hK=>?_); simp [go_sem, he]; (try simp (disch := omega) only [wrapI64, wrapU8, wrapU32, wrapU64]); refine hK _ _ ?_; clear hK; clear Kv)))
            rw [decide_eq_true he, Bool.true_and] at hall
            refine ⟨⟨h5, _, _, _, i + 1, rfl, by omega, hall⟩, ?_⟩
            simp only [pdMu_eq]; omega
          · repeat (any_goals ((with_reducible refine idO ?_); (with_reducible refine oM_gen fun Kv hK=>?_); simp [go_sem]; refine hK _ _ ?_; clear hK; clear Kv))
            refine ⟨⟨hk, h5⟩, ?_⟩
            repeat (any_goals (with_reducible ((refine idCond ?_); refine yQ ?_)))
            rw [decide_eq_false he, Bool.false_and] at hall
            exact k2 _ _ (eT2.trans hall.symm) hk.below
    · repeat (any_goals (first
      | ((with_reducible refine local_desk' s ad s.bases.length c hk ?_); intro b7 W7 hk hb7 hg7)
      | (with_reducible first|refine pureM_in ?_|((refine idGd ?_); first|refine zC ?_|((refine idGdN ?_); refine zP ?_))|((refine idPick ?_); first|refine yC ?_|refine yF ?_)|((refine idCond ?_); refine yL ?_))
      | ((with_reducible refine idO ?_); (with_reducible refine oM_gen fun Kv hK=>?_); simp [go_sem, hk.cells]; (try simp (disch := omega) only [wrapI64, wrapU8, wrapU32, wrapU64]); refine hK _ _ ?_; clear hK; clear Kv)))
      exact k2 _ _ (hN (.inr (.inl hlen))) hk.below
end
end Go.Proofs
namespace Go.Proofs
open Go Go.Sh Go.RowKit FdSpec TkSpec
set_option linter.unusedSimpArgs false
set_option linter.unusedVariables false
set_option maxRecDepth 10000
section
variable {K : Value → World → Prop} {w w0 w1 : World} {L : List (Addr × Value)}
theorem sz_spd (w : World) : (sizeOf 49).run Tryz.prog w = .ok 2 w := by kernel_rfl
theorem sz_ints (w : World) : (sizeOf 22).run Tryz.prog w = .ok 1 w := by kernel_rfl
theorem al_spd (w : World) : (Instr.alloc 49 true (.tuple #[])).run Tryz.prog w = .ok (.pointer (some ⟨w.heap.size, 0, none⟩)) (w.alloc (.cells [.int .i64 0, .slice none 0 0].toArray 49)) := by kernel_rfl
theorem spd_one (x : Spd) (ad : Option Addr) (n c : Nat) : ∀ u ∈ spdC x (.slice ad n c), u.oneCell' = true := by
  intro u hu
  simp only [spdC, List.mem_cons, List.not_mem_nil, or_false] at hu
  rcases hu with rfl | rfl <;> rfl
theorem store_spd {K : Value → World → Prop} {T' : TypeId} {g : Nat} (x : Spd) (ad : Option Addr) (m c : Nat) (hk : KnM w0 L g 2 w)
    (k : ∀ W, KnM w0 L g 2 W → cellsAre W (cellsOf [] g 0 (spdC x (.slice ad m c))) → w.grownBy W (some g) → K undef W) : oM Tryz.prog (.store 49 (.tmp 0) (.tmp 1)) T' [.pointer (some ⟨g, 0, none⟩), spdV x (.slice ad m c)] K w := by
  obtain ⟨W, e, hg, hm, hc⟩ := store_run (P := Tryz.prog) (W := w) sz_spd (x := spdV x (.slice ad m c)) rfl rfl (spd_one x ad m c) hk.mine
  rw [oM_store, e]
  exact k W ⟨hk.kn.wrote hg hk.base hk.off, hm, hk.base, hk.off⟩ hc hg
theorem store_row {P : Program} {T T0 : TypeId} {g o n : Nat} {cur : Array Value} {x : Value} {xs : List Value} (hT : ∀ w, (sizeOf T).run P w = .ok n w) (hx : x.cells = xs.toArray) (hl : xs.length = n) (h1 : ∀ u ∈ xs, u.oneCell' = true) (hg : w.heap[g]? = some (.cells cur T0 (0, 0))) (hfit : o + n ≤ cur.size) :
    (Instr.storeAt T (.pointer (some ⟨g, o, none⟩)) x).run P w = .ok () (w.setRow g (cur.toList.take o ++ xs ++ cur.toList.drop (o + xs.length)).toArray) := by
  have hst := run_storeCells_at P g o T0 xs 0 cur w hg (by omega) h1
  rw [Nat.add_zero] at hst
  unfold Instr.storeAt storeVar
  have e2 : x.cells.toList = xs := by rw [hx]
  have e3 : x.cells.size = n := by rw [hx]; simpa using hl
  rw [e2, e3]
  rw [List.append_assoc] at hst ⊢
  simp [hT, go_sem]
  exact hst
theorem local_spd {K : Value → World → Prop} {T' T2 : TypeId} {g n : Nat} (x : Spd) (hk : KnM w0 L g n w)
    (k : ∀ b W, KnM w0 L g n W → Below w.heap.size w W → w.heap.size ≤ b → W.heap[b]? = some (.cells #[.int .i64 x.dare, .slice none 0 0] 49 (0, 0)) → K (.pointer (some ⟨b, 0, none⟩)) W) :
    oM Tryz.prog (.alloc 49) T' [] (fun v w => oM Tryz.prog (.store 49 (.tmp 0) (.tmp 1)) T2 [v, spdV x (.slice none 0 0)] (fun _ w => K v w) w) w := by
  rw [oM_alloc, al_spd, rM_ok]
  have hb := (Below.refl w.heap.size w).alloc (Nat.le_refl _) (.cells [Value.int .i64 0, .slice none 0 0].toArray 49)
  have hg0 : (w.alloc (.cells [Value.int .i64 0, .slice none 0 0].toArray 49)).heap[w.heap.size]? = some (.cells [Value.int .i64 0, .slice none 0 0].toArray 49 (0, 0)) := Array.getElem?_push_size
  generalize w.alloc (.cells [Value.int .i64 0, .slice none 0 0].toArray 49) = W at *
  have hrun := store_row (P := Tryz.prog) (w := W) (o := 0) sz_spd (x := spdV x (.slice none 0 0)) rfl rfl (spd_one x none 0 0) hg0 (by simp)
  have e1 : ([Value.int .i64 0, .slice none 0 0].toArray.toList.take 0 ++ spdC x (.slice none 0 0) ++ [Value.int .i64 0, .slice none 0 0].toArray.toList.drop (0 + (spdC x (.slice none 0 0)).length)).toArray = #[.int .i64 x.dare, .slice none 0 0] := by simp
  rw [e1] at hrun
  have hh := setRow_heap W w.heap.size _ #[Value.int .i64 x.dare, .slice none 0 0] 49 (0, 0) hg0
  rw [oM_store, hrun]
  have hb2 : Below w.heap.size w (W.setRow w.heap.size #[Value.int .i64 x.dare, .slice none 0 0]) := hb.grown (grown_setRow _ _ _) hb.size (fun k hk => by cases hk; exact Nat.le_refl _)
  exact k _ _ (hk.next hb2) hb2 (Nat.le_refl _) hh
theorem store_second {K : Value → World → Prop} {T' : TypeId} {g : Nat} {ad : Option Addr} {m c : Nat} {a b : Value} (hg : w.heap[g]? = some (.cells #[a, b] 49 (0, 0)))
    (k : ∀ W, w.grownBy W (some g) → W.heap[g]? = some (.cells #[a, .slice ad m c] 49 (0, 0)) → K undef W) : oM Tryz.prog (.store 22 (.tmp 0) (.tmp 1)) T' [.pointer (some ⟨g, 1, none⟩), .slice ad m c] K w := by
  have hrun := store_row (P := Tryz.prog) (o := 1) sz_ints (x := .slice ad m c) rfl rfl (xs := [Value.slice ad m c]) (by intro u hu; simp at hu; subst hu; rfl) hg (by simp)
  have hh := setRow_heap w g _ #[a, .slice ad m c] 49 (0, 0) hg
  have e1 : (#[a, b].toList.take 1 ++ [Value.slice ad m c] ++ #[a, b].toList.drop (1 + [Value.slice ad m c].length)).toArray = #[a, .slice ad m c] := by simp
  rw [e1] at hrun
  rw [oM_store, hrun]
  exact k _ (grown_setRow _ _ _) hh
abbrev FrG (g : Nat) (w w' : World) : Prop := Fr (fun i => i = g) w w'
theorem FrG.next {g : Nat} {w' : World} (h : FrG g w w1) (hb : Below w1.heap.size w1 w') : FrG g w w' :=
  h.trans (S' := fun _ => False) ⟨hb.os, hb.tape, hb.output, hb.size, fun i hi _ => hb.block i hi⟩ (fun _ h => h.elim)
theorem FrG.below {g : Nat} {w' : World} (h0 : Below w.heap.size w w1) (h : FrG g w1 w') (hg : w.heap.size ≤ g) : Below w.heap.size w w' :=
  ⟨h.os.trans h0.os, h.tape.trans h0.tape, h.output.trans h0.output, Nat.le_trans h0.size h.size, fun i hi => (h.block i (Nat.lt_of_lt_of_le hi h0.size) (fun e => by omega)).trans (h0.block i hi)⟩
theorem cellsAre_fr {g : Nat} {w' : World} (hL : cellsAre w L) (h : FrG g w w') (hn : ∀ p ∈ L, p.1.block ≠ g) : cellsAre w' L :=
  cellsAre_keepBut hL hn fun a ha hna => World.cell?_of_block (w := w) (h.block _ ha hna)
theorem _root_.Go.Sh.KnM.fr {g n g' : Nat} {w' : World} (hk : KnM w0 L g n w) (h : FrG g' w w') (hoff : ∀ p ∈ L, p.1.block ≠ g') (hne : g ≠ g') (hb : w0.heap.size ≤ g') : KnM w0 L g n w' := by
  obtain ⟨cur, T, h1, h2⟩ := hk.mine
  exact ⟨⟨FrG.below hk.below h hb, cellsAre_fr hk.cells h hoff⟩, ⟨cur, T, by rw [h.block g (mine_lt hk.mine) hne]; exact h1, h2⟩, hk.base, hk.off⟩
theorem Ints.fr {g : Nat} {w' : World} {v : Value} {l : List Int} (hi : Ints w v l) (h : FrG g w w') (hne : ∀ i, Value.inBlock v = some i → i ≠ g) : Ints w' v l :=
  ⟨hi.row.keep h.size (fun i e hlt => h.block i hlt (hne i e)), hi.rng, hi.len⟩
def UsC (St : World → Prop) (j : Nat) (w' : World) : Prop := j ≤ 4 → St w'
theorem usGet {St : World → Prop} {n : Nat} {w' : World} (h : upto (UsC St) n w') (hn : n ≤ 4) : St w' := by
  obtain ⟨s, hs, hc⟩ := h
  exact hc (Nat.le_trans hs hn)
end
end Go.Proofs
namespace Go.Proofs
open Go Go.Sh Go.RowKit FdSpec TkSpec
set_option linter.unusedSimpArgs false
set_option linter.unusedVariables false
set_option maxRecDepth 10000
section
variable {K : Value → World → Prop} {w w0 w1 : World} {L : List (Addr × Value)}
def ansL (s : Stp) (l : List Int) (b : Bld) (dare : Int) : List Int := ((expsM l).zip b.ys).map fun p => plusQ s p.2 (mulQ s dare [b.s, p.1])
theorem useM_no {s : Stp} {l : List Int} {b : Bld} {dare : Int} (h : (usableM s l).2 = false ∨ blindsM s b = false ∨ numsM s 1 [dare] = false) : useM s l b dare = (⟨0, []⟩, false) := by
  unfold useM
  rw [if_neg]
  rcases h with h | h | h <;> simp [h]
theorem useM_yes {s : Stp} {l : List Int} {b : Bld} {dare : Int} (h1 : (usableM s l).2 = true) (h2 : blindsM s b = true) (h3 : numsM s 1 [dare] = true) : useM s l b dare = (⟨dare, ansL s l b dare⟩, true) := by
  unfold useM
  rw [if_pos (by rw [h1, h2, h3]; rfl)]
  rfl
theorem usable_len {s : Stp} {l : List Int} (h : (usableM s l).2 = true) : l.length + 1 = s.bases.length ∧ validS s = true := by
  unfold usableM at h
  simp only [Bool.and_eq_true] at h
  have h := h.1
  unfold markM at h
  split at h
  · rename_i hc
    simp only [Bool.and_eq_true, decide_eq_true_eq] at hc
    exact ⟨hc.1.1.2, hc.1.1.1⟩
  · cases h
theorem blinds_len {s : Stp} {b : Bld} (h : blindsM s b = true) : b.ys.length = s.bases.length := by
  unfold blindsM at h
  simp only [Bool.and_eq_true, decide_eq_true_eq] at h
  exact h.1.2
def UsJ (al : List Int) (dare : Int) (g13 : Nat) (Wl : World) (vs : List Value) (w' : World) : Prop := FrG g13 Wl w' ∧ ∃ (v u ov : Value) (i : Nat), vs = [v, u, .int .i64 (i : Int)] ∧ i ≤ al.length ∧ OwnI w' Wl.heap.size ov (al.take i) ∧ w'.heap[g13]? = some (.cells #[.int .i64 dare, ov] 49 (0, 0))
theorem Use_okF (s : Stp) (b : Bld) (dare : Int) {v bv lv : Value} {l : List Int} (hd : I64 dare) (hs : SetR w s v) (hl : Ints w lv l) (hb : BldR w b bv)
    (k : ∀ w' ov, Below w.heap.size w w' → Ints w' ov (useM s l b dare).1.answers → (∀ i, Value.inBlock ov = some i → w.heap.size ≤ i) → K (.tuple #[spdV (useM s l b dare).1 ov, .bool (useM s l b dare).2]) w') : callM Tryz.prog 15 #[stpV s v, lv, bldV b bv, .int .i64 dare] K w := by
  apply sh_15_ok
  unfold sh_15
  obtain ⟨ad, c, rfl⟩ := hs.ints.isSlice
  have hys := hb.ys
  have hb0 := hb
  obtain ⟨yad, yc, rfl⟩ := hb.ys.isSlice
  have k2 : ∀ w' ov r, useM s l b dare = r → Below w.heap.size w w' → Ints w' ov r.1.answers → (∀ i, Value.inBlock ov = some i → w.heap.size ≤ i) → K (.tuple #[spdV r.1 ov, .bool r.2]) w' := fun w' ov r e hb hi hf => by
    rw [← e] at hi ⊢
    exact k w' ov hb hi hf
  clear k
  refine box_kn (cs := stpC s (.slice ad s.bases.length c)) rfl (.start w) fun b1 W hk hb1 hbb => ?_
  refine box_kn (cs := bldC b (.slice yad b.ys.length yc)) rfl hk fun b2 W2 hk hb2 hbb => ?_
  refine alloc_mine (n := 2) al_spd rfl hk fun g W2 hk hb2 hg => ?_
  clear hb1 hb2
  repeat (any_goals ((with_reducible refine idO ?_); (with_reducible refine oM_gen fun Kv hK=>?_); simp [go_sem, hk.cells]; refine hK _ _ ?_; clear hK; clear Kv))
  refine usable_ok s (hs.next hk.below) (hl.next hk.below) (fun w2 h2 => ?_)
  have hk := hk.next h2
  clear h2
  have hno := useM_no (s := s) (l := l) (b := b) (dare := dare)
  cases hu : (usableM s l).2 with
  | false =>
    repeat (any_goals (first
    | ((with_reducible refine local_desk s ad s.bases.length c hk ?_); intro b7 W7 hk hb7 hg7)
    | (with_reducible first|((refine idGd ?_); refine zD ?_)|((refine idPick ?_); refine yB ?_)|((refine idCond ?_); refine yL ?_))
    | ((with_reducible refine idO ?_); (with_reducible refine oM_gen fun Kv hK=>?_); simp [go_sem, hk.cells]; refine hK _ _ ?_; clear hK; clear Kv)))
    exact store_spd ⟨0, []⟩ none 0 0 hk (fun W3 hk hc _ => ⟨_, by simp [go_sem, hc], k2 _ _ _ (hno (.inl hu)) hk.below (Ints.nil _) (fun i hi => by cases hi)⟩)
  | true =>
    obtain ⟨hll, hv⟩ := usable_len hu
    have hv7 := validS_len hv
    repeat (any_goals (first
    | ((with_reducible refine local_desk s ad s.bases.length c hk ?_); intro b7 W7 hk hb7 hg7)
    | (with_reducible ((refine idGd ?_); refine zC ?_))
    | ((with_reducible refine idO ?_); (with_reducible refine oM_gen fun Kv hK=>?_); simp [go_sem, hk.cells]; refine hK _ _ ?_; clear hK; clear Kv)))
    refine blinds_ok s b (hs.next hk.below) (hb0.next hk.below) (fun w3 h3 => ?_)
    have hk := hk.next h3
    cases hbl : blindsM s b with
    | false =>
      repeat (any_goals (first
      | (with_reducible first|((refine idGd ?_); first|refine zC ?_|refine zD ?_)|((refine idPick ?_); first|refine yB ?_|refine yC ?_)|((refine idCond ?_); refine yL ?_))
      | ((with_reducible refine idO ?_); (with_reducible refine oM_gen fun Kv hK=>?_); simp [go_sem, hk.cells]; refine hK _ _ ?_; clear hK; clear Kv)))
      exact store_spd ⟨0, []⟩ none 0 0 hk (fun W3 hk hc _ => ⟨_, by simp [go_sem, hc], k2 _ _ _ (hno (.inr (.inl hbl))) hk.below (Ints.nil _) (fun i hi => by cases hi)⟩)
    | true =>
      have hyl := blinds_len hbl
      repeat (any_goals (first
      | ((with_reducible refine mk1 dare hd ?_); intro v8 W8 hb8 hi)
      | (with_reducible first|refine pureM_in ?_|((refine idGd ?_); refine zC ?_)|((refine idPick ?_); refine yC ?_))
      | ((with_reducible refine idO ?_); (with_reducible refine oM_gen fun Kv hK=>?_); simp [go_sem, hk.cells]; refine hK _ _ ?_; clear hK; clear Kv)))
      have hk := hk.next hb8
      refine nums_ok s 1 (hs.next hk.below) hi (fun w4 h4 => ?_)
      have hk := hk.next h4
      cases hn : numsM s 1 [dare] with
      | false =>
        repeat (any_goals (first
        | (with_reducible first|((refine idGd ?_); refine zC ?_)|((refine idPick ?_); refine yC ?_)|((refine idCond ?_); refine yL ?_))
        | ((with_reducible refine idO ?_); (with_reducible refine oM_gen fun Kv hK=>?_); simp [go_sem, hk.cells]; refine hK _ _ ?_; clear hK; clear Kv)))
        exact store_spd ⟨0, []⟩ none 0 0 hk (fun W3 hk hc _ => ⟨_, by simp [go_sem, hc], k2 _ _ _ (hno (.inr (.inr hn))) hk.below (Ints.nil _) (fun i hi => by cases hi)⟩)
      | true =>
        have ey := useM_yes hu hbl hn
        have hgW : g < w4.heap.size := mine_lt hk.mine
        have hoffL := cells_lt hk.cells
        repeat (any_goals (first
        | ((with_reducible refine local_spd ⟨dare, []⟩ hk ?_); intro g13 W9 hk hb9 hg13 hh13)
        | (with_reducible first|((refine idGd ?_); refine zC ?_)|((refine idPick ?_); refine yC ?_)|((refine idCond ?_); refine yM ?_))
        | ((with_reducible refine idO ?_); (with_reducible refine oM_gen fun Kv hK=>?_); simp [go_sem, hk.cells]; refine hK _ _ ?_; clear hK; clear Kv)))
        refine exps_ok (hl.next hk.below) (by omega) (by omega) (fun ev w5 he h5 hff => ?_)
        have hg13W := (Array.getElem?_eq_some_iff.1 hh13).1
        have hh13 : w5.heap[g13]? = some (.cells #[.int .i64 dare, .slice none 0 0] 49 (0, 0)) := by rw [h5.block g13 hg13W]; exact hh13
        have hk := hk.next h5
        have hel : (expsM l).length = l.length + 1 := rfl
        have hal : (ansL s l b dare).length = l.length + 1 := by simp [ansL, hel]; omega
        have hat : ∀ (i : Nat) (h1 : i < (expsM l).length) (h2 : i < b.ys.length), (ansL s l b dare)[i]? = some (plusQ s b.ys[i] (mulQ s dare [b.s, (expsM l)[i]])) := fun i h1 h2 => by
          simp [ansL, h1, h2, List.getElem?_zip_eq_some]
          exact ⟨_, _, ⟨rfl, rfl⟩, rfl⟩
        have hrng : ∀ n ∈ ansL s l b dare, I64 n := by
          intro n hn
          obtain ⟨m, _, rfl⟩ := List.mem_map.1 hn
          exact addM_I64 _ _ _
        generalize ansL s l b dare = al at *
        obtain ⟨ead, ec, rfl⟩ := he.isSlice
        have hs5 := h5.size
        have hs9 := hb9.size
        have hing : ∀ i, Value.inBlock (.slice ead (expsM l).length ec) = some i → i ≠ g13 := fun i hi => by
          have := hff i hi
          omega
        repeat (any_goals ((with_reducible refine idO ?_); (with_reducible refine oM_gen fun Kv hK=>?_); simp [go_sem]; refine hK _ _ ?_; clear hK; clear Kv))
        refine ⟨UsJ al dare g13 w5, vsMu (expsM l).length, ⟨Fr.refl _ _, _, _, .slice none 0 0, 0, rfl, by omega, World.ownsRow_nil _ _ _ _, hh13⟩, ?_⟩
        have hk0 := hk
        have hgne : g ≠ g13 := by omega
        have hoff13 : ∀ p ∈ cellsOf (cellsOf (cellsOf [] b1 0 (stpC s (.slice ad s.bases.length c))) b2 0 (bldC b (.slice yad b.ys.length yc))) b7 0 (stpC s (.slice ad s.bases.length c)), p.1.block ≠ g13 := fun p hp => by have := hoffL p hp; omega
        have hw13 : w.heap.size ≤ g13 := Nat.le_trans hk0.base (by omega)
        rintro _ _ w6 ⟨h6, u1, u2, ov, i, rfl, hi, ho, hh⟩
        have hk := hk0.fr h6 hoff13 hgne hw13
        by_cases hin : i = (expsM l).length
        · rw [List.take_of_length_le (by omega)] at ho
          have hints := ho.ints hrng (by omega)
          obtain ⟨g', cap, cur, rfl, hlt, hB, _, _, _, hcell⟩ := owns_cells ho (by omega)
          have c0 : w6.cell? ⟨g13, 0, none⟩ = some (.int .i64 dare) := by rw [cell_of_block hh]; rfl
          have c1 : w6.cell? ⟨g13, 1, none⟩ = some (.slice (some ⟨g', 0, none⟩) al.length cap) := by rw [cell_of_block hh]; rfl
          repeat (any_goals (first
          | (with_reducible ((refine idCond ?_); refine yO ?_))
          | ((with_reducible refine idO ?_); (with_reducible refine oM_gen fun Kv hK=>?_); simp [go_sem, c0, c1]; refine hK _ _ ?_; clear hK; clear Kv)))
          refine store_spd ⟨dare, al⟩ _ _ _ hk (fun W3 hk hc hgr => ⟨_, by simp [go_sem, hc], k2 _ _ _ ey hk.below ⟨hints.row.keep hgr.size (fun i hi hlt => hgr.block i hlt ?_), hrng, by show al.length ≤ _; omega⟩ (fun i hi => by cases hi; have := hk0.below.size; show w.heap.size ≤ g'; omega)⟩)
          cases hi
          intro e
          have e2 : g' = g := Option.some.inj e
          omega
        · have hev := Ints.fr he h6 hing
          have hed := FrG.below hk0.below h6 hw13
          obtain ⟨b8, o8, rfl, hb8', ca, ra, _⟩ := hev.at (i := i) (by omega)
          obtain ⟨b9, o9, rfl, hb9', cb, rb, _⟩ := hys.at (i := i) (by omega)
          have c1 : ∀ w', Below w6.heap.size w6 w' → w'.heap[g13]? = some (.cells #[.int .i64 dare, ov] 49 (0, 0)) := fun w' hw => by rw [hw.block g13 (Array.getElem?_eq_some_iff.1 hh).1]; exact hh
          repeat (any_goals (first
          | (with_reducible ((refine idCond ?_); refine yN ?_))
          | ((with_reducible refine idO ?_); (with_reducible refine oM_gen fun Kv hK=>?_); simp [go_sem, ca _ (Below.refl _ _)]; (first|refine hK _ _ ?_|refine And.intro (by omega) (hK _ _ ?_)); clear hK; clear Kv)))
          refine ⟨UsC (fun w' => KnM w _ g 2 w' ∧ Below w.heap.size w w' ∧ w'.cell? ⟨g13, 1, none⟩ = some ov), fun _ => ⟨hk.drew, hk.drew.below, by rw [cell_of_block (c1 _ .drawn)]; rfl⟩, ?_⟩
          have hk := hk.drew
          have ho := ho.keep (Below.drawn (w := w6))
          have h7 : Below w6.heap.size w6 { w6 with drawn := w6.drawn + 1 } := .drawn
          have hfr := FrG.next h6 h7
          have hh1 := c1 _ h7
          repeat (any_goals (first
          | ((with_reducible refine mk2 b.s _ hb.s ra ?_); intro v10 w10 h10 hi10)
          | (with_reducible refine pureH_in ?_)
          | ((with_reducible refine idOH ?_); (with_reducible refine oH_of ⟨_, rfl⟩ (fun W0 hW0 => by (refine oM_gen (fun Kv hK => ?_)); simp [go_sem, (usGet hW0 (by omega)).1.cells, (usGet hW0 (by omega)).2.2, cb _ (usGet hW0 (by omega)).2.1]; (first | exact hK _ _ ⟨rfl, rfl⟩ | exact ⟨by omega, hK _ _ ⟨rfl, rfl⟩⟩)) ?_))))
          have hk := hk.next h10
          have hh1 : w10.heap[g13]? = _ := (h10.block g13 (Array.getElem?_eq_some_iff.1 hh1).1).trans hh1
          have ho := ho.keep h10
          have hfr := hfr.next h10
          refine ⟨fun _ => ⟨hk, hk.below, by rw [cell_of_block hh1]; rfl⟩, mul_ok s _ (hs.next hk.below) hi10 (fun w11 h11 => ?_)⟩
          have hk := hk.next h11
          have hh1 : w11.heap[g13]? = _ := (h11.block g13 (Array.getElem?_eq_some_iff.1 hh1).1).trans hh1
          have ho := ho.keep h11
          have hfr := hfr.next h11
          refine ⟨fun _ => ⟨hk, hk.below, by rw [cell_of_block hh1]; rfl⟩, plus_ok s _ _ (hs.next hk.below) (fun w12 h12 => ?_)⟩
          have hk := hk.next h12
          have hh1 : w12.heap[g13]? = _ := (h12.block g13 (Array.getElem?_eq_some_iff.1 hh1).1).trans hh1
          have ho := ho.keep h12
          have hfr := hfr.next h12
          refine ⟨fun _ => ⟨hk, hk.below, by rw [cell_of_block hh1]; rfl⟩, mk1 _ (addM_I64 _ _ _) (fun v13 w13 h13 hi13 => ?_)⟩
          have hk := hk.next h13
          have hh1 : w13.heap[g13]? = _ := (h13.block g13 (Array.getElem?_eq_some_iff.1 hh1).1).trans hh1
          have ho := ho.keep h13
          have hfr := hfr.next h13
          refine ⟨fun _ => ⟨hk, hk.below, by rw [cell_of_block hh1]; rfl⟩, append1 ho hfr.size hi13 (by simp; omega) (fun v14 w14 ho h14 => ?_)⟩
          have hg5 : g13 < w5.heap.size := by omega
          have hh1 : w14.heap[g13]? = _ := (h14.block g13 hg5).trans hh1
          have hfr : FrG g13 w5 w14 := hfr.trans (S' := fun i => w5.heap.size ≤ i) ⟨h14.os, h14.tape, h14.output, h14.size, fun i hi hn => h14.block i (by omega)⟩ (fun i h => .inr h)
          refine ⟨fun h => absurd h (by omega), ?_⟩
          have hli : ((al.take i) ++ [plusQ s b.ys[i] (mulQ s dare [b.s, (expsM l)[i]])]) = al.take (i + 1) := by
            rw [List.take_add_one, hat i (by omega) (by omega)]
            rfl
          rw [hli] at ho
          obtain ⟨oad, oc, hov⟩ := owns_len ho
          subst hov
          repeat (any_goals ((with_reducible refine idO ?_); (with_reducible refine oM_gen fun Kv hK=>?_); simp [go_sem]; refine hK _ _ ?_; clear hK; clear Kv))
          refine ⟨fun h => absurd h (by omega), store_second hh1 (fun w15 hgr hh2 => ⟨fun h => absurd h (by omega), ?_⟩)⟩
          have hfr : FrG g13 w5 w15 := hfr.by hgr (fun i e => .inl (Option.some.inj e).symm)
          have ho : OwnI w15 w5.heap.size _ _ := owns_keep ho (fun j hj => hgr.block j (owns_own ho hj).1 (fun e => by have := (owns_own ho hj).2.1; have := Option.some.inj e; omega))
          repeat (any_goals ((with_reducible refine idO ?_); (with_reducible refine oM_gen fun Kv hK=>?_); simp [go_sem]; (try simp (disch := omega) only [wrapI64, wrapU8, wrapU32, wrapU64]); refine hK _ _ ?_; clear hK; clear Kv))
          refine ⟨⟨hfr, _, _, _, i + 1, rfl, by omega, ho, hh2⟩, ?_⟩
          simp only [vsMu_eq]; omega
theorem Use_ok (s : Stp) (b : Bld) (dare : Int) {v bv lv : Value} {l : List Int} (hd : I64 dare) (hs : SetR w s v) (hl : Ints w lv l) (hb : BldR w b bv)
    (k : ∀ w' ov, Below w.heap.size w w' → Ints w' ov (useM s l b dare).1.answers → K (.tuple #[spdV (useM s l b dare).1 ov, .bool (useM s l b dare).2]) w') : callM Tryz.prog 15 #[stpV s v, lv, bldV b bv, .int .i64 dare] K w := by
  exact Use_okF s b dare hd hs hl hb (fun w' ov h1 h2 _ => k w' ov h1 h2)
end
end Go.Proofs
set_option linter.unusedVariables false
set_option maxRecDepth 100000
namespace Go.Proofs
open Go.Sh
def sh_21 (K : Value → World → Prop) (w : World) : Prop :=
 oM Tryz.prog (.build 30 #[(0, (.tmp 0)), (1, (.tmp 1)), (2, (.tmp 2))]) 30 [(.int .i64 23), (.int .i64 11), (.int .i64 4)] (fun v18_1 w =>
 oM Tryz.prog (.buildSlice 22 3 #[(0, (.tmp 0)), (1, (.tmp 1)), (2, (.tmp 2))]) 22 [(.int .i64 4), (.int .i64 16), (.int .i64 18)] (fun v19_2 w =>
 oM Tryz.prog (.build 32 #[(0, (.tmp 0)), (1, (.tmp 1)), (2, (.tmp 2))]) 32 [v18_1, v19_2, (.int .i64 3)] (fun v20_3 w =>
 oM Tryz.prog (.alloc 32) 0 [] (fun v1_4 w =>
 oM Tryz.prog (.store 32 (.tmp 0) (.tmp 1)) 0 [v1_4, v20_3] (fun _ w =>
 oM Tryz.prog (.buildSlice 22 2 #[(0, (.tmp 0)), (1, (.tmp 1))]) 22 [(.int .i64 5), (.int .i64 7)] (fun v21_5 w =>
 oM Tryz.prog (.buildSlice 22 3 #[(0, (.tmp 0)), (1, (.tmp 1)), (2, (.tmp 2))]) 22 [(.int .i64 1), (.int .i64 2), (.int .i64 3)] (fun v22_6 w =>
 oM Tryz.prog (.build 45 #[(0, (.tmp 0)), (1, (.tmp 1)), (3, (.tmp 2))]) 45 [(.int .i64 4), (.int .i64 1), v22_6] (fun v23_7 w =>
 oM Tryz.prog (.alloc 45) 0 [] (fun v3_8 w =>
 oM Tryz.prog (.store 45 (.tmp 0) (.tmp 1)) 0 [v3_8, v23_7] (fun _ w =>
 oM Tryz.prog (.load 32 (.tmp 0)) 32 [v1_4] (fun v25_9 w =>
 callM Tryz.prog 34 #[v25_9, (.int .i64 3), v21_5, (.int .i64 2)] (fun v27_10 w =>
 oM Tryz.prog (.extract (.tmp 0) 0) 37 [v27_10] (fun v28_11 w =>
 oM Tryz.prog (.extract (.tmp 0) 1) 54 [v27_10] (fun v29_12 w =>
 oM Tryz.prog (.alloc 37) 0 [] (fun v4_13 w =>
 oM Tryz.prog (.store 37 (.tmp 0) (.tmp 1)) 0 [v4_13, v28_11] (fun _ w =>
 oM Tryz.prog (.load 32 (.tmp 0)) 32 [v1_4] (fun v31_14 w =>
 oM Tryz.prog (.load 45 (.tmp 0)) 45 [v3_8] (fun v33_15 w =>
 callM Tryz.prog 15 #[v31_14, v21_5, v33_15, (.int .i64 2)] (fun v34_16 w =>
 oM Tryz.prog (.extract (.tmp 0) 0) 49 [v34_16] (fun v35_17 w =>
 oM Tryz.prog (.extract (.tmp 0) 1) 4 [v34_16] (fun v36_18 w =>
 oM Tryz.prog (.alloc 49) 0 [] (fun v6_19 w =>
 oM Tryz.prog (.store 49 (.tmp 0) (.tmp 1)) 0 [v6_19, v35_17] (fun _ w =>
 oM Tryz.prog (.load 32 (.tmp 0)) 32 [v1_4] (fun v38_20 w =>
 oM Tryz.prog (.load 45 (.tmp 0)) 45 [v3_8] (fun v40_21 w =>
 callM Tryz.prog 15 #[v38_20, v21_5, v40_21, (.int .i64 5)] (fun v41_22 w =>
 oM Tryz.prog (.extract (.tmp 0) 0) 49 [v41_22] (fun v42_23 w =>
 oM Tryz.prog (.extract (.tmp 0) 1) 4 [v41_22] (fun v43_24 w =>
 oM Tryz.prog (.alloc 49) 0 [] (fun v8_25 w =>
 oM Tryz.prog (.store 49 (.tmp 0) (.tmp 1)) 0 [v8_25, v42_23] (fun _ w =>
 oM Tryz.prog (.build 41 #[(0, (.tmp 0)), (1, (.tmp 1)), (2, (.tmp 2)), (3, (.tmp 3)), (4, (.tmp 4))]) 41 [(.int .i64 8), (.int .i64 18), (.int .i64 9), (.int .i64 16), (.int .i64 13)] (fun v44_26 w =>
 oM Tryz.prog (.alloc 41) 0 [] (fun v10_27 w =>
 oM Tryz.prog (.store 41 (.tmp 0) (.tmp 1)) 0 [v10_27, v44_26] (fun _ w =>
 oM Tryz.prog (.load 32 (.tmp 0)) 32 [v1_4] (fun v46_28 w =>
 oM Tryz.prog (.load 41 (.tmp 0)) 41 [v10_27] (fun v47_29 w =>
 oM Tryz.prog (.load 49 (.tmp 0)) 49 [v6_19] (fun v48_30 w =>
 oM Tryz.prog (.load 49 (.tmp 0)) 49 [v8_25] (fun v49_31 w =>
 callM Tryz.prog 31 #[v46_28, v47_29, v48_30, v49_31] (fun v50_32 w =>
 oM Tryz.prog (.extract (.tmp 0) 0) 22 [v50_32] (fun v51_33 w =>
 oM Tryz.prog (.extract (.tmp 0) 1) 4 [v50_32] (fun v52_34 w =>
 oM Tryz.prog (.load 32 (.tmp 0)) 32 [v1_4] (fun v54_35 w =>
 oM Tryz.prog (.load 41 (.tmp 0)) 41 [v10_27] (fun v55_36 w =>
 oM Tryz.prog (.load 49 (.tmp 0)) 49 [v6_19] (fun v56_37 w =>
 oM Tryz.prog (.load 49 (.tmp 0)) 49 [v6_19] (fun v57_38 w =>
 callM Tryz.prog 31 #[v54_35, v55_36, v56_37, v57_38] (fun v58_39 w =>
 oM Tryz.prog (.extract (.tmp 0) 0) 22 [v58_39] (fun v59_40 w =>
 oM Tryz.prog (.extract (.tmp 0) 1) 4 [v58_39] (fun v60_41 w =>
 oM Tryz.prog (.fieldAddr 49 (.tmp 0) 1) 0 [v6_19] (fun v61_42 w =>
 oM Tryz.prog (.load 22 (.tmp 0)) 22 [v61_42] (fun v62_43 w =>
 oM Tryz.prog (.buildSlice 22 3 #[(0, (.tmp 0)), (1, (.tmp 1)), (2, (.tmp 2))]) 22 [(.int .i64 9), (.int .i64 9), (.int .i64 4)] (fun v63_44 w =>
 callM Tryz.prog 33 #[v62_43, v63_44] (fun v64_45 w =>
 oM Tryz.prog (.unOp .not 4 (.tmp 0)) 4 [v64_45] (fun v65_46 w =>
 gdM (gd v65_46 false) (oM Tryz.prog (.fieldAddr 49 (.tmp 0) 1) 0 [v8_25]) (fun v67_47 w =>
 gdM (gd v65_46 false) (oM Tryz.prog (.load 22 (.tmp 0)) 22 [v67_47]) (fun v68_48 w =>
 gdM (gd v65_46 false) (oM Tryz.prog (.buildSlice 22 3 #[(0, (.tmp 0)), (1, (.tmp 1)), (2, (.tmp 2))]) 22 [(.int .i64 10), (.int .i64 3), (.int .i64 0)]) (fun v69_49 w =>
 gdM (gd v65_46 false) (callM Tryz.prog 33 #[v68_48, v69_49]) (fun v70_50 w =>
 gdM (gd v65_46 false) (oM Tryz.prog (.unOp .not 4 (.tmp 0)) 4 [v70_50]) (fun v71_51 w =>
 oM Tryz.prog (.pick (.tmp 0) (.tmp 1) (.tmp 2)) 4 [v65_46, (.bool true), v71_51] (fun v72_52 w =>
 gdM (gd v72_52 false) (pureM v36_18) (fun v74_53 w =>
 gdM (gd v72_52 false) (oM Tryz.prog (.unOp .not 4 (.tmp 0)) 4 [v74_53]) (fun v75_54 w =>
 oM Tryz.prog (.pick (.tmp 0) (.tmp 1) (.tmp 2)) 4 [v72_52, (.bool true), v75_54] (fun v76_55 w =>
 gdM (gd v76_55 false) (pureM v43_24) (fun v78_56 w =>
 gdM (gd v76_55 false) (oM Tryz.prog (.unOp .not 4 (.tmp 0)) 4 [v78_56]) (fun v79_57 w =>
 oM Tryz.prog (.pick (.tmp 0) (.tmp 1) (.tmp 2)) 4 [v76_55, (.bool true), v79_57] (fun v80_58 w =>
 gdM (gd v80_58 false) (pureM v51_33) (fun v82_59 w =>
 gdM (gd v80_58 false) (pureM v21_5) (fun v83_60 w =>
 gdM (gd v80_58 false) (callM Tryz.prog 33 #[v82_59, v83_60]) (fun v84_61 w =>
 gdM (gd v80_58 false) (oM Tryz.prog (.unOp .not 4 (.tmp 0)) 4 [v84_61]) (fun v85_62 w =>
 oM Tryz.prog (.pick (.tmp 0) (.tmp 1) (.tmp 2)) 4 [v80_58, (.bool true), v85_62] (fun v86_63 w =>
 gdM (gd v86_63 false) (pureM v52_34) (fun v88_64 w =>
 gdM (gd v86_63 false) (oM Tryz.prog (.unOp .not 4 (.tmp 0)) 4 [v88_64]) (fun v89_65 w =>
 oM Tryz.prog (.pick (.tmp 0) (.tmp 1) (.tmp 2)) 4 [v86_63, (.bool true), v89_65] (fun v90_66 w =>
 gdM (gd v90_66 false) (pureM v60_41) (fun v92_67 w =>
 oM Tryz.prog (.pick (.tmp 0) (.tmp 1) (.tmp 2)) 4 [v90_66, (.bool true), v92_67] (fun v93_68 w =>
 condM v93_68
 (K (.bool false) w)
 (oM Tryz.prog (.fieldAddr 49 (.tmp 0) 1) 0 [v6_19] (fun v94_69 w =>
 oM Tryz.prog (.load 22 (.tmp 0)) 22 [v94_69] (fun v95_70 w =>
 oM Tryz.prog (.build 49 #[(0, (.tmp 0)), (1, (.tmp 1))]) 49 [(.int .i64 3), v95_70] (fun v96_71 w =>
 oM Tryz.prog (.alloc 49) 0 [] (fun v15_72 w =>
 oM Tryz.prog (.store 49 (.tmp 0) (.tmp 1)) 0 [v15_72, v96_71] (fun _ w =>
 oM Tryz.prog (.load 32 (.tmp 0)) 32 [v1_4] (fun v97_73 w =>
 callM Tryz.prog 80 #[v97_73, v21_5] (fun v99_74 w =>
 oM Tryz.prog (.binOp .eql 3 (.tmp 0) (.const (.int .i64 6)) 3) 4 [v99_74] (fun v100_75 w =>
 gdM (gd v100_75 true) (oM Tryz.prog (.load 32 (.tmp 0)) 32 [v1_4]) (fun v102_76 w =>
 gdM (gd v100_75 true) (pureM v21_5) (fun v103_77 w =>
 gdM (gd v100_75 true) (callM Tryz.prog 81 #[v102_76, v103_77]) (fun v104_78 w =>
 oM Tryz.prog (.pick (.tmp 0) (.tmp 1) (.tmp 2)) 4 [v100_75, v104_78, (.bool false)] (fun v105_79 w =>
 gdM (gd v105_79 true) (oM Tryz.prog (.load 32 (.tmp 0)) 32 [v1_4]) (fun v107_80 w =>
 gdM (gd v105_79 true) (oM Tryz.prog (.buildSlice 22 2 #[(0, (.tmp 0)), (1, (.tmp 1))]) 22 [(.int .i64 5), (.int .i64 0)]) (fun v108_81 w =>
 gdM (gd v105_79 true) (callM Tryz.prog 81 #[v107_80, v108_81]) (fun v109_82 w =>
 gdM (gd v105_79 true) (oM Tryz.prog (.unOp .not 4 (.tmp 0)) 4 [v109_82]) (fun v110_83 w =>
 oM Tryz.prog (.pick (.tmp 0) (.tmp 1) (.tmp 2)) 4 [v105_79, v110_83, (.bool false)] (fun v111_84 w =>
 gdM (gd v111_84 true) (oM Tryz.prog (.load 32 (.tmp 0)) 32 [v1_4]) (fun v113_85 w =>
 gdM (gd v111_84 true) (callM Tryz.prog 13 #[v113_85, (.int .i64 3)]) (fun v114_86 w =>
 gdM (gd v111_84 true) (oM Tryz.prog (.binOp .eql 3 (.tmp 0) (.const (.int .i64 18)) 3) 4 [v114_86]) (fun v115_87 w =>
 oM Tryz.prog (.pick (.tmp 0) (.tmp 1) (.tmp 2)) 4 [v111_84, v115_87, (.bool false)] (fun v116_88 w =>
 gdM (gd v116_88 true) (oM Tryz.prog (.load 32 (.tmp 0)) 32 [v1_4]) (fun v118_89 w =>
 gdM (gd v116_88 true) (callM Tryz.prog 13 #[v118_89, (.int .i64 0)]) (fun v119_90 w =>
 gdM (gd v116_88 true) (oM Tryz.prog (.binOp .eql 3 (.tmp 0) (.const (.int .i64 0)) 3) 4 [v119_90]) (fun v120_91 w =>
 oM Tryz.prog (.pick (.tmp 0) (.tmp 1) (.tmp 2)) 4 [v116_88, v120_91, (.bool false)] (fun v121_92 w =>
 oM Tryz.prog (.binOp .eql 54 (.tmp 0) (.const (.int .i64 0)) 54) 4 [v29_12] (fun v123_93 w =>
 gdM (gd v123_93 true) (oM Tryz.prog (.load 37 (.tmp 0)) 37 [v4_13]) (fun v125_94 w =>
 gdM (gd v123_93 true) (oM Tryz.prog (.build 37 #[(0, (.tmp 0)), (1, (.tmp 1)), (2, (.tmp 2))]) 37 [(.int .i64 9), (.int .i64 16), (.int .i64 13)]) (fun v126_95 w =>
 gdM (gd v123_93 true) (oM Tryz.prog (.binOp .eql 37 (.tmp 0) (.tmp 1) 37) 4 [v125_94, v126_95]) (fun v127_96 w =>
 oM Tryz.prog (.pick (.tmp 0) (.tmp 1) (.tmp 2)) 4 [v123_93, v127_96, (.bool false)] (fun v128_97 w =>
 gdM (gd v128_97 true) (oM Tryz.prog (.load 32 (.tmp 0)) 32 [v1_4]) (fun v130_98 w =>
 gdM (gd v128_97 true) (callM Tryz.prog 35 #[v130_98, (.int .i64 3), (.int .i64 2), (.int .i64 6)]) (fun v131_99 w =>
 gdM (gd v128_97 true) (oM Tryz.prog (.binOp .eql 3 (.tmp 0) (.const (.int .i64 9)) 3) 4 [v131_99]) (fun v132_100 w =>
 oM Tryz.prog (.pick (.tmp 0) (.tmp 1) (.tmp 2)) 4 [v128_97, v132_100, (.bool false)] (fun v133_101 w =>
 gdM (gd v133_101 true) (oM Tryz.prog (.load 32 (.tmp 0)) 32 [v1_4]) (fun v135_102 w =>
 gdM (gd v133_101 true) (oM Tryz.prog (.load 41 (.tmp 0)) 41 [v10_27]) (fun v136_103 w =>
 gdM (gd v133_101 true) (oM Tryz.prog (.load 49 (.tmp 0)) 49 [v6_19]) (fun v137_104 w =>
 gdM (gd v133_101 true) (callM Tryz.prog 36 #[v135_102, v136_103, v137_104]) (fun v138_105 w =>
 oM Tryz.prog (.pick (.tmp 0) (.tmp 1) (.tmp 2)) 4 [v133_101, v138_105, (.bool false)] (fun v139_106 w =>
 gdM (gd v139_106 true) (oM Tryz.prog (.load 32 (.tmp 0)) 32 [v1_4]) (fun v141_107 w =>
 gdM (gd v139_106 true) (oM Tryz.prog (.load 41 (.tmp 0)) 41 [v10_27]) (fun v142_108 w =>
 gdM (gd v139_106 true) (oM Tryz.prog (.load 49 (.tmp 0)) 49 [v8_25]) (fun v143_109 w =>
 gdM (gd v139_106 true) (callM Tryz.prog 36 #[v141_107, v142_108, v143_109]) (fun v144_110 w =>
 oM Tryz.prog (.pick (.tmp 0) (.tmp 1) (.tmp 2)) 4 [v139_106, v144_110, (.bool false)] (fun v145_111 w =>
 gdM (gd v145_111 true) (oM Tryz.prog (.load 32 (.tmp 0)) 32 [v1_4]) (fun v147_112 w =>
 gdM (gd v145_111 true) (oM Tryz.prog (.load 41 (.tmp 0)) 41 [v10_27]) (fun v148_113 w =>
 gdM (gd v145_111 true) (oM Tryz.prog (.load 49 (.tmp 0)) 49 [v15_72]) (fun v149_114 w =>
 gdM (gd v145_111 true) (callM Tryz.prog 36 #[v147_112, v148_113, v149_114]) (fun v150_115 w =>
 gdM (gd v145_111 true) (oM Tryz.prog (.unOp .not 4 (.tmp 0)) 4 [v150_115]) (fun v151_116 w =>
 oM Tryz.prog (.pick (.tmp 0) (.tmp 1) (.tmp 2)) 4 [v145_111, v151_116, (.bool false)] (fun v152_117 w =>
 gdM (gd v121_92 true) (pureM v152_117) (fun v155_118 w =>
 oM Tryz.prog (.pick (.tmp 0) (.tmp 1) (.tmp 2)) 4 [v121_92, v155_118, (.bool false)] (fun v156_119 w =>
 gdM (gd v156_119 true) (oM Tryz.prog (.load 32 (.tmp 0)) 32 [v1_4]) (fun v158_120 w =>
 gdM (gd v156_119 true) (oM Tryz.prog (.load 41 (.tmp 0)) 41 [v10_27]) (fun v159_121 w =>
 gdM (gd v156_119 true) (oM Tryz.prog (.load 49 (.tmp 0)) 49 [v6_19]) (fun v160_122 w =>
 gdM (gd v156_119 true) (oM Tryz.prog (.load 49 (.tmp 0)) 49 [v8_25]) (fun v161_123 w =>
 gdM (gd v156_119 true) (pureM v21_5) (fun v162_124 w =>
 gdM (gd v156_119 true) (callM Tryz.prog 32 #[v158_120, v159_121, v160_122, v161_123, v162_124]) (fun v163_125 w =>
 oM Tryz.prog (.pick (.tmp 0) (.tmp 1) (.tmp 2)) 4 [v156_119, v163_125, (.bool false)] (fun v164_126 w =>
 gdM (gd v164_126 true) (oM Tryz.prog (.load 41 (.tmp 0)) 41 [v10_27]) (fun v166_127 w =>
 gdM (gd v164_126 true) (callM Tryz.prog 56 #[v166_127]) (fun v167_128 w =>
 gdM (gd v164_126 true) (oM Tryz.prog (.binOp .eql 9 (.tmp 0) (.const (.string ⟨#[54, 91, 56, 59, 49, 56, 59, 57, 59, 49, 54, 59, 49, 51, 59, 48, 59, 93]⟩)) 9) 4 [v167_128]) (fun v168_129 w =>
 oM Tryz.prog (.pick (.tmp 0) (.tmp 1) (.tmp 2)) 4 [v164_126, v168_129, (.bool false)] (fun v169_130 w =>
 K v169_130 w) w) w) w) w) w) w) w) w) w) w) w) w) w) w) w) w) w) w) w) w) w) w) w) w) w) w) w) w) w) w) w) w) w) w) w) w) w) w) w) w) w) w) w) w) w) w) w) w) w) w) w) w) w) w) w) w) w) w) w) w) w) w) w)) w) w) w) w) w) w) w) w) w) w) w) w) w) w) w) w) w) w) w) w) w) w) w) w) w) w) w) w) w) w) w) w) w) w) w) w) w) w) w) w) w) w) w) w) w) w) w) w) w) w) w) w) w) w) w) w) w) w) w) w) w) w) w) w) w) w) w) w) w) w) w) w) w) w
theorem sh_21_eq (K : Value → World → Prop) (w : World) : sh_21 K w = code Tryz.prog (fun _ => 2) 170 (Tryz.f21.body.getD .skip) (slotsAt []) (retK Tryz.prog [.tmp 0] K) w := by kernel_rfl
theorem sh_21_ok {K : Value → World → Prop} {w : World} (h : sh_21 K w) : callM Tryz.prog 21 #[] K w :=
  calls_of_code (fun _ => 2) (fn := Tryz.f21) (rs := [.tmp 0]) Tryz.func21 rfl rfl (by kernel_rfl) (Nat.le_of_ble_eq_true rfl) ((sh_21_eq K w).mp h)
def sh_56 (a0 : Value) (K : Value → World → Prop) (w : World) : Prop :=
 oM Tryz.prog (.box 41 (.tmp 0)) 0 [a0] (fun v1_1 w =>
 oM Tryz.prog (.fieldAddr 41 (.tmp 0) 0) 0 [v1_1] (fun v3_2 w =>
 oM Tryz.prog (.load 3 (.tmp 0)) 3 [v3_2] (fun v4_3 w =>
 oM Tryz.prog (.fieldAddr 41 (.tmp 0) 1) 0 [v1_1] (fun v5_4 w =>
 oM Tryz.prog (.load 3 (.tmp 0)) 3 [v5_4] (fun v6_5 w =>
 oM Tryz.prog (.fieldAddr 41 (.tmp 0) 2) 0 [v1_1] (fun v7_6 w =>
 oM Tryz.prog (.load 3 (.tmp 0)) 3 [v7_6] (fun v8_7 w =>
 oM Tryz.prog (.fieldAddr 41 (.tmp 0) 3) 0 [v1_1] (fun v9_8 w =>
 oM Tryz.prog (.load 3 (.tmp 0)) 3 [v9_8] (fun v10_9 w =>
 oM Tryz.prog (.fieldAddr 41 (.tmp 0) 4) 0 [v1_1] (fun v11_10 w =>
 oM Tryz.prog (.load 3 (.tmp 0)) 3 [v11_10] (fun v12_11 w =>
 oM Tryz.prog (.fieldAddr 41 (.tmp 0) 5) 0 [v1_1] (fun v13_12 w =>
 oM Tryz.prog (.load 3 (.tmp 0)) 3 [v13_12] (fun v14_13 w =>
 oM Tryz.prog (.buildSlice 22 6 #[(0, (.tmp 0)), (1, (.tmp 1)), (2, (.tmp 2)), (3, (.tmp 3)), (4, (.tmp 4)), (5, (.tmp 5))]) 22 [v4_3, v6_5, v8_7, v10_9, v12_11, v14_13] (fun v15_14 w =>
 callM Tryz.prog 123 #[v15_14] (fun v16_15 w =>
 K v16_15 w) w) w) w) w) w) w) w) w) w) w) w) w) w) w) w
theorem sh_56_eq (a0 : Value) (K : Value → World → Prop) (w : World) : sh_56 a0 K w = code Tryz.prog (fun _ => 2) 17 (Tryz.f56.body.getD .skip) (slotsAt [a0]) (retK Tryz.prog [.tmp 2] K) w := by kernel_rfl
theorem sh_56_ok {a0 : Value} {K : Value → World → Prop} {w : World} (h : sh_56 a0 K w) : callM Tryz.prog 56 #[a0] K w :=
  calls_of_code (fun _ => 2) (fn := Tryz.f56) (rs := [.tmp 2]) Tryz.func56 rfl rfl (by kernel_rfl) (Nat.le_of_ble_eq_true rfl) ((sh_56_eq a0 K w).mp h)
end Go.Proofs
