/- HRf: a part of the proof of the seat's statements: lemmas about the given translation and plain laws. No condition of its own. -/
import Derived.Test.YtefjibjojkjiiaaShMap4
import Derived.Test.YtefjibjojkjiiaaProg
set_option linter.all false
set_option linter.unusedVariables false
set_option maxRecDepth 100000
namespace Go.Proofs
open Go.Sh
/-- cloak/cloaklaw01.BaseDisk -/
def rf_3 (a0 : Value) (a1 : Value) (a2 : Value) (a3 : Value) (K : Value → World → Prop) (w : World) : Prop :=
 callM Try.prog 7 #[] (fun v18_1 w =>
 callM Try.prog 8 #[a0] (fun v20_2 w =>
 oM Try.prog (Go.Op.unOp Go.UnOp.not 4 (.tmp 0)) 4 [v20_2] (fun v21_3 w =>
 condM v21_3
 (K v18_1 w)
 (callM Try.prog 9 #[] (fun v23_4 w =>
 callM Try.prog 10 #[] (fun v24_5 w =>
 oM Try.prog (Go.Op.binOp Go.BinOp.eql 25 (.tmp 0) (.const (.pointer none)) 25) 4 [v23_4] (fun v26_6 w =>
 condM v26_6
 (K (.bool false) w)
 (loopM [(.bool false), undef, v23_4, (.int .i64 0)] w (fun J_7 m_8 l_9 u_l_9 w0_l_9 => (fun w => (
 oM Try.prog (Go.Op.call (Go.Call.mk (Go.Callee.builtin Go.Builtin.len) #[(.tmp 0)] #[22])) 3 [a0] (fun v29_10 w =>
 oM Try.prog (Go.Op.binOp Go.BinOp.lss 3 (.tmp 0) (.tmp 1) 3) 4 [(l_9.getD 3 undef), v29_10] (fun v30_11 w =>
 condM v30_11
 (joinM (fun M_12 => (comM 29 w (fun C_14 => (pureC (l_9.getD 2 undef) C_14 0 [] (fun v33_15 =>
 pureC a0 C_14 1 [] (fun v34_16 =>
 pureC (l_9.getD 3 undef) C_14 2 [] (fun v35_17 =>
 oC Try.prog (Go.Op.indexAddr 22 (.tmp 0) (.tmp 1)) 0 [v34_16, v35_17] C_14 3 [1, 2] (fun v36_18 =>
 oC Try.prog (Go.Op.load 33 (.tmp 0)) 33 [v36_18] C_14 4 [3] (fun v37_19 =>
 callC Try.prog 11 #[v33_15, v37_19] C_14 5 [0, 4] (fun v38_20 =>
 pureC v24_5 C_14 6 [] (fun v39_21 =>
 pureC a0 C_14 7 [] (fun v40_22 =>
 pureC (l_9.getD 3 undef) C_14 8 [] (fun v41_23 =>
 oC Try.prog (Go.Op.indexAddr 22 (.tmp 0) (.tmp 1)) 0 [v40_22, v41_23] C_14 9 [7, 8] (fun v42_24 =>
 oC Try.prog (Go.Op.load 33 (.tmp 0)) 33 [v42_24] C_14 10 [9] (fun v43_25 =>
 callC Try.prog 12 #[v39_21, v43_25] C_14 11 [6, 10, 5] (fun v44_26 =>
 oC Try.prog (Go.Op.binOp Go.BinOp.neq 29 (.tmp 0) (.tmp 1) 29) 4 [v38_20, v44_26] C_14 12 [5, 11] (fun v45_27 =>
 pureC v45_27 C_14 13 [12, 11] (fun v46_28 =>
 gdC (gd v46_28 false) (pureC (l_9.getD 2 undef)) C_14 14 [13] (fun v47_29 =>
 gdC (gd v46_28 false) (callC Try.prog 13 #[v47_29]) C_14 15 [14, 13, 13] (fun v48_30 =>
 gdC (gd v46_28 false) (pureC v24_5) C_14 16 [13] (fun v49_31 =>
 gdC (gd v46_28 false) (callC Try.prog 14 #[v49_31]) C_14 17 [16, 15, 13] (fun v50_32 =>
 gdC (gd v46_28 false) (oC Try.prog (Go.Op.binOp Go.BinOp.neq 4 (.tmp 0) (.tmp 1) 4) 4 [v48_30, v50_32]) C_14 18 [15, 17, 13] (fun v51_33 =>
 oC Try.prog (Go.Op.pick (.tmp 0) (.tmp 1) (.tmp 2)) 4 [v46_28, (.bool true), v51_33] C_14 19 [13, 18] (fun v52_34 =>
 pureC v52_34 C_14 20 [19, 17] (fun v53_35 =>
 gdC (gd v53_35 false) (pureC (l_9.getD 2 undef)) C_14 21 [20] (fun v54_36 =>
 gdC (gd v53_35 false) (pureC a1) C_14 22 [20] (fun v55_37 =>
 gdC (gd v53_35 false) (callC Try.prog 15 #[v54_36, v55_37]) C_14 23 [21, 22, 20, 20] (fun v56_38 =>
 gdC (gd v53_35 false) (pureC v24_5) C_14 24 [20] (fun v57_39 =>
 gdC (gd v53_35 false) (pureC a1) C_14 25 [20] (fun v58_40 =>
 gdC (gd v53_35 false) (callC Try.prog 16 #[v57_39, v58_40]) C_14 26 [24, 25, 23, 20] (fun v59_41 =>
 gdC (gd v53_35 false) (oC Try.prog (Go.Op.binOp Go.BinOp.neq 3 (.tmp 0) (.tmp 1) 3) 4 [v56_38, v59_41]) C_14 27 [23, 26, 20] (fun v60_42 =>
 oC Try.prog (Go.Op.pick (.tmp 0) (.tmp 1) (.tmp 2)) 4 [v53_35, (.bool true), v60_42] C_14 28 [20, 27] (fun v61_43 =>
 ∀ w, C_14 (fun _ => true) w → (condM v61_43
 (K (.bool false) w)
 (oM Try.prog (Go.Op.call (Go.Call.mk (Go.Callee.builtin Go.Builtin.len) #[(.tmp 0)] #[22])) 3 [a0] (fun v64_44 w =>
 oM Try.prog (Go.Op.binOp Go.BinOp.quo 3 (.tmp 0) (.tmp 1) 3) 3 [v64_44, (.int .i64 2)] (fun v65_45 w =>
 oM Try.prog (Go.Op.binOp Go.BinOp.eql 3 (.tmp 0) (.tmp 1) 3) 4 [(l_9.getD 3 undef), v65_45] (fun v66_46 w =>
 condM v66_46
 (callM Try.prog 17 #[(l_9.getD 2 undef)] (fun v68_47 w =>
 oM Try.prog (Go.Op.binOp Go.BinOp.eql 25 (.tmp 0) (.const (.pointer none)) 25) 4 [v68_47] (fun v70_48 w =>
 condM v70_48
 (K (.bool false) w)
 (oM Try.prog (Go.Op.indexAddr 22 (.tmp 0) (.tmp 1)) 0 [a0, (.int .i64 0)] (fun v73_49 w =>
 oM Try.prog (Go.Op.load 33 (.tmp 0)) 33 [v73_49] (fun v74_50 w =>
 callM Try.prog 11 #[(l_9.getD 2 undef), v74_50] (fun v75_51 w =>
 callM Try.prog 18 #[(l_9.getD 2 undef), a1] (fun v78_52 w =>
 M_12 [(l_9.getD 0 undef), v68_47, v68_47] w) w) w) w) w)) w) w)
 (M_12 [(l_9.getD 0 undef), (l_9.getD 1 undef), (l_9.getD 2 undef)] w)) w) w) w)))))))))))))))))))))))))))))))))))
 (fun l_13 u_l_13 w => (oM Try.prog (Go.Op.binOp Go.BinOp.add 3 (.tmp 0) (.tmp 1) 3) 3 [(l_9.getD 3 undef), (.int .i64 1)] (fun v32_53 w =>
 J_7 [(l_13.getD 0 undef), (l_13.getD 1 undef), (l_13.getD 2 undef), v32_53] w ∧ m_8 [(l_13.getD 0 undef), (l_13.getD 1 undef), (l_13.getD 2 undef), v32_53] w < m_8 l_9 w0_l_9) w)))
 (callM Try.prog 19 #[(l_9.getD 2 undef), a1, a2, a3] (fun v85_54 w =>
 oM Try.prog (Go.Op.extract (.tmp 0) 0) 9 [v85_54] (fun v86_55 w =>
 oM Try.prog (Go.Op.extract (.tmp 0) 1) 29 [v85_54] (fun v87_56 w =>
 callM Try.prog 20 #[v24_5, a1, a2, a3] (fun v93_57 w =>
 oM Try.prog (Go.Op.extract (.tmp 0) 0) 9 [v93_57] (fun v94_58 w =>
 oM Try.prog (Go.Op.extract (.tmp 0) 1) 29 [v93_57] (fun v95_59 w =>
 gdM (gd v18_1 true) (pureM v86_55) (fun v98_60 w =>
 gdM (gd v18_1 true) (pureM v94_58) (fun v99_61 w =>
 gdM (gd v18_1 true) (oM Try.prog (Go.Op.binOp Go.BinOp.eql 9 (.tmp 0) (.tmp 1) 9) 4 [v98_60, v99_61]) (fun v100_62 w =>
 oM Try.prog (Go.Op.pick (.tmp 0) (.tmp 1) (.tmp 2)) 4 [v18_1, v100_62, (.bool false)] (fun v101_63 w =>
 gdM (gd v101_63 true) (pureM v87_56) (fun v103_64 w =>
 gdM (gd v101_63 true) (pureM v95_59) (fun v104_65 w =>
 gdM (gd v101_63 true) (oM Try.prog (Go.Op.binOp Go.BinOp.eql 29 (.tmp 0) (.tmp 1) 29) 4 [v103_64, v104_65]) (fun v105_66 w =>
 oM Try.prog (Go.Op.pick (.tmp 0) (.tmp 1) (.tmp 2)) 4 [v101_63, v105_66, (.bool false)] (fun v106_67 w =>
 K v106_67 w) w) w) w) w) w) w) w) w) w) w) w) w) w) w)) w) w)) w0_l_9))) w) w) w)) w) w) w
theorem rf_3_eq (a0 : Value) (a1 : Value) (a2 : Value) (a3 : Value) (K : Value → World → Prop) (w : World) : rf_3 a0 a1 a2 a3 K w = code Try.prog (fun _ => 1) 107 (Try.f3.body.getD .skip) (slotsAt [a0, a1, a2, a3]) (retK Try.prog [.tmp 8] K) w := by kernel_rfl
theorem rf_3_ok {a0 a1 a2 a3 : Value} {K : Value → World → Prop} {w : World} (h : rf_3 a0 a1 a2 a3 K w) : callM Try.prog 3 #[a0, a1, a2, a3] K w :=
  calls_of_code (fun _ => 1) (fn := Try.f3) (rs := [.tmp 8]) Try.func3 rfl rfl (by kernel_rfl) (Nat.le_of_ble_eq_true rfl) ((rf_3_eq a0 a1 a2 a3 K w).mp h)

/-- cloak/cloakref01.NewDisk -/
def rf_10 (K : Value → World → Prop) (w : World) : Prop :=
 oM Try.prog (Go.Op.build 58 #[]) 58 [] (fun v1_1 w =>
 oM Try.prog (Go.Op.box 58 (.tmp 0)) 27 [v1_1] (fun v2_2 w =>
 K v2_2 w) w) w
theorem rf_10_eq (K : Value → World → Prop) (w : World) : rf_10 K w = code Try.prog (fun _ => 0) 3 (Try.f10.body.getD .skip) (slotsAt []) (retK Try.prog [.tmp 0] K) w := by kernel_rfl
theorem rf_10_ok {K : Value → World → Prop} {w : World} (h : rf_10 K w) : callM Try.prog 10 #[] K w :=
  calls_of_code (fun _ => 0) (fn := Try.f10) (rs := [.tmp 0]) Try.func10 rfl rfl (by kernel_rfl) (Nat.le_of_ble_eq_true rfl) ((rf_10_eq K w).mp h)

/-- cloak/cloaklaw01.doRef -/
def rf_12 (a0 : Value) (a1 : Value) (K : Value → World → Prop) (w : World) : Prop :=
 oM Try.prog (Go.Op.box 33 (.tmp 0)) 0 [a1] (fun v3_1 w =>
 joinM (fun M_2 => (oM Try.prog (Go.Op.fieldAddr 33 (.tmp 0) 0) 0 [v3_1] (fun v5_4 w =>
 oM Try.prog (Go.Op.load 3 (.tmp 0)) 3 [v5_4] (fun v6_5 w =>
 oM Try.prog (Go.Op.binOp Go.BinOp.and 3 (.tmp 0) (.tmp 1) 3) 3 [v6_5, (.int .i64 7)] (fun v7_6 w =>
 oM Try.prog (Go.Op.binOp Go.BinOp.eql 3 (.tmp 0) (.const (.int .i64 2)) 3) 4 [v7_6] (fun v17_7 w =>
 condM v17_7
 (oM Try.prog (Go.Op.fieldAddr 33 (.tmp 0) 1) 0 [v3_1] (fun v19_8 w =>
 oM Try.prog (Go.Op.load 3 (.tmp 0)) 3 [v19_8] (fun v20_9 w =>
 callM Try.prog 31 #[a0, v20_9] (fun v21_10 w =>
 K v21_10 w) w) w) w)
 (oM Try.prog (Go.Op.binOp Go.BinOp.eql 3 (.tmp 0) (.const (.int .i64 3)) 3) 4 [v7_6] (fun v23_11 w =>
 condM v23_11
 (oM Try.prog (Go.Op.fieldAddr 33 (.tmp 0) 1) 0 [v3_1] (fun v25_12 w =>
 oM Try.prog (Go.Op.load 3 (.tmp 0)) 3 [v25_12] (fun v26_13 w =>
 oM Try.prog (Go.Op.fieldAddr 33 (.tmp 0) 2) 0 [v3_1] (fun v27_14 w =>
 oM Try.prog (Go.Op.load 3 (.tmp 0)) 3 [v27_14] (fun v28_15 w =>
 callM Try.prog 32 #[a0, v26_13, v28_15] (fun v29_16 w =>
 K v29_16 w) w) w) w) w) w)
 (oM Try.prog (Go.Op.binOp Go.BinOp.eql 3 (.tmp 0) (.const (.int .i64 4)) 3) 4 [v7_6] (fun v31_17 w =>
 condM v31_17
 (oM Try.prog (Go.Op.fieldAddr 33 (.tmp 0) 2) 0 [v3_1] (fun v33_18 w =>
 oM Try.prog (Go.Op.load 3 (.tmp 0)) 3 [v33_18] (fun v34_19 w =>
 oM Try.prog (Go.Op.binOp Go.BinOp.and 3 (.tmp 0) (.tmp 1) 3) 3 [v34_19, (.int .i64 3)] (fun v35_20 w =>
 callM Try.prog 33 #[a0, v35_20] (fun v36_21 w =>
 M_2 [v17_7, (.int .i64 0), v23_11, v31_17, undef, undef, undef] w) w) w) w) w)
 (oM Try.prog (Go.Op.binOp Go.BinOp.eql 3 (.tmp 0) (.const (.int .i64 5)) 3) 4 [v7_6] (fun v38_22 w =>
 condM v38_22
 (oM Try.prog (Go.Op.fieldAddr 33 (.tmp 0) 2) 0 [v3_1] (fun v40_23 w =>
 oM Try.prog (Go.Op.load 3 (.tmp 0)) 3 [v40_23] (fun v41_24 w =>
 oM Try.prog (Go.Op.fieldAddr 33 (.tmp 0) 4) 0 [v3_1] (fun v42_25 w =>
 oM Try.prog (Go.Op.load 31 (.tmp 0)) 31 [v42_25] (fun v43_26 w =>
 callM Try.prog 34 #[a0, v41_24, v43_26] (fun v44_27 w =>
 M_2 [v17_7, (.int .i64 0), v23_11, v31_17, v38_22, undef, undef] w) w) w) w) w) w)
 (oM Try.prog (Go.Op.binOp Go.BinOp.eql 3 (.tmp 0) (.const (.int .i64 6)) 3) 4 [v7_6] (fun v46_28 w =>
 condM v46_28
 (oM Try.prog (Go.Op.fieldAddr 33 (.tmp 0) 4) 0 [v3_1] (fun v48_29 w =>
 oM Try.prog (Go.Op.load 31 (.tmp 0)) 31 [v48_29] (fun v49_30 w =>
 callM Try.prog 35 #[a0, v49_30] (fun v50_31 w =>
 M_2 [v17_7, (.int .i64 0), v23_11, v31_17, v38_22, v46_28, undef] w) w) w) w)
 (oM Try.prog (Go.Op.binOp Go.BinOp.eql 3 (.tmp 0) (.const (.int .i64 7)) 3) 4 [v7_6] (fun v52_32 w =>
 condM v52_32
 (callM Try.prog 36 #[a0] (fun v54_33 w =>
 M_2 [v17_7, (.int .i64 0), v23_11, v31_17, v38_22, v46_28, v52_32] w) w)
 (oM Try.prog (Go.Op.fieldAddr 33 (.tmp 0) 1) 0 [v3_1] (fun v9_34 w =>
 oM Try.prog (Go.Op.load 3 (.tmp 0)) 3 [v9_34] (fun v10_35 w =>
 oM Try.prog (Go.Op.fieldAddr 33 (.tmp 0) 2) 0 [v3_1] (fun v11_36 w =>
 oM Try.prog (Go.Op.load 3 (.tmp 0)) 3 [v11_36] (fun v12_37 w =>
 oM Try.prog (Go.Op.fieldAddr 33 (.tmp 0) 3) 0 [v3_1] (fun v13_38 w =>
 oM Try.prog (Go.Op.load 9 (.tmp 0)) 9 [v13_38] (fun v14_39 w =>
 callM Try.prog 37 #[a0, v10_35, v12_37, v14_39] (fun v15_40 w =>
 K v15_40 w) w) w) w) w) w) w) w)) w)) w)) w)) w)) w)) w) w) w) w))
 (fun l_3 u_l_3 w => (K (.int .i64 0) w))) w
theorem rf_12_eq (a0 : Value) (a1 : Value) (K : Value → World → Prop) (w : World) : rf_12 a0 a1 K w = code Try.prog (fun _ => 0) 55 (Try.f12.body.getD .skip) (slotsAt [a0, a1]) (retK Try.prog [.tmp 4] K) w := by kernel_rfl
theorem rf_12_ok {a0 a1 : Value} {K : Value → World → Prop} {w : World} (h : rf_12 a0 a1 K w) : callM Try.prog 12 #[a0, a1] K w :=
  calls_of_code (fun _ => 0) (fn := Try.f12) (rs := [.tmp 4]) Try.func12 rfl rfl (by kernel_rfl) (Nat.le_of_ble_eq_true rfl) ((rf_12_eq a0 a1 K w).mp h)

/-- (*cloak/cloakref01.Disk).Down -/
def rf_14 (a0 : Value) (K : Value → World → Prop) (w : World) : Prop :=
 oM Try.prog (Go.Op.nilCheck (.tmp 0)) 0 [a0] (fun v4_1 w =>
 oM Try.prog (Go.Op.fieldAddr 58 (.tmp 0) 3) 0 [v4_1] (fun v5_2 w =>
 oM Try.prog (Go.Op.load 4 (.tmp 0)) 4 [v5_2] (fun v6_3 w =>
 K v6_3 w) w) w) w
theorem rf_14_eq (a0 : Value) (K : Value → World → Prop) (w : World) : rf_14 a0 K w = code Try.prog (fun _ => 0) 7 (Try.f14.body.getD .skip) (slotsAt [a0]) (retK Try.prog [.tmp 2] K) w := by kernel_rfl
theorem rf_14_ok {a0 : Value} {K : Value → World → Prop} {w : World} (h : rf_14 a0 K w) : callM Try.prog 14 #[a0] K w :=
  calls_of_code (fun _ => 0) (fn := Try.f14) (rs := [.tmp 2]) Try.func14 rfl rfl (by kernel_rfl) (Nat.le_of_ble_eq_true rfl) ((rf_14_eq a0 K w).mp h)

/-- (*cloak/cloakref01.Disk).Size -/
def rf_16 (a0 : Value) (a1 : Value) (K : Value → World → Prop) (w : World) : Prop :=
 callM Try.prog 38 #[a0, a1] (fun v7_1 w =>
 oM Try.prog (Go.Op.field 64 (.tmp 0) 1) 9 [v7_1] (fun v8_2 w =>
 oM Try.prog (Go.Op.call (Go.Call.mk (Go.Callee.builtin Go.Builtin.len) #[(.tmp 0)] #[9])) 3 [v8_2] (fun v9_3 w =>
 K v9_3 w) w) w) w
theorem rf_16_eq (a0 : Value) (a1 : Value) (K : Value → World → Prop) (w : World) : rf_16 a0 a1 K w = code Try.prog (fun _ => 0) 10 (Try.f16.body.getD .skip) (slotsAt [a0, a1]) (retK Try.prog [.tmp 4] K) w := by kernel_rfl
theorem rf_16_ok {a0 a1 : Value} {K : Value → World → Prop} {w : World} (h : rf_16 a0 a1 K w) : callM Try.prog 16 #[a0, a1] K w :=
  calls_of_code (fun _ => 0) (fn := Try.f16) (rs := [.tmp 4]) Try.func16 rfl rfl (by kernel_rfl) (Nat.le_of_ble_eq_true rfl) ((rf_16_eq a0 a1 K w).mp h)

/-- (*cloak/cloakref01.Disk).Read -/
def rf_20 (a0 : Value) (a1 : Value) (a2 : Value) (a3 : Value) (K : Value → World → Prop) (w : World) : Prop :=
 callM Try.prog 45 #[a0, a1] (fun v14_1 w =>
 oM Try.prog (Go.Op.binOp Go.BinOp.neq 29 (.tmp 0) (.const (.int .i64 0)) 29) 4 [v14_1] (fun v16_2 w =>
 condM v16_2
 (K (.tuple #[(.string ⟨#[]⟩), v14_1]) w)
 (oM Try.prog (Go.Op.binOp Go.BinOp.lss 3 (.tmp 0) (.tmp 1) 3) 4 [a2, (.int .i64 0)] (fun v19_3 w =>
 gdM (gd v19_3 false) (pureM a3) (fun v21_4 w =>
 gdM (gd v19_3 false) (oM Try.prog (Go.Op.binOp Go.BinOp.lss 3 (.tmp 0) (.tmp 1) 3) 4 [v21_4, (.int .i64 0)]) (fun v22_5 w =>
 oM Try.prog (Go.Op.pick (.tmp 0) (.tmp 1) (.tmp 2)) 4 [v19_3, (.bool true), v22_5] (fun v23_6 w =>
 condM v23_6
 (K (.tuple #[(.string ⟨#[]⟩), (.int .i64 1)]) w)
 (callM Try.prog 38 #[a0, a1] (fun v26_7 w =>
 oM Try.prog (Go.Op.field 64 (.tmp 0) 1) 9 [v26_7] (fun v27_8 w =>
 oM Try.prog (Go.Op.call (Go.Call.mk (Go.Callee.builtin Go.Builtin.len) #[(.tmp 0)] #[9])) 3 [v27_8] (fun v30_9 w =>
 oM Try.prog (Go.Op.binOp Go.BinOp.geq 3 (.tmp 0) (.tmp 1) 3) 4 [a2, v30_9] (fun v31_10 w =>
 condM v31_10
 (K (.tuple #[(.string ⟨#[]⟩), (.int .i64 0)]) w)
 (oM Try.prog (Go.Op.call (Go.Call.mk (Go.Callee.builtin Go.Builtin.len) #[(.tmp 0)] #[9])) 3 [v27_8] (fun v37_11 w =>
 oM Try.prog (Go.Op.binOp Go.BinOp.sub 3 (.tmp 0) (.tmp 1) 3) 3 [v37_11, a2] (fun v39_12 w =>
 oM Try.prog (Go.Op.call (Go.Call.mk (Go.Callee.builtin Go.Builtin.min) #[(.tmp 0), (.tmp 1)] #[3, 3])) 3 [a3, v39_12] (fun v40_13 w =>
 oM Try.prog (Go.Op.binOp Go.BinOp.add 3 (.tmp 0) (.tmp 1) 3) 3 [a2, v40_13] (fun v41_14 w =>
 oM Try.prog (Go.Op.slice 9 (.tmp 0) (some (.tmp 1)) (some (.tmp 2)) none) 9 [v27_8, a2, v41_14] (fun v42_15 w =>
 K (.tuple #[v42_15, (.int .i64 0)]) w) w) w) w) w) w)) w) w) w) w)) w) w) w) w)) w) w
theorem rf_20_eq (a0 : Value) (a1 : Value) (a2 : Value) (a3 : Value) (K : Value → World → Prop) (w : World) : rf_20 a0 a1 a2 a3 K w = code Try.prog (fun _ => 0) 43 (Try.f20.body.getD .skip) (slotsAt [a0, a1, a2, a3]) (retK Try.prog [.tmp 8, .tmp 9] K) w := by kernel_rfl
theorem rf_20_ok {a0 a1 a2 a3 : Value} {K : Value → World → Prop} {w : World} (h : rf_20 a0 a1 a2 a3 K w) : callM Try.prog 20 #[a0, a1, a2, a3] K w :=
  calls_of_code (fun _ => 0) (fn := Try.f20) (rs := [.tmp 8, .tmp 9]) Try.func20 rfl rfl (by kernel_rfl) (Nat.le_of_ble_eq_true rfl) ((rf_20_eq a0 a1 a2 a3 K w).mp h)

/-- (*cloak/cloakref01.Disk).Sync -/
def rf_31 (a0 : Value) (a1 : Value) (K : Value → World → Prop) (w : World) : Prop :=
 callM Try.prog 49 #[a0, (.int .i64 0), (.int .i64 0), (.string ⟨#[]⟩)] (fun v7_1 w =>
 callM Try.prog 45 #[a0, a1] (fun v10_2 w =>
 oM Try.prog (Go.Op.binOp Go.BinOp.neq 29 (.tmp 0) (.const (.int .i64 0)) 29) 4 [v10_2] (fun v12_3 w =>
 condM v12_3
 (K v10_2 w)
 (oM Try.prog (Go.Op.nilCheck (.tmp 0)) 0 [a0] (fun v15_4 w =>
 oM Try.prog (Go.Op.fieldAddr 58 (.tmp 0) 2) 0 [v15_4] (fun v16_5 w =>
 oM Try.prog (Go.Op.load 3 (.tmp 0)) 3 [v16_5] (fun v17_6 w =>
 oM Try.prog (Go.Op.binOp Go.BinOp.gtr 3 (.tmp 0) (.tmp 1) 3) 4 [v17_6, (.int .i64 0)] (fun v18_7 w =>
 condM v18_7
 (oM Try.prog (Go.Op.nilCheck (.tmp 0)) 0 [a0] (fun v20_8 w =>
 oM Try.prog (Go.Op.fieldAddr 58 (.tmp 0) 2) 0 [v20_8] (fun v21_9 w =>
 oM Try.prog (Go.Op.load 3 (.tmp 0)) 3 [v21_9] (fun v22_10 w =>
 oM Try.prog (Go.Op.binOp Go.BinOp.sub 3 (.tmp 0) (.tmp 1) 3) 3 [v22_10, (.int .i64 1)] (fun v23_11 w =>
 oM Try.prog (Go.Op.nilCheck (.tmp 0)) 0 [a0] (fun v24_12 w =>
 oM Try.prog (Go.Op.fieldAddr 58 (.tmp 0) 2) 0 [v24_12] (fun v25_13 w =>
 oM Try.prog (Go.Op.store 3 (.tmp 0) (.tmp 1)) 0 [v25_13, v23_11] (fun _ w =>
 K (.int .i64 9) w) w) w) w) w) w) w) w)
 (callM Try.prog 38 #[a0, a1] (fun v30_14 w =>
 oM Try.prog (Go.Op.field 64 (.tmp 0) 1) 9 [v30_14] (fun v31_15 w =>
 callM Try.prog 50 #[a0, a1, v31_15] (fun v32_16 w =>
 K (.int .i64 0) w) w) w) w)) w) w) w) w)) w) w) w
theorem rf_31_eq (a0 : Value) (a1 : Value) (K : Value → World → Prop) (w : World) : rf_31 a0 a1 K w = code Try.prog (fun _ => 0) 33 (Try.f31.body.getD .skip) (slotsAt [a0, a1]) (retK Try.prog [.tmp 4] K) w := by kernel_rfl
theorem rf_31_ok {a0 a1 : Value} {K : Value → World → Prop} {w : World} (h : rf_31 a0 a1 K w) : callM Try.prog 31 #[a0, a1] K w :=
  calls_of_code (fun _ => 0) (fn := Try.f31) (rs := [.tmp 4]) Try.func31 rfl rfl (by kernel_rfl) (Nat.le_of_ble_eq_true rfl) ((rf_31_eq a0 a1 K w).mp h)

/-- (*cloak/cloakref01.Disk).Truncate -/
def rf_32 (a0 : Value) (a1 : Value) (a2 : Value) (K : Value → World → Prop) (w : World) : Prop :=
 callM Try.prog 49 #[a0, (.int .i64 0), (.int .i64 0), (.string ⟨#[]⟩)] (fun v10_1 w =>
 callM Try.prog 45 #[a0, a1] (fun v13_2 w =>
 oM Try.prog (Go.Op.binOp Go.BinOp.neq 29 (.tmp 0) (.const (.int .i64 0)) 29) 4 [v13_2] (fun v15_3 w =>
 condM v15_3
 (K v13_2 w)
 (callM Try.prog 38 #[a0, a1] (fun v19_4 w =>
 oM Try.prog (Go.Op.field 64 (.tmp 0) 1) 9 [v19_4] (fun v20_5 w =>
 oM Try.prog (Go.Op.binOp Go.BinOp.lss 3 (.tmp 0) (.tmp 1) 3) 4 [a2, (.int .i64 0)] (fun v22_6 w =>
 gdM (gd v22_6 false) (pureM a2) (fun v24_7 w =>
 gdM (gd v22_6 false) (pureM v20_5) (fun v25_8 w =>
 gdM (gd v22_6 false) (oM Try.prog (Go.Op.call (Go.Call.mk (Go.Callee.builtin Go.Builtin.len) #[(.tmp 0)] #[9])) 3 [v25_8]) (fun v26_9 w =>
 gdM (gd v22_6 false) (oM Try.prog (Go.Op.binOp Go.BinOp.gtr 3 (.tmp 0) (.tmp 1) 3) 4 [v24_7, v26_9]) (fun v27_10 w =>
 oM Try.prog (Go.Op.pick (.tmp 0) (.tmp 1) (.tmp 2)) 4 [v22_6, (.bool true), v27_10] (fun v28_11 w =>
 condM v28_11
 (K (.int .i64 1) w)
 (oM Try.prog (Go.Op.slice 9 (.tmp 0) none (some (.tmp 1)) none) 9 [v20_5, a2] (fun v33_12 w =>
 callM Try.prog 50 #[a0, a1, v33_12] (fun v34_13 w =>
 K (.int .i64 0) w) w) w)) w) w) w) w) w) w) w) w)) w) w) w
theorem rf_32_eq (a0 : Value) (a1 : Value) (a2 : Value) (K : Value → World → Prop) (w : World) : rf_32 a0 a1 a2 K w = code Try.prog (fun _ => 0) 35 (Try.f32.body.getD .skip) (slotsAt [a0, a1, a2]) (retK Try.prog [.tmp 6] K) w := by kernel_rfl
theorem rf_32_ok {a0 a1 a2 : Value} {K : Value → World → Prop} {w : World} (h : rf_32 a0 a1 a2 K w) : callM Try.prog 32 #[a0, a1, a2] K w :=
  calls_of_code (fun _ => 0) (fn := Try.f32) (rs := [.tmp 6]) Try.func32 rfl rfl (by kernel_rfl) (Nat.le_of_ble_eq_true rfl) ((rf_32_eq a0 a1 a2 K w).mp h)

/-- (*cloak/cloakref01.Disk).Lose -/
def rf_33 (a0 : Value) (a1 : Value) (K : Value → World → Prop) (w : World) : Prop :=
 oM Try.prog (Go.Op.call (Go.Call.mk (Go.Callee.builtin Go.Builtin.max) #[(.tmp 0), (.tmp 1)] #[3, 3])) 3 [a1, (.int .i64 0)] (fun v6_1 w =>
 oM Try.prog (Go.Op.nilCheck (.tmp 0)) 0 [a0] (fun v7_2 w =>
 oM Try.prog (Go.Op.fieldAddr 58 (.tmp 0) 2) 0 [v7_2] (fun v8_3 w =>
 oM Try.prog (Go.Op.store 3 (.tmp 0) (.tmp 1)) 0 [v8_3, v6_1] (fun _ w =>
 K (.tuple #[]) w) w) w) w) w
theorem rf_33_eq (a0 : Value) (a1 : Value) (K : Value → World → Prop) (w : World) : rf_33 a0 a1 K w = code Try.prog (fun _ => 0) 9 (Try.f33.body.getD .skip) (slotsAt [a0, a1]) (retK Try.prog [] K) w := by kernel_rfl
theorem rf_33_ok {a0 a1 : Value} {K : Value → World → Prop} {w : World} (h : rf_33 a0 a1 K w) : callM Try.prog 33 #[a0, a1] K w :=
  calls_of_code (fun _ => 0) (fn := Try.f33) (rs := []) Try.func33 rfl rfl (by kernel_rfl) (Nat.le_of_ble_eq_true rfl) ((rf_33_eq a0 a1 K w).mp h)

/-- (*cloak/cloakref01.Disk).Arm -/
def rf_34 (a0 : Value) (a1 : Value) (a2 : Value) (K : Value → World → Prop) (w : World) : Prop :=
 oM Try.prog (Go.Op.call (Go.Call.mk (Go.Callee.builtin Go.Builtin.max) #[(.tmp 0), (.tmp 1)] #[3, 3])) 3 [a1, (.int .i64 0)] (fun v8_1 w =>
 oM Try.prog (Go.Op.nilCheck (.tmp 0)) 0 [a0] (fun v9_2 w =>
 oM Try.prog (Go.Op.fieldAddr 58 (.tmp 0) 4) 0 [v9_2] (fun v10_3 w =>
 oM Try.prog (Go.Op.store 3 (.tmp 0) (.tmp 1)) 0 [v10_3, v8_1] (fun _ w =>
 oM Try.prog (Go.Op.buildSlice 31 0 #[]) 31 [] (fun v12_4 w =>
 oM Try.prog (Go.Op.call (Go.Call.mk (Go.Callee.builtin Go.Builtin.append) #[(.tmp 0), (.tmp 1)] #[31, 31])) 31 [v12_4, a2] (fun v14_5 w =>
 oM Try.prog (Go.Op.nilCheck (.tmp 0)) 0 [a0] (fun v15_6 w =>
 oM Try.prog (Go.Op.fieldAddr 58 (.tmp 0) 5) 0 [v15_6] (fun v16_7 w =>
 oM Try.prog (Go.Op.store 31 (.tmp 0) (.tmp 1)) 0 [v16_7, v14_5] (fun _ w =>
 K (.tuple #[]) w) w) w) w) w) w) w) w) w) w
theorem rf_34_eq (a0 : Value) (a1 : Value) (a2 : Value) (K : Value → World → Prop) (w : World) : rf_34 a0 a1 a2 K w = code Try.prog (fun _ => 0) 17 (Try.f34.body.getD .skip) (slotsAt [a0, a1, a2]) (retK Try.prog [] K) w := by kernel_rfl
theorem rf_34_ok {a0 a1 a2 : Value} {K : Value → World → Prop} {w : World} (h : rf_34 a0 a1 a2 K w) : callM Try.prog 34 #[a0, a1, a2] K w :=
  calls_of_code (fun _ => 0) (fn := Try.f34) (rs := []) Try.func34 rfl rfl (by kernel_rfl) (Nat.le_of_ble_eq_true rfl) ((rf_34_eq a0 a1 a2 K w).mp h)

/-- (*cloak/cloakref01.Disk).Crash -/
def rf_35 (a0 : Value) (a1 : Value) (K : Value → World → Prop) (w : World) : Prop :=
 oM Try.prog (Go.Op.nilCheck (.tmp 0)) 0 [a0] (fun v8_1 w =>
 oM Try.prog (Go.Op.fieldAddr 58 (.tmp 0) 3) 0 [v8_1] (fun v9_2 w =>
 oM Try.prog (Go.Op.load 4 (.tmp 0)) 4 [v9_2] (fun v10_3 w =>
 condM v10_3
 (K (.tuple #[]) w)
 (oM Try.prog (Go.Op.nilCheck (.tmp 0)) 0 [a0] (fun v12_4 w =>
 oM Try.prog (Go.Op.fieldAddr 58 (.tmp 0) 3) 0 [v12_4] (fun v13_5 w =>
 oM Try.prog (Go.Op.store 4 (.tmp 0) (.tmp 1)) 0 [v13_5, (.bool true)] (fun _ w =>
 oM Try.prog (Go.Op.nilCheck (.tmp 0)) 0 [a0] (fun v15_6 w =>
 oM Try.prog (Go.Op.fieldAddr 58 (.tmp 0) 4) 0 [v15_6] (fun v16_7 w =>
 oM Try.prog (Go.Op.store 3 (.tmp 0) (.tmp 1)) 0 [v16_7, (.int .i64 0)] (fun _ w =>
 loopM [(.int .i64 0)] w (fun J_8 m_9 l_10 u_l_10 w0_l_10 => (fun w => (
 oM Try.prog (Go.Op.nilCheck (.tmp 0)) 0 [a0] (fun v19_11 w =>
 oM Try.prog (Go.Op.fieldAddr 58 (.tmp 0) 1) 0 [v19_11] (fun v20_12 w =>
 oM Try.prog (Go.Op.load 56 (.tmp 0)) 56 [v20_12] (fun v21_13 w =>
 oM Try.prog (Go.Op.call (Go.Call.mk (Go.Callee.builtin Go.Builtin.len) #[(.tmp 0)] #[56])) 3 [v21_13] (fun v22_14 w =>
 oM Try.prog (Go.Op.binOp Go.BinOp.lss 3 (.tmp 0) (.tmp 1) 3) 4 [(l_10.getD 0 undef), v22_14] (fun v23_15 w =>
 gdM (gd v23_15 true) (pureM a1) (fun v25_16 w =>
 gdM (gd v23_15 true) (oM Try.prog (Go.Op.call (Go.Call.mk (Go.Callee.builtin Go.Builtin.len) #[(.tmp 0)] #[31])) 3 [v25_16]) (fun v26_17 w =>
 gdM (gd v23_15 true) (oM Try.prog (Go.Op.binOp Go.BinOp.gtr 3 (.tmp 0) (.tmp 1) 3) 4 [v26_17, (.int .i64 0)]) (fun v27_18 w =>
 oM Try.prog (Go.Op.pick (.tmp 0) (.tmp 1) (.tmp 2)) 4 [v23_15, v27_18, (.bool false)] (fun v28_19 w =>
 condM v28_19
 (joinM (fun M_20 => (oM Try.prog (Go.Op.call (Go.Call.mk (Go.Callee.builtin Go.Builtin.len) #[(.tmp 0)] #[31])) 3 [a1] (fun v34_22 w =>
 oM Try.prog (Go.Op.binOp Go.BinOp.rem 3 (.tmp 0) (.tmp 1) 3) 3 [(l_10.getD 0 undef), v34_22] (fun v35_23 w =>
 oM Try.prog (Go.Op.indexAddr 31 (.tmp 0) (.tmp 1)) 0 [a1, v35_23] (fun v36_24 w =>
 oM Try.prog (Go.Op.load 3 (.tmp 0)) 3 [v36_24] (fun v37_25 w =>
 oM Try.prog (Go.Op.binOp Go.BinOp.and 3 (.tmp 0) (.tmp 1) 3) 3 [v37_25, (.int .i64 1)] (fun v38_26 w =>
 oM Try.prog (Go.Op.binOp Go.BinOp.eql 3 (.tmp 0) (.const (.int .i64 1)) 3) 4 [v38_26] (fun v39_27 w =>
 condM v39_27
 (oM Try.prog (Go.Op.nilCheck (.tmp 0)) 0 [a0] (fun v42_28 w =>
 oM Try.prog (Go.Op.fieldAddr 58 (.tmp 0) 1) 0 [v42_28] (fun v43_29 w =>
 oM Try.prog (Go.Op.load 56 (.tmp 0)) 56 [v43_29] (fun v44_30 w =>
 oM Try.prog (Go.Op.indexAddr 56 (.tmp 0) (.tmp 1)) 0 [v44_30, (l_10.getD 0 undef)] (fun v46_31 w =>
 oM Try.prog (Go.Op.load 77 (.tmp 0)) 77 [v46_31] (fun v47_32 w =>
 callM Try.prog 51 #[a0, v47_32] (fun v48_33 w =>
 M_20 [] w) w) w) w) w) w) w)
 (M_20 [] w)) w) w) w) w) w) w))
 (fun l_21 u_l_21 w => (oM Try.prog (Go.Op.binOp Go.BinOp.add 3 (.tmp 0) (.tmp 1) 3) 3 [(l_10.getD 0 undef), (.int .i64 1)] (fun v30_34 w =>
 J_8 [v30_34] w ∧ m_9 [v30_34] w < m_9 l_10 w0_l_10) w)))
 (loopM [(.slice none 0 0), (.int .i64 0)] w (fun J_35 m_36 l_37 u_l_37 w0_l_37 => (fun w => (
 oM Try.prog (Go.Op.nilCheck (.tmp 0)) 0 [a0] (fun v51_38 w =>
 oM Try.prog (Go.Op.fieldAddr 58 (.tmp 0) 0) 0 [v51_38] (fun v52_39 w =>
 oM Try.prog (Go.Op.load 55 (.tmp 0)) 55 [v52_39] (fun v53_40 w =>
 oM Try.prog (Go.Op.call (Go.Call.mk (Go.Callee.builtin Go.Builtin.len) #[(.tmp 0)] #[55])) 3 [v53_40] (fun v54_41 w =>
 oM Try.prog (Go.Op.binOp Go.BinOp.lss 3 (.tmp 0) (.tmp 1) 3) 4 [(l_37.getD 1 undef), v54_41] (fun v55_42 w =>
 condM v55_42
 (stageM w (fun C_43 w => (pureH (l_37.getD 0 undef) (upto C_43 2) (fun v58_44 =>
 pureH a0 (upto C_43 0) (fun v59_45 =>
 oH Try.prog (Go.Op.nilCheck (.tmp 0)) 0 [v59_45] (upto C_43 0) (fun v60_46 =>
 oH Try.prog (Go.Op.fieldAddr 58 (.tmp 0) 0) 0 [v60_46] (upto C_43 0) (fun v61_47 =>
 oH Try.prog (Go.Op.load 55 (.tmp 0)) 55 [v61_47] (upto C_43 0) (fun v62_48 =>
 pureH (l_37.getD 1 undef) (upto C_43 0) (fun v63_49 =>
 oH Try.prog (Go.Op.indexAddr 55 (.tmp 0) (.tmp 1)) 0 [v62_48, v63_49] (upto C_43 0) (fun v64_50 =>
 oH Try.prog (Go.Op.fieldAddr 64 (.tmp 0) 0) 0 [v64_50] (upto C_43 0) (fun v65_51 =>
 oH Try.prog (Go.Op.load 3 (.tmp 0)) 3 [v65_51] (upto C_43 0) (fun v66_52 =>
 pureH a0 (upto C_43 0) (fun v67_53 =>
 oH Try.prog (Go.Op.nilCheck (.tmp 0)) 0 [v67_53] (upto C_43 0) (fun v68_54 =>
 oH Try.prog (Go.Op.fieldAddr 58 (.tmp 0) 0) 0 [v68_54] (upto C_43 0) (fun v69_55 =>
 oH Try.prog (Go.Op.load 55 (.tmp 0)) 55 [v69_55] (upto C_43 0) (fun v70_56 =>
 pureH (l_37.getD 1 undef) (upto C_43 0) (fun v71_57 =>
 oH Try.prog (Go.Op.indexAddr 55 (.tmp 0) (.tmp 1)) 0 [v70_56, v71_57] (upto C_43 0) (fun v72_58 =>
 oH Try.prog (Go.Op.fieldAddr 64 (.tmp 0) 2) 0 [v72_58] (upto C_43 0) (fun v73_59 =>
 oH Try.prog (Go.Op.load 9 (.tmp 0)) 9 [v73_59] (upto C_43 0) (fun v74_60 =>
 pureH a0 (upto C_43 0) (fun v75_61 =>
 oH Try.prog (Go.Op.nilCheck (.tmp 0)) 0 [v75_61] (upto C_43 0) (fun v76_62 =>
 oH Try.prog (Go.Op.fieldAddr 58 (.tmp 0) 0) 0 [v76_62] (upto C_43 0) (fun v77_63 =>
 oH Try.prog (Go.Op.load 55 (.tmp 0)) 55 [v77_63] (upto C_43 0) (fun v78_64 =>
 pureH (l_37.getD 1 undef) (upto C_43 0) (fun v79_65 =>
 oH Try.prog (Go.Op.indexAddr 55 (.tmp 0) (.tmp 1)) 0 [v78_64, v79_65] (upto C_43 0) (fun v80_66 =>
 oH Try.prog (Go.Op.fieldAddr 64 (.tmp 0) 2) 0 [v80_66] (upto C_43 0) (fun v81_67 =>
 oH Try.prog (Go.Op.load 9 (.tmp 0)) 9 [v81_67] (upto C_43 0) (fun v82_68 =>
 oM Try.prog (Go.Op.build 64 #[(0, (.tmp 0)), (1, (.tmp 1)), (2, (.tmp 2))]) 64 [v66_52, v74_60, v82_68] (fun v83_69 w => C_43 1 w ∧ (
 oM Try.prog (Go.Op.buildSlice 55 1 #[(0, (.tmp 0))]) 55 [v83_69] (fun v84_70 w => C_43 2 w ∧ (
 oM Try.prog (Go.Op.call (Go.Call.mk (Go.Callee.builtin Go.Builtin.append) #[(.tmp 0), (.tmp 1)] #[55, 55])) 55 [v58_44, v84_70] (fun v85_71 w => C_43 3 w ∧ (
 C_43 4 w ∧ (oM Try.prog (Go.Op.binOp Go.BinOp.add 3 (.tmp 0) (.tmp 1) 3) 3 [(l_37.getD 1 undef), (.int .i64 1)] (fun v57_73 w =>
 J_35 [v85_71, v57_73] w ∧ m_36 [v85_71, v57_73] w < m_36 l_37 w0_l_37) w))) w)) w)) w))))))))))))))))))))))))))))
 (oM Try.prog (Go.Op.nilCheck (.tmp 0)) 0 [a0] (fun v88_74 w =>
 oM Try.prog (Go.Op.fieldAddr 58 (.tmp 0) 0) 0 [v88_74] (fun v89_75 w =>
 oM Try.prog (Go.Op.store 55 (.tmp 0) (.tmp 1)) 0 [v89_75, (l_37.getD 0 undef)] (fun _ w =>
 oM Try.prog (Go.Op.nilCheck (.tmp 0)) 0 [a0] (fun v91_76 w =>
 oM Try.prog (Go.Op.fieldAddr 58 (.tmp 0) 1) 0 [v91_76] (fun v92_77 w =>
 oM Try.prog (Go.Op.store 56 (.tmp 0) (.tmp 1)) 0 [v92_77, (.slice none 0 0)] (fun _ w =>
 K (.tuple #[]) w) w) w) w) w) w) w)) w) w) w) w) w)) w0_l_37))) w) w) w) w) w) w) w) w) w)) w0_l_10)) w) w) w) w) w) w)) w) w) w
theorem rf_35_eq (a0 : Value) (a1 : Value) (K : Value → World → Prop) (w : World) : rf_35 a0 a1 K w = code Try.prog (fun _ => 3) 93 (Try.f35.body.getD .skip) (slotsAt [a0, a1]) (retK Try.prog [] K) w := by kernel_rfl
theorem rf_35_ok {a0 a1 : Value} {K : Value → World → Prop} {w : World} (h : rf_35 a0 a1 K w) : callM Try.prog 35 #[a0, a1] K w :=
  calls_of_code (fun _ => 3) (fn := Try.f35) (rs := []) Try.func35 rfl rfl (by kernel_rfl) (Nat.le_of_ble_eq_true rfl) ((rf_35_eq a0 a1 K w).mp h)

/-- (*cloak/cloakref01.Disk).Start -/
def rf_36 (a0 : Value) (K : Value → World → Prop) (w : World) : Prop :=
 oM Try.prog (Go.Op.nilCheck (.tmp 0)) 0 [a0] (fun v3_1 w =>
 oM Try.prog (Go.Op.fieldAddr 58 (.tmp 0) 3) 0 [v3_1] (fun v4_2 w =>
 oM Try.prog (Go.Op.store 4 (.tmp 0) (.tmp 1)) 0 [v4_2, (.bool false)] (fun _ w =>
 K (.tuple #[]) w) w) w) w
theorem rf_36_eq (a0 : Value) (K : Value → World → Prop) (w : World) : rf_36 a0 K w = code Try.prog (fun _ => 0) 5 (Try.f36.body.getD .skip) (slotsAt [a0]) (retK Try.prog [] K) w := by kernel_rfl
theorem rf_36_ok {a0 : Value} {K : Value → World → Prop} {w : World} (h : rf_36 a0 K w) : callM Try.prog 36 #[a0] K w :=
  calls_of_code (fun _ => 0) (fn := Try.f36) (rs := []) Try.func36 rfl rfl (by kernel_rfl) (Nat.le_of_ble_eq_true rfl) ((rf_36_eq a0 K w).mp h)

/-- (*cloak/cloakref01.Disk).Write -/
def rf_37 (a0 : Value) (a1 : Value) (a2 : Value) (a3 : Value) (K : Value → World → Prop) (w : World) : Prop :=
 callM Try.prog 49 #[a0, a1, a2, a3] (fun v14_1 w =>
 callM Try.prog 45 #[a0, a1] (fun v17_2 w =>
 oM Try.prog (Go.Op.binOp Go.BinOp.neq 29 (.tmp 0) (.const (.int .i64 0)) 29) 4 [v17_2] (fun v19_3 w =>
 condM v19_3
 (K v17_2 w)
 (oM Try.prog (Go.Op.binOp Go.BinOp.lss 3 (.tmp 0) (.tmp 1) 3) 4 [a2, (.int .i64 0)] (fun v22_4 w =>
 condM v22_4
 (K (.int .i64 1) w)
 (callM Try.prog 52 #[a2, a3] (fun v25_5 w =>
 oM Try.prog (Go.Op.unOp Go.UnOp.not 4 (.tmp 0)) 4 [v25_5] (fun v26_6 w =>
 condM v26_6
 (K (.int .i64 6) w)
 (callM Try.prog 53 #[a0, a1, a2, a3] (fun v31_7 w =>
 K (.int .i64 0) w) w)) w) w)) w)) w) w) w
theorem rf_37_eq (a0 : Value) (a1 : Value) (a2 : Value) (a3 : Value) (K : Value → World → Prop) (w : World) : rf_37 a0 a1 a2 a3 K w = code Try.prog (fun _ => 0) 32 (Try.f37.body.getD .skip) (slotsAt [a0, a1, a2, a3]) (retK Try.prog [.tmp 8] K) w := by kernel_rfl
theorem rf_37_ok {a0 a1 a2 a3 : Value} {K : Value → World → Prop} {w : World} (h : rf_37 a0 a1 a2 a3 K w) : callM Try.prog 37 #[a0, a1, a2, a3] K w :=
  calls_of_code (fun _ => 0) (fn := Try.f37) (rs := [.tmp 8]) Try.func37 rfl rfl (by kernel_rfl) (Nat.le_of_ble_eq_true rfl) ((rf_37_eq a0 a1 a2 a3 K w).mp h)

/-- (*cloak/cloakref01.Disk).get -/
def rf_38 (a0 : Value) (a1 : Value) (K : Value → World → Prop) (w : World) : Prop :=
 oM Try.prog (Go.Op.alloc 64) 0 [] (fun v4_1 w =>
 loopM [(.int .i64 0)] w (fun J_2 m_3 l_4 u_l_4 w0_l_4 => (fun w => (
 oM Try.prog (Go.Op.nilCheck (.tmp 0)) 0 [a0] (fun v8_5 w =>
 oM Try.prog (Go.Op.fieldAddr 58 (.tmp 0) 0) 0 [v8_5] (fun v9_6 w =>
 oM Try.prog (Go.Op.load 55 (.tmp 0)) 55 [v9_6] (fun v10_7 w =>
 oM Try.prog (Go.Op.call (Go.Call.mk (Go.Callee.builtin Go.Builtin.len) #[(.tmp 0)] #[55])) 3 [v10_7] (fun v11_8 w =>
 oM Try.prog (Go.Op.binOp Go.BinOp.lss 3 (.tmp 0) (.tmp 1) 3) 4 [(l_4.getD 0 undef), v11_8] (fun v12_9 w =>
 condM v12_9
 (oM Try.prog (Go.Op.nilCheck (.tmp 0)) 0 [a0] (fun v16_10 w =>
 oM Try.prog (Go.Op.fieldAddr 58 (.tmp 0) 0) 0 [v16_10] (fun v17_11 w =>
 oM Try.prog (Go.Op.load 55 (.tmp 0)) 55 [v17_11] (fun v18_12 w =>
 oM Try.prog (Go.Op.indexAddr 55 (.tmp 0) (.tmp 1)) 0 [v18_12, (l_4.getD 0 undef)] (fun v20_13 w =>
 oM Try.prog (Go.Op.fieldAddr 64 (.tmp 0) 0) 0 [v20_13] (fun v21_14 w =>
 oM Try.prog (Go.Op.load 3 (.tmp 0)) 3 [v21_14] (fun v22_15 w =>
 oM Try.prog (Go.Op.binOp Go.BinOp.eql 3 (.tmp 0) (.tmp 1) 3) 4 [v22_15, a1] (fun v24_16 w =>
 condM v24_16
 (oM Try.prog (Go.Op.nilCheck (.tmp 0)) 0 [a0] (fun v26_17 w =>
 oM Try.prog (Go.Op.fieldAddr 58 (.tmp 0) 0) 0 [v26_17] (fun v27_18 w =>
 oM Try.prog (Go.Op.load 55 (.tmp 0)) 55 [v27_18] (fun v28_19 w =>
 oM Try.prog (Go.Op.indexAddr 55 (.tmp 0) (.tmp 1)) 0 [v28_19, (l_4.getD 0 undef)] (fun v30_20 w =>
 oM Try.prog (Go.Op.load 64 (.tmp 0)) 64 [v30_20] (fun v31_21 w =>
 oM Try.prog (Go.Op.store 64 (.tmp 0) (.tmp 1)) 0 [v4_1, v31_21] (fun _ w =>
 ∃ r_22, (do loadVar 64 (← asAddr v4_1) : Sem Value).run Try.prog w = .ok r_22 w ∧ K r_22 w) w) w) w) w) w) w)
 (oM Try.prog (Go.Op.binOp Go.BinOp.add 3 (.tmp 0) (.tmp 1) 3) 3 [(l_4.getD 0 undef), (.int .i64 1)] (fun v14_23 w =>
 J_2 [v14_23] w ∧ m_3 [v14_23] w < m_3 l_4 w0_l_4) w)) w) w) w) w) w) w) w)
 (oM Try.prog (Go.Op.build 64 #[(0, (.tmp 0))]) 64 [a1] (fun v33_24 w =>
 oM Try.prog (Go.Op.store 64 (.tmp 0) (.tmp 1)) 0 [v4_1, v33_24] (fun _ w =>
 ∃ r_25, (do loadVar 64 (← asAddr v4_1) : Sem Value).run Try.prog w = .ok r_25 w ∧ K r_25 w) w) w)) w) w) w) w) w)) w0_l_4)) w
theorem rf_38_eq (a0 : Value) (a1 : Value) (K : Value → World → Prop) (w : World) : rf_38 a0 a1 K w = code Try.prog (fun _ => 0) 34 (Try.f38.body.getD .skip) (slotsAt [a0, a1]) (retK Try.prog [.cell 4 64] K) w := by kernel_rfl
theorem rf_38_ok {a0 a1 : Value} {K : Value → World → Prop} {w : World} (h : rf_38 a0 a1 K w) : callM Try.prog 38 #[a0, a1] K w :=
  calls_of_code (fun _ => 0) (fn := Try.f38) (rs := [.cell 4 64]) Try.func38 rfl rfl (by kernel_rfl) (Nat.le_of_ble_eq_true rfl) ((rf_38_eq a0 a1 K w).mp h)

/-- (*cloak/cloakref01.Disk).may -/
def rf_45 (a0 : Value) (a1 : Value) (K : Value → World → Prop) (w : World) : Prop :=
 oM Try.prog (Go.Op.nilCheck (.tmp 0)) 0 [a0] (fun v6_1 w =>
 oM Try.prog (Go.Op.fieldAddr 58 (.tmp 0) 3) 0 [v6_1] (fun v7_2 w =>
 oM Try.prog (Go.Op.load 4 (.tmp 0)) 4 [v7_2] (fun v8_3 w =>
 condM v8_3
 (K (.int .i64 8) w)
 (oM Try.prog (Go.Op.binOp Go.BinOp.lss 3 (.tmp 0) (.tmp 1) 3) 4 [a1, (.int .i64 0)] (fun v10_4 w =>
 gdM (gd v10_4 false) (pureM a1) (fun v12_5 w =>
 gdM (gd v10_4 false) (oM Try.prog (Go.Op.binOp Go.BinOp.gtr 3 (.tmp 0) (.tmp 1) 3) 4 [v12_5, (.int .i64 15)]) (fun v13_6 w =>
 oM Try.prog (Go.Op.pick (.tmp 0) (.tmp 1) (.tmp 2)) 4 [v10_4, (.bool true), v13_6] (fun v14_7 w =>
 condM v14_7
 (K (.int .i64 1) w)
 (K (.int .i64 0) w)) w) w) w) w)) w) w) w
theorem rf_45_eq (a0 : Value) (a1 : Value) (K : Value → World → Prop) (w : World) : rf_45 a0 a1 K w = code Try.prog (fun _ => 0) 15 (Try.f45.body.getD .skip) (slotsAt [a0, a1]) (retK Try.prog [.tmp 4] K) w := by kernel_rfl
theorem rf_45_ok {a0 a1 : Value} {K : Value → World → Prop} {w : World} (h : rf_45 a0 a1 K w) : callM Try.prog 45 #[a0, a1] K w :=
  calls_of_code (fun _ => 0) (fn := Try.f45) (rs := [.tmp 4]) Try.func45 rfl rfl (by kernel_rfl) (Nat.le_of_ble_eq_true rfl) ((rf_45_eq a0 a1 K w).mp h)

/-- (*cloak/cloakref01.Disk).comes -/
def rf_49 (a0 : Value) (a1 : Value) (a2 : Value) (a3 : Value) (K : Value → World → Prop) (w : World) : Prop :=
 oM Try.prog (Go.Op.nilCheck (.tmp 0)) 0 [a0] (fun v9_1 w =>
 oM Try.prog (Go.Op.fieldAddr 58 (.tmp 0) 3) 0 [v9_1] (fun v10_2 w =>
 oM Try.prog (Go.Op.load 4 (.tmp 0)) 4 [v10_2] (fun v11_3 w =>
 gdM (gd v11_3 false) (pureM a0) (fun v13_4 w =>
 gdM (gd v11_3 false) (oM Try.prog (Go.Op.nilCheck (.tmp 0)) 0 [v13_4]) (fun v14_5 w =>
 gdM (gd v11_3 false) (oM Try.prog (Go.Op.fieldAddr 58 (.tmp 0) 4) 0 [v14_5]) (fun v15_6 w =>
 gdM (gd v11_3 false) (oM Try.prog (Go.Op.load 3 (.tmp 0)) 3 [v15_6]) (fun v16_7 w =>
 gdM (gd v11_3 false) (oM Try.prog (Go.Op.binOp Go.BinOp.eql 3 (.tmp 0) (.const (.int .i64 0)) 3) 4 [v16_7]) (fun v17_8 w =>
 oM Try.prog (Go.Op.pick (.tmp 0) (.tmp 1) (.tmp 2)) 4 [v11_3, (.bool true), v17_8] (fun v18_9 w =>
 condM v18_9
 (K (.tuple #[]) w)
 (oM Try.prog (Go.Op.nilCheck (.tmp 0)) 0 [a0] (fun v20_10 w =>
 oM Try.prog (Go.Op.fieldAddr 58 (.tmp 0) 4) 0 [v20_10] (fun v21_11 w =>
 oM Try.prog (Go.Op.load 3 (.tmp 0)) 3 [v21_11] (fun v22_12 w =>
 oM Try.prog (Go.Op.binOp Go.BinOp.sub 3 (.tmp 0) (.tmp 1) 3) 3 [v22_12, (.int .i64 1)] (fun v23_13 w =>
 oM Try.prog (Go.Op.nilCheck (.tmp 0)) 0 [a0] (fun v24_14 w =>
 oM Try.prog (Go.Op.fieldAddr 58 (.tmp 0) 4) 0 [v24_14] (fun v25_15 w =>
 oM Try.prog (Go.Op.store 3 (.tmp 0) (.tmp 1)) 0 [v25_15, v23_13] (fun _ w =>
 oM Try.prog (Go.Op.nilCheck (.tmp 0)) 0 [a0] (fun v27_16 w =>
 oM Try.prog (Go.Op.fieldAddr 58 (.tmp 0) 4) 0 [v27_16] (fun v28_17 w =>
 oM Try.prog (Go.Op.load 3 (.tmp 0)) 3 [v28_17] (fun v29_18 w =>
 oM Try.prog (Go.Op.binOp Go.BinOp.gtr 3 (.tmp 0) (.tmp 1) 3) 4 [v29_18, (.int .i64 0)] (fun v30_19 w =>
 condM v30_19
 (K (.tuple #[]) w)
 (joinM (fun M_20 => (oM Try.prog (Go.Op.binOp Go.BinOp.geq 3 (.tmp 0) (.tmp 1) 3) 4 [a1, (.int .i64 0)] (fun v32_22 w =>
 gdM (gd v32_22 true) (pureM a1) (fun v34_23 w =>
 gdM (gd v32_22 true) (oM Try.prog (Go.Op.binOp Go.BinOp.leq 3 (.tmp 0) (.tmp 1) 3) 4 [v34_23, (.int .i64 15)]) (fun v35_24 w =>
 oM Try.prog (Go.Op.pick (.tmp 0) (.tmp 1) (.tmp 2)) 4 [v32_22, v35_24, (.bool false)] (fun v36_25 w =>
 gdM (gd v36_25 true) (pureM a2) (fun v38_26 w =>
 gdM (gd v36_25 true) (pureM a3) (fun v39_27 w =>
 gdM (gd v36_25 true) (callM Try.prog 52 #[v38_26, v39_27]) (fun v40_28 w =>
 oM Try.prog (Go.Op.pick (.tmp 0) (.tmp 1) (.tmp 2)) 4 [v36_25, v40_28, (.bool false)] (fun v41_29 w =>
 condM v41_29
 (callM Try.prog 53 #[a0, a1, a2, a3] (fun v46_30 w =>
 M_20 [] w) w)
 (M_20 [] w)) w) w) w) w) w) w) w) w))
 (fun l_21 u_l_21 w => (oM Try.prog (Go.Op.nilCheck (.tmp 0)) 0 [a0] (fun v49_31 w =>
 oM Try.prog (Go.Op.fieldAddr 58 (.tmp 0) 5) 0 [v49_31] (fun v50_32 w =>
 oM Try.prog (Go.Op.load 31 (.tmp 0)) 31 [v50_32] (fun v51_33 w =>
 callM Try.prog 35 #[a0, v51_33] (fun v52_34 w =>
 K (.tuple #[]) w) w) w) w) w)))) w) w) w) w) w) w) w) w) w) w) w)) w) w) w) w) w) w) w) w) w
theorem rf_49_eq (a0 : Value) (a1 : Value) (a2 : Value) (a3 : Value) (K : Value → World → Prop) (w : World) : rf_49 a0 a1 a2 a3 K w = code Try.prog (fun _ => 0) 53 (Try.f49.body.getD .skip) (slotsAt [a0, a1, a2, a3]) (retK Try.prog [] K) w := by kernel_rfl
theorem rf_49_ok {a0 a1 a2 a3 : Value} {K : Value → World → Prop} {w : World} (h : rf_49 a0 a1 a2 a3 K w) : callM Try.prog 49 #[a0, a1, a2, a3] K w :=
  calls_of_code (fun _ => 0) (fn := Try.f49) (rs := []) Try.func49 rfl rfl (by kernel_rfl) (Nat.le_of_ble_eq_true rfl) ((rf_49_eq a0 a1 a2 a3 K w).mp h)

/-- (*cloak/cloakref01.Disk).settle -/
def rf_50 (a0 : Value) (a1 : Value) (a2 : Value) (K : Value → World → Prop) (w : World) : Prop :=
 oM Try.prog (Go.Op.build 64 #[(0, (.tmp 0)), (1, (.tmp 1)), (2, (.tmp 2))]) 64 [a1, a2, a2] (fun v12_1 w =>
 callM Try.prog 59 #[a0, v12_1] (fun v13_2 w =>
 loopM [(.slice none 0 0), (.int .i64 0)] w (fun J_3 m_4 l_5 u_l_5 w0_l_5 => (fun w => (
 oM Try.prog (Go.Op.nilCheck (.tmp 0)) 0 [a0] (fun v16_6 w =>
 oM Try.prog (Go.Op.fieldAddr 58 (.tmp 0) 1) 0 [v16_6] (fun v17_7 w =>
 oM Try.prog (Go.Op.load 56 (.tmp 0)) 56 [v17_7] (fun v18_8 w =>
 oM Try.prog (Go.Op.call (Go.Call.mk (Go.Callee.builtin Go.Builtin.len) #[(.tmp 0)] #[56])) 3 [v18_8] (fun v19_9 w =>
 oM Try.prog (Go.Op.binOp Go.BinOp.lss 3 (.tmp 0) (.tmp 1) 3) 4 [(l_5.getD 1 undef), v19_9] (fun v20_10 w =>
 condM v20_10
 (joinM (fun M_11 => (oM Try.prog (Go.Op.nilCheck (.tmp 0)) 0 [a0] (fun v24_13 w =>
 oM Try.prog (Go.Op.fieldAddr 58 (.tmp 0) 1) 0 [v24_13] (fun v25_14 w =>
 oM Try.prog (Go.Op.load 56 (.tmp 0)) 56 [v25_14] (fun v26_15 w =>
 oM Try.prog (Go.Op.indexAddr 56 (.tmp 0) (.tmp 1)) 0 [v26_15, (l_5.getD 1 undef)] (fun v28_16 w =>
 oM Try.prog (Go.Op.fieldAddr 77 (.tmp 0) 0) 0 [v28_16] (fun v29_17 w =>
 oM Try.prog (Go.Op.load 3 (.tmp 0)) 3 [v29_17] (fun v30_18 w =>
 oM Try.prog (Go.Op.binOp Go.BinOp.neq 3 (.tmp 0) (.tmp 1) 3) 4 [v30_18, a1] (fun v32_19 w =>
 condM v32_19
 (oM Try.prog (Go.Op.nilCheck (.tmp 0)) 0 [a0] (fun v35_20 w =>
 oM Try.prog (Go.Op.fieldAddr 58 (.tmp 0) 1) 0 [v35_20] (fun v36_21 w =>
 oM Try.prog (Go.Op.load 56 (.tmp 0)) 56 [v36_21] (fun v37_22 w =>
 oM Try.prog (Go.Op.indexAddr 56 (.tmp 0) (.tmp 1)) 0 [v37_22, (l_5.getD 1 undef)] (fun v39_23 w =>
 oM Try.prog (Go.Op.load 77 (.tmp 0)) 77 [v39_23] (fun v40_24 w =>
 oM Try.prog (Go.Op.buildSlice 56 1 #[(0, (.tmp 0))]) 56 [v40_24] (fun v41_25 w =>
 oM Try.prog (Go.Op.call (Go.Call.mk (Go.Callee.builtin Go.Builtin.append) #[(.tmp 0), (.tmp 1)] #[56, 56])) 56 [(l_5.getD 0 undef), v41_25] (fun v42_26 w =>
 M_11 [v42_26] w) w) w) w) w) w) w) w)
 (M_11 [(l_5.getD 0 undef)] w)) w) w) w) w) w) w) w))
 (fun l_12 u_l_12 w => (oM Try.prog (Go.Op.binOp Go.BinOp.add 3 (.tmp 0) (.tmp 1) 3) 3 [(l_5.getD 1 undef), (.int .i64 1)] (fun v22_27 w =>
 J_3 [(l_12.getD 0 undef), v22_27] w ∧ m_4 [(l_12.getD 0 undef), v22_27] w < m_4 l_5 w0_l_5) w)))
 (oM Try.prog (Go.Op.nilCheck (.tmp 0)) 0 [a0] (fun v45_28 w =>
 oM Try.prog (Go.Op.fieldAddr 58 (.tmp 0) 1) 0 [v45_28] (fun v46_29 w =>
 oM Try.prog (Go.Op.store 56 (.tmp 0) (.tmp 1)) 0 [v46_29, (l_5.getD 0 undef)] (fun _ w =>
 K (.tuple #[]) w) w) w) w)) w) w) w) w) w)) w0_l_5)) w) w
theorem rf_50_eq (a0 : Value) (a1 : Value) (a2 : Value) (K : Value → World → Prop) (w : World) : rf_50 a0 a1 a2 K w = code Try.prog (fun _ => 0) 47 (Try.f50.body.getD .skip) (slotsAt [a0, a1, a2]) (retK Try.prog [] K) w := by kernel_rfl
theorem rf_50_ok {a0 a1 a2 : Value} {K : Value → World → Prop} {w : World} (h : rf_50 a0 a1 a2 K w) : callM Try.prog 50 #[a0, a1, a2] K w :=
  calls_of_code (fun _ => 0) (fn := Try.f50) (rs := []) Try.func50 rfl rfl (by kernel_rfl) (Nat.le_of_ble_eq_true rfl) ((rf_50_eq a0 a1 a2 K w).mp h)

/-- (*cloak/cloakref01.Disk).survive -/
def rf_51 (a0 : Value) (a1 : Value) (K : Value → World → Prop) (w : World) : Prop :=
 oM Try.prog (Go.Op.box 77 (.tmp 0)) 0 [a1] (fun v3_1 w =>
 oM Try.prog (Go.Op.fieldAddr 77 (.tmp 0) 0) 0 [v3_1] (fun v6_2 w =>
 oM Try.prog (Go.Op.load 3 (.tmp 0)) 3 [v6_2] (fun v7_3 w =>
 callM Try.prog 38 #[a0, v7_3] (fun v8_4 w =>
 oM Try.prog (Go.Op.alloc 64) 0 [] (fun v4_5 w =>
 oM Try.prog (Go.Op.store 64 (.tmp 0) (.tmp 1)) 0 [v4_5, v8_4] (fun _ w =>
 joinM (fun M_6 => (oM Try.prog (Go.Op.fieldAddr 77 (.tmp 0) 1) 0 [v3_1] (fun v9_8 w =>
 oM Try.prog (Go.Op.load 3 (.tmp 0)) 3 [v9_8] (fun v10_9 w =>
 oM Try.prog (Go.Op.binOp Go.BinOp.mul 3 (.tmp 0) (.tmp 1) 3) 3 [(.int .i64 64), v10_9] (fun v11_10 w =>
 oM Try.prog (Go.Op.fieldAddr 64 (.tmp 0) 1) 0 [v4_5] (fun v12_11 w =>
 oM Try.prog (Go.Op.load 9 (.tmp 0)) 9 [v12_11] (fun v13_12 w =>
 oM Try.prog (Go.Op.call (Go.Call.mk (Go.Callee.builtin Go.Builtin.len) #[(.tmp 0)] #[9])) 3 [v13_12] (fun v14_13 w =>
 oM Try.prog (Go.Op.binOp Go.BinOp.lss 3 (.tmp 0) (.tmp 1) 3) 4 [v11_10, v14_13] (fun v15_14 w =>
 condM v15_14
 (stageM w (fun C_15 w => (oH Try.prog (Go.Op.fieldAddr 64 (.tmp 0) 2) 0 [v4_5] (upto C_15 0) (fun v16_16 =>
 oH Try.prog (Go.Op.load 9 (.tmp 0)) 9 [v16_16] (upto C_15 0) (fun v17_17 =>
 oH Try.prog (Go.Op.fieldAddr 77 (.tmp 0) 1) 0 [v3_1] (upto C_15 0) (fun v18_18 =>
 oH Try.prog (Go.Op.load 3 (.tmp 0)) 3 [v18_18] (upto C_15 0) (fun v19_19 =>
 oH Try.prog (Go.Op.binOp Go.BinOp.mul 3 (.tmp 0) (.tmp 1) 3) 3 [(.int .i64 64), v19_19] (upto C_15 0) (fun v20_20 =>
 oH Try.prog (Go.Op.fieldAddr 64 (.tmp 0) 1) 0 [v4_5] (upto C_15 0) (fun v21_21 =>
 oH Try.prog (Go.Op.load 9 (.tmp 0)) 9 [v21_21] (upto C_15 0) (fun v22_22 =>
 oH Try.prog (Go.Op.fieldAddr 77 (.tmp 0) 1) 0 [v3_1] (upto C_15 0) (fun v23_23 =>
 oH Try.prog (Go.Op.load 3 (.tmp 0)) 3 [v23_23] (upto C_15 0) (fun v24_24 =>
 oH Try.prog (Go.Op.binOp Go.BinOp.mul 3 (.tmp 0) (.tmp 1) 3) 3 [(.int .i64 64), v24_24] (upto C_15 0) (fun v25_25 =>
 oH Try.prog (Go.Op.fieldAddr 77 (.tmp 0) 1) 0 [v3_1] (upto C_15 0) (fun v26_26 =>
 oH Try.prog (Go.Op.load 3 (.tmp 0)) 3 [v26_26] (upto C_15 0) (fun v27_27 =>
 oH Try.prog (Go.Op.binOp Go.BinOp.mul 3 (.tmp 0) (.tmp 1) 3) 3 [(.int .i64 64), v27_27] (upto C_15 0) (fun v28_28 =>
 oH Try.prog (Go.Op.binOp Go.BinOp.add 3 (.tmp 0) (.tmp 1) 3) 3 [v28_28, (.int .i64 64)] (upto C_15 0) (fun v29_29 =>
 oH Try.prog (Go.Op.fieldAddr 64 (.tmp 0) 1) 0 [v4_5] (upto C_15 0) (fun v30_30 =>
 oH Try.prog (Go.Op.load 9 (.tmp 0)) 9 [v30_30] (upto C_15 0) (fun v31_31 =>
 oH Try.prog (Go.Op.call (Go.Call.mk (Go.Callee.builtin Go.Builtin.len) #[(.tmp 0)] #[9])) 3 [v31_31] (upto C_15 0) (fun v32_32 =>
 oH Try.prog (Go.Op.call (Go.Call.mk (Go.Callee.builtin Go.Builtin.min) #[(.tmp 0), (.tmp 1)] #[3, 3])) 3 [v29_29, v32_32] (upto C_15 0) (fun v33_33 =>
 oH Try.prog (Go.Op.slice 9 (.tmp 0) (some (.tmp 1)) (some (.tmp 2)) none) 9 [v22_22, v25_25, v33_33] (upto C_15 0) (fun v34_34 =>
 callM Try.prog 60 #[v17_17, v20_20, v34_34] (fun v35_35 w => C_15 1 w ∧ (
 oM Try.prog (Go.Op.fieldAddr 64 (.tmp 0) 2) 0 [v4_5] (fun v36_36 w => C_15 2 w ∧ (
 oM Try.prog (Go.Op.store 9 (.tmp 0) (.tmp 1)) 0 [v36_36, v35_35] (fun _ w => C_15 3 w ∧ (
 M_6 [] w)) w)) w)) w))))))))))))))))))))))
 (M_6 [] w)) w) w) w) w) w) w) w))
 (fun l_7 u_l_7 w => (oM Try.prog (Go.Op.load 64 (.tmp 0)) 64 [v4_5] (fun v38_37 w =>
 callM Try.prog 59 #[a0, v38_37] (fun v39_38 w =>
 K (.tuple #[]) w) w) w))) w) w) w) w) w) w
theorem rf_51_eq (a0 : Value) (a1 : Value) (K : Value → World → Prop) (w : World) : rf_51 a0 a1 K w = code Try.prog (fun _ => 3) 40 (Try.f51.body.getD .skip) (slotsAt [a0, a1]) (retK Try.prog [] K) w := by kernel_rfl
theorem rf_51_ok {a0 a1 : Value} {K : Value → World → Prop} {w : World} (h : rf_51 a0 a1 K w) : callM Try.prog 51 #[a0, a1] K w :=
  calls_of_code (fun _ => 3) (fn := Try.f51) (rs := []) Try.func51 rfl rfl (by kernel_rfl) (Nat.le_of_ble_eq_true rfl) ((rf_51_eq a0 a1 K w).mp h)

/-- cloak/cloakref01.fits -/
def rf_52 (a0 : Value) (a1 : Value) (K : Value → World → Prop) (w : World) : Prop :=
 oM Try.prog (Go.Op.binOp Go.BinOp.geq 3 (.tmp 0) (.tmp 1) 3) 4 [a0, (.int .i64 0)] (fun v6_1 w =>
 gdM (gd v6_1 true) (pureM a0) (fun v8_2 w =>
 gdM (gd v6_1 true) (oM Try.prog (Go.Op.binOp Go.BinOp.leq 3 (.tmp 0) (.tmp 1) 3) 4 [v8_2, (.int .i64 16777216)]) (fun v9_3 w =>
 oM Try.prog (Go.Op.pick (.tmp 0) (.tmp 1) (.tmp 2)) 4 [v6_1, v9_3, (.bool false)] (fun v10_4 w =>
 gdM (gd v10_4 true) (pureM a0) (fun v12_5 w =>
 gdM (gd v10_4 true) (pureM a1) (fun v13_6 w =>
 gdM (gd v10_4 true) (oM Try.prog (Go.Op.call (Go.Call.mk (Go.Callee.builtin Go.Builtin.len) #[(.tmp 0)] #[9])) 3 [v13_6]) (fun v14_7 w =>
 gdM (gd v10_4 true) (oM Try.prog (Go.Op.binOp Go.BinOp.add 3 (.tmp 0) (.tmp 1) 3) 3 [v12_5, v14_7]) (fun v15_8 w =>
 gdM (gd v10_4 true) (oM Try.prog (Go.Op.binOp Go.BinOp.leq 3 (.tmp 0) (.tmp 1) 3) 4 [v15_8, (.int .i64 16777216)]) (fun v16_9 w =>
 oM Try.prog (Go.Op.pick (.tmp 0) (.tmp 1) (.tmp 2)) 4 [v10_4, v16_9, (.bool false)] (fun v17_10 w =>
 K v17_10 w) w) w) w) w) w) w) w) w) w) w
theorem rf_52_eq (a0 : Value) (a1 : Value) (K : Value → World → Prop) (w : World) : rf_52 a0 a1 K w = code Try.prog (fun _ => 0) 18 (Try.f52.body.getD .skip) (slotsAt [a0, a1]) (retK Try.prog [.tmp 4] K) w := by kernel_rfl
theorem rf_52_ok {a0 a1 : Value} {K : Value → World → Prop} {w : World} (h : rf_52 a0 a1 K w) : callM Try.prog 52 #[a0, a1] K w :=
  calls_of_code (fun _ => 0) (fn := Try.f52) (rs := [.tmp 4]) Try.func52 rfl rfl (by kernel_rfl) (Nat.le_of_ble_eq_true rfl) ((rf_52_eq a0 a1 K w).mp h)

/-- (*cloak/cloakref01.Disk).add -/
def rf_53 (a0 : Value) (a1 : Value) (a2 : Value) (a3 : Value) (K : Value → World → Prop) (w : World) : Prop :=
 oM Try.prog (Go.Op.binOp Go.BinOp.eql 9 (.tmp 0) (.const (.string ⟨#[]⟩)) 9) 4 [a3] (fun v11_1 w =>
 condM v11_1
 (K (.tuple #[]) w)
 (callM Try.prog 38 #[a0, a1] (fun v14_2 w =>
 oM Try.prog (Go.Op.alloc 64) 0 [] (fun v8_3 w =>
 oM Try.prog (Go.Op.store 64 (.tmp 0) (.tmp 1)) 0 [v8_3, v14_2] (fun _ w =>
 oM Try.prog (Go.Op.fieldAddr 64 (.tmp 0) 1) 0 [v8_3] (fun v15_4 w =>
 oM Try.prog (Go.Op.load 9 (.tmp 0)) 9 [v15_4] (fun v16_5 w =>
 callM Try.prog 60 #[v16_5, a2, a3] (fun v19_6 w =>
 oM Try.prog (Go.Op.fieldAddr 64 (.tmp 0) 1) 0 [v8_3] (fun v20_7 w =>
 oM Try.prog (Go.Op.store 9 (.tmp 0) (.tmp 1)) 0 [v20_7, v19_6] (fun _ w =>
 oM Try.prog (Go.Op.load 64 (.tmp 0)) 64 [v8_3] (fun v22_8 w =>
 callM Try.prog 59 #[a0, v22_8] (fun v23_9 w =>
 oM Try.prog (Go.Op.binOp Go.BinOp.quo 3 (.tmp 0) (.tmp 1) 3) 3 [a2, (.int .i64 64)] (fun v25_10 w =>
 loopM [v25_10] w (fun J_11 m_12 l_13 u_l_13 w0_l_13 => (fun w => (
 oM Try.prog (Go.Op.call (Go.Call.mk (Go.Callee.builtin Go.Builtin.len) #[(.tmp 0)] #[9])) 3 [a3] (fun v29_14 w =>
 oM Try.prog (Go.Op.binOp Go.BinOp.add 3 (.tmp 0) (.tmp 1) 3) 3 [a2, v29_14] (fun v30_15 w =>
 oM Try.prog (Go.Op.binOp Go.BinOp.sub 3 (.tmp 0) (.tmp 1) 3) 3 [v30_15, (.int .i64 1)] (fun v31_16 w =>
 oM Try.prog (Go.Op.binOp Go.BinOp.quo 3 (.tmp 0) (.tmp 1) 3) 3 [v31_16, (.int .i64 64)] (fun v32_17 w =>
 oM Try.prog (Go.Op.binOp Go.BinOp.leq 3 (.tmp 0) (.tmp 1) 3) 4 [(l_13.getD 0 undef), v32_17] (fun v33_18 w =>
 condM v33_18
 (joinM (fun M_19 => (callM Try.prog 61 #[a0, a1, (l_13.getD 0 undef)] (fun v39_21 w =>
 oM Try.prog (Go.Op.unOp Go.UnOp.not 4 (.tmp 0)) 4 [v39_21] (fun v40_22 w =>
 condM v40_22
 (oM Try.prog (Go.Op.nilCheck (.tmp 0)) 0 [a0] (fun v43_23 w =>
 oM Try.prog (Go.Op.fieldAddr 58 (.tmp 0) 1) 0 [v43_23] (fun v44_24 w =>
 oM Try.prog (Go.Op.load 56 (.tmp 0)) 56 [v44_24] (fun v45_25 w =>
 oM Try.prog (Go.Op.build 77 #[(0, (.tmp 0)), (1, (.tmp 1))]) 77 [a1, (l_13.getD 0 undef)] (fun v48_26 w =>
 oM Try.prog (Go.Op.buildSlice 56 1 #[(0, (.tmp 0))]) 56 [v48_26] (fun v49_27 w =>
 oM Try.prog (Go.Op.call (Go.Call.mk (Go.Callee.builtin Go.Builtin.append) #[(.tmp 0), (.tmp 1)] #[56, 56])) 56 [v45_25, v49_27] (fun v50_28 w =>
 oM Try.prog (Go.Op.nilCheck (.tmp 0)) 0 [a0] (fun v51_29 w =>
 oM Try.prog (Go.Op.fieldAddr 58 (.tmp 0) 1) 0 [v51_29] (fun v52_30 w =>
 oM Try.prog (Go.Op.store 56 (.tmp 0) (.tmp 1)) 0 [v52_30, v50_28] (fun _ w =>
 M_19 [] w) w) w) w) w) w) w) w) w) w)
 (M_19 [] w)) w) w))
 (fun l_20 u_l_20 w => (oM Try.prog (Go.Op.binOp Go.BinOp.add 3 (.tmp 0) (.tmp 1) 3) 3 [(l_13.getD 0 undef), (.int .i64 1)] (fun v35_31 w =>
 J_11 [v35_31] w ∧ m_12 [v35_31] w < m_12 l_13 w0_l_13) w)))
 (K (.tuple #[]) w)) w) w) w) w) w)) w0_l_13)) w) w) w) w) w) w) w) w) w) w) w)) w
theorem rf_53_eq (a0 : Value) (a1 : Value) (a2 : Value) (a3 : Value) (K : Value → World → Prop) (w : World) : rf_53 a0 a1 a2 a3 K w = code Try.prog (fun _ => 0) 53 (Try.f53.body.getD .skip) (slotsAt [a0, a1, a2, a3]) (retK Try.prog [] K) w := by kernel_rfl
theorem rf_53_ok {a0 a1 a2 a3 : Value} {K : Value → World → Prop} {w : World} (h : rf_53 a0 a1 a2 a3 K w) : callM Try.prog 53 #[a0, a1, a2, a3] K w :=
  calls_of_code (fun _ => 0) (fn := Try.f53) (rs := []) Try.func53 rfl rfl (by kernel_rfl) (Nat.le_of_ble_eq_true rfl) ((rf_53_eq a0 a1 a2 a3 K w).mp h)

/-- (*cloak/cloakref01.Disk).set -/
def rf_59 (a0 : Value) (a1 : Value) (K : Value → World → Prop) (w : World) : Prop :=
 oM Try.prog (Go.Op.box 64 (.tmp 0)) 0 [a1] (fun v3_1 w =>
 loopM [(.slice none 0 0), (.int .i64 0)] w (fun J_2 m_3 l_4 u_l_4 w0_l_4 => (fun w => (
 oM Try.prog (Go.Op.nilCheck (.tmp 0)) 0 [a0] (fun v8_5 w =>
 oM Try.prog (Go.Op.fieldAddr 58 (.tmp 0) 0) 0 [v8_5] (fun v9_6 w =>
 oM Try.prog (Go.Op.load 55 (.tmp 0)) 55 [v9_6] (fun v10_7 w =>
 oM Try.prog (Go.Op.call (Go.Call.mk (Go.Callee.builtin Go.Builtin.len) #[(.tmp 0)] #[55])) 3 [v10_7] (fun v11_8 w =>
 oM Try.prog (Go.Op.binOp Go.BinOp.lss 3 (.tmp 0) (.tmp 1) 3) 4 [(l_4.getD 1 undef), v11_8] (fun v12_9 w =>
 condM v12_9
 (joinM (fun M_10 => (quietM w (fun C_12 => (oQ Try.prog (Go.Op.nilCheck (.tmp 0)) 0 [a0] C_12 (fun v16_13 =>
 oQ Try.prog (Go.Op.fieldAddr 58 (.tmp 0) 0) 0 [v16_13] C_12 (fun v17_14 =>
 oQ Try.prog (Go.Op.load 55 (.tmp 0)) 55 [v17_14] C_12 (fun v18_15 =>
 oQ Try.prog (Go.Op.indexAddr 55 (.tmp 0) (.tmp 1)) 0 [v18_15, (l_4.getD 1 undef)] C_12 (fun v20_16 =>
 oQ Try.prog (Go.Op.fieldAddr 64 (.tmp 0) 0) 0 [v20_16] C_12 (fun v21_17 =>
 oQ Try.prog (Go.Op.load 3 (.tmp 0)) 3 [v21_17] C_12 (fun v22_18 =>
 oQ Try.prog (Go.Op.fieldAddr 64 (.tmp 0) 0) 0 [v3_1] C_12 (fun v23_19 =>
 oQ Try.prog (Go.Op.load 3 (.tmp 0)) 3 [v23_19] C_12 (fun v24_20 =>
 oQ Try.prog (Go.Op.binOp Go.BinOp.neq 3 (.tmp 0) (.tmp 1) 3) 4 [v22_18, v24_20] C_12 (fun v25_21 =>
 ∀ w, C_12 w → (condM v25_21
 (oM Try.prog (Go.Op.nilCheck (.tmp 0)) 0 [a0] (fun v28_22 w =>
 oM Try.prog (Go.Op.fieldAddr 58 (.tmp 0) 0) 0 [v28_22] (fun v29_23 w =>
 oM Try.prog (Go.Op.load 55 (.tmp 0)) 55 [v29_23] (fun v30_24 w =>
 oM Try.prog (Go.Op.indexAddr 55 (.tmp 0) (.tmp 1)) 0 [v30_24, (l_4.getD 1 undef)] (fun v32_25 w =>
 oM Try.prog (Go.Op.load 64 (.tmp 0)) 64 [v32_25] (fun v33_26 w =>
 oM Try.prog (Go.Op.buildSlice 55 1 #[(0, (.tmp 0))]) 55 [v33_26] (fun v34_27 w =>
 oM Try.prog (Go.Op.call (Go.Call.mk (Go.Callee.builtin Go.Builtin.append) #[(.tmp 0), (.tmp 1)] #[55, 55])) 55 [(l_4.getD 0 undef), v34_27] (fun v35_28 w =>
 M_10 [v35_28] w) w) w) w) w) w) w) w)
 (M_10 [(l_4.getD 0 undef)] w)))))))))))))))
 (fun l_11 u_l_11 w => (oM Try.prog (Go.Op.binOp Go.BinOp.add 3 (.tmp 0) (.tmp 1) 3) 3 [(l_4.getD 1 undef), (.int .i64 1)] (fun v14_29 w =>
 J_2 [(l_11.getD 0 undef), v14_29] w ∧ m_3 [(l_11.getD 0 undef), v14_29] w < m_3 l_4 w0_l_4) w)))
 (oM Try.prog (Go.Op.load 64 (.tmp 0)) 64 [v3_1] (fun v38_30 w =>
 oM Try.prog (Go.Op.buildSlice 55 1 #[(0, (.tmp 0))]) 55 [v38_30] (fun v39_31 w =>
 oM Try.prog (Go.Op.call (Go.Call.mk (Go.Callee.builtin Go.Builtin.append) #[(.tmp 0), (.tmp 1)] #[55, 55])) 55 [(l_4.getD 0 undef), v39_31] (fun v40_32 w =>
 oM Try.prog (Go.Op.nilCheck (.tmp 0)) 0 [a0] (fun v41_33 w =>
 oM Try.prog (Go.Op.fieldAddr 58 (.tmp 0) 0) 0 [v41_33] (fun v42_34 w =>
 oM Try.prog (Go.Op.store 55 (.tmp 0) (.tmp 1)) 0 [v42_34, v40_32] (fun _ w =>
 K (.tuple #[]) w) w) w) w) w) w) w)) w) w) w) w) w)) w0_l_4)) w
theorem rf_59_eq (a0 : Value) (a1 : Value) (K : Value → World → Prop) (w : World) : rf_59 a0 a1 K w = code Try.prog (fun _ => 0) 43 (Try.f59.body.getD .skip) (slotsAt [a0, a1]) (retK Try.prog [] K) w := by kernel_rfl
theorem rf_59_ok {a0 a1 : Value} {K : Value → World → Prop} {w : World} (h : rf_59 a0 a1 K w) : callM Try.prog 59 #[a0, a1] K w :=
  calls_of_code (fun _ => 0) (fn := Try.f59) (rs := []) Try.func59 rfl rfl (by kernel_rfl) (Nat.le_of_ble_eq_true rfl) ((rf_59_eq a0 a1 K w).mp h)

/-- cloak/cloakref01.Put -/
def rf_60 (a0 : Value) (a1 : Value) (a2 : Value) (K : Value → World → Prop) (w : World) : Prop :=
 oM Try.prog (Go.Op.binOp Go.BinOp.eql 9 (.tmp 0) (.const (.string ⟨#[]⟩)) 9) 4 [a2] (fun v10_1 w =>
 condM v10_1
 (K a0 w)
 (oM Try.prog (Go.Op.convert 9 84 (.tmp 0)) 84 [a0] (fun v13_2 w =>
 loopM [v13_2] w (fun J_3 m_4 l_5 u_l_5 w0_l_5 => (fun w => (
 oM Try.prog (Go.Op.call (Go.Call.mk (Go.Callee.builtin Go.Builtin.len) #[(.tmp 0)] #[84])) 3 [(l_5.getD 0 undef)] (fun v15_6 w =>
 oM Try.prog (Go.Op.call (Go.Call.mk (Go.Callee.builtin Go.Builtin.len) #[(.tmp 0)] #[9])) 3 [a2] (fun v18_7 w =>
 oM Try.prog (Go.Op.binOp Go.BinOp.add 3 (.tmp 0) (.tmp 1) 3) 3 [a1, v18_7] (fun v19_8 w =>
 oM Try.prog (Go.Op.binOp Go.BinOp.lss 3 (.tmp 0) (.tmp 1) 3) 4 [v15_6, v19_8] (fun v20_9 w =>
 condM v20_9
 (oM Try.prog (Go.Op.buildSlice 84 1 #[(0, (.tmp 0))]) 84 [(.int .u8 0)] (fun v22_10 w =>
 oM Try.prog (Go.Op.call (Go.Call.mk (Go.Callee.builtin Go.Builtin.append) #[(.tmp 0), (.tmp 1)] #[84, 84])) 84 [(l_5.getD 0 undef), v22_10] (fun v23_11 w =>
 J_3 [v23_11] w ∧ m_4 [v23_11] w < m_4 l_5 w0_l_5) w) w)
 (loopM [(.int .i64 0)] w (fun J_12 m_13 l_14 u_l_14 w0_l_14 => (fun w => (
 oM Try.prog (Go.Op.call (Go.Call.mk (Go.Callee.builtin Go.Builtin.len) #[(.tmp 0)] #[9])) 3 [a2] (fun v26_15 w =>
 oM Try.prog (Go.Op.binOp Go.BinOp.lss 3 (.tmp 0) (.tmp 1) 3) 4 [(l_14.getD 0 undef), v26_15] (fun v27_16 w =>
 condM v27_16
 (oM Try.prog (Go.Op.binOp Go.BinOp.add 3 (.tmp 0) (.tmp 1) 3) 3 [a1, (l_14.getD 0 undef)] (fun v33_17 w =>
 oM Try.prog (Go.Op.index 9 (.tmp 0) (.tmp 1)) 5 [a2, (l_14.getD 0 undef)] (fun v36_18 w =>
 oM Try.prog (Go.Op.indexAddr 84 (.tmp 0) (.tmp 1)) 0 [(l_5.getD 0 undef), v33_17] (fun v37_19 w =>
 oM Try.prog (Go.Op.store 5 (.tmp 0) (.tmp 1)) 0 [v37_19, v36_18] (fun _ w =>
 oM Try.prog (Go.Op.binOp Go.BinOp.add 3 (.tmp 0) (.tmp 1) 3) 3 [(l_14.getD 0 undef), (.int .i64 1)] (fun v29_20 w =>
 J_12 [v29_20] w ∧ m_13 [v29_20] w < m_13 l_14 w0_l_14) w) w) w) w) w)
 (oM Try.prog (Go.Op.convert 84 9 (.tmp 0)) 9 [(l_5.getD 0 undef)] (fun v39_21 w =>
 K v39_21 w) w)) w) w)) w0_l_14))) w) w) w) w)) w0_l_5)) w)) w
theorem rf_60_eq (a0 : Value) (a1 : Value) (a2 : Value) (K : Value → World → Prop) (w : World) : rf_60 a0 a1 a2 K w = code Try.prog (fun _ => 0) 40 (Try.f60.body.getD .skip) (slotsAt [a0, a1, a2]) (retK Try.prog [.tmp 6] K) w := by kernel_rfl
theorem rf_60_ok {a0 a1 a2 : Value} {K : Value → World → Prop} {w : World} (h : rf_60 a0 a1 a2 K w) : callM Try.prog 60 #[a0, a1, a2] K w :=
  calls_of_code (fun _ => 0) (fn := Try.f60) (rs := [.tmp 6]) Try.func60 rfl rfl (by kernel_rfl) (Nat.le_of_ble_eq_true rfl) ((rf_60_eq a0 a1 a2 K w).mp h)

/-- (*cloak/cloakref01.Disk).pending -/
def rf_61 (a0 : Value) (a1 : Value) (a2 : Value) (K : Value → World → Prop) (w : World) : Prop :=
 loopM [(.bool false), (.int .i64 0)] w (fun J_1 m_2 l_3 u_l_3 w0_l_3 => (fun w => (
 oM Try.prog (Go.Op.nilCheck (.tmp 0)) 0 [a0] (fun v10_4 w =>
 oM Try.prog (Go.Op.fieldAddr 58 (.tmp 0) 1) 0 [v10_4] (fun v11_5 w =>
 oM Try.prog (Go.Op.load 56 (.tmp 0)) 56 [v11_5] (fun v12_6 w =>
 oM Try.prog (Go.Op.call (Go.Call.mk (Go.Callee.builtin Go.Builtin.len) #[(.tmp 0)] #[56])) 3 [v12_6] (fun v13_7 w =>
 oM Try.prog (Go.Op.binOp Go.BinOp.lss 3 (.tmp 0) (.tmp 1) 3) 4 [(l_3.getD 1 undef), v13_7] (fun v14_8 w =>
 condM v14_8
 (oM Try.prog (Go.Op.nilCheck (.tmp 0)) 0 [a0] (fun v18_9 w =>
 oM Try.prog (Go.Op.fieldAddr 58 (.tmp 0) 1) 0 [v18_9] (fun v19_10 w =>
 oM Try.prog (Go.Op.load 56 (.tmp 0)) 56 [v19_10] (fun v20_11 w =>
 oM Try.prog (Go.Op.indexAddr 56 (.tmp 0) (.tmp 1)) 0 [v20_11, (l_3.getD 1 undef)] (fun v22_12 w =>
 oM Try.prog (Go.Op.fieldAddr 77 (.tmp 0) 0) 0 [v22_12] (fun v23_13 w =>
 oM Try.prog (Go.Op.load 3 (.tmp 0)) 3 [v23_13] (fun v24_14 w =>
 oM Try.prog (Go.Op.binOp Go.BinOp.eql 3 (.tmp 0) (.tmp 1) 3) 4 [v24_14, a1] (fun v26_15 w =>
 gdM (gd v26_15 true) (pureM a0) (fun v28_16 w =>
 gdM (gd v26_15 true) (oM Try.prog (Go.Op.nilCheck (.tmp 0)) 0 [v28_16]) (fun v29_17 w =>
 gdM (gd v26_15 true) (oM Try.prog (Go.Op.fieldAddr 58 (.tmp 0) 1) 0 [v29_17]) (fun v30_18 w =>
 gdM (gd v26_15 true) (oM Try.prog (Go.Op.load 56 (.tmp 0)) 56 [v30_18]) (fun v31_19 w =>
 gdM (gd v26_15 true) (pureM (l_3.getD 1 undef)) (fun v32_20 w =>
 gdM (gd v26_15 true) (oM Try.prog (Go.Op.indexAddr 56 (.tmp 0) (.tmp 1)) 0 [v31_19, v32_20]) (fun v33_21 w =>
 gdM (gd v26_15 true) (oM Try.prog (Go.Op.fieldAddr 77 (.tmp 0) 1) 0 [v33_21]) (fun v34_22 w =>
 gdM (gd v26_15 true) (oM Try.prog (Go.Op.load 3 (.tmp 0)) 3 [v34_22]) (fun v35_23 w =>
 gdM (gd v26_15 true) (pureM a2) (fun v36_24 w =>
 gdM (gd v26_15 true) (oM Try.prog (Go.Op.binOp Go.BinOp.eql 3 (.tmp 0) (.tmp 1) 3) 4 [v35_23, v36_24]) (fun v37_25 w =>
 oM Try.prog (Go.Op.pick (.tmp 0) (.tmp 1) (.tmp 2)) 4 [v26_15, v37_25, (.bool false)] (fun v38_26 w =>
 condM v38_26
 (K (.bool true) w)
 (oM Try.prog (Go.Op.binOp Go.BinOp.add 3 (.tmp 0) (.tmp 1) 3) 3 [(l_3.getD 1 undef), (.int .i64 1)] (fun v16_27 w =>
 J_1 [(l_3.getD 0 undef), v16_27] w ∧ m_2 [(l_3.getD 0 undef), v16_27] w < m_2 l_3 w0_l_3) w)) w) w) w) w) w) w) w) w) w) w) w) w) w) w) w) w) w) w)
 (K (.bool false) w)) w) w) w) w) w)) w0_l_3)
theorem rf_61_eq (a0 : Value) (a1 : Value) (a2 : Value) (K : Value → World → Prop) (w : World) : rf_61 a0 a1 a2 K w = code Try.prog (fun _ => 0) 39 (Try.f61.body.getD .skip) (slotsAt [a0, a1, a2]) (retK Try.prog [.tmp 6] K) w := by kernel_rfl
theorem rf_61_ok {a0 a1 a2 : Value} {K : Value → World → Prop} {w : World} (h : rf_61 a0 a1 a2 K w) : callM Try.prog 61 #[a0, a1, a2] K w :=
  calls_of_code (fun _ => 0) (fn := Try.f61) (rs := [.tmp 6]) Try.func61 rfl rfl (by kernel_rfl) (Nat.le_of_ble_eq_true rfl) ((rf_61_eq a0 a1 a2 K w).mp h)

end Go.Proofs
