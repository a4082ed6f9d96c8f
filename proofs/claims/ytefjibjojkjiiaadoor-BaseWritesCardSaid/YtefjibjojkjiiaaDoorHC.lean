/- HC: a part of the proof of the seat's statements: lemmas about the given translation and plain laws. No condition of its own. -/
import Derived.Test.YtefjibjojkjiiaaDoorShStr
import Derived.Test.YtefjibjojkjiiaaDoorProg
set_option linter.all false
set_option linter.unusedVariables false
set_option maxRecDepth 100000
namespace Go.Proofs
open Go.Sh
/-- cloak/cloaklaw01.BaseWrites -/
def sh_3 (a0 : Value) (K : Value → World → Prop) (w : World) : Prop :=
 oM Tryd.prog (Go.Op.box 25 (.tmp 0)) 0 [a0] (fun v1_1 w =>
 callM Tryd.prog 11 #[] (fun v5_2 w =>
 oM Tryd.prog (Go.Op.load 25 (.tmp 0)) 25 [v1_1] (fun v6_3 w =>
 oM Tryd.prog (Go.Op.buildSlice 28 1 #[(0, (.tmp 0))]) 28 [v6_3] (fun v7_4 w =>
 callM Tryd.prog 12 #[v7_4] (fun v8_5 w =>
 oM Tryd.prog (Go.Op.unOp Go.UnOp.not 4 (.tmp 0)) 4 [v8_5] (fun v9_6 w =>
 condM v9_6
 (K v5_2 w)
 (quietM w (fun C_7 => (oQ Tryd.prog (Go.Op.fieldAddr 25 (.tmp 0) 1) 0 [v1_1] C_7 (fun v11_8 =>
 oQ Tryd.prog (Go.Op.load 3 (.tmp 0)) 3 [v11_8] C_7 (fun v12_9 =>
 callQ Tryd.prog 13 #[v12_9] C_7 (fun v13_10 =>
 oQ Tryd.prog (Go.Op.fieldAddr 25 (.tmp 0) 1) 0 [v1_1] C_7 (fun v14_11 =>
 oQ Tryd.prog (Go.Op.load 3 (.tmp 0)) 3 [v14_11] C_7 (fun v15_12 =>
 callQ Tryd.prog 14 #[v15_12] C_7 (fun v16_13 =>
 oQ Tryd.prog (Go.Op.binOp Go.BinOp.eql 9 (.tmp 0) (.tmp 1) 9) 4 [v13_10, v16_13] C_7 (fun v17_14 =>
 gdQ (gd v17_14 true) (oQ Tryd.prog (Go.Op.fieldAddr 25 (.tmp 0) 1) 0 [v1_1]) C_7 (fun v19_15 =>
 gdQ (gd v17_14 true) (oQ Tryd.prog (Go.Op.load 3 (.tmp 0)) 3 [v19_15]) C_7 (fun v20_16 =>
 gdQ (gd v17_14 true) (callQ Tryd.prog 15 #[v20_16]) C_7 (fun v21_17 =>
 gdQ (gd v17_14 true) (oQ Tryd.prog (Go.Op.fieldAddr 25 (.tmp 0) 1) 0 [v1_1]) C_7 (fun v22_18 =>
 gdQ (gd v17_14 true) (oQ Tryd.prog (Go.Op.load 3 (.tmp 0)) 3 [v22_18]) C_7 (fun v23_19 =>
 gdQ (gd v17_14 true) (callQ Tryd.prog 16 #[v23_19]) C_7 (fun v24_20 =>
 gdQ (gd v17_14 true) (oQ Tryd.prog (Go.Op.binOp Go.BinOp.eql 9 (.tmp 0) (.tmp 1) 9) 4 [v21_17, v24_20]) C_7 (fun v25_21 =>
 oQ Tryd.prog (Go.Op.pick (.tmp 0) (.tmp 1) (.tmp 2)) 4 [v17_14, v25_21, (.bool false)] C_7 (fun v26_22 =>
 gdQ (gd v26_22 true) (oQ Tryd.prog (Go.Op.fieldAddr 25 (.tmp 0) 2) 0 [v1_1]) C_7 (fun v28_23 =>
 gdQ (gd v26_22 true) (oQ Tryd.prog (Go.Op.load 9 (.tmp 0)) 9 [v28_23]) C_7 (fun v29_24 =>
 gdQ (gd v26_22 true) (callQ Tryd.prog 17 #[v29_24]) C_7 (fun v30_25 =>
 gdQ (gd v26_22 true) (oQ Tryd.prog (Go.Op.fieldAddr 25 (.tmp 0) 2) 0 [v1_1]) C_7 (fun v31_26 =>
 gdQ (gd v26_22 true) (oQ Tryd.prog (Go.Op.load 9 (.tmp 0)) 9 [v31_26]) C_7 (fun v32_27 =>
 gdQ (gd v26_22 true) (callQ Tryd.prog 18 #[v32_27]) C_7 (fun v33_28 =>
 gdQ (gd v26_22 true) (oQ Tryd.prog (Go.Op.binOp Go.BinOp.eql 9 (.tmp 0) (.tmp 1) 9) 4 [v30_25, v33_28]) C_7 (fun v34_29 =>
 oQ Tryd.prog (Go.Op.pick (.tmp 0) (.tmp 1) (.tmp 2)) 4 [v26_22, v34_29, (.bool false)] C_7 (fun v35_30 =>
 ∀ w, C_7 w → (quietM w (fun C_31 => (gdQ (gd v5_2 true) (pureQ v35_30) C_31 (fun v38_32 =>
 oQ Tryd.prog (Go.Op.pick (.tmp 0) (.tmp 1) (.tmp 2)) 4 [v5_2, v38_32, (.bool false)] C_31 (fun v39_33 =>
 gdQ (gd v39_33 true) (oQ Tryd.prog (Go.Op.fieldAddr 25 (.tmp 0) 3) 0 [v1_1]) C_31 (fun v41_34 =>
 gdQ (gd v39_33 true) (oQ Tryd.prog (Go.Op.load 22 (.tmp 0)) 22 [v41_34]) C_31 (fun v42_35 =>
 gdQ (gd v39_33 true) (callQ Tryd.prog 19 #[v42_35]) C_31 (fun v43_36 =>
 gdQ (gd v39_33 true) (oQ Tryd.prog (Go.Op.fieldAddr 25 (.tmp 0) 3) 0 [v1_1]) C_31 (fun v44_37 =>
 gdQ (gd v39_33 true) (oQ Tryd.prog (Go.Op.load 22 (.tmp 0)) 22 [v44_37]) C_31 (fun v45_38 =>
 gdQ (gd v39_33 true) (callQ Tryd.prog 20 #[v45_38]) C_31 (fun v46_39 =>
 gdQ (gd v39_33 true) (oQ Tryd.prog (Go.Op.binOp Go.BinOp.eql 9 (.tmp 0) (.tmp 1) 9) 4 [v43_36, v46_39]) C_31 (fun v47_40 =>
 oQ Tryd.prog (Go.Op.pick (.tmp 0) (.tmp 1) (.tmp 2)) 4 [v39_33, v47_40, (.bool false)] C_31 (fun v48_41 =>
 gdQ (gd v48_41 true) (oQ Tryd.prog (Go.Op.fieldAddr 25 (.tmp 0) 4) 0 [v1_1]) C_31 (fun v50_42 =>
 gdQ (gd v48_41 true) (oQ Tryd.prog (Go.Op.load 23 (.tmp 0)) 23 [v50_42]) C_31 (fun v51_43 =>
 gdQ (gd v48_41 true) (callQ Tryd.prog 21 #[v51_43]) C_31 (fun v52_44 =>
 gdQ (gd v48_41 true) (oQ Tryd.prog (Go.Op.fieldAddr 25 (.tmp 0) 4) 0 [v1_1]) C_31 (fun v53_45 =>
 gdQ (gd v48_41 true) (oQ Tryd.prog (Go.Op.load 23 (.tmp 0)) 23 [v53_45]) C_31 (fun v54_46 =>
 gdQ (gd v48_41 true) (callQ Tryd.prog 22 #[v54_46]) C_31 (fun v55_47 =>
 gdQ (gd v48_41 true) (oQ Tryd.prog (Go.Op.binOp Go.BinOp.eql 9 (.tmp 0) (.tmp 1) 9) 4 [v52_44, v55_47]) C_31 (fun v56_48 =>
 oQ Tryd.prog (Go.Op.pick (.tmp 0) (.tmp 1) (.tmp 2)) 4 [v48_41, v56_48, (.bool false)] C_31 (fun v57_49 =>
 ∀ w, C_31 w → (K v57_49 w))))))))))))))))))))))))))))))))))))))))))))))))) w) w) w) w) w) w
theorem sh_3_eq (a0 : Value) (K : Value → World → Prop) (w : World) : sh_3 a0 K w = code Tryd.prog (fun _ => 0) 58 (Tryd.f3.body.getD .skip) (slotsAt [a0]) (retK Tryd.prog [.tmp 2] K) w := by kernel_rfl
theorem sh_3_ok {a0 : Value} {K : Value → World → Prop} {w : World} (h : sh_3 a0 K w) : callM Tryd.prog 3 #[a0] K w :=
  calls_of_code (fun _ => 0) (fn := Tryd.f3) (rs := [.tmp 2]) Tryd.func3 rfl rfl (by kernel_rfl) (Nat.le_of_ble_eq_true rfl) ((sh_3_eq a0 K w).mp h)

/-- cloak/cloaklaw01.BaseAgain -/
def sh_4 (a0 : Value) (a1 : Value) (K : Value → World → Prop) (w : World) : Prop :=
 callM Tryd.prog 11 #[] (fun v9_1 w =>
 oM Tryd.prog (Go.Op.call (Go.Call.mk (Go.Callee.builtin Go.Builtin.len) #[(.tmp 0)] #[9])) 3 [a0] (fun v11_2 w =>
 oM Tryd.prog (Go.Op.binOp Go.BinOp.gtr 3 (.tmp 0) (.tmp 1) 3) 4 [v11_2, (.int .i64 400)] (fun v12_3 w =>
 condM v12_3
 (K v9_1 w)
 (callM Tryd.prog 23 #[a0] (fun v15_4 w =>
 oM Tryd.prog (Go.Op.binOp Go.BinOp.eql 34 (.tmp 0) (.const (.pointer none)) 34) 4 [v15_4] (fun v17_5 w =>
 condM v17_5
 (K (.bool false) w)
 (joinM (fun M_6 => (oM Tryd.prog (Go.Op.build 25 #[(0, (.tmp 0))]) 25 [a1] (fun v19_8 w =>
 callM Tryd.prog 24 #[v19_8] (fun v20_9 w =>
 oM Tryd.prog (Go.Op.binOp Go.BinOp.eql 3 (.tmp 0) (.const (.int .i64 0)) 3) 4 [v20_9] (fun v25_10 w =>
 condM v25_10
 (callM Tryd.prog 25 #[v15_4] (fun v27_11 w =>
 callM Tryd.prog 13 #[v27_11] (fun v28_12 w =>
 M_6 [v25_10, v28_12, undef, undef, undef] w) w) w)
 (oM Tryd.prog (Go.Op.binOp Go.BinOp.eql 3 (.tmp 0) (.const (.int .i64 1)) 3) 4 [v20_9] (fun v30_13 w =>
 condM v30_13
 (callM Tryd.prog 26 #[v15_4] (fun v32_14 w =>
 callM Tryd.prog 15 #[v32_14] (fun v33_15 w =>
 M_6 [v25_10, v33_15, v30_13, undef, undef] w) w) w)
 (oM Tryd.prog (Go.Op.binOp Go.BinOp.eql 3 (.tmp 0) (.const (.int .i64 2)) 3) 4 [v20_9] (fun v35_16 w =>
 condM v35_16
 (callM Tryd.prog 27 #[v15_4] (fun v37_17 w =>
 callM Tryd.prog 17 #[v37_17] (fun v38_18 w =>
 M_6 [v25_10, v38_18, v30_13, v35_16, undef] w) w) w)
 (oM Tryd.prog (Go.Op.binOp Go.BinOp.eql 3 (.tmp 0) (.const (.int .i64 3)) 3) 4 [v20_9] (fun v40_19 w =>
 condM v40_19
 (callM Tryd.prog 28 #[v15_4] (fun v42_20 w =>
 callM Tryd.prog 19 #[v42_20] (fun v43_21 w =>
 M_6 [v25_10, v43_21, v30_13, v35_16, v40_19] w) w) w)
 (callM Tryd.prog 29 #[v15_4] (fun v22_22 w =>
 callM Tryd.prog 21 #[v22_22] (fun v23_23 w =>
 M_6 [v25_10, v23_23, v30_13, v35_16, v40_19] w) w) w)) w)) w)) w)) w) w) w))
 (fun l_7 u_l_7 w => (callM Tryd.prog 30 #[v15_4] (fun v45_24 w =>
 oM Tryd.prog (Go.Op.binOp Go.BinOp.eql 3 (.tmp 0) (.const (.int .i64 0)) 3) 4 [v45_24] (fun v46_25 w =>
 gdM (gd v46_25 true) (pureM v15_4) (fun v48_26 w =>
 gdM (gd v46_25 true) (callM Tryd.prog 31 #[v48_26]) (fun v49_27 w =>
 gdM (gd v46_25 true) (oM Tryd.prog (Go.Op.unOp Go.UnOp.not 4 (.tmp 0)) 4 [v49_27]) (fun v50_28 w =>
 oM Tryd.prog (Go.Op.pick (.tmp 0) (.tmp 1) (.tmp 2)) 4 [v46_25, v50_28, (.bool false)] (fun v51_29 w =>
 condM v51_29
 (K v9_1 w)
 (oM Tryd.prog (Go.Op.call (Go.Call.mk (Go.Callee.builtin Go.Builtin.len) #[(.tmp 0)] #[9])) 3 [a0] (fun v54_30 w =>
 callM Tryd.prog 30 #[v15_4] (fun v56_31 w =>
 oM Tryd.prog (Go.Op.binOp Go.BinOp.sub 3 (.tmp 0) (.tmp 1) 3) 3 [v54_30, v56_31] (fun v57_32 w =>
 gdM (gd v9_1 true) (pureM v57_32) (fun v60_33 w =>
 gdM (gd v9_1 true) (oM Tryd.prog (Go.Op.binOp Go.BinOp.geq 3 (.tmp 0) (.tmp 1) 3) 4 [v60_33, (.int .i64 0)]) (fun v61_34 w =>
 oM Tryd.prog (Go.Op.pick (.tmp 0) (.tmp 1) (.tmp 2)) 4 [v9_1, v61_34, (.bool false)] (fun v62_35 w =>
 gdM (gd v62_35 true) (pureM v57_32) (fun v64_36 w =>
 gdM (gd v62_35 true) (pureM a0) (fun v65_37 w =>
 gdM (gd v62_35 true) (oM Tryd.prog (Go.Op.call (Go.Call.mk (Go.Callee.builtin Go.Builtin.len) #[(.tmp 0)] #[9])) 3 [v65_37]) (fun v66_38 w =>
 gdM (gd v62_35 true) (oM Tryd.prog (Go.Op.binOp Go.BinOp.leq 3 (.tmp 0) (.tmp 1) 3) 4 [v64_36, v66_38]) (fun v67_39 w =>
 oM Tryd.prog (Go.Op.pick (.tmp 0) (.tmp 1) (.tmp 2)) 4 [v62_35, v67_39, (.bool false)] (fun v68_40 w =>
 gdM (gd v68_40 true) (pureM (l_7.getD 1 undef)) (fun v70_41 w =>
 gdM (gd v68_40 true) (pureM a0) (fun v71_42 w =>
 gdM (gd v68_40 true) (pureM v57_32) (fun v72_43 w =>
 gdM (gd v68_40 true) (pureM a0) (fun v73_44 w =>
 gdM (gd v68_40 true) (oM Tryd.prog (Go.Op.call (Go.Call.mk (Go.Callee.builtin Go.Builtin.len) #[(.tmp 0)] #[9])) 3 [v73_44]) (fun v74_45 w =>
 gdM (gd v68_40 true) (oM Tryd.prog (Go.Op.call (Go.Call.mk (Go.Callee.builtin Go.Builtin.min) #[(.tmp 0), (.tmp 1)] #[3, 3])) 3 [v72_43, v74_45]) (fun v75_46 w =>
 gdM (gd v68_40 true) (oM Tryd.prog (Go.Op.call (Go.Call.mk (Go.Callee.builtin Go.Builtin.max) #[(.tmp 0), (.tmp 1)] #[3, 3])) 3 [(.int .i64 0), v75_46]) (fun v76_47 w =>
 gdM (gd v68_40 true) (oM Tryd.prog (Go.Op.slice 9 (.tmp 0) none (some (.tmp 1)) none) 9 [v71_42, v76_47]) (fun v77_48 w =>
 gdM (gd v68_40 true) (oM Tryd.prog (Go.Op.binOp Go.BinOp.eql 9 (.tmp 0) (.tmp 1) 9) 4 [v70_41, v77_48]) (fun v78_49 w =>
 oM Tryd.prog (Go.Op.pick (.tmp 0) (.tmp 1) (.tmp 2)) 4 [v68_40, v78_49, (.bool false)] (fun v79_50 w =>
 K v79_50 w) w) w) w) w) w) w) w) w) w) w) w) w) w) w) w) w) w) w) w) w) w)) w) w) w) w) w) w)))) w) w)) w) w) w
theorem sh_4_eq (a0 : Value) (a1 : Value) (K : Value → World → Prop) (w : World) : sh_4 a0 a1 K w = code Tryd.prog (fun _ => 0) 80 (Tryd.f4.body.getD .skip) (slotsAt [a0, a1]) (retK Tryd.prog [.tmp 4] K) w := by kernel_rfl
theorem sh_4_ok {a0 a1 : Value} {K : Value → World → Prop} {w : World} (h : sh_4 a0 a1 K w) : callM Tryd.prog 4 #[a0, a1] K w :=
  calls_of_code (fun _ => 0) (fn := Tryd.f4) (rs := [.tmp 4]) Tryd.func4 rfl rfl (by kernel_rfl) (Nat.le_of_ble_eq_true rfl) ((sh_4_eq a0 a1 K w).mp h)

/-- cloak/cloaklaw01.BaseNests -/
def sh_5 (a0 : Value) (K : Value → World → Prop) (w : World) : Prop :=
 callM Tryd.prog 11 #[] (fun v11_1 w =>
 callM Tryd.prog 12 #[a0] (fun v13_2 w =>
 oM Tryd.prog (Go.Op.unOp Go.UnOp.not 4 (.tmp 0)) 4 [v13_2] (fun v14_3 w =>
 condM v14_3
 (K v11_1 w)
 (loopM [(.slice none 0 0), (.int .i64 0)] w (fun J_4 m_5 l_6 u_l_6 w0_l_6 => (fun w => (
 oM Tryd.prog (Go.Op.call (Go.Call.mk (Go.Callee.builtin Go.Builtin.len) #[(.tmp 0)] #[28])) 3 [a0] (fun v18_7 w =>
 oM Tryd.prog (Go.Op.binOp Go.BinOp.lss 3 (.tmp 0) (.tmp 1) 3) 4 [(l_6.getD 1 undef), v18_7] (fun v19_8 w =>
 condM v19_8
 (oM Tryd.prog (Go.Op.indexAddr 28 (.tmp 0) (.tmp 1)) 0 [a0, (l_6.getD 1 undef)] (fun v25_9 w =>
 oM Tryd.prog (Go.Op.load 25 (.tmp 0)) 25 [v25_9] (fun v26_10 w =>
 callM Tryd.prog 32 #[v26_10] (fun v27_11 w =>
 oM Tryd.prog (Go.Op.buildSlice 23 1 #[(0, (.tmp 0))]) 23 [v27_11] (fun v28_12 w =>
 oM Tryd.prog (Go.Op.call (Go.Call.mk (Go.Callee.builtin Go.Builtin.append) #[(.tmp 0), (.tmp 1)] #[23, 23])) 23 [(l_6.getD 0 undef), v28_12] (fun v29_13 w =>
 oM Tryd.prog (Go.Op.binOp Go.BinOp.add 3 (.tmp 0) (.tmp 1) 3) 3 [(l_6.getD 1 undef), (.int .i64 1)] (fun v21_14 w =>
 J_4 [v29_13, v21_14] w ∧ m_5 [v29_13, v21_14] w < m_5 l_6 w0_l_6) w) w) w) w) w) w)
 (callM Tryd.prog 21 #[(l_6.getD 0 undef)] (fun v31_15 w =>
 callM Tryd.prog 17 #[v31_15] (fun v32_16 w =>
 callM Tryd.prog 23 #[v32_16] (fun v33_17 w =>
 oM Tryd.prog (Go.Op.binOp Go.BinOp.eql 34 (.tmp 0) (.const (.pointer none)) 34) 4 [v33_17] (fun v35_18 w =>
 condM v35_18
 (K (.bool false) w)
 (callM Tryd.prog 27 #[v33_17] (fun v37_19 w =>
 callM Tryd.prog 23 #[v37_19] (fun v38_20 w =>
 oM Tryd.prog (Go.Op.binOp Go.BinOp.eql 34 (.tmp 0) (.const (.pointer none)) 34) 4 [v38_20] (fun v40_21 w =>
 gdM (gd v40_21 false) (pureM v33_17) (fun v42_22 w =>
 gdM (gd v40_21 false) (callM Tryd.prog 31 #[v42_22]) (fun v43_23 w =>
 gdM (gd v40_21 false) (oM Tryd.prog (Go.Op.unOp Go.UnOp.not 4 (.tmp 0)) 4 [v43_23]) (fun v44_24 w =>
 oM Tryd.prog (Go.Op.pick (.tmp 0) (.tmp 1) (.tmp 2)) 4 [v40_21, (.bool true), v44_24] (fun v45_25 w =>
 condM v45_25
 (K (.bool false) w)
 (callM Tryd.prog 29 #[v38_20] (fun v47_26 w =>
 oM Tryd.prog (Go.Op.call (Go.Call.mk (Go.Callee.builtin Go.Builtin.len) #[(.tmp 0)] #[23])) 3 [v47_26] (fun v49_27 w =>
 oM Tryd.prog (Go.Op.call (Go.Call.mk (Go.Callee.builtin Go.Builtin.len) #[(.tmp 0)] #[28])) 3 [a0] (fun v51_28 w =>
 oM Tryd.prog (Go.Op.binOp Go.BinOp.neq 3 (.tmp 0) (.tmp 1) 3) 4 [v49_27, v51_28] (fun v52_29 w =>
 gdM (gd v52_29 false) (pureM v38_20) (fun v54_30 w =>
 gdM (gd v52_29 false) (callM Tryd.prog 31 #[v54_30]) (fun v55_31 w =>
 gdM (gd v52_29 false) (oM Tryd.prog (Go.Op.unOp Go.UnOp.not 4 (.tmp 0)) 4 [v55_31]) (fun v56_32 w =>
 oM Tryd.prog (Go.Op.pick (.tmp 0) (.tmp 1) (.tmp 2)) 4 [v52_29, (.bool true), v56_32] (fun v57_33 w =>
 condM v57_33
 (K (.bool false) w)
 (loopM [undef, (.bool false), (.int .i64 0)] w (fun J_34 m_35 l_36 u_l_36 w0_l_36 => (fun w => (
 oM Tryd.prog (Go.Op.call (Go.Call.mk (Go.Callee.builtin Go.Builtin.len) #[(.tmp 0)] #[28])) 3 [a0] (fun v60_37 w =>
 oM Tryd.prog (Go.Op.binOp Go.BinOp.lss 3 (.tmp 0) (.tmp 1) 3) 4 [(l_36.getD 2 undef), v60_37] (fun v61_38 w =>
 condM v61_38
 (oM Tryd.prog (Go.Op.indexAddr 23 (.tmp 0) (.tmp 1)) 0 [v47_26, (l_36.getD 2 undef)] (fun v66_39 w =>
 oM Tryd.prog (Go.Op.load 9 (.tmp 0)) 9 [v66_39] (fun v67_40 w =>
 callM Tryd.prog 23 #[v67_40] (fun v68_41 w =>
 oM Tryd.prog (Go.Op.binOp Go.BinOp.eql 34 (.tmp 0) (.const (.pointer none)) 34) 4 [v68_41] (fun v70_42 w =>
 gdM (gd v70_42 false) (pureM v68_41) (fun v72_43 w =>
 gdM (gd v70_42 false) (pureM a0) (fun v73_44 w =>
 gdM (gd v70_42 false) (pureM (l_36.getD 2 undef)) (fun v74_45 w =>
 gdM (gd v70_42 false) (oM Tryd.prog (Go.Op.indexAddr 28 (.tmp 0) (.tmp 1)) 0 [v73_44, v74_45]) (fun v75_46 w =>
 gdM (gd v70_42 false) (oM Tryd.prog (Go.Op.load 25 (.tmp 0)) 25 [v75_46]) (fun v76_47 w =>
 gdM (gd v70_42 false) (callM Tryd.prog 33 #[v72_43, v76_47]) (fun v77_48 w =>
 gdM (gd v70_42 false) (oM Tryd.prog (Go.Op.unOp Go.UnOp.not 4 (.tmp 0)) 4 [v77_48]) (fun v78_49 w =>
 oM Tryd.prog (Go.Op.pick (.tmp 0) (.tmp 1) (.tmp 2)) 4 [v70_42, (.bool true), v78_49] (fun v79_50 w =>
 gdM (gd v79_50 false) (pureM v68_41) (fun v81_51 w =>
 gdM (gd v79_50 false) (callM Tryd.prog 31 #[v81_51]) (fun v82_52 w =>
 gdM (gd v79_50 false) (oM Tryd.prog (Go.Op.unOp Go.UnOp.not 4 (.tmp 0)) 4 [v82_52]) (fun v83_53 w =>
 oM Tryd.prog (Go.Op.pick (.tmp 0) (.tmp 1) (.tmp 2)) 4 [v79_50, (.bool true), v83_53] (fun v84_54 w =>
 condM v84_54
 (K (.bool false) w)
 (oM Tryd.prog (Go.Op.binOp Go.BinOp.add 3 (.tmp 0) (.tmp 1) 3) 3 [(l_36.getD 2 undef), (.int .i64 1)] (fun v63_55 w =>
 J_34 [v68_41, (l_36.getD 1 undef), v63_55] w ∧ m_35 [v68_41, (l_36.getD 1 undef), v63_55] w < m_35 l_36 w0_l_36) w)) w) w) w) w) w) w) w) w) w) w) w) w) w) w) w) w)
 (K v11_1 w)) w) w)) w0_l_36))) w) w) w) w) w) w) w) w)) w) w) w) w) w) w) w)) w) w) w) w)) w) w)) w0_l_6))) w) w) w
theorem sh_5_eq (a0 : Value) (K : Value → World → Prop) (w : World) : sh_5 a0 K w = code Tryd.prog (fun _ => 0) 86 (Tryd.f5.body.getD .skip) (slotsAt [a0]) (retK Tryd.prog [.tmp 2] K) w := by kernel_rfl
theorem sh_5_ok {a0 : Value} {K : Value → World → Prop} {w : World} (h : sh_5 a0 K w) : callM Tryd.prog 5 #[a0] K w :=
  calls_of_code (fun _ => 0) (fn := Tryd.f5) (rs := [.tmp 2]) Tryd.func5 rfl rfl (by kernel_rfl) (Nat.le_of_ble_eq_true rfl) ((sh_5_eq a0 K w).mp h)

/-- cloak/cloaklaw01.BaseReads -/
def sh_6 (a0 : Value) (a1 : Value) (K : Value → World → Prop) (w : World) : Prop :=
 callM Tryd.prog 11 #[] (fun v10_1 w =>
 oM Tryd.prog (Go.Op.call (Go.Call.mk (Go.Callee.builtin Go.Builtin.len) #[(.tmp 0)] #[9])) 3 [a0] (fun v12_2 w =>
 oM Tryd.prog (Go.Op.binOp Go.BinOp.gtr 3 (.tmp 0) (.tmp 1) 3) 4 [v12_2, (.int .i64 400)] (fun v13_3 w =>
 gdM (gd v13_3 false) (pureM a1) (fun v15_4 w =>
 gdM (gd v13_3 false) (oM Tryd.prog (Go.Op.call (Go.Call.mk (Go.Callee.builtin Go.Builtin.len) #[(.tmp 0)] #[22])) 3 [v15_4]) (fun v16_5 w =>
 gdM (gd v13_3 false) (oM Tryd.prog (Go.Op.binOp Go.BinOp.gtr 3 (.tmp 0) (.tmp 1) 3) 4 [v16_5, (.int .i64 20)]) (fun v17_6 w =>
 oM Tryd.prog (Go.Op.pick (.tmp 0) (.tmp 1) (.tmp 2)) 4 [v13_3, (.bool true), v17_6] (fun v18_7 w =>
 condM v18_7
 (K v10_1 w)
 (callM Tryd.prog 23 #[a0] (fun v21_8 w =>
 callM Tryd.prog 34 #[a0] (fun v23_9 w =>
 oM Tryd.prog (Go.Op.binOp Go.BinOp.eql 34 (.tmp 0) (.const (.pointer none)) 34) 4 [v21_8] (fun v25_10 w =>
 condM v25_10
 (K (.bool false) w)
 (loopM [undef, undef, undef, undef, undef, (.bool false), (.int .i64 0)] w (fun J_11 m_12 l_13 u_l_13 w0_l_13 => (fun w => (
 oM Tryd.prog (Go.Op.call (Go.Call.mk (Go.Callee.builtin Go.Builtin.len) #[(.tmp 0)] #[22])) 3 [a1] (fun v28_14 w =>
 oM Tryd.prog (Go.Op.binOp Go.BinOp.lss 3 (.tmp 0) (.tmp 1) 3) 4 [(l_13.getD 6 undef), v28_14] (fun v29_15 w =>
 condM v29_15
 (joinM (fun M_16 => (oM Tryd.prog (Go.Op.indexAddr 22 (.tmp 0) (.tmp 1)) 0 [a1, (l_13.getD 6 undef)] (fun v34_18 w =>
 oM Tryd.prog (Go.Op.load 3 (.tmp 0)) 3 [v34_18] (fun v35_19 w =>
 oM Tryd.prog (Go.Op.build 25 #[(0, (.tmp 0))]) 25 [v35_19] (fun v36_20 w =>
 callM Tryd.prog 24 #[v36_20] (fun v37_21 w =>
 oM Tryd.prog (Go.Op.binOp Go.BinOp.eql 3 (.tmp 0) (.const (.int .i64 0)) 3) 4 [v37_21] (fun v44_22 w =>
 condM v44_22
 (callM Tryd.prog 25 #[v21_8] (fun v46_23 w =>
 callM Tryd.prog 35 #[v23_9] (fun v48_24 w =>
 oM Tryd.prog (Go.Op.binOp Go.BinOp.eql 3 (.tmp 0) (.tmp 1) 3) 4 [v46_23, v48_24] (fun v49_25 w =>
 M_16 [v44_22, v49_25, (l_13.getD 2 undef), (l_13.getD 3 undef), (l_13.getD 4 undef)] w) w) w) w)
 (oM Tryd.prog (Go.Op.binOp Go.BinOp.eql 3 (.tmp 0) (.const (.int .i64 1)) 3) 4 [v37_21] (fun v51_26 w =>
 condM v51_26
 (callM Tryd.prog 26 #[v21_8] (fun v53_27 w =>
 callM Tryd.prog 36 #[v23_9] (fun v55_28 w =>
 oM Tryd.prog (Go.Op.binOp Go.BinOp.eql 3 (.tmp 0) (.tmp 1) 3) 4 [v53_27, v55_28] (fun v56_29 w =>
 M_16 [v44_22, v56_29, v51_26, (l_13.getD 3 undef), (l_13.getD 4 undef)] w) w) w) w)
 (oM Tryd.prog (Go.Op.binOp Go.BinOp.eql 3 (.tmp 0) (.const (.int .i64 2)) 3) 4 [v37_21] (fun v58_30 w =>
 condM v58_30
 (callM Tryd.prog 27 #[v21_8] (fun v60_31 w =>
 callM Tryd.prog 37 #[v23_9] (fun v62_32 w =>
 oM Tryd.prog (Go.Op.binOp Go.BinOp.eql 9 (.tmp 0) (.tmp 1) 9) 4 [v60_31, v62_32] (fun v63_33 w =>
 M_16 [v44_22, v63_33, v51_26, v58_30, (l_13.getD 4 undef)] w) w) w) w)
 (oM Tryd.prog (Go.Op.binOp Go.BinOp.eql 3 (.tmp 0) (.const (.int .i64 3)) 3) 4 [v37_21] (fun v65_34 w =>
 condM v65_34
 (callM Tryd.prog 28 #[v21_8] (fun v67_35 w =>
 callM Tryd.prog 39 #[v23_9] (fun v69_36 w =>
 callM Tryd.prog 38 #[v67_35, v69_36] (fun v70_37 w =>
 M_16 [v44_22, v70_37, v51_26, v58_30, v65_34] w) w) w) w)
 (callM Tryd.prog 29 #[v21_8] (fun v39_38 w =>
 callM Tryd.prog 41 #[v23_9] (fun v41_39 w =>
 callM Tryd.prog 40 #[v39_38, v41_39] (fun v42_40 w =>
 M_16 [v44_22, v42_40, v51_26, v58_30, v65_34] w) w) w) w)) w)) w)) w)) w) w) w) w) w))
 (fun l_17 u_l_17 w => (oM Tryd.prog (Go.Op.unOp Go.UnOp.not 4 (.tmp 0)) 4 [(l_17.getD 1 undef)] (fun v72_41 w =>
 gdM (gd v72_41 false) (pureM v21_8) (fun v74_42 w =>
 gdM (gd v72_41 false) (callM Tryd.prog 30 #[v74_42]) (fun v75_43 w =>
 gdM (gd v72_41 false) (pureM v23_9) (fun v76_44 w =>
 gdM (gd v72_41 false) (callM Tryd.prog 42 #[v76_44]) (fun v77_45 w =>
 gdM (gd v72_41 false) (oM Tryd.prog (Go.Op.binOp Go.BinOp.neq 3 (.tmp 0) (.tmp 1) 3) 4 [v75_43, v77_45]) (fun v78_46 w =>
 oM Tryd.prog (Go.Op.pick (.tmp 0) (.tmp 1) (.tmp 2)) 4 [v72_41, (.bool true), v78_46] (fun v79_47 w =>
 gdM (gd v79_47 false) (pureM v21_8) (fun v81_48 w =>
 gdM (gd v79_47 false) (callM Tryd.prog 31 #[v81_48]) (fun v82_49 w =>
 gdM (gd v79_47 false) (pureM v23_9) (fun v83_50 w =>
 gdM (gd v79_47 false) (callM Tryd.prog 43 #[v83_50]) (fun v84_51 w =>
 gdM (gd v79_47 false) (oM Tryd.prog (Go.Op.binOp Go.BinOp.neq 4 (.tmp 0) (.tmp 1) 4) 4 [v82_49, v84_51]) (fun v85_52 w =>
 oM Tryd.prog (Go.Op.pick (.tmp 0) (.tmp 1) (.tmp 2)) 4 [v79_47, (.bool true), v85_52] (fun v86_53 w =>
 condM v86_53
 (K (.bool false) w)
 (oM Tryd.prog (Go.Op.binOp Go.BinOp.add 3 (.tmp 0) (.tmp 1) 3) 3 [(l_13.getD 6 undef), (.int .i64 1)] (fun v31_54 w =>
 J_11 [(l_17.getD 1 undef), (l_17.getD 0 undef), (l_17.getD 2 undef), (l_17.getD 3 undef), (l_17.getD 4 undef), (l_13.getD 5 undef), v31_54] w ∧ m_12 [(l_17.getD 1 undef), (l_17.getD 0 undef), (l_17.getD 2 undef), (l_17.getD 3 undef), (l_17.getD 4 undef), (l_13.getD 5 undef), v31_54] w < m_12 l_13 w0_l_13) w)) w) w) w) w) w) w) w) w) w) w) w) w) w)))
 (gdM (gd v10_1 true) (pureM v21_8) (fun v89_55 w =>
 gdM (gd v10_1 true) (callM Tryd.prog 44 #[v89_55]) (fun v90_56 w =>
 gdM (gd v10_1 true) (pureM v23_9) (fun v91_57 w =>
 gdM (gd v10_1 true) (callM Tryd.prog 45 #[v91_57]) (fun v92_58 w =>
 gdM (gd v10_1 true) (oM Tryd.prog (Go.Op.binOp Go.BinOp.eql 9 (.tmp 0) (.tmp 1) 9) 4 [v90_56, v92_58]) (fun v93_59 w =>
 oM Tryd.prog (Go.Op.pick (.tmp 0) (.tmp 1) (.tmp 2)) 4 [v10_1, v93_59, (.bool false)] (fun v94_60 w =>
 gdM (gd v94_60 true) (pureM v21_8) (fun v96_61 w =>
 gdM (gd v94_60 true) (callM Tryd.prog 30 #[v96_61]) (fun v97_62 w =>
 gdM (gd v94_60 true) (pureM v23_9) (fun v98_63 w =>
 gdM (gd v94_60 true) (callM Tryd.prog 42 #[v98_63]) (fun v99_64 w =>
 gdM (gd v94_60 true) (oM Tryd.prog (Go.Op.binOp Go.BinOp.eql 3 (.tmp 0) (.tmp 1) 3) 4 [v97_62, v99_64]) (fun v100_65 w =>
 oM Tryd.prog (Go.Op.pick (.tmp 0) (.tmp 1) (.tmp 2)) 4 [v94_60, v100_65, (.bool false)] (fun v101_66 w =>
 gdM (gd v101_66 true) (pureM v21_8) (fun v103_67 w =>
 gdM (gd v101_66 true) (callM Tryd.prog 31 #[v103_67]) (fun v104_68 w =>
 gdM (gd v101_66 true) (pureM v23_9) (fun v105_69 w =>
 gdM (gd v101_66 true) (callM Tryd.prog 43 #[v105_69]) (fun v106_70 w =>
 gdM (gd v101_66 true) (oM Tryd.prog (Go.Op.binOp Go.BinOp.eql 4 (.tmp 0) (.tmp 1) 4) 4 [v104_68, v106_70]) (fun v107_71 w =>
 oM Tryd.prog (Go.Op.pick (.tmp 0) (.tmp 1) (.tmp 2)) 4 [v101_66, v107_71, (.bool false)] (fun v108_72 w =>
 K v108_72 w) w) w) w) w) w) w) w) w) w) w) w) w) w) w) w) w) w) w)) w) w)) w0_l_13))) w) w) w)) w) w) w) w) w) w) w
theorem sh_6_eq (a0 : Value) (a1 : Value) (K : Value → World → Prop) (w : World) : sh_6 a0 a1 K w = code Tryd.prog (fun _ => 0) 109 (Tryd.f6.body.getD .skip) (slotsAt [a0, a1]) (retK Tryd.prog [.tmp 4] K) w := by kernel_rfl
theorem sh_6_ok {a0 a1 : Value} {K : Value → World → Prop} {w : World} (h : sh_6 a0 a1 K w) : callM Tryd.prog 6 #[a0, a1] K w :=
  calls_of_code (fun _ => 0) (fn := Tryd.f6) (rs := [.tmp 4]) Tryd.func6 rfl rfl (by kernel_rfl) (Nat.le_of_ble_eq_true rfl) ((sh_6_eq a0 a1 K w).mp h)

/-- cloak/cloaklaw01.BaseBack -/
def sh_7 (a0 : Value) (a1 : Value) (K : Value → World → Prop) (w : World) : Prop :=
 callM Tryd.prog 11 #[] (fun v12_1 w =>
 callM Tryd.prog 12 #[a0] (fun v14_2 w =>
 oM Tryd.prog (Go.Op.unOp Go.UnOp.not 4 (.tmp 0)) 4 [v14_2] (fun v15_3 w =>
 gdM (gd v15_3 false) (pureM a1) (fun v17_4 w =>
 gdM (gd v15_3 false) (oM Tryd.prog (Go.Op.call (Go.Call.mk (Go.Callee.builtin Go.Builtin.len) #[(.tmp 0)] #[9])) 3 [v17_4]) (fun v18_5 w =>
 gdM (gd v15_3 false) (oM Tryd.prog (Go.Op.binOp Go.BinOp.gtr 3 (.tmp 0) (.tmp 1) 3) 4 [v18_5, (.int .i64 400)]) (fun v19_6 w =>
 oM Tryd.prog (Go.Op.pick (.tmp 0) (.tmp 1) (.tmp 2)) 4 [v15_3, (.bool true), v19_6] (fun v20_7 w =>
 condM v20_7
 (K v12_1 w)
 (loopM [(.string ⟨#[]⟩), (.int .i64 0)] w (fun J_8 m_9 l_10 u_l_10 w0_l_10 => (fun w => (
 oM Tryd.prog (Go.Op.call (Go.Call.mk (Go.Callee.builtin Go.Builtin.len) #[(.tmp 0)] #[28])) 3 [a0] (fun v24_11 w =>
 oM Tryd.prog (Go.Op.binOp Go.BinOp.lss 3 (.tmp 0) (.tmp 1) 3) 4 [(l_10.getD 1 undef), v24_11] (fun v25_12 w =>
 condM v25_12
 (oM Tryd.prog (Go.Op.indexAddr 28 (.tmp 0) (.tmp 1)) 0 [a0, (l_10.getD 1 undef)] (fun v31_13 w =>
 oM Tryd.prog (Go.Op.load 25 (.tmp 0)) 25 [v31_13] (fun v32_14 w =>
 callM Tryd.prog 32 #[v32_14] (fun v33_15 w =>
 oM Tryd.prog (Go.Op.binOp Go.BinOp.add 9 (.tmp 0) (.tmp 1) 9) 9 [(l_10.getD 0 undef), v33_15] (fun v34_16 w =>
 oM Tryd.prog (Go.Op.binOp Go.BinOp.add 3 (.tmp 0) (.tmp 1) 3) 3 [(l_10.getD 1 undef), (.int .i64 1)] (fun v27_17 w =>
 J_8 [v34_16, v27_17] w ∧ m_9 [v34_16, v27_17] w < m_9 l_10 w0_l_10) w) w) w) w) w)
 (oM Tryd.prog (Go.Op.binOp Go.BinOp.add 9 (.tmp 0) (.tmp 1) 9) 9 [(l_10.getD 0 undef), a1] (fun v37_18 w =>
 callM Tryd.prog 23 #[v37_18] (fun v38_19 w =>
 oM Tryd.prog (Go.Op.binOp Go.BinOp.eql 34 (.tmp 0) (.const (.pointer none)) 34) 4 [v38_19] (fun v40_20 w =>
 condM v40_20
 (K (.bool false) w)
 (loopM [(.bool false), (.int .i64 0)] w (fun J_21 m_22 l_23 u_l_23 w0_l_23 => (fun w => (
 oM Tryd.prog (Go.Op.call (Go.Call.mk (Go.Callee.builtin Go.Builtin.len) #[(.tmp 0)] #[28])) 3 [a0] (fun v43_24 w =>
 oM Tryd.prog (Go.Op.binOp Go.BinOp.lss 3 (.tmp 0) (.tmp 1) 3) 4 [(l_23.getD 1 undef), v43_24] (fun v44_25 w =>
 condM v44_25
 (oM Tryd.prog (Go.Op.indexAddr 28 (.tmp 0) (.tmp 1)) 0 [a0, (l_23.getD 1 undef)] (fun v50_26 w =>
 oM Tryd.prog (Go.Op.load 25 (.tmp 0)) 25 [v50_26] (fun v51_27 w =>
 callM Tryd.prog 33 #[v38_19, v51_27] (fun v52_28 w =>
 oM Tryd.prog (Go.Op.unOp Go.UnOp.not 4 (.tmp 0)) 4 [v52_28] (fun v53_29 w =>
 condM v53_29
 (K (.bool false) w)
 (oM Tryd.prog (Go.Op.binOp Go.BinOp.add 3 (.tmp 0) (.tmp 1) 3) 3 [(l_23.getD 1 undef), (.int .i64 1)] (fun v46_30 w =>
 J_21 [(l_23.getD 0 undef), v46_30] w ∧ m_22 [(l_23.getD 0 undef), v46_30] w < m_22 l_23 w0_l_23) w)) w) w) w) w)
 (callM Tryd.prog 30 #[v38_19] (fun v55_31 w =>
 callM Tryd.prog 31 #[v38_19] (fun v57_32 w =>
 gdM (gd v12_1 true) (pureM v55_31) (fun v60_33 w =>
 gdM (gd v12_1 true) (pureM a1) (fun v61_34 w =>
 gdM (gd v12_1 true) (oM Tryd.prog (Go.Op.call (Go.Call.mk (Go.Callee.builtin Go.Builtin.len) #[(.tmp 0)] #[9])) 3 [v61_34]) (fun v62_35 w =>
 gdM (gd v12_1 true) (oM Tryd.prog (Go.Op.binOp Go.BinOp.eql 3 (.tmp 0) (.tmp 1) 3) 4 [v60_33, v62_35]) (fun v63_36 w =>
 oM Tryd.prog (Go.Op.pick (.tmp 0) (.tmp 1) (.tmp 2)) 4 [v12_1, v63_36, (.bool false)] (fun v64_37 w =>
 gdM (gd v64_37 true) (pureM v57_32) (fun v66_38 w =>
 gdM (gd v64_37 true) (pureM a1) (fun v67_39 w =>
 gdM (gd v64_37 true) (oM Tryd.prog (Go.Op.binOp Go.BinOp.eql 9 (.tmp 0) (.const (.string ⟨#[]⟩)) 9) 4 [v67_39]) (fun v68_40 w =>
 gdM (gd v64_37 true) (oM Tryd.prog (Go.Op.binOp Go.BinOp.eql 4 (.tmp 0) (.tmp 1) 4) 4 [v66_38, v68_40]) (fun v69_41 w =>
 oM Tryd.prog (Go.Op.pick (.tmp 0) (.tmp 1) (.tmp 2)) 4 [v64_37, v69_41, (.bool false)] (fun v70_42 w =>
 gdM (gd v70_42 true) (pureM v38_19) (fun v72_43 w =>
 gdM (gd v70_42 true) (callM Tryd.prog 44 #[v72_43]) (fun v73_44 w =>
 gdM (gd v70_42 true) (pureM a1) (fun v74_45 w =>
 gdM (gd v70_42 true) (oM Tryd.prog (Go.Op.binOp Go.BinOp.eql 9 (.tmp 0) (.tmp 1) 9) 4 [v73_44, v74_45]) (fun v75_46 w =>
 oM Tryd.prog (Go.Op.pick (.tmp 0) (.tmp 1) (.tmp 2)) 4 [v70_42, v75_46, (.bool false)] (fun v76_47 w =>
 gdM (gd v76_47 true) (pureM v38_19) (fun v78_48 w =>
 gdM (gd v76_47 true) (callM Tryd.prog 31 #[v78_48]) (fun v79_49 w =>
 oM Tryd.prog (Go.Op.pick (.tmp 0) (.tmp 1) (.tmp 2)) 4 [v76_47, v79_49, (.bool false)] (fun v80_50 w =>
 gdM (gd v80_50 true) (pureM v38_19) (fun v82_51 w =>
 gdM (gd v80_50 true) (callM Tryd.prog 30 #[v82_51]) (fun v83_52 w =>
 gdM (gd v80_50 true) (oM Tryd.prog (Go.Op.binOp Go.BinOp.eql 3 (.tmp 0) (.const (.int .i64 0)) 3) 4 [v83_52]) (fun v84_53 w =>
 oM Tryd.prog (Go.Op.pick (.tmp 0) (.tmp 1) (.tmp 2)) 4 [v80_50, v84_53, (.bool false)] (fun v85_54 w =>
 K v85_54 w) w) w) w) w) w) w) w) w) w) w) w) w) w) w) w) w) w) w) w) w) w) w) w) w)) w) w)) w0_l_23))) w) w) w)) w) w)) w0_l_10))) w) w) w) w) w) w) w
theorem sh_7_eq (a0 : Value) (a1 : Value) (K : Value → World → Prop) (w : World) : sh_7 a0 a1 K w = code Tryd.prog (fun _ => 0) 86 (Tryd.f7.body.getD .skip) (slotsAt [a0, a1]) (retK Tryd.prog [.tmp 4] K) w := by kernel_rfl
theorem sh_7_ok {a0 a1 : Value} {K : Value → World → Prop} {w : World} (h : sh_7 a0 a1 K w) : callM Tryd.prog 7 #[a0, a1] K w :=
  calls_of_code (fun _ => 0) (fn := Tryd.f7) (rs := [.tmp 4]) Tryd.func7 rfl rfl (by kernel_rfl) (Nat.le_of_ble_eq_true rfl) ((sh_7_eq a0 a1 K w).mp h)

/-- cloak/cloaklaw01.saneCodes -/
def sh_11 (K : Value → World → Prop) (w : World) : Prop :=
 callM Tryd.prog 13 #[(.int .i64 0)] (fun v5_1 w =>
 oM Tryd.prog (Go.Op.binOp Go.BinOp.eql 9 (.tmp 0) (.const (.string ⟨#[48, 59]⟩)) 9) 4 [v5_1] (fun v6_2 w =>
 gdM (gd v6_2 true) (callM Tryd.prog 13 #[(.int .i64 300)]) (fun v8_3 w =>
 gdM (gd v6_2 true) (oM Tryd.prog (Go.Op.binOp Go.BinOp.eql 9 (.tmp 0) (.const (.string ⟨#[51, 48, 48, 59]⟩)) 9) 4 [v8_3]) (fun v9_4 w =>
 oM Tryd.prog (Go.Op.pick (.tmp 0) (.tmp 1) (.tmp 2)) 4 [v6_2, v9_4, (.bool false)] (fun v10_5 w =>
 gdM (gd v10_5 true) (callM Tryd.prog 13 #[(.int .i64 (-1))]) (fun v12_6 w =>
 gdM (gd v10_5 true) (oM Tryd.prog (Go.Op.binOp Go.BinOp.eql 9 (.tmp 0) (.const (.string ⟨#[]⟩)) 9) 4 [v12_6]) (fun v13_7 w =>
 oM Tryd.prog (Go.Op.pick (.tmp 0) (.tmp 1) (.tmp 2)) 4 [v10_5, v13_7, (.bool false)] (fun v14_8 w =>
 gdM (gd v14_8 true) (callM Tryd.prog 15 #[(.int .i64 (-7))]) (fun v16_9 w =>
 gdM (gd v14_8 true) (oM Tryd.prog (Go.Op.binOp Go.BinOp.eql 9 (.tmp 0) (.const (.string ⟨#[45, 55, 59]⟩)) 9) 4 [v16_9]) (fun v17_10 w =>
 oM Tryd.prog (Go.Op.pick (.tmp 0) (.tmp 1) (.tmp 2)) 4 [v14_8, v17_10, (.bool false)] (fun v18_11 w =>
 gdM (gd v18_11 true) (callM Tryd.prog 15 #[(.int .i64 7)]) (fun v20_12 w =>
 gdM (gd v18_11 true) (oM Tryd.prog (Go.Op.binOp Go.BinOp.eql 9 (.tmp 0) (.const (.string ⟨#[55, 59]⟩)) 9) 4 [v20_12]) (fun v21_13 w =>
 oM Tryd.prog (Go.Op.pick (.tmp 0) (.tmp 1) (.tmp 2)) 4 [v18_11, v21_13, (.bool false)] (fun v22_14 w =>
 callM Tryd.prog 17 #[(.string ⟨#[97, 44, 98]⟩)] (fun v23_15 w =>
 oM Tryd.prog (Go.Op.binOp Go.BinOp.eql 9 (.tmp 0) (.const (.string ⟨#[51, 58, 97, 44, 98, 44]⟩)) 9) 4 [v23_15] (fun v24_16 w =>
 gdM (gd v24_16 true) (oM Tryd.prog (Go.Op.buildSlice 22 2 #[(0, (.tmp 0)), (1, (.tmp 1))]) 22 [(.int .i64 1), (.int .i64 (-1))]) (fun v26_17 w =>
 gdM (gd v24_16 true) (callM Tryd.prog 19 #[v26_17]) (fun v27_18 w =>
 gdM (gd v24_16 true) (oM Tryd.prog (Go.Op.binOp Go.BinOp.eql 9 (.tmp 0) (.const (.string ⟨#[50, 91, 49, 59, 45, 49, 59, 93]⟩)) 9) 4 [v27_18]) (fun v28_19 w =>
 oM Tryd.prog (Go.Op.pick (.tmp 0) (.tmp 1) (.tmp 2)) 4 [v24_16, v28_19, (.bool false)] (fun v29_20 w =>
 gdM (gd v29_20 true) (callM Tryd.prog 21 #[(.slice none 0 0)]) (fun v31_21 w =>
 gdM (gd v29_20 true) (oM Tryd.prog (Go.Op.binOp Go.BinOp.eql 9 (.tmp 0) (.const (.string ⟨#[48, 91, 93]⟩)) 9) 4 [v31_21]) (fun v32_22 w =>
 oM Tryd.prog (Go.Op.pick (.tmp 0) (.tmp 1) (.tmp 2)) 4 [v29_20, v32_22, (.bool false)] (fun v33_23 w =>
 callM Tryd.prog 23 #[(.string ⟨#[48, 48, 55, 59]⟩)] (fun v34_24 w =>
 oM Tryd.prog (Go.Op.binOp Go.BinOp.eql 34 (.tmp 0) (.const (.pointer none)) 34) 4 [v34_24] (fun v36_25 w =>
 condM v36_25
 (K (.bool false) w)
 (callM Tryd.prog 25 #[v34_24] (fun v38_26 w =>
 gdM (gd v22_14 true) (pureM v33_23) (fun v41_27 w =>
 oM Tryd.prog (Go.Op.pick (.tmp 0) (.tmp 1) (.tmp 2)) 4 [v22_14, v41_27, (.bool false)] (fun v42_28 w =>
 gdM (gd v42_28 true) (pureM v38_26) (fun v44_29 w =>
 gdM (gd v42_28 true) (oM Tryd.prog (Go.Op.binOp Go.BinOp.eql 3 (.tmp 0) (.const (.int .i64 0)) 3) 4 [v44_29]) (fun v45_30 w =>
 oM Tryd.prog (Go.Op.pick (.tmp 0) (.tmp 1) (.tmp 2)) 4 [v42_28, v45_30, (.bool false)] (fun v46_31 w =>
 gdM (gd v46_31 true) (pureM v34_24) (fun v48_32 w =>
 gdM (gd v46_31 true) (callM Tryd.prog 30 #[v48_32]) (fun v49_33 w =>
 gdM (gd v46_31 true) (oM Tryd.prog (Go.Op.binOp Go.BinOp.eql 3 (.tmp 0) (.const (.int .i64 0)) 3) 4 [v49_33]) (fun v50_34 w =>
 oM Tryd.prog (Go.Op.pick (.tmp 0) (.tmp 1) (.tmp 2)) 4 [v46_31, v50_34, (.bool false)] (fun v51_35 w =>
 gdM (gd v51_35 true) (pureM v34_24) (fun v53_36 w =>
 gdM (gd v51_35 true) (callM Tryd.prog 31 #[v53_36]) (fun v54_37 w =>
 gdM (gd v51_35 true) (oM Tryd.prog (Go.Op.unOp Go.UnOp.not 4 (.tmp 0)) 4 [v54_37]) (fun v55_38 w =>
 oM Tryd.prog (Go.Op.pick (.tmp 0) (.tmp 1) (.tmp 2)) 4 [v51_35, v55_38, (.bool false)] (fun v56_39 w =>
 K v56_39 w) w) w) w) w) w) w) w) w) w) w) w) w) w) w)) w) w) w) w) w) w) w) w) w) w) w) w) w) w) w) w) w) w) w) w) w) w) w) w) w
theorem sh_11_eq (K : Value → World → Prop) (w : World) : sh_11 K w = code Tryd.prog (fun _ => 0) 57 (Tryd.f11.body.getD .skip) (slotsAt []) (retK Tryd.prog [.tmp 0] K) w := by kernel_rfl
theorem sh_11_ok {K : Value → World → Prop} {w : World} (h : sh_11 K w) : callM Tryd.prog 11 #[] K w :=
  calls_of_code (fun _ => 0) (fn := Tryd.f11) (rs := [.tmp 0]) Tryd.func11 rfl rfl (by kernel_rfl) (Nat.le_of_ble_eq_true rfl) ((sh_11_eq K w).mp h)

/-- cloak/cloaklaw01.fewValues -/
def sh_12 (a0 : Value) (K : Value → World → Prop) (w : World) : Prop :=
 oM Tryd.prog (Go.Op.call (Go.Call.mk (Go.Callee.builtin Go.Builtin.len) #[(.tmp 0)] #[28])) 3 [a0] (fun v7_1 w =>
 oM Tryd.prog (Go.Op.binOp Go.BinOp.gtr 3 (.tmp 0) (.tmp 1) 3) 4 [v7_1, (.int .i64 20)] (fun v8_2 w =>
 condM v8_2
 (K (.bool false) w)
 (loopM [(.bool false), (.int .i64 0), undef, (.int .i64 0)] w (fun J_3 m_4 l_5 u_l_5 w0_l_5 => (fun w => (
 oM Tryd.prog (Go.Op.call (Go.Call.mk (Go.Callee.builtin Go.Builtin.len) #[(.tmp 0)] #[28])) 3 [a0] (fun v11_6 w =>
 oM Tryd.prog (Go.Op.binOp Go.BinOp.lss 3 (.tmp 0) (.tmp 1) 3) 4 [(l_5.getD 3 undef), v11_6] (fun v12_7 w =>
 condM v12_7
 (oM Tryd.prog (Go.Op.indexAddr 28 (.tmp 0) (.tmp 1)) 0 [a0, (l_5.getD 3 undef)] (fun v17_8 w =>
 oM Tryd.prog (Go.Op.fieldAddr 25 (.tmp 0) 3) 0 [v17_8] (fun v18_9 w =>
 oM Tryd.prog (Go.Op.load 22 (.tmp 0)) 22 [v18_9] (fun v19_10 w =>
 oM Tryd.prog (Go.Op.call (Go.Call.mk (Go.Callee.builtin Go.Builtin.len) #[(.tmp 0)] #[22])) 3 [v19_10] (fun v20_11 w =>
 oM Tryd.prog (Go.Op.binOp Go.BinOp.gtr 3 (.tmp 0) (.tmp 1) 3) 4 [v20_11, (.int .i64 400)] (fun v21_12 w =>
 gdM (gd v21_12 false) (pureM a0) (fun v23_13 w =>
 gdM (gd v21_12 false) (pureM (l_5.getD 3 undef)) (fun v24_14 w =>
 gdM (gd v21_12 false) (oM Tryd.prog (Go.Op.indexAddr 28 (.tmp 0) (.tmp 1)) 0 [v23_13, v24_14]) (fun v25_15 w =>
 gdM (gd v21_12 false) (oM Tryd.prog (Go.Op.fieldAddr 25 (.tmp 0) 4) 0 [v25_15]) (fun v26_16 w =>
 gdM (gd v21_12 false) (oM Tryd.prog (Go.Op.load 23 (.tmp 0)) 23 [v26_16]) (fun v27_17 w =>
 gdM (gd v21_12 false) (oM Tryd.prog (Go.Op.call (Go.Call.mk (Go.Callee.builtin Go.Builtin.len) #[(.tmp 0)] #[23])) 3 [v27_17]) (fun v28_18 w =>
 gdM (gd v21_12 false) (oM Tryd.prog (Go.Op.binOp Go.BinOp.gtr 3 (.tmp 0) (.tmp 1) 3) 4 [v28_18, (.int .i64 400)]) (fun v29_19 w =>
 oM Tryd.prog (Go.Op.pick (.tmp 0) (.tmp 1) (.tmp 2)) 4 [v21_12, (.bool true), v29_19] (fun v30_20 w =>
 gdM (gd v30_20 false) (pureM a0) (fun v32_21 w =>
 gdM (gd v30_20 false) (pureM (l_5.getD 3 undef)) (fun v33_22 w =>
 gdM (gd v30_20 false) (oM Tryd.prog (Go.Op.indexAddr 28 (.tmp 0) (.tmp 1)) 0 [v32_21, v33_22]) (fun v34_23 w =>
 gdM (gd v30_20 false) (oM Tryd.prog (Go.Op.fieldAddr 25 (.tmp 0) 2) 0 [v34_23]) (fun v35_24 w =>
 gdM (gd v30_20 false) (oM Tryd.prog (Go.Op.load 9 (.tmp 0)) 9 [v35_24]) (fun v36_25 w =>
 gdM (gd v30_20 false) (oM Tryd.prog (Go.Op.call (Go.Call.mk (Go.Callee.builtin Go.Builtin.len) #[(.tmp 0)] #[9])) 3 [v36_25]) (fun v37_26 w =>
 gdM (gd v30_20 false) (oM Tryd.prog (Go.Op.binOp Go.BinOp.gtr 3 (.tmp 0) (.tmp 1) 3) 4 [v37_26, (.int .i64 400)]) (fun v38_27 w =>
 oM Tryd.prog (Go.Op.pick (.tmp 0) (.tmp 1) (.tmp 2)) 4 [v30_20, (.bool true), v38_27] (fun v39_28 w =>
 condM v39_28
 (K (.bool false) w)
 (quietM w (fun C_29 => (oQ Tryd.prog (Go.Op.indexAddr 28 (.tmp 0) (.tmp 1)) 0 [a0, (l_5.getD 3 undef)] C_29 (fun v43_30 =>
 oQ Tryd.prog (Go.Op.fieldAddr 25 (.tmp 0) 2) 0 [v43_30] C_29 (fun v44_31 =>
 oQ Tryd.prog (Go.Op.load 9 (.tmp 0)) 9 [v44_31] C_29 (fun v45_32 =>
 oQ Tryd.prog (Go.Op.call (Go.Call.mk (Go.Callee.builtin Go.Builtin.len) #[(.tmp 0)] #[9])) 3 [v45_32] C_29 (fun v46_33 =>
 oQ Tryd.prog (Go.Op.binOp Go.BinOp.add 3 (.tmp 0) (.tmp 1) 3) 3 [(l_5.getD 1 undef), v46_33] C_29 (fun v47_34 =>
 oQ Tryd.prog (Go.Op.indexAddr 28 (.tmp 0) (.tmp 1)) 0 [a0, (l_5.getD 3 undef)] C_29 (fun v50_35 =>
 oQ Tryd.prog (Go.Op.fieldAddr 25 (.tmp 0) 3) 0 [v50_35] C_29 (fun v51_36 =>
 oQ Tryd.prog (Go.Op.load 22 (.tmp 0)) 22 [v51_36] C_29 (fun v52_37 =>
 oQ Tryd.prog (Go.Op.call (Go.Call.mk (Go.Callee.builtin Go.Builtin.len) #[(.tmp 0)] #[22])) 3 [v52_37] C_29 (fun v53_38 =>
 oQ Tryd.prog (Go.Op.binOp Go.BinOp.add 3 (.tmp 0) (.tmp 1) 3) 3 [v47_34, v53_38] C_29 (fun v54_39 =>
 oQ Tryd.prog (Go.Op.indexAddr 28 (.tmp 0) (.tmp 1)) 0 [a0, (l_5.getD 3 undef)] C_29 (fun v57_40 =>
 oQ Tryd.prog (Go.Op.fieldAddr 25 (.tmp 0) 4) 0 [v57_40] C_29 (fun v58_41 =>
 oQ Tryd.prog (Go.Op.load 23 (.tmp 0)) 23 [v58_41] C_29 (fun v59_42 =>
 oQ Tryd.prog (Go.Op.call (Go.Call.mk (Go.Callee.builtin Go.Builtin.len) #[(.tmp 0)] #[23])) 3 [v59_42] C_29 (fun v60_43 =>
 oQ Tryd.prog (Go.Op.binOp Go.BinOp.add 3 (.tmp 0) (.tmp 1) 3) 3 [v54_39, v60_43] C_29 (fun v61_44 =>
 ∀ w, C_29 w → (loopM [(l_5.getD 0 undef), v61_44, (.int .i64 0)] w (fun J_45 m_46 l_47 u_l_47 w0_l_47 => (fun w => (
 oM Tryd.prog (Go.Op.indexAddr 28 (.tmp 0) (.tmp 1)) 0 [a0, (l_5.getD 3 undef)] (fun v65_48 w =>
 oM Tryd.prog (Go.Op.fieldAddr 25 (.tmp 0) 4) 0 [v65_48] (fun v66_49 w =>
 oM Tryd.prog (Go.Op.load 23 (.tmp 0)) 23 [v66_49] (fun v67_50 w =>
 oM Tryd.prog (Go.Op.call (Go.Call.mk (Go.Callee.builtin Go.Builtin.len) #[(.tmp 0)] #[23])) 3 [v67_50] (fun v68_51 w =>
 oM Tryd.prog (Go.Op.binOp Go.BinOp.lss 3 (.tmp 0) (.tmp 1) 3) 4 [(l_47.getD 2 undef), v68_51] (fun v69_52 w =>
 condM v69_52
 (oM Tryd.prog (Go.Op.indexAddr 28 (.tmp 0) (.tmp 1)) 0 [a0, (l_5.getD 3 undef)] (fun v74_53 w =>
 oM Tryd.prog (Go.Op.fieldAddr 25 (.tmp 0) 4) 0 [v74_53] (fun v75_54 w =>
 oM Tryd.prog (Go.Op.load 23 (.tmp 0)) 23 [v75_54] (fun v76_55 w =>
 oM Tryd.prog (Go.Op.indexAddr 23 (.tmp 0) (.tmp 1)) 0 [v76_55, (l_47.getD 2 undef)] (fun v78_56 w =>
 oM Tryd.prog (Go.Op.load 9 (.tmp 0)) 9 [v78_56] (fun v79_57 w =>
 oM Tryd.prog (Go.Op.call (Go.Call.mk (Go.Callee.builtin Go.Builtin.len) #[(.tmp 0)] #[9])) 3 [v79_57] (fun v80_58 w =>
 oM Tryd.prog (Go.Op.binOp Go.BinOp.gtr 3 (.tmp 0) (.tmp 1) 3) 4 [v80_58, (.int .i64 400)] (fun v81_59 w =>
 condM v81_59
 (K (.bool false) w)
 (oM Tryd.prog (Go.Op.indexAddr 28 (.tmp 0) (.tmp 1)) 0 [a0, (l_5.getD 3 undef)] (fun v85_60 w =>
 oM Tryd.prog (Go.Op.fieldAddr 25 (.tmp 0) 4) 0 [v85_60] (fun v86_61 w =>
 oM Tryd.prog (Go.Op.load 23 (.tmp 0)) 23 [v86_61] (fun v87_62 w =>
 oM Tryd.prog (Go.Op.indexAddr 23 (.tmp 0) (.tmp 1)) 0 [v87_62, (l_47.getD 2 undef)] (fun v89_63 w =>
 oM Tryd.prog (Go.Op.load 9 (.tmp 0)) 9 [v89_63] (fun v90_64 w =>
 oM Tryd.prog (Go.Op.call (Go.Call.mk (Go.Callee.builtin Go.Builtin.len) #[(.tmp 0)] #[9])) 3 [v90_64] (fun v91_65 w =>
 oM Tryd.prog (Go.Op.binOp Go.BinOp.add 3 (.tmp 0) (.tmp 1) 3) 3 [(l_47.getD 1 undef), v91_65] (fun v92_66 w =>
 oM Tryd.prog (Go.Op.binOp Go.BinOp.add 3 (.tmp 0) (.tmp 1) 3) 3 [(l_47.getD 2 undef), (.int .i64 1)] (fun v71_67 w =>
 J_45 [(l_47.getD 0 undef), v92_66, v71_67] w ∧ m_46 [(l_47.getD 0 undef), v92_66, v71_67] w < m_46 l_47 w0_l_47) w) w) w) w) w) w) w) w)) w) w) w) w) w) w) w)
 (oM Tryd.prog (Go.Op.binOp Go.BinOp.add 3 (.tmp 0) (.tmp 1) 3) 3 [(l_5.getD 3 undef), (.int .i64 1)] (fun v14_68 w =>
 J_3 [(l_47.getD 0 undef), (l_47.getD 1 undef), (l_47.getD 2 undef), v14_68] w ∧ m_4 [(l_47.getD 0 undef), (l_47.getD 1 undef), (l_47.getD 2 undef), v14_68] w < m_4 l_5 w0_l_5) w)) w) w) w) w) w)) w0_l_47))))))))))))))))))))) w) w) w) w) w) w) w) w) w) w) w) w) w) w) w) w) w) w) w) w) w)
 (oM Tryd.prog (Go.Op.binOp Go.BinOp.leq 3 (.tmp 0) (.tmp 1) 3) 4 [(l_5.getD 1 undef), (.int .i64 400)] (fun v94_69 w =>
 K v94_69 w) w)) w) w)) w0_l_5))) w) w
theorem sh_12_eq (a0 : Value) (K : Value → World → Prop) (w : World) : sh_12 a0 K w = code Tryd.prog (fun _ => 0) 95 (Tryd.f12.body.getD .skip) (slotsAt [a0]) (retK Tryd.prog [.tmp 2] K) w := by kernel_rfl
theorem sh_12_ok {a0 : Value} {K : Value → World → Prop} {w : World} (h : sh_12 a0 K w) : callM Tryd.prog 12 #[a0] K w :=
  calls_of_code (fun _ => 0) (fn := Tryd.f12) (rs := [.tmp 2]) Tryd.func12 rfl rfl (by kernel_rfl) (Nat.le_of_ble_eq_true rfl) ((sh_12_eq a0 K w).mp h)

/-- cloak/base.Num -/
def sh_13 (a0 : Value) (K : Value → World → Prop) (w : World) : Prop :=
 oM Tryd.prog (Go.Op.binOp Go.BinOp.lss 3 (.tmp 0) (.tmp 1) 3) 4 [a0, (.int .i64 0)] (fun v4_1 w =>
 condM v4_1
 (K (.string ⟨#[]⟩) w)
 (callM Tryd.prog 15 #[a0] (fun v6_2 w =>
 K v6_2 w) w)) w
theorem sh_13_eq (a0 : Value) (K : Value → World → Prop) (w : World) : sh_13 a0 K w = code Tryd.prog (fun _ => 0) 7 (Tryd.f13.body.getD .skip) (slotsAt [a0]) (retK Tryd.prog [.tmp 2] K) w := by kernel_rfl
theorem sh_13_ok {a0 : Value} {K : Value → World → Prop} {w : World} (h : sh_13 a0 K w) : callM Tryd.prog 13 #[a0] K w :=
  calls_of_code (fun _ => 0) (fn := Tryd.f13) (rs := [.tmp 2]) Tryd.func13 rfl rfl (by kernel_rfl) (Nat.le_of_ble_eq_true rfl) ((sh_13_eq a0 K w).mp h)

/-- cloak/cloakref01.Num -/
def sh_14 (a0 : Value) (K : Value → World → Prop) (w : World) : Prop :=
 oM Tryd.prog (Go.Op.binOp Go.BinOp.lss 3 (.tmp 0) (.tmp 1) 3) 4 [a0, (.int .i64 0)] (fun v4_1 w =>
 condM v4_1
 (K (.string ⟨#[]⟩) w)
 (callM Tryd.prog 16 #[a0] (fun v6_2 w =>
 K v6_2 w) w)) w
theorem sh_14_eq (a0 : Value) (K : Value → World → Prop) (w : World) : sh_14 a0 K w = code Tryd.prog (fun _ => 0) 7 (Tryd.f14.body.getD .skip) (slotsAt [a0]) (retK Tryd.prog [.tmp 2] K) w := by kernel_rfl
theorem sh_14_ok {a0 : Value} {K : Value → World → Prop} {w : World} (h : sh_14 a0 K w) : callM Tryd.prog 14 #[a0] K w :=
  calls_of_code (fun _ => 0) (fn := Tryd.f14) (rs := [.tmp 2]) Tryd.func14 rfl rfl (by kernel_rfl) (Nat.le_of_ble_eq_true rfl) ((sh_14_eq a0 K w).mp h)

/-- cloak/base.Int -/
def sh_15 (a0 : Value) (K : Value → World → Prop) (w : World) : Prop :=
 callM Tryd.prog 65 #[a0] (fun v4_1 w =>
 oM Tryd.prog (Go.Op.binOp Go.BinOp.add 9 (.tmp 0) (.tmp 1) 9) 9 [v4_1, (.string ⟨#[59]⟩)] (fun v5_2 w =>
 K v5_2 w) w) w
theorem sh_15_eq (a0 : Value) (K : Value → World → Prop) (w : World) : sh_15 a0 K w = code Tryd.prog (fun _ => 0) 6 (Tryd.f15.body.getD .skip) (slotsAt [a0]) (retK Tryd.prog [.tmp 2] K) w := by kernel_rfl
theorem sh_15_ok {a0 : Value} {K : Value → World → Prop} {w : World} (h : sh_15 a0 K w) : callM Tryd.prog 15 #[a0] K w :=
  calls_of_code (fun _ => 0) (fn := Tryd.f15) (rs := [.tmp 2]) Tryd.func15 rfl rfl (by kernel_rfl) (Nat.le_of_ble_eq_true rfl) ((sh_15_eq a0 K w).mp h)

/-- cloak/cloakref01.Int -/
def sh_16 (a0 : Value) (K : Value → World → Prop) (w : World) : Prop :=
 oM Tryd.prog (Go.Op.binOp Go.BinOp.lss 3 (.tmp 0) (.tmp 1) 3) 4 [a0, (.int .i64 0)] (fun v4_1 w =>
 condM v4_1
 (callM Tryd.prog 66 #[a0] (fun v6_2 w =>
 oM Tryd.prog (Go.Op.binOp Go.BinOp.add 9 (.tmp 0) (.tmp 1) 9) 9 [(.string ⟨#[45]⟩), v6_2] (fun v7_3 w =>
 oM Tryd.prog (Go.Op.binOp Go.BinOp.add 9 (.tmp 0) (.tmp 1) 9) 9 [v7_3, (.string ⟨#[59]⟩)] (fun v8_4 w =>
 K v8_4 w) w) w) w)
 (oM Tryd.prog (Go.Op.unOp Go.UnOp.neg 3 (.tmp 0)) 3 [a0] (fun v10_5 w =>
 callM Tryd.prog 66 #[v10_5] (fun v11_6 w =>
 oM Tryd.prog (Go.Op.binOp Go.BinOp.add 9 (.tmp 0) (.tmp 1) 9) 9 [v11_6, (.string ⟨#[59]⟩)] (fun v12_7 w =>
 K v12_7 w) w) w) w)) w
theorem sh_16_eq (a0 : Value) (K : Value → World → Prop) (w : World) : sh_16 a0 K w = code Tryd.prog (fun _ => 0) 13 (Tryd.f16.body.getD .skip) (slotsAt [a0]) (retK Tryd.prog [.tmp 2] K) w := by kernel_rfl
theorem sh_16_ok {a0 : Value} {K : Value → World → Prop} {w : World} (h : sh_16 a0 K w) : callM Tryd.prog 16 #[a0] K w :=
  calls_of_code (fun _ => 0) (fn := Tryd.f16) (rs := [.tmp 2]) Tryd.func16 rfl rfl (by kernel_rfl) (Nat.le_of_ble_eq_true rfl) ((sh_16_eq a0 K w).mp h)

/-- cloak/base.Text -/
def sh_17 (a0 : Value) (K : Value → World → Prop) (w : World) : Prop :=
 oM Tryd.prog (Go.Op.call (Go.Call.mk (Go.Callee.builtin Go.Builtin.len) #[(.tmp 0)] #[9])) 3 [a0] (fun v4_1 w =>
 callM Tryd.prog 65 #[v4_1] (fun v5_2 w =>
 oM Tryd.prog (Go.Op.binOp Go.BinOp.add 9 (.tmp 0) (.tmp 1) 9) 9 [v5_2, (.string ⟨#[58]⟩)] (fun v6_3 w =>
 oM Tryd.prog (Go.Op.binOp Go.BinOp.add 9 (.tmp 0) (.tmp 1) 9) 9 [v6_3, a0] (fun v8_4 w =>
 oM Tryd.prog (Go.Op.binOp Go.BinOp.add 9 (.tmp 0) (.tmp 1) 9) 9 [v8_4, (.string ⟨#[44]⟩)] (fun v9_5 w =>
 K v9_5 w) w) w) w) w) w
theorem sh_17_eq (a0 : Value) (K : Value → World → Prop) (w : World) : sh_17 a0 K w = code Tryd.prog (fun _ => 0) 10 (Tryd.f17.body.getD .skip) (slotsAt [a0]) (retK Tryd.prog [.tmp 2] K) w := by kernel_rfl
theorem sh_17_ok {a0 : Value} {K : Value → World → Prop} {w : World} (h : sh_17 a0 K w) : callM Tryd.prog 17 #[a0] K w :=
  calls_of_code (fun _ => 0) (fn := Tryd.f17) (rs := [.tmp 2]) Tryd.func17 rfl rfl (by kernel_rfl) (Nat.le_of_ble_eq_true rfl) ((sh_17_eq a0 K w).mp h)

/-- cloak/cloakref01.Text -/
def sh_18 (a0 : Value) (K : Value → World → Prop) (w : World) : Prop :=
 oM Tryd.prog (Go.Op.call (Go.Call.mk (Go.Callee.builtin Go.Builtin.len) #[(.tmp 0)] #[9])) 3 [a0] (fun v4_1 w =>
 oM Tryd.prog (Go.Op.unOp Go.UnOp.neg 3 (.tmp 0)) 3 [v4_1] (fun v5_2 w =>
 callM Tryd.prog 66 #[v5_2] (fun v6_3 w =>
 oM Tryd.prog (Go.Op.binOp Go.BinOp.add 9 (.tmp 0) (.tmp 1) 9) 9 [v6_3, (.string ⟨#[58]⟩)] (fun v7_4 w =>
 oM Tryd.prog (Go.Op.binOp Go.BinOp.add 9 (.tmp 0) (.tmp 1) 9) 9 [v7_4, a0] (fun v9_5 w =>
 oM Tryd.prog (Go.Op.binOp Go.BinOp.add 9 (.tmp 0) (.tmp 1) 9) 9 [v9_5, (.string ⟨#[44]⟩)] (fun v10_6 w =>
 K v10_6 w) w) w) w) w) w) w
theorem sh_18_eq (a0 : Value) (K : Value → World → Prop) (w : World) : sh_18 a0 K w = code Tryd.prog (fun _ => 0) 11 (Tryd.f18.body.getD .skip) (slotsAt [a0]) (retK Tryd.prog [.tmp 2] K) w := by kernel_rfl
theorem sh_18_ok {a0 : Value} {K : Value → World → Prop} {w : World} (h : sh_18 a0 K w) : callM Tryd.prog 18 #[a0] K w :=
  calls_of_code (fun _ => 0) (fn := Tryd.f18) (rs := [.tmp 2]) Tryd.func18 rfl rfl (by kernel_rfl) (Nat.le_of_ble_eq_true rfl) ((sh_18_eq a0 K w).mp h)

/-- cloak/base.Nums -/
def sh_19 (a0 : Value) (K : Value → World → Prop) (w : World) : Prop :=
 callM Tryd.prog 67 #[a0, (.func (.func 15) #[] #[])] (fun v4_1 w =>
 K v4_1 w) w
theorem sh_19_eq (a0 : Value) (K : Value → World → Prop) (w : World) : sh_19 a0 K w = code Tryd.prog (fun _ => 0) 5 (Tryd.f19.body.getD .skip) (slotsAt [a0]) (retK Tryd.prog [.tmp 2] K) w := by kernel_rfl
theorem sh_19_ok {a0 : Value} {K : Value → World → Prop} {w : World} (h : sh_19 a0 K w) : callM Tryd.prog 19 #[a0] K w :=
  calls_of_code (fun _ => 0) (fn := Tryd.f19) (rs := [.tmp 2]) Tryd.func19 rfl rfl (by kernel_rfl) (Nat.le_of_ble_eq_true rfl) ((sh_19_eq a0 K w).mp h)

/-- cloak/cloakref01.Nums -/
def sh_20 (a0 : Value) (K : Value → World → Prop) (w : World) : Prop :=
 oM Tryd.prog (Go.Op.call (Go.Call.mk (Go.Callee.builtin Go.Builtin.len) #[(.tmp 0)] #[22])) 3 [a0] (fun v6_1 w =>
 oM Tryd.prog (Go.Op.unOp Go.UnOp.neg 3 (.tmp 0)) 3 [v6_1] (fun v7_2 w =>
 callM Tryd.prog 66 #[v7_2] (fun v8_3 w =>
 oM Tryd.prog (Go.Op.binOp Go.BinOp.add 9 (.tmp 0) (.tmp 1) 9) 9 [v8_3, (.string ⟨#[91]⟩)] (fun v9_4 w =>
 loopM [v9_4, (.int .i64 0)] w (fun J_5 m_6 l_7 u_l_7 w0_l_7 => (fun w => (
 oM Tryd.prog (Go.Op.call (Go.Call.mk (Go.Callee.builtin Go.Builtin.len) #[(.tmp 0)] #[22])) 3 [a0] (fun v12_8 w =>
 oM Tryd.prog (Go.Op.binOp Go.BinOp.lss 3 (.tmp 0) (.tmp 1) 3) 4 [(l_7.getD 1 undef), v12_8] (fun v13_9 w =>
 condM v13_9
 (oM Tryd.prog (Go.Op.indexAddr 22 (.tmp 0) (.tmp 1)) 0 [a0, (l_7.getD 1 undef)] (fun v19_10 w =>
 oM Tryd.prog (Go.Op.load 3 (.tmp 0)) 3 [v19_10] (fun v20_11 w =>
 callM Tryd.prog 16 #[v20_11] (fun v21_12 w =>
 oM Tryd.prog (Go.Op.binOp Go.BinOp.add 9 (.tmp 0) (.tmp 1) 9) 9 [(l_7.getD 0 undef), v21_12] (fun v22_13 w =>
 oM Tryd.prog (Go.Op.binOp Go.BinOp.add 3 (.tmp 0) (.tmp 1) 3) 3 [(l_7.getD 1 undef), (.int .i64 1)] (fun v15_14 w =>
 J_5 [v22_13, v15_14] w ∧ m_6 [v22_13, v15_14] w < m_6 l_7 w0_l_7) w) w) w) w) w)
 (oM Tryd.prog (Go.Op.binOp Go.BinOp.add 9 (.tmp 0) (.tmp 1) 9) 9 [(l_7.getD 0 undef), (.string ⟨#[93]⟩)] (fun v24_15 w =>
 K v24_15 w) w)) w) w)) w0_l_7)) w) w) w) w
theorem sh_20_eq (a0 : Value) (K : Value → World → Prop) (w : World) : sh_20 a0 K w = code Tryd.prog (fun _ => 0) 25 (Tryd.f20.body.getD .skip) (slotsAt [a0]) (retK Tryd.prog [.tmp 2] K) w := by kernel_rfl
theorem sh_20_ok {a0 : Value} {K : Value → World → Prop} {w : World} (h : sh_20 a0 K w) : callM Tryd.prog 20 #[a0] K w :=
  calls_of_code (fun _ => 0) (fn := Tryd.f20) (rs := [.tmp 2]) Tryd.func20 rfl rfl (by kernel_rfl) (Nat.le_of_ble_eq_true rfl) ((sh_20_eq a0 K w).mp h)

/-- cloak/base.Texts -/
def sh_21 (a0 : Value) (K : Value → World → Prop) (w : World) : Prop :=
 callM Tryd.prog 68 #[a0, (.func (.func 17) #[] #[])] (fun v4_1 w =>
 K v4_1 w) w
theorem sh_21_eq (a0 : Value) (K : Value → World → Prop) (w : World) : sh_21 a0 K w = code Tryd.prog (fun _ => 0) 5 (Tryd.f21.body.getD .skip) (slotsAt [a0]) (retK Tryd.prog [.tmp 2] K) w := by kernel_rfl
theorem sh_21_ok {a0 : Value} {K : Value → World → Prop} {w : World} (h : sh_21 a0 K w) : callM Tryd.prog 21 #[a0] K w :=
  calls_of_code (fun _ => 0) (fn := Tryd.f21) (rs := [.tmp 2]) Tryd.func21 rfl rfl (by kernel_rfl) (Nat.le_of_ble_eq_true rfl) ((sh_21_eq a0 K w).mp h)

/-- cloak/cloakref01.Texts -/
def sh_22 (a0 : Value) (K : Value → World → Prop) (w : World) : Prop :=
 oM Tryd.prog (Go.Op.call (Go.Call.mk (Go.Callee.builtin Go.Builtin.len) #[(.tmp 0)] #[23])) 3 [a0] (fun v6_1 w =>
 oM Tryd.prog (Go.Op.unOp Go.UnOp.neg 3 (.tmp 0)) 3 [v6_1] (fun v7_2 w =>
 callM Tryd.prog 66 #[v7_2] (fun v8_3 w =>
 oM Tryd.prog (Go.Op.binOp Go.BinOp.add 9 (.tmp 0) (.tmp 1) 9) 9 [v8_3, (.string ⟨#[91]⟩)] (fun v9_4 w =>
 loopM [v9_4, (.int .i64 0)] w (fun J_5 m_6 l_7 u_l_7 w0_l_7 => (fun w => (
 oM Tryd.prog (Go.Op.call (Go.Call.mk (Go.Callee.builtin Go.Builtin.len) #[(.tmp 0)] #[23])) 3 [a0] (fun v12_8 w =>
 oM Tryd.prog (Go.Op.binOp Go.BinOp.lss 3 (.tmp 0) (.tmp 1) 3) 4 [(l_7.getD 1 undef), v12_8] (fun v13_9 w =>
 condM v13_9
 (oM Tryd.prog (Go.Op.indexAddr 23 (.tmp 0) (.tmp 1)) 0 [a0, (l_7.getD 1 undef)] (fun v19_10 w =>
 oM Tryd.prog (Go.Op.load 9 (.tmp 0)) 9 [v19_10] (fun v20_11 w =>
 callM Tryd.prog 18 #[v20_11] (fun v21_12 w =>
 oM Tryd.prog (Go.Op.binOp Go.BinOp.add 9 (.tmp 0) (.tmp 1) 9) 9 [(l_7.getD 0 undef), v21_12] (fun v22_13 w =>
 oM Tryd.prog (Go.Op.binOp Go.BinOp.add 3 (.tmp 0) (.tmp 1) 3) 3 [(l_7.getD 1 undef), (.int .i64 1)] (fun v15_14 w =>
 J_5 [v22_13, v15_14] w ∧ m_6 [v22_13, v15_14] w < m_6 l_7 w0_l_7) w) w) w) w) w)
 (oM Tryd.prog (Go.Op.binOp Go.BinOp.add 9 (.tmp 0) (.tmp 1) 9) 9 [(l_7.getD 0 undef), (.string ⟨#[93]⟩)] (fun v24_15 w =>
 K v24_15 w) w)) w) w)) w0_l_7)) w) w) w) w
theorem sh_22_eq (a0 : Value) (K : Value → World → Prop) (w : World) : sh_22 a0 K w = code Tryd.prog (fun _ => 0) 25 (Tryd.f22.body.getD .skip) (slotsAt [a0]) (retK Tryd.prog [.tmp 2] K) w := by kernel_rfl
theorem sh_22_ok {a0 : Value} {K : Value → World → Prop} {w : World} (h : sh_22 a0 K w) : callM Tryd.prog 22 #[a0] K w :=
  calls_of_code (fun _ => 0) (fn := Tryd.f22) (rs := [.tmp 2]) Tryd.func22 rfl rfl (by kernel_rfl) (Nat.le_of_ble_eq_true rfl) ((sh_22_eq a0 K w).mp h)

/-- cloak/base.OpenReader -/
def sh_23 (a0 : Value) (K : Value → World → Prop) (w : World) : Prop :=
 oM Tryd.prog (Go.Op.build 78 #[(0, (.tmp 0))]) 78 [a0] (fun v4_1 w =>
 oM Tryd.prog (Go.Op.box 78 (.tmp 0)) 34 [v4_1] (fun v5_2 w =>
 K v5_2 w) w) w
theorem sh_23_eq (a0 : Value) (K : Value → World → Prop) (w : World) : sh_23 a0 K w = code Tryd.prog (fun _ => 0) 6 (Tryd.f23.body.getD .skip) (slotsAt [a0]) (retK Tryd.prog [.tmp 2] K) w := by kernel_rfl
theorem sh_23_ok {a0 : Value} {K : Value → World → Prop} {w : World} (h : sh_23 a0 K w) : callM Tryd.prog 23 #[a0] K w :=
  calls_of_code (fun _ => 0) (fn := Tryd.f23) (rs := [.tmp 2]) Tryd.func23 rfl rfl (by kernel_rfl) (Nat.le_of_ble_eq_true rfl) ((sh_23_eq a0 K w).mp h)

/-- cloak/cloaklaw01.kind -/
def sh_24 (a0 : Value) (K : Value → World → Prop) (w : World) : Prop :=
 oM Tryd.prog (Go.Op.box 25 (.tmp 0)) 0 [a0] (fun v1_1 w =>
 oM Tryd.prog (Go.Op.fieldAddr 25 (.tmp 0) 0) 0 [v1_1] (fun v4_2 w =>
 oM Tryd.prog (Go.Op.load 3 (.tmp 0)) 3 [v4_2] (fun v5_3 w =>
 oM Tryd.prog (Go.Op.binOp Go.BinOp.rem 3 (.tmp 0) (.tmp 1) 3) 3 [v5_3, (.int .i64 5)] (fun v6_4 w =>
 joinM (fun M_5 => (oM Tryd.prog (Go.Op.binOp Go.BinOp.lss 3 (.tmp 0) (.tmp 1) 3) 4 [v6_4, (.int .i64 0)] (fun v8_7 w =>
 condM v8_7
 (oM Tryd.prog (Go.Op.binOp Go.BinOp.add 3 (.tmp 0) (.tmp 1) 3) 3 [v6_4, (.int .i64 5)] (fun v10_8 w =>
 M_5 [v10_8] w) w)
 (M_5 [v6_4] w)) w))
 (fun l_6 u_l_6 w => (K (l_6.getD 0 undef) w))) w) w) w) w
theorem sh_24_eq (a0 : Value) (K : Value → World → Prop) (w : World) : sh_24 a0 K w = code Tryd.prog (fun _ => 0) 12 (Tryd.f24.body.getD .skip) (slotsAt [a0]) (retK Tryd.prog [.tmp 2] K) w := by kernel_rfl
theorem sh_24_ok {a0 : Value} {K : Value → World → Prop} {w : World} (h : sh_24 a0 K w) : callM Tryd.prog 24 #[a0] K w :=
  calls_of_code (fun _ => 0) (fn := Tryd.f24) (rs := [.tmp 2]) Tryd.func24 rfl rfl (by kernel_rfl) (Nat.le_of_ble_eq_true rfl) ((sh_24_eq a0 K w).mp h)

/-- (*cloak/base.Reader).Num -/
def sh_25 (a0 : Value) (K : Value → World → Prop) (w : World) : Prop :=
 callM Tryd.prog 69 #[a0, (.int .u8 59), (.int .i64 0)] (fun v4_1 w =>
 K v4_1 w) w
theorem sh_25_eq (a0 : Value) (K : Value → World → Prop) (w : World) : sh_25 a0 K w = code Tryd.prog (fun _ => 0) 5 (Tryd.f25.body.getD .skip) (slotsAt [a0]) (retK Tryd.prog [.tmp 2] K) w := by kernel_rfl
theorem sh_25_ok {a0 : Value} {K : Value → World → Prop} {w : World} (h : sh_25 a0 K w) : callM Tryd.prog 25 #[a0] K w :=
  calls_of_code (fun _ => 0) (fn := Tryd.f25) (rs := [.tmp 2]) Tryd.func25 rfl rfl (by kernel_rfl) (Nat.le_of_ble_eq_true rfl) ((sh_25_eq a0 K w).mp h)

/-- (*cloak/base.Reader).Int -/
def sh_26 (a0 : Value) (K : Value → World → Prop) (w : World) : Prop :=
 callM Tryd.prog 69 #[a0, (.int .u8 59), (.int .i64 (-9223372036854775808))] (fun v4_1 w =>
 K v4_1 w) w
theorem sh_26_eq (a0 : Value) (K : Value → World → Prop) (w : World) : sh_26 a0 K w = code Tryd.prog (fun _ => 0) 5 (Tryd.f26.body.getD .skip) (slotsAt [a0]) (retK Tryd.prog [.tmp 2] K) w := by kernel_rfl
theorem sh_26_ok {a0 : Value} {K : Value → World → Prop} {w : World} (h : sh_26 a0 K w) : callM Tryd.prog 26 #[a0] K w :=
  calls_of_code (fun _ => 0) (fn := Tryd.f26) (rs := [.tmp 2]) Tryd.func26 rfl rfl (by kernel_rfl) (Nat.le_of_ble_eq_true rfl) ((sh_26_eq a0 K w).mp h)

/-- (*cloak/base.Reader).Text -/
def sh_27 (a0 : Value) (K : Value → World → Prop) (w : World) : Prop :=
 callM Tryd.prog 69 #[a0, (.int .u8 58), (.int .i64 0)] (fun v6_1 w =>
 oM Tryd.prog (Go.Op.nilCheck (.tmp 0)) 0 [a0] (fun v9_2 w =>
 oM Tryd.prog (Go.Op.fieldAddr 78 (.tmp 0) 0) 0 [v9_2] (fun v10_3 w =>
 oM Tryd.prog (Go.Op.load 9 (.tmp 0)) 9 [v10_3] (fun v11_4 w =>
 oM Tryd.prog (Go.Op.call (Go.Call.mk (Go.Callee.builtin Go.Builtin.len) #[(.tmp 0)] #[9])) 3 [v11_4] (fun v12_5 w =>
 oM Tryd.prog (Go.Op.binOp Go.BinOp.gtr 3 (.tmp 0) (.tmp 1) 3) 4 [v6_1, v12_5] (fun v13_6 w =>
 condM v13_6
 (callM Tryd.prog 70 #[a0] (fun v15_7 w =>
 K (.string ⟨#[]⟩) w) w)
 (oM Tryd.prog (Go.Op.nilCheck (.tmp 0)) 0 [a0] (fun v17_8 w =>
 oM Tryd.prog (Go.Op.fieldAddr 78 (.tmp 0) 0) 0 [v17_8] (fun v18_9 w =>
 oM Tryd.prog (Go.Op.load 9 (.tmp 0)) 9 [v18_9] (fun v19_10 w =>
 oM Tryd.prog (Go.Op.slice 9 (.tmp 0) none (some (.tmp 1)) none) 9 [v19_10, v6_1] (fun v21_11 w =>
 oM Tryd.prog (Go.Op.nilCheck (.tmp 0)) 0 [a0] (fun v24_12 w =>
 oM Tryd.prog (Go.Op.fieldAddr 78 (.tmp 0) 0) 0 [v24_12] (fun v25_13 w =>
 oM Tryd.prog (Go.Op.load 9 (.tmp 0)) 9 [v25_13] (fun v26_14 w =>
 oM Tryd.prog (Go.Op.slice 9 (.tmp 0) (some (.tmp 1)) none none) 9 [v26_14, v6_1] (fun v28_15 w =>
 oM Tryd.prog (Go.Op.nilCheck (.tmp 0)) 0 [a0] (fun v29_16 w =>
 oM Tryd.prog (Go.Op.fieldAddr 78 (.tmp 0) 0) 0 [v29_16] (fun v30_17 w =>
 oM Tryd.prog (Go.Op.store 9 (.tmp 0) (.tmp 1)) 0 [v30_17, v28_15] (fun _ w =>
 callM Tryd.prog 71 #[a0, (.string ⟨#[44]⟩)] (fun v32_18 w =>
 oM Tryd.prog (Go.Op.nilCheck (.tmp 0)) 0 [a0] (fun v34_19 w =>
 oM Tryd.prog (Go.Op.fieldAddr 78 (.tmp 0) 1) 0 [v34_19] (fun v35_20 w =>
 oM Tryd.prog (Go.Op.load 4 (.tmp 0)) 4 [v35_20] (fun v36_21 w =>
 condM v36_21
 (K (.string ⟨#[]⟩) w)
 (K v21_11 w)) w) w) w) w) w) w) w) w) w) w) w) w) w) w) w)) w) w) w) w) w) w
theorem sh_27_eq (a0 : Value) (K : Value → World → Prop) (w : World) : sh_27 a0 K w = code Tryd.prog (fun _ => 0) 38 (Tryd.f27.body.getD .skip) (slotsAt [a0]) (retK Tryd.prog [.tmp 2] K) w := by kernel_rfl
theorem sh_27_ok {a0 : Value} {K : Value → World → Prop} {w : World} (h : sh_27 a0 K w) : callM Tryd.prog 27 #[a0] K w :=
  calls_of_code (fun _ => 0) (fn := Tryd.f27) (rs := [.tmp 2]) Tryd.func27 rfl rfl (by kernel_rfl) (Nat.le_of_ble_eq_true rfl) ((sh_27_eq a0 K w).mp h)

/-- (*cloak/base.Reader).Nums -/
def sh_28 (a0 : Value) (K : Value → World → Prop) (w : World) : Prop :=
 oM Tryd.prog (Go.Op.makeFunc (Go.Fn.func 26) #[(.tmp 0)] #[]) 37 [a0] (fun v5_1 w =>
 callM Tryd.prog 72 #[a0, v5_1] (fun v6_2 w =>
 K v6_2 w) w) w
theorem sh_28_eq (a0 : Value) (K : Value → World → Prop) (w : World) : sh_28 a0 K w = code Tryd.prog (fun _ => 0) 7 (Tryd.f28.body.getD .skip) (slotsAt [a0]) (retK Tryd.prog [.tmp 2] K) w := by kernel_rfl
theorem sh_28_ok {a0 : Value} {K : Value → World → Prop} {w : World} (h : sh_28 a0 K w) : callM Tryd.prog 28 #[a0] K w :=
  calls_of_code (fun _ => 0) (fn := Tryd.f28) (rs := [.tmp 2]) Tryd.func28 rfl rfl (by kernel_rfl) (Nat.le_of_ble_eq_true rfl) ((sh_28_eq a0 K w).mp h)

/-- (*cloak/base.Reader).Texts -/
def sh_29 (a0 : Value) (K : Value → World → Prop) (w : World) : Prop :=
 oM Tryd.prog (Go.Op.makeFunc (Go.Fn.func 27) #[(.tmp 0)] #[]) 38 [a0] (fun v5_1 w =>
 callM Tryd.prog 73 #[a0, v5_1] (fun v6_2 w =>
 K v6_2 w) w) w
theorem sh_29_eq (a0 : Value) (K : Value → World → Prop) (w : World) : sh_29 a0 K w = code Tryd.prog (fun _ => 0) 7 (Tryd.f29.body.getD .skip) (slotsAt [a0]) (retK Tryd.prog [.tmp 2] K) w := by kernel_rfl
theorem sh_29_ok {a0 : Value} {K : Value → World → Prop} {w : World} (h : sh_29 a0 K w) : callM Tryd.prog 29 #[a0] K w :=
  calls_of_code (fun _ => 0) (fn := Tryd.f29) (rs := [.tmp 2]) Tryd.func29 rfl rfl (by kernel_rfl) (Nat.le_of_ble_eq_true rfl) ((sh_29_eq a0 K w).mp h)

/-- (*cloak/base.Reader).Left -/
def sh_30 (a0 : Value) (K : Value → World → Prop) (w : World) : Prop :=
 oM Tryd.prog (Go.Op.nilCheck (.tmp 0)) 0 [a0] (fun v4_1 w =>
 oM Tryd.prog (Go.Op.fieldAddr 78 (.tmp 0) 0) 0 [v4_1] (fun v5_2 w =>
 oM Tryd.prog (Go.Op.load 9 (.tmp 0)) 9 [v5_2] (fun v6_3 w =>
 oM Tryd.prog (Go.Op.call (Go.Call.mk (Go.Callee.builtin Go.Builtin.len) #[(.tmp 0)] #[9])) 3 [v6_3] (fun v7_4 w =>
 K v7_4 w) w) w) w) w
theorem sh_30_eq (a0 : Value) (K : Value → World → Prop) (w : World) : sh_30 a0 K w = code Tryd.prog (fun _ => 0) 8 (Tryd.f30.body.getD .skip) (slotsAt [a0]) (retK Tryd.prog [.tmp 2] K) w := by kernel_rfl
theorem sh_30_ok {a0 : Value} {K : Value → World → Prop} {w : World} (h : sh_30 a0 K w) : callM Tryd.prog 30 #[a0] K w :=
  calls_of_code (fun _ => 0) (fn := Tryd.f30) (rs := [.tmp 2]) Tryd.func30 rfl rfl (by kernel_rfl) (Nat.le_of_ble_eq_true rfl) ((sh_30_eq a0 K w).mp h)

/-- (*cloak/base.Reader).Done -/
def sh_31 (a0 : Value) (K : Value → World → Prop) (w : World) : Prop :=
 oM Tryd.prog (Go.Op.nilCheck (.tmp 0)) 0 [a0] (fun v4_1 w =>
 oM Tryd.prog (Go.Op.fieldAddr 78 (.tmp 0) 1) 0 [v4_1] (fun v5_2 w =>
 oM Tryd.prog (Go.Op.load 4 (.tmp 0)) 4 [v5_2] (fun v6_3 w =>
 oM Tryd.prog (Go.Op.unOp Go.UnOp.not 4 (.tmp 0)) 4 [v6_3] (fun v7_4 w =>
 gdM (gd v7_4 true) (pureM a0) (fun v9_5 w =>
 gdM (gd v7_4 true) (oM Tryd.prog (Go.Op.nilCheck (.tmp 0)) 0 [v9_5]) (fun v10_6 w =>
 gdM (gd v7_4 true) (oM Tryd.prog (Go.Op.fieldAddr 78 (.tmp 0) 0) 0 [v10_6]) (fun v11_7 w =>
 gdM (gd v7_4 true) (oM Tryd.prog (Go.Op.load 9 (.tmp 0)) 9 [v11_7]) (fun v12_8 w =>
 gdM (gd v7_4 true) (oM Tryd.prog (Go.Op.binOp Go.BinOp.eql 9 (.tmp 0) (.const (.string ⟨#[]⟩)) 9) 4 [v12_8]) (fun v13_9 w =>
 oM Tryd.prog (Go.Op.pick (.tmp 0) (.tmp 1) (.tmp 2)) 4 [v7_4, v13_9, (.bool false)] (fun v14_10 w =>
 K v14_10 w) w) w) w) w) w) w) w) w) w) w
theorem sh_31_eq (a0 : Value) (K : Value → World → Prop) (w : World) : sh_31 a0 K w = code Tryd.prog (fun _ => 0) 15 (Tryd.f31.body.getD .skip) (slotsAt [a0]) (retK Tryd.prog [.tmp 2] K) w := by kernel_rfl
theorem sh_31_ok {a0 : Value} {K : Value → World → Prop} {w : World} (h : sh_31 a0 K w) : callM Tryd.prog 31 #[a0] K w :=
  calls_of_code (fun _ => 0) (fn := Tryd.f31) (rs := [.tmp 2]) Tryd.func31 rfl rfl (by kernel_rfl) (Nat.le_of_ble_eq_true rfl) ((sh_31_eq a0 K w).mp h)

/-- cloak/cloaklaw01.write -/
def sh_32 (a0 : Value) (K : Value → World → Prop) (w : World) : Prop :=
 oM Tryd.prog (Go.Op.box 25 (.tmp 0)) 0 [a0] (fun v1_1 w =>
 oM Tryd.prog (Go.Op.load 25 (.tmp 0)) 25 [v1_1] (fun v3_2 w =>
 callM Tryd.prog 24 #[v3_2] (fun v4_3 w =>
 oM Tryd.prog (Go.Op.binOp Go.BinOp.eql 3 (.tmp 0) (.const (.int .i64 0)) 3) 4 [v4_3] (fun v6_4 w =>
 condM v6_4
 (oM Tryd.prog (Go.Op.fieldAddr 25 (.tmp 0) 1) 0 [v1_1] (fun v7_5 w =>
 oM Tryd.prog (Go.Op.load 3 (.tmp 0)) 3 [v7_5] (fun v8_6 w =>
 callM Tryd.prog 74 #[v8_6] (fun v9_7 w =>
 callM Tryd.prog 13 #[v9_7] (fun v10_8 w =>
 K v10_8 w) w) w) w) w)
 (oM Tryd.prog (Go.Op.binOp Go.BinOp.eql 3 (.tmp 0) (.const (.int .i64 1)) 3) 4 [v4_3] (fun v12_9 w =>
 condM v12_9
 (oM Tryd.prog (Go.Op.fieldAddr 25 (.tmp 0) 1) 0 [v1_1] (fun v13_10 w =>
 oM Tryd.prog (Go.Op.load 3 (.tmp 0)) 3 [v13_10] (fun v14_11 w =>
 callM Tryd.prog 15 #[v14_11] (fun v15_12 w =>
 K v15_12 w) w) w) w)
 (oM Tryd.prog (Go.Op.binOp Go.BinOp.eql 3 (.tmp 0) (.const (.int .i64 2)) 3) 4 [v4_3] (fun v17_13 w =>
 condM v17_13
 (oM Tryd.prog (Go.Op.fieldAddr 25 (.tmp 0) 2) 0 [v1_1] (fun v18_14 w =>
 oM Tryd.prog (Go.Op.load 9 (.tmp 0)) 9 [v18_14] (fun v19_15 w =>
 callM Tryd.prog 17 #[v19_15] (fun v20_16 w =>
 K v20_16 w) w) w) w)
 (oM Tryd.prog (Go.Op.binOp Go.BinOp.eql 3 (.tmp 0) (.const (.int .i64 3)) 3) 4 [v4_3] (fun v22_17 w =>
 condM v22_17
 (oM Tryd.prog (Go.Op.fieldAddr 25 (.tmp 0) 3) 0 [v1_1] (fun v23_18 w =>
 oM Tryd.prog (Go.Op.load 22 (.tmp 0)) 22 [v23_18] (fun v24_19 w =>
 callM Tryd.prog 19 #[v24_19] (fun v25_20 w =>
 K v25_20 w) w) w) w)
 (oM Tryd.prog (Go.Op.fieldAddr 25 (.tmp 0) 4) 0 [v1_1] (fun v26_21 w =>
 oM Tryd.prog (Go.Op.load 23 (.tmp 0)) 23 [v26_21] (fun v27_22 w =>
 callM Tryd.prog 21 #[v27_22] (fun v28_23 w =>
 K v28_23 w) w) w) w)) w)) w)) w)) w) w) w) w
theorem sh_32_eq (a0 : Value) (K : Value → World → Prop) (w : World) : sh_32 a0 K w = code Tryd.prog (fun _ => 0) 29 (Tryd.f32.body.getD .skip) (slotsAt [a0]) (retK Tryd.prog [.tmp 2] K) w := by kernel_rfl
theorem sh_32_ok {a0 : Value} {K : Value → World → Prop} {w : World} (h : sh_32 a0 K w) : callM Tryd.prog 32 #[a0] K w :=
  calls_of_code (fun _ => 0) (fn := Tryd.f32) (rs := [.tmp 2]) Tryd.func32 rfl rfl (by kernel_rfl) (Nat.le_of_ble_eq_true rfl) ((sh_32_eq a0 K w).mp h)

/-- cloak/cloaklaw01.equal -/
def sh_33 (a0 : Value) (a1 : Value) (K : Value → World → Prop) (w : World) : Prop :=
 oM Tryd.prog (Go.Op.box 25 (.tmp 0)) 0 [a1] (fun v3_1 w =>
 oM Tryd.prog (Go.Op.load 25 (.tmp 0)) 25 [v3_1] (fun v5_2 w =>
 callM Tryd.prog 24 #[v5_2] (fun v6_3 w =>
 oM Tryd.prog (Go.Op.binOp Go.BinOp.eql 3 (.tmp 0) (.const (.int .i64 0)) 3) 4 [v6_3] (fun v8_4 w =>
 condM v8_4
 (heldM w (fun C_5 w => (pureH a0 C_5 (fun v9_6 =>
 oH Tryd.prog (Go.Op.fieldAddr 25 (.tmp 0) 1) 0 [v3_1] C_5 (fun v11_7 =>
 oH Tryd.prog (Go.Op.load 3 (.tmp 0)) 3 [v11_7] C_5 (fun v12_8 =>
 callM Tryd.prog 25 #[v9_6] (fun v10_9 w => C_5 w ∧ (
 callM Tryd.prog 74 #[v12_8] (fun v13_10 w => C_5 w ∧ (
 oM Tryd.prog (Go.Op.binOp Go.BinOp.eql 3 (.tmp 0) (.tmp 1) 3) 4 [v10_9, v13_10] (fun v14_11 w => C_5 w ∧ (
 C_5 w ∧ (K v14_11 w))) w)) w)) w))))))
 (oM Tryd.prog (Go.Op.binOp Go.BinOp.eql 3 (.tmp 0) (.const (.int .i64 1)) 3) 4 [v6_3] (fun v16_13 w =>
 condM v16_13
 (heldM w (fun C_14 w => (pureH a0 C_14 (fun v17_15 =>
 oH Tryd.prog (Go.Op.fieldAddr 25 (.tmp 0) 1) 0 [v3_1] C_14 (fun v19_16 =>
 oH Tryd.prog (Go.Op.load 3 (.tmp 0)) 3 [v19_16] C_14 (fun v20_17 =>
 callM Tryd.prog 26 #[v17_15] (fun v18_18 w => C_14 w ∧ (
 oM Tryd.prog (Go.Op.binOp Go.BinOp.eql 3 (.tmp 0) (.tmp 1) 3) 4 [v18_18, v20_17] (fun v21_19 w => C_14 w ∧ (
 C_14 w ∧ (K v21_19 w))) w)) w))))))
 (oM Tryd.prog (Go.Op.binOp Go.BinOp.eql 3 (.tmp 0) (.const (.int .i64 2)) 3) 4 [v6_3] (fun v23_21 w =>
 condM v23_21
 (heldM w (fun C_22 w => (pureH a0 C_22 (fun v24_23 =>
 oH Tryd.prog (Go.Op.fieldAddr 25 (.tmp 0) 2) 0 [v3_1] C_22 (fun v26_24 =>
 oH Tryd.prog (Go.Op.load 9 (.tmp 0)) 9 [v26_24] C_22 (fun v27_25 =>
 callM Tryd.prog 27 #[v24_23] (fun v25_26 w => C_22 w ∧ (
 oM Tryd.prog (Go.Op.binOp Go.BinOp.eql 9 (.tmp 0) (.tmp 1) 9) 4 [v25_26, v27_25] (fun v28_27 w => C_22 w ∧ (
 C_22 w ∧ (K v28_27 w))) w)) w))))))
 (oM Tryd.prog (Go.Op.binOp Go.BinOp.eql 3 (.tmp 0) (.const (.int .i64 3)) 3) 4 [v6_3] (fun v30_29 w =>
 condM v30_29
 (heldM w (fun C_30 w => (pureH a0 C_30 (fun v31_31 =>
 oH Tryd.prog (Go.Op.fieldAddr 25 (.tmp 0) 3) 0 [v3_1] C_30 (fun v33_32 =>
 oH Tryd.prog (Go.Op.load 22 (.tmp 0)) 22 [v33_32] C_30 (fun v34_33 =>
 callM Tryd.prog 28 #[v31_31] (fun v32_34 w => C_30 w ∧ (
 callM Tryd.prog 38 #[v32_34, v34_33] (fun v35_35 w => C_30 w ∧ (
 C_30 w ∧ (K v35_35 w))) w)) w))))))
 (heldM w (fun C_37 w => (pureH a0 C_37 (fun v36_38 =>
 oH Tryd.prog (Go.Op.fieldAddr 25 (.tmp 0) 4) 0 [v3_1] C_37 (fun v38_39 =>
 oH Tryd.prog (Go.Op.load 23 (.tmp 0)) 23 [v38_39] C_37 (fun v39_40 =>
 callM Tryd.prog 29 #[v36_38] (fun v37_41 w => C_37 w ∧ (
 callM Tryd.prog 40 #[v37_41, v39_40] (fun v40_42 w => C_37 w ∧ (
 C_37 w ∧ (K v40_42 w))) w)) w))))))) w)) w)) w)) w) w) w) w
theorem sh_33_eq (a0 : Value) (a1 : Value) (K : Value → World → Prop) (w : World) : sh_33 a0 a1 K w = code Tryd.prog (fun _ => 2) 41 (Tryd.f33.body.getD .skip) (slotsAt [a0, a1]) (retK Tryd.prog [.tmp 4] K) w := by kernel_rfl
theorem sh_33_ok {a0 a1 : Value} {K : Value → World → Prop} {w : World} (h : sh_33 a0 a1 K w) : callM Tryd.prog 33 #[a0, a1] K w :=
  calls_of_code (fun _ => 2) (fn := Tryd.f33) (rs := [.tmp 4]) Tryd.func33 rfl rfl (by kernel_rfl) (Nat.le_of_ble_eq_true rfl) ((sh_33_eq a0 a1 K w).mp h)

/-- cloak/cloakref01.OpenReader -/
def sh_34 (a0 : Value) (K : Value → World → Prop) (w : World) : Prop :=
 oM Tryd.prog (Go.Op.build 84 #[(0, (.tmp 0))]) 84 [a0] (fun v4_1 w =>
 oM Tryd.prog (Go.Op.box 84 (.tmp 0)) 44 [v4_1] (fun v5_2 w =>
 K v5_2 w) w) w
theorem sh_34_eq (a0 : Value) (K : Value → World → Prop) (w : World) : sh_34 a0 K w = code Tryd.prog (fun _ => 0) 6 (Tryd.f34.body.getD .skip) (slotsAt [a0]) (retK Tryd.prog [.tmp 2] K) w := by kernel_rfl
theorem sh_34_ok {a0 : Value} {K : Value → World → Prop} {w : World} (h : sh_34 a0 K w) : callM Tryd.prog 34 #[a0] K w :=
  calls_of_code (fun _ => 0) (fn := Tryd.f34) (rs := [.tmp 2]) Tryd.func34 rfl rfl (by kernel_rfl) (Nat.le_of_ble_eq_true rfl) ((sh_34_eq a0 K w).mp h)

/-- (*cloak/cloakref01.Reader).Num -/
def sh_35 (a0 : Value) (K : Value → World → Prop) (w : World) : Prop :=
 callM Tryd.prog 75 #[a0, (.int .u8 59)] (fun v4_1 w =>
 K v4_1 w) w
theorem sh_35_eq (a0 : Value) (K : Value → World → Prop) (w : World) : sh_35 a0 K w = code Tryd.prog (fun _ => 0) 5 (Tryd.f35.body.getD .skip) (slotsAt [a0]) (retK Tryd.prog [.tmp 2] K) w := by kernel_rfl
theorem sh_35_ok {a0 : Value} {K : Value → World → Prop} {w : World} (h : sh_35 a0 K w) : callM Tryd.prog 35 #[a0] K w :=
  calls_of_code (fun _ => 0) (fn := Tryd.f35) (rs := [.tmp 2]) Tryd.func35 rfl rfl (by kernel_rfl) (Nat.le_of_ble_eq_true rfl) ((sh_35_eq a0 K w).mp h)

/-- (*cloak/cloakref01.Reader).Int -/
def sh_36 (a0 : Value) (K : Value → World → Prop) (w : World) : Prop :=
 callM Tryd.prog 76 #[a0, (.int .u8 59)] (fun v4_1 w =>
 K v4_1 w) w
theorem sh_36_eq (a0 : Value) (K : Value → World → Prop) (w : World) : sh_36 a0 K w = code Tryd.prog (fun _ => 0) 5 (Tryd.f36.body.getD .skip) (slotsAt [a0]) (retK Tryd.prog [.tmp 2] K) w := by kernel_rfl
theorem sh_36_ok {a0 : Value} {K : Value → World → Prop} {w : World} (h : sh_36 a0 K w) : callM Tryd.prog 36 #[a0] K w :=
  calls_of_code (fun _ => 0) (fn := Tryd.f36) (rs := [.tmp 2]) Tryd.func36 rfl rfl (by kernel_rfl) (Nat.le_of_ble_eq_true rfl) ((sh_36_eq a0 K w).mp h)

/-- (*cloak/cloakref01.Reader).Text -/
def sh_37 (a0 : Value) (K : Value → World → Prop) (w : World) : Prop :=
 callM Tryd.prog 75 #[a0, (.int .u8 58)] (fun v6_1 w =>
 oM Tryd.prog (Go.Op.nilCheck (.tmp 0)) 0 [a0] (fun v8_2 w =>
 oM Tryd.prog (Go.Op.fieldAddr 84 (.tmp 0) 1) 0 [v8_2] (fun v9_3 w =>
 oM Tryd.prog (Go.Op.load 4 (.tmp 0)) 4 [v9_3] (fun v10_4 w =>
 gdM (gd v10_4 false) (pureM v6_1) (fun v12_5 w =>
 gdM (gd v10_4 false) (pureM a0) (fun v13_6 w =>
 gdM (gd v10_4 false) (oM Tryd.prog (Go.Op.nilCheck (.tmp 0)) 0 [v13_6]) (fun v14_7 w =>
 gdM (gd v10_4 false) (oM Tryd.prog (Go.Op.fieldAddr 84 (.tmp 0) 0) 0 [v14_7]) (fun v15_8 w =>
 gdM (gd v10_4 false) (oM Tryd.prog (Go.Op.load 9 (.tmp 0)) 9 [v15_8]) (fun v16_9 w =>
 gdM (gd v10_4 false) (oM Tryd.prog (Go.Op.call (Go.Call.mk (Go.Callee.builtin Go.Builtin.len) #[(.tmp 0)] #[9])) 3 [v16_9]) (fun v17_10 w =>
 gdM (gd v10_4 false) (oM Tryd.prog (Go.Op.binOp Go.BinOp.geq 3 (.tmp 0) (.tmp 1) 3) 4 [v12_5, v17_10]) (fun v18_11 w =>
 oM Tryd.prog (Go.Op.pick (.tmp 0) (.tmp 1) (.tmp 2)) 4 [v10_4, (.bool true), v18_11] (fun v19_12 w =>
 condM v19_12
 (callM Tryd.prog 77 #[a0] (fun v21_13 w =>
 K (.string ⟨#[]⟩) w) w)
 (oM Tryd.prog (Go.Op.nilCheck (.tmp 0)) 0 [a0] (fun v23_14 w =>
 oM Tryd.prog (Go.Op.fieldAddr 84 (.tmp 0) 0) 0 [v23_14] (fun v24_15 w =>
 oM Tryd.prog (Go.Op.load 9 (.tmp 0)) 9 [v24_15] (fun v25_16 w =>
 oM Tryd.prog (Go.Op.slice 9 (.tmp 0) none (some (.tmp 1)) none) 9 [v25_16, v6_1] (fun v27_17 w =>
 oM Tryd.prog (Go.Op.nilCheck (.tmp 0)) 0 [a0] (fun v30_18 w =>
 oM Tryd.prog (Go.Op.fieldAddr 84 (.tmp 0) 0) 0 [v30_18] (fun v31_19 w =>
 oM Tryd.prog (Go.Op.load 9 (.tmp 0)) 9 [v31_19] (fun v32_20 w =>
 oM Tryd.prog (Go.Op.slice 9 (.tmp 0) (some (.tmp 1)) none none) 9 [v32_20, v6_1] (fun v34_21 w =>
 oM Tryd.prog (Go.Op.nilCheck (.tmp 0)) 0 [a0] (fun v35_22 w =>
 oM Tryd.prog (Go.Op.fieldAddr 84 (.tmp 0) 0) 0 [v35_22] (fun v36_23 w =>
 oM Tryd.prog (Go.Op.store 9 (.tmp 0) (.tmp 1)) 0 [v36_23, v34_21] (fun _ w =>
 callM Tryd.prog 78 #[a0, (.int .u8 44)] (fun v38_24 w =>
 oM Tryd.prog (Go.Op.unOp Go.UnOp.not 4 (.tmp 0)) 4 [v38_24] (fun v39_25 w =>
 condM v39_25
 (K (.string ⟨#[]⟩) w)
 (K v27_17 w)) w) w) w) w) w) w) w) w) w) w) w) w) w)) w) w) w) w) w) w) w) w) w) w) w) w
theorem sh_37_eq (a0 : Value) (K : Value → World → Prop) (w : World) : sh_37 a0 K w = code Tryd.prog (fun _ => 0) 41 (Tryd.f37.body.getD .skip) (slotsAt [a0]) (retK Tryd.prog [.tmp 2] K) w := by kernel_rfl
theorem sh_37_ok {a0 : Value} {K : Value → World → Prop} {w : World} (h : sh_37 a0 K w) : callM Tryd.prog 37 #[a0] K w :=
  calls_of_code (fun _ => 0) (fn := Tryd.f37) (rs := [.tmp 2]) Tryd.func37 rfl rfl (by kernel_rfl) (Nat.le_of_ble_eq_true rfl) ((sh_37_eq a0 K w).mp h)

/-- cloak/cloakref01.SameNums -/
def sh_38 (a0 : Value) (a1 : Value) (K : Value → World → Prop) (w : World) : Prop :=
 oM Tryd.prog (Go.Op.call (Go.Call.mk (Go.Callee.builtin Go.Builtin.len) #[(.tmp 0)] #[22])) 3 [a0] (fun v7_1 w =>
 oM Tryd.prog (Go.Op.call (Go.Call.mk (Go.Callee.builtin Go.Builtin.len) #[(.tmp 0)] #[22])) 3 [a1] (fun v9_2 w =>
 oM Tryd.prog (Go.Op.binOp Go.BinOp.neq 3 (.tmp 0) (.tmp 1) 3) 4 [v7_1, v9_2] (fun v10_3 w =>
 condM v10_3
 (K (.bool false) w)
 (loopM [(.bool false), (.int .i64 0)] w (fun J_4 m_5 l_6 u_l_6 w0_l_6 => (fun w => (
 oM Tryd.prog (Go.Op.call (Go.Call.mk (Go.Callee.builtin Go.Builtin.len) #[(.tmp 0)] #[22])) 3 [a0] (fun v13_7 w =>
 oM Tryd.prog (Go.Op.binOp Go.BinOp.lss 3 (.tmp 0) (.tmp 1) 3) 4 [(l_6.getD 1 undef), v13_7] (fun v14_8 w =>
 condM v14_8
 (quietM w (fun C_9 => (oQ Tryd.prog (Go.Op.indexAddr 22 (.tmp 0) (.tmp 1)) 0 [a0, (l_6.getD 1 undef)] C_9 (fun v19_10 =>
 oQ Tryd.prog (Go.Op.load 3 (.tmp 0)) 3 [v19_10] C_9 (fun v20_11 =>
 oQ Tryd.prog (Go.Op.indexAddr 22 (.tmp 0) (.tmp 1)) 0 [a1, (l_6.getD 1 undef)] C_9 (fun v23_12 =>
 oQ Tryd.prog (Go.Op.load 3 (.tmp 0)) 3 [v23_12] C_9 (fun v24_13 =>
 oQ Tryd.prog (Go.Op.binOp Go.BinOp.neq 3 (.tmp 0) (.tmp 1) 3) 4 [v20_11, v24_13] C_9 (fun v25_14 =>
 ∀ w, C_9 w → (condM v25_14
 (K (.bool false) w)
 (oM Tryd.prog (Go.Op.binOp Go.BinOp.add 3 (.tmp 0) (.tmp 1) 3) 3 [(l_6.getD 1 undef), (.int .i64 1)] (fun v16_15 w =>
 J_4 [(l_6.getD 0 undef), v16_15] w ∧ m_5 [(l_6.getD 0 undef), v16_15] w < m_5 l_6 w0_l_6) w))))))))))
 (K (.bool true) w)) w) w)) w0_l_6))) w) w) w
theorem sh_38_eq (a0 : Value) (a1 : Value) (K : Value → World → Prop) (w : World) : sh_38 a0 a1 K w = code Tryd.prog (fun _ => 0) 26 (Tryd.f38.body.getD .skip) (slotsAt [a0, a1]) (retK Tryd.prog [.tmp 4] K) w := by kernel_rfl
theorem sh_38_ok {a0 a1 : Value} {K : Value → World → Prop} {w : World} (h : sh_38 a0 a1 K w) : callM Tryd.prog 38 #[a0, a1] K w :=
  calls_of_code (fun _ => 0) (fn := Tryd.f38) (rs := [.tmp 4]) Tryd.func38 rfl rfl (by kernel_rfl) (Nat.le_of_ble_eq_true rfl) ((sh_38_eq a0 a1 K w).mp h)

/-- (*cloak/cloakref01.Reader).Nums -/
def sh_39 (a0 : Value) (K : Value → World → Prop) (w : World) : Prop :=
 callM Tryd.prog 75 #[a0, (.int .u8 91)] (fun v7_1 w =>
 loopM [(.slice none 0 0), (.int .i64 0)] w (fun J_2 m_3 l_4 u_l_4 w0_l_4 => (fun w => (
 oM Tryd.prog (Go.Op.binOp Go.BinOp.lss 3 (.tmp 0) (.tmp 1) 3) 4 [(l_4.getD 1 undef), v7_1] (fun v10_5 w =>
 gdM (gd v10_5 true) (pureM a0) (fun v12_6 w =>
 gdM (gd v10_5 true) (oM Tryd.prog (Go.Op.nilCheck (.tmp 0)) 0 [v12_6]) (fun v13_7 w =>
 gdM (gd v10_5 true) (oM Tryd.prog (Go.Op.fieldAddr 84 (.tmp 0) 1) 0 [v13_7]) (fun v14_8 w =>
 gdM (gd v10_5 true) (oM Tryd.prog (Go.Op.load 4 (.tmp 0)) 4 [v14_8]) (fun v15_9 w =>
 gdM (gd v10_5 true) (oM Tryd.prog (Go.Op.unOp Go.UnOp.not 4 (.tmp 0)) 4 [v15_9]) (fun v16_10 w =>
 oM Tryd.prog (Go.Op.pick (.tmp 0) (.tmp 1) (.tmp 2)) 4 [v10_5, v16_10, (.bool false)] (fun v17_11 w =>
 condM v17_11
 (callM Tryd.prog 36 #[a0] (fun v22_12 w =>
 oM Tryd.prog (Go.Op.buildSlice 22 1 #[(0, (.tmp 0))]) 22 [v22_12] (fun v23_13 w =>
 oM Tryd.prog (Go.Op.call (Go.Call.mk (Go.Callee.builtin Go.Builtin.append) #[(.tmp 0), (.tmp 1)] #[22, 22])) 22 [(l_4.getD 0 undef), v23_13] (fun v24_14 w =>
 oM Tryd.prog (Go.Op.binOp Go.BinOp.add 3 (.tmp 0) (.tmp 1) 3) 3 [(l_4.getD 1 undef), (.int .i64 1)] (fun v19_15 w =>
 J_2 [v24_14, v19_15] w ∧ m_3 [v24_14, v19_15] w < m_3 l_4 w0_l_4) w) w) w) w)
 (oM Tryd.prog (Go.Op.nilCheck (.tmp 0)) 0 [a0] (fun v26_16 w =>
 oM Tryd.prog (Go.Op.fieldAddr 84 (.tmp 0) 1) 0 [v26_16] (fun v27_17 w =>
 oM Tryd.prog (Go.Op.load 4 (.tmp 0)) 4 [v27_17] (fun v28_18 w =>
 gdM (gd v28_18 false) (pureM a0) (fun v30_19 w =>
 gdM (gd v28_18 false) (callM Tryd.prog 78 #[v30_19, (.int .u8 93)]) (fun v31_20 w =>
 gdM (gd v28_18 false) (oM Tryd.prog (Go.Op.unOp Go.UnOp.not 4 (.tmp 0)) 4 [v31_20]) (fun v32_21 w =>
 oM Tryd.prog (Go.Op.pick (.tmp 0) (.tmp 1) (.tmp 2)) 4 [v28_18, (.bool true), v32_21] (fun v33_22 w =>
 condM v33_22
 (K (.slice none 0 0) w)
 (K (l_4.getD 0 undef) w)) w) w) w) w) w) w) w)) w) w) w) w) w) w) w)) w0_l_4)) w
theorem sh_39_eq (a0 : Value) (K : Value → World → Prop) (w : World) : sh_39 a0 K w = code Tryd.prog (fun _ => 0) 35 (Tryd.f39.body.getD .skip) (slotsAt [a0]) (retK Tryd.prog [.tmp 2] K) w := by kernel_rfl
theorem sh_39_ok {a0 : Value} {K : Value → World → Prop} {w : World} (h : sh_39 a0 K w) : callM Tryd.prog 39 #[a0] K w :=
  calls_of_code (fun _ => 0) (fn := Tryd.f39) (rs := [.tmp 2]) Tryd.func39 rfl rfl (by kernel_rfl) (Nat.le_of_ble_eq_true rfl) ((sh_39_eq a0 K w).mp h)

/-- cloak/cloakref01.SameTexts -/
def sh_40 (a0 : Value) (a1 : Value) (K : Value → World → Prop) (w : World) : Prop :=
 oM Tryd.prog (Go.Op.call (Go.Call.mk (Go.Callee.builtin Go.Builtin.len) #[(.tmp 0)] #[23])) 3 [a0] (fun v7_1 w =>
 oM Tryd.prog (Go.Op.call (Go.Call.mk (Go.Callee.builtin Go.Builtin.len) #[(.tmp 0)] #[23])) 3 [a1] (fun v9_2 w =>
 oM Tryd.prog (Go.Op.binOp Go.BinOp.neq 3 (.tmp 0) (.tmp 1) 3) 4 [v7_1, v9_2] (fun v10_3 w =>
 condM v10_3
 (K (.bool false) w)
 (loopM [(.bool false), (.int .i64 0)] w (fun J_4 m_5 l_6 u_l_6 w0_l_6 => (fun w => (
 oM Tryd.prog (Go.Op.call (Go.Call.mk (Go.Callee.builtin Go.Builtin.len) #[(.tmp 0)] #[23])) 3 [a0] (fun v13_7 w =>
 oM Tryd.prog (Go.Op.binOp Go.BinOp.lss 3 (.tmp 0) (.tmp 1) 3) 4 [(l_6.getD 1 undef), v13_7] (fun v14_8 w =>
 condM v14_8
 (quietM w (fun C_9 => (oQ Tryd.prog (Go.Op.indexAddr 23 (.tmp 0) (.tmp 1)) 0 [a0, (l_6.getD 1 undef)] C_9 (fun v19_10 =>
 oQ Tryd.prog (Go.Op.load 9 (.tmp 0)) 9 [v19_10] C_9 (fun v20_11 =>
 oQ Tryd.prog (Go.Op.indexAddr 23 (.tmp 0) (.tmp 1)) 0 [a1, (l_6.getD 1 undef)] C_9 (fun v23_12 =>
 oQ Tryd.prog (Go.Op.load 9 (.tmp 0)) 9 [v23_12] C_9 (fun v24_13 =>
 oQ Tryd.prog (Go.Op.binOp Go.BinOp.neq 9 (.tmp 0) (.tmp 1) 9) 4 [v20_11, v24_13] C_9 (fun v25_14 =>
 ∀ w, C_9 w → (condM v25_14
 (K (.bool false) w)
 (oM Tryd.prog (Go.Op.binOp Go.BinOp.add 3 (.tmp 0) (.tmp 1) 3) 3 [(l_6.getD 1 undef), (.int .i64 1)] (fun v16_15 w =>
 J_4 [(l_6.getD 0 undef), v16_15] w ∧ m_5 [(l_6.getD 0 undef), v16_15] w < m_5 l_6 w0_l_6) w))))))))))
 (K (.bool true) w)) w) w)) w0_l_6))) w) w) w
theorem sh_40_eq (a0 : Value) (a1 : Value) (K : Value → World → Prop) (w : World) : sh_40 a0 a1 K w = code Tryd.prog (fun _ => 0) 26 (Tryd.f40.body.getD .skip) (slotsAt [a0, a1]) (retK Tryd.prog [.tmp 4] K) w := by kernel_rfl
theorem sh_40_ok {a0 a1 : Value} {K : Value → World → Prop} {w : World} (h : sh_40 a0 a1 K w) : callM Tryd.prog 40 #[a0, a1] K w :=
  calls_of_code (fun _ => 0) (fn := Tryd.f40) (rs := [.tmp 4]) Tryd.func40 rfl rfl (by kernel_rfl) (Nat.le_of_ble_eq_true rfl) ((sh_40_eq a0 a1 K w).mp h)

/-- (*cloak/cloakref01.Reader).Texts -/
def sh_41 (a0 : Value) (K : Value → World → Prop) (w : World) : Prop :=
 callM Tryd.prog 75 #[a0, (.int .u8 91)] (fun v7_1 w =>
 loopM [(.slice none 0 0), (.int .i64 0)] w (fun J_2 m_3 l_4 u_l_4 w0_l_4 => (fun w => (
 oM Tryd.prog (Go.Op.binOp Go.BinOp.lss 3 (.tmp 0) (.tmp 1) 3) 4 [(l_4.getD 1 undef), v7_1] (fun v10_5 w =>
 gdM (gd v10_5 true) (pureM a0) (fun v12_6 w =>
 gdM (gd v10_5 true) (oM Tryd.prog (Go.Op.nilCheck (.tmp 0)) 0 [v12_6]) (fun v13_7 w =>
 gdM (gd v10_5 true) (oM Tryd.prog (Go.Op.fieldAddr 84 (.tmp 0) 1) 0 [v13_7]) (fun v14_8 w =>
 gdM (gd v10_5 true) (oM Tryd.prog (Go.Op.load 4 (.tmp 0)) 4 [v14_8]) (fun v15_9 w =>
 gdM (gd v10_5 true) (oM Tryd.prog (Go.Op.unOp Go.UnOp.not 4 (.tmp 0)) 4 [v15_9]) (fun v16_10 w =>
 oM Tryd.prog (Go.Op.pick (.tmp 0) (.tmp 1) (.tmp 2)) 4 [v10_5, v16_10, (.bool false)] (fun v17_11 w =>
 condM v17_11
 (callM Tryd.prog 37 #[a0] (fun v22_12 w =>
 oM Tryd.prog (Go.Op.buildSlice 23 1 #[(0, (.tmp 0))]) 23 [v22_12] (fun v23_13 w =>
 oM Tryd.prog (Go.Op.call (Go.Call.mk (Go.Callee.builtin Go.Builtin.append) #[(.tmp 0), (.tmp 1)] #[23, 23])) 23 [(l_4.getD 0 undef), v23_13] (fun v24_14 w =>
 oM Tryd.prog (Go.Op.binOp Go.BinOp.add 3 (.tmp 0) (.tmp 1) 3) 3 [(l_4.getD 1 undef), (.int .i64 1)] (fun v19_15 w =>
 J_2 [v24_14, v19_15] w ∧ m_3 [v24_14, v19_15] w < m_3 l_4 w0_l_4) w) w) w) w)
 (oM Tryd.prog (Go.Op.nilCheck (.tmp 0)) 0 [a0] (fun v26_16 w =>
 oM Tryd.prog (Go.Op.fieldAddr 84 (.tmp 0) 1) 0 [v26_16] (fun v27_17 w =>
 oM Tryd.prog (Go.Op.load 4 (.tmp 0)) 4 [v27_17] (fun v28_18 w =>
 gdM (gd v28_18 false) (pureM a0) (fun v30_19 w =>
 gdM (gd v28_18 false) (callM Tryd.prog 78 #[v30_19, (.int .u8 93)]) (fun v31_20 w =>
 gdM (gd v28_18 false) (oM Tryd.prog (Go.Op.unOp Go.UnOp.not 4 (.tmp 0)) 4 [v31_20]) (fun v32_21 w =>
 oM Tryd.prog (Go.Op.pick (.tmp 0) (.tmp 1) (.tmp 2)) 4 [v28_18, (.bool true), v32_21] (fun v33_22 w =>
 condM v33_22
 (K (.slice none 0 0) w)
 (K (l_4.getD 0 undef) w)) w) w) w) w) w) w) w)) w) w) w) w) w) w) w)) w0_l_4)) w
theorem sh_41_eq (a0 : Value) (K : Value → World → Prop) (w : World) : sh_41 a0 K w = code Tryd.prog (fun _ => 0) 35 (Tryd.f41.body.getD .skip) (slotsAt [a0]) (retK Tryd.prog [.tmp 2] K) w := by kernel_rfl
theorem sh_41_ok {a0 : Value} {K : Value → World → Prop} {w : World} (h : sh_41 a0 K w) : callM Tryd.prog 41 #[a0] K w :=
  calls_of_code (fun _ => 0) (fn := Tryd.f41) (rs := [.tmp 2]) Tryd.func41 rfl rfl (by kernel_rfl) (Nat.le_of_ble_eq_true rfl) ((sh_41_eq a0 K w).mp h)

/-- (*cloak/cloakref01.Reader).Left -/
def sh_42 (a0 : Value) (K : Value → World → Prop) (w : World) : Prop :=
 oM Tryd.prog (Go.Op.nilCheck (.tmp 0)) 0 [a0] (fun v4_1 w =>
 oM Tryd.prog (Go.Op.fieldAddr 84 (.tmp 0) 0) 0 [v4_1] (fun v5_2 w =>
 oM Tryd.prog (Go.Op.load 9 (.tmp 0)) 9 [v5_2] (fun v6_3 w =>
 oM Tryd.prog (Go.Op.call (Go.Call.mk (Go.Callee.builtin Go.Builtin.len) #[(.tmp 0)] #[9])) 3 [v6_3] (fun v7_4 w =>
 K v7_4 w) w) w) w) w
theorem sh_42_eq (a0 : Value) (K : Value → World → Prop) (w : World) : sh_42 a0 K w = code Tryd.prog (fun _ => 0) 8 (Tryd.f42.body.getD .skip) (slotsAt [a0]) (retK Tryd.prog [.tmp 2] K) w := by kernel_rfl
theorem sh_42_ok {a0 : Value} {K : Value → World → Prop} {w : World} (h : sh_42 a0 K w) : callM Tryd.prog 42 #[a0] K w :=
  calls_of_code (fun _ => 0) (fn := Tryd.f42) (rs := [.tmp 2]) Tryd.func42 rfl rfl (by kernel_rfl) (Nat.le_of_ble_eq_true rfl) ((sh_42_eq a0 K w).mp h)

/-- (*cloak/cloakref01.Reader).Done -/
def sh_43 (a0 : Value) (K : Value → World → Prop) (w : World) : Prop :=
 oM Tryd.prog (Go.Op.nilCheck (.tmp 0)) 0 [a0] (fun v4_1 w =>
 oM Tryd.prog (Go.Op.fieldAddr 84 (.tmp 0) 1) 0 [v4_1] (fun v5_2 w =>
 oM Tryd.prog (Go.Op.load 4 (.tmp 0)) 4 [v5_2] (fun v6_3 w =>
 oM Tryd.prog (Go.Op.unOp Go.UnOp.not 4 (.tmp 0)) 4 [v6_3] (fun v7_4 w =>
 gdM (gd v7_4 true) (pureM a0) (fun v9_5 w =>
 gdM (gd v7_4 true) (oM Tryd.prog (Go.Op.nilCheck (.tmp 0)) 0 [v9_5]) (fun v10_6 w =>
 gdM (gd v7_4 true) (oM Tryd.prog (Go.Op.fieldAddr 84 (.tmp 0) 0) 0 [v10_6]) (fun v11_7 w =>
 gdM (gd v7_4 true) (oM Tryd.prog (Go.Op.load 9 (.tmp 0)) 9 [v11_7]) (fun v12_8 w =>
 gdM (gd v7_4 true) (oM Tryd.prog (Go.Op.binOp Go.BinOp.eql 9 (.tmp 0) (.const (.string ⟨#[]⟩)) 9) 4 [v12_8]) (fun v13_9 w =>
 oM Tryd.prog (Go.Op.pick (.tmp 0) (.tmp 1) (.tmp 2)) 4 [v7_4, v13_9, (.bool false)] (fun v14_10 w =>
 K v14_10 w) w) w) w) w) w) w) w) w) w) w
theorem sh_43_eq (a0 : Value) (K : Value → World → Prop) (w : World) : sh_43 a0 K w = code Tryd.prog (fun _ => 0) 15 (Tryd.f43.body.getD .skip) (slotsAt [a0]) (retK Tryd.prog [.tmp 2] K) w := by kernel_rfl
theorem sh_43_ok {a0 : Value} {K : Value → World → Prop} {w : World} (h : sh_43 a0 K w) : callM Tryd.prog 43 #[a0] K w :=
  calls_of_code (fun _ => 0) (fn := Tryd.f43) (rs := [.tmp 2]) Tryd.func43 rfl rfl (by kernel_rfl) (Nat.le_of_ble_eq_true rfl) ((sh_43_eq a0 K w).mp h)

/-- (*cloak/base.Reader).Rest -/
def sh_44 (a0 : Value) (K : Value → World → Prop) (w : World) : Prop :=
 oM Tryd.prog (Go.Op.nilCheck (.tmp 0)) 0 [a0] (fun v5_1 w =>
 oM Tryd.prog (Go.Op.fieldAddr 78 (.tmp 0) 0) 0 [v5_1] (fun v6_2 w =>
 oM Tryd.prog (Go.Op.load 9 (.tmp 0)) 9 [v6_2] (fun v7_3 w =>
 oM Tryd.prog (Go.Op.nilCheck (.tmp 0)) 0 [a0] (fun v9_4 w =>
 oM Tryd.prog (Go.Op.fieldAddr 78 (.tmp 0) 0) 0 [v9_4] (fun v10_5 w =>
 oM Tryd.prog (Go.Op.store 9 (.tmp 0) (.tmp 1)) 0 [v10_5, (.string ⟨#[]⟩)] (fun _ w =>
 K v7_3 w) w) w) w) w) w) w
theorem sh_44_eq (a0 : Value) (K : Value → World → Prop) (w : World) : sh_44 a0 K w = code Tryd.prog (fun _ => 0) 12 (Tryd.f44.body.getD .skip) (slotsAt [a0]) (retK Tryd.prog [.tmp 2] K) w := by kernel_rfl
theorem sh_44_ok {a0 : Value} {K : Value → World → Prop} {w : World} (h : sh_44 a0 K w) : callM Tryd.prog 44 #[a0] K w :=
  calls_of_code (fun _ => 0) (fn := Tryd.f44) (rs := [.tmp 2]) Tryd.func44 rfl rfl (by kernel_rfl) (Nat.le_of_ble_eq_true rfl) ((sh_44_eq a0 K w).mp h)

/-- (*cloak/cloakref01.Reader).Tail -/
def sh_45 (a0 : Value) (K : Value → World → Prop) (w : World) : Prop :=
 oM Tryd.prog (Go.Op.nilCheck (.tmp 0)) 0 [a0] (fun v5_1 w =>
 oM Tryd.prog (Go.Op.fieldAddr 84 (.tmp 0) 0) 0 [v5_1] (fun v6_2 w =>
 oM Tryd.prog (Go.Op.load 9 (.tmp 0)) 9 [v6_2] (fun v7_3 w =>
 oM Tryd.prog (Go.Op.nilCheck (.tmp 0)) 0 [a0] (fun v9_4 w =>
 oM Tryd.prog (Go.Op.fieldAddr 84 (.tmp 0) 0) 0 [v9_4] (fun v10_5 w =>
 oM Tryd.prog (Go.Op.store 9 (.tmp 0) (.tmp 1)) 0 [v10_5, (.string ⟨#[]⟩)] (fun _ w =>
 K v7_3 w) w) w) w) w) w) w
theorem sh_45_eq (a0 : Value) (K : Value → World → Prop) (w : World) : sh_45 a0 K w = code Tryd.prog (fun _ => 0) 12 (Tryd.f45.body.getD .skip) (slotsAt [a0]) (retK Tryd.prog [.tmp 2] K) w := by kernel_rfl
theorem sh_45_ok {a0 : Value} {K : Value → World → Prop} {w : World} (h : sh_45 a0 K w) : callM Tryd.prog 45 #[a0] K w :=
  calls_of_code (fun _ => 0) (fn := Tryd.f45) (rs := [.tmp 2]) Tryd.func45 rfl rfl (by kernel_rfl) (Nat.le_of_ble_eq_true rfl) ((sh_45_eq a0 K w).mp h)

/-- cloak/cloakref01.digits -/
def sh_66 (a0 : Value) (K : Value → World → Prop) (w : World) : Prop :=
 oM Tryd.prog (Go.Op.binOp Go.BinOp.rem 3 (.tmp 0) (.tmp 1) 3) 3 [a0, (.int .i64 10)] (fun v5_1 w =>
 oM Tryd.prog (Go.Op.binOp Go.BinOp.sub 3 (.tmp 0) (.tmp 1) 3) 3 [(.int .i64 48), v5_1] (fun v6_2 w =>
 oM Tryd.prog (Go.Op.convert 3 5 (.tmp 0)) 5 [v6_2] (fun v7_3 w =>
 oM Tryd.prog (Go.Op.buildSlice 61 1 #[(0, (.tmp 0))]) 61 [v7_3] (fun v8_4 w =>
 oM Tryd.prog (Go.Op.convert 61 9 (.tmp 0)) 9 [v8_4] (fun v9_5 w =>
 oM Tryd.prog (Go.Op.binOp Go.BinOp.gtr 3 (.tmp 0) (.tmp 1) 3) 4 [a0, (.int .i64 (-10))] (fun v11_6 w =>
 condM v11_6
 (K v9_5 w)
 (oM Tryd.prog (Go.Op.binOp Go.BinOp.quo 3 (.tmp 0) (.tmp 1) 3) 3 [a0, (.int .i64 10)] (fun v14_7 w =>
 callM Tryd.prog 66 #[v14_7] (fun v15_8 w =>
 oM Tryd.prog (Go.Op.binOp Go.BinOp.add 9 (.tmp 0) (.tmp 1) 9) 9 [v15_8, v9_5] (fun v17_9 w =>
 K v17_9 w) w) w) w)) w) w) w) w) w) w
theorem sh_66_eq (a0 : Value) (K : Value → World → Prop) (w : World) : sh_66 a0 K w = code Tryd.prog (fun _ => 0) 18 (Tryd.f66.body.getD .skip) (slotsAt [a0]) (retK Tryd.prog [.tmp 2] K) w := by kernel_rfl
theorem sh_66_ok {a0 : Value} {K : Value → World → Prop} {w : World} (h : sh_66 a0 K w) : callM Tryd.prog 66 #[a0] K w :=
  calls_of_code (fun _ => 0) (fn := Tryd.f66) (rs := [.tmp 2]) Tryd.func66 rfl rfl (by kernel_rfl) (Nat.le_of_ble_eq_true rfl) ((sh_66_eq a0 K w).mp h)

/-- cloak/base.encoded[int] -/
def sh_67 (a0 : Value) (a1 : Value) (K : Value → World → Prop) (w : World) : Prop :=
 oM Tryd.prog (Go.Op.alloc 107) 0 [] (fun v5_1 w =>
 oM Tryd.prog (Go.Op.call (Go.Call.mk (Go.Callee.builtin Go.Builtin.len) #[(.tmp 0)] #[22])) 3 [a0] (fun v9_2 w =>
 callM Tryd.prog 65 #[v9_2] (fun v10_3 w =>
 oM Tryd.prog (Go.Op.binOp Go.BinOp.add 9 (.tmp 0) (.tmp 1) 9) 9 [v10_3, (.string ⟨#[91]⟩)] (fun v11_4 w =>
 callM Tryd.prog 90 #[v5_1, v11_4] (fun v12_5 w =>
 oM Tryd.prog (Go.Op.call (Go.Call.mk (Go.Callee.builtin Go.Builtin.len) #[(.tmp 0)] #[22])) 3 [a0] (fun v14_6 w =>
 loopM [undef, (.int .i64 0)] w (fun J_7 m_8 l_9 u_l_9 w0_l_9 => (fun w => (
 oM Tryd.prog (Go.Op.binOp Go.BinOp.lss 3 (.tmp 0) (.tmp 1) 3) 0 [(l_9.getD 1 undef), v14_6] (fun v16_10 w =>
 condM v16_10
 (oM Tryd.prog (Go.Op.indexAddr 22 (.tmp 0) (.tmp 1)) 0 [a0, (l_9.getD 1 undef)] (fun v17_11 w =>
 oM Tryd.prog (Go.Op.load 3 (.tmp 0)) 3 [v17_11] (fun v18_12 w =>
 oM Tryd.prog (Go.Op.call (Go.Call.mk (Go.Callee.value (.tmp 0)) #[(.tmp 1)] #[3])) 9 [a1, v18_12] (fun v21_13 w =>
 callM Tryd.prog 90 #[v5_1, v21_13] (fun v22_14 w =>
 oM Tryd.prog (Go.Op.binOp Go.BinOp.add 3 (.tmp 0) (.tmp 1) 3) 3 [(l_9.getD 1 undef), (.int .i64 1)] (fun v23_15 w =>
 J_7 [v18_12, v23_15] w ∧ m_8 [v18_12, v23_15] w < m_8 l_9 w0_l_9) w) w) w) w) w)
 (callM Tryd.prog 91 #[v5_1] (fun v24_16 w =>
 oM Tryd.prog (Go.Op.binOp Go.BinOp.add 9 (.tmp 0) (.tmp 1) 9) 9 [v24_16, (.string ⟨#[93]⟩)] (fun v25_17 w =>
 K v25_17 w) w) w)) w)) w0_l_9)) w) w) w) w) w) w
theorem sh_67_eq (a0 : Value) (a1 : Value) (K : Value → World → Prop) (w : World) : sh_67 a0 a1 K w = code Tryd.prog (fun _ => 0) 26 (Tryd.f67.body.getD .skip) (slotsAt [a0, a1]) (retK Tryd.prog [.tmp 4] K) w := by kernel_rfl
theorem sh_67_ok {a0 a1 : Value} {K : Value → World → Prop} {w : World} (h : sh_67 a0 a1 K w) : callM Tryd.prog 67 #[a0, a1] K w :=
  calls_of_code (fun _ => 0) (fn := Tryd.f67) (rs := [.tmp 4]) Tryd.func67 rfl rfl (by kernel_rfl) (Nat.le_of_ble_eq_true rfl) ((sh_67_eq a0 a1 K w).mp h)

/-- cloak/base.encoded[string] -/
def sh_68 (a0 : Value) (a1 : Value) (K : Value → World → Prop) (w : World) : Prop :=
 oM Tryd.prog (Go.Op.alloc 107) 0 [] (fun v5_1 w =>
 oM Tryd.prog (Go.Op.call (Go.Call.mk (Go.Callee.builtin Go.Builtin.len) #[(.tmp 0)] #[23])) 3 [a0] (fun v9_2 w =>
 callM Tryd.prog 65 #[v9_2] (fun v10_3 w =>
 oM Tryd.prog (Go.Op.binOp Go.BinOp.add 9 (.tmp 0) (.tmp 1) 9) 9 [v10_3, (.string ⟨#[91]⟩)] (fun v11_4 w =>
 callM Tryd.prog 90 #[v5_1, v11_4] (fun v12_5 w =>
 oM Tryd.prog (Go.Op.call (Go.Call.mk (Go.Callee.builtin Go.Builtin.len) #[(.tmp 0)] #[23])) 3 [a0] (fun v14_6 w =>
 loopM [undef, (.int .i64 0)] w (fun J_7 m_8 l_9 u_l_9 w0_l_9 => (fun w => (
 oM Tryd.prog (Go.Op.binOp Go.BinOp.lss 3 (.tmp 0) (.tmp 1) 3) 0 [(l_9.getD 1 undef), v14_6] (fun v16_10 w =>
 condM v16_10
 (oM Tryd.prog (Go.Op.indexAddr 23 (.tmp 0) (.tmp 1)) 0 [a0, (l_9.getD 1 undef)] (fun v17_11 w =>
 oM Tryd.prog (Go.Op.load 9 (.tmp 0)) 9 [v17_11] (fun v18_12 w =>
 oM Tryd.prog (Go.Op.call (Go.Call.mk (Go.Callee.value (.tmp 0)) #[(.tmp 1)] #[9])) 9 [a1, v18_12] (fun v21_13 w =>
 callM Tryd.prog 90 #[v5_1, v21_13] (fun v22_14 w =>
 oM Tryd.prog (Go.Op.binOp Go.BinOp.add 3 (.tmp 0) (.tmp 1) 3) 3 [(l_9.getD 1 undef), (.int .i64 1)] (fun v23_15 w =>
 J_7 [v18_12, v23_15] w ∧ m_8 [v18_12, v23_15] w < m_8 l_9 w0_l_9) w) w) w) w) w)
 (callM Tryd.prog 91 #[v5_1] (fun v24_16 w =>
 oM Tryd.prog (Go.Op.binOp Go.BinOp.add 9 (.tmp 0) (.tmp 1) 9) 9 [v24_16, (.string ⟨#[93]⟩)] (fun v25_17 w =>
 K v25_17 w) w) w)) w)) w0_l_9)) w) w) w) w) w) w
theorem sh_68_eq (a0 : Value) (a1 : Value) (K : Value → World → Prop) (w : World) : sh_68 a0 a1 K w = code Tryd.prog (fun _ => 0) 26 (Tryd.f68.body.getD .skip) (slotsAt [a0, a1]) (retK Tryd.prog [.tmp 4] K) w := by kernel_rfl
theorem sh_68_ok {a0 a1 : Value} {K : Value → World → Prop} {w : World} (h : sh_68 a0 a1 K w) : callM Tryd.prog 68 #[a0, a1] K w :=
  calls_of_code (fun _ => 0) (fn := Tryd.f68) (rs := [.tmp 4]) Tryd.func68 rfl rfl (by kernel_rfl) (Nat.le_of_ble_eq_true rfl) ((sh_68_eq a0 a1 K w).mp h)

/-- (*cloak/base.Reader).number -/
def sh_69 (a0 : Value) (a1 : Value) (a2 : Value) (K : Value → World → Prop) (w : World) : Prop :=
 quietM w (fun C_1 => (oQ Tryd.prog (Go.Op.nilCheck (.tmp 0)) 0 [a0] C_1 (fun v12_2 =>
 oQ Tryd.prog (Go.Op.fieldAddr 78 (.tmp 0) 0) 0 [v12_2] C_1 (fun v13_3 =>
 oQ Tryd.prog (Go.Op.load 9 (.tmp 0)) 9 [v13_3] C_1 (fun v14_4 =>
 oQ Tryd.prog (Go.Op.nilCheck (.tmp 0)) 0 [a0] C_1 (fun v16_5 =>
 oQ Tryd.prog (Go.Op.fieldAddr 78 (.tmp 0) 0) 0 [v16_5] C_1 (fun v17_6 =>
 oQ Tryd.prog (Go.Op.load 9 (.tmp 0)) 9 [v17_6] C_1 (fun v18_7 =>
 oQ Tryd.prog (Go.Op.call (Go.Call.mk (Go.Callee.builtin Go.Builtin.len) #[(.tmp 0)] #[9])) 3 [v18_7] C_1 (fun v19_8 =>
 oQ Tryd.prog (Go.Op.call (Go.Call.mk (Go.Callee.builtin Go.Builtin.min) #[(.tmp 0), (.tmp 1)] #[3, 3])) 3 [v19_8, (.int .i64 21)] C_1 (fun v20_9 =>
 oQ Tryd.prog (Go.Op.slice 9 (.tmp 0) none (some (.tmp 1)) none) 9 [v14_4, v20_9] C_1 (fun v21_10 =>
 ∀ w, C_1 w → (callM Tryd.prog 92 #[v21_10, a1] (fun v24_11 w =>
 oM Tryd.prog (Go.Op.binOp Go.BinOp.lss 3 (.tmp 0) (.tmp 1) 3) 4 [v24_11, (.int .i64 0)] (fun v26_12 w =>
 condM v26_12
 (callM Tryd.prog 70 #[a0] (fun v28_13 w =>
 K (.int .i64 0) w) w)
 (oM Tryd.prog (Go.Op.slice 9 (.tmp 0) none (some (.tmp 1)) none) 9 [v21_10, v24_11] (fun v32_14 w =>
 callM Tryd.prog 93 #[v32_14] (fun v33_15 w =>
 oM Tryd.prog (Go.Op.extract (.tmp 0) 0) 3 [v33_15] (fun v34_16 w =>
 oM Tryd.prog (Go.Op.extract (.tmp 0) 1) 109 [v33_15] (fun v35_17 w =>
 quietM w (fun C_18 => (oQ Tryd.prog (Go.Op.binOp Go.BinOp.neq 109 (.tmp 0) (.const .nilIface) 109) 4 [v35_17] C_18 (fun v37_19 =>
 gdQ (gd v37_19 false) (pureQ v34_16) C_18 (fun v39_20 =>
 gdQ (gd v37_19 false) (callQ Tryd.prog 65 #[v39_20]) C_18 (fun v40_21 =>
 gdQ (gd v37_19 false) (pureQ v21_10) C_18 (fun v41_22 =>
 gdQ (gd v37_19 false) (pureQ v24_11) C_18 (fun v42_23 =>
 gdQ (gd v37_19 false) (oQ Tryd.prog (Go.Op.slice 9 (.tmp 0) none (some (.tmp 1)) none) 9 [v41_22, v42_23]) C_18 (fun v43_24 =>
 gdQ (gd v37_19 false) (oQ Tryd.prog (Go.Op.binOp Go.BinOp.neq 9 (.tmp 0) (.tmp 1) 9) 4 [v40_21, v43_24]) C_18 (fun v44_25 =>
 oQ Tryd.prog (Go.Op.pick (.tmp 0) (.tmp 1) (.tmp 2)) 4 [v37_19, (.bool true), v44_25] C_18 (fun v45_26 =>
 gdQ (gd v45_26 false) (pureQ v34_16) C_18 (fun v47_27 =>
 gdQ (gd v45_26 false) (pureQ a2) C_18 (fun v48_28 =>
 gdQ (gd v45_26 false) (oQ Tryd.prog (Go.Op.binOp Go.BinOp.lss 3 (.tmp 0) (.tmp 1) 3) 4 [v47_27, v48_28]) C_18 (fun v49_29 =>
 oQ Tryd.prog (Go.Op.pick (.tmp 0) (.tmp 1) (.tmp 2)) 4 [v45_26, (.bool true), v49_29] C_18 (fun v50_30 =>
 ∀ w, C_18 w → (condM v50_30
 (callM Tryd.prog 70 #[a0] (fun v52_31 w =>
 K (.int .i64 0) w) w)
 (oM Tryd.prog (Go.Op.nilCheck (.tmp 0)) 0 [a0] (fun v55_32 w =>
 oM Tryd.prog (Go.Op.fieldAddr 78 (.tmp 0) 0) 0 [v55_32] (fun v56_33 w =>
 oM Tryd.prog (Go.Op.load 9 (.tmp 0)) 9 [v56_33] (fun v57_34 w =>
 oM Tryd.prog (Go.Op.binOp Go.BinOp.add 3 (.tmp 0) (.tmp 1) 3) 3 [v24_11, (.int .i64 1)] (fun v59_35 w =>
 oM Tryd.prog (Go.Op.slice 9 (.tmp 0) (some (.tmp 1)) none none) 9 [v57_34, v59_35] (fun v60_36 w =>
 oM Tryd.prog (Go.Op.nilCheck (.tmp 0)) 0 [a0] (fun v61_37 w =>
 oM Tryd.prog (Go.Op.fieldAddr 78 (.tmp 0) 0) 0 [v61_37] (fun v62_38 w =>
 oM Tryd.prog (Go.Op.store 9 (.tmp 0) (.tmp 1)) 0 [v62_38, v60_36] (fun _ w =>
 K v34_16 w) w) w) w) w) w) w) w) w))))))))))))))))) w) w) w) w)) w) w))))))))))))
theorem sh_69_eq (a0 : Value) (a1 : Value) (a2 : Value) (K : Value → World → Prop) (w : World) : sh_69 a0 a1 a2 K w = code Tryd.prog (fun _ => 0) 64 (Tryd.f69.body.getD .skip) (slotsAt [a0, a1, a2]) (retK Tryd.prog [.tmp 6] K) w := by kernel_rfl
theorem sh_69_ok {a0 a1 a2 : Value} {K : Value → World → Prop} {w : World} (h : sh_69 a0 a1 a2 K w) : callM Tryd.prog 69 #[a0, a1, a2] K w :=
  calls_of_code (fun _ => 0) (fn := Tryd.f69) (rs := [.tmp 6]) Tryd.func69 rfl rfl (by kernel_rfl) (Nat.le_of_ble_eq_true rfl) ((sh_69_eq a0 a1 a2 K w).mp h)

/-- (*cloak/base.Reader).fail -/
def sh_70 (a0 : Value) (K : Value → World → Prop) (w : World) : Prop :=
 oM Tryd.prog (Go.Op.nilCheck (.tmp 0)) 0 [a0] (fun v4_1 w =>
 oM Tryd.prog (Go.Op.fieldAddr 78 (.tmp 0) 0) 0 [v4_1] (fun v5_2 w =>
 oM Tryd.prog (Go.Op.store 9 (.tmp 0) (.tmp 1)) 0 [v5_2, (.string ⟨#[]⟩)] (fun _ w =>
 oM Tryd.prog (Go.Op.nilCheck (.tmp 0)) 0 [a0] (fun v6_3 w =>
 oM Tryd.prog (Go.Op.fieldAddr 78 (.tmp 0) 1) 0 [v6_3] (fun v7_4 w =>
 oM Tryd.prog (Go.Op.store 4 (.tmp 0) (.tmp 1)) 0 [v7_4, (.bool true)] (fun _ w =>
 K (.tuple #[]) w) w) w) w) w) w) w
theorem sh_70_eq (a0 : Value) (K : Value → World → Prop) (w : World) : sh_70 a0 K w = code Tryd.prog (fun _ => 0) 8 (Tryd.f70.body.getD .skip) (slotsAt [a0]) (retK Tryd.prog [] K) w := by kernel_rfl
theorem sh_70_ok {a0 : Value} {K : Value → World → Prop} {w : World} (h : sh_70 a0 K w) : callM Tryd.prog 70 #[a0] K w :=
  calls_of_code (fun _ => 0) (fn := Tryd.f70) (rs := []) Tryd.func70 rfl rfl (by kernel_rfl) (Nat.le_of_ble_eq_true rfl) ((sh_70_eq a0 K w).mp h)

/-- (*cloak/base.Reader).close -/
def sh_71 (a0 : Value) (a1 : Value) (K : Value → World → Prop) (w : World) : Prop :=
 oM Tryd.prog (Go.Op.nilCheck (.tmp 0)) 0 [a0] (fun v8_1 w =>
 oM Tryd.prog (Go.Op.fieldAddr 78 (.tmp 0) 0) 0 [v8_1] (fun v9_2 w =>
 oM Tryd.prog (Go.Op.load 9 (.tmp 0)) 9 [v9_2] (fun v10_3 w =>
 callM Tryd.prog 94 #[v10_3, a1] (fun v12_4 w =>
 oM Tryd.prog (Go.Op.extract (.tmp 0) 0) 9 [v12_4] (fun v13_5 w =>
 oM Tryd.prog (Go.Op.extract (.tmp 0) 1) 4 [v12_4] (fun v14_6 w =>
 oM Tryd.prog (Go.Op.nilCheck (.tmp 0)) 0 [a0] (fun v17_7 w =>
 oM Tryd.prog (Go.Op.fieldAddr 78 (.tmp 0) 0) 0 [v17_7] (fun v18_8 w =>
 oM Tryd.prog (Go.Op.store 9 (.tmp 0) (.tmp 1)) 0 [v18_8, v13_5] (fun _ w =>
 oM Tryd.prog (Go.Op.unOp Go.UnOp.not 4 (.tmp 0)) 4 [v14_6] (fun v20_9 w =>
 condM v20_9
 (callM Tryd.prog 70 #[a0] (fun v22_10 w =>
 K (.tuple #[]) w) w)
 (K (.tuple #[]) w)) w) w) w) w) w) w) w) w) w) w
theorem sh_71_eq (a0 : Value) (a1 : Value) (K : Value → World → Prop) (w : World) : sh_71 a0 a1 K w = code Tryd.prog (fun _ => 0) 23 (Tryd.f71.body.getD .skip) (slotsAt [a0, a1]) (retK Tryd.prog [] K) w := by kernel_rfl
theorem sh_71_ok {a0 a1 : Value} {K : Value → World → Prop} {w : World} (h : sh_71 a0 a1 K w) : callM Tryd.prog 71 #[a0, a1] K w :=
  calls_of_code (fun _ => 0) (fn := Tryd.f71) (rs := []) Tryd.func71 rfl rfl (by kernel_rfl) (Nat.le_of_ble_eq_true rfl) ((sh_71_eq a0 a1 K w).mp h)

/-- cloak/base.items[int] -/
def sh_72 (a0 : Value) (a1 : Value) (K : Value → World → Prop) (w : World) : Prop :=
 callM Tryd.prog 69 #[a0, (.int .u8 91), (.int .i64 0)] (fun v8_1 w =>
 loopM [(.slice none 0 0), v8_1] w (fun J_2 m_3 l_4 u_l_4 w0_l_4 => (fun w => (
 oM Tryd.prog (Go.Op.binOp Go.BinOp.gtr 3 (.tmp 0) (.tmp 1) 3) 4 [(l_4.getD 1 undef), (.int .i64 0)] (fun v10_5 w =>
 gdM (gd v10_5 true) (pureM a0) (fun v12_6 w =>
 gdM (gd v10_5 true) (oM Tryd.prog (Go.Op.nilCheck (.tmp 0)) 0 [v12_6]) (fun v13_7 w =>
 gdM (gd v10_5 true) (oM Tryd.prog (Go.Op.fieldAddr 78 (.tmp 0) 1) 0 [v13_7]) (fun v14_8 w =>
 gdM (gd v10_5 true) (oM Tryd.prog (Go.Op.load 4 (.tmp 0)) 4 [v14_8]) (fun v15_9 w =>
 gdM (gd v10_5 true) (oM Tryd.prog (Go.Op.unOp Go.UnOp.not 4 (.tmp 0)) 4 [v15_9]) (fun v16_10 w =>
 oM Tryd.prog (Go.Op.pick (.tmp 0) (.tmp 1) (.tmp 2)) 4 [v10_5, v16_10, (.bool false)] (fun v17_11 w =>
 condM v17_11
 (oM Tryd.prog (Go.Op.call (Go.Call.mk (Go.Callee.value (.tmp 0)) #[] #[])) 3 [a1] (fun v22_12 w =>
 oM Tryd.prog (Go.Op.buildSlice 22 1 #[(0, (.tmp 0))]) 22 [v22_12] (fun v23_13 w =>
 oM Tryd.prog (Go.Op.call (Go.Call.mk (Go.Callee.builtin Go.Builtin.append) #[(.tmp 0), (.tmp 1)] #[22, 22])) 22 [(l_4.getD 0 undef), v23_13] (fun v24_14 w =>
 oM Tryd.prog (Go.Op.binOp Go.BinOp.sub 3 (.tmp 0) (.tmp 1) 3) 3 [(l_4.getD 1 undef), (.int .i64 1)] (fun v19_15 w =>
 J_2 [v24_14, v19_15] w ∧ m_3 [v24_14, v19_15] w < m_3 l_4 w0_l_4) w) w) w) w)
 (callM Tryd.prog 71 #[a0, (.string ⟨#[93]⟩)] (fun v26_16 w =>
 oM Tryd.prog (Go.Op.nilCheck (.tmp 0)) 0 [a0] (fun v28_17 w =>
 oM Tryd.prog (Go.Op.fieldAddr 78 (.tmp 0) 1) 0 [v28_17] (fun v29_18 w =>
 oM Tryd.prog (Go.Op.load 4 (.tmp 0)) 4 [v29_18] (fun v30_19 w =>
 condM v30_19
 (K (.slice none 0 0) w)
 (K (l_4.getD 0 undef) w)) w) w) w) w)) w) w) w) w) w) w) w)) w0_l_4)) w
theorem sh_72_eq (a0 : Value) (a1 : Value) (K : Value → World → Prop) (w : World) : sh_72 a0 a1 K w = code Tryd.prog (fun _ => 0) 32 (Tryd.f72.body.getD .skip) (slotsAt [a0, a1]) (retK Tryd.prog [.tmp 4] K) w := by kernel_rfl
theorem sh_72_ok {a0 a1 : Value} {K : Value → World → Prop} {w : World} (h : sh_72 a0 a1 K w) : callM Tryd.prog 72 #[a0, a1] K w :=
  calls_of_code (fun _ => 0) (fn := Tryd.f72) (rs := [.tmp 4]) Tryd.func72 rfl rfl (by kernel_rfl) (Nat.le_of_ble_eq_true rfl) ((sh_72_eq a0 a1 K w).mp h)

/-- cloak/base.items[string] -/
def sh_73 (a0 : Value) (a1 : Value) (K : Value → World → Prop) (w : World) : Prop :=
 callM Tryd.prog 69 #[a0, (.int .u8 91), (.int .i64 0)] (fun v8_1 w =>
 loopM [(.slice none 0 0), v8_1] w (fun J_2 m_3 l_4 u_l_4 w0_l_4 => (fun w => (
 oM Tryd.prog (Go.Op.binOp Go.BinOp.gtr 3 (.tmp 0) (.tmp 1) 3) 4 [(l_4.getD 1 undef), (.int .i64 0)] (fun v10_5 w =>
 gdM (gd v10_5 true) (pureM a0) (fun v12_6 w =>
 gdM (gd v10_5 true) (oM Tryd.prog (Go.Op.nilCheck (.tmp 0)) 0 [v12_6]) (fun v13_7 w =>
 gdM (gd v10_5 true) (oM Tryd.prog (Go.Op.fieldAddr 78 (.tmp 0) 1) 0 [v13_7]) (fun v14_8 w =>
 gdM (gd v10_5 true) (oM Tryd.prog (Go.Op.load 4 (.tmp 0)) 4 [v14_8]) (fun v15_9 w =>
 gdM (gd v10_5 true) (oM Tryd.prog (Go.Op.unOp Go.UnOp.not 4 (.tmp 0)) 4 [v15_9]) (fun v16_10 w =>
 oM Tryd.prog (Go.Op.pick (.tmp 0) (.tmp 1) (.tmp 2)) 4 [v10_5, v16_10, (.bool false)] (fun v17_11 w =>
 condM v17_11
 (oM Tryd.prog (Go.Op.call (Go.Call.mk (Go.Callee.value (.tmp 0)) #[] #[])) 9 [a1] (fun v22_12 w =>
 oM Tryd.prog (Go.Op.buildSlice 23 1 #[(0, (.tmp 0))]) 23 [v22_12] (fun v23_13 w =>
 oM Tryd.prog (Go.Op.call (Go.Call.mk (Go.Callee.builtin Go.Builtin.append) #[(.tmp 0), (.tmp 1)] #[23, 23])) 23 [(l_4.getD 0 undef), v23_13] (fun v24_14 w =>
 oM Tryd.prog (Go.Op.binOp Go.BinOp.sub 3 (.tmp 0) (.tmp 1) 3) 3 [(l_4.getD 1 undef), (.int .i64 1)] (fun v19_15 w =>
 J_2 [v24_14, v19_15] w ∧ m_3 [v24_14, v19_15] w < m_3 l_4 w0_l_4) w) w) w) w)
 (callM Tryd.prog 71 #[a0, (.string ⟨#[93]⟩)] (fun v26_16 w =>
 oM Tryd.prog (Go.Op.nilCheck (.tmp 0)) 0 [a0] (fun v28_17 w =>
 oM Tryd.prog (Go.Op.fieldAddr 78 (.tmp 0) 1) 0 [v28_17] (fun v29_18 w =>
 oM Tryd.prog (Go.Op.load 4 (.tmp 0)) 4 [v29_18] (fun v30_19 w =>
 condM v30_19
 (K (.slice none 0 0) w)
 (K (l_4.getD 0 undef) w)) w) w) w) w)) w) w) w) w) w) w) w)) w0_l_4)) w
theorem sh_73_eq (a0 : Value) (a1 : Value) (K : Value → World → Prop) (w : World) : sh_73 a0 a1 K w = code Tryd.prog (fun _ => 0) 32 (Tryd.f73.body.getD .skip) (slotsAt [a0, a1]) (retK Tryd.prog [.tmp 4] K) w := by kernel_rfl
theorem sh_73_ok {a0 a1 : Value} {K : Value → World → Prop} {w : World} (h : sh_73 a0 a1 K w) : callM Tryd.prog 73 #[a0, a1] K w :=
  calls_of_code (fun _ => 0) (fn := Tryd.f73) (rs := [.tmp 4]) Tryd.func73 rfl rfl (by kernel_rfl) (Nat.le_of_ble_eq_true rfl) ((sh_73_eq a0 a1 K w).mp h)

/-- cloak/cloaklaw01.number -/
def sh_74 (a0 : Value) (K : Value → World → Prop) (w : World) : Prop :=
 oM Tryd.prog (Go.Op.binOp Go.BinOp.lss 3 (.tmp 0) (.tmp 1) 3) 4 [a0, (.int .i64 0)] (fun v4_1 w =>
 condM v4_1
 (oM Tryd.prog (Go.Op.binOp Go.BinOp.add 3 (.tmp 0) (.tmp 1) 3) 3 [a0, (.int .i64 1)] (fun v6_2 w =>
 oM Tryd.prog (Go.Op.unOp Go.UnOp.neg 3 (.tmp 0)) 3 [v6_2] (fun v7_3 w =>
 K v7_3 w) w) w)
 (K a0 w)) w
theorem sh_74_eq (a0 : Value) (K : Value → World → Prop) (w : World) : sh_74 a0 K w = code Tryd.prog (fun _ => 0) 9 (Tryd.f74.body.getD .skip) (slotsAt [a0]) (retK Tryd.prog [.tmp 2] K) w := by kernel_rfl
theorem sh_74_ok {a0 : Value} {K : Value → World → Prop} {w : World} (h : sh_74 a0 K w) : callM Tryd.prog 74 #[a0] K w :=
  calls_of_code (fun _ => 0) (fn := Tryd.f74) (rs := [.tmp 2]) Tryd.func74 rfl rfl (by kernel_rfl) (Nat.le_of_ble_eq_true rfl) ((sh_74_eq a0 K w).mp h)

/-- (*cloak/cloakref01.Reader).number -/
def sh_75 (a0 : Value) (a1 : Value) (K : Value → World → Prop) (w : World) : Prop :=
 callM Tryd.prog 76 #[a0, a1] (fun v8_1 w =>
 oM Tryd.prog (Go.Op.binOp Go.BinOp.lss 3 (.tmp 0) (.tmp 1) 3) 4 [v8_1, (.int .i64 0)] (fun v10_2 w =>
 condM v10_2
 (callM Tryd.prog 77 #[a0] (fun v12_3 w =>
 K v12_3 w) w)
 (K v8_1 w)) w) w
theorem sh_75_eq (a0 : Value) (a1 : Value) (K : Value → World → Prop) (w : World) : sh_75 a0 a1 K w = code Tryd.prog (fun _ => 0) 14 (Tryd.f75.body.getD .skip) (slotsAt [a0, a1]) (retK Tryd.prog [.tmp 4] K) w := by kernel_rfl
theorem sh_75_ok {a0 a1 : Value} {K : Value → World → Prop} {w : World} (h : sh_75 a0 a1 K w) : callM Tryd.prog 75 #[a0, a1] K w :=
  calls_of_code (fun _ => 0) (fn := Tryd.f75) (rs := [.tmp 4]) Tryd.func75 rfl rfl (by kernel_rfl) (Nat.le_of_ble_eq_true rfl) ((sh_75_eq a0 a1 K w).mp h)

/-- (*cloak/cloakref01.Reader).ahead -/
def sh_76 (a0 : Value) (a1 : Value) (K : Value → World → Prop) (w : World) : Prop :=
 loopM [(.int .i64 0)] w (fun J_1 m_2 l_3 u_l_3 w0_l_3 => (fun w => (
 oM Tryd.prog (Go.Op.nilCheck (.tmp 0)) 0 [a0] (fun v10_4 w =>
 oM Tryd.prog (Go.Op.fieldAddr 84 (.tmp 0) 0) 0 [v10_4] (fun v11_5 w =>
 oM Tryd.prog (Go.Op.load 9 (.tmp 0)) 9 [v11_5] (fun v12_6 w =>
 oM Tryd.prog (Go.Op.call (Go.Call.mk (Go.Callee.builtin Go.Builtin.len) #[(.tmp 0)] #[9])) 3 [v12_6] (fun v13_7 w =>
 oM Tryd.prog (Go.Op.binOp Go.BinOp.lss 3 (.tmp 0) (.tmp 1) 3) 4 [(l_3.getD 0 undef), v13_7] (fun v14_8 w =>
 gdM (gd v14_8 true) (pureM (l_3.getD 0 undef)) (fun v16_9 w =>
 gdM (gd v14_8 true) (oM Tryd.prog (Go.Op.binOp Go.BinOp.lss 3 (.tmp 0) (.tmp 1) 3) 4 [v16_9, (.int .i64 21)]) (fun v17_10 w =>
 oM Tryd.prog (Go.Op.pick (.tmp 0) (.tmp 1) (.tmp 2)) 4 [v14_8, v17_10, (.bool false)] (fun v18_11 w =>
 gdM (gd v18_11 true) (pureM a0) (fun v20_12 w =>
 gdM (gd v18_11 true) (oM Tryd.prog (Go.Op.nilCheck (.tmp 0)) 0 [v20_12]) (fun v21_13 w =>
 gdM (gd v18_11 true) (oM Tryd.prog (Go.Op.fieldAddr 84 (.tmp 0) 0) 0 [v21_13]) (fun v22_14 w =>
 gdM (gd v18_11 true) (oM Tryd.prog (Go.Op.load 9 (.tmp 0)) 9 [v22_14]) (fun v23_15 w =>
 gdM (gd v18_11 true) (pureM (l_3.getD 0 undef)) (fun v24_16 w =>
 gdM (gd v18_11 true) (oM Tryd.prog (Go.Op.index 9 (.tmp 0) (.tmp 1)) 5 [v23_15, v24_16]) (fun v25_17 w =>
 gdM (gd v18_11 true) (pureM a1) (fun v26_18 w =>
 gdM (gd v18_11 true) (oM Tryd.prog (Go.Op.binOp Go.BinOp.neq 5 (.tmp 0) (.tmp 1) 5) 4 [v25_17, v26_18]) (fun v27_19 w =>
 oM Tryd.prog (Go.Op.pick (.tmp 0) (.tmp 1) (.tmp 2)) 4 [v18_11, v27_19, (.bool false)] (fun v28_20 w =>
 condM v28_20
 (oM Tryd.prog (Go.Op.binOp Go.BinOp.add 3 (.tmp 0) (.tmp 1) 3) 3 [(l_3.getD 0 undef), (.int .i64 1)] (fun v30_21 w =>
 J_1 [v30_21] w ∧ m_2 [v30_21] w < m_2 l_3 w0_l_3) w)
 (oM Tryd.prog (Go.Op.nilCheck (.tmp 0)) 0 [a0] (fun v33_22 w =>
 oM Tryd.prog (Go.Op.fieldAddr 84 (.tmp 0) 0) 0 [v33_22] (fun v34_23 w =>
 oM Tryd.prog (Go.Op.load 9 (.tmp 0)) 9 [v34_23] (fun v35_24 w =>
 oM Tryd.prog (Go.Op.call (Go.Call.mk (Go.Callee.builtin Go.Builtin.len) #[(.tmp 0)] #[9])) 3 [v35_24] (fun v36_25 w =>
 oM Tryd.prog (Go.Op.binOp Go.BinOp.geq 3 (.tmp 0) (.tmp 1) 3) 4 [(l_3.getD 0 undef), v36_25] (fun v37_26 w =>
 condM v37_26
 (callM Tryd.prog 77 #[a0] (fun v39_27 w =>
 K v39_27 w) w)
 (oM Tryd.prog (Go.Op.nilCheck (.tmp 0)) 0 [a0] (fun v41_28 w =>
 oM Tryd.prog (Go.Op.fieldAddr 84 (.tmp 0) 0) 0 [v41_28] (fun v42_29 w =>
 oM Tryd.prog (Go.Op.load 9 (.tmp 0)) 9 [v42_29] (fun v43_30 w =>
 oM Tryd.prog (Go.Op.index 9 (.tmp 0) (.tmp 1)) 5 [v43_30, (l_3.getD 0 undef)] (fun v45_31 w =>
 oM Tryd.prog (Go.Op.binOp Go.BinOp.neq 5 (.tmp 0) (.tmp 1) 5) 4 [v45_31, a1] (fun v47_32 w =>
 condM v47_32
 (callM Tryd.prog 77 #[a0] (fun v49_33 w =>
 K v49_33 w) w)
 (oM Tryd.prog (Go.Op.nilCheck (.tmp 0)) 0 [a0] (fun v52_34 w =>
 oM Tryd.prog (Go.Op.fieldAddr 84 (.tmp 0) 0) 0 [v52_34] (fun v53_35 w =>
 oM Tryd.prog (Go.Op.load 9 (.tmp 0)) 9 [v53_35] (fun v54_36 w =>
 oM Tryd.prog (Go.Op.slice 9 (.tmp 0) none (some (.tmp 1)) none) 9 [v54_36, (l_3.getD 0 undef)] (fun v56_37 w =>
 callM Tryd.prog 95 #[v56_37] (fun v57_38 w =>
 oM Tryd.prog (Go.Op.extract (.tmp 0) 0) 3 [v57_38] (fun v58_39 w =>
 oM Tryd.prog (Go.Op.extract (.tmp 0) 1) 4 [v57_38] (fun v59_40 w =>
 oM Tryd.prog (Go.Op.unOp Go.UnOp.not 4 (.tmp 0)) 4 [v59_40] (fun v61_41 w =>
 condM v61_41
 (callM Tryd.prog 77 #[a0] (fun v63_42 w =>
 K v63_42 w) w)
 (oM Tryd.prog (Go.Op.nilCheck (.tmp 0)) 0 [a0] (fun v66_43 w =>
 oM Tryd.prog (Go.Op.fieldAddr 84 (.tmp 0) 0) 0 [v66_43] (fun v67_44 w =>
 oM Tryd.prog (Go.Op.load 9 (.tmp 0)) 9 [v67_44] (fun v68_45 w =>
 oM Tryd.prog (Go.Op.binOp Go.BinOp.add 3 (.tmp 0) (.tmp 1) 3) 3 [(l_3.getD 0 undef), (.int .i64 1)] (fun v70_46 w =>
 oM Tryd.prog (Go.Op.slice 9 (.tmp 0) (some (.tmp 1)) none none) 9 [v68_45, v70_46] (fun v71_47 w =>
 oM Tryd.prog (Go.Op.nilCheck (.tmp 0)) 0 [a0] (fun v72_48 w =>
 oM Tryd.prog (Go.Op.fieldAddr 84 (.tmp 0) 0) 0 [v72_48] (fun v73_49 w =>
 oM Tryd.prog (Go.Op.store 9 (.tmp 0) (.tmp 1)) 0 [v73_49, v71_47] (fun _ w =>
 K v58_39 w) w) w) w) w) w) w) w) w)) w) w) w) w) w) w) w) w)) w) w) w) w) w)) w) w) w) w) w)) w) w) w) w) w) w) w) w) w) w) w) w) w) w) w) w) w)) w0_l_3)
theorem sh_76_eq (a0 : Value) (a1 : Value) (K : Value → World → Prop) (w : World) : sh_76 a0 a1 K w = code Tryd.prog (fun _ => 0) 75 (Tryd.f76.body.getD .skip) (slotsAt [a0, a1]) (retK Tryd.prog [.tmp 4] K) w := by kernel_rfl
theorem sh_76_ok {a0 a1 : Value} {K : Value → World → Prop} {w : World} (h : sh_76 a0 a1 K w) : callM Tryd.prog 76 #[a0, a1] K w :=
  calls_of_code (fun _ => 0) (fn := Tryd.f76) (rs := [.tmp 4]) Tryd.func76 rfl rfl (by kernel_rfl) (Nat.le_of_ble_eq_true rfl) ((sh_76_eq a0 a1 K w).mp h)

/-- (*cloak/cloakref01.Reader).fail -/
def sh_77 (a0 : Value) (K : Value → World → Prop) (w : World) : Prop :=
 oM Tryd.prog (Go.Op.nilCheck (.tmp 0)) 0 [a0] (fun v4_1 w =>
 oM Tryd.prog (Go.Op.fieldAddr 84 (.tmp 0) 0) 0 [v4_1] (fun v5_2 w =>
 oM Tryd.prog (Go.Op.store 9 (.tmp 0) (.tmp 1)) 0 [v5_2, (.string ⟨#[]⟩)] (fun _ w =>
 oM Tryd.prog (Go.Op.nilCheck (.tmp 0)) 0 [a0] (fun v7_3 w =>
 oM Tryd.prog (Go.Op.fieldAddr 84 (.tmp 0) 1) 0 [v7_3] (fun v8_4 w =>
 oM Tryd.prog (Go.Op.store 4 (.tmp 0) (.tmp 1)) 0 [v8_4, (.bool true)] (fun _ w =>
 K (.int .i64 0) w) w) w) w) w) w) w
theorem sh_77_eq (a0 : Value) (K : Value → World → Prop) (w : World) : sh_77 a0 K w = code Tryd.prog (fun _ => 0) 9 (Tryd.f77.body.getD .skip) (slotsAt [a0]) (retK Tryd.prog [.tmp 2] K) w := by kernel_rfl
theorem sh_77_ok {a0 : Value} {K : Value → World → Prop} {w : World} (h : sh_77 a0 K w) : callM Tryd.prog 77 #[a0] K w :=
  calls_of_code (fun _ => 0) (fn := Tryd.f77) (rs := [.tmp 2]) Tryd.func77 rfl rfl (by kernel_rfl) (Nat.le_of_ble_eq_true rfl) ((sh_77_eq a0 K w).mp h)

/-- (*cloak/cloakref01.Reader).close -/
def sh_78 (a0 : Value) (a1 : Value) (K : Value → World → Prop) (w : World) : Prop :=
 oM Tryd.prog (Go.Op.nilCheck (.tmp 0)) 0 [a0] (fun v6_1 w =>
 oM Tryd.prog (Go.Op.fieldAddr 84 (.tmp 0) 0) 0 [v6_1] (fun v7_2 w =>
 oM Tryd.prog (Go.Op.load 9 (.tmp 0)) 9 [v7_2] (fun v8_3 w =>
 oM Tryd.prog (Go.Op.call (Go.Call.mk (Go.Callee.builtin Go.Builtin.len) #[(.tmp 0)] #[9])) 3 [v8_3] (fun v9_4 w =>
 oM Tryd.prog (Go.Op.binOp Go.BinOp.eql 3 (.tmp 0) (.const (.int .i64 0)) 3) 4 [v9_4] (fun v10_5 w =>
 condM v10_5
 (callM Tryd.prog 77 #[a0] (fun v12_6 w =>
 K (.bool false) w) w)
 (oM Tryd.prog (Go.Op.nilCheck (.tmp 0)) 0 [a0] (fun v14_7 w =>
 oM Tryd.prog (Go.Op.fieldAddr 84 (.tmp 0) 0) 0 [v14_7] (fun v15_8 w =>
 oM Tryd.prog (Go.Op.load 9 (.tmp 0)) 9 [v15_8] (fun v16_9 w =>
 oM Tryd.prog (Go.Op.index 9 (.tmp 0) (.tmp 1)) 5 [v16_9, (.int .i64 0)] (fun v17_10 w =>
 oM Tryd.prog (Go.Op.binOp Go.BinOp.neq 5 (.tmp 0) (.tmp 1) 5) 4 [v17_10, a1] (fun v19_11 w =>
 condM v19_11
 (callM Tryd.prog 77 #[a0] (fun v21_12 w =>
 K (.bool false) w) w)
 (oM Tryd.prog (Go.Op.nilCheck (.tmp 0)) 0 [a0] (fun v24_13 w =>
 oM Tryd.prog (Go.Op.fieldAddr 84 (.tmp 0) 0) 0 [v24_13] (fun v25_14 w =>
 oM Tryd.prog (Go.Op.load 9 (.tmp 0)) 9 [v25_14] (fun v26_15 w =>
 oM Tryd.prog (Go.Op.slice 9 (.tmp 0) (some (.tmp 1)) none none) 9 [v26_15, (.int .i64 1)] (fun v27_16 w =>
 oM Tryd.prog (Go.Op.nilCheck (.tmp 0)) 0 [a0] (fun v28_17 w =>
 oM Tryd.prog (Go.Op.fieldAddr 84 (.tmp 0) 0) 0 [v28_17] (fun v29_18 w =>
 oM Tryd.prog (Go.Op.store 9 (.tmp 0) (.tmp 1)) 0 [v29_18, v27_16] (fun _ w =>
 K (.bool true) w) w) w) w) w) w) w) w)) w) w) w) w) w)) w) w) w) w) w
theorem sh_78_eq (a0 : Value) (a1 : Value) (K : Value → World → Prop) (w : World) : sh_78 a0 a1 K w = code Tryd.prog (fun _ => 0) 30 (Tryd.f78.body.getD .skip) (slotsAt [a0, a1]) (retK Tryd.prog [.tmp 4] K) w := by kernel_rfl
theorem sh_78_ok {a0 a1 : Value} {K : Value → World → Prop} {w : World} (h : sh_78 a0 a1 K w) : callM Tryd.prog 78 #[a0, a1] K w :=
  calls_of_code (fun _ => 0) (fn := Tryd.f78) (rs := [.tmp 4]) Tryd.func78 rfl rfl (by kernel_rfl) (Nat.le_of_ble_eq_true rfl) ((sh_78_eq a0 a1 K w).mp h)

/-- (*strings.Builder).WriteString -/
def sh_90 (a0 : Value) (a1 : Value) (K : Value → World → Prop) (w : World) : Prop :=
 callM Tryd.prog 98 #[a0] (fun v7_1 w =>
 oM Tryd.prog (Go.Op.nilCheck (.tmp 0)) 0 [a0] (fun v10_2 w =>
 oM Tryd.prog (Go.Op.fieldAddr 107 (.tmp 0) 1) 0 [v10_2] (fun v11_3 w =>
 oM Tryd.prog (Go.Op.load 61 (.tmp 0)) 61 [v11_3] (fun v12_4 w =>
 oM Tryd.prog (Go.Op.call (Go.Call.mk (Go.Callee.builtin Go.Builtin.append) #[(.tmp 0), (.tmp 1)] #[61, 9])) 61 [v12_4, a1] (fun v14_5 w =>
 oM Tryd.prog (Go.Op.nilCheck (.tmp 0)) 0 [a0] (fun v15_6 w =>
 oM Tryd.prog (Go.Op.fieldAddr 107 (.tmp 0) 1) 0 [v15_6] (fun v16_7 w =>
 oM Tryd.prog (Go.Op.store 61 (.tmp 0) (.tmp 1)) 0 [v16_7, v14_5] (fun _ w =>
 oM Tryd.prog (Go.Op.call (Go.Call.mk (Go.Callee.builtin Go.Builtin.len) #[(.tmp 0)] #[9])) 3 [a1] (fun v18_8 w =>
 K (.tuple #[v18_8, .nilIface]) w) w) w) w) w) w) w) w) w) w
theorem sh_90_eq (a0 : Value) (a1 : Value) (K : Value → World → Prop) (w : World) : sh_90 a0 a1 K w = code Tryd.prog (fun _ => 0) 19 (Tryd.f90.body.getD .skip) (slotsAt [a0, a1]) (retK Tryd.prog [.tmp 4, .tmp 5] K) w := by kernel_rfl
theorem sh_90_ok {a0 a1 : Value} {K : Value → World → Prop} {w : World} (h : sh_90 a0 a1 K w) : callM Tryd.prog 90 #[a0, a1] K w :=
  calls_of_code (fun _ => 0) (fn := Tryd.f90) (rs := [.tmp 4, .tmp 5]) Tryd.func90 rfl rfl (by kernel_rfl) (Nat.le_of_ble_eq_true rfl) ((sh_90_eq a0 a1 K w).mp h)

/-- cloak/cloakref01.BackInt -/
def sh_95 (a0 : Value) (K : Value → World → Prop) (w : World) : Prop :=
 joinM (fun M_1 => (oM Tryd.prog (Go.Op.call (Go.Call.mk (Go.Callee.builtin Go.Builtin.len) #[(.tmp 0)] #[9])) 3 [a0] (fun v8_3 w =>
 oM Tryd.prog (Go.Op.binOp Go.BinOp.gtr 3 (.tmp 0) (.tmp 1) 3) 4 [v8_3, (.int .i64 0)] (fun v9_4 w =>
 gdM (gd v9_4 true) (pureM a0) (fun v11_5 w =>
 gdM (gd v9_4 true) (oM Tryd.prog (Go.Op.index 9 (.tmp 0) (.tmp 1)) 5 [v11_5, (.int .i64 0)]) (fun v12_6 w =>
 gdM (gd v9_4 true) (oM Tryd.prog (Go.Op.binOp Go.BinOp.eql 5 (.tmp 0) (.const (.int .u8 45)) 5) 4 [v12_6]) (fun v13_7 w =>
 oM Tryd.prog (Go.Op.pick (.tmp 0) (.tmp 1) (.tmp 2)) 4 [v9_4, v13_7, (.bool false)] (fun v14_8 w =>
 condM v14_8
 (M_1 [(.int .i64 1)] w)
 (M_1 [(.int .i64 0)] w)) w) w) w) w) w) w))
 (fun l_2 u_l_2 w => (loopM [(.int .i64 0), (.bool false), (.int .i64 0), (l_2.getD 0 undef)] w (fun J_9 m_10 l_11 u_l_11 w0_l_11 => (fun w => (
 oM Tryd.prog (Go.Op.call (Go.Call.mk (Go.Callee.builtin Go.Builtin.len) #[(.tmp 0)] #[9])) 3 [a0] (fun v18_12 w =>
 oM Tryd.prog (Go.Op.binOp Go.BinOp.lss 3 (.tmp 0) (.tmp 1) 3) 4 [(l_11.getD 3 undef), v18_12] (fun v19_13 w =>
 condM v19_13
 (oM Tryd.prog (Go.Op.index 9 (.tmp 0) (.tmp 1)) 5 [a0, (l_11.getD 3 undef)] (fun v24_14 w =>
 oM Tryd.prog (Go.Op.binOp Go.BinOp.lss 5 (.tmp 0) (.tmp 1) 5) 4 [v24_14, (.int .u8 48)] (fun v25_15 w =>
 gdM (gd v25_15 false) (pureM a0) (fun v27_16 w =>
 gdM (gd v25_15 false) (pureM (l_11.getD 3 undef)) (fun v28_17 w =>
 gdM (gd v25_15 false) (oM Tryd.prog (Go.Op.index 9 (.tmp 0) (.tmp 1)) 5 [v27_16, v28_17]) (fun v29_18 w =>
 gdM (gd v25_15 false) (oM Tryd.prog (Go.Op.binOp Go.BinOp.gtr 5 (.tmp 0) (.tmp 1) 5) 4 [v29_18, (.int .u8 57)]) (fun v30_19 w =>
 oM Tryd.prog (Go.Op.pick (.tmp 0) (.tmp 1) (.tmp 2)) 4 [v25_15, (.bool true), v30_19] (fun v31_20 w =>
 gdM (gd v31_20 false) (pureM (l_11.getD 3 undef)) (fun v33_21 w =>
 gdM (gd v31_20 false) (oM Tryd.prog (Go.Op.binOp Go.BinOp.gtr 3 (.tmp 0) (.tmp 1) 3) 4 [v33_21, (.int .i64 20)]) (fun v34_22 w =>
 oM Tryd.prog (Go.Op.pick (.tmp 0) (.tmp 1) (.tmp 2)) 4 [v31_20, (.bool true), v34_22] (fun v35_23 w =>
 condM v35_23
 (K (.tuple #[(.int .i64 0), (.bool false)]) w)
 (oM Tryd.prog (Go.Op.binOp Go.BinOp.mul 3 (.tmp 0) (.tmp 1) 3) 3 [(.int .i64 10), (l_11.getD 2 undef)] (fun v37_24 w =>
 oM Tryd.prog (Go.Op.index 9 (.tmp 0) (.tmp 1)) 5 [a0, (l_11.getD 3 undef)] (fun v40_25 w =>
 oM Tryd.prog (Go.Op.binOp Go.BinOp.sub 5 (.tmp 0) (.tmp 1) 5) 5 [v40_25, (.int .u8 48)] (fun v41_26 w =>
 oM Tryd.prog (Go.Op.convert 5 3 (.tmp 0)) 3 [v41_26] (fun v42_27 w =>
 oM Tryd.prog (Go.Op.binOp Go.BinOp.sub 3 (.tmp 0) (.tmp 1) 3) 3 [v37_24, v42_27] (fun v43_28 w =>
 oM Tryd.prog (Go.Op.binOp Go.BinOp.add 3 (.tmp 0) (.tmp 1) 3) 3 [(l_11.getD 3 undef), (.int .i64 1)] (fun v21_29 w =>
 J_9 [(l_11.getD 0 undef), (l_11.getD 1 undef), v43_28, v21_29] w ∧ m_10 [(l_11.getD 0 undef), (l_11.getD 1 undef), v43_28, v21_29] w < m_10 l_11 w0_l_11) w) w) w) w) w) w)) w) w) w) w) w) w) w) w) w) w)
 (joinM (fun M_30 => (oM Tryd.prog (Go.Op.binOp Go.BinOp.eql 3 (.tmp 0) (.const (.int .i64 0)) 3) 4 [(l_2.getD 0 undef)] (fun v45_32 w =>
 condM v45_32
 (oM Tryd.prog (Go.Op.unOp Go.UnOp.neg 3 (.tmp 0)) 3 [(l_11.getD 2 undef)] (fun v47_33 w =>
 M_30 [v47_33] w) w)
 (M_30 [(l_11.getD 2 undef)] w)) w))
 (fun l_31 u_l_31 w => (callM Tryd.prog 16 #[(l_31.getD 0 undef)] (fun v50_34 w =>
 oM Tryd.prog (Go.Op.binOp Go.BinOp.add 9 (.tmp 0) (.tmp 1) 9) 9 [a0, (.string ⟨#[59]⟩)] (fun v52_35 w =>
 oM Tryd.prog (Go.Op.binOp Go.BinOp.eql 9 (.tmp 0) (.tmp 1) 9) 4 [v50_34, v52_35] (fun v53_36 w =>
 K (.tuple #[(l_31.getD 0 undef), v53_36]) w) w) w) w)))) w) w)) w0_l_11)))
theorem sh_95_eq (a0 : Value) (K : Value → World → Prop) (w : World) : sh_95 a0 K w = code Tryd.prog (fun _ => 0) 54 (Tryd.f95.body.getD .skip) (slotsAt [a0]) (retK Tryd.prog [.tmp 2, .tmp 3] K) w := by kernel_rfl
theorem sh_95_ok {a0 : Value} {K : Value → World → Prop} {w : World} (h : sh_95 a0 K w) : callM Tryd.prog 95 #[a0] K w :=
  calls_of_code (fun _ => 0) (fn := Tryd.f95) (rs := [.tmp 2, .tmp 3]) Tryd.func95 rfl rfl (by kernel_rfl) (Nat.le_of_ble_eq_true rfl) ((sh_95_eq a0 K w).mp h)

/-- (*strings.Builder).copyCheck -/
def sh_98 (a0 : Value) (K : Value → World → Prop) (w : World) : Prop :=
 oM Tryd.prog (Go.Op.nilCheck (.tmp 0)) 0 [a0] (fun v3_1 w =>
 oM Tryd.prog (Go.Op.fieldAddr 107 (.tmp 0) 0) 0 [v3_1] (fun v4_2 w =>
 oM Tryd.prog (Go.Op.load 105 (.tmp 0)) 105 [v4_2] (fun v5_3 w =>
 oM Tryd.prog (Go.Op.binOp Go.BinOp.eql 105 (.tmp 0) (.const (.pointer none)) 105) 4 [v5_3] (fun v6_4 w =>
 condM v6_4
 (oM Tryd.prog (Go.Op.convert 105 131 (.tmp 0)) 131 [a0] (fun v9_5 w =>
 extM Tryd.prog 111 #[v9_5] (fun v10_6 w =>
 oM Tryd.prog (Go.Op.convert 131 105 (.tmp 0)) 105 [v10_6] (fun v11_7 w =>
 oM Tryd.prog (Go.Op.nilCheck (.tmp 0)) 0 [a0] (fun v12_8 w =>
 oM Tryd.prog (Go.Op.fieldAddr 107 (.tmp 0) 0) 0 [v12_8] (fun v13_9 w =>
 oM Tryd.prog (Go.Op.store 105 (.tmp 0) (.tmp 1)) 0 [v13_9, v11_7] (fun _ w =>
 K (.tuple #[]) w) w) w) w) w) w) w)
 (oM Tryd.prog (Go.Op.nilCheck (.tmp 0)) 0 [a0] (fun v15_10 w =>
 oM Tryd.prog (Go.Op.fieldAddr 107 (.tmp 0) 0) 0 [v15_10] (fun v16_11 w =>
 oM Tryd.prog (Go.Op.load 105 (.tmp 0)) 105 [v16_11] (fun v17_12 w =>
 oM Tryd.prog (Go.Op.binOp Go.BinOp.neq 105 (.tmp 0) (.tmp 1) 105) 4 [v17_12, a0] (fun v19_13 w =>
 condM v19_13
 (False)
 (K (.tuple #[]) w)) w) w) w) w)) w) w) w) w
theorem sh_98_eq (a0 : Value) (K : Value → World → Prop) (w : World) : sh_98 a0 K w = code Tryd.prog (fun _ => 0) 20 (Tryd.f98.body.getD .skip) (slotsAt [a0]) (retK Tryd.prog [] K) w := by kernel_rfl
theorem sh_98_ok {a0 : Value} {K : Value → World → Prop} {w : World} (h : sh_98 a0 K w) : callM Tryd.prog 98 #[a0] K w :=
  calls_of_code (fun _ => 0) (fn := Tryd.f98) (rs := []) Tryd.func98 rfl rfl (by kernel_rfl) (Nat.le_of_ble_eq_true rfl) ((sh_98_eq a0 K w).mp h)

end Go.Proofs
