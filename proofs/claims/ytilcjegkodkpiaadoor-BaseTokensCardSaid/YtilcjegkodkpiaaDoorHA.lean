/- HA: a part of the proof of the seat's statements: lemmas about the given translation and plain laws. No condition of its own. -/
import Derived.Test.YtilcjegkodkpiaaDoorShMem
import Derived.Test.YtilcjegkodkpiaaDoorProg
set_option linter.all false
set_option linter.unusedVariables false
namespace Go.Proofs
open Go.Sh
/-- cloak/cloaklaw01.BaseTokens -/
def sh_3 (a0 : Value) (K : Value → World → Prop) (w : World) : Prop :=
 callM Tryd.prog 8 #[] (fun v11_1 w =>
 callM Tryd.prog 10 #[a0] (fun v14_2 w =>
 callM Tryd.prog 9 #[v14_2] (fun v15_3 w =>
 oM Tryd.prog (Go.Op.extract (.tmp 0) 0) 23 [v15_3] (fun v16_4 w =>
 oM Tryd.prog (Go.Op.extract (.tmp 0) 1) 3 [v15_3] (fun v17_5 w =>
 oM Tryd.prog (Go.Op.extract (.tmp 0) 2) 24 [v15_3] (fun v18_6 w =>
 oM Tryd.prog (Go.Op.binOp Go.BinOp.neq 24 (.tmp 0) (.const (.int .i64 0)) 24) 4 [v18_6] (fun v20_7 w =>
 condM v20_7
(gdM (gd v11_1 true) (pureM v16_4) (fun v23_8 w =>
 gdM (gd v11_1 true) (oM Tryd.prog (Go.Op.call (Go.Call.mk (Go.Callee.builtin Go.Builtin.len) #[(.tmp 0)] #[23])) 3 [v23_8]) (fun v24_9 w =>
 gdM (gd v11_1 true) (oM Tryd.prog (Go.Op.binOp Go.BinOp.eql 3 (.tmp 0) (.const (.int .i64 0)) 3) 4 [v24_9]) (fun v25_10 w =>
 oM Tryd.prog (Go.Op.pick (.tmp 0) (.tmp 1) (.tmp 2)) 4 [v11_1, v25_10, (.bool false)] (fun v26_11 w =>
 K v26_11 w) w) w) w) w)
(callM Tryd.prog 11 #[v16_4] (fun v28_12 w =>
 callM Tryd.prog 9 #[v28_12] (fun v31_13 w =>
 oM Tryd.prog (Go.Op.extract (.tmp 0) 0) 23 [v31_13] (fun v32_14 w =>
 oM Tryd.prog (Go.Op.extract (.tmp 0) 1) 3 [v31_13] (fun v33_15 w =>
 oM Tryd.prog (Go.Op.extract (.tmp 0) 2) 24 [v31_13] (fun v34_16 w =>
 gdM (gd v11_1 true) (pureM v34_16) (fun v37_17 w =>
 gdM (gd v11_1 true) (oM Tryd.prog (Go.Op.binOp Go.BinOp.eql 24 (.tmp 0) (.const (.int .i64 0)) 24) 4 [v37_17]) (fun v38_18 w =>
 oM Tryd.prog (Go.Op.pick (.tmp 0) (.tmp 1) (.tmp 2)) 4 [v11_1, v38_18, (.bool false)] (fun v39_19 w =>
 gdM (gd v39_19 true) (pureM v16_4) (fun v41_20 w =>
 gdM (gd v39_19 true) (pureM v32_14) (fun v42_21 w =>
 gdM (gd v39_19 true) (callM Tryd.prog 12 #[v41_20, v42_21]) (fun v43_22 w =>
 oM Tryd.prog (Go.Op.pick (.tmp 0) (.tmp 1) (.tmp 2)) 4 [v39_19, v43_22, (.bool false)] (fun v44_23 w =>
 gdM (gd v44_23 true) (pureM v32_14) (fun v46_24 w =>
 gdM (gd v44_23 true) (callM Tryd.prog 11 #[v46_24]) (fun v47_25 w =>
 gdM (gd v44_23 true) (pureM v28_12) (fun v48_26 w =>
 gdM (gd v44_23 true) (oM Tryd.prog (Go.Op.binOp Go.BinOp.eql 9 (.tmp 0) (.tmp 1) 9) 4 [v47_25, v48_26]) (fun v49_27 w =>
 oM Tryd.prog (Go.Op.pick (.tmp 0) (.tmp 1) (.tmp 2)) 4 [v44_23, v49_27, (.bool false)] (fun v50_28 w =>
 K v50_28 w) w) w) w) w) w) w) w) w) w) w) w) w) w) w) w) w) w)) w) w) w) w) w) w) w
theorem sh_3_eq (a0 : Value) (K : Value → World → Prop) (w : World) : sh_3 a0 K w = code Tryd.prog (fun _ => true) 51 (Tryd.f3.body.getD .skip) (slotsAt [a0]) (retK Tryd.prog [.tmp 2] K) w := by kernel_rfl
theorem sh_3_ok {a0 : Value} {K : Value → World → Prop} {w : World} (h : sh_3 a0 K w) : callM Tryd.prog 3 #[a0] K w :=
  calls_of_code (fun _ => true) (fn := Tryd.f3) (rs := [.tmp 2]) Tryd.func3 rfl rfl (by kernel_rfl) (Nat.le_of_ble_eq_true rfl) ((sh_3_eq a0 K w).mp h)

/-- cloak/cloaklaw01.BaseJoins -/
def sh_4 (a0 : Value) (a1 : Value) (K : Value → World → Prop) (w : World) : Prop :=
 callM Tryd.prog 8 #[] (fun v19_1 w =>
 callM Tryd.prog 10 #[a0] (fun v21_2 w =>
 callM Tryd.prog 10 #[a1] (fun v23_3 w =>
 callM Tryd.prog 9 #[v21_2] (fun v26_4 w =>
 oM Tryd.prog (Go.Op.extract (.tmp 0) 0) 23 [v26_4] (fun v27_5 w =>
 oM Tryd.prog (Go.Op.extract (.tmp 0) 1) 3 [v26_4] (fun v28_6 w =>
 oM Tryd.prog (Go.Op.extract (.tmp 0) 2) 24 [v26_4] (fun v29_7 w =>
 callM Tryd.prog 9 #[v23_3] (fun v32_8 w =>
 oM Tryd.prog (Go.Op.extract (.tmp 0) 0) 23 [v32_8] (fun v33_9 w =>
 oM Tryd.prog (Go.Op.extract (.tmp 0) 1) 3 [v32_8] (fun v34_10 w =>
 oM Tryd.prog (Go.Op.extract (.tmp 0) 2) 24 [v32_8] (fun v35_11 w =>
 oM Tryd.prog (Go.Op.binOp Go.BinOp.add 9 (.tmp 0) (.tmp 1) 9) 9 [v21_2, (.string ⟨#[10]⟩)] (fun v38_12 w =>
 oM Tryd.prog (Go.Op.binOp Go.BinOp.add 9 (.tmp 0) (.tmp 1) 9) 9 [v38_12, v23_3] (fun v40_13 w =>
 callM Tryd.prog 9 #[v40_13] (fun v41_14 w =>
 oM Tryd.prog (Go.Op.extract (.tmp 0) 0) 23 [v41_14] (fun v42_15 w =>
 oM Tryd.prog (Go.Op.extract (.tmp 0) 1) 3 [v41_14] (fun v43_16 w =>
 oM Tryd.prog (Go.Op.extract (.tmp 0) 2) 24 [v41_14] (fun v44_17 w =>
 oM Tryd.prog (Go.Op.binOp Go.BinOp.neq 24 (.tmp 0) (.const (.int .i64 0)) 24) 4 [v29_7] (fun v46_18 w =>
 condM v46_18
(gdM (gd v19_1 true) (pureM v44_17) (fun v49_19 w =>
 gdM (gd v19_1 true) (pureM v29_7) (fun v50_20 w =>
 gdM (gd v19_1 true) (oM Tryd.prog (Go.Op.binOp Go.BinOp.eql 24 (.tmp 0) (.tmp 1) 24) 4 [v49_19, v50_20]) (fun v51_21 w =>
 oM Tryd.prog (Go.Op.pick (.tmp 0) (.tmp 1) (.tmp 2)) 4 [v19_1, v51_21, (.bool false)] (fun v52_22 w =>
 gdM (gd v52_22 true) (pureM v43_16) (fun v54_23 w =>
 gdM (gd v52_22 true) (pureM v28_6) (fun v55_24 w =>
 gdM (gd v52_22 true) (oM Tryd.prog (Go.Op.binOp Go.BinOp.eql 3 (.tmp 0) (.tmp 1) 3) 4 [v54_23, v55_24]) (fun v56_25 w =>
 oM Tryd.prog (Go.Op.pick (.tmp 0) (.tmp 1) (.tmp 2)) 4 [v52_22, v56_25, (.bool false)] (fun v57_26 w =>
 gdM (gd v57_26 true) (pureM v42_15) (fun v59_27 w =>
 gdM (gd v57_26 true) (oM Tryd.prog (Go.Op.call (Go.Call.mk (Go.Callee.builtin Go.Builtin.len) #[(.tmp 0)] #[23])) 3 [v59_27]) (fun v60_28 w =>
 gdM (gd v57_26 true) (oM Tryd.prog (Go.Op.binOp Go.BinOp.eql 3 (.tmp 0) (.const (.int .i64 0)) 3) 4 [v60_28]) (fun v61_29 w =>
 oM Tryd.prog (Go.Op.pick (.tmp 0) (.tmp 1) (.tmp 2)) 4 [v57_26, v61_29, (.bool false)] (fun v62_30 w =>
 K v62_30 w) w) w) w) w) w) w) w) w) w) w) w) w)
(oM Tryd.prog (Go.Op.binOp Go.BinOp.neq 24 (.tmp 0) (.const (.int .i64 0)) 24) 4 [v35_11] (fun v64_31 w =>
 condM v64_31
(gdM (gd v19_1 true) (pureM v44_17) (fun v67_32 w =>
 gdM (gd v19_1 true) (pureM v35_11) (fun v68_33 w =>
 gdM (gd v19_1 true) (oM Tryd.prog (Go.Op.binOp Go.BinOp.eql 24 (.tmp 0) (.tmp 1) 24) 4 [v67_32, v68_33]) (fun v69_34 w =>
 oM Tryd.prog (Go.Op.pick (.tmp 0) (.tmp 1) (.tmp 2)) 4 [v19_1, v69_34, (.bool false)] (fun v70_35 w =>
 gdM (gd v70_35 true) (pureM v43_16) (fun v72_36 w =>
 gdM (gd v70_35 true) (pureM v21_2) (fun v73_37 w =>
 gdM (gd v70_35 true) (oM Tryd.prog (Go.Op.call (Go.Call.mk (Go.Callee.builtin Go.Builtin.len) #[(.tmp 0)] #[9])) 3 [v73_37]) (fun v74_38 w =>
 gdM (gd v70_35 true) (oM Tryd.prog (Go.Op.binOp Go.BinOp.add 3 (.tmp 0) (.tmp 1) 3) 3 [v74_38, (.int .i64 1)]) (fun v75_39 w =>
 gdM (gd v70_35 true) (pureM v34_10) (fun v76_40 w =>
 gdM (gd v70_35 true) (oM Tryd.prog (Go.Op.binOp Go.BinOp.add 3 (.tmp 0) (.tmp 1) 3) 3 [v75_39, v76_40]) (fun v77_41 w =>
 gdM (gd v70_35 true) (oM Tryd.prog (Go.Op.binOp Go.BinOp.eql 3 (.tmp 0) (.tmp 1) 3) 4 [v72_36, v77_41]) (fun v78_42 w =>
 oM Tryd.prog (Go.Op.pick (.tmp 0) (.tmp 1) (.tmp 2)) 4 [v70_35, v78_42, (.bool false)] (fun v79_43 w =>
 gdM (gd v79_43 true) (pureM v42_15) (fun v81_44 w =>
 gdM (gd v79_43 true) (oM Tryd.prog (Go.Op.call (Go.Call.mk (Go.Callee.builtin Go.Builtin.len) #[(.tmp 0)] #[23])) 3 [v81_44]) (fun v82_45 w =>
 gdM (gd v79_43 true) (oM Tryd.prog (Go.Op.binOp Go.BinOp.eql 3 (.tmp 0) (.const (.int .i64 0)) 3) 4 [v82_45]) (fun v83_46 w =>
 oM Tryd.prog (Go.Op.pick (.tmp 0) (.tmp 1) (.tmp 2)) 4 [v79_43, v83_46, (.bool false)] (fun v84_47 w =>
 K v84_47 w) w) w) w) w) w) w) w) w) w) w) w) w) w) w) w) w)
(oM Tryd.prog (Go.Op.binOp Go.BinOp.neq 24 (.tmp 0) (.const (.int .i64 0)) 24) 4 [v44_17] (fun v86_48 w =>
 gdM (gd v86_48 false) (pureM v42_15) (fun v88_49 w =>
 gdM (gd v86_48 false) (oM Tryd.prog (Go.Op.call (Go.Call.mk (Go.Callee.builtin Go.Builtin.len) #[(.tmp 0)] #[23])) 3 [v88_49]) (fun v89_50 w =>
 gdM (gd v86_48 false) (pureM v27_5) (fun v90_51 w =>
 gdM (gd v86_48 false) (oM Tryd.prog (Go.Op.call (Go.Call.mk (Go.Callee.builtin Go.Builtin.len) #[(.tmp 0)] #[23])) 3 [v90_51]) (fun v91_52 w =>
 gdM (gd v86_48 false) (pureM v33_9) (fun v92_53 w =>
 gdM (gd v86_48 false) (oM Tryd.prog (Go.Op.call (Go.Call.mk (Go.Callee.builtin Go.Builtin.len) #[(.tmp 0)] #[23])) 3 [v92_53]) (fun v93_54 w =>
 gdM (gd v86_48 false) (oM Tryd.prog (Go.Op.binOp Go.BinOp.add 3 (.tmp 0) (.tmp 1) 3) 3 [v91_52, v93_54]) (fun v94_55 w =>
 gdM (gd v86_48 false) (oM Tryd.prog (Go.Op.binOp Go.BinOp.neq 3 (.tmp 0) (.tmp 1) 3) 4 [v89_50, v94_55]) (fun v95_56 w =>
 oM Tryd.prog (Go.Op.pick (.tmp 0) (.tmp 1) (.tmp 2)) 4 [v86_48, (.bool true), v95_56] (fun v96_57 w =>
 condM v96_57
(K (.bool false) w)
(loopM [(.bool false), (.int .i64 0)] w (fun J_58 m_59 l_60 u_l_60 w0_l_60 => (fun w => (
 oM Tryd.prog (Go.Op.call (Go.Call.mk (Go.Callee.builtin Go.Builtin.len) #[(.tmp 0)] #[23])) 3 [v42_15] (fun v99_61 w =>
 oM Tryd.prog (Go.Op.binOp Go.BinOp.lss 3 (.tmp 0) (.tmp 1) 3) 4 [(l_60.getD 1 undef), v99_61] (fun v100_62 w =>
 condM v100_62
(oM Tryd.prog (Go.Op.build 32 #[]) 32 [] (fun v103_63 w =>
 oM Tryd.prog (Go.Op.alloc 32) 0 [] (fun v18_64 w =>
 oM Tryd.prog (Go.Op.store 32 (.tmp 0) (.tmp 1)) 0 [v18_64, v103_63] (fun _ w =>
 joinM (fun M_65 => (oM Tryd.prog (Go.Op.call (Go.Call.mk (Go.Callee.builtin Go.Builtin.len) #[(.tmp 0)] #[23])) 3 [v27_5] (fun v106_67 w =>
 oM Tryd.prog (Go.Op.binOp Go.BinOp.lss 3 (.tmp 0) (.tmp 1) 3) 4 [(l_60.getD 1 undef), v106_67] (fun v107_68 w =>
 condM v107_68
(oM Tryd.prog (Go.Op.indexAddr 23 (.tmp 0) (.tmp 1)) 0 [v27_5, (l_60.getD 1 undef)] (fun v110_69 w =>
 oM Tryd.prog (Go.Op.load 32 (.tmp 0)) 32 [v110_69] (fun v111_70 w =>
 oM Tryd.prog (Go.Op.store 32 (.tmp 0) (.tmp 1)) 0 [v18_64, v111_70] (fun _ w =>
 M_65 [] w) w) w) w)
(oM Tryd.prog (Go.Op.call (Go.Call.mk (Go.Callee.builtin Go.Builtin.len) #[(.tmp 0)] #[23])) 3 [v27_5] (fun v115_71 w =>
 oM Tryd.prog (Go.Op.binOp Go.BinOp.sub 3 (.tmp 0) (.tmp 1) 3) 3 [(l_60.getD 1 undef), v115_71] (fun v116_72 w =>
 oM Tryd.prog (Go.Op.indexAddr 23 (.tmp 0) (.tmp 1)) 0 [v33_9, v116_72] (fun v117_73 w =>
 oM Tryd.prog (Go.Op.load 32 (.tmp 0)) 32 [v117_73] (fun v118_74 w =>
 oM Tryd.prog (Go.Op.store 32 (.tmp 0) (.tmp 1)) 0 [v18_64, v118_74] (fun _ w =>
 oM Tryd.prog (Go.Op.fieldAddr 32 (.tmp 0) 3) 0 [v18_64] (fun v119_75 w =>
 oM Tryd.prog (Go.Op.load 3 (.tmp 0)) 3 [v119_75] (fun v120_76 w =>
 oM Tryd.prog (Go.Op.call (Go.Call.mk (Go.Callee.builtin Go.Builtin.len) #[(.tmp 0)] #[9])) 3 [v21_2] (fun v122_77 w =>
 oM Tryd.prog (Go.Op.binOp Go.BinOp.add 3 (.tmp 0) (.tmp 1) 3) 3 [v120_76, v122_77] (fun v123_78 w =>
 oM Tryd.prog (Go.Op.binOp Go.BinOp.add 3 (.tmp 0) (.tmp 1) 3) 3 [v123_78, (.int .i64 1)] (fun v124_79 w =>
 oM Tryd.prog (Go.Op.fieldAddr 32 (.tmp 0) 3) 0 [v18_64] (fun v125_80 w =>
 oM Tryd.prog (Go.Op.store 3 (.tmp 0) (.tmp 1)) 0 [v125_80, v124_79] (fun _ w =>
 M_65 [] w) w) w) w) w) w) w) w) w) w) w) w) w)) w) w))
(fun l_66 u_l_66 w => (quietM w (fun C_81 => (oQ Tryd.prog (Go.Op.indexAddr 23 (.tmp 0) (.tmp 1)) 0 [v42_15, (l_60.getD 1 undef)] C_81 (fun v128_82 =>
 oQ Tryd.prog (Go.Op.load 32 (.tmp 0)) 32 [v128_82] C_81 (fun v129_83 =>
 oQ Tryd.prog (Go.Op.load 32 (.tmp 0)) 32 [v18_64] C_81 (fun v130_84 =>
 oQ Tryd.prog (Go.Op.binOp Go.BinOp.neq 32 (.tmp 0) (.tmp 1) 32) 4 [v129_83, v130_84] C_81 (fun v131_85 =>
 ∀ w, C_81 w → (condM v131_85
(K (.bool false) w)
(oM Tryd.prog (Go.Op.binOp Go.BinOp.add 3 (.tmp 0) (.tmp 1) 3) 3 [(l_60.getD 1 undef), (.int .i64 1)] (fun v102_86 w =>
 J_58 [(l_60.getD 0 undef), v102_86] w ∧ m_59 [(l_60.getD 0 undef), v102_86] w < m_59 l_60 w0_l_60) w))))))))))) w) w) w)
(K v19_1 w)) w) w)) w0_l_60))) w) w) w) w) w) w) w) w) w) w)) w)) w) w) w) w) w) w) w) w) w) w) w) w) w) w) w) w) w) w
theorem sh_4_eq (a0 : Value) (a1 : Value) (K : Value → World → Prop) (w : World) : sh_4 a0 a1 K w = code Tryd.prog (fun _ => true) 133 (Tryd.f4.body.getD .skip) (slotsAt [a0, a1]) (retK Tryd.prog [.tmp 4] K) w := by kernel_rfl
theorem sh_4_ok {a0 a1 : Value} {K : Value → World → Prop} {w : World} (h : sh_4 a0 a1 K w) : callM Tryd.prog 4 #[a0, a1] K w :=
  calls_of_code (fun _ => true) (fn := Tryd.f4) (rs := [.tmp 4]) Tryd.func4 rfl rfl (by kernel_rfl) (Nat.le_of_ble_eq_true rfl) ((sh_4_eq a0 a1 K w).mp h)

/-- cloak/cloaklaw01.BaseErrors -/
def sh_5 (a0 : Value) (a1 : Value) (K : Value → World → Prop) (w : World) : Prop :=
 callM Tryd.prog 8 #[] (fun v24_1 w =>
 callM Tryd.prog 10 #[a0] (fun v26_2 w =>
 callM Tryd.prog 9 #[v26_2] (fun v29_3 w =>
 oM Tryd.prog (Go.Op.extract (.tmp 0) 0) 23 [v29_3] (fun v30_4 w =>
 oM Tryd.prog (Go.Op.extract (.tmp 0) 1) 3 [v29_3] (fun v31_5 w =>
 oM Tryd.prog (Go.Op.extract (.tmp 0) 2) 24 [v29_3] (fun v32_6 w =>
 joinM (fun M_7 => (condM a1
(loopM [(.string ⟨#[32, 32, 32, 32, 32, 32, 32, 32, 32, 32]⟩)] w (fun J_9 m_10 l_11 u_l_11 w0_l_11 => (fun w => (
 oM Tryd.prog (Go.Op.call (Go.Call.mk (Go.Callee.builtin Go.Builtin.len) #[(.tmp 0)] #[9])) 3 [(l_11.getD 0 undef)] (fun v35_12 w =>
 oM Tryd.prog (Go.Op.binOp Go.BinOp.lss 3 (.tmp 0) (.tmp 1) 3) 4 [v35_12, (.int .i64 4000)] (fun v36_13 w =>
 condM v36_13
(oM Tryd.prog (Go.Op.binOp Go.BinOp.add 9 (.tmp 0) (.tmp 1) 9) 9 [(l_11.getD 0 undef), (l_11.getD 0 undef)] (fun v39_14 w =>
 J_9 [v39_14] w ∧ m_10 [v39_14] w < m_10 l_11 w0_l_11) w)
(oM Tryd.prog (Go.Op.binOp Go.BinOp.add 9 (.tmp 0) (.tmp 1) 9) 9 [v26_2, (.string ⟨#[10]⟩)] (fun v41_15 w =>
 oM Tryd.prog (Go.Op.call (Go.Call.mk (Go.Callee.builtin Go.Builtin.len) #[(.tmp 0)] #[9])) 3 [v41_15] (fun v46_16 w =>
 oM Tryd.prog (Go.Op.binOp Go.BinOp.sub 3 (.tmp 0) (.tmp 1) 3) 3 [(.int .i64 4000), v46_16] (fun v47_17 w =>
 oM Tryd.prog (Go.Op.slice 9 (.tmp 0) none (some (.tmp 1)) none) 9 [(l_11.getD 0 undef), v47_17] (fun v48_18 w =>
 oM Tryd.prog (Go.Op.binOp Go.BinOp.add 9 (.tmp 0) (.tmp 1) 9) 9 [v41_15, v48_18] (fun v49_19 w =>
 callM Tryd.prog 9 #[v49_19] (fun v50_20 w =>
 oM Tryd.prog (Go.Op.extract (.tmp 0) 0) 23 [v50_20] (fun v51_21 w =>
 oM Tryd.prog (Go.Op.extract (.tmp 0) 1) 3 [v50_20] (fun v52_22 w =>
 oM Tryd.prog (Go.Op.extract (.tmp 0) 2) 24 [v50_20] (fun v53_23 w =>
 oM Tryd.prog (Go.Op.call (Go.Call.mk (Go.Callee.builtin Go.Builtin.len) #[(.tmp 0)] #[9])) 3 [v41_15] (fun v58_24 w =>
 oM Tryd.prog (Go.Op.binOp Go.BinOp.sub 3 (.tmp 0) (.tmp 1) 3) 3 [(.int .i64 4001), v58_24] (fun v59_25 w =>
 oM Tryd.prog (Go.Op.slice 9 (.tmp 0) none (some (.tmp 1)) none) 9 [(l_11.getD 0 undef), v59_25] (fun v60_26 w =>
 oM Tryd.prog (Go.Op.binOp Go.BinOp.add 9 (.tmp 0) (.tmp 1) 9) 9 [v41_15, v60_26] (fun v61_27 w =>
 callM Tryd.prog 9 #[v61_27] (fun v62_28 w =>
 oM Tryd.prog (Go.Op.extract (.tmp 0) 0) 23 [v62_28] (fun v63_29 w =>
 oM Tryd.prog (Go.Op.extract (.tmp 0) 1) 3 [v62_28] (fun v64_30 w =>
 oM Tryd.prog (Go.Op.extract (.tmp 0) 2) 24 [v62_28] (fun v65_31 w =>
 oM Tryd.prog (Go.Op.binOp Go.BinOp.neq 24 (.tmp 0) (.const (.int .i64 6)) 24) 4 [v65_31] (fun v67_32 w =>
 gdM (gd v67_32 false) (pureM v64_30) (fun v69_33 w =>
 gdM (gd v67_32 false) (oM Tryd.prog (Go.Op.binOp Go.BinOp.neq 3 (.tmp 0) (.const (.int .i64 0)) 3) 4 [v69_33]) (fun v70_34 w =>
 oM Tryd.prog (Go.Op.pick (.tmp 0) (.tmp 1) (.tmp 2)) 4 [v67_32, (.bool true), v70_34] (fun v71_35 w =>
 gdM (gd v71_35 false) (pureM v53_23) (fun v73_36 w =>
 gdM (gd v71_35 false) (pureM v32_6) (fun v74_37 w =>
 gdM (gd v71_35 false) (oM Tryd.prog (Go.Op.binOp Go.BinOp.neq 24 (.tmp 0) (.tmp 1) 24) 4 [v73_36, v74_37]) (fun v75_38 w =>
 oM Tryd.prog (Go.Op.pick (.tmp 0) (.tmp 1) (.tmp 2)) 4 [v71_35, (.bool true), v75_38] (fun v76_39 w =>
 gdM (gd v76_39 false) (pureM v51_21) (fun v78_40 w =>
 gdM (gd v76_39 false) (oM Tryd.prog (Go.Op.call (Go.Call.mk (Go.Callee.builtin Go.Builtin.len) #[(.tmp 0)] #[23])) 3 [v78_40]) (fun v79_41 w =>
 gdM (gd v76_39 false) (pureM v30_4) (fun v80_42 w =>
 gdM (gd v76_39 false) (oM Tryd.prog (Go.Op.call (Go.Call.mk (Go.Callee.builtin Go.Builtin.len) #[(.tmp 0)] #[23])) 3 [v80_42]) (fun v81_43 w =>
 gdM (gd v76_39 false) (oM Tryd.prog (Go.Op.binOp Go.BinOp.neq 3 (.tmp 0) (.tmp 1) 3) 4 [v79_41, v81_43]) (fun v82_44 w =>
 oM Tryd.prog (Go.Op.pick (.tmp 0) (.tmp 1) (.tmp 2)) 4 [v76_39, (.bool true), v82_44] (fun v83_45 w =>
 condM v83_45
(K (.bool false) w)
(M_7 [(l_11.getD 0 undef), v41_15, v51_21, v52_22, v53_23, v63_29, v64_30, v65_31, (.bool false)] w)) w) w) w) w) w) w) w) w) w) w) w) w) w) w) w) w) w) w) w) w) w) w) w) w) w) w) w) w) w) w) w)) w) w)) w0_l_11))
(M_7 [undef, undef, undef, undef, undef, undef, undef, undef, (.bool false)] w)))
(fun l_8 u_l_8 w => (oM Tryd.prog (Go.Op.binOp Go.BinOp.eql 24 (.tmp 0) (.const (.int .i64 0)) 24) 4 [v32_6] (fun v85_46 w =>
 condM v85_46
(K v24_1 w)
(oM Tryd.prog (Go.Op.binOp Go.BinOp.lss 3 (.tmp 0) (.tmp 1) 3) 4 [v31_5, (.int .i64 0)] (fun v88_47 w =>
 gdM (gd v88_47 false) (pureM v31_5) (fun v90_48 w =>
 gdM (gd v88_47 false) (pureM v26_2) (fun v91_49 w =>
 gdM (gd v88_47 false) (oM Tryd.prog (Go.Op.call (Go.Call.mk (Go.Callee.builtin Go.Builtin.len) #[(.tmp 0)] #[9])) 3 [v91_49]) (fun v92_50 w =>
 gdM (gd v88_47 false) (oM Tryd.prog (Go.Op.binOp Go.BinOp.geq 3 (.tmp 0) (.tmp 1) 3) 4 [v90_48, v92_50]) (fun v93_51 w =>
 oM Tryd.prog (Go.Op.pick (.tmp 0) (.tmp 1) (.tmp 2)) 4 [v88_47, (.bool true), v93_51] (fun v94_52 w =>
 gdM (gd v94_52 false) (pureM v32_6) (fun v96_53 w =>
 gdM (gd v94_52 false) (oM Tryd.prog (Go.Op.binOp Go.BinOp.neq 24 (.tmp 0) (.const (.int .i64 10)) 24) 4 [v96_53]) (fun v97_54 w =>
 gdM (gd v94_52 false) (pureM v97_54) (fun v98_55 w =>
 gdM (gd v98_55 true) (pureM v32_6) (fun v99_56 w =>
 gdM (gd v98_55 true) (oM Tryd.prog (Go.Op.binOp Go.BinOp.neq 24 (.tmp 0) (.const (.int .i64 3)) 24) 4 [v99_56]) (fun v100_57 w =>
 gdM (gd v94_52 false) (oM Tryd.prog (Go.Op.pick (.tmp 0) (.tmp 1) (.tmp 2)) 4 [v98_55, v100_57, (.bool false)]) (fun v101_58 w =>
 gdM (gd v94_52 false) (pureM v101_58) (fun v102_59 w =>
 gdM (gd v102_59 true) (pureM v32_6) (fun v103_60 w =>
 gdM (gd v102_59 true) (oM Tryd.prog (Go.Op.binOp Go.BinOp.neq 24 (.tmp 0) (.const (.int .i64 2)) 24) 4 [v103_60]) (fun v104_61 w =>
 gdM (gd v94_52 false) (oM Tryd.prog (Go.Op.pick (.tmp 0) (.tmp 1) (.tmp 2)) 4 [v102_59, v104_61, (.bool false)]) (fun v105_62 w =>
 oM Tryd.prog (Go.Op.pick (.tmp 0) (.tmp 1) (.tmp 2)) 4 [v94_52, (.bool true), v105_62] (fun v106_63 w =>
 condM v106_63
(K (.bool false) w)
(oM Tryd.prog (Go.Op.slice 9 (.tmp 0) none (some (.tmp 1)) none) 9 [v26_2, v31_5] (fun v110_64 w =>
 callM Tryd.prog 9 #[v110_64] (fun v111_65 w =>
 oM Tryd.prog (Go.Op.extract (.tmp 0) 0) 23 [v111_65] (fun v112_66 w =>
 oM Tryd.prog (Go.Op.extract (.tmp 0) 1) 3 [v111_65] (fun v113_67 w =>
 oM Tryd.prog (Go.Op.extract (.tmp 0) 2) 24 [v111_65] (fun v114_68 w =>
 oM Tryd.prog (Go.Op.slice 9 (.tmp 0) (some (.tmp 1)) none none) 9 [v26_2, v31_5] (fun v118_69 w =>
 callM Tryd.prog 9 #[v118_69] (fun v119_70 w =>
 oM Tryd.prog (Go.Op.extract (.tmp 0) 0) 23 [v119_70] (fun v120_71 w =>
 oM Tryd.prog (Go.Op.extract (.tmp 0) 1) 3 [v119_70] (fun v121_72 w =>
 oM Tryd.prog (Go.Op.extract (.tmp 0) 2) 24 [v119_70] (fun v122_73 w =>
 gdM (gd v24_1 true) (pureM v114_68) (fun v125_74 w =>
 gdM (gd v24_1 true) (oM Tryd.prog (Go.Op.binOp Go.BinOp.eql 24 (.tmp 0) (.const (.int .i64 0)) 24) 4 [v125_74]) (fun v126_75 w =>
 oM Tryd.prog (Go.Op.pick (.tmp 0) (.tmp 1) (.tmp 2)) 4 [v24_1, v126_75, (.bool false)] (fun v127_76 w =>
 gdM (gd v127_76 true) (pureM v122_73) (fun v129_77 w =>
 gdM (gd v127_76 true) (pureM v32_6) (fun v130_78 w =>
 gdM (gd v127_76 true) (oM Tryd.prog (Go.Op.binOp Go.BinOp.eql 24 (.tmp 0) (.tmp 1) 24) 4 [v129_77, v130_78]) (fun v131_79 w =>
 oM Tryd.prog (Go.Op.pick (.tmp 0) (.tmp 1) (.tmp 2)) 4 [v127_76, v131_79, (.bool false)] (fun v132_80 w =>
 gdM (gd v132_80 true) (pureM v121_72) (fun v134_81 w =>
 gdM (gd v132_80 true) (oM Tryd.prog (Go.Op.binOp Go.BinOp.eql 3 (.tmp 0) (.const (.int .i64 0)) 3) 4 [v134_81]) (fun v135_82 w =>
 oM Tryd.prog (Go.Op.pick (.tmp 0) (.tmp 1) (.tmp 2)) 4 [v132_80, v135_82, (.bool false)] (fun v136_83 w =>
 K v136_83 w) w) w) w) w) w) w) w) w) w) w) w) w) w) w) w) w) w) w) w) w)) w) w) w) w) w) w) w) w) w) w) w) w) w) w) w) w) w)) w))) w) w) w) w) w) w
theorem sh_5_eq (a0 : Value) (a1 : Value) (K : Value → World → Prop) (w : World) : sh_5 a0 a1 K w = code Tryd.prog (fun _ => true) 137 (Tryd.f5.body.getD .skip) (slotsAt [a0, a1]) (retK Tryd.prog [.tmp 4] K) w := by kernel_rfl
theorem sh_5_ok {a0 a1 : Value} {K : Value → World → Prop} {w : World} (h : sh_5 a0 a1 K w) : callM Tryd.prog 5 #[a0, a1] K w :=
  calls_of_code (fun _ => true) (fn := Tryd.f5) (rs := [.tmp 4]) Tryd.func5 rfl rfl (by kernel_rfl) (Nat.le_of_ble_eq_true rfl) ((sh_5_eq a0 a1 K w).mp h)

/-- cloak/cloaklaw01.BaseScans -/
def sh_6 (a0 : Value) (a1 : Value) (K : Value → World → Prop) (w : World) : Prop :=
 callM Tryd.prog 8 #[] (fun v22_1 w =>
 oM Tryd.prog (Go.Op.call (Go.Call.mk (Go.Callee.builtin Go.Builtin.len) #[(.tmp 0)] #[23])) 3 [a1] (fun v24_2 w =>
 oM Tryd.prog (Go.Op.binOp Go.BinOp.gtr 3 (.tmp 0) (.tmp 1) 3) 4 [v24_2, (.int .i64 100)] (fun v25_3 w =>
 condM v25_3
(K v22_1 w)
(loopM [(.bool false), (.int .i64 0)] w (fun J_4 m_5 l_6 u_l_6 w0_l_6 => (fun w => (
 oM Tryd.prog (Go.Op.call (Go.Call.mk (Go.Callee.builtin Go.Builtin.len) #[(.tmp 0)] #[23])) 3 [a1] (fun v29_7 w =>
 oM Tryd.prog (Go.Op.binOp Go.BinOp.lss 3 (.tmp 0) (.tmp 1) 3) 4 [(l_6.getD 1 undef), v29_7] (fun v30_8 w =>
 condM v30_8
(oM Tryd.prog (Go.Op.indexAddr 23 (.tmp 0) (.tmp 1)) 0 [a1, (l_6.getD 1 undef)] (fun v35_9 w =>
 oM Tryd.prog (Go.Op.fieldAddr 32 (.tmp 0) 1) 0 [v35_9] (fun v36_10 w =>
 oM Tryd.prog (Go.Op.load 9 (.tmp 0)) 9 [v36_10] (fun v37_11 w =>
 oM Tryd.prog (Go.Op.call (Go.Call.mk (Go.Callee.builtin Go.Builtin.len) #[(.tmp 0)] #[9])) 3 [v37_11] (fun v38_12 w =>
 oM Tryd.prog (Go.Op.binOp Go.BinOp.gtr 3 (.tmp 0) (.tmp 1) 3) 4 [v38_12, (.int .i64 100)] (fun v39_13 w =>
 condM v39_13
(K v22_1 w)
(oM Tryd.prog (Go.Op.binOp Go.BinOp.add 3 (.tmp 0) (.tmp 1) 3) 3 [(l_6.getD 1 undef), (.int .i64 1)] (fun v32_14 w =>
 J_4 [(l_6.getD 0 undef), v32_14] w ∧ m_5 [(l_6.getD 0 undef), v32_14] w < m_5 l_6 w0_l_6) w)) w) w) w) w) w)
(callM Tryd.prog 10 #[a0] (fun v42_15 w =>
 callM Tryd.prog 9 #[v42_15] (fun v45_16 w =>
 oM Tryd.prog (Go.Op.extract (.tmp 0) 0) 23 [v45_16] (fun v46_17 w =>
 oM Tryd.prog (Go.Op.extract (.tmp 0) 1) 3 [v45_16] (fun v47_18 w =>
 oM Tryd.prog (Go.Op.extract (.tmp 0) 2) 24 [v45_16] (fun v48_19 w =>
 callM Tryd.prog 13 #[v42_15] (fun v51_20 w =>
 oM Tryd.prog (Go.Op.extract (.tmp 0) 0) 23 [v51_20] (fun v52_21 w =>
 oM Tryd.prog (Go.Op.extract (.tmp 0) 1) 3 [v51_20] (fun v53_22 w =>
 oM Tryd.prog (Go.Op.extract (.tmp 0) 2) 24 [v51_20] (fun v54_23 w =>
 callM Tryd.prog 14 #[v42_15] (fun v57_24 w =>
 oM Tryd.prog (Go.Op.extract (.tmp 0) 0) 3 [v57_24] (fun v58_25 w =>
 oM Tryd.prog (Go.Op.extract (.tmp 0) 1) 4 [v57_24] (fun v59_26 w =>
 callM Tryd.prog 15 #[v42_15] (fun v62_27 w =>
 oM Tryd.prog (Go.Op.extract (.tmp 0) 0) 3 [v62_27] (fun v63_28 w =>
 oM Tryd.prog (Go.Op.extract (.tmp 0) 1) 4 [v62_27] (fun v64_29 w =>
 callM Tryd.prog 16 #[v42_15] (fun v67_30 w =>
 oM Tryd.prog (Go.Op.extract (.tmp 0) 0) 9 [v67_30] (fun v68_31 w =>
 oM Tryd.prog (Go.Op.extract (.tmp 0) 1) 4 [v67_30] (fun v69_32 w =>
 callM Tryd.prog 17 #[v42_15] (fun v72_33 w =>
 oM Tryd.prog (Go.Op.extract (.tmp 0) 0) 9 [v72_33] (fun v73_34 w =>
 oM Tryd.prog (Go.Op.extract (.tmp 0) 1) 4 [v72_33] (fun v74_35 w =>
 gdM (gd v22_1 true) (pureM v46_17) (fun v77_36 w =>
 gdM (gd v22_1 true) (pureM v52_21) (fun v78_37 w =>
 gdM (gd v22_1 true) (callM Tryd.prog 18 #[v77_36, v78_37]) (fun v79_38 w =>
 oM Tryd.prog (Go.Op.pick (.tmp 0) (.tmp 1) (.tmp 2)) 4 [v22_1, v79_38, (.bool false)] (fun v80_39 w =>
 gdM (gd v80_39 true) (pureM v47_18) (fun v82_40 w =>
 gdM (gd v80_39 true) (pureM v53_22) (fun v83_41 w =>
 gdM (gd v80_39 true) (oM Tryd.prog (Go.Op.binOp Go.BinOp.eql 3 (.tmp 0) (.tmp 1) 3) 4 [v82_40, v83_41]) (fun v84_42 w =>
 oM Tryd.prog (Go.Op.pick (.tmp 0) (.tmp 1) (.tmp 2)) 4 [v80_39, v84_42, (.bool false)] (fun v85_43 w =>
 gdM (gd v85_43 true) (pureM v48_19) (fun v87_44 w =>
 gdM (gd v85_43 true) (pureM v54_23) (fun v88_45 w =>
 gdM (gd v85_43 true) (oM Tryd.prog (Go.Op.binOp Go.BinOp.eql 24 (.tmp 0) (.tmp 1) 24) 4 [v87_44, v88_45]) (fun v89_46 w =>
 oM Tryd.prog (Go.Op.pick (.tmp 0) (.tmp 1) (.tmp 2)) 4 [v85_43, v89_46, (.bool false)] (fun v90_47 w =>
 gdM (gd v90_47 true) (pureM v58_25) (fun v92_48 w =>
 gdM (gd v90_47 true) (pureM v63_28) (fun v93_49 w =>
 gdM (gd v90_47 true) (oM Tryd.prog (Go.Op.binOp Go.BinOp.eql 3 (.tmp 0) (.tmp 1) 3) 4 [v92_48, v93_49]) (fun v94_50 w =>
 oM Tryd.prog (Go.Op.pick (.tmp 0) (.tmp 1) (.tmp 2)) 4 [v90_47, v94_50, (.bool false)] (fun v95_51 w =>
 gdM (gd v95_51 true) (pureM v59_26) (fun v97_52 w =>
 gdM (gd v95_51 true) (pureM v64_29) (fun v98_53 w =>
 gdM (gd v95_51 true) (oM Tryd.prog (Go.Op.binOp Go.BinOp.eql 4 (.tmp 0) (.tmp 1) 4) 4 [v97_52, v98_53]) (fun v99_54 w =>
 oM Tryd.prog (Go.Op.pick (.tmp 0) (.tmp 1) (.tmp 2)) 4 [v95_51, v99_54, (.bool false)] (fun v100_55 w =>
 gdM (gd v100_55 true) (pureM v68_31) (fun v102_56 w =>
 gdM (gd v100_55 true) (pureM v73_34) (fun v103_57 w =>
 gdM (gd v100_55 true) (oM Tryd.prog (Go.Op.binOp Go.BinOp.eql 9 (.tmp 0) (.tmp 1) 9) 4 [v102_56, v103_57]) (fun v104_58 w =>
 oM Tryd.prog (Go.Op.pick (.tmp 0) (.tmp 1) (.tmp 2)) 4 [v100_55, v104_58, (.bool false)] (fun v105_59 w =>
 gdM (gd v105_59 true) (pureM v69_32) (fun v107_60 w =>
 gdM (gd v105_59 true) (pureM v74_35) (fun v108_61 w =>
 gdM (gd v105_59 true) (oM Tryd.prog (Go.Op.binOp Go.BinOp.eql 4 (.tmp 0) (.tmp 1) 4) 4 [v107_60, v108_61]) (fun v109_62 w =>
 oM Tryd.prog (Go.Op.pick (.tmp 0) (.tmp 1) (.tmp 2)) 4 [v105_59, v109_62, (.bool false)] (fun v110_63 w =>
 gdM (gd v110_63 true) (pureM v42_15) (fun v112_64 w =>
 gdM (gd v110_63 true) (callM Tryd.prog 19 #[v112_64]) (fun v113_65 w =>
 gdM (gd v110_63 true) (pureM v42_15) (fun v114_66 w =>
 gdM (gd v110_63 true) (callM Tryd.prog 20 #[v114_66]) (fun v115_67 w =>
 gdM (gd v110_63 true) (oM Tryd.prog (Go.Op.binOp Go.BinOp.eql 4 (.tmp 0) (.tmp 1) 4) 4 [v113_65, v115_67]) (fun v116_68 w =>
 oM Tryd.prog (Go.Op.pick (.tmp 0) (.tmp 1) (.tmp 2)) 4 [v110_63, v116_68, (.bool false)] (fun v117_69 w =>
 gdM (gd v117_69 true) (pureM a1) (fun v119_70 w =>
 gdM (gd v117_69 true) (callM Tryd.prog 11 #[v119_70]) (fun v120_71 w =>
 gdM (gd v117_69 true) (pureM a1) (fun v121_72 w =>
 gdM (gd v117_69 true) (callM Tryd.prog 21 #[v121_72]) (fun v122_73 w =>
 gdM (gd v117_69 true) (oM Tryd.prog (Go.Op.binOp Go.BinOp.eql 9 (.tmp 0) (.tmp 1) 9) 4 [v120_71, v122_73]) (fun v123_74 w =>
 oM Tryd.prog (Go.Op.pick (.tmp 0) (.tmp 1) (.tmp 2)) 4 [v117_69, v123_74, (.bool false)] (fun v124_75 w =>
 K v124_75 w) w) w) w) w) w) w) w) w) w) w) w) w) w) w) w) w) w) w) w) w) w) w) w) w) w) w) w) w) w) w) w) w) w) w) w) w) w) w) w) w) w) w) w) w) w) w) w) w) w) w) w) w) w) w) w) w) w) w) w) w) w)) w) w)) w0_l_6))) w) w) w
theorem sh_6_eq (a0 : Value) (a1 : Value) (K : Value → World → Prop) (w : World) : sh_6 a0 a1 K w = code Tryd.prog (fun _ => true) 125 (Tryd.f6.body.getD .skip) (slotsAt [a0, a1]) (retK Tryd.prog [.tmp 4] K) w := by kernel_rfl
theorem sh_6_ok {a0 a1 : Value} {K : Value → World → Prop} {w : World} (h : sh_6 a0 a1 K w) : callM Tryd.prog 6 #[a0, a1] K w :=
  calls_of_code (fun _ => true) (fn := Tryd.f6) (rs := [.tmp 4]) Tryd.func6 rfl rfl (by kernel_rfl) (Nat.le_of_ble_eq_true rfl) ((sh_6_eq a0 a1 K w).mp h)

/-- cloak/cloaklaw01.BaseQuotes -/
def sh_7 (a0 : Value) (K : Value → World → Prop) (w : World) : Prop :=
 callM Tryd.prog 8 #[] (fun v19_1 w =>
 callM Tryd.prog 10 #[a0] (fun v21_2 w =>
 callM Tryd.prog 16 #[v21_2] (fun v24_3 w =>
 oM Tryd.prog (Go.Op.extract (.tmp 0) 0) 9 [v24_3] (fun v25_4 w =>
 oM Tryd.prog (Go.Op.extract (.tmp 0) 1) 4 [v24_3] (fun v26_5 w =>
 oM Tryd.prog (Go.Op.call (Go.Call.mk (Go.Callee.builtin Go.Builtin.len) #[(.tmp 0)] #[9])) 3 [v21_2] (fun v28_6 w =>
 oM Tryd.prog (Go.Op.binOp Go.BinOp.leq 3 (.tmp 0) (.tmp 1) 3) 4 [v28_6, (.int .i64 400)] (fun v29_7 w =>
 loopM [v29_7, (.int .i64 0)] w (fun J_8 m_9 l_10 u_l_10 w0_l_10 => (fun w => (
 oM Tryd.prog (Go.Op.call (Go.Call.mk (Go.Callee.builtin Go.Builtin.len) #[(.tmp 0)] #[9])) 3 [v21_2] (fun v32_11 w =>
 oM Tryd.prog (Go.Op.binOp Go.BinOp.lss 3 (.tmp 0) (.tmp 1) 3) 4 [(l_10.getD 1 undef), v32_11] (fun v33_12 w =>
 condM v33_12
(gdM (gd (l_10.getD 0 undef) true) (pureM v21_2) (fun v38_13 w =>
 gdM (gd (l_10.getD 0 undef) true) (pureM (l_10.getD 1 undef)) (fun v39_14 w =>
 gdM (gd (l_10.getD 0 undef) true) (oM Tryd.prog (Go.Op.index 9 (.tmp 0) (.tmp 1)) 5 [v38_13, v39_14]) (fun v40_15 w =>
 gdM (gd (l_10.getD 0 undef) true) (oM Tryd.prog (Go.Op.binOp Go.BinOp.geq 5 (.tmp 0) (.tmp 1) 5) 4 [v40_15, (.int .u8 32)]) (fun v41_16 w =>
 oM Tryd.prog (Go.Op.pick (.tmp 0) (.tmp 1) (.tmp 2)) 4 [(l_10.getD 0 undef), v41_16, (.bool false)] (fun v42_17 w =>
 gdM (gd v42_17 true) (pureM v21_2) (fun v44_18 w =>
 gdM (gd v42_17 true) (pureM (l_10.getD 1 undef)) (fun v45_19 w =>
 gdM (gd v42_17 true) (oM Tryd.prog (Go.Op.index 9 (.tmp 0) (.tmp 1)) 5 [v44_18, v45_19]) (fun v46_20 w =>
 gdM (gd v42_17 true) (oM Tryd.prog (Go.Op.binOp Go.BinOp.leq 5 (.tmp 0) (.tmp 1) 5) 4 [v46_20, (.int .u8 126)]) (fun v47_21 w =>
 oM Tryd.prog (Go.Op.pick (.tmp 0) (.tmp 1) (.tmp 2)) 4 [v42_17, v47_21, (.bool false)] (fun v48_22 w =>
 oM Tryd.prog (Go.Op.binOp Go.BinOp.add 3 (.tmp 0) (.tmp 1) 3) 3 [(l_10.getD 1 undef), (.int .i64 1)] (fun v35_23 w =>
 J_8 [v48_22, v35_23] w ∧ m_9 [v48_22, v35_23] w < m_9 l_10 w0_l_10) w) w) w) w) w) w) w) w) w) w) w)
(oM Tryd.prog (Go.Op.binOp Go.BinOp.neq 4 (.tmp 0) (.tmp 1) 4) 4 [v26_5, (l_10.getD 0 undef)] (fun v51_24 w =>
 gdM (gd v51_24 false) (pureM v26_5) (fun v53_25 w =>
 gdM (gd v51_24 false) (oM Tryd.prog (Go.Op.unOp Go.UnOp.not 4 (.tmp 0)) 4 [v53_25]) (fun v54_26 w =>
 gdM (gd v51_24 false) (pureM v54_26) (fun v55_27 w =>
 gdM (gd v55_27 true) (pureM v25_4) (fun v56_28 w =>
 gdM (gd v55_27 true) (oM Tryd.prog (Go.Op.binOp Go.BinOp.neq 9 (.tmp 0) (.const (.string ⟨#[]⟩)) 9) 4 [v56_28]) (fun v57_29 w =>
 gdM (gd v51_24 false) (oM Tryd.prog (Go.Op.pick (.tmp 0) (.tmp 1) (.tmp 2)) 4 [v55_27, v57_29, (.bool false)]) (fun v58_30 w =>
 oM Tryd.prog (Go.Op.pick (.tmp 0) (.tmp 1) (.tmp 2)) 4 [v51_24, (.bool true), v58_30] (fun v59_31 w =>
 condM v59_31
(K (.bool false) w)
(joinM (fun M_32 => (condM v26_5
(callM Tryd.prog 9 #[v25_4] (fun v63_34 w =>
 oM Tryd.prog (Go.Op.extract (.tmp 0) 0) 23 [v63_34] (fun v64_35 w =>
 oM Tryd.prog (Go.Op.extract (.tmp 0) 1) 3 [v63_34] (fun v65_36 w =>
 oM Tryd.prog (Go.Op.extract (.tmp 0) 2) 24 [v63_34] (fun v66_37 w =>
 oM Tryd.prog (Go.Op.binOp Go.BinOp.neq 24 (.tmp 0) (.const (.int .i64 0)) 24) 4 [v66_37] (fun v68_38 w =>
 gdM (gd v68_38 false) (pureM v64_35) (fun v70_39 w =>
 gdM (gd v68_38 false) (oM Tryd.prog (Go.Op.call (Go.Call.mk (Go.Callee.builtin Go.Builtin.len) #[(.tmp 0)] #[23])) 3 [v70_39]) (fun v71_40 w =>
 gdM (gd v68_38 false) (oM Tryd.prog (Go.Op.binOp Go.BinOp.neq 3 (.tmp 0) (.const (.int .i64 1)) 3) 4 [v71_40]) (fun v72_41 w =>
 oM Tryd.prog (Go.Op.pick (.tmp 0) (.tmp 1) (.tmp 2)) 4 [v68_38, (.bool true), v72_41] (fun v73_42 w =>
 gdM (gd v73_42 false) (pureM v64_35) (fun v75_43 w =>
 gdM (gd v73_42 false) (oM Tryd.prog (Go.Op.indexAddr 23 (.tmp 0) (.tmp 1)) 0 [v75_43, (.int .i64 0)]) (fun v76_44 w =>
 gdM (gd v73_42 false) (oM Tryd.prog (Go.Op.load 32 (.tmp 0)) 32 [v76_44]) (fun v77_45 w =>
 gdM (gd v73_42 false) (pureM v21_2) (fun v78_46 w =>
 gdM (gd v73_42 false) (oM Tryd.prog (Go.Op.build 32 #[(0, (.tmp 0)), (1, (.tmp 1))]) 32 [(.int .i64 2), v78_46]) (fun v79_47 w =>
 gdM (gd v73_42 false) (oM Tryd.prog (Go.Op.binOp Go.BinOp.neq 32 (.tmp 0) (.tmp 1) 32) 4 [v77_45, v79_47]) (fun v80_48 w =>
 oM Tryd.prog (Go.Op.pick (.tmp 0) (.tmp 1) (.tmp 2)) 4 [v73_42, (.bool true), v80_48] (fun v81_49 w =>
 condM v81_49
(K (.bool false) w)
(M_32 [v64_35, v65_36, v66_37, (.bool false)] w)) w) w) w) w) w) w) w) w) w) w) w) w) w) w) w) w)
(M_32 [undef, undef, undef, (.bool false)] w)))
(fun l_33 u_l_33 w => (callM Tryd.prog 9 #[v21_2] (fun v84_50 w =>
 oM Tryd.prog (Go.Op.extract (.tmp 0) 0) 23 [v84_50] (fun v85_51 w =>
 oM Tryd.prog (Go.Op.extract (.tmp 0) 1) 3 [v84_50] (fun v86_52 w =>
 oM Tryd.prog (Go.Op.extract (.tmp 0) 2) 24 [v84_50] (fun v87_53 w =>
 callM Tryd.prog 14 #[v21_2] (fun v90_54 w =>
 oM Tryd.prog (Go.Op.extract (.tmp 0) 0) 3 [v90_54] (fun v91_55 w =>
 oM Tryd.prog (Go.Op.extract (.tmp 0) 1) 4 [v90_54] (fun v92_56 w =>
 callM Tryd.prog 19 #[v21_2] (fun v94_57 w =>
 oM Tryd.prog (Go.Op.binOp Go.BinOp.neq 24 (.tmp 0) (.const (.int .i64 0)) 24) 4 [v87_53] (fun v96_58 w =>
 gdM (gd v96_58 false) (pureM v85_51) (fun v98_59 w =>
 gdM (gd v96_58 false) (oM Tryd.prog (Go.Op.call (Go.Call.mk (Go.Callee.builtin Go.Builtin.len) #[(.tmp 0)] #[23])) 3 [v98_59]) (fun v99_60 w =>
 gdM (gd v96_58 false) (oM Tryd.prog (Go.Op.binOp Go.BinOp.neq 3 (.tmp 0) (.const (.int .i64 1)) 3) 4 [v99_60]) (fun v100_61 w =>
 oM Tryd.prog (Go.Op.pick (.tmp 0) (.tmp 1) (.tmp 2)) 4 [v96_58, (.bool true), v100_61] (fun v101_62 w =>
 condM v101_62
(gdM (gd v19_1 true) (pureM v94_57) (fun v104_63 w =>
 gdM (gd v19_1 true) (oM Tryd.prog (Go.Op.unOp Go.UnOp.not 4 (.tmp 0)) 4 [v104_63]) (fun v105_64 w =>
 oM Tryd.prog (Go.Op.pick (.tmp 0) (.tmp 1) (.tmp 2)) 4 [v19_1, v105_64, (.bool false)] (fun v106_65 w =>
 gdM (gd v106_65 true) (pureM v92_56) (fun v108_66 w =>
 gdM (gd v106_65 true) (oM Tryd.prog (Go.Op.unOp Go.UnOp.not 4 (.tmp 0)) 4 [v108_66]) (fun v109_67 w =>
 oM Tryd.prog (Go.Op.pick (.tmp 0) (.tmp 1) (.tmp 2)) 4 [v106_65, v109_67, (.bool false)] (fun v110_68 w =>
 gdM (gd v110_68 true) (pureM v91_55) (fun v112_69 w =>
 gdM (gd v110_68 true) (oM Tryd.prog (Go.Op.binOp Go.BinOp.eql 3 (.tmp 0) (.const (.int .i64 0)) 3) 4 [v112_69]) (fun v113_70 w =>
 oM Tryd.prog (Go.Op.pick (.tmp 0) (.tmp 1) (.tmp 2)) 4 [v110_68, v113_70, (.bool false)] (fun v114_71 w =>
 K v114_71 w) w) w) w) w) w) w) w) w) w)
(oM Tryd.prog (Go.Op.indexAddr 23 (.tmp 0) (.tmp 1)) 0 [v85_51, (.int .i64 0)] (fun v116_72 w =>
 oM Tryd.prog (Go.Op.fieldAddr 32 (.tmp 0) 1) 0 [v116_72] (fun v117_73 w =>
 oM Tryd.prog (Go.Op.load 9 (.tmp 0)) 9 [v117_73] (fun v118_74 w =>
 oM Tryd.prog (Go.Op.binOp Go.BinOp.eql 9 (.tmp 0) (.tmp 1) 9) 4 [v118_74, v21_2] (fun v120_75 w =>
 gdM (gd v120_75 true) (pureM v85_51) (fun v122_76 w =>
 gdM (gd v120_75 true) (oM Tryd.prog (Go.Op.indexAddr 23 (.tmp 0) (.tmp 1)) 0 [v122_76, (.int .i64 0)]) (fun v123_77 w =>
 gdM (gd v120_75 true) (oM Tryd.prog (Go.Op.fieldAddr 32 (.tmp 0) 3) 0 [v123_77]) (fun v124_78 w =>
 gdM (gd v120_75 true) (oM Tryd.prog (Go.Op.load 3 (.tmp 0)) 3 [v124_78]) (fun v125_79 w =>
 gdM (gd v120_75 true) (oM Tryd.prog (Go.Op.binOp Go.BinOp.eql 3 (.tmp 0) (.const (.int .i64 0)) 3) 4 [v125_79]) (fun v126_80 w =>
 oM Tryd.prog (Go.Op.pick (.tmp 0) (.tmp 1) (.tmp 2)) 4 [v120_75, v126_80, (.bool false)] (fun v127_81 w =>
 gdM (gd v127_81 true) (pureM v85_51) (fun v131_82 w =>
 gdM (gd v127_81 true) (oM Tryd.prog (Go.Op.indexAddr 23 (.tmp 0) (.tmp 1)) 0 [v131_82, (.int .i64 0)]) (fun v132_83 w =>
 gdM (gd v127_81 true) (oM Tryd.prog (Go.Op.fieldAddr 32 (.tmp 0) 0) 0 [v132_83]) (fun v133_84 w =>
 gdM (gd v127_81 true) (oM Tryd.prog (Go.Op.load 3 (.tmp 0)) 3 [v133_84]) (fun v134_85 w =>
 gdM (gd v127_81 true) (oM Tryd.prog (Go.Op.binOp Go.BinOp.eql 3 (.tmp 0) (.const (.int .i64 0)) 3) 4 [v134_85]) (fun v135_86 w =>
 oM Tryd.prog (Go.Op.pick (.tmp 0) (.tmp 1) (.tmp 2)) 4 [v127_81, v135_86, (.bool false)] (fun v136_87 w =>
 oM Tryd.prog (Go.Op.binOp Go.BinOp.neq 4 (.tmp 0) (.tmp 1) 4) 4 [v94_57, v136_87] (fun v137_88 w =>
 gdM (gd v137_88 false) (pureM v92_56) (fun v139_89 w =>
 gdM (gd v137_88 false) (pureM v127_81) (fun v140_90 w =>
 gdM (gd v137_88 false) (pureM v140_90) (fun v141_91 w =>
 gdM (gd v141_91 true) (pureM v85_51) (fun v142_92 w =>
 gdM (gd v141_91 true) (oM Tryd.prog (Go.Op.indexAddr 23 (.tmp 0) (.tmp 1)) 0 [v142_92, (.int .i64 0)]) (fun v143_93 w =>
 gdM (gd v141_91 true) (oM Tryd.prog (Go.Op.fieldAddr 32 (.tmp 0) 0) 0 [v143_93]) (fun v144_94 w =>
 gdM (gd v141_91 true) (oM Tryd.prog (Go.Op.load 3 (.tmp 0)) 3 [v144_94]) (fun v145_95 w =>
 gdM (gd v141_91 true) (oM Tryd.prog (Go.Op.binOp Go.BinOp.eql 3 (.tmp 0) (.const (.int .i64 1)) 3) 4 [v145_95]) (fun v146_96 w =>
 gdM (gd v137_88 false) (oM Tryd.prog (Go.Op.pick (.tmp 0) (.tmp 1) (.tmp 2)) 4 [v141_91, v146_96, (.bool false)]) (fun v147_97 w =>
 gdM (gd v137_88 false) (oM Tryd.prog (Go.Op.binOp Go.BinOp.neq 4 (.tmp 0) (.tmp 1) 4) 4 [v139_89, v147_97]) (fun v148_98 w =>
 oM Tryd.prog (Go.Op.pick (.tmp 0) (.tmp 1) (.tmp 2)) 4 [v137_88, (.bool true), v148_98] (fun v149_99 w =>
 condM v149_99
(K (.bool false) w)
(gdM (gd v19_1 true) (pureM v94_57) (fun v152_100 w =>
 gdM (gd v19_1 true) (oM Tryd.prog (Go.Op.unOp Go.UnOp.not 4 (.tmp 0)) 4 [v152_100]) (fun v153_101 w =>
 gdM (gd v19_1 true) (pureM v153_101) (fun v154_102 w =>
 gdM (gd v154_102 false) (pureM v21_2) (fun v155_103 w =>
 gdM (gd v154_102 false) (oM Tryd.prog (Go.Op.call (Go.Call.mk (Go.Callee.builtin Go.Builtin.len) #[(.tmp 0)] #[9])) 3 [v155_103]) (fun v156_104 w =>
 gdM (gd v154_102 false) (oM Tryd.prog (Go.Op.binOp Go.BinOp.leq 3 (.tmp 0) (.tmp 1) 3) 4 [v156_104, (.int .i64 20)]) (fun v157_105 w =>
 gdM (gd v19_1 true) (oM Tryd.prog (Go.Op.pick (.tmp 0) (.tmp 1) (.tmp 2)) 4 [v154_102, (.bool true), v157_105]) (fun v158_106 w =>
 oM Tryd.prog (Go.Op.pick (.tmp 0) (.tmp 1) (.tmp 2)) 4 [v19_1, v158_106, (.bool false)] (fun v159_107 w =>
 gdM (gd v159_107 true) (pureM v92_56) (fun v161_108 w =>
 gdM (gd v159_107 true) (oM Tryd.prog (Go.Op.unOp Go.UnOp.not 4 (.tmp 0)) 4 [v161_108]) (fun v162_109 w =>
 gdM (gd v159_107 true) (pureM v162_109) (fun v163_110 w =>
 gdM (gd v163_110 false) (pureM v91_55) (fun v164_111 w =>
 gdM (gd v163_110 false) (pureM v85_51) (fun v165_112 w =>
 gdM (gd v163_110 false) (oM Tryd.prog (Go.Op.indexAddr 23 (.tmp 0) (.tmp 1)) 0 [v165_112, (.int .i64 0)]) (fun v166_113 w =>
 gdM (gd v163_110 false) (oM Tryd.prog (Go.Op.fieldAddr 32 (.tmp 0) 2) 0 [v166_113]) (fun v167_114 w =>
 gdM (gd v163_110 false) (oM Tryd.prog (Go.Op.load 3 (.tmp 0)) 3 [v167_114]) (fun v168_115 w =>
 gdM (gd v163_110 false) (oM Tryd.prog (Go.Op.binOp Go.BinOp.eql 3 (.tmp 0) (.tmp 1) 3) 4 [v164_111, v168_115]) (fun v169_116 w =>
 gdM (gd v163_110 false) (pureM v169_116) (fun v170_117 w =>
 gdM (gd v170_117 true) (pureM v91_55) (fun v171_118 w =>
 gdM (gd v170_117 true) (oM Tryd.prog (Go.Op.binOp Go.BinOp.geq 3 (.tmp 0) (.tmp 1) 3) 4 [v171_118, (.int .i64 0)]) (fun v172_119 w =>
 gdM (gd v163_110 false) (oM Tryd.prog (Go.Op.pick (.tmp 0) (.tmp 1) (.tmp 2)) 4 [v170_117, v172_119, (.bool false)]) (fun v173_120 w =>
 gdM (gd v163_110 false) (pureM v173_120) (fun v174_121 w =>
 gdM (gd v174_121 true) (pureM v91_55) (fun v175_122 w =>
 gdM (gd v174_121 true) (oM Tryd.prog (Go.Op.binOp Go.BinOp.leq 3 (.tmp 0) (.tmp 1) 3) 4 [v175_122, (.int .i64 1099511627776)]) (fun v176_123 w =>
 gdM (gd v163_110 false) (oM Tryd.prog (Go.Op.pick (.tmp 0) (.tmp 1) (.tmp 2)) 4 [v174_121, v176_123, (.bool false)]) (fun v177_124 w =>
 gdM (gd v159_107 true) (oM Tryd.prog (Go.Op.pick (.tmp 0) (.tmp 1) (.tmp 2)) 4 [v163_110, (.bool true), v177_124]) (fun v178_125 w =>
 oM Tryd.prog (Go.Op.pick (.tmp 0) (.tmp 1) (.tmp 2)) 4 [v159_107, v178_125, (.bool false)] (fun v179_126 w =>
 K v179_126 w) w) w) w) w) w) w) w) w) w) w) w) w) w) w) w) w) w) w) w) w) w) w) w) w) w) w) w)) w) w) w) w) w) w) w) w) w) w) w) w) w) w) w) w) w) w) w) w) w) w) w) w) w) w) w) w)) w) w) w) w) w) w) w) w) w) w) w) w) w)))) w) w) w) w) w) w) w) w)) w) w)) w0_l_10)) w) w) w) w) w) w) w
theorem sh_7_eq (a0 : Value) (K : Value → World → Prop) (w : World) : sh_7 a0 K w = code Tryd.prog (fun _ => true) 180 (Tryd.f7.body.getD .skip) (slotsAt [a0]) (retK Tryd.prog [.tmp 2] K) w := by kernel_rfl
theorem sh_7_ok {a0 : Value} {K : Value → World → Prop} {w : World} (h : sh_7 a0 K w) : callM Tryd.prog 7 #[a0] K w :=
  calls_of_code (fun _ => true) (fn := Tryd.f7) (rs := [.tmp 2]) Tryd.func7 rfl rfl (by kernel_rfl) (Nat.le_of_ble_eq_true rfl) ((sh_7_eq a0 K w).mp h)

/-- cloak/cloaklaw01.saneTokens -/
def sh_8 (K : Value → World → Prop) (w : World) : Prop :=
 callM Tryd.prog 9 #[(.string ⟨#[97, 49, 32, 61, 32, 34, 120, 92, 34, 121, 34, 59, 32, 35, 32, 122]⟩)] (fun v23_1 w =>
 oM Tryd.prog (Go.Op.extract (.tmp 0) 0) 23 [v23_1] (fun v24_2 w =>
 oM Tryd.prog (Go.Op.extract (.tmp 0) 1) 3 [v23_1] (fun v25_3 w =>
 oM Tryd.prog (Go.Op.extract (.tmp 0) 2) 24 [v23_1] (fun v26_4 w =>
 callM Tryd.prog 9 #[(.string ⟨#[120, 32, 48, 48, 55]⟩)] (fun v28_5 w =>
 oM Tryd.prog (Go.Op.extract (.tmp 0) 0) 23 [v28_5] (fun v29_6 w =>
 oM Tryd.prog (Go.Op.extract (.tmp 0) 1) 3 [v28_5] (fun v30_7 w =>
 oM Tryd.prog (Go.Op.extract (.tmp 0) 2) 24 [v28_5] (fun v31_8 w =>
 callM Tryd.prog 9 #[(.string ⟨#[97, 32, 33, 32, 98]⟩)] (fun v33_9 w =>
 oM Tryd.prog (Go.Op.extract (.tmp 0) 0) 23 [v33_9] (fun v34_10 w =>
 oM Tryd.prog (Go.Op.extract (.tmp 0) 1) 3 [v33_9] (fun v35_11 w =>
 oM Tryd.prog (Go.Op.extract (.tmp 0) 2) 24 [v33_9] (fun v36_12 w =>
 callM Tryd.prog 9 #[(.string ⟨#[34, 97, 98]⟩)] (fun v38_13 w =>
 oM Tryd.prog (Go.Op.extract (.tmp 0) 0) 23 [v38_13] (fun v39_14 w =>
 oM Tryd.prog (Go.Op.extract (.tmp 0) 1) 3 [v38_13] (fun v40_15 w =>
 oM Tryd.prog (Go.Op.extract (.tmp 0) 2) 24 [v38_13] (fun v41_16 w =>
 callM Tryd.prog 9 #[(.string ⟨#[102, 40, 50, 46, 46, 120, 60, 61, 34, 97, 34, 41]⟩)] (fun v43_17 w =>
 oM Tryd.prog (Go.Op.extract (.tmp 0) 0) 23 [v43_17] (fun v44_18 w =>
 oM Tryd.prog (Go.Op.extract (.tmp 0) 1) 3 [v43_17] (fun v45_19 w =>
 oM Tryd.prog (Go.Op.extract (.tmp 0) 2) 24 [v43_17] (fun v46_20 w =>
 oM Tryd.prog (Go.Op.build 32 #[(0, (.tmp 0)), (1, (.tmp 1))]) 32 [(.int .i64 0), (.string ⟨#[97, 49]⟩)] (fun v47_21 w =>
 oM Tryd.prog (Go.Op.build 32 #[(0, (.tmp 0)), (1, (.tmp 1)), (3, (.tmp 2))]) 32 [(.int .i64 3), (.string ⟨#[61]⟩), (.int .i64 3)] (fun v48_22 w =>
 oM Tryd.prog (Go.Op.build 32 #[(0, (.tmp 0)), (1, (.tmp 1)), (3, (.tmp 2))]) 32 [(.int .i64 2), (.string ⟨#[120, 34, 121]⟩), (.int .i64 5)] (fun v49_23 w =>
 oM Tryd.prog (Go.Op.build 32 #[(0, (.tmp 0)), (1, (.tmp 1)), (3, (.tmp 2))]) 32 [(.int .i64 3), (.string ⟨#[59]⟩), (.int .i64 11)] (fun v50_24 w =>
 oM Tryd.prog (Go.Op.buildSlice 23 4 #[(0, (.tmp 0)), (1, (.tmp 1)), (2, (.tmp 2)), (3, (.tmp 3))]) 23 [v47_21, v48_22, v49_23, v50_24] (fun v51_25 w =>
 callM Tryd.prog 14 #[(.string ⟨#[49, 50]⟩)] (fun v53_26 w =>
 oM Tryd.prog (Go.Op.extract (.tmp 0) 0) 3 [v53_26] (fun v54_27 w =>
 oM Tryd.prog (Go.Op.extract (.tmp 0) 1) 4 [v53_26] (fun v55_28 w =>
 callM Tryd.prog 14 #[(.string ⟨#[48, 49, 50]⟩)] (fun v57_29 w =>
 oM Tryd.prog (Go.Op.extract (.tmp 0) 0) 3 [v57_29] (fun v58_30 w =>
 oM Tryd.prog (Go.Op.extract (.tmp 0) 1) 4 [v57_29] (fun v59_31 w =>
 callM Tryd.prog 18 #[v24_2, v51_25] (fun v62_32 w =>
 gdM (gd v62_32 true) (pureM v26_4) (fun v64_33 w =>
 gdM (gd v62_32 true) (oM Tryd.prog (Go.Op.binOp Go.BinOp.eql 24 (.tmp 0) (.const (.int .i64 0)) 24) 4 [v64_33]) (fun v65_34 w =>
 oM Tryd.prog (Go.Op.pick (.tmp 0) (.tmp 1) (.tmp 2)) 4 [v62_32, v65_34, (.bool false)] (fun v66_35 w =>
 gdM (gd v66_35 true) (pureM v31_8) (fun v68_36 w =>
 gdM (gd v66_35 true) (oM Tryd.prog (Go.Op.binOp Go.BinOp.eql 24 (.tmp 0) (.const (.int .i64 3)) 24) 4 [v68_36]) (fun v69_37 w =>
 oM Tryd.prog (Go.Op.pick (.tmp 0) (.tmp 1) (.tmp 2)) 4 [v66_35, v69_37, (.bool false)] (fun v70_38 w =>
 gdM (gd v70_38 true) (pureM v30_7) (fun v72_39 w =>
 gdM (gd v70_38 true) (oM Tryd.prog (Go.Op.binOp Go.BinOp.eql 3 (.tmp 0) (.const (.int .i64 2)) 3) 4 [v72_39]) (fun v73_40 w =>
 oM Tryd.prog (Go.Op.pick (.tmp 0) (.tmp 1) (.tmp 2)) 4 [v70_38, v73_40, (.bool false)] (fun v74_41 w =>
 gdM (gd v74_41 true) (pureM v36_12) (fun v76_42 w =>
 gdM (gd v74_41 true) (oM Tryd.prog (Go.Op.binOp Go.BinOp.eql 24 (.tmp 0) (.const (.int .i64 10)) 24) 4 [v76_42]) (fun v77_43 w =>
 oM Tryd.prog (Go.Op.pick (.tmp 0) (.tmp 1) (.tmp 2)) 4 [v74_41, v77_43, (.bool false)] (fun v78_44 w =>
 gdM (gd v78_44 true) (pureM v35_11) (fun v80_45 w =>
 gdM (gd v78_44 true) (oM Tryd.prog (Go.Op.binOp Go.BinOp.eql 3 (.tmp 0) (.const (.int .i64 2)) 3) 4 [v80_45]) (fun v81_46 w =>
 oM Tryd.prog (Go.Op.pick (.tmp 0) (.tmp 1) (.tmp 2)) 4 [v78_44, v81_46, (.bool false)] (fun v82_47 w =>
 gdM (gd v82_47 true) (pureM v41_16) (fun v84_48 w =>
 gdM (gd v82_47 true) (oM Tryd.prog (Go.Op.binOp Go.BinOp.eql 24 (.tmp 0) (.const (.int .i64 2)) 24) 4 [v84_48]) (fun v85_49 w =>
 oM Tryd.prog (Go.Op.pick (.tmp 0) (.tmp 1) (.tmp 2)) 4 [v82_47, v85_49, (.bool false)] (fun v86_50 w =>
 gdM (gd v86_50 true) (pureM v40_15) (fun v88_51 w =>
 gdM (gd v86_50 true) (oM Tryd.prog (Go.Op.binOp Go.BinOp.eql 3 (.tmp 0) (.const (.int .i64 0)) 3) 4 [v88_51]) (fun v89_52 w =>
 oM Tryd.prog (Go.Op.pick (.tmp 0) (.tmp 1) (.tmp 2)) 4 [v86_50, v89_52, (.bool false)] (fun v90_53 w =>
 gdM (gd v90_53 true) (pureM v46_20) (fun v92_54 w =>
 gdM (gd v90_53 true) (oM Tryd.prog (Go.Op.binOp Go.BinOp.eql 24 (.tmp 0) (.const (.int .i64 0)) 24) 4 [v92_54]) (fun v93_55 w =>
 oM Tryd.prog (Go.Op.pick (.tmp 0) (.tmp 1) (.tmp 2)) 4 [v90_53, v93_55, (.bool false)] (fun v94_56 w =>
 gdM (gd v94_56 true) (pureM v44_18) (fun v97_57 w =>
 gdM (gd v94_56 true) (callM Tryd.prog 11 #[v97_57]) (fun v98_58 w =>
 gdM (gd v94_56 true) (oM Tryd.prog (Go.Op.binOp Go.BinOp.eql 9 (.tmp 0) (.const (.string ⟨#[102, 32, 40, 32, 50, 32, 46, 46, 32, 120, 32, 60, 61, 32, 34, 97, 34, 32, 41]⟩)) 9) 4 [v98_58]) (fun v99_59 w =>
 oM Tryd.prog (Go.Op.pick (.tmp 0) (.tmp 1) (.tmp 2)) 4 [v94_56, v99_59, (.bool false)] (fun v100_60 w =>
 gdM (gd v100_60 true) (callM Tryd.prog 19 #[(.string ⟨#[97, 95, 49]⟩)]) (fun v102_61 w =>
 oM Tryd.prog (Go.Op.pick (.tmp 0) (.tmp 1) (.tmp 2)) 4 [v100_60, v102_61, (.bool false)] (fun v103_62 w =>
 gdM (gd v103_62 true) (callM Tryd.prog 19 #[(.string ⟨#[49, 97]⟩)]) (fun v105_63 w =>
 gdM (gd v103_62 true) (oM Tryd.prog (Go.Op.unOp Go.UnOp.not 4 (.tmp 0)) 4 [v105_63]) (fun v106_64 w =>
 oM Tryd.prog (Go.Op.pick (.tmp 0) (.tmp 1) (.tmp 2)) 4 [v103_62, v106_64, (.bool false)] (fun v107_65 w =>
 gdM (gd v107_65 true) (pureM v54_27) (fun v109_66 w =>
 gdM (gd v107_65 true) (oM Tryd.prog (Go.Op.binOp Go.BinOp.eql 3 (.tmp 0) (.const (.int .i64 12)) 3) 4 [v109_66]) (fun v110_67 w =>
 oM Tryd.prog (Go.Op.pick (.tmp 0) (.tmp 1) (.tmp 2)) 4 [v107_65, v110_67, (.bool false)] (fun v111_68 w =>
 gdM (gd v111_68 true) (pureM v55_28) (fun v113_69 w =>
 oM Tryd.prog (Go.Op.pick (.tmp 0) (.tmp 1) (.tmp 2)) 4 [v111_68, v113_69, (.bool false)] (fun v114_70 w =>
 gdM (gd v114_70 true) (pureM v59_31) (fun v116_71 w =>
 gdM (gd v114_70 true) (oM Tryd.prog (Go.Op.unOp Go.UnOp.not 4 (.tmp 0)) 4 [v116_71]) (fun v117_72 w =>
 oM Tryd.prog (Go.Op.pick (.tmp 0) (.tmp 1) (.tmp 2)) 4 [v114_70, v117_72, (.bool false)] (fun v118_73 w =>
 K v118_73 w) w) w) w) w) w) w) w) w) w) w) w) w) w) w) w) w) w) w) w) w) w) w) w) w) w) w) w) w) w) w) w) w) w) w) w) w) w) w) w) w) w) w) w) w) w) w) w) w) w) w) w) w) w) w) w) w) w) w) w) w) w) w) w) w) w) w) w) w) w) w) w) w) w
theorem sh_8_eq (K : Value → World → Prop) (w : World) : sh_8 K w = code Tryd.prog (fun _ => true) 119 (Tryd.f8.body.getD .skip) (slotsAt []) (retK Tryd.prog [.tmp 0] K) w := by kernel_rfl
theorem sh_8_ok {K : Value → World → Prop} {w : World} (h : sh_8 K w) : callM Tryd.prog 8 #[] K w :=
  calls_of_code (fun _ => true) (fn := Tryd.f8) (rs := [.tmp 0]) Tryd.func8 rfl rfl (by kernel_rfl) (Nat.le_of_ble_eq_true rfl) ((sh_8_eq K w).mp h)

/-- cloak/base.Scan -/
def sh_9 (a0 : Value) (K : Value → World → Prop) (w : World) : Prop :=
 oM Tryd.prog (Go.Op.call (Go.Call.mk (Go.Callee.builtin Go.Builtin.len) #[(.tmp 0)] #[9])) 3 [a0] (fun v11_1 w =>
 oM Tryd.prog (Go.Op.binOp Go.BinOp.gtr 3 (.tmp 0) (.tmp 1) 3) 4 [v11_1, (.int .i64 4000)] (fun v12_2 w =>
 condM v12_2
(K (.tuple #[(.slice none 0 0), (.int .i64 0), (.int .i64 6)]) w)
(loopM [(.int .i64 0), (.slice none 0 0), (.int .i64 0), (.int .i64 0), undef, undef, (.slice none 0 0)] w (fun J_3 m_4 l_5 u_l_5 w0_l_5 => (fun w => (
 oM Tryd.prog (Go.Op.slice 9 (.tmp 0) (some (.tmp 1)) none none) 9 [a0, (l_5.getD 0 undef)] (fun v16_6 w =>
 callM Tryd.prog 22 #[v16_6] (fun v17_7 w =>
 oM Tryd.prog (Go.Op.binOp Go.BinOp.add 3 (.tmp 0) (.tmp 1) 3) 3 [(l_5.getD 0 undef), v17_7] (fun v18_8 w =>
 oM Tryd.prog (Go.Op.call (Go.Call.mk (Go.Callee.builtin Go.Builtin.len) #[(.tmp 0)] #[9])) 3 [a0] (fun v21_9 w =>
 oM Tryd.prog (Go.Op.binOp Go.BinOp.eql 3 (.tmp 0) (.tmp 1) 3) 4 [v18_8, v21_9] (fun v22_10 w =>
 condM v22_10
(K (.tuple #[(l_5.getD 6 undef), (.int .i64 0), (.int .i64 0)]) w)
(oM Tryd.prog (Go.Op.slice 9 (.tmp 0) (some (.tmp 1)) none none) 9 [a0, v18_8] (fun v27_11 w =>
 callM Tryd.prog 23 #[v27_11] (fun v28_12 w =>
 oM Tryd.prog (Go.Op.extract (.tmp 0) 0) 32 [v28_12] (fun v29_13 w =>
 oM Tryd.prog (Go.Op.extract (.tmp 0) 1) 3 [v28_12] (fun v30_14 w =>
 oM Tryd.prog (Go.Op.extract (.tmp 0) 2) 24 [v28_12] (fun v31_15 w =>
 oM Tryd.prog (Go.Op.alloc 32) 0 [] (fun v7_16 w =>
 oM Tryd.prog (Go.Op.store 32 (.tmp 0) (.tmp 1)) 0 [v7_16, v29_13] (fun _ w =>
 oM Tryd.prog (Go.Op.binOp Go.BinOp.neq 24 (.tmp 0) (.const (.int .i64 0)) 24) 4 [v31_15] (fun v33_17 w =>
 condM v33_17
(K (.tuple #[(.slice none 0 0), v18_8, v31_15]) w)
(oM Tryd.prog (Go.Op.fieldAddr 32 (.tmp 0) 3) 0 [v7_16] (fun v37_18 w =>
 oM Tryd.prog (Go.Op.store 3 (.tmp 0) (.tmp 1)) 0 [v37_18, v18_8] (fun _ w =>
 oM Tryd.prog (Go.Op.load 32 (.tmp 0)) 32 [v7_16] (fun v39_19 w =>
 oM Tryd.prog (Go.Op.buildSlice 23 1 #[(0, (.tmp 0))]) 23 [v39_19] (fun v40_20 w =>
 oM Tryd.prog (Go.Op.call (Go.Call.mk (Go.Callee.builtin Go.Builtin.append) #[(.tmp 0), (.tmp 1)] #[23, 23])) 23 [(l_5.getD 6 undef), v40_20] (fun v41_21 w =>
 oM Tryd.prog (Go.Op.binOp Go.BinOp.add 3 (.tmp 0) (.tmp 1) 3) 3 [v18_8, v30_14] (fun v44_22 w =>
 J_3 [v44_22, (l_5.getD 1 undef), (l_5.getD 2 undef), (l_5.getD 3 undef), v30_14, v31_15, v41_21] w ∧ m_4 [v44_22, (l_5.getD 1 undef), (l_5.getD 2 undef), (l_5.getD 3 undef), v30_14, v31_15, v41_21] w < m_4 l_5 w0_l_5) w) w) w) w) w) w)) w) w) w) w) w) w) w) w)) w) w) w) w) w)) w0_l_5))) w) w
theorem sh_9_eq (a0 : Value) (K : Value → World → Prop) (w : World) : sh_9 a0 K w = code Tryd.prog (fun _ => true) 45 (Tryd.f9.body.getD .skip) (slotsAt [a0]) (retK Tryd.prog [.tmp 2, .tmp 3, .tmp 4] K) w := by kernel_rfl
theorem sh_9_ok {a0 : Value} {K : Value → World → Prop} {w : World} (h : sh_9 a0 K w) : callM Tryd.prog 9 #[a0] K w :=
  calls_of_code (fun _ => true) (fn := Tryd.f9) (rs := [.tmp 2, .tmp 3, .tmp 4]) Tryd.func9 rfl rfl (by kernel_rfl) (Nat.le_of_ble_eq_true rfl) ((sh_9_eq a0 K w).mp h)

/-- cloak/cloaklaw01.cut -/
def sh_10 (a0 : Value) (K : Value → World → Prop) (w : World) : Prop :=
 oM Tryd.prog (Go.Op.call (Go.Call.mk (Go.Callee.builtin Go.Builtin.len) #[(.tmp 0)] #[9])) 3 [a0] (fun v5_1 w =>
 oM Tryd.prog (Go.Op.call (Go.Call.mk (Go.Callee.builtin Go.Builtin.min) #[(.tmp 0), (.tmp 1)] #[3, 3])) 3 [v5_1, (.int .i64 900)] (fun v6_2 w =>
 oM Tryd.prog (Go.Op.slice 9 (.tmp 0) none (some (.tmp 1)) none) 9 [a0, v6_2] (fun v7_3 w =>
 K v7_3 w) w) w) w
theorem sh_10_eq (a0 : Value) (K : Value → World → Prop) (w : World) : sh_10 a0 K w = code Tryd.prog (fun _ => true) 8 (Tryd.f10.body.getD .skip) (slotsAt [a0]) (retK Tryd.prog [.tmp 2] K) w := by kernel_rfl
theorem sh_10_ok {a0 : Value} {K : Value → World → Prop} {w : World} (h : sh_10 a0 K w) : callM Tryd.prog 10 #[a0] K w :=
  calls_of_code (fun _ => true) (fn := Tryd.f10) (rs := [.tmp 2]) Tryd.func10 rfl rfl (by kernel_rfl) (Nat.le_of_ble_eq_true rfl) ((sh_10_eq a0 K w).mp h)

/-- cloak/base.Print -/
def sh_11 (a0 : Value) (K : Value → World → Prop) (w : World) : Prop :=
 oM Tryd.prog (Go.Op.call (Go.Call.mk (Go.Callee.builtin Go.Builtin.len) #[(.tmp 0)] #[23])) 3 [a0] (fun v7_1 w =>
 loopM [(.slice none 0 0), (.int .i64 0)] w (fun J_2 m_3 l_4 u_l_4 w0_l_4 => (fun w => (
 oM Tryd.prog (Go.Op.binOp Go.BinOp.lss 3 (.tmp 0) (.tmp 1) 3) 0 [(l_4.getD 1 undef), v7_1] (fun v9_5 w =>
 condM v9_5
(oM Tryd.prog (Go.Op.indexAddr 23 (.tmp 0) (.tmp 1)) 0 [a0, (l_4.getD 1 undef)] (fun v10_6 w =>
 oM Tryd.prog (Go.Op.load 32 (.tmp 0)) 32 [v10_6] (fun v11_7 w =>
 oM Tryd.prog (Go.Op.alloc 32) 0 [] (fun v5_8 w =>
 oM Tryd.prog (Go.Op.store 32 (.tmp 0) (.tmp 1)) 0 [v5_8, v11_7] (fun _ w =>
 joinM (fun M_9 => (oM Tryd.prog (Go.Op.fieldAddr 32 (.tmp 0) 0) 0 [v5_8] (fun v12_11 w =>
 oM Tryd.prog (Go.Op.load 3 (.tmp 0)) 3 [v12_11] (fun v13_12 w =>
 oM Tryd.prog (Go.Op.binOp Go.BinOp.eql 3 (.tmp 0) (.const (.int .i64 2)) 3) 4 [v13_12] (fun v14_13 w =>
 condM v14_13
(oM Tryd.prog (Go.Op.fieldAddr 32 (.tmp 0) 1) 0 [v5_8] (fun v15_14 w =>
 oM Tryd.prog (Go.Op.load 9 (.tmp 0)) 9 [v15_14] (fun v16_15 w =>
 callM Tryd.prog 24 #[v16_15] (fun v17_16 w =>
 oM Tryd.prog (Go.Op.fieldAddr 32 (.tmp 0) 1) 0 [v5_8] (fun v18_17 w =>
 oM Tryd.prog (Go.Op.store 9 (.tmp 0) (.tmp 1)) 0 [v18_17, v17_16] (fun _ w =>
 M_9 [] w) w) w) w) w) w)
(M_9 [] w)) w) w) w))
(fun l_10 u_l_10 w => (oM Tryd.prog (Go.Op.fieldAddr 32 (.tmp 0) 1) 0 [v5_8] (fun v20_18 w =>
 oM Tryd.prog (Go.Op.load 9 (.tmp 0)) 9 [v20_18] (fun v21_19 w =>
 oM Tryd.prog (Go.Op.buildSlice 43 1 #[(0, (.tmp 0))]) 43 [v21_19] (fun v22_20 w =>
 oM Tryd.prog (Go.Op.call (Go.Call.mk (Go.Callee.builtin Go.Builtin.append) #[(.tmp 0), (.tmp 1)] #[43, 43])) 43 [(l_4.getD 0 undef), v22_20] (fun v23_21 w =>
 oM Tryd.prog (Go.Op.binOp Go.BinOp.add 3 (.tmp 0) (.tmp 1) 3) 3 [(l_4.getD 1 undef), (.int .i64 1)] (fun v24_22 w =>
 J_2 [v23_21, v24_22] w ∧ m_3 [v23_21, v24_22] w < m_3 l_4 w0_l_4) w) w) w) w) w))) w) w) w) w)
(callM Tryd.prog 25 #[(l_4.getD 0 undef), (.string ⟨#[32]⟩)] (fun v26_23 w =>
 K v26_23 w) w)) w)) w0_l_4)) w
theorem sh_11_eq (a0 : Value) (K : Value → World → Prop) (w : World) : sh_11 a0 K w = code Tryd.prog (fun _ => true) 27 (Tryd.f11.body.getD .skip) (slotsAt [a0]) (retK Tryd.prog [.tmp 2] K) w := by kernel_rfl
theorem sh_11_ok {a0 : Value} {K : Value → World → Prop} {w : World} (h : sh_11 a0 K w) : callM Tryd.prog 11 #[a0] K w :=
  calls_of_code (fun _ => true) (fn := Tryd.f11) (rs := [.tmp 2]) Tryd.func11 rfl rfl (by kernel_rfl) (Nat.le_of_ble_eq_true rfl) ((sh_11_eq a0 K w).mp h)

/-- cloak/cloakref01.LikeTokens -/
def sh_12 (a0 : Value) (a1 : Value) (K : Value → World → Prop) (w : World) : Prop :=
 oM Tryd.prog (Go.Op.call (Go.Call.mk (Go.Callee.builtin Go.Builtin.len) #[(.tmp 0)] #[23])) 3 [a0] (fun v7_1 w =>
 oM Tryd.prog (Go.Op.call (Go.Call.mk (Go.Callee.builtin Go.Builtin.len) #[(.tmp 0)] #[23])) 3 [a1] (fun v9_2 w =>
 oM Tryd.prog (Go.Op.binOp Go.BinOp.neq 3 (.tmp 0) (.tmp 1) 3) 4 [v7_1, v9_2] (fun v10_3 w =>
 condM v10_3
(K (.bool false) w)
(loopM [(.bool false), (.int .i64 0)] w (fun J_4 m_5 l_6 u_l_6 w0_l_6 => (fun w => (
 oM Tryd.prog (Go.Op.call (Go.Call.mk (Go.Callee.builtin Go.Builtin.len) #[(.tmp 0)] #[23])) 3 [a0] (fun v13_7 w =>
 oM Tryd.prog (Go.Op.binOp Go.BinOp.lss 3 (.tmp 0) (.tmp 1) 3) 4 [(l_6.getD 1 undef), v13_7] (fun v14_8 w =>
 condM v14_8
(quietM w (fun C_9 => (oQ Tryd.prog (Go.Op.indexAddr 23 (.tmp 0) (.tmp 1)) 0 [a0, (l_6.getD 1 undef)] C_9 (fun v19_10 =>
 oQ Tryd.prog (Go.Op.fieldAddr 32 (.tmp 0) 0) 0 [v19_10] C_9 (fun v20_11 =>
 oQ Tryd.prog (Go.Op.load 3 (.tmp 0)) 3 [v20_11] C_9 (fun v21_12 =>
 oQ Tryd.prog (Go.Op.indexAddr 23 (.tmp 0) (.tmp 1)) 0 [a1, (l_6.getD 1 undef)] C_9 (fun v24_13 =>
 oQ Tryd.prog (Go.Op.fieldAddr 32 (.tmp 0) 0) 0 [v24_13] C_9 (fun v25_14 =>
 oQ Tryd.prog (Go.Op.load 3 (.tmp 0)) 3 [v25_14] C_9 (fun v26_15 =>
 oQ Tryd.prog (Go.Op.binOp Go.BinOp.neq 3 (.tmp 0) (.tmp 1) 3) 4 [v21_12, v26_15] C_9 (fun v27_16 =>
 gdQ (gd v27_16 false) (pureQ a0) C_9 (fun v29_17 =>
 gdQ (gd v27_16 false) (pureQ (l_6.getD 1 undef)) C_9 (fun v30_18 =>
 gdQ (gd v27_16 false) (oQ Tryd.prog (Go.Op.indexAddr 23 (.tmp 0) (.tmp 1)) 0 [v29_17, v30_18]) C_9 (fun v31_19 =>
 gdQ (gd v27_16 false) (oQ Tryd.prog (Go.Op.fieldAddr 32 (.tmp 0) 1) 0 [v31_19]) C_9 (fun v32_20 =>
 gdQ (gd v27_16 false) (oQ Tryd.prog (Go.Op.load 9 (.tmp 0)) 9 [v32_20]) C_9 (fun v33_21 =>
 gdQ (gd v27_16 false) (pureQ a1) C_9 (fun v34_22 =>
 gdQ (gd v27_16 false) (pureQ (l_6.getD 1 undef)) C_9 (fun v35_23 =>
 gdQ (gd v27_16 false) (oQ Tryd.prog (Go.Op.indexAddr 23 (.tmp 0) (.tmp 1)) 0 [v34_22, v35_23]) C_9 (fun v36_24 =>
 gdQ (gd v27_16 false) (oQ Tryd.prog (Go.Op.fieldAddr 32 (.tmp 0) 1) 0 [v36_24]) C_9 (fun v37_25 =>
 gdQ (gd v27_16 false) (oQ Tryd.prog (Go.Op.load 9 (.tmp 0)) 9 [v37_25]) C_9 (fun v38_26 =>
 gdQ (gd v27_16 false) (oQ Tryd.prog (Go.Op.binOp Go.BinOp.neq 9 (.tmp 0) (.tmp 1) 9) 4 [v33_21, v38_26]) C_9 (fun v39_27 =>
 oQ Tryd.prog (Go.Op.pick (.tmp 0) (.tmp 1) (.tmp 2)) 4 [v27_16, (.bool true), v39_27] C_9 (fun v40_28 =>
 gdQ (gd v40_28 false) (pureQ a0) C_9 (fun v42_29 =>
 gdQ (gd v40_28 false) (pureQ (l_6.getD 1 undef)) C_9 (fun v43_30 =>
 gdQ (gd v40_28 false) (oQ Tryd.prog (Go.Op.indexAddr 23 (.tmp 0) (.tmp 1)) 0 [v42_29, v43_30]) C_9 (fun v44_31 =>
 gdQ (gd v40_28 false) (oQ Tryd.prog (Go.Op.fieldAddr 32 (.tmp 0) 2) 0 [v44_31]) C_9 (fun v45_32 =>
 gdQ (gd v40_28 false) (oQ Tryd.prog (Go.Op.load 3 (.tmp 0)) 3 [v45_32]) C_9 (fun v46_33 =>
 gdQ (gd v40_28 false) (pureQ a1) C_9 (fun v47_34 =>
 gdQ (gd v40_28 false) (pureQ (l_6.getD 1 undef)) C_9 (fun v48_35 =>
 gdQ (gd v40_28 false) (oQ Tryd.prog (Go.Op.indexAddr 23 (.tmp 0) (.tmp 1)) 0 [v47_34, v48_35]) C_9 (fun v49_36 =>
 gdQ (gd v40_28 false) (oQ Tryd.prog (Go.Op.fieldAddr 32 (.tmp 0) 2) 0 [v49_36]) C_9 (fun v50_37 =>
 gdQ (gd v40_28 false) (oQ Tryd.prog (Go.Op.load 3 (.tmp 0)) 3 [v50_37]) C_9 (fun v51_38 =>
 gdQ (gd v40_28 false) (oQ Tryd.prog (Go.Op.binOp Go.BinOp.neq 3 (.tmp 0) (.tmp 1) 3) 4 [v46_33, v51_38]) C_9 (fun v52_39 =>
 oQ Tryd.prog (Go.Op.pick (.tmp 0) (.tmp 1) (.tmp 2)) 4 [v40_28, (.bool true), v52_39] C_9 (fun v53_40 =>
 ∀ w, C_9 w → (condM v53_40
(K (.bool false) w)
(oM Tryd.prog (Go.Op.binOp Go.BinOp.add 3 (.tmp 0) (.tmp 1) 3) 3 [(l_6.getD 1 undef), (.int .i64 1)] (fun v16_41 w =>
 J_4 [(l_6.getD 0 undef), v16_41] w ∧ m_5 [(l_6.getD 0 undef), v16_41] w < m_5 l_6 w0_l_6) w))))))))))))))))))))))))))))))))))))
(K (.bool true) w)) w) w)) w0_l_6))) w) w) w
theorem sh_12_eq (a0 : Value) (a1 : Value) (K : Value → World → Prop) (w : World) : sh_12 a0 a1 K w = code Tryd.prog (fun _ => true) 54 (Tryd.f12.body.getD .skip) (slotsAt [a0, a1]) (retK Tryd.prog [.tmp 4] K) w := by kernel_rfl
theorem sh_12_ok {a0 a1 : Value} {K : Value → World → Prop} {w : World} (h : sh_12 a0 a1 K w) : callM Tryd.prog 12 #[a0, a1] K w :=
  calls_of_code (fun _ => true) (fn := Tryd.f12) (rs := [.tmp 4]) Tryd.func12 rfl rfl (by kernel_rfl) (Nat.le_of_ble_eq_true rfl) ((sh_12_eq a0 a1 K w).mp h)

/-- cloak/cloakref01.Scan -/
def sh_13 (a0 : Value) (K : Value → World → Prop) (w : World) : Prop :=
 oM Tryd.prog (Go.Op.call (Go.Call.mk (Go.Callee.builtin Go.Builtin.len) #[(.tmp 0)] #[9])) 3 [a0] (fun v12_1 w =>
 oM Tryd.prog (Go.Op.binOp Go.BinOp.gtr 3 (.tmp 0) (.tmp 1) 3) 4 [v12_1, (.int .i64 4000)] (fun v13_2 w =>
 condM v13_2
(K (.tuple #[(.slice none 0 0), (.int .i64 0), (.int .i64 6)]) w)
(loopM [(.bool false), (.int .i64 0), undef, undef, (.slice none 0 0), (.int .i64 0), (.int .i64 0), (.slice none 0 0)] w (fun J_3 m_4 l_5 u_l_5 w0_l_5 => (fun w => (
 oM Tryd.prog (Go.Op.call (Go.Call.mk (Go.Callee.builtin Go.Builtin.len) #[(.tmp 0)] #[9])) 3 [a0] (fun v16_6 w =>
 oM Tryd.prog (Go.Op.binOp Go.BinOp.lss 3 (.tmp 0) (.tmp 1) 3) 4 [(l_5.getD 1 undef), v16_6] (fun v17_7 w =>
 condM v17_7
(joinM (fun M_8 => (oM Tryd.prog (Go.Op.index 9 (.tmp 0) (.tmp 1)) 5 [a0, (l_5.getD 1 undef)] (fun v20_10 w =>
 oM Tryd.prog (Go.Op.binOp Go.BinOp.eql 5 (.tmp 0) (.const (.int .u8 10)) 5) 4 [v20_10] (fun v21_11 w =>
 condM v21_11
(M_8 [(.bool false)] w)
(M_8 [(l_5.getD 0 undef)] w)) w) w))
(fun l_9 u_l_9 w => (gdM (gd (l_9.getD 0 undef) false) (pureM a0) (fun v24_12 w =>
 gdM (gd (l_9.getD 0 undef) false) (pureM (l_5.getD 1 undef)) (fun v25_13 w =>
 gdM (gd (l_9.getD 0 undef) false) (oM Tryd.prog (Go.Op.index 9 (.tmp 0) (.tmp 1)) 5 [v24_12, v25_13]) (fun v26_14 w =>
 gdM (gd (l_9.getD 0 undef) false) (callM Tryd.prog 26 #[v26_14]) (fun v27_15 w =>
 oM Tryd.prog (Go.Op.pick (.tmp 0) (.tmp 1) (.tmp 2)) 4 [(l_9.getD 0 undef), (.bool true), v27_15] (fun v28_16 w =>
 condM v28_16
(oM Tryd.prog (Go.Op.binOp Go.BinOp.add 3 (.tmp 0) (.tmp 1) 3) 3 [(l_5.getD 1 undef), (.int .i64 1)] (fun v30_17 w =>
 J_3 [(l_9.getD 0 undef), v30_17, (l_5.getD 2 undef), (l_5.getD 3 undef), (l_5.getD 4 undef), (l_5.getD 5 undef), (l_5.getD 6 undef), (l_5.getD 7 undef)] w ∧ m_4 [(l_9.getD 0 undef), v30_17, (l_5.getD 2 undef), (l_5.getD 3 undef), (l_5.getD 4 undef), (l_5.getD 5 undef), (l_5.getD 6 undef), (l_5.getD 7 undef)] w < m_4 l_5 w0_l_5) w)
(oM Tryd.prog (Go.Op.index 9 (.tmp 0) (.tmp 1)) 5 [a0, (l_5.getD 1 undef)] (fun v33_18 w =>
 oM Tryd.prog (Go.Op.binOp Go.BinOp.eql 5 (.tmp 0) (.const (.int .u8 35)) 5) 4 [v33_18] (fun v34_19 w =>
 condM v34_19
(J_3 [(.bool true), (l_5.getD 1 undef), (l_5.getD 2 undef), (l_5.getD 3 undef), (l_5.getD 4 undef), (l_5.getD 5 undef), (l_5.getD 6 undef), (l_5.getD 7 undef)] w ∧ m_4 [(.bool true), (l_5.getD 1 undef), (l_5.getD 2 undef), (l_5.getD 3 undef), (l_5.getD 4 undef), (l_5.getD 5 undef), (l_5.getD 6 undef), (l_5.getD 7 undef)] w < m_4 l_5 w0_l_5)
(callM Tryd.prog 27 #[a0, (l_5.getD 1 undef)] (fun v38_20 w =>
 oM Tryd.prog (Go.Op.extract (.tmp 0) 0) 32 [v38_20] (fun v39_21 w =>
 oM Tryd.prog (Go.Op.extract (.tmp 0) 1) 3 [v38_20] (fun v40_22 w =>
 oM Tryd.prog (Go.Op.extract (.tmp 0) 2) 24 [v38_20] (fun v41_23 w =>
 oM Tryd.prog (Go.Op.alloc 32) 0 [] (fun v8_24 w =>
 oM Tryd.prog (Go.Op.store 32 (.tmp 0) (.tmp 1)) 0 [v8_24, v39_21] (fun _ w =>
 oM Tryd.prog (Go.Op.binOp Go.BinOp.neq 24 (.tmp 0) (.const (.int .i64 0)) 24) 4 [v41_23] (fun v43_25 w =>
 condM v43_25
(K (.tuple #[(.slice none 0 0), (l_5.getD 1 undef), v41_23]) w)
(oM Tryd.prog (Go.Op.load 32 (.tmp 0)) 32 [v8_24] (fun v47_26 w =>
 oM Tryd.prog (Go.Op.buildSlice 23 1 #[(0, (.tmp 0))]) 23 [v47_26] (fun v48_27 w =>
 oM Tryd.prog (Go.Op.call (Go.Call.mk (Go.Callee.builtin Go.Builtin.append) #[(.tmp 0), (.tmp 1)] #[23, 23])) 23 [(l_5.getD 7 undef), v48_27] (fun v49_28 w =>
 J_3 [(l_9.getD 0 undef), v40_22, v40_22, v41_23, (l_5.getD 4 undef), (l_5.getD 5 undef), (l_5.getD 6 undef), v49_28] w ∧ m_4 [(l_9.getD 0 undef), v40_22, v40_22, v41_23, (l_5.getD 4 undef), (l_5.getD 5 undef), (l_5.getD 6 undef), v49_28] w < m_4 l_5 w0_l_5) w) w) w)) w) w) w) w) w) w) w)) w) w)) w) w) w) w) w)))
(K (.tuple #[(l_5.getD 7 undef), (.int .i64 0), (.int .i64 0)]) w)) w) w)) w0_l_5))) w) w
theorem sh_13_eq (a0 : Value) (K : Value → World → Prop) (w : World) : sh_13 a0 K w = code Tryd.prog (fun _ => true) 52 (Tryd.f13.body.getD .skip) (slotsAt [a0]) (retK Tryd.prog [.tmp 2, .tmp 3, .tmp 4] K) w := by kernel_rfl
theorem sh_13_ok {a0 : Value} {K : Value → World → Prop} {w : World} (h : sh_13 a0 K w) : callM Tryd.prog 13 #[a0] K w :=
  calls_of_code (fun _ => true) (fn := Tryd.f13) (rs := [.tmp 2, .tmp 3, .tmp 4]) Tryd.func13 rfl rfl (by kernel_rfl) (Nat.le_of_ble_eq_true rfl) ((sh_13_eq a0 K w).mp h)

/-- cloak/base.Number -/
def sh_14 (a0 : Value) (K : Value → World → Prop) (w : World) : Prop :=
 oM Tryd.prog (Go.Op.binOp Go.BinOp.eql 9 (.tmp 0) (.const (.string ⟨#[]⟩)) 9) 4 [a0] (fun v7_1 w =>
 gdM (gd v7_1 false) (pureM a0) (fun v9_2 w =>
 gdM (gd v7_1 false) (callM Tryd.prog 28 #[v9_2, (.func (.func 29) #[] #[])]) (fun v10_3 w =>
 gdM (gd v7_1 false) (pureM a0) (fun v11_4 w =>
 gdM (gd v7_1 false) (oM Tryd.prog (Go.Op.call (Go.Call.mk (Go.Callee.builtin Go.Builtin.len) #[(.tmp 0)] #[9])) 3 [v11_4]) (fun v12_5 w =>
 gdM (gd v7_1 false) (oM Tryd.prog (Go.Op.binOp Go.BinOp.neq 3 (.tmp 0) (.tmp 1) 3) 4 [v10_3, v12_5]) (fun v13_6 w =>
 oM Tryd.prog (Go.Op.pick (.tmp 0) (.tmp 1) (.tmp 2)) 4 [v7_1, (.bool true), v13_6] (fun v14_7 w =>
 gdM (gd v14_7 false) (pureM a0) (fun v16_8 w =>
 gdM (gd v14_7 false) (oM Tryd.prog (Go.Op.index 9 (.tmp 0) (.tmp 1)) 5 [v16_8, (.int .i64 0)]) (fun v17_9 w =>
 gdM (gd v14_7 false) (oM Tryd.prog (Go.Op.binOp Go.BinOp.eql 5 (.tmp 0) (.const (.int .u8 48)) 5) 4 [v17_9]) (fun v18_10 w =>
 gdM (gd v14_7 false) (pureM v18_10) (fun v19_11 w =>
 gdM (gd v19_11 true) (pureM a0) (fun v20_12 w =>
 gdM (gd v19_11 true) (oM Tryd.prog (Go.Op.binOp Go.BinOp.neq 9 (.tmp 0) (.const (.string ⟨#[48]⟩)) 9) 4 [v20_12]) (fun v21_13 w =>
 gdM (gd v14_7 false) (oM Tryd.prog (Go.Op.pick (.tmp 0) (.tmp 1) (.tmp 2)) 4 [v19_11, v21_13, (.bool false)]) (fun v22_14 w =>
 oM Tryd.prog (Go.Op.pick (.tmp 0) (.tmp 1) (.tmp 2)) 4 [v14_7, (.bool true), v22_14] (fun v23_15 w =>
 gdM (gd v23_15 false) (pureM a0) (fun v25_16 w =>
 gdM (gd v23_15 false) (oM Tryd.prog (Go.Op.call (Go.Call.mk (Go.Callee.builtin Go.Builtin.len) #[(.tmp 0)] #[9])) 3 [v25_16]) (fun v26_17 w =>
 gdM (gd v23_15 false) (oM Tryd.prog (Go.Op.binOp Go.BinOp.gtr 3 (.tmp 0) (.tmp 1) 3) 4 [v26_17, (.int .i64 13)]) (fun v27_18 w =>
 oM Tryd.prog (Go.Op.pick (.tmp 0) (.tmp 1) (.tmp 2)) 4 [v23_15, (.bool true), v27_18] (fun v28_19 w =>
 condM v28_19
(K (.tuple #[(.int .i64 0), (.bool false)]) w)
(oM Tryd.prog (Go.Op.call (Go.Call.mk (Go.Callee.builtin Go.Builtin.len) #[(.tmp 0)] #[9])) 3 [a0] (fun v30_20 w =>
 loopM [undef, (.int .i64 0), (.int .i64 0)] w (fun J_21 m_22 l_23 u_l_23 w0_l_23 => (fun w => (
 oM Tryd.prog (Go.Op.binOp Go.BinOp.lss 3 (.tmp 0) (.tmp 1) 3) 4 [(l_23.getD 2 undef), v30_20] (fun v32_24 w =>
 condM v32_24
(oM Tryd.prog (Go.Op.binOp Go.BinOp.mul 3 (.tmp 0) (.tmp 1) 3) 3 [(.int .i64 10), (l_23.getD 1 undef)] (fun v35_25 w =>
 oM Tryd.prog (Go.Op.index 9 (.tmp 0) (.tmp 1)) 5 [a0, (l_23.getD 2 undef)] (fun v38_26 w =>
 oM Tryd.prog (Go.Op.binOp Go.BinOp.sub 5 (.tmp 0) (.tmp 1) 5) 5 [v38_26, (.int .u8 48)] (fun v39_27 w =>
 oM Tryd.prog (Go.Op.convert 5 3 (.tmp 0)) 3 [v39_27] (fun v40_28 w =>
 oM Tryd.prog (Go.Op.binOp Go.BinOp.add 3 (.tmp 0) (.tmp 1) 3) 3 [v35_25, v40_28] (fun v41_29 w =>
 oM Tryd.prog (Go.Op.binOp Go.BinOp.add 3 (.tmp 0) (.tmp 1) 3) 3 [(l_23.getD 2 undef), (.int .i64 1)] (fun v42_30 w =>
 J_21 [(l_23.getD 2 undef), v41_29, v42_30] w ∧ m_22 [(l_23.getD 2 undef), v41_29, v42_30] w < m_22 l_23 w0_l_23) w) w) w) w) w) w)
(oM Tryd.prog (Go.Op.binOp Go.BinOp.gtr 3 (.tmp 0) (.tmp 1) 3) 4 [(l_23.getD 1 undef), (.int .i64 1099511627776)] (fun v44_31 w =>
 condM v44_31
(K (.tuple #[(.int .i64 0), (.bool false)]) w)
(K (.tuple #[(l_23.getD 1 undef), (.bool true)]) w)) w)) w)) w0_l_23)) w)) w) w) w) w) w) w) w) w) w) w) w) w) w) w) w) w) w) w) w
theorem sh_14_eq (a0 : Value) (K : Value → World → Prop) (w : World) : sh_14 a0 K w = code Tryd.prog (fun _ => true) 46 (Tryd.f14.body.getD .skip) (slotsAt [a0]) (retK Tryd.prog [.tmp 2, .tmp 3] K) w := by kernel_rfl
theorem sh_14_ok {a0 : Value} {K : Value → World → Prop} {w : World} (h : sh_14 a0 K w) : callM Tryd.prog 14 #[a0] K w :=
  calls_of_code (fun _ => true) (fn := Tryd.f14) (rs := [.tmp 2, .tmp 3]) Tryd.func14 rfl rfl (by kernel_rfl) (Nat.le_of_ble_eq_true rfl) ((sh_14_eq a0 K w).mp h)

/-- cloak/cloakref01.Number -/
def sh_15 (a0 : Value) (K : Value → World → Prop) (w : World) : Prop :=
 loopM [(.int .i64 0), (.bool false), (.int .i64 0), (.int .i64 0)] w (fun J_1 m_2 l_3 u_l_3 w0_l_3 => (fun w => (
 oM Tryd.prog (Go.Op.call (Go.Call.mk (Go.Callee.builtin Go.Builtin.len) #[(.tmp 0)] #[9])) 3 [a0] (fun v8_4 w =>
 oM Tryd.prog (Go.Op.binOp Go.BinOp.lss 3 (.tmp 0) (.tmp 1) 3) 4 [(l_3.getD 3 undef), v8_4] (fun v9_5 w =>
 condM v9_5
(oM Tryd.prog (Go.Op.index 9 (.tmp 0) (.tmp 1)) 5 [a0, (l_3.getD 3 undef)] (fun v14_6 w =>
 callM Tryd.prog 30 #[v14_6] (fun v15_7 w =>
 oM Tryd.prog (Go.Op.unOp Go.UnOp.not 4 (.tmp 0)) 4 [v15_7] (fun v16_8 w =>
 gdM (gd v16_8 false) (pureM (l_3.getD 2 undef)) (fun v18_9 w =>
 gdM (gd v16_8 false) (oM Tryd.prog (Go.Op.binOp Go.BinOp.gtr 3 (.tmp 0) (.tmp 1) 3) 4 [v18_9, (.int .i64 1099511627776)]) (fun v19_10 w =>
 oM Tryd.prog (Go.Op.pick (.tmp 0) (.tmp 1) (.tmp 2)) 4 [v16_8, (.bool true), v19_10] (fun v20_11 w =>
 condM v20_11
(K (.tuple #[(.int .i64 0), (.bool false)]) w)
(oM Tryd.prog (Go.Op.binOp Go.BinOp.mul 3 (.tmp 0) (.tmp 1) 3) 3 [(.int .i64 10), (l_3.getD 2 undef)] (fun v22_12 w =>
 oM Tryd.prog (Go.Op.index 9 (.tmp 0) (.tmp 1)) 5 [a0, (l_3.getD 3 undef)] (fun v25_13 w =>
 oM Tryd.prog (Go.Op.convert 5 3 (.tmp 0)) 3 [v25_13] (fun v26_14 w =>
 oM Tryd.prog (Go.Op.binOp Go.BinOp.add 3 (.tmp 0) (.tmp 1) 3) 3 [v22_12, v26_14] (fun v27_15 w =>
 oM Tryd.prog (Go.Op.binOp Go.BinOp.sub 3 (.tmp 0) (.tmp 1) 3) 3 [v27_15, (.int .i64 48)] (fun v28_16 w =>
 oM Tryd.prog (Go.Op.binOp Go.BinOp.add 3 (.tmp 0) (.tmp 1) 3) 3 [(l_3.getD 3 undef), (.int .i64 1)] (fun v11_17 w =>
 J_1 [(l_3.getD 0 undef), (l_3.getD 1 undef), v28_16, v11_17] w ∧ m_2 [(l_3.getD 0 undef), (l_3.getD 1 undef), v28_16, v11_17] w < m_2 l_3 w0_l_3) w) w) w) w) w) w)) w) w) w) w) w) w)
(oM Tryd.prog (Go.Op.call (Go.Call.mk (Go.Callee.builtin Go.Builtin.len) #[(.tmp 0)] #[9])) 3 [a0] (fun v30_18 w =>
 oM Tryd.prog (Go.Op.binOp Go.BinOp.lss 3 (.tmp 0) (.tmp 1) 3) 4 [v30_18, (.int .i64 1)] (fun v31_19 w =>
 gdM (gd v31_19 false) (pureM a0) (fun v33_20 w =>
 gdM (gd v31_19 false) (oM Tryd.prog (Go.Op.call (Go.Call.mk (Go.Callee.builtin Go.Builtin.len) #[(.tmp 0)] #[9])) 3 [v33_20]) (fun v34_21 w =>
 gdM (gd v31_19 false) (oM Tryd.prog (Go.Op.binOp Go.BinOp.gtr 3 (.tmp 0) (.tmp 1) 3) 4 [v34_21, (.int .i64 1)]) (fun v35_22 w =>
 gdM (gd v31_19 false) (pureM v35_22) (fun v36_23 w =>
 gdM (gd v36_23 true) (pureM a0) (fun v37_24 w =>
 gdM (gd v36_23 true) (oM Tryd.prog (Go.Op.index 9 (.tmp 0) (.tmp 1)) 5 [v37_24, (.int .i64 0)]) (fun v38_25 w =>
 gdM (gd v36_23 true) (oM Tryd.prog (Go.Op.binOp Go.BinOp.eql 5 (.tmp 0) (.const (.int .u8 48)) 5) 4 [v38_25]) (fun v39_26 w =>
 gdM (gd v31_19 false) (oM Tryd.prog (Go.Op.pick (.tmp 0) (.tmp 1) (.tmp 2)) 4 [v36_23, v39_26, (.bool false)]) (fun v40_27 w =>
 oM Tryd.prog (Go.Op.pick (.tmp 0) (.tmp 1) (.tmp 2)) 4 [v31_19, (.bool true), v40_27] (fun v41_28 w =>
 gdM (gd v41_28 false) (pureM (l_3.getD 2 undef)) (fun v43_29 w =>
 gdM (gd v41_28 false) (oM Tryd.prog (Go.Op.binOp Go.BinOp.gtr 3 (.tmp 0) (.tmp 1) 3) 4 [v43_29, (.int .i64 1099511627776)]) (fun v44_30 w =>
 oM Tryd.prog (Go.Op.pick (.tmp 0) (.tmp 1) (.tmp 2)) 4 [v41_28, (.bool true), v44_30] (fun v45_31 w =>
 condM v45_31
(K (.tuple #[(.int .i64 0), (.bool false)]) w)
(K (.tuple #[(l_3.getD 2 undef), (.bool true)]) w)) w) w) w) w) w) w) w) w) w) w) w) w) w) w)) w) w)) w0_l_3)
theorem sh_15_eq (a0 : Value) (K : Value → World → Prop) (w : World) : sh_15 a0 K w = code Tryd.prog (fun _ => true) 47 (Tryd.f15.body.getD .skip) (slotsAt [a0]) (retK Tryd.prog [.tmp 2, .tmp 3] K) w := by kernel_rfl
theorem sh_15_ok {a0 : Value} {K : Value → World → Prop} {w : World} (h : sh_15 a0 K w) : callM Tryd.prog 15 #[a0] K w :=
  calls_of_code (fun _ => true) (fn := Tryd.f15) (rs := [.tmp 2, .tmp 3]) Tryd.func15 rfl rfl (by kernel_rfl) (Nat.le_of_ble_eq_true rfl) ((sh_15_eq a0 K w).mp h)

/-- cloak/base.Quote -/
def sh_16 (a0 : Value) (K : Value → World → Prop) (w : World) : Prop :=
 oM Tryd.prog (Go.Op.call (Go.Call.mk (Go.Callee.builtin Go.Builtin.len) #[(.tmp 0)] #[9])) 3 [a0] (fun v5_1 w =>
 oM Tryd.prog (Go.Op.binOp Go.BinOp.gtr 3 (.tmp 0) (.tmp 1) 3) 4 [v5_1, (.int .i64 400)] (fun v6_2 w =>
 gdM (gd v6_2 false) (pureM a0) (fun v8_3 w =>
 gdM (gd v6_2 false) (callM Tryd.prog 28 #[v8_3, (.func (.func 31) #[] #[])]) (fun v9_4 w =>
 gdM (gd v6_2 false) (pureM a0) (fun v10_5 w =>
 gdM (gd v6_2 false) (oM Tryd.prog (Go.Op.call (Go.Call.mk (Go.Callee.builtin Go.Builtin.len) #[(.tmp 0)] #[9])) 3 [v10_5]) (fun v11_6 w =>
 gdM (gd v6_2 false) (oM Tryd.prog (Go.Op.binOp Go.BinOp.neq 3 (.tmp 0) (.tmp 1) 3) 4 [v9_4, v11_6]) (fun v12_7 w =>
 oM Tryd.prog (Go.Op.pick (.tmp 0) (.tmp 1) (.tmp 2)) 4 [v6_2, (.bool true), v12_7] (fun v13_8 w =>
 condM v13_8
(K (.tuple #[(.string ⟨#[]⟩), (.bool false)]) w)
(callM Tryd.prog 24 #[a0] (fun v15_9 w =>
 K (.tuple #[v15_9, (.bool true)]) w) w)) w) w) w) w) w) w) w) w
theorem sh_16_eq (a0 : Value) (K : Value → World → Prop) (w : World) : sh_16 a0 K w = code Tryd.prog (fun _ => true) 16 (Tryd.f16.body.getD .skip) (slotsAt [a0]) (retK Tryd.prog [.tmp 2, .tmp 3] K) w := by kernel_rfl
theorem sh_16_ok {a0 : Value} {K : Value → World → Prop} {w : World} (h : sh_16 a0 K w) : callM Tryd.prog 16 #[a0] K w :=
  calls_of_code (fun _ => true) (fn := Tryd.f16) (rs := [.tmp 2, .tmp 3]) Tryd.func16 rfl rfl (by kernel_rfl) (Nat.le_of_ble_eq_true rfl) ((sh_16_eq a0 K w).mp h)

/-- cloak/cloakref01.Quote -/
def sh_17 (a0 : Value) (K : Value → World → Prop) (w : World) : Prop :=
 callM Tryd.prog 32 #[a0] (fun v5_1 w =>
 oM Tryd.prog (Go.Op.unOp Go.UnOp.not 4 (.tmp 0)) 4 [v5_1] (fun v6_2 w =>
 condM v6_2
(K (.tuple #[(.string ⟨#[]⟩), (.bool false)]) w)
(callM Tryd.prog 33 #[a0] (fun v8_3 w =>
 K (.tuple #[v8_3, (.bool true)]) w) w)) w) w
theorem sh_17_eq (a0 : Value) (K : Value → World → Prop) (w : World) : sh_17 a0 K w = code Tryd.prog (fun _ => true) 9 (Tryd.f17.body.getD .skip) (slotsAt [a0]) (retK Tryd.prog [.tmp 2, .tmp 3] K) w := by kernel_rfl
theorem sh_17_ok {a0 : Value} {K : Value → World → Prop} {w : World} (h : sh_17 a0 K w) : callM Tryd.prog 17 #[a0] K w :=
  calls_of_code (fun _ => true) (fn := Tryd.f17) (rs := [.tmp 2, .tmp 3]) Tryd.func17 rfl rfl (by kernel_rfl) (Nat.le_of_ble_eq_true rfl) ((sh_17_eq a0 K w).mp h)

/-- cloak/cloakref01.SameTokens -/
def sh_18 (a0 : Value) (a1 : Value) (K : Value → World → Prop) (w : World) : Prop :=
 oM Tryd.prog (Go.Op.call (Go.Call.mk (Go.Callee.builtin Go.Builtin.len) #[(.tmp 0)] #[23])) 3 [a0] (fun v7_1 w =>
 oM Tryd.prog (Go.Op.call (Go.Call.mk (Go.Callee.builtin Go.Builtin.len) #[(.tmp 0)] #[23])) 3 [a1] (fun v9_2 w =>
 oM Tryd.prog (Go.Op.binOp Go.BinOp.neq 3 (.tmp 0) (.tmp 1) 3) 4 [v7_1, v9_2] (fun v10_3 w =>
 condM v10_3
(K (.bool false) w)
(loopM [(.bool false), (.int .i64 0)] w (fun J_4 m_5 l_6 u_l_6 w0_l_6 => (fun w => (
 oM Tryd.prog (Go.Op.call (Go.Call.mk (Go.Callee.builtin Go.Builtin.len) #[(.tmp 0)] #[23])) 3 [a0] (fun v13_7 w =>
 oM Tryd.prog (Go.Op.binOp Go.BinOp.lss 3 (.tmp 0) (.tmp 1) 3) 4 [(l_6.getD 1 undef), v13_7] (fun v14_8 w =>
 condM v14_8
(quietM w (fun C_9 => (oQ Tryd.prog (Go.Op.indexAddr 23 (.tmp 0) (.tmp 1)) 0 [a0, (l_6.getD 1 undef)] C_9 (fun v19_10 =>
 oQ Tryd.prog (Go.Op.load 32 (.tmp 0)) 32 [v19_10] C_9 (fun v20_11 =>
 oQ Tryd.prog (Go.Op.indexAddr 23 (.tmp 0) (.tmp 1)) 0 [a1, (l_6.getD 1 undef)] C_9 (fun v23_12 =>
 oQ Tryd.prog (Go.Op.load 32 (.tmp 0)) 32 [v23_12] C_9 (fun v24_13 =>
 oQ Tryd.prog (Go.Op.binOp Go.BinOp.neq 32 (.tmp 0) (.tmp 1) 32) 4 [v20_11, v24_13] C_9 (fun v25_14 =>
 ∀ w, C_9 w → (condM v25_14
(K (.bool false) w)
(oM Tryd.prog (Go.Op.binOp Go.BinOp.add 3 (.tmp 0) (.tmp 1) 3) 3 [(l_6.getD 1 undef), (.int .i64 1)] (fun v16_15 w =>
 J_4 [(l_6.getD 0 undef), v16_15] w ∧ m_5 [(l_6.getD 0 undef), v16_15] w < m_5 l_6 w0_l_6) w))))))))))
(K (.bool true) w)) w) w)) w0_l_6))) w) w) w
theorem sh_18_eq (a0 : Value) (a1 : Value) (K : Value → World → Prop) (w : World) : sh_18 a0 a1 K w = code Tryd.prog (fun _ => true) 26 (Tryd.f18.body.getD .skip) (slotsAt [a0, a1]) (retK Tryd.prog [.tmp 4] K) w := by kernel_rfl
theorem sh_18_ok {a0 a1 : Value} {K : Value → World → Prop} {w : World} (h : sh_18 a0 a1 K w) : callM Tryd.prog 18 #[a0, a1] K w :=
  calls_of_code (fun _ => true) (fn := Tryd.f18) (rs := [.tmp 4]) Tryd.func18 rfl rfl (by kernel_rfl) (Nat.le_of_ble_eq_true rfl) ((sh_18_eq a0 a1 K w).mp h)

/-- cloak/base.Name -/
def sh_19 (a0 : Value) (K : Value → World → Prop) (w : World) : Prop :=
 oM Tryd.prog (Go.Op.binOp Go.BinOp.neq 9 (.tmp 0) (.const (.string ⟨#[]⟩)) 9) 4 [a0] (fun v4_1 w =>
 gdM (gd v4_1 true) (pureM a0) (fun v6_2 w =>
 gdM (gd v4_1 true) (oM Tryd.prog (Go.Op.index 9 (.tmp 0) (.tmp 1)) 5 [v6_2, (.int .i64 0)]) (fun v7_3 w =>
 gdM (gd v4_1 true) (callM Tryd.prog 34 #[v7_3]) (fun v8_4 w =>
 oM Tryd.prog (Go.Op.pick (.tmp 0) (.tmp 1) (.tmp 2)) 4 [v4_1, v8_4, (.bool false)] (fun v9_5 w =>
 gdM (gd v9_5 true) (pureM a0) (fun v11_6 w =>
 gdM (gd v9_5 true) (oM Tryd.prog (Go.Op.call (Go.Call.mk (Go.Callee.builtin Go.Builtin.len) #[(.tmp 0)] #[9])) 3 [v11_6]) (fun v12_7 w =>
 gdM (gd v9_5 true) (oM Tryd.prog (Go.Op.binOp Go.BinOp.leq 3 (.tmp 0) (.tmp 1) 3) 4 [v12_7, (.int .i64 20)]) (fun v13_8 w =>
 oM Tryd.prog (Go.Op.pick (.tmp 0) (.tmp 1) (.tmp 2)) 4 [v9_5, v13_8, (.bool false)] (fun v14_9 w =>
 gdM (gd v14_9 true) (pureM a0) (fun v16_10 w =>
 gdM (gd v14_9 true) (callM Tryd.prog 28 #[v16_10, (.func (.func 35) #[] #[])]) (fun v17_11 w =>
 gdM (gd v14_9 true) (pureM a0) (fun v18_12 w =>
 gdM (gd v14_9 true) (oM Tryd.prog (Go.Op.call (Go.Call.mk (Go.Callee.builtin Go.Builtin.len) #[(.tmp 0)] #[9])) 3 [v18_12]) (fun v19_13 w =>
 gdM (gd v14_9 true) (oM Tryd.prog (Go.Op.binOp Go.BinOp.eql 3 (.tmp 0) (.tmp 1) 3) 4 [v17_11, v19_13]) (fun v20_14 w =>
 oM Tryd.prog (Go.Op.pick (.tmp 0) (.tmp 1) (.tmp 2)) 4 [v14_9, v20_14, (.bool false)] (fun v21_15 w =>
 K v21_15 w) w) w) w) w) w) w) w) w) w) w) w) w) w) w) w
theorem sh_19_eq (a0 : Value) (K : Value → World → Prop) (w : World) : sh_19 a0 K w = code Tryd.prog (fun _ => true) 22 (Tryd.f19.body.getD .skip) (slotsAt [a0]) (retK Tryd.prog [.tmp 2] K) w := by kernel_rfl
theorem sh_19_ok {a0 : Value} {K : Value → World → Prop} {w : World} (h : sh_19 a0 K w) : callM Tryd.prog 19 #[a0] K w :=
  calls_of_code (fun _ => true) (fn := Tryd.f19) (rs := [.tmp 2]) Tryd.func19 rfl rfl (by kernel_rfl) (Nat.le_of_ble_eq_true rfl) ((sh_19_eq a0 K w).mp h)

/-- cloak/cloakref01.Name -/
def sh_20 (a0 : Value) (K : Value → World → Prop) (w : World) : Prop :=
 oM Tryd.prog (Go.Op.call (Go.Call.mk (Go.Callee.builtin Go.Builtin.len) #[(.tmp 0)] #[9])) 3 [a0] (fun v5_1 w =>
 oM Tryd.prog (Go.Op.binOp Go.BinOp.lss 3 (.tmp 0) (.tmp 1) 3) 4 [v5_1, (.int .i64 1)] (fun v6_2 w =>
 gdM (gd v6_2 false) (pureM a0) (fun v8_3 w =>
 gdM (gd v6_2 false) (oM Tryd.prog (Go.Op.call (Go.Call.mk (Go.Callee.builtin Go.Builtin.len) #[(.tmp 0)] #[9])) 3 [v8_3]) (fun v9_4 w =>
 gdM (gd v6_2 false) (oM Tryd.prog (Go.Op.binOp Go.BinOp.gtr 3 (.tmp 0) (.tmp 1) 3) 4 [v9_4, (.int .i64 20)]) (fun v10_5 w =>
 oM Tryd.prog (Go.Op.pick (.tmp 0) (.tmp 1) (.tmp 2)) 4 [v6_2, (.bool true), v10_5] (fun v11_6 w =>
 gdM (gd v11_6 false) (pureM a0) (fun v13_7 w =>
 gdM (gd v11_6 false) (oM Tryd.prog (Go.Op.index 9 (.tmp 0) (.tmp 1)) 5 [v13_7, (.int .i64 0)]) (fun v14_8 w =>
 gdM (gd v11_6 false) (callM Tryd.prog 36 #[v14_8]) (fun v15_9 w =>
 gdM (gd v11_6 false) (oM Tryd.prog (Go.Op.unOp Go.UnOp.not 4 (.tmp 0)) 4 [v15_9]) (fun v16_10 w =>
 oM Tryd.prog (Go.Op.pick (.tmp 0) (.tmp 1) (.tmp 2)) 4 [v11_6, (.bool true), v16_10] (fun v17_11 w =>
 condM v17_11
(K (.bool false) w)
(loopM [(.bool false), (.int .i64 1)] w (fun J_12 m_13 l_14 u_l_14 w0_l_14 => (fun w => (
 oM Tryd.prog (Go.Op.call (Go.Call.mk (Go.Callee.builtin Go.Builtin.len) #[(.tmp 0)] #[9])) 3 [a0] (fun v20_15 w =>
 oM Tryd.prog (Go.Op.binOp Go.BinOp.lss 3 (.tmp 0) (.tmp 1) 3) 4 [(l_14.getD 1 undef), v20_15] (fun v21_16 w =>
 condM v21_16
(oM Tryd.prog (Go.Op.index 9 (.tmp 0) (.tmp 1)) 5 [a0, (l_14.getD 1 undef)] (fun v26_17 w =>
 callM Tryd.prog 36 #[v26_17] (fun v27_18 w =>
 oM Tryd.prog (Go.Op.unOp Go.UnOp.not 4 (.tmp 0)) 4 [v27_18] (fun v28_19 w =>
 gdM (gd v28_19 true) (pureM a0) (fun v30_20 w =>
 gdM (gd v28_19 true) (pureM (l_14.getD 1 undef)) (fun v31_21 w =>
 gdM (gd v28_19 true) (oM Tryd.prog (Go.Op.index 9 (.tmp 0) (.tmp 1)) 5 [v30_20, v31_21]) (fun v32_22 w =>
 gdM (gd v28_19 true) (callM Tryd.prog 30 #[v32_22]) (fun v33_23 w =>
 gdM (gd v28_19 true) (oM Tryd.prog (Go.Op.unOp Go.UnOp.not 4 (.tmp 0)) 4 [v33_23]) (fun v34_24 w =>
 oM Tryd.prog (Go.Op.pick (.tmp 0) (.tmp 1) (.tmp 2)) 4 [v28_19, v34_24, (.bool false)] (fun v35_25 w =>
 gdM (gd v35_25 true) (pureM a0) (fun v37_26 w =>
 gdM (gd v35_25 true) (pureM (l_14.getD 1 undef)) (fun v38_27 w =>
 gdM (gd v35_25 true) (oM Tryd.prog (Go.Op.index 9 (.tmp 0) (.tmp 1)) 5 [v37_26, v38_27]) (fun v39_28 w =>
 gdM (gd v35_25 true) (oM Tryd.prog (Go.Op.binOp Go.BinOp.neq 5 (.tmp 0) (.const (.int .u8 95)) 5) 4 [v39_28]) (fun v40_29 w =>
 oM Tryd.prog (Go.Op.pick (.tmp 0) (.tmp 1) (.tmp 2)) 4 [v35_25, v40_29, (.bool false)] (fun v41_30 w =>
 condM v41_30
(K (.bool false) w)
(oM Tryd.prog (Go.Op.binOp Go.BinOp.add 3 (.tmp 0) (.tmp 1) 3) 3 [(l_14.getD 1 undef), (.int .i64 1)] (fun v23_31 w =>
 J_12 [(l_14.getD 0 undef), v23_31] w ∧ m_13 [(l_14.getD 0 undef), v23_31] w < m_13 l_14 w0_l_14) w)) w) w) w) w) w) w) w) w) w) w) w) w) w) w)
(K (.bool true) w)) w) w)) w0_l_14))) w) w) w) w) w) w) w) w) w) w) w
theorem sh_20_eq (a0 : Value) (K : Value → World → Prop) (w : World) : sh_20 a0 K w = code Tryd.prog (fun _ => true) 42 (Tryd.f20.body.getD .skip) (slotsAt [a0]) (retK Tryd.prog [.tmp 2] K) w := by kernel_rfl
theorem sh_20_ok {a0 : Value} {K : Value → World → Prop} {w : World} (h : sh_20 a0 K w) : callM Tryd.prog 20 #[a0] K w :=
  calls_of_code (fun _ => true) (fn := Tryd.f20) (rs := [.tmp 2]) Tryd.func20 rfl rfl (by kernel_rfl) (Nat.le_of_ble_eq_true rfl) ((sh_20_eq a0 K w).mp h)

/-- cloak/cloakref01.Print -/
def sh_21 (a0 : Value) (K : Value → World → Prop) (w : World) : Prop :=
 loopM [(.string ⟨#[]⟩), (.int .i64 0)] w (fun J_1 m_2 l_3 u_l_3 w0_l_3 => (fun w => (
 oM Tryd.prog (Go.Op.call (Go.Call.mk (Go.Callee.builtin Go.Builtin.len) #[(.tmp 0)] #[23])) 3 [a0] (fun v7_4 w =>
 oM Tryd.prog (Go.Op.binOp Go.BinOp.lss 3 (.tmp 0) (.tmp 1) 3) 4 [(l_3.getD 1 undef), v7_4] (fun v8_5 w =>
 condM v8_5
(joinM (fun M_6 => (joinM (fun M_8 => (oM Tryd.prog (Go.Op.binOp Go.BinOp.gtr 3 (.tmp 0) (.tmp 1) 3) 4 [(l_3.getD 1 undef), (.int .i64 0)] (fun v12_10 w =>
 condM v12_10
(oM Tryd.prog (Go.Op.binOp Go.BinOp.add 9 (.tmp 0) (.tmp 1) 9) 9 [(l_3.getD 0 undef), (.string ⟨#[32]⟩)] (fun v14_11 w =>
 M_8 [v14_11] w) w)
(M_8 [(l_3.getD 0 undef)] w)) w))
(fun l_9 u_l_9 w => (oM Tryd.prog (Go.Op.indexAddr 23 (.tmp 0) (.tmp 1)) 0 [a0, (l_3.getD 1 undef)] (fun v17_12 w =>
 oM Tryd.prog (Go.Op.fieldAddr 32 (.tmp 0) 0) 0 [v17_12] (fun v18_13 w =>
 oM Tryd.prog (Go.Op.load 3 (.tmp 0)) 3 [v18_13] (fun v19_14 w =>
 oM Tryd.prog (Go.Op.binOp Go.BinOp.eql 3 (.tmp 0) (.const (.int .i64 2)) 3) 4 [v19_14] (fun v20_15 w =>
 condM v20_15
(oM Tryd.prog (Go.Op.indexAddr 23 (.tmp 0) (.tmp 1)) 0 [a0, (l_3.getD 1 undef)] (fun v24_16 w =>
 oM Tryd.prog (Go.Op.fieldAddr 32 (.tmp 0) 1) 0 [v24_16] (fun v25_17 w =>
 oM Tryd.prog (Go.Op.load 9 (.tmp 0)) 9 [v25_17] (fun v26_18 w =>
 callM Tryd.prog 33 #[v26_18] (fun v27_19 w =>
 oM Tryd.prog (Go.Op.binOp Go.BinOp.add 9 (.tmp 0) (.tmp 1) 9) 9 [(l_9.getD 0 undef), v27_19] (fun v28_20 w =>
 M_6 [v28_20] w) w) w) w) w) w)
(oM Tryd.prog (Go.Op.indexAddr 23 (.tmp 0) (.tmp 1)) 0 [a0, (l_3.getD 1 undef)] (fun v32_21 w =>
 oM Tryd.prog (Go.Op.fieldAddr 32 (.tmp 0) 1) 0 [v32_21] (fun v33_22 w =>
 oM Tryd.prog (Go.Op.load 9 (.tmp 0)) 9 [v33_22] (fun v34_23 w =>
 oM Tryd.prog (Go.Op.binOp Go.BinOp.add 9 (.tmp 0) (.tmp 1) 9) 9 [(l_9.getD 0 undef), v34_23] (fun v35_24 w =>
 M_6 [v35_24] w) w) w) w) w)) w) w) w) w))))
(fun l_7 u_l_7 w => (oM Tryd.prog (Go.Op.binOp Go.BinOp.add 3 (.tmp 0) (.tmp 1) 3) 3 [(l_3.getD 1 undef), (.int .i64 1)] (fun v10_25 w =>
 J_1 [(l_7.getD 0 undef), v10_25] w ∧ m_2 [(l_7.getD 0 undef), v10_25] w < m_2 l_3 w0_l_3) w)))
(K (l_3.getD 0 undef) w)) w) w)) w0_l_3)
theorem sh_21_eq (a0 : Value) (K : Value → World → Prop) (w : World) : sh_21 a0 K w = code Tryd.prog (fun _ => true) 37 (Tryd.f21.body.getD .skip) (slotsAt [a0]) (retK Tryd.prog [.tmp 2] K) w := by kernel_rfl
theorem sh_21_ok {a0 : Value} {K : Value → World → Prop} {w : World} (h : sh_21 a0 K w) : callM Tryd.prog 21 #[a0] K w :=
  calls_of_code (fun _ => true) (fn := Tryd.f21) (rs := [.tmp 2]) Tryd.func21 rfl rfl (by kernel_rfl) (Nat.le_of_ble_eq_true rfl) ((sh_21_eq a0 K w).mp h)

/-- cloak/base.gap -/
def sh_22 (a0 : Value) (K : Value → World → Prop) (w : World) : Prop :=
 callM Tryd.prog 28 #[a0, (.func (.func 37) #[] #[])] (fun v5_1 w =>
 loopM [v5_1] w (fun J_2 m_3 l_4 u_l_4 w0_l_4 => (fun w => (
 oM Tryd.prog (Go.Op.call (Go.Call.mk (Go.Callee.builtin Go.Builtin.len) #[(.tmp 0)] #[9])) 3 [a0] (fun v8_5 w =>
 oM Tryd.prog (Go.Op.binOp Go.BinOp.lss 3 (.tmp 0) (.tmp 1) 3) 4 [(l_4.getD 0 undef), v8_5] (fun v9_6 w =>
 gdM (gd v9_6 true) (pureM a0) (fun v11_7 w =>
 gdM (gd v9_6 true) (pureM (l_4.getD 0 undef)) (fun v12_8 w =>
 gdM (gd v9_6 true) (oM Tryd.prog (Go.Op.index 9 (.tmp 0) (.tmp 1)) 5 [v11_7, v12_8]) (fun v13_9 w =>
 gdM (gd v9_6 true) (oM Tryd.prog (Go.Op.binOp Go.BinOp.eql 5 (.tmp 0) (.const (.int .u8 35)) 5) 4 [v13_9]) (fun v14_10 w =>
 oM Tryd.prog (Go.Op.pick (.tmp 0) (.tmp 1) (.tmp 2)) 4 [v9_6, v14_10, (.bool false)] (fun v15_11 w =>
 condM v15_11
(loopM [(l_4.getD 0 undef)] w (fun J_12 m_13 l_14 u_l_14 w0_l_14 => (fun w => (
 oM Tryd.prog (Go.Op.call (Go.Call.mk (Go.Callee.builtin Go.Builtin.len) #[(.tmp 0)] #[9])) 3 [a0] (fun v18_15 w =>
 oM Tryd.prog (Go.Op.binOp Go.BinOp.lss 3 (.tmp 0) (.tmp 1) 3) 4 [(l_14.getD 0 undef), v18_15] (fun v19_16 w =>
 gdM (gd v19_16 true) (pureM a0) (fun v21_17 w =>
 gdM (gd v19_16 true) (pureM (l_14.getD 0 undef)) (fun v22_18 w =>
 gdM (gd v19_16 true) (oM Tryd.prog (Go.Op.index 9 (.tmp 0) (.tmp 1)) 5 [v21_17, v22_18]) (fun v23_19 w =>
 gdM (gd v19_16 true) (oM Tryd.prog (Go.Op.binOp Go.BinOp.neq 5 (.tmp 0) (.const (.int .u8 10)) 5) 4 [v23_19]) (fun v24_20 w =>
 oM Tryd.prog (Go.Op.pick (.tmp 0) (.tmp 1) (.tmp 2)) 4 [v19_16, v24_20, (.bool false)] (fun v25_21 w =>
 condM v25_21
(oM Tryd.prog (Go.Op.binOp Go.BinOp.add 3 (.tmp 0) (.tmp 1) 3) 3 [(l_14.getD 0 undef), (.int .i64 1)] (fun v27_22 w =>
 J_12 [v27_22] w ∧ m_13 [v27_22] w < m_13 l_14 w0_l_14) w)
(oM Tryd.prog (Go.Op.slice 9 (.tmp 0) (some (.tmp 1)) none none) 9 [a0, (l_14.getD 0 undef)] (fun v31_23 w =>
 callM Tryd.prog 28 #[v31_23, (.func (.func 37) #[] #[])] (fun v32_24 w =>
 oM Tryd.prog (Go.Op.binOp Go.BinOp.add 3 (.tmp 0) (.tmp 1) 3) 3 [(l_14.getD 0 undef), v32_24] (fun v33_25 w =>
 J_2 [v33_25] w ∧ m_3 [v33_25] w < m_3 l_4 w0_l_4) w) w) w)) w) w) w) w) w) w) w)) w0_l_14))
(K (l_4.getD 0 undef) w)) w) w) w) w) w) w) w)) w0_l_4)) w
theorem sh_22_eq (a0 : Value) (K : Value → World → Prop) (w : World) : sh_22 a0 K w = code Tryd.prog (fun _ => true) 35 (Tryd.f22.body.getD .skip) (slotsAt [a0]) (retK Tryd.prog [.tmp 2] K) w := by kernel_rfl
theorem sh_22_ok {a0 : Value} {K : Value → World → Prop} {w : World} (h : sh_22 a0 K w) : callM Tryd.prog 22 #[a0] K w :=
  calls_of_code (fun _ => true) (fn := Tryd.f22) (rs := [.tmp 2]) Tryd.func22 rfl rfl (by kernel_rfl) (Nat.le_of_ble_eq_true rfl) ((sh_22_eq a0 K w).mp h)

/-- cloak/base.next -/
def sh_23 (a0 : Value) (K : Value → World → Prop) (w : World) : Prop :=
 oM Tryd.prog (Go.Op.alloc 32) 0 [] (fun v2_1 w =>
 oM Tryd.prog (Go.Op.index 9 (.tmp 0) (.tmp 1)) 5 [a0, (.int .i64 0)] (fun v15_2 w =>
 callM Tryd.prog 34 #[v15_2] (fun v16_3 w =>
 condM v16_3
(callM Tryd.prog 28 #[a0, (.func (.func 35) #[] #[])] (fun v19_4 w =>
 oM Tryd.prog (Go.Op.slice 9 (.tmp 0) none (some (.tmp 1)) none) 9 [a0, v19_4] (fun v20_5 w =>
 callM Tryd.prog 19 #[v20_5] (fun v22_6 w =>
 oM Tryd.prog (Go.Op.unOp Go.UnOp.not 4 (.tmp 0)) 4 [v22_6] (fun v23_7 w =>
 condM v23_7
(oM Tryd.prog (Go.Op.build 32 #[]) 32 [] (fun v24_8 w =>
 oM Tryd.prog (Go.Op.store 32 (.tmp 0) (.tmp 1)) 0 [v2_1, v24_8] (fun _ w =>
 ∃ r_9, (do loadVar 32 (← asAddr v2_1) : Sem Value).run Tryd.prog w = .ok r_9 w ∧ K (.tuple #[r_9, (.int .i64 0), (.int .i64 3)]) w) w) w)
(oM Tryd.prog (Go.Op.build 32 #[(0, (.tmp 0)), (1, (.tmp 1))]) 32 [(.int .i64 0), v20_5] (fun v26_10 w =>
 oM Tryd.prog (Go.Op.call (Go.Call.mk (Go.Callee.builtin Go.Builtin.len) #[(.tmp 0)] #[9])) 3 [v20_5] (fun v28_11 w =>
 oM Tryd.prog (Go.Op.store 32 (.tmp 0) (.tmp 1)) 0 [v2_1, v26_10] (fun _ w =>
 ∃ r_12, (do loadVar 32 (← asAddr v2_1) : Sem Value).run Tryd.prog w = .ok r_12 w ∧ K (.tuple #[r_12, v28_11, (.int .i64 0)]) w) w) w) w)) w) w) w) w)
(oM Tryd.prog (Go.Op.index 9 (.tmp 0) (.tmp 1)) 5 [a0, (.int .i64 0)] (fun v31_13 w =>
 callM Tryd.prog 29 #[v31_13] (fun v32_14 w =>
 condM v32_14
(callM Tryd.prog 28 #[a0, (.func (.func 29) #[] #[])] (fun v35_15 w =>
 oM Tryd.prog (Go.Op.slice 9 (.tmp 0) none (some (.tmp 1)) none) 9 [a0, v35_15] (fun v36_16 w =>
 callM Tryd.prog 14 #[v36_16] (fun v39_17 w =>
 oM Tryd.prog (Go.Op.extract (.tmp 0) 0) 3 [v39_17] (fun v40_18 w =>
 oM Tryd.prog (Go.Op.extract (.tmp 0) 1) 4 [v39_17] (fun v41_19 w =>
 oM Tryd.prog (Go.Op.unOp Go.UnOp.not 4 (.tmp 0)) 4 [v41_19] (fun v43_20 w =>
 condM v43_20
(oM Tryd.prog (Go.Op.build 32 #[]) 32 [] (fun v44_21 w =>
 oM Tryd.prog (Go.Op.store 32 (.tmp 0) (.tmp 1)) 0 [v2_1, v44_21] (fun _ w =>
 ∃ r_22, (do loadVar 32 (← asAddr v2_1) : Sem Value).run Tryd.prog w = .ok r_22 w ∧ K (.tuple #[r_22, (.int .i64 0), (.int .i64 3)]) w) w) w)
(oM Tryd.prog (Go.Op.build 32 #[(0, (.tmp 0)), (1, (.tmp 1)), (2, (.tmp 2))]) 32 [(.int .i64 1), v36_16, v40_18] (fun v47_23 w =>
 oM Tryd.prog (Go.Op.call (Go.Call.mk (Go.Callee.builtin Go.Builtin.len) #[(.tmp 0)] #[9])) 3 [v36_16] (fun v49_24 w =>
 oM Tryd.prog (Go.Op.store 32 (.tmp 0) (.tmp 1)) 0 [v2_1, v47_23] (fun _ w =>
 ∃ r_25, (do loadVar 32 (← asAddr v2_1) : Sem Value).run Tryd.prog w = .ok r_25 w ∧ K (.tuple #[r_25, v49_24, (.int .i64 0)]) w) w) w) w)) w) w) w) w) w) w)
(oM Tryd.prog (Go.Op.index 9 (.tmp 0) (.tmp 1)) 5 [a0, (.int .i64 0)] (fun v52_26 w =>
 oM Tryd.prog (Go.Op.binOp Go.BinOp.eql 5 (.tmp 0) (.const (.int .u8 34)) 5) 4 [v52_26] (fun v53_27 w =>
 condM v53_27
(callM Tryd.prog 38 #[a0] (fun v56_28 w =>
 oM Tryd.prog (Go.Op.extract (.tmp 0) 0) 9 [v56_28] (fun v57_29 w =>
 oM Tryd.prog (Go.Op.extract (.tmp 0) 1) 3 [v56_28] (fun v58_30 w =>
 oM Tryd.prog (Go.Op.binOp Go.BinOp.eql 3 (.tmp 0) (.const (.int .i64 0)) 3) 4 [v58_30] (fun v60_31 w =>
 condM v60_31
(oM Tryd.prog (Go.Op.build 32 #[]) 32 [] (fun v61_32 w =>
 oM Tryd.prog (Go.Op.store 32 (.tmp 0) (.tmp 1)) 0 [v2_1, v61_32] (fun _ w =>
 ∃ r_33, (do loadVar 32 (← asAddr v2_1) : Sem Value).run Tryd.prog w = .ok r_33 w ∧ K (.tuple #[r_33, (.int .i64 0), (.int .i64 2)]) w) w) w)
(oM Tryd.prog (Go.Op.build 32 #[(0, (.tmp 0)), (1, (.tmp 1))]) 32 [(.int .i64 2), v57_29] (fun v63_34 w =>
 oM Tryd.prog (Go.Op.store 32 (.tmp 0) (.tmp 1)) 0 [v2_1, v63_34] (fun _ w =>
 ∃ r_35, (do loadVar 32 (← asAddr v2_1) : Sem Value).run Tryd.prog w = .ok r_35 w ∧ K (.tuple #[r_35, v58_30, (.int .i64 0)]) w) w) w)) w) w) w) w)
(oM Tryd.prog (Go.Op.load 50 (.tmp 0)) 50 [(.pointer (some ⟨0, 0, none⟩))] (fun v65_36 w =>
 loopM [undef, (.int .i64 0), (.int .i64 0), (.int .i64 0)] w (fun J_37 m_38 l_39 u_l_39 w0_l_39 => (fun w => (
 oM Tryd.prog (Go.Op.binOp Go.BinOp.lss 3 (.tmp 0) (.tmp 1) 3) 0 [(l_39.getD 3 undef), (.int .i64 19)] (fun v67_40 w =>
 condM v67_40
(oM Tryd.prog (Go.Op.index 50 (.tmp 0) (.tmp 1)) 9 [v65_36, (l_39.getD 3 undef)] (fun v68_41 w =>
 callM Tryd.prog 39 #[a0, v68_41] (fun v71_42 w =>
 condM v71_42
(oM Tryd.prog (Go.Op.build 32 #[(0, (.tmp 0)), (1, (.tmp 1))]) 32 [(.int .i64 3), v68_41] (fun v73_43 w =>
 oM Tryd.prog (Go.Op.call (Go.Call.mk (Go.Callee.builtin Go.Builtin.len) #[(.tmp 0)] #[9])) 3 [v68_41] (fun v75_44 w =>
 oM Tryd.prog (Go.Op.store 32 (.tmp 0) (.tmp 1)) 0 [v2_1, v73_43] (fun _ w =>
 ∃ r_45, (do loadVar 32 (← asAddr v2_1) : Sem Value).run Tryd.prog w = .ok r_45 w ∧ K (.tuple #[r_45, v75_44, (.int .i64 0)]) w) w) w) w)
(oM Tryd.prog (Go.Op.binOp Go.BinOp.add 3 (.tmp 0) (.tmp 1) 3) 3 [(l_39.getD 3 undef), (.int .i64 1)] (fun v76_46 w =>
 J_37 [v68_41, (l_39.getD 1 undef), (l_39.getD 2 undef), v76_46] w ∧ m_38 [v68_41, (l_39.getD 1 undef), (l_39.getD 2 undef), v76_46] w < m_38 l_39 w0_l_39) w)) w) w)
(oM Tryd.prog (Go.Op.build 32 #[]) 32 [] (fun v77_47 w =>
 oM Tryd.prog (Go.Op.store 32 (.tmp 0) (.tmp 1)) 0 [v2_1, v77_47] (fun _ w =>
 ∃ r_48, (do loadVar 32 (← asAddr v2_1) : Sem Value).run Tryd.prog w = .ok r_48 w ∧ K (.tuple #[r_48, (.int .i64 0), (.int .i64 10)]) w) w) w)) w)) w0_l_39)) w)) w) w)) w) w)) w) w) w
theorem sh_23_eq (a0 : Value) (K : Value → World → Prop) (w : World) : sh_23 a0 K w = code Tryd.prog (fun _ => true) 78 (Tryd.f23.body.getD .skip) (slotsAt [a0]) (retK Tryd.prog [.cell 2 32, .tmp 3, .tmp 4] K) w := by kernel_rfl
theorem sh_23_ok {a0 : Value} {K : Value → World → Prop} {w : World} (h : sh_23 a0 K w) : callM Tryd.prog 23 #[a0] K w :=
  calls_of_code (fun _ => true) (fn := Tryd.f23) (rs := [.cell 2 32, .tmp 3, .tmp 4]) Tryd.func23 rfl rfl (by kernel_rfl) (Nat.le_of_ble_eq_true rfl) ((sh_23_eq a0 K w).mp h)

/-- cloak/base.escaped -/
def sh_24 (a0 : Value) (K : Value → World → Prop) (w : World) : Prop :=
 oM Tryd.prog (Go.Op.alloc 54) 0 [] (fun v3_1 w =>
 callM Tryd.prog 40 #[v3_1, (.int .u8 34)] (fun v5_2 w =>
 oM Tryd.prog (Go.Op.call (Go.Call.mk (Go.Callee.builtin Go.Builtin.len) #[(.tmp 0)] #[9])) 3 [a0] (fun v7_3 w =>
 loopM [undef, (.int .i64 0)] w (fun J_4 m_5 l_6 u_l_6 w0_l_6 => (fun w => (
 oM Tryd.prog (Go.Op.binOp Go.BinOp.lss 3 (.tmp 0) (.tmp 1) 3) 4 [(l_6.getD 1 undef), v7_3] (fun v9_7 w =>
 condM v9_7
(joinM (fun M_8 => (oM Tryd.prog (Go.Op.index 9 (.tmp 0) (.tmp 1)) 5 [a0, (l_6.getD 1 undef)] (fun v13_10 w =>
 oM Tryd.prog (Go.Op.binOp Go.BinOp.eql 5 (.tmp 0) (.const (.int .u8 34)) 5) 4 [v13_10] (fun v14_11 w =>
 gdM (gd v14_11 false) (pureM a0) (fun v16_12 w =>
 gdM (gd v14_11 false) (pureM (l_6.getD 1 undef)) (fun v17_13 w =>
 gdM (gd v14_11 false) (oM Tryd.prog (Go.Op.index 9 (.tmp 0) (.tmp 1)) 5 [v16_12, v17_13]) (fun v18_14 w =>
 gdM (gd v14_11 false) (oM Tryd.prog (Go.Op.binOp Go.BinOp.eql 5 (.tmp 0) (.const (.int .u8 92)) 5) 4 [v18_14]) (fun v19_15 w =>
 oM Tryd.prog (Go.Op.pick (.tmp 0) (.tmp 1) (.tmp 2)) 4 [v14_11, (.bool true), v19_15] (fun v20_16 w =>
 condM v20_16
(callM Tryd.prog 40 #[v3_1, (.int .u8 92)] (fun v21_17 w =>
 M_8 [] w) w)
(M_8 [] w)) w) w) w) w) w) w) w))
(fun l_9 u_l_9 w => (oM Tryd.prog (Go.Op.index 9 (.tmp 0) (.tmp 1)) 5 [a0, (l_6.getD 1 undef)] (fun v24_18 w =>
 callM Tryd.prog 40 #[v3_1, v24_18] (fun v25_19 w =>
 oM Tryd.prog (Go.Op.binOp Go.BinOp.add 3 (.tmp 0) (.tmp 1) 3) 3 [(l_6.getD 1 undef), (.int .i64 1)] (fun v26_20 w =>
 J_4 [(l_6.getD 1 undef), v26_20] w ∧ m_5 [(l_6.getD 1 undef), v26_20] w < m_5 l_6 w0_l_6) w) w) w)))
(callM Tryd.prog 40 #[v3_1, (.int .u8 34)] (fun v27_21 w =>
 callM Tryd.prog 41 #[v3_1] (fun v28_22 w =>
 K v28_22 w) w) w)) w)) w0_l_6)) w) w) w
theorem sh_24_eq (a0 : Value) (K : Value → World → Prop) (w : World) : sh_24 a0 K w = code Tryd.prog (fun _ => true) 29 (Tryd.f24.body.getD .skip) (slotsAt [a0]) (retK Tryd.prog [.tmp 2] K) w := by kernel_rfl
theorem sh_24_ok {a0 : Value} {K : Value → World → Prop} {w : World} (h : sh_24 a0 K w) : callM Tryd.prog 24 #[a0] K w :=
  calls_of_code (fun _ => true) (fn := Tryd.f24) (rs := [.tmp 2]) Tryd.func24 rfl rfl (by kernel_rfl) (Nat.le_of_ble_eq_true rfl) ((sh_24_eq a0 K w).mp h)

/-- cloak/cloakref01.Blank -/
def sh_26 (a0 : Value) (K : Value → World → Prop) (w : World) : Prop :=
 oM Tryd.prog (Go.Op.binOp Go.BinOp.eql 5 (.tmp 0) (.const (.int .u8 9)) 5) 4 [a0] (fun v4_1 w =>
 gdM (gd v4_1 false) (pureM a0) (fun v6_2 w =>
 gdM (gd v4_1 false) (oM Tryd.prog (Go.Op.binOp Go.BinOp.eql 5 (.tmp 0) (.const (.int .u8 10)) 5) 4 [v6_2]) (fun v7_3 w =>
 oM Tryd.prog (Go.Op.pick (.tmp 0) (.tmp 1) (.tmp 2)) 4 [v4_1, (.bool true), v7_3] (fun v8_4 w =>
 gdM (gd v8_4 false) (pureM a0) (fun v10_5 w =>
 gdM (gd v8_4 false) (oM Tryd.prog (Go.Op.binOp Go.BinOp.eql 5 (.tmp 0) (.const (.int .u8 32)) 5) 4 [v10_5]) (fun v11_6 w =>
 oM Tryd.prog (Go.Op.pick (.tmp 0) (.tmp 1) (.tmp 2)) 4 [v8_4, (.bool true), v11_6] (fun v12_7 w =>
 K v12_7 w) w) w) w) w) w) w) w
theorem sh_26_eq (a0 : Value) (K : Value → World → Prop) (w : World) : sh_26 a0 K w = code Tryd.prog (fun _ => true) 13 (Tryd.f26.body.getD .skip) (slotsAt [a0]) (retK Tryd.prog [.tmp 2] K) w := by kernel_rfl
theorem sh_26_ok {a0 : Value} {K : Value → World → Prop} {w : World} (h : sh_26 a0 K w) : callM Tryd.prog 26 #[a0] K w :=
  calls_of_code (fun _ => true) (fn := Tryd.f26) (rs := [.tmp 2]) Tryd.func26 rfl rfl (by kernel_rfl) (Nat.le_of_ble_eq_true rfl) ((sh_26_eq a0 K w).mp h)

/-- cloak/cloakref01.token -/
def sh_27 (a0 : Value) (a1 : Value) (K : Value → World → Prop) (w : World) : Prop :=
 oM Tryd.prog (Go.Op.alloc 32) 0 [] (fun v4_1 w =>
 oM Tryd.prog (Go.Op.binOp Go.BinOp.add 3 (.tmp 0) (.tmp 1) 3) 3 [a1, (.int .i64 1)] (fun v15_2 w =>
 oM Tryd.prog (Go.Op.index 9 (.tmp 0) (.tmp 1)) 5 [a0, a1] (fun v18_3 w =>
 callM Tryd.prog 36 #[v18_3] (fun v19_4 w =>
 condM v19_4
(loopM [v15_2] w (fun J_5 m_6 l_7 u_l_7 w0_l_7 => (fun w => (
 oM Tryd.prog (Go.Op.call (Go.Call.mk (Go.Callee.builtin Go.Builtin.len) #[(.tmp 0)] #[9])) 3 [a0] (fun v22_8 w =>
 oM Tryd.prog (Go.Op.binOp Go.BinOp.lss 3 (.tmp 0) (.tmp 1) 3) 4 [(l_7.getD 0 undef), v22_8] (fun v23_9 w =>
 gdM (gd v23_9 true) (pureM a0) (fun v25_10 w =>
 gdM (gd v23_9 true) (pureM (l_7.getD 0 undef)) (fun v26_11 w =>
 gdM (gd v23_9 true) (oM Tryd.prog (Go.Op.index 9 (.tmp 0) (.tmp 1)) 5 [v25_10, v26_11]) (fun v27_12 w =>
 gdM (gd v23_9 true) (callM Tryd.prog 36 #[v27_12]) (fun v28_13 w =>
 gdM (gd v23_9 true) (pureM v28_13) (fun v29_14 w =>
 gdM (gd v29_14 false) (pureM a0) (fun v30_15 w =>
 gdM (gd v29_14 false) (pureM (l_7.getD 0 undef)) (fun v31_16 w =>
 gdM (gd v29_14 false) (oM Tryd.prog (Go.Op.index 9 (.tmp 0) (.tmp 1)) 5 [v30_15, v31_16]) (fun v32_17 w =>
 gdM (gd v29_14 false) (callM Tryd.prog 30 #[v32_17]) (fun v33_18 w =>
 gdM (gd v23_9 true) (oM Tryd.prog (Go.Op.pick (.tmp 0) (.tmp 1) (.tmp 2)) 4 [v29_14, (.bool true), v33_18]) (fun v34_19 w =>
 gdM (gd v23_9 true) (pureM v34_19) (fun v35_20 w =>
 gdM (gd v35_20 false) (pureM a0) (fun v36_21 w =>
 gdM (gd v35_20 false) (pureM (l_7.getD 0 undef)) (fun v37_22 w =>
 gdM (gd v35_20 false) (oM Tryd.prog (Go.Op.index 9 (.tmp 0) (.tmp 1)) 5 [v36_21, v37_22]) (fun v38_23 w =>
 gdM (gd v35_20 false) (oM Tryd.prog (Go.Op.binOp Go.BinOp.eql 5 (.tmp 0) (.const (.int .u8 95)) 5) 4 [v38_23]) (fun v39_24 w =>
 gdM (gd v23_9 true) (oM Tryd.prog (Go.Op.pick (.tmp 0) (.tmp 1) (.tmp 2)) 4 [v35_20, (.bool true), v39_24]) (fun v40_25 w =>
 oM Tryd.prog (Go.Op.pick (.tmp 0) (.tmp 1) (.tmp 2)) 4 [v23_9, v40_25, (.bool false)] (fun v41_26 w =>
 condM v41_26
(oM Tryd.prog (Go.Op.binOp Go.BinOp.add 3 (.tmp 0) (.tmp 1) 3) 3 [(l_7.getD 0 undef), (.int .i64 1)] (fun v43_27 w =>
 J_5 [v43_27] w ∧ m_6 [v43_27] w < m_6 l_7 w0_l_7) w)
(oM Tryd.prog (Go.Op.slice 9 (.tmp 0) (some (.tmp 1)) (some (.tmp 2)) none) 9 [a0, a1, (l_7.getD 0 undef)] (fun v47_28 w =>
 callM Tryd.prog 20 #[v47_28] (fun v48_29 w =>
 oM Tryd.prog (Go.Op.unOp Go.UnOp.not 4 (.tmp 0)) 4 [v48_29] (fun v49_30 w =>
 condM v49_30
(oM Tryd.prog (Go.Op.build 32 #[]) 32 [] (fun v50_31 w =>
 oM Tryd.prog (Go.Op.store 32 (.tmp 0) (.tmp 1)) 0 [v4_1, v50_31] (fun _ w =>
 ∃ r_32, (do loadVar 32 (← asAddr v4_1) : Sem Value).run Tryd.prog w = .ok r_32 w ∧ K (.tuple #[r_32, (.int .i64 0), (.int .i64 3)]) w) w) w)
(oM Tryd.prog (Go.Op.slice 9 (.tmp 0) (some (.tmp 1)) (some (.tmp 2)) none) 9 [a0, a1, (l_7.getD 0 undef)] (fun v54_33 w =>
 oM Tryd.prog (Go.Op.build 32 #[(0, (.tmp 0)), (1, (.tmp 1)), (3, (.tmp 2))]) 32 [(.int .i64 0), v54_33, a1] (fun v56_34 w =>
 oM Tryd.prog (Go.Op.store 32 (.tmp 0) (.tmp 1)) 0 [v4_1, v56_34] (fun _ w =>
 ∃ r_35, (do loadVar 32 (← asAddr v4_1) : Sem Value).run Tryd.prog w = .ok r_35 w ∧ K (.tuple #[r_35, (l_7.getD 0 undef), (.int .i64 0)]) w) w) w) w)) w) w) w)) w) w) w) w) w) w) w) w) w) w) w) w) w) w) w) w) w) w) w)) w0_l_7))
(oM Tryd.prog (Go.Op.index 9 (.tmp 0) (.tmp 1)) 5 [a0, a1] (fun v60_36 w =>
 callM Tryd.prog 30 #[v60_36] (fun v61_37 w =>
 condM v61_37
(loopM [v15_2] w (fun J_38 m_39 l_40 u_l_40 w0_l_40 => (fun w => (
 oM Tryd.prog (Go.Op.call (Go.Call.mk (Go.Callee.builtin Go.Builtin.len) #[(.tmp 0)] #[9])) 3 [a0] (fun v64_41 w =>
 oM Tryd.prog (Go.Op.binOp Go.BinOp.lss 3 (.tmp 0) (.tmp 1) 3) 4 [(l_40.getD 0 undef), v64_41] (fun v65_42 w =>
 gdM (gd v65_42 true) (pureM a0) (fun v67_43 w =>
 gdM (gd v65_42 true) (pureM (l_40.getD 0 undef)) (fun v68_44 w =>
 gdM (gd v65_42 true) (oM Tryd.prog (Go.Op.index 9 (.tmp 0) (.tmp 1)) 5 [v67_43, v68_44]) (fun v69_45 w =>
 gdM (gd v65_42 true) (callM Tryd.prog 30 #[v69_45]) (fun v70_46 w =>
 oM Tryd.prog (Go.Op.pick (.tmp 0) (.tmp 1) (.tmp 2)) 4 [v65_42, v70_46, (.bool false)] (fun v71_47 w =>
 condM v71_47
(oM Tryd.prog (Go.Op.binOp Go.BinOp.add 3 (.tmp 0) (.tmp 1) 3) 3 [(l_40.getD 0 undef), (.int .i64 1)] (fun v73_48 w =>
 J_38 [v73_48] w ∧ m_39 [v73_48] w < m_39 l_40 w0_l_40) w)
(oM Tryd.prog (Go.Op.slice 9 (.tmp 0) (some (.tmp 1)) (some (.tmp 2)) none) 9 [a0, a1, (l_40.getD 0 undef)] (fun v78_49 w =>
 callM Tryd.prog 15 #[v78_49] (fun v79_50 w =>
 oM Tryd.prog (Go.Op.extract (.tmp 0) 0) 3 [v79_50] (fun v80_51 w =>
 oM Tryd.prog (Go.Op.extract (.tmp 0) 1) 4 [v79_50] (fun v81_52 w =>
 oM Tryd.prog (Go.Op.unOp Go.UnOp.not 4 (.tmp 0)) 4 [v81_52] (fun v83_53 w =>
 condM v83_53
(oM Tryd.prog (Go.Op.build 32 #[]) 32 [] (fun v84_54 w =>
 oM Tryd.prog (Go.Op.store 32 (.tmp 0) (.tmp 1)) 0 [v4_1, v84_54] (fun _ w =>
 ∃ r_55, (do loadVar 32 (← asAddr v4_1) : Sem Value).run Tryd.prog w = .ok r_55 w ∧ K (.tuple #[r_55, (.int .i64 0), (.int .i64 3)]) w) w) w)
(oM Tryd.prog (Go.Op.slice 9 (.tmp 0) (some (.tmp 1)) (some (.tmp 2)) none) 9 [a0, a1, (l_40.getD 0 undef)] (fun v88_56 w =>
 oM Tryd.prog (Go.Op.build 32 #[(0, (.tmp 0)), (1, (.tmp 1)), (2, (.tmp 2)), (3, (.tmp 3))]) 32 [(.int .i64 1), v88_56, v80_51, a1] (fun v91_57 w =>
 oM Tryd.prog (Go.Op.store 32 (.tmp 0) (.tmp 1)) 0 [v4_1, v91_57] (fun _ w =>
 ∃ r_58, (do loadVar 32 (← asAddr v4_1) : Sem Value).run Tryd.prog w = .ok r_58 w ∧ K (.tuple #[r_58, (l_40.getD 0 undef), (.int .i64 0)]) w) w) w) w)) w) w) w) w) w)) w) w) w) w) w) w) w)) w0_l_40))
(oM Tryd.prog (Go.Op.index 9 (.tmp 0) (.tmp 1)) 5 [a0, a1] (fun v95_59 w =>
 oM Tryd.prog (Go.Op.binOp Go.BinOp.eql 5 (.tmp 0) (.const (.int .u8 34)) 5) 4 [v95_59] (fun v96_60 w =>
 condM v96_60
(callM Tryd.prog 44 #[a0, a1] (fun v100_61 w =>
 oM Tryd.prog (Go.Op.extract (.tmp 0) 0) 9 [v100_61] (fun v101_62 w =>
 oM Tryd.prog (Go.Op.extract (.tmp 0) 1) 3 [v100_61] (fun v102_63 w =>
 oM Tryd.prog (Go.Op.extract (.tmp 0) 2) 4 [v100_61] (fun v103_64 w =>
 oM Tryd.prog (Go.Op.unOp Go.UnOp.not 4 (.tmp 0)) 4 [v103_64] (fun v105_65 w =>
 condM v105_65
(oM Tryd.prog (Go.Op.build 32 #[]) 32 [] (fun v106_66 w =>
 oM Tryd.prog (Go.Op.store 32 (.tmp 0) (.tmp 1)) 0 [v4_1, v106_66] (fun _ w =>
 ∃ r_67, (do loadVar 32 (← asAddr v4_1) : Sem Value).run Tryd.prog w = .ok r_67 w ∧ K (.tuple #[r_67, (.int .i64 0), (.int .i64 2)]) w) w) w)
(oM Tryd.prog (Go.Op.build 32 #[(0, (.tmp 0)), (1, (.tmp 1)), (3, (.tmp 2))]) 32 [(.int .i64 2), v101_62, a1] (fun v109_68 w =>
 oM Tryd.prog (Go.Op.store 32 (.tmp 0) (.tmp 1)) 0 [v4_1, v109_68] (fun _ w =>
 ∃ r_69, (do loadVar 32 (← asAddr v4_1) : Sem Value).run Tryd.prog w = .ok r_69 w ∧ K (.tuple #[r_69, v102_63, (.int .i64 0)]) w) w) w)) w) w) w) w) w)
(callM Tryd.prog 45 #[a0, a1] (fun v113_70 w =>
 oM Tryd.prog (Go.Op.binOp Go.BinOp.eql 3 (.tmp 0) (.const (.int .i64 0)) 3) 4 [v113_70] (fun v115_71 w =>
 condM v115_71
(oM Tryd.prog (Go.Op.build 32 #[]) 32 [] (fun v116_72 w =>
 oM Tryd.prog (Go.Op.store 32 (.tmp 0) (.tmp 1)) 0 [v4_1, v116_72] (fun _ w =>
 ∃ r_73, (do loadVar 32 (← asAddr v4_1) : Sem Value).run Tryd.prog w = .ok r_73 w ∧ K (.tuple #[r_73, (.int .i64 0), (.int .i64 10)]) w) w) w)
(oM Tryd.prog (Go.Op.binOp Go.BinOp.add 3 (.tmp 0) (.tmp 1) 3) 3 [a1, v113_70] (fun v119_74 w =>
 oM Tryd.prog (Go.Op.slice 9 (.tmp 0) (some (.tmp 1)) (some (.tmp 2)) none) 9 [a0, a1, v119_74] (fun v123_75 w =>
 oM Tryd.prog (Go.Op.build 32 #[(0, (.tmp 0)), (1, (.tmp 1)), (3, (.tmp 2))]) 32 [(.int .i64 3), v123_75, a1] (fun v125_76 w =>
 oM Tryd.prog (Go.Op.store 32 (.tmp 0) (.tmp 1)) 0 [v4_1, v125_76] (fun _ w =>
 ∃ r_77, (do loadVar 32 (← asAddr v4_1) : Sem Value).run Tryd.prog w = .ok r_77 w ∧ K (.tuple #[r_77, v119_74, (.int .i64 0)]) w) w) w) w) w)) w) w)) w) w)) w) w)) w) w) w) w
theorem sh_27_eq (a0 : Value) (a1 : Value) (K : Value → World → Prop) (w : World) : sh_27 a0 a1 K w = code Tryd.prog (fun _ => true) 127 (Tryd.f27.body.getD .skip) (slotsAt [a0, a1]) (retK Tryd.prog [.cell 4 32, .tmp 5, .tmp 6] K) w := by kernel_rfl
theorem sh_27_ok {a0 a1 : Value} {K : Value → World → Prop} {w : World} (h : sh_27 a0 a1 K w) : callM Tryd.prog 27 #[a0, a1] K w :=
  calls_of_code (fun _ => true) (fn := Tryd.f27) (rs := [.cell 4 32, .tmp 5, .tmp 6]) Tryd.func27 rfl rfl (by kernel_rfl) (Nat.le_of_ble_eq_true rfl) ((sh_27_eq a0 a1 K w).mp h)

/-- cloak/base.run -/
def sh_28 (a0 : Value) (a1 : Value) (K : Value → World → Prop) (w : World) : Prop :=
 loopM [(.int .i64 0)] w (fun J_1 m_2 l_3 u_l_3 w0_l_3 => (fun w => (
 oM Tryd.prog (Go.Op.call (Go.Call.mk (Go.Callee.builtin Go.Builtin.len) #[(.tmp 0)] #[9])) 3 [a0] (fun v8_4 w =>
 oM Tryd.prog (Go.Op.binOp Go.BinOp.lss 3 (.tmp 0) (.tmp 1) 3) 4 [(l_3.getD 0 undef), v8_4] (fun v9_5 w =>
 gdM (gd v9_5 true) (pureM a1) (fun v11_6 w =>
 gdM (gd v9_5 true) (pureM a0) (fun v12_7 w =>
 gdM (gd v9_5 true) (pureM (l_3.getD 0 undef)) (fun v13_8 w =>
 gdM (gd v9_5 true) (oM Tryd.prog (Go.Op.index 9 (.tmp 0) (.tmp 1)) 5 [v12_7, v13_8]) (fun v14_9 w =>
 gdM (gd v9_5 true) (oM Tryd.prog (Go.Op.call (Go.Call.mk (Go.Callee.value (.tmp 0)) #[(.tmp 1)] #[5])) 4 [v11_6, v14_9]) (fun v15_10 w =>
 oM Tryd.prog (Go.Op.pick (.tmp 0) (.tmp 1) (.tmp 2)) 4 [v9_5, v15_10, (.bool false)] (fun v16_11 w =>
 condM v16_11
(oM Tryd.prog (Go.Op.binOp Go.BinOp.add 3 (.tmp 0) (.tmp 1) 3) 3 [(l_3.getD 0 undef), (.int .i64 1)] (fun v18_12 w =>
 J_1 [v18_12] w ∧ m_2 [v18_12] w < m_2 l_3 w0_l_3) w)
(K (l_3.getD 0 undef) w)) w) w) w) w) w) w) w) w)) w0_l_3)
theorem sh_28_eq (a0 : Value) (a1 : Value) (K : Value → World → Prop) (w : World) : sh_28 a0 a1 K w = code Tryd.prog (fun _ => true) 20 (Tryd.f28.body.getD .skip) (slotsAt [a0, a1]) (retK Tryd.prog [.tmp 4] K) w := by kernel_rfl
theorem sh_28_ok {a0 a1 : Value} {K : Value → World → Prop} {w : World} (h : sh_28 a0 a1 K w) : callM Tryd.prog 28 #[a0, a1] K w :=
  calls_of_code (fun _ => true) (fn := Tryd.f28) (rs := [.tmp 4]) Tryd.func28 rfl rfl (by kernel_rfl) (Nat.le_of_ble_eq_true rfl) ((sh_28_eq a0 a1 K w).mp h)

/-- cloak/base.digit -/
def sh_29 (a0 : Value) (K : Value → World → Prop) (w : World) : Prop :=
 oM Tryd.prog (Go.Op.binOp Go.BinOp.geq 5 (.tmp 0) (.tmp 1) 5) 4 [a0, (.int .u8 48)] (fun v4_1 w =>
 gdM (gd v4_1 true) (pureM a0) (fun v6_2 w =>
 gdM (gd v4_1 true) (oM Tryd.prog (Go.Op.binOp Go.BinOp.leq 5 (.tmp 0) (.tmp 1) 5) 4 [v6_2, (.int .u8 57)]) (fun v7_3 w =>
 oM Tryd.prog (Go.Op.pick (.tmp 0) (.tmp 1) (.tmp 2)) 4 [v4_1, v7_3, (.bool false)] (fun v8_4 w =>
 K v8_4 w) w) w) w) w
theorem sh_29_eq (a0 : Value) (K : Value → World → Prop) (w : World) : sh_29 a0 K w = code Tryd.prog (fun _ => true) 9 (Tryd.f29.body.getD .skip) (slotsAt [a0]) (retK Tryd.prog [.tmp 2] K) w := by kernel_rfl
theorem sh_29_ok {a0 : Value} {K : Value → World → Prop} {w : World} (h : sh_29 a0 K w) : callM Tryd.prog 29 #[a0] K w :=
  calls_of_code (fun _ => true) (fn := Tryd.f29) (rs := [.tmp 2]) Tryd.func29 rfl rfl (by kernel_rfl) (Nat.le_of_ble_eq_true rfl) ((sh_29_eq a0 K w).mp h)

/-- cloak/cloakref01.digit -/
def sh_30 (a0 : Value) (K : Value → World → Prop) (w : World) : Prop :=
 oM Tryd.prog (Go.Op.binOp Go.BinOp.geq 5 (.tmp 0) (.tmp 1) 5) 4 [a0, (.int .u8 48)] (fun v4_1 w =>
 gdM (gd v4_1 true) (pureM a0) (fun v6_2 w =>
 gdM (gd v4_1 true) (oM Tryd.prog (Go.Op.binOp Go.BinOp.leq 5 (.tmp 0) (.tmp 1) 5) 4 [v6_2, (.int .u8 57)]) (fun v7_3 w =>
 oM Tryd.prog (Go.Op.pick (.tmp 0) (.tmp 1) (.tmp 2)) 4 [v4_1, v7_3, (.bool false)] (fun v8_4 w =>
 K v8_4 w) w) w) w) w
theorem sh_30_eq (a0 : Value) (K : Value → World → Prop) (w : World) : sh_30 a0 K w = code Tryd.prog (fun _ => true) 9 (Tryd.f30.body.getD .skip) (slotsAt [a0]) (retK Tryd.prog [.tmp 2] K) w := by kernel_rfl
theorem sh_30_ok {a0 : Value} {K : Value → World → Prop} {w : World} (h : sh_30 a0 K w) : callM Tryd.prog 30 #[a0] K w :=
  calls_of_code (fun _ => true) (fn := Tryd.f30) (rs := [.tmp 2]) Tryd.func30 rfl rfl (by kernel_rfl) (Nat.le_of_ble_eq_true rfl) ((sh_30_eq a0 K w).mp h)

/-- cloak/base.plain -/
def sh_31 (a0 : Value) (K : Value → World → Prop) (w : World) : Prop :=
 oM Tryd.prog (Go.Op.binOp Go.BinOp.geq 5 (.tmp 0) (.tmp 1) 5) 4 [a0, (.int .u8 32)] (fun v4_1 w =>
 gdM (gd v4_1 true) (pureM a0) (fun v6_2 w =>
 gdM (gd v4_1 true) (oM Tryd.prog (Go.Op.binOp Go.BinOp.leq 5 (.tmp 0) (.tmp 1) 5) 4 [v6_2, (.int .u8 126)]) (fun v7_3 w =>
 oM Tryd.prog (Go.Op.pick (.tmp 0) (.tmp 1) (.tmp 2)) 4 [v4_1, v7_3, (.bool false)] (fun v8_4 w =>
 K v8_4 w) w) w) w) w
theorem sh_31_eq (a0 : Value) (K : Value → World → Prop) (w : World) : sh_31 a0 K w = code Tryd.prog (fun _ => true) 9 (Tryd.f31.body.getD .skip) (slotsAt [a0]) (retK Tryd.prog [.tmp 2] K) w := by kernel_rfl
theorem sh_31_ok {a0 : Value} {K : Value → World → Prop} {w : World} (h : sh_31 a0 K w) : callM Tryd.prog 31 #[a0] K w :=
  calls_of_code (fun _ => true) (fn := Tryd.f31) (rs := [.tmp 2]) Tryd.func31 rfl rfl (by kernel_rfl) (Nat.le_of_ble_eq_true rfl) ((sh_31_eq a0 K w).mp h)

/-- cloak/cloakref01.Value -/
def sh_32 (a0 : Value) (K : Value → World → Prop) (w : World) : Prop :=
 loopM [(.bool false), (.int .i64 0)] w (fun J_1 m_2 l_3 u_l_3 w0_l_3 => (fun w => (
 oM Tryd.prog (Go.Op.call (Go.Call.mk (Go.Callee.builtin Go.Builtin.len) #[(.tmp 0)] #[9])) 3 [a0] (fun v6_4 w =>
 oM Tryd.prog (Go.Op.binOp Go.BinOp.lss 3 (.tmp 0) (.tmp 1) 3) 4 [(l_3.getD 1 undef), v6_4] (fun v7_5 w =>
 condM v7_5
(oM Tryd.prog (Go.Op.index 9 (.tmp 0) (.tmp 1)) 5 [a0, (l_3.getD 1 undef)] (fun v12_6 w =>
 oM Tryd.prog (Go.Op.binOp Go.BinOp.lss 5 (.tmp 0) (.tmp 1) 5) 4 [v12_6, (.int .u8 32)] (fun v13_7 w =>
 gdM (gd v13_7 false) (pureM a0) (fun v15_8 w =>
 gdM (gd v13_7 false) (pureM (l_3.getD 1 undef)) (fun v16_9 w =>
 gdM (gd v13_7 false) (oM Tryd.prog (Go.Op.index 9 (.tmp 0) (.tmp 1)) 5 [v15_8, v16_9]) (fun v17_10 w =>
 gdM (gd v13_7 false) (oM Tryd.prog (Go.Op.binOp Go.BinOp.gtr 5 (.tmp 0) (.tmp 1) 5) 4 [v17_10, (.int .u8 126)]) (fun v18_11 w =>
 oM Tryd.prog (Go.Op.pick (.tmp 0) (.tmp 1) (.tmp 2)) 4 [v13_7, (.bool true), v18_11] (fun v19_12 w =>
 condM v19_12
(K (.bool false) w)
(oM Tryd.prog (Go.Op.binOp Go.BinOp.add 3 (.tmp 0) (.tmp 1) 3) 3 [(l_3.getD 1 undef), (.int .i64 1)] (fun v9_13 w =>
 J_1 [(l_3.getD 0 undef), v9_13] w ∧ m_2 [(l_3.getD 0 undef), v9_13] w < m_2 l_3 w0_l_3) w)) w) w) w) w) w) w) w)
(oM Tryd.prog (Go.Op.call (Go.Call.mk (Go.Callee.builtin Go.Builtin.len) #[(.tmp 0)] #[9])) 3 [a0] (fun v21_14 w =>
 oM Tryd.prog (Go.Op.binOp Go.BinOp.leq 3 (.tmp 0) (.tmp 1) 3) 4 [v21_14, (.int .i64 400)] (fun v22_15 w =>
 K v22_15 w) w) w)) w) w)) w0_l_3)
theorem sh_32_eq (a0 : Value) (K : Value → World → Prop) (w : World) : sh_32 a0 K w = code Tryd.prog (fun _ => true) 23 (Tryd.f32.body.getD .skip) (slotsAt [a0]) (retK Tryd.prog [.tmp 2] K) w := by kernel_rfl
theorem sh_32_ok {a0 : Value} {K : Value → World → Prop} {w : World} (h : sh_32 a0 K w) : callM Tryd.prog 32 #[a0] K w :=
  calls_of_code (fun _ => true) (fn := Tryd.f32) (rs := [.tmp 2]) Tryd.func32 rfl rfl (by kernel_rfl) (Nat.le_of_ble_eq_true rfl) ((sh_32_eq a0 K w).mp h)

/-- cloak/cloakref01.Escaped -/
def sh_33 (a0 : Value) (K : Value → World → Prop) (w : World) : Prop :=
 loopM [(.string ⟨#[34]⟩), (.int .i64 0)] w (fun J_1 m_2 l_3 u_l_3 w0_l_3 => (fun w => (
 oM Tryd.prog (Go.Op.call (Go.Call.mk (Go.Callee.builtin Go.Builtin.len) #[(.tmp 0)] #[9])) 3 [a0] (fun v7_4 w =>
 oM Tryd.prog (Go.Op.binOp Go.BinOp.lss 3 (.tmp 0) (.tmp 1) 3) 4 [(l_3.getD 1 undef), v7_4] (fun v8_5 w =>
 condM v8_5
(joinM (fun M_6 => (oM Tryd.prog (Go.Op.index 9 (.tmp 0) (.tmp 1)) 5 [a0, (l_3.getD 1 undef)] (fun v13_8 w =>
 oM Tryd.prog (Go.Op.binOp Go.BinOp.eql 5 (.tmp 0) (.const (.int .u8 34)) 5) 4 [v13_8] (fun v14_9 w =>
 gdM (gd v14_9 false) (pureM a0) (fun v16_10 w =>
 gdM (gd v14_9 false) (pureM (l_3.getD 1 undef)) (fun v17_11 w =>
 gdM (gd v14_9 false) (oM Tryd.prog (Go.Op.index 9 (.tmp 0) (.tmp 1)) 5 [v16_10, v17_11]) (fun v18_12 w =>
 gdM (gd v14_9 false) (oM Tryd.prog (Go.Op.binOp Go.BinOp.eql 5 (.tmp 0) (.const (.int .u8 92)) 5) 4 [v18_12]) (fun v19_13 w =>
 oM Tryd.prog (Go.Op.pick (.tmp 0) (.tmp 1) (.tmp 2)) 4 [v14_9, (.bool true), v19_13] (fun v20_14 w =>
 condM v20_14
(oM Tryd.prog (Go.Op.binOp Go.BinOp.add 9 (.tmp 0) (.tmp 1) 9) 9 [(l_3.getD 0 undef), (.string ⟨#[92]⟩)] (fun v22_15 w =>
 M_6 [v22_15] w) w)
(M_6 [(l_3.getD 0 undef)] w)) w) w) w) w) w) w) w))
(fun l_7 u_l_7 w => (oM Tryd.prog (Go.Op.binOp Go.BinOp.add 3 (.tmp 0) (.tmp 1) 3) 3 [(l_3.getD 1 undef), (.int .i64 1)] (fun v27_16 w =>
 oM Tryd.prog (Go.Op.slice 9 (.tmp 0) (some (.tmp 1)) (some (.tmp 2)) none) 9 [a0, (l_3.getD 1 undef), v27_16] (fun v28_17 w =>
 oM Tryd.prog (Go.Op.binOp Go.BinOp.add 9 (.tmp 0) (.tmp 1) 9) 9 [(l_7.getD 0 undef), v28_17] (fun v29_18 w =>
 oM Tryd.prog (Go.Op.binOp Go.BinOp.add 3 (.tmp 0) (.tmp 1) 3) 3 [(l_3.getD 1 undef), (.int .i64 1)] (fun v10_19 w =>
 J_1 [v29_18, v10_19] w ∧ m_2 [v29_18, v10_19] w < m_2 l_3 w0_l_3) w) w) w) w)))
(oM Tryd.prog (Go.Op.binOp Go.BinOp.add 9 (.tmp 0) (.tmp 1) 9) 9 [(l_3.getD 0 undef), (.string ⟨#[34]⟩)] (fun v31_20 w =>
 K v31_20 w) w)) w) w)) w0_l_3)
theorem sh_33_eq (a0 : Value) (K : Value → World → Prop) (w : World) : sh_33 a0 K w = code Tryd.prog (fun _ => true) 32 (Tryd.f33.body.getD .skip) (slotsAt [a0]) (retK Tryd.prog [.tmp 2] K) w := by kernel_rfl
theorem sh_33_ok {a0 : Value} {K : Value → World → Prop} {w : World} (h : sh_33 a0 K w) : callM Tryd.prog 33 #[a0] K w :=
  calls_of_code (fun _ => true) (fn := Tryd.f33) (rs := [.tmp 2]) Tryd.func33 rfl rfl (by kernel_rfl) (Nat.le_of_ble_eq_true rfl) ((sh_33_eq a0 K w).mp h)

/-- cloak/base.letter -/
def sh_34 (a0 : Value) (K : Value → World → Prop) (w : World) : Prop :=
 oM Tryd.prog (Go.Op.binOp Go.BinOp.geq 5 (.tmp 0) (.tmp 1) 5) 4 [a0, (.int .u8 97)] (fun v4_1 w =>
 gdM (gd v4_1 true) (pureM a0) (fun v6_2 w =>
 gdM (gd v4_1 true) (oM Tryd.prog (Go.Op.binOp Go.BinOp.leq 5 (.tmp 0) (.tmp 1) 5) 4 [v6_2, (.int .u8 122)]) (fun v7_3 w =>
 oM Tryd.prog (Go.Op.pick (.tmp 0) (.tmp 1) (.tmp 2)) 4 [v4_1, v7_3, (.bool false)] (fun v8_4 w =>
 gdM (gd v8_4 false) (pureM a0) (fun v10_5 w =>
 gdM (gd v8_4 false) (oM Tryd.prog (Go.Op.binOp Go.BinOp.geq 5 (.tmp 0) (.tmp 1) 5) 4 [v10_5, (.int .u8 65)]) (fun v11_6 w =>
 gdM (gd v8_4 false) (pureM v11_6) (fun v12_7 w =>
 gdM (gd v12_7 true) (pureM a0) (fun v13_8 w =>
 gdM (gd v12_7 true) (oM Tryd.prog (Go.Op.binOp Go.BinOp.leq 5 (.tmp 0) (.tmp 1) 5) 4 [v13_8, (.int .u8 90)]) (fun v14_9 w =>
 gdM (gd v8_4 false) (oM Tryd.prog (Go.Op.pick (.tmp 0) (.tmp 1) (.tmp 2)) 4 [v12_7, v14_9, (.bool false)]) (fun v15_10 w =>
 oM Tryd.prog (Go.Op.pick (.tmp 0) (.tmp 1) (.tmp 2)) 4 [v8_4, (.bool true), v15_10] (fun v16_11 w =>
 K v16_11 w) w) w) w) w) w) w) w) w) w) w) w
theorem sh_34_eq (a0 : Value) (K : Value → World → Prop) (w : World) : sh_34 a0 K w = code Tryd.prog (fun _ => true) 17 (Tryd.f34.body.getD .skip) (slotsAt [a0]) (retK Tryd.prog [.tmp 2] K) w := by kernel_rfl
theorem sh_34_ok {a0 : Value} {K : Value → World → Prop} {w : World} (h : sh_34 a0 K w) : callM Tryd.prog 34 #[a0] K w :=
  calls_of_code (fun _ => true) (fn := Tryd.f34) (rs := [.tmp 2]) Tryd.func34 rfl rfl (by kernel_rfl) (Nat.le_of_ble_eq_true rfl) ((sh_34_eq a0 K w).mp h)

/-- cloak/base.inner -/
def sh_35 (a0 : Value) (K : Value → World → Prop) (w : World) : Prop :=
 callM Tryd.prog 34 #[a0] (fun v4_1 w =>
 gdM (gd v4_1 false) (pureM a0) (fun v6_2 w =>
 gdM (gd v4_1 false) (callM Tryd.prog 29 #[v6_2]) (fun v7_3 w =>
 oM Tryd.prog (Go.Op.pick (.tmp 0) (.tmp 1) (.tmp 2)) 4 [v4_1, (.bool true), v7_3] (fun v8_4 w =>
 gdM (gd v8_4 false) (pureM a0) (fun v10_5 w =>
 gdM (gd v8_4 false) (oM Tryd.prog (Go.Op.binOp Go.BinOp.eql 5 (.tmp 0) (.const (.int .u8 95)) 5) 4 [v10_5]) (fun v11_6 w =>
 oM Tryd.prog (Go.Op.pick (.tmp 0) (.tmp 1) (.tmp 2)) 4 [v8_4, (.bool true), v11_6] (fun v12_7 w =>
 K v12_7 w) w) w) w) w) w) w) w
theorem sh_35_eq (a0 : Value) (K : Value → World → Prop) (w : World) : sh_35 a0 K w = code Tryd.prog (fun _ => true) 13 (Tryd.f35.body.getD .skip) (slotsAt [a0]) (retK Tryd.prog [.tmp 2] K) w := by kernel_rfl
theorem sh_35_ok {a0 : Value} {K : Value → World → Prop} {w : World} (h : sh_35 a0 K w) : callM Tryd.prog 35 #[a0] K w :=
  calls_of_code (fun _ => true) (fn := Tryd.f35) (rs := [.tmp 2]) Tryd.func35 rfl rfl (by kernel_rfl) (Nat.le_of_ble_eq_true rfl) ((sh_35_eq a0 K w).mp h)

/-- cloak/cloakref01.letter -/
def sh_36 (a0 : Value) (K : Value → World → Prop) (w : World) : Prop :=
 oM Tryd.prog (Go.Op.binOp Go.BinOp.geq 5 (.tmp 0) (.tmp 1) 5) 4 [a0, (.int .u8 97)] (fun v4_1 w =>
 gdM (gd v4_1 true) (pureM a0) (fun v6_2 w =>
 gdM (gd v4_1 true) (oM Tryd.prog (Go.Op.binOp Go.BinOp.leq 5 (.tmp 0) (.tmp 1) 5) 4 [v6_2, (.int .u8 122)]) (fun v7_3 w =>
 oM Tryd.prog (Go.Op.pick (.tmp 0) (.tmp 1) (.tmp 2)) 4 [v4_1, v7_3, (.bool false)] (fun v8_4 w =>
 gdM (gd v8_4 false) (pureM a0) (fun v10_5 w =>
 gdM (gd v8_4 false) (oM Tryd.prog (Go.Op.binOp Go.BinOp.geq 5 (.tmp 0) (.tmp 1) 5) 4 [v10_5, (.int .u8 65)]) (fun v11_6 w =>
 gdM (gd v8_4 false) (pureM v11_6) (fun v12_7 w =>
 gdM (gd v12_7 true) (pureM a0) (fun v13_8 w =>
 gdM (gd v12_7 true) (oM Tryd.prog (Go.Op.binOp Go.BinOp.leq 5 (.tmp 0) (.tmp 1) 5) 4 [v13_8, (.int .u8 90)]) (fun v14_9 w =>
 gdM (gd v8_4 false) (oM Tryd.prog (Go.Op.pick (.tmp 0) (.tmp 1) (.tmp 2)) 4 [v12_7, v14_9, (.bool false)]) (fun v15_10 w =>
 oM Tryd.prog (Go.Op.pick (.tmp 0) (.tmp 1) (.tmp 2)) 4 [v8_4, (.bool true), v15_10] (fun v16_11 w =>
 K v16_11 w) w) w) w) w) w) w) w) w) w) w) w
theorem sh_36_eq (a0 : Value) (K : Value → World → Prop) (w : World) : sh_36 a0 K w = code Tryd.prog (fun _ => true) 17 (Tryd.f36.body.getD .skip) (slotsAt [a0]) (retK Tryd.prog [.tmp 2] K) w := by kernel_rfl
theorem sh_36_ok {a0 : Value} {K : Value → World → Prop} {w : World} (h : sh_36 a0 K w) : callM Tryd.prog 36 #[a0] K w :=
  calls_of_code (fun _ => true) (fn := Tryd.f36) (rs := [.tmp 2]) Tryd.func36 rfl rfl (by kernel_rfl) (Nat.le_of_ble_eq_true rfl) ((sh_36_eq a0 K w).mp h)

/-- cloak/base.blank -/
def sh_37 (a0 : Value) (K : Value → World → Prop) (w : World) : Prop :=
 oM Tryd.prog (Go.Op.binOp Go.BinOp.eql 5 (.tmp 0) (.const (.int .u8 32)) 5) 4 [a0] (fun v4_1 w =>
 gdM (gd v4_1 false) (pureM a0) (fun v6_2 w =>
 gdM (gd v4_1 false) (oM Tryd.prog (Go.Op.binOp Go.BinOp.eql 5 (.tmp 0) (.const (.int .u8 9)) 5) 4 [v6_2]) (fun v7_3 w =>
 oM Tryd.prog (Go.Op.pick (.tmp 0) (.tmp 1) (.tmp 2)) 4 [v4_1, (.bool true), v7_3] (fun v8_4 w =>
 gdM (gd v8_4 false) (pureM a0) (fun v10_5 w =>
 gdM (gd v8_4 false) (oM Tryd.prog (Go.Op.binOp Go.BinOp.eql 5 (.tmp 0) (.const (.int .u8 10)) 5) 4 [v10_5]) (fun v11_6 w =>
 oM Tryd.prog (Go.Op.pick (.tmp 0) (.tmp 1) (.tmp 2)) 4 [v8_4, (.bool true), v11_6] (fun v12_7 w =>
 K v12_7 w) w) w) w) w) w) w) w
theorem sh_37_eq (a0 : Value) (K : Value → World → Prop) (w : World) : sh_37 a0 K w = code Tryd.prog (fun _ => true) 13 (Tryd.f37.body.getD .skip) (slotsAt [a0]) (retK Tryd.prog [.tmp 2] K) w := by kernel_rfl
theorem sh_37_ok {a0 : Value} {K : Value → World → Prop} {w : World} (h : sh_37 a0 K w) : callM Tryd.prog 37 #[a0] K w :=
  calls_of_code (fun _ => true) (fn := Tryd.f37) (rs := [.tmp 2]) Tryd.func37 rfl rfl (by kernel_rfl) (Nat.le_of_ble_eq_true rfl) ((sh_37_eq a0 K w).mp h)

/-- cloak/base.quoted -/
def sh_38 (a0 : Value) (K : Value → World → Prop) (w : World) : Prop :=
 loopM [undef, (.string ⟨#[]⟩), (.int .i64 0), undef, undef, (.int .i64 1), (.slice none 0 0)] w (fun J_1 m_2 l_3 u_l_3 w0_l_3 => (fun w => (
 joinM (fun M_4 => (oM Tryd.prog (Go.Op.call (Go.Call.mk (Go.Callee.builtin Go.Builtin.len) #[(.tmp 0)] #[9])) 3 [a0] (fun v9_6 w =>
 oM Tryd.prog (Go.Op.binOp Go.BinOp.geq 3 (.tmp 0) (.tmp 1) 3) 4 [(l_3.getD 5 undef), v9_6] (fun v10_7 w =>
 gdM (gd v10_7 false) (pureM a0) (fun v12_8 w =>
 gdM (gd v10_7 false) (pureM (l_3.getD 5 undef)) (fun v13_9 w =>
 gdM (gd v10_7 false) (oM Tryd.prog (Go.Op.index 9 (.tmp 0) (.tmp 1)) 5 [v12_8, v13_9]) (fun v14_10 w =>
 gdM (gd v10_7 false) (callM Tryd.prog 31 #[v14_10]) (fun v15_11 w =>
 gdM (gd v10_7 false) (oM Tryd.prog (Go.Op.unOp Go.UnOp.not 4 (.tmp 0)) 4 [v15_11]) (fun v16_12 w =>
 oM Tryd.prog (Go.Op.pick (.tmp 0) (.tmp 1) (.tmp 2)) 4 [v10_7, (.bool true), v16_12] (fun v17_13 w =>
 condM v17_13
(K (.tuple #[(.string ⟨#[]⟩), (.int .i64 0)]) w)
(oM Tryd.prog (Go.Op.index 9 (.tmp 0) (.tmp 1)) 5 [a0, (l_3.getD 5 undef)] (fun v21_14 w =>
 oM Tryd.prog (Go.Op.binOp Go.BinOp.eql 5 (.tmp 0) (.const (.int .u8 34)) 5) 4 [v21_14] (fun v22_15 w =>
 condM v22_15
(oM Tryd.prog (Go.Op.call (Go.Call.mk (Go.Callee.builtin Go.Builtin.len) #[(.tmp 0)] #[52])) 3 [(l_3.getD 6 undef)] (fun v55_16 w =>
 oM Tryd.prog (Go.Op.binOp Go.BinOp.gtr 3 (.tmp 0) (.tmp 1) 3) 4 [v55_16, (.int .i64 400)] (fun v56_17 w =>
 condM v56_17
(K (.tuple #[(.string ⟨#[]⟩), (.int .i64 0)]) w)
(oM Tryd.prog (Go.Op.convert 52 9 (.tmp 0)) 9 [(l_3.getD 6 undef)] (fun v58_18 w =>
 oM Tryd.prog (Go.Op.binOp Go.BinOp.add 3 (.tmp 0) (.tmp 1) 3) 3 [(l_3.getD 5 undef), (.int .i64 1)] (fun v60_19 w =>
 K (.tuple #[v58_18, v60_19]) w) w) w)) w) w)
(oM Tryd.prog (Go.Op.index 9 (.tmp 0) (.tmp 1)) 5 [a0, (l_3.getD 5 undef)] (fun v26_20 w =>
 oM Tryd.prog (Go.Op.binOp Go.BinOp.eql 5 (.tmp 0) (.const (.int .u8 92)) 5) 4 [v26_20] (fun v27_21 w =>
 condM v27_21
(oM Tryd.prog (Go.Op.binOp Go.BinOp.add 3 (.tmp 0) (.tmp 1) 3) 3 [(l_3.getD 5 undef), (.int .i64 1)] (fun v29_22 w =>
 oM Tryd.prog (Go.Op.call (Go.Call.mk (Go.Callee.builtin Go.Builtin.len) #[(.tmp 0)] #[9])) 3 [a0] (fun v32_23 w =>
 oM Tryd.prog (Go.Op.binOp Go.BinOp.geq 3 (.tmp 0) (.tmp 1) 3) 4 [v29_22, v32_23] (fun v33_24 w =>
 gdM (gd v33_24 false) (pureM a0) (fun v35_25 w =>
 gdM (gd v33_24 false) (pureM v29_22) (fun v36_26 w =>
 gdM (gd v33_24 false) (oM Tryd.prog (Go.Op.index 9 (.tmp 0) (.tmp 1)) 5 [v35_25, v36_26]) (fun v37_27 w =>
 gdM (gd v33_24 false) (oM Tryd.prog (Go.Op.binOp Go.BinOp.neq 5 (.tmp 0) (.const (.int .u8 34)) 5) 4 [v37_27]) (fun v38_28 w =>
 gdM (gd v33_24 false) (pureM v38_28) (fun v39_29 w =>
 gdM (gd v39_29 true) (pureM a0) (fun v40_30 w =>
 gdM (gd v39_29 true) (pureM v29_22) (fun v41_31 w =>
 gdM (gd v39_29 true) (oM Tryd.prog (Go.Op.index 9 (.tmp 0) (.tmp 1)) 5 [v40_30, v41_31]) (fun v42_32 w =>
 gdM (gd v39_29 true) (oM Tryd.prog (Go.Op.binOp Go.BinOp.neq 5 (.tmp 0) (.const (.int .u8 92)) 5) 4 [v42_32]) (fun v43_33 w =>
 gdM (gd v33_24 false) (oM Tryd.prog (Go.Op.pick (.tmp 0) (.tmp 1) (.tmp 2)) 4 [v39_29, v43_33, (.bool false)]) (fun v44_34 w =>
 oM Tryd.prog (Go.Op.pick (.tmp 0) (.tmp 1) (.tmp 2)) 4 [v33_24, (.bool true), v44_34] (fun v45_35 w =>
 condM v45_35
(K (.tuple #[(.string ⟨#[]⟩), (.int .i64 0)]) w)
(M_4 [v17_13, (l_3.getD 1 undef), (l_3.getD 2 undef), v22_15, v27_21, v29_22] w)) w) w) w) w) w) w) w) w) w) w) w) w) w) w)
(M_4 [v17_13, (l_3.getD 1 undef), (l_3.getD 2 undef), v22_15, v27_21, (l_3.getD 5 undef)] w)) w) w)) w) w)) w) w) w) w) w) w) w) w))
(fun l_5 u_l_5 w => (oM Tryd.prog (Go.Op.index 9 (.tmp 0) (.tmp 1)) 5 [a0, (l_5.getD 5 undef)] (fun v49_36 w =>
 oM Tryd.prog (Go.Op.buildSlice 52 1 #[(0, (.tmp 0))]) 52 [v49_36] (fun v50_37 w =>
 oM Tryd.prog (Go.Op.call (Go.Call.mk (Go.Callee.builtin Go.Builtin.append) #[(.tmp 0), (.tmp 1)] #[52, 52])) 52 [(l_3.getD 6 undef), v50_37] (fun v51_38 w =>
 oM Tryd.prog (Go.Op.binOp Go.BinOp.add 3 (.tmp 0) (.tmp 1) 3) 3 [(l_5.getD 5 undef), (.int .i64 1)] (fun v53_39 w =>
 J_1 [(l_5.getD 0 undef), (l_5.getD 1 undef), (l_5.getD 2 undef), (l_5.getD 3 undef), (l_5.getD 4 undef), v53_39, v51_38] w ∧ m_2 [(l_5.getD 0 undef), (l_5.getD 1 undef), (l_5.getD 2 undef), (l_5.getD 3 undef), (l_5.getD 4 undef), v53_39, v51_38] w < m_2 l_3 w0_l_3) w) w) w) w)))) w0_l_3)
theorem sh_38_eq (a0 : Value) (K : Value → World → Prop) (w : World) : sh_38 a0 K w = code Tryd.prog (fun _ => true) 61 (Tryd.f38.body.getD .skip) (slotsAt [a0]) (retK Tryd.prog [.tmp 2, .tmp 3] K) w := by kernel_rfl
theorem sh_38_ok {a0 : Value} {K : Value → World → Prop} {w : World} (h : sh_38 a0 K w) : callM Tryd.prog 38 #[a0] K w :=
  calls_of_code (fun _ => true) (fn := Tryd.f38) (rs := [.tmp 2, .tmp 3]) Tryd.func38 rfl rfl (by kernel_rfl) (Nat.le_of_ble_eq_true rfl) ((sh_38_eq a0 K w).mp h)

/-- strings.HasPrefix -/
def sh_39 (a0 : Value) (a1 : Value) (K : Value → World → Prop) (w : World) : Prop :=
 callM Tryd.prog 46 #[a0, a1] (fun v7_1 w =>
 K v7_1 w) w
theorem sh_39_eq (a0 : Value) (a1 : Value) (K : Value → World → Prop) (w : World) : sh_39 a0 a1 K w = code Tryd.prog (fun _ => true) 8 (Tryd.f39.body.getD .skip) (slotsAt [a0, a1]) (retK Tryd.prog [.tmp 4] K) w := by kernel_rfl
theorem sh_39_ok {a0 a1 : Value} {K : Value → World → Prop} {w : World} (h : sh_39 a0 a1 K w) : callM Tryd.prog 39 #[a0, a1] K w :=
  calls_of_code (fun _ => true) (fn := Tryd.f39) (rs := [.tmp 4]) Tryd.func39 rfl rfl (by kernel_rfl) (Nat.le_of_ble_eq_true rfl) ((sh_39_eq a0 a1 K w).mp h)

/-- (*strings.Builder).WriteByte -/
def sh_40 (a0 : Value) (a1 : Value) (K : Value → World → Prop) (w : World) : Prop :=
 callM Tryd.prog 47 #[a0] (fun v6_1 w =>
 oM Tryd.prog (Go.Op.nilCheck (.tmp 0)) 0 [a0] (fun v9_2 w =>
 oM Tryd.prog (Go.Op.fieldAddr 54 (.tmp 0) 1) 0 [v9_2] (fun v10_3 w =>
 oM Tryd.prog (Go.Op.load 52 (.tmp 0)) 52 [v10_3] (fun v11_4 w =>
 oM Tryd.prog (Go.Op.buildSlice 52 1 #[(0, (.tmp 0))]) 52 [a1] (fun v13_5 w =>
 oM Tryd.prog (Go.Op.call (Go.Call.mk (Go.Callee.builtin Go.Builtin.append) #[(.tmp 0), (.tmp 1)] #[52, 52])) 52 [v11_4, v13_5] (fun v14_6 w =>
 oM Tryd.prog (Go.Op.nilCheck (.tmp 0)) 0 [a0] (fun v15_7 w =>
 oM Tryd.prog (Go.Op.fieldAddr 54 (.tmp 0) 1) 0 [v15_7] (fun v16_8 w =>
 oM Tryd.prog (Go.Op.store 52 (.tmp 0) (.tmp 1)) 0 [v16_8, v14_6] (fun _ w =>
 K .nilIface w) w) w) w) w) w) w) w) w) w
theorem sh_40_eq (a0 : Value) (a1 : Value) (K : Value → World → Prop) (w : World) : sh_40 a0 a1 K w = code Tryd.prog (fun _ => true) 17 (Tryd.f40.body.getD .skip) (slotsAt [a0, a1]) (retK Tryd.prog [.tmp 4] K) w := by kernel_rfl
theorem sh_40_ok {a0 a1 : Value} {K : Value → World → Prop} {w : World} (h : sh_40 a0 a1 K w) : callM Tryd.prog 40 #[a0, a1] K w :=
  calls_of_code (fun _ => true) (fn := Tryd.f40) (rs := [.tmp 4]) Tryd.func40 rfl rfl (by kernel_rfl) (Nat.le_of_ble_eq_true rfl) ((sh_40_eq a0 a1 K w).mp h)

/-- (*strings.Builder).String -/
def sh_41 (a0 : Value) (K : Value → World → Prop) (w : World) : Prop :=
 quietM w (fun C_1 => (oQ Tryd.prog (Go.Op.nilCheck (.tmp 0)) 0 [a0] C_1 (fun v4_2 =>
 oQ Tryd.prog (Go.Op.fieldAddr 54 (.tmp 0) 1) 0 [v4_2] C_1 (fun v5_3 =>
 oQ Tryd.prog (Go.Op.load 52 (.tmp 0)) 52 [v5_3] C_1 (fun v6_4 =>
 oQ Tryd.prog (Go.Op.call (Go.Call.mk (Go.Callee.builtin Go.Builtin.unsafeSliceData) #[(.tmp 0)] #[52])) 65 [v6_4] C_1 (fun v7_5 =>
 oQ Tryd.prog (Go.Op.nilCheck (.tmp 0)) 0 [a0] C_1 (fun v9_6 =>
 oQ Tryd.prog (Go.Op.fieldAddr 54 (.tmp 0) 1) 0 [v9_6] C_1 (fun v10_7 =>
 oQ Tryd.prog (Go.Op.load 52 (.tmp 0)) 52 [v10_7] C_1 (fun v11_8 =>
 oQ Tryd.prog (Go.Op.call (Go.Call.mk (Go.Callee.builtin Go.Builtin.len) #[(.tmp 0)] #[52])) 3 [v11_8] C_1 (fun v12_9 =>
 oQ Tryd.prog (Go.Op.call (Go.Call.mk (Go.Callee.builtin Go.Builtin.unsafeString) #[(.tmp 0), (.tmp 1)] #[65, 3])) 9 [v7_5, v12_9] C_1 (fun v13_10 =>
 ∀ w, C_1 w → (K v13_10 w))))))))))))
theorem sh_41_eq (a0 : Value) (K : Value → World → Prop) (w : World) : sh_41 a0 K w = code Tryd.prog (fun _ => true) 14 (Tryd.f41.body.getD .skip) (slotsAt [a0]) (retK Tryd.prog [.tmp 2] K) w := by kernel_rfl
theorem sh_41_ok {a0 : Value} {K : Value → World → Prop} {w : World} (h : sh_41 a0 K w) : callM Tryd.prog 41 #[a0] K w :=
  calls_of_code (fun _ => true) (fn := Tryd.f41) (rs := [.tmp 2]) Tryd.func41 rfl rfl (by kernel_rfl) (Nat.le_of_ble_eq_true rfl) ((sh_41_eq a0 K w).mp h)

/-- (*strings.Builder).WriteString -/
def sh_43 (a0 : Value) (a1 : Value) (K : Value → World → Prop) (w : World) : Prop :=
 callM Tryd.prog 47 #[a0] (fun v7_1 w =>
 oM Tryd.prog (Go.Op.nilCheck (.tmp 0)) 0 [a0] (fun v10_2 w =>
 oM Tryd.prog (Go.Op.fieldAddr 54 (.tmp 0) 1) 0 [v10_2] (fun v11_3 w =>
 oM Tryd.prog (Go.Op.load 52 (.tmp 0)) 52 [v11_3] (fun v12_4 w =>
 oM Tryd.prog (Go.Op.call (Go.Call.mk (Go.Callee.builtin Go.Builtin.append) #[(.tmp 0), (.tmp 1)] #[52, 9])) 52 [v12_4, a1] (fun v14_5 w =>
 oM Tryd.prog (Go.Op.nilCheck (.tmp 0)) 0 [a0] (fun v15_6 w =>
 oM Tryd.prog (Go.Op.fieldAddr 54 (.tmp 0) 1) 0 [v15_6] (fun v16_7 w =>
 oM Tryd.prog (Go.Op.store 52 (.tmp 0) (.tmp 1)) 0 [v16_7, v14_5] (fun _ w =>
 oM Tryd.prog (Go.Op.call (Go.Call.mk (Go.Callee.builtin Go.Builtin.len) #[(.tmp 0)] #[9])) 3 [a1] (fun v18_8 w =>
 K (.tuple #[v18_8, .nilIface]) w) w) w) w) w) w) w) w) w) w
theorem sh_43_eq (a0 : Value) (a1 : Value) (K : Value → World → Prop) (w : World) : sh_43 a0 a1 K w = code Tryd.prog (fun _ => true) 19 (Tryd.f43.body.getD .skip) (slotsAt [a0, a1]) (retK Tryd.prog [.tmp 4, .tmp 5] K) w := by kernel_rfl
theorem sh_43_ok {a0 a1 : Value} {K : Value → World → Prop} {w : World} (h : sh_43 a0 a1 K w) : callM Tryd.prog 43 #[a0, a1] K w :=
  calls_of_code (fun _ => true) (fn := Tryd.f43) (rs := [.tmp 4, .tmp 5]) Tryd.func43 rfl rfl (by kernel_rfl) (Nat.le_of_ble_eq_true rfl) ((sh_43_eq a0 a1 K w).mp h)

/-- cloak/cloakref01.quoted -/
def sh_44 (a0 : Value) (a1 : Value) (K : Value → World → Prop) (w : World) : Prop :=
 oM Tryd.prog (Go.Op.binOp Go.BinOp.add 3 (.tmp 0) (.tmp 1) 3) 3 [a1, (.int .i64 1)] (fun v10_1 w =>
 loopM [v10_1, (.string ⟨#[]⟩), (.int .i64 0), (.bool false), (.string ⟨#[]⟩)] w (fun J_2 m_3 l_4 u_l_4 w0_l_4 => (fun w => (
 oM Tryd.prog (Go.Op.call (Go.Call.mk (Go.Callee.builtin Go.Builtin.len) #[(.tmp 0)] #[9])) 3 [a0] (fun v13_5 w =>
 oM Tryd.prog (Go.Op.binOp Go.BinOp.lss 3 (.tmp 0) (.tmp 1) 3) 4 [(l_4.getD 0 undef), v13_5] (fun v14_6 w =>
 gdM (gd v14_6 true) (pureM a0) (fun v16_7 w =>
 gdM (gd v14_6 true) (pureM (l_4.getD 0 undef)) (fun v17_8 w =>
 gdM (gd v14_6 true) (oM Tryd.prog (Go.Op.index 9 (.tmp 0) (.tmp 1)) 5 [v16_7, v17_8]) (fun v18_9 w =>
 gdM (gd v14_6 true) (oM Tryd.prog (Go.Op.binOp Go.BinOp.neq 5 (.tmp 0) (.const (.int .u8 34)) 5) 4 [v18_9]) (fun v19_10 w =>
 oM Tryd.prog (Go.Op.pick (.tmp 0) (.tmp 1) (.tmp 2)) 4 [v14_6, v19_10, (.bool false)] (fun v20_11 w =>
 condM v20_11
(joinM (fun M_12 => (oM Tryd.prog (Go.Op.index 9 (.tmp 0) (.tmp 1)) 5 [a0, (l_4.getD 0 undef)] (fun v23_14 w =>
 oM Tryd.prog (Go.Op.binOp Go.BinOp.eql 5 (.tmp 0) (.const (.int .u8 92)) 5) 4 [v23_14] (fun v24_15 w =>
 condM v24_15
(oM Tryd.prog (Go.Op.binOp Go.BinOp.add 3 (.tmp 0) (.tmp 1) 3) 3 [(l_4.getD 0 undef), (.int .i64 1)] (fun v26_16 w =>
 oM Tryd.prog (Go.Op.call (Go.Call.mk (Go.Callee.builtin Go.Builtin.len) #[(.tmp 0)] #[9])) 3 [a0] (fun v29_17 w =>
 oM Tryd.prog (Go.Op.binOp Go.BinOp.geq 3 (.tmp 0) (.tmp 1) 3) 4 [v26_16, v29_17] (fun v30_18 w =>
 gdM (gd v30_18 false) (pureM a0) (fun v32_19 w =>
 gdM (gd v30_18 false) (pureM v26_16) (fun v33_20 w =>
 gdM (gd v30_18 false) (oM Tryd.prog (Go.Op.index 9 (.tmp 0) (.tmp 1)) 5 [v32_19, v33_20]) (fun v34_21 w =>
 gdM (gd v30_18 false) (oM Tryd.prog (Go.Op.binOp Go.BinOp.neq 5 (.tmp 0) (.const (.int .u8 34)) 5) 4 [v34_21]) (fun v35_22 w =>
 gdM (gd v30_18 false) (pureM v35_22) (fun v36_23 w =>
 gdM (gd v36_23 true) (pureM a0) (fun v37_24 w =>
 gdM (gd v36_23 true) (pureM v26_16) (fun v38_25 w =>
 gdM (gd v36_23 true) (oM Tryd.prog (Go.Op.index 9 (.tmp 0) (.tmp 1)) 5 [v37_24, v38_25]) (fun v39_26 w =>
 gdM (gd v36_23 true) (oM Tryd.prog (Go.Op.binOp Go.BinOp.neq 5 (.tmp 0) (.const (.int .u8 92)) 5) 4 [v39_26]) (fun v40_27 w =>
 gdM (gd v30_18 false) (oM Tryd.prog (Go.Op.pick (.tmp 0) (.tmp 1) (.tmp 2)) 4 [v36_23, v40_27, (.bool false)]) (fun v41_28 w =>
 oM Tryd.prog (Go.Op.pick (.tmp 0) (.tmp 1) (.tmp 2)) 4 [v30_18, (.bool true), v41_28] (fun v42_29 w =>
 condM v42_29
(K (.tuple #[(.string ⟨#[]⟩), (.int .i64 0), (.bool false)]) w)
(M_12 [v26_16, (l_4.getD 1 undef), (l_4.getD 2 undef), (l_4.getD 3 undef)] w)) w) w) w) w) w) w) w) w) w) w) w) w) w) w)
(M_12 [(l_4.getD 0 undef), (l_4.getD 1 undef), (l_4.getD 2 undef), (l_4.getD 3 undef)] w)) w) w))
(fun l_13 u_l_13 w => (oM Tryd.prog (Go.Op.binOp Go.BinOp.add 3 (.tmp 0) (.tmp 1) 3) 3 [(l_13.getD 0 undef), (.int .i64 1)] (fun v47_30 w =>
 oM Tryd.prog (Go.Op.slice 9 (.tmp 0) (some (.tmp 1)) (some (.tmp 2)) none) 9 [a0, (l_13.getD 0 undef), v47_30] (fun v48_31 w =>
 oM Tryd.prog (Go.Op.binOp Go.BinOp.add 9 (.tmp 0) (.tmp 1) 9) 9 [(l_4.getD 4 undef), v48_31] (fun v49_32 w =>
 oM Tryd.prog (Go.Op.binOp Go.BinOp.add 3 (.tmp 0) (.tmp 1) 3) 3 [(l_13.getD 0 undef), (.int .i64 1)] (fun v51_33 w =>
 J_2 [v51_33, (l_13.getD 1 undef), (l_13.getD 2 undef), (l_13.getD 3 undef), v49_32] w ∧ m_3 [v51_33, (l_13.getD 1 undef), (l_13.getD 2 undef), (l_13.getD 3 undef), v49_32] w < m_3 l_4 w0_l_4) w) w) w) w)))
(oM Tryd.prog (Go.Op.call (Go.Call.mk (Go.Callee.builtin Go.Builtin.len) #[(.tmp 0)] #[9])) 3 [a0] (fun v54_34 w =>
 oM Tryd.prog (Go.Op.binOp Go.BinOp.geq 3 (.tmp 0) (.tmp 1) 3) 4 [(l_4.getD 0 undef), v54_34] (fun v55_35 w =>
 gdM (gd v55_35 false) (pureM (l_4.getD 4 undef)) (fun v57_36 w =>
 gdM (gd v55_35 false) (callM Tryd.prog 32 #[v57_36]) (fun v58_37 w =>
 gdM (gd v55_35 false) (oM Tryd.prog (Go.Op.unOp Go.UnOp.not 4 (.tmp 0)) 4 [v58_37]) (fun v59_38 w =>
 oM Tryd.prog (Go.Op.pick (.tmp 0) (.tmp 1) (.tmp 2)) 4 [v55_35, (.bool true), v59_38] (fun v60_39 w =>
 condM v60_39
(K (.tuple #[(.string ⟨#[]⟩), (.int .i64 0), (.bool false)]) w)
(oM Tryd.prog (Go.Op.binOp Go.BinOp.add 3 (.tmp 0) (.tmp 1) 3) 3 [(l_4.getD 0 undef), (.int .i64 1)] (fun v63_40 w =>
 K (.tuple #[(l_4.getD 4 undef), v63_40, (.bool true)]) w) w)) w) w) w) w) w) w)) w) w) w) w) w) w) w)) w0_l_4)) w
theorem sh_44_eq (a0 : Value) (a1 : Value) (K : Value → World → Prop) (w : World) : sh_44 a0 a1 K w = code Tryd.prog (fun _ => true) 64 (Tryd.f44.body.getD .skip) (slotsAt [a0, a1]) (retK Tryd.prog [.tmp 4, .tmp 5, .tmp 6] K) w := by kernel_rfl
theorem sh_44_ok {a0 a1 : Value} {K : Value → World → Prop} {w : World} (h : sh_44 a0 a1 K w) : callM Tryd.prog 44 #[a0, a1] K w :=
  calls_of_code (fun _ => true) (fn := Tryd.f44) (rs := [.tmp 4, .tmp 5, .tmp 6]) Tryd.func44 rfl rfl (by kernel_rfl) (Nat.le_of_ble_eq_true rfl) ((sh_44_eq a0 a1 K w).mp h)

/-- cloak/cloakref01.sign -/
def sh_45 (a0 : Value) (a1 : Value) (K : Value → World → Prop) (w : World) : Prop :=
 oM Tryd.prog (Go.Op.buildSlice 43 19 #[(0, (.tmp 0)), (1, (.tmp 1)), (2, (.tmp 2)), (3, (.tmp 3)), (4, (.tmp 4)), (5, (.tmp 5)), (6, (.tmp 6)), (7, (.tmp 7)), (8, (.tmp 8)), (9, (.tmp 9)), (10, (.tmp 10)), (11, (.tmp 11)), (12, (.tmp 12)), (13, (.tmp 13)), (14, (.tmp 14)), (15, (.tmp 15)), (16, (.tmp 16)), (17, (.tmp 17)), (18, (.tmp 18))]) 43 [(.string ⟨#[40]⟩), (.string ⟨#[41]⟩), (.string ⟨#[123]⟩), (.string ⟨#[125]⟩), (.string ⟨#[44]⟩), (.string ⟨#[59]⟩), (.string ⟨#[58]⟩), (.string ⟨#[46]⟩), (.string ⟨#[46, 46]⟩), (.string ⟨#[61]⟩), (.string ⟨#[33, 61]⟩), (.string ⟨#[60]⟩), (.string ⟨#[60, 61]⟩), (.string ⟨#[62]⟩), (.string ⟨#[62, 61]⟩), (.string ⟨#[43]⟩), (.string ⟨#[45]⟩), (.string ⟨#[42]⟩), (.string ⟨#[47]⟩)] (fun v9_1 w =>
 loopM [undef, (.int .i64 0), (.int .i64 0)] w (fun J_2 m_3 l_4 u_l_4 w0_l_4 => (fun w => (
 oM Tryd.prog (Go.Op.call (Go.Call.mk (Go.Callee.builtin Go.Builtin.len) #[(.tmp 0)] #[43])) 3 [v9_1] (fun v12_5 w =>
 oM Tryd.prog (Go.Op.binOp Go.BinOp.lss 3 (.tmp 0) (.tmp 1) 3) 4 [(l_4.getD 2 undef), v12_5] (fun v13_6 w =>
 condM v13_6
(joinM (fun M_7 => (oM Tryd.prog (Go.Op.indexAddr 43 (.tmp 0) (.tmp 1)) 0 [v9_1, (l_4.getD 2 undef)] (fun v18_9 w =>
 oM Tryd.prog (Go.Op.load 9 (.tmp 0)) 9 [v18_9] (fun v19_10 w =>
 oM Tryd.prog (Go.Op.call (Go.Call.mk (Go.Callee.builtin Go.Builtin.len) #[(.tmp 0)] #[9])) 3 [v19_10] (fun v20_11 w =>
 quietM w (fun C_12 => (oQ Tryd.prog (Go.Op.binOp Go.BinOp.gtr 3 (.tmp 0) (.tmp 1) 3) 4 [v20_11, (l_4.getD 1 undef)] C_12 (fun v23_13 =>
 gdQ (gd v23_13 true) (pureQ a1) C_12 (fun v25_14 =>
 gdQ (gd v23_13 true) (pureQ v20_11) C_12 (fun v26_15 =>
 gdQ (gd v23_13 true) (oQ Tryd.prog (Go.Op.binOp Go.BinOp.add 3 (.tmp 0) (.tmp 1) 3) 3 [v25_14, v26_15]) C_12 (fun v27_16 =>
 gdQ (gd v23_13 true) (pureQ a0) C_12 (fun v28_17 =>
 gdQ (gd v23_13 true) (oQ Tryd.prog (Go.Op.call (Go.Call.mk (Go.Callee.builtin Go.Builtin.len) #[(.tmp 0)] #[9])) 3 [v28_17]) C_12 (fun v29_18 =>
 gdQ (gd v23_13 true) (oQ Tryd.prog (Go.Op.binOp Go.BinOp.leq 3 (.tmp 0) (.tmp 1) 3) 4 [v27_16, v29_18]) C_12 (fun v30_19 =>
 oQ Tryd.prog (Go.Op.pick (.tmp 0) (.tmp 1) (.tmp 2)) 4 [v23_13, v30_19, (.bool false)] C_12 (fun v31_20 =>
 gdQ (gd v31_20 true) (pureQ a0) C_12 (fun v33_21 =>
 gdQ (gd v31_20 true) (pureQ a1) C_12 (fun v34_22 =>
 gdQ (gd v31_20 true) (pureQ a1) C_12 (fun v35_23 =>
 gdQ (gd v31_20 true) (pureQ v20_11) C_12 (fun v36_24 =>
 gdQ (gd v31_20 true) (oQ Tryd.prog (Go.Op.binOp Go.BinOp.add 3 (.tmp 0) (.tmp 1) 3) 3 [v35_23, v36_24]) C_12 (fun v37_25 =>
 gdQ (gd v31_20 true) (oQ Tryd.prog (Go.Op.slice 9 (.tmp 0) (some (.tmp 1)) (some (.tmp 2)) none) 9 [v33_21, v34_22, v37_25]) C_12 (fun v38_26 =>
 gdQ (gd v31_20 true) (pureQ v9_1) C_12 (fun v39_27 =>
 gdQ (gd v31_20 true) (pureQ (l_4.getD 2 undef)) C_12 (fun v40_28 =>
 gdQ (gd v31_20 true) (oQ Tryd.prog (Go.Op.indexAddr 43 (.tmp 0) (.tmp 1)) 0 [v39_27, v40_28]) C_12 (fun v41_29 =>
 gdQ (gd v31_20 true) (oQ Tryd.prog (Go.Op.load 9 (.tmp 0)) 9 [v41_29]) C_12 (fun v42_30 =>
 gdQ (gd v31_20 true) (oQ Tryd.prog (Go.Op.binOp Go.BinOp.eql 9 (.tmp 0) (.tmp 1) 9) 4 [v38_26, v42_30]) C_12 (fun v43_31 =>
 oQ Tryd.prog (Go.Op.pick (.tmp 0) (.tmp 1) (.tmp 2)) 4 [v31_20, v43_31, (.bool false)] C_12 (fun v44_32 =>
 ∀ w, C_12 w → (condM v44_32
(M_7 [v20_11, v20_11] w)
(M_7 [v20_11, (l_4.getD 1 undef)] w))))))))))))))))))))))))) w) w) w))
(fun l_8 u_l_8 w => (oM Tryd.prog (Go.Op.binOp Go.BinOp.add 3 (.tmp 0) (.tmp 1) 3) 3 [(l_4.getD 2 undef), (.int .i64 1)] (fun v15_33 w =>
 J_2 [(l_8.getD 0 undef), (l_8.getD 1 undef), v15_33] w ∧ m_3 [(l_8.getD 0 undef), (l_8.getD 1 undef), v15_33] w < m_3 l_4 w0_l_4) w)))
(K (l_4.getD 1 undef) w)) w) w)) w0_l_4)) w
theorem sh_45_eq (a0 : Value) (a1 : Value) (K : Value → World → Prop) (w : World) : sh_45 a0 a1 K w = code Tryd.prog (fun _ => true) 47 (Tryd.f45.body.getD .skip) (slotsAt [a0, a1]) (retK Tryd.prog [.tmp 4] K) w := by kernel_rfl
theorem sh_45_ok {a0 a1 : Value} {K : Value → World → Prop} {w : World} (h : sh_45 a0 a1 K w) : callM Tryd.prog 45 #[a0, a1] K w :=
  calls_of_code (fun _ => true) (fn := Tryd.f45) (rs := [.tmp 4]) Tryd.func45 rfl rfl (by kernel_rfl) (Nat.le_of_ble_eq_true rfl) ((sh_45_eq a0 a1 K w).mp h)

/-- internal/stringslite.HasPrefix -/
def sh_46 (a0 : Value) (a1 : Value) (K : Value → World → Prop) (w : World) : Prop :=
 oM Tryd.prog (Go.Op.call (Go.Call.mk (Go.Callee.builtin Go.Builtin.len) #[(.tmp 0)] #[9])) 3 [a0] (fun v6_1 w =>
 oM Tryd.prog (Go.Op.call (Go.Call.mk (Go.Callee.builtin Go.Builtin.len) #[(.tmp 0)] #[9])) 3 [a1] (fun v8_2 w =>
 oM Tryd.prog (Go.Op.binOp Go.BinOp.geq 3 (.tmp 0) (.tmp 1) 3) 4 [v6_1, v8_2] (fun v9_3 w =>
 gdM (gd v9_3 true) (pureM a0) (fun v11_4 w =>
 gdM (gd v9_3 true) (pureM a1) (fun v12_5 w =>
 gdM (gd v9_3 true) (oM Tryd.prog (Go.Op.call (Go.Call.mk (Go.Callee.builtin Go.Builtin.len) #[(.tmp 0)] #[9])) 3 [v12_5]) (fun v13_6 w =>
 gdM (gd v9_3 true) (oM Tryd.prog (Go.Op.slice 9 (.tmp 0) none (some (.tmp 1)) none) 9 [v11_4, v13_6]) (fun v14_7 w =>
 gdM (gd v9_3 true) (pureM a1) (fun v15_8 w =>
 gdM (gd v9_3 true) (oM Tryd.prog (Go.Op.binOp Go.BinOp.eql 9 (.tmp 0) (.tmp 1) 9) 4 [v14_7, v15_8]) (fun v16_9 w =>
 oM Tryd.prog (Go.Op.pick (.tmp 0) (.tmp 1) (.tmp 2)) 4 [v9_3, v16_9, (.bool false)] (fun v17_10 w =>
 K v17_10 w) w) w) w) w) w) w) w) w) w) w
theorem sh_46_eq (a0 : Value) (a1 : Value) (K : Value → World → Prop) (w : World) : sh_46 a0 a1 K w = code Tryd.prog (fun _ => true) 18 (Tryd.f46.body.getD .skip) (slotsAt [a0, a1]) (retK Tryd.prog [.tmp 4] K) w := by kernel_rfl
theorem sh_46_ok {a0 a1 : Value} {K : Value → World → Prop} {w : World} (h : sh_46 a0 a1 K w) : callM Tryd.prog 46 #[a0, a1] K w :=
  calls_of_code (fun _ => true) (fn := Tryd.f46) (rs := [.tmp 4]) Tryd.func46 rfl rfl (by kernel_rfl) (Nat.le_of_ble_eq_true rfl) ((sh_46_eq a0 a1 K w).mp h)

/-- (*strings.Builder).copyCheck -/
def sh_47 (a0 : Value) (K : Value → World → Prop) (w : World) : Prop :=
 oM Tryd.prog (Go.Op.nilCheck (.tmp 0)) 0 [a0] (fun v3_1 w =>
 oM Tryd.prog (Go.Op.fieldAddr 54 (.tmp 0) 0) 0 [v3_1] (fun v4_2 w =>
 oM Tryd.prog (Go.Op.load 51 (.tmp 0)) 51 [v4_2] (fun v5_3 w =>
 oM Tryd.prog (Go.Op.binOp Go.BinOp.eql 51 (.tmp 0) (.const (.pointer none)) 51) 4 [v5_3] (fun v6_4 w =>
 condM v6_4
(oM Tryd.prog (Go.Op.convert 51 66 (.tmp 0)) 66 [a0] (fun v9_5 w =>
 extM Tryd.prog 49 #[v9_5] (fun v10_6 w =>
 oM Tryd.prog (Go.Op.convert 66 51 (.tmp 0)) 51 [v10_6] (fun v11_7 w =>
 oM Tryd.prog (Go.Op.nilCheck (.tmp 0)) 0 [a0] (fun v12_8 w =>
 oM Tryd.prog (Go.Op.fieldAddr 54 (.tmp 0) 0) 0 [v12_8] (fun v13_9 w =>
 oM Tryd.prog (Go.Op.store 51 (.tmp 0) (.tmp 1)) 0 [v13_9, v11_7] (fun _ w =>
 K (.tuple #[]) w) w) w) w) w) w) w)
(oM Tryd.prog (Go.Op.nilCheck (.tmp 0)) 0 [a0] (fun v15_10 w =>
 oM Tryd.prog (Go.Op.fieldAddr 54 (.tmp 0) 0) 0 [v15_10] (fun v16_11 w =>
 oM Tryd.prog (Go.Op.load 51 (.tmp 0)) 51 [v16_11] (fun v17_12 w =>
 oM Tryd.prog (Go.Op.binOp Go.BinOp.neq 51 (.tmp 0) (.tmp 1) 51) 4 [v17_12, a0] (fun v19_13 w =>
 condM v19_13
(False)
(K (.tuple #[]) w)) w) w) w) w)) w) w) w) w
theorem sh_47_eq (a0 : Value) (K : Value → World → Prop) (w : World) : sh_47 a0 K w = code Tryd.prog (fun _ => true) 20 (Tryd.f47.body.getD .skip) (slotsAt [a0]) (retK Tryd.prog [] K) w := by kernel_rfl
theorem sh_47_ok {a0 : Value} {K : Value → World → Prop} {w : World} (h : sh_47 a0 K w) : callM Tryd.prog 47 #[a0] K w :=
  calls_of_code (fun _ => true) (fn := Tryd.f47) (rs := []) Tryd.func47 rfl rfl (by kernel_rfl) (Nat.le_of_ble_eq_true rfl) ((sh_47_eq a0 K w).mp h)

end Go.Proofs
