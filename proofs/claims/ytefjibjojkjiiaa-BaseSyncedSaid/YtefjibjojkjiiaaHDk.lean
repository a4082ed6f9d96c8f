/- HDk: a part of the proof of the seat's statements: lemmas about the given translation and plain laws. No condition of its own. -/
import Derived.Test.YtefjibjojkjiiaaShMap4
import Derived.Test.YtefjibjojkjiiaaProg
set_option linter.all false
set_option linter.unusedVariables false
set_option maxRecDepth 100000
namespace Go.Proofs
open Go.Sh
/-- cloak/cloaklaw01.BaseDisk -/
def sh_3 (a0 : Value) (a1 : Value) (a2 : Value) (a3 : Value) (K : Value → World → Prop) (w : World) : Prop :=
 callM Try.prog 7 #[] (fun v18_1 w =>
 callM Try.prog 8 #[a0] (fun v20_2 w =>
 oM Try.prog (Go.Op.unOp Go.UnOp.not 4 (.tmp 0)) 4 [v20_2] (fun v21_3 w =>
 condM v21_3
 (K v18_1 w)
 (callM Try.prog 9 #[] (fun v23_4 w =>
 callM Try.prog 10 #[] (fun v24_5 w =>
 oM Try.prog (Go.Op.binOp Go.BinOp.eql 25 (.tmp 0) (.const (.pointer none)) 25) 4 [v23_4] (fun v26_6 w =>
 condM v26_6
 (K (.bool false) w)
 (loopM [(.bool false), undef, v23_4, (.int .i64 0)] w (fun J_7 m_8 l_9 u_l_9 w0_l_9 => (fun w => (
 oM Try.prog (Go.Op.call (Go.Call.mk (Go.Callee.builtin Go.Builtin.len) #[(.tmp 0)] #[22])) 3 [a0] (fun v29_10 w =>
 oM Try.prog (Go.Op.binOp Go.BinOp.lss 3 (.tmp 0) (.tmp 1) 3) 4 [(l_9.getD 3 undef), v29_10] (fun v30_11 w =>
 condM v30_11
 (joinM (fun M_12 => (quietM w (fun C_14 => (oQ Try.prog (Go.Op.indexAddr 22 (.tmp 0) (.tmp 1)) 0 [a0, (l_9.getD 3 undef)] C_14 (fun v36_15 =>
 oQ Try.prog (Go.Op.load 33 (.tmp 0)) 33 [v36_15] C_14 (fun v37_16 =>
 callQ Try.prog 11 #[(l_9.getD 2 undef), v37_16] C_14 (fun v38_17 =>
 oQ Try.prog (Go.Op.indexAddr 22 (.tmp 0) (.tmp 1)) 0 [a0, (l_9.getD 3 undef)] C_14 (fun v42_18 =>
 oQ Try.prog (Go.Op.load 33 (.tmp 0)) 33 [v42_18] C_14 (fun v43_19 =>
 callQ Try.prog 12 #[v24_5, v43_19] C_14 (fun v44_20 =>
 oQ Try.prog (Go.Op.binOp Go.BinOp.neq 29 (.tmp 0) (.tmp 1) 29) 4 [v38_17, v44_20] C_14 (fun v45_21 =>
 gdQ (gd v45_21 false) (pureQ (l_9.getD 2 undef)) C_14 (fun v47_22 =>
 gdQ (gd v45_21 false) (callQ Try.prog 13 #[v47_22]) C_14 (fun v48_23 =>
 gdQ (gd v45_21 false) (pureQ v24_5) C_14 (fun v49_24 =>
 gdQ (gd v45_21 false) (callQ Try.prog 14 #[v49_24]) C_14 (fun v50_25 =>
 gdQ (gd v45_21 false) (oQ Try.prog (Go.Op.binOp Go.BinOp.neq 4 (.tmp 0) (.tmp 1) 4) 4 [v48_23, v50_25]) C_14 (fun v51_26 =>
 oQ Try.prog (Go.Op.pick (.tmp 0) (.tmp 1) (.tmp 2)) 4 [v45_21, (.bool true), v51_26] C_14 (fun v52_27 =>
 gdQ (gd v52_27 false) (pureQ (l_9.getD 2 undef)) C_14 (fun v54_28 =>
 gdQ (gd v52_27 false) (pureQ a1) C_14 (fun v55_29 =>
 gdQ (gd v52_27 false) (callQ Try.prog 15 #[v54_28, v55_29]) C_14 (fun v56_30 =>
 gdQ (gd v52_27 false) (pureQ v24_5) C_14 (fun v57_31 =>
 gdQ (gd v52_27 false) (pureQ a1) C_14 (fun v58_32 =>
 gdQ (gd v52_27 false) (callQ Try.prog 16 #[v57_31, v58_32]) C_14 (fun v59_33 =>
 gdQ (gd v52_27 false) (oQ Try.prog (Go.Op.binOp Go.BinOp.neq 3 (.tmp 0) (.tmp 1) 3) 4 [v56_30, v59_33]) C_14 (fun v60_34 =>
 oQ Try.prog (Go.Op.pick (.tmp 0) (.tmp 1) (.tmp 2)) 4 [v52_27, (.bool true), v60_34] C_14 (fun v61_35 =>
 ∀ w, C_14 w → (condM v61_35
 (K (.bool false) w)
 (oM Try.prog (Go.Op.call (Go.Call.mk (Go.Callee.builtin Go.Builtin.len) #[(.tmp 0)] #[22])) 3 [a0] (fun v64_36 w =>
 oM Try.prog (Go.Op.binOp Go.BinOp.quo 3 (.tmp 0) (.tmp 1) 3) 3 [v64_36, (.int .i64 2)] (fun v65_37 w =>
 oM Try.prog (Go.Op.binOp Go.BinOp.eql 3 (.tmp 0) (.tmp 1) 3) 4 [(l_9.getD 3 undef), v65_37] (fun v66_38 w =>
 condM v66_38
 (callM Try.prog 17 #[(l_9.getD 2 undef)] (fun v68_39 w =>
 oM Try.prog (Go.Op.binOp Go.BinOp.eql 25 (.tmp 0) (.const (.pointer none)) 25) 4 [v68_39] (fun v70_40 w =>
 condM v70_40
 (K (.bool false) w)
 (oM Try.prog (Go.Op.indexAddr 22 (.tmp 0) (.tmp 1)) 0 [a0, (.int .i64 0)] (fun v73_41 w =>
 oM Try.prog (Go.Op.load 33 (.tmp 0)) 33 [v73_41] (fun v74_42 w =>
 callM Try.prog 11 #[(l_9.getD 2 undef), v74_42] (fun v75_43 w =>
 callM Try.prog 18 #[(l_9.getD 2 undef), a1] (fun v78_44 w =>
 M_12 [(l_9.getD 0 undef), v68_39, v68_39] w) w) w) w) w)) w) w)
 (M_12 [(l_9.getD 0 undef), (l_9.getD 1 undef), (l_9.getD 2 undef)] w)) w) w) w)))))))))))))))))))))))))))
 (fun l_13 u_l_13 w => (oM Try.prog (Go.Op.binOp Go.BinOp.add 3 (.tmp 0) (.tmp 1) 3) 3 [(l_9.getD 3 undef), (.int .i64 1)] (fun v32_45 w =>
 J_7 [(l_13.getD 0 undef), (l_13.getD 1 undef), (l_13.getD 2 undef), v32_45] w ∧ m_8 [(l_13.getD 0 undef), (l_13.getD 1 undef), (l_13.getD 2 undef), v32_45] w < m_8 l_9 w0_l_9) w)))
 (callM Try.prog 19 #[(l_9.getD 2 undef), a1, a2, a3] (fun v85_46 w =>
 oM Try.prog (Go.Op.extract (.tmp 0) 0) 9 [v85_46] (fun v86_47 w =>
 oM Try.prog (Go.Op.extract (.tmp 0) 1) 29 [v85_46] (fun v87_48 w =>
 callM Try.prog 20 #[v24_5, a1, a2, a3] (fun v93_49 w =>
 oM Try.prog (Go.Op.extract (.tmp 0) 0) 9 [v93_49] (fun v94_50 w =>
 oM Try.prog (Go.Op.extract (.tmp 0) 1) 29 [v93_49] (fun v95_51 w =>
 gdM (gd v18_1 true) (pureM v86_47) (fun v98_52 w =>
 gdM (gd v18_1 true) (pureM v94_50) (fun v99_53 w =>
 gdM (gd v18_1 true) (oM Try.prog (Go.Op.binOp Go.BinOp.eql 9 (.tmp 0) (.tmp 1) 9) 4 [v98_52, v99_53]) (fun v100_54 w =>
 oM Try.prog (Go.Op.pick (.tmp 0) (.tmp 1) (.tmp 2)) 4 [v18_1, v100_54, (.bool false)] (fun v101_55 w =>
 gdM (gd v101_55 true) (pureM v87_48) (fun v103_56 w =>
 gdM (gd v101_55 true) (pureM v95_51) (fun v104_57 w =>
 gdM (gd v101_55 true) (oM Try.prog (Go.Op.binOp Go.BinOp.eql 29 (.tmp 0) (.tmp 1) 29) 4 [v103_56, v104_57]) (fun v105_58 w =>
 oM Try.prog (Go.Op.pick (.tmp 0) (.tmp 1) (.tmp 2)) 4 [v101_55, v105_58, (.bool false)] (fun v106_59 w =>
 K v106_59 w) w) w) w) w) w) w) w) w) w) w) w) w) w) w)) w) w)) w0_l_9))) w) w) w)) w) w) w
theorem sh_3_eq (a0 : Value) (a1 : Value) (a2 : Value) (a3 : Value) (K : Value → World → Prop) (w : World) : sh_3 a0 a1 a2 a3 K w = code Try.prog (fun _ => 0) 107 (Try.f3.body.getD .skip) (slotsAt [a0, a1, a2, a3]) (retK Try.prog [.tmp 8] K) w := by kernel_rfl
theorem sh_3_ok {a0 a1 a2 a3 : Value} {K : Value → World → Prop} {w : World} (h : sh_3 a0 a1 a2 a3 K w) : callM Try.prog 3 #[a0, a1, a2, a3] K w :=
  calls_of_code (fun _ => 0) (fn := Try.f3) (rs := [.tmp 8]) Try.func3 rfl rfl (by kernel_rfl) (Nat.le_of_ble_eq_true rfl) ((sh_3_eq a0 a1 a2 a3 K w).mp h)

/-- cloak/cloaklaw01.BaseSurvives -/
def sh_4 (a0 : Value) (a1 : Value) (a2 : Value) (K : Value → World → Prop) (w : World) : Prop :=
 callM Try.prog 7 #[] (fun v21_1 w =>
 callM Try.prog 8 #[a0] (fun v23_2 w =>
 oM Try.prog (Go.Op.unOp Go.UnOp.not 4 (.tmp 0)) 4 [v23_2] (fun v24_3 w =>
 gdM (gd v24_3 false) (pureM a2) (fun v26_4 w =>
 gdM (gd v24_3 false) (oM Try.prog (Go.Op.call (Go.Call.mk (Go.Callee.builtin Go.Builtin.len) #[(.tmp 0)] #[31])) 3 [v26_4]) (fun v27_5 w =>
 gdM (gd v24_3 false) (oM Try.prog (Go.Op.binOp Go.BinOp.gtr 3 (.tmp 0) (.tmp 1) 3) 4 [v27_5, (.int .i64 60)]) (fun v28_6 w =>
 oM Try.prog (Go.Op.pick (.tmp 0) (.tmp 1) (.tmp 2)) 4 [v24_3, (.bool true), v28_6] (fun v29_7 w =>
 condM v29_7
 (K v21_1 w)
 (callM Try.prog 21 #[a0] (fun v32_8 w =>
 oM Try.prog (Go.Op.binOp Go.BinOp.eql 25 (.tmp 0) (.const (.pointer none)) 25) 4 [v32_8] (fun v34_9 w =>
 condM v34_9
 (K (.bool false) w)
 (callM Try.prog 13 #[v32_8] (fun v36_10 w =>
 gdM (gd v36_10 false) (pureM a1) (fun v38_11 w =>
 gdM (gd v36_10 false) (oM Try.prog (Go.Op.binOp Go.BinOp.lss 3 (.tmp 0) (.tmp 1) 3) 4 [v38_11, (.int .i64 0)]) (fun v39_12 w =>
 oM Try.prog (Go.Op.pick (.tmp 0) (.tmp 1) (.tmp 2)) 4 [v36_10, (.bool true), v39_12] (fun v40_13 w =>
 gdM (gd v40_13 false) (pureM a1) (fun v42_14 w =>
 gdM (gd v40_13 false) (oM Try.prog (Go.Op.binOp Go.BinOp.gtr 3 (.tmp 0) (.tmp 1) 3) 4 [v42_14, (.int .i64 15)]) (fun v43_15 w =>
 oM Try.prog (Go.Op.pick (.tmp 0) (.tmp 1) (.tmp 2)) 4 [v40_13, (.bool true), v43_15] (fun v44_16 w =>
 gdM (gd v44_16 false) (pureM v32_8) (fun v46_17 w =>
 gdM (gd v44_16 false) (pureM a1) (fun v47_18 w =>
 gdM (gd v44_16 false) (callM Try.prog 15 #[v46_17, v47_18]) (fun v48_19 w =>
 gdM (gd v44_16 false) (oM Try.prog (Go.Op.binOp Go.BinOp.gtr 3 (.tmp 0) (.tmp 1) 3) 4 [v48_19, (.int .i64 100000)]) (fun v49_20 w =>
 oM Try.prog (Go.Op.pick (.tmp 0) (.tmp 1) (.tmp 2)) 4 [v44_16, (.bool true), v49_20] (fun v50_21 w =>
 condM v50_21
 (K v21_1 w)
 (callM Try.prog 19 #[v32_8, a1, (.int .i64 0), (.int .i64 16777216)] (fun v55_22 w =>
 oM Try.prog (Go.Op.extract (.tmp 0) 0) 9 [v55_22] (fun v56_23 w =>
 oM Try.prog (Go.Op.extract (.tmp 0) 1) 29 [v55_22] (fun v57_24 w =>
 callM Try.prog 22 #[v32_8, a1, (.slice none 0 0)] (fun v61_25 w =>
 oM Try.prog (Go.Op.extract (.tmp 0) 0) 9 [v61_25] (fun v62_26 w =>
 oM Try.prog (Go.Op.extract (.tmp 0) 1) 4 [v61_25] (fun v63_27 w =>
 oM Try.prog (Go.Op.buildSlice 31 1 #[(0, (.tmp 0))]) 31 [(.int .i64 1)] (fun v67_28 w =>
 callM Try.prog 22 #[v32_8, a1, v67_28] (fun v68_29 w =>
 oM Try.prog (Go.Op.extract (.tmp 0) 0) 9 [v68_29] (fun v69_30 w =>
 oM Try.prog (Go.Op.extract (.tmp 0) 1) 4 [v68_29] (fun v70_31 w =>
 callM Try.prog 22 #[v32_8, a1, a2] (fun v75_32 w =>
 oM Try.prog (Go.Op.extract (.tmp 0) 0) 9 [v75_32] (fun v76_33 w =>
 oM Try.prog (Go.Op.extract (.tmp 0) 1) 4 [v75_32] (fun v77_34 w =>
 oM Try.prog (Go.Op.binOp Go.BinOp.neq 29 (.tmp 0) (.const (.int .i64 0)) 29) 4 [v57_24] (fun v79_35 w =>
 gdM (gd v79_35 false) (pureM v63_27) (fun v81_36 w =>
 gdM (gd v79_35 false) (oM Try.prog (Go.Op.unOp Go.UnOp.not 4 (.tmp 0)) 4 [v81_36]) (fun v82_37 w =>
 oM Try.prog (Go.Op.pick (.tmp 0) (.tmp 1) (.tmp 2)) 4 [v79_35, (.bool true), v82_37] (fun v83_38 w =>
 gdM (gd v83_38 false) (pureM v70_31) (fun v85_39 w =>
 gdM (gd v83_38 false) (oM Try.prog (Go.Op.unOp Go.UnOp.not 4 (.tmp 0)) 4 [v85_39]) (fun v86_40 w =>
 oM Try.prog (Go.Op.pick (.tmp 0) (.tmp 1) (.tmp 2)) 4 [v83_38, (.bool true), v86_40] (fun v87_41 w =>
 gdM (gd v87_41 false) (pureM v77_34) (fun v89_42 w =>
 gdM (gd v87_41 false) (oM Try.prog (Go.Op.unOp Go.UnOp.not 4 (.tmp 0)) 4 [v89_42]) (fun v90_43 w =>
 oM Try.prog (Go.Op.pick (.tmp 0) (.tmp 1) (.tmp 2)) 4 [v87_41, (.bool true), v90_43] (fun v91_44 w =>
 gdM (gd v91_44 false) (pureM v69_30) (fun v93_45 w =>
 gdM (gd v91_44 false) (pureM v56_23) (fun v94_46 w =>
 gdM (gd v91_44 false) (oM Try.prog (Go.Op.binOp Go.BinOp.neq 9 (.tmp 0) (.tmp 1) 9) 4 [v93_45, v94_46]) (fun v95_47 w =>
 oM Try.prog (Go.Op.pick (.tmp 0) (.tmp 1) (.tmp 2)) 4 [v91_44, (.bool true), v95_47] (fun v96_48 w =>
 gdM (gd v96_48 false) (pureM v76_33) (fun v98_49 w =>
 gdM (gd v96_48 false) (oM Try.prog (Go.Op.call (Go.Call.mk (Go.Callee.builtin Go.Builtin.len) #[(.tmp 0)] #[9])) 3 [v98_49]) (fun v99_50 w =>
 gdM (gd v96_48 false) (pureM v62_26) (fun v100_51 w =>
 gdM (gd v96_48 false) (oM Try.prog (Go.Op.call (Go.Call.mk (Go.Callee.builtin Go.Builtin.len) #[(.tmp 0)] #[9])) 3 [v100_51]) (fun v101_52 w =>
 gdM (gd v96_48 false) (oM Try.prog (Go.Op.binOp Go.BinOp.lss 3 (.tmp 0) (.tmp 1) 3) 4 [v99_50, v101_52]) (fun v102_53 w =>
 oM Try.prog (Go.Op.pick (.tmp 0) (.tmp 1) (.tmp 2)) 4 [v96_48, (.bool true), v102_53] (fun v103_54 w =>
 gdM (gd v103_54 false) (pureM v76_33) (fun v105_55 w =>
 gdM (gd v103_54 false) (oM Try.prog (Go.Op.call (Go.Call.mk (Go.Callee.builtin Go.Builtin.len) #[(.tmp 0)] #[9])) 3 [v105_55]) (fun v106_56 w =>
 gdM (gd v103_54 false) (pureM v56_23) (fun v107_57 w =>
 gdM (gd v103_54 false) (oM Try.prog (Go.Op.call (Go.Call.mk (Go.Callee.builtin Go.Builtin.len) #[(.tmp 0)] #[9])) 3 [v107_57]) (fun v108_58 w =>
 gdM (gd v103_54 false) (oM Try.prog (Go.Op.binOp Go.BinOp.gtr 3 (.tmp 0) (.tmp 1) 3) 4 [v106_56, v108_58]) (fun v109_59 w =>
 oM Try.prog (Go.Op.pick (.tmp 0) (.tmp 1) (.tmp 2)) 4 [v103_54, (.bool true), v109_59] (fun v110_60 w =>
 condM v110_60
 (K (.bool false) w)
 (loopM [undef, undef, undef, (.bool false), (.int .i64 0)] w (fun J_61 m_62 l_63 u_l_63 w0_l_63 => (fun w => (
 oM Try.prog (Go.Op.binOp Go.BinOp.mul 3 (.tmp 0) (.tmp 1) 3) 3 [(.int .i64 64), (l_63.getD 4 undef)] (fun v112_64 w =>
 oM Try.prog (Go.Op.call (Go.Call.mk (Go.Callee.builtin Go.Builtin.len) #[(.tmp 0)] #[9])) 3 [v76_33] (fun v114_65 w =>
 oM Try.prog (Go.Op.binOp Go.BinOp.lss 3 (.tmp 0) (.tmp 1) 3) 4 [v112_64, v114_65] (fun v115_66 w =>
 condM v115_66
 (oM Try.prog (Go.Op.binOp Go.BinOp.mul 3 (.tmp 0) (.tmp 1) 3) 3 [(.int .i64 64), (l_63.getD 4 undef)] (fun v119_67 w =>
 loopM [(.bool true), (.bool true), v119_67] w (fun J_68 m_69 l_70 u_l_70 w0_l_70 => (fun w => (
 oM Try.prog (Go.Op.binOp Go.BinOp.mul 3 (.tmp 0) (.tmp 1) 3) 3 [(.int .i64 64), (l_63.getD 4 undef)] (fun v122_71 w =>
 oM Try.prog (Go.Op.binOp Go.BinOp.add 3 (.tmp 0) (.tmp 1) 3) 3 [v122_71, (.int .i64 64)] (fun v123_72 w =>
 oM Try.prog (Go.Op.binOp Go.BinOp.lss 3 (.tmp 0) (.tmp 1) 3) 4 [(l_70.getD 2 undef), v123_72] (fun v124_73 w =>
 gdM (gd v124_73 true) (pureM (l_70.getD 2 undef)) (fun v126_74 w =>
 gdM (gd v124_73 true) (pureM v76_33) (fun v127_75 w =>
 gdM (gd v124_73 true) (oM Try.prog (Go.Op.call (Go.Call.mk (Go.Callee.builtin Go.Builtin.len) #[(.tmp 0)] #[9])) 3 [v127_75]) (fun v128_76 w =>
 gdM (gd v124_73 true) (oM Try.prog (Go.Op.binOp Go.BinOp.lss 3 (.tmp 0) (.tmp 1) 3) 4 [v126_74, v128_76]) (fun v129_77 w =>
 oM Try.prog (Go.Op.pick (.tmp 0) (.tmp 1) (.tmp 2)) 4 [v124_73, v129_77, (.bool false)] (fun v130_78 w =>
 condM v130_78
 (quietM w (fun C_79 => (gdQ (gd (l_70.getD 0 undef) true) (pureQ v76_33) C_79 (fun v135_80 =>
 gdQ (gd (l_70.getD 0 undef) true) (pureQ (l_70.getD 2 undef)) C_79 (fun v136_81 =>
 gdQ (gd (l_70.getD 0 undef) true) (oQ Try.prog (Go.Op.index 9 (.tmp 0) (.tmp 1)) 5 [v135_80, v136_81]) C_79 (fun v137_82 =>
 gdQ (gd (l_70.getD 0 undef) true) (pureQ v56_23) C_79 (fun v138_83 =>
 gdQ (gd (l_70.getD 0 undef) true) (pureQ (l_70.getD 2 undef)) C_79 (fun v139_84 =>
 gdQ (gd (l_70.getD 0 undef) true) (oQ Try.prog (Go.Op.index 9 (.tmp 0) (.tmp 1)) 5 [v138_83, v139_84]) C_79 (fun v140_85 =>
 gdQ (gd (l_70.getD 0 undef) true) (oQ Try.prog (Go.Op.binOp Go.BinOp.eql 5 (.tmp 0) (.tmp 1) 5) 4 [v137_82, v140_85]) C_79 (fun v141_86 =>
 oQ Try.prog (Go.Op.pick (.tmp 0) (.tmp 1) (.tmp 2)) 4 [(l_70.getD 0 undef), v141_86, (.bool false)] C_79 (fun v142_87 =>
 ∀ w, C_79 w → (quietM w (fun C_88 => (gdQ (gd (l_70.getD 1 undef) true) (pureQ v76_33) C_88 (fun v145_89 =>
 gdQ (gd (l_70.getD 1 undef) true) (pureQ (l_70.getD 2 undef)) C_88 (fun v146_90 =>
 gdQ (gd (l_70.getD 1 undef) true) (oQ Try.prog (Go.Op.index 9 (.tmp 0) (.tmp 1)) 5 [v145_89, v146_90]) C_88 (fun v147_91 =>
 gdQ (gd (l_70.getD 1 undef) true) (pureQ v62_26) C_88 (fun v148_92 =>
 gdQ (gd (l_70.getD 1 undef) true) (pureQ (l_70.getD 2 undef)) C_88 (fun v149_93 =>
 gdQ (gd (l_70.getD 1 undef) true) (callQ Try.prog 23 #[v148_92, v149_93]) C_88 (fun v150_94 =>
 gdQ (gd (l_70.getD 1 undef) true) (oQ Try.prog (Go.Op.binOp Go.BinOp.eql 5 (.tmp 0) (.tmp 1) 5) 4 [v147_91, v150_94]) C_88 (fun v151_95 =>
 oQ Try.prog (Go.Op.pick (.tmp 0) (.tmp 1) (.tmp 2)) 4 [(l_70.getD 1 undef), v151_95, (.bool false)] C_88 (fun v152_96 =>
 ∀ w, C_88 w → (oM Try.prog (Go.Op.binOp Go.BinOp.add 3 (.tmp 0) (.tmp 1) 3) 3 [(l_70.getD 2 undef), (.int .i64 1)] (fun v132_97 w =>
 J_68 [v142_87, v152_96, v132_97] w ∧ m_69 [v142_87, v152_96, v132_97] w < m_69 l_70 w0_l_70) w)))))))))))))))))))))))
 (oM Try.prog (Go.Op.unOp Go.UnOp.not 4 (.tmp 0)) 4 [(l_70.getD 0 undef)] (fun v154_98 w =>
 gdM (gd v154_98 true) (pureM (l_70.getD 1 undef)) (fun v156_99 w =>
 gdM (gd v154_98 true) (oM Try.prog (Go.Op.unOp Go.UnOp.not 4 (.tmp 0)) 4 [v156_99]) (fun v157_100 w =>
 oM Try.prog (Go.Op.pick (.tmp 0) (.tmp 1) (.tmp 2)) 4 [v154_98, v157_100, (.bool false)] (fun v158_101 w =>
 condM v158_101
 (K (.bool false) w)
 (oM Try.prog (Go.Op.binOp Go.BinOp.add 3 (.tmp 0) (.tmp 1) 3) 3 [(l_63.getD 4 undef), (.int .i64 1)] (fun v117_102 w =>
 J_61 [(l_70.getD 0 undef), (l_70.getD 1 undef), (l_70.getD 2 undef), (l_63.getD 3 undef), v117_102] w ∧ m_62 [(l_70.getD 0 undef), (l_70.getD 1 undef), (l_70.getD 2 undef), (l_63.getD 3 undef), v117_102] w < m_62 l_63 w0_l_63) w)) w) w) w) w)) w) w) w) w) w) w) w) w)) w0_l_70)) w)
 (K v21_1 w)) w) w) w)) w0_l_63))) w) w) w) w) w) w) w) w) w) w) w) w) w) w) w) w) w) w) w) w) w) w) w) w) w) w) w) w) w) w) w) w) w) w) w) w) w) w) w)) w) w) w) w) w) w) w) w) w) w) w) w)) w) w)) w) w) w) w) w) w) w
theorem sh_4_eq (a0 : Value) (a1 : Value) (a2 : Value) (K : Value → World → Prop) (w : World) : sh_4 a0 a1 a2 K w = code Try.prog (fun _ => 0) 160 (Try.f4.body.getD .skip) (slotsAt [a0, a1, a2]) (retK Try.prog [.tmp 6] K) w := by kernel_rfl
theorem sh_4_ok {a0 a1 a2 : Value} {K : Value → World → Prop} {w : World} (h : sh_4 a0 a1 a2 K w) : callM Try.prog 4 #[a0, a1, a2] K w :=
  calls_of_code (fun _ => 0) (fn := Try.f4) (rs := [.tmp 6]) Try.func4 rfl rfl (by kernel_rfl) (Nat.le_of_ble_eq_true rfl) ((sh_4_eq a0 a1 a2 K w).mp h)

/-- cloak/cloaklaw01.BaseSynced -/
def sh_5 (a0 : Value) (a1 : Value) (a2 : Value) (a3 : Value) (K : Value → World → Prop) (w : World) : Prop :=
 callM Try.prog 7 #[] (fun v19_1 w =>
 callM Try.prog 8 #[a0] (fun v21_2 w =>
 oM Try.prog (Go.Op.unOp Go.UnOp.not 4 (.tmp 0)) 4 [v21_2] (fun v22_3 w =>
 gdM (gd v22_3 false) (pureM a2) (fun v24_4 w =>
 gdM (gd v22_3 false) (callM Try.prog 8 #[v24_4]) (fun v25_5 w =>
 gdM (gd v22_3 false) (oM Try.prog (Go.Op.unOp Go.UnOp.not 4 (.tmp 0)) 4 [v25_5]) (fun v26_6 w =>
 oM Try.prog (Go.Op.pick (.tmp 0) (.tmp 1) (.tmp 2)) 4 [v22_3, (.bool true), v26_6] (fun v27_7 w =>
 gdM (gd v27_7 false) (pureM a3) (fun v29_8 w =>
 gdM (gd v27_7 false) (oM Try.prog (Go.Op.call (Go.Call.mk (Go.Callee.builtin Go.Builtin.len) #[(.tmp 0)] #[31])) 3 [v29_8]) (fun v30_9 w =>
 gdM (gd v27_7 false) (oM Try.prog (Go.Op.binOp Go.BinOp.gtr 3 (.tmp 0) (.tmp 1) 3) 4 [v30_9, (.int .i64 60)]) (fun v31_10 w =>
 oM Try.prog (Go.Op.pick (.tmp 0) (.tmp 1) (.tmp 2)) 4 [v27_7, (.bool true), v31_10] (fun v32_11 w =>
 condM v32_11
 (K v19_1 w)
 (callM Try.prog 21 #[a0] (fun v35_12 w =>
 oM Try.prog (Go.Op.binOp Go.BinOp.eql 25 (.tmp 0) (.const (.pointer none)) 25) 4 [v35_12] (fun v37_13 w =>
 condM v37_13
 (K (.bool false) w)
 (callM Try.prog 19 #[v35_12, a1, (.int .i64 0), (.int .i64 16777216)] (fun v41_14 w =>
 oM Try.prog (Go.Op.extract (.tmp 0) 0) 9 [v41_14] (fun v42_15 w =>
 oM Try.prog (Go.Op.extract (.tmp 0) 1) 29 [v41_14] (fun v43_16 w =>
 callM Try.prog 18 #[v35_12, a1] (fun v46_17 w =>
 oM Try.prog (Go.Op.binOp Go.BinOp.neq 29 (.tmp 0) (.const (.int .i64 0)) 29) 4 [v46_17] (fun v47_18 w =>
 condM v47_18
 (K v19_1 w)
 (callM Try.prog 19 #[v35_12, a1, (.int .i64 0), (.int .i64 16777216)] (fun v52_19 w =>
 oM Try.prog (Go.Op.extract (.tmp 0) 0) 9 [v52_19] (fun v53_20 w =>
 oM Try.prog (Go.Op.extract (.tmp 0) 1) 29 [v52_19] (fun v54_21 w =>
 loopM [undef, (.int .i64 0)] w (fun J_22 m_23 l_24 u_l_24 w0_l_24 => (fun w => (
 oM Try.prog (Go.Op.call (Go.Call.mk (Go.Callee.builtin Go.Builtin.len) #[(.tmp 0)] #[22])) 3 [a2] (fun v57_25 w =>
 oM Try.prog (Go.Op.binOp Go.BinOp.lss 3 (.tmp 0) (.tmp 1) 3) 4 [(l_24.getD 1 undef), v57_25] (fun v58_26 w =>
 condM v58_26
 (joinM (fun M_27 => (oM Try.prog (Go.Op.indexAddr 22 (.tmp 0) (.tmp 1)) 0 [a2, (l_24.getD 1 undef)] (fun v63_29 w =>
 oM Try.prog (Go.Op.fieldAddr 33 (.tmp 0) 0) 0 [v63_29] (fun v64_30 w =>
 oM Try.prog (Go.Op.load 3 (.tmp 0)) 3 [v64_30] (fun v65_31 w =>
 oM Try.prog (Go.Op.binOp Go.BinOp.and 3 (.tmp 0) (.tmp 1) 3) 3 [v65_31, (.int .i64 7)] (fun v66_32 w =>
 oM Try.prog (Go.Op.binOp Go.BinOp.lss 3 (.tmp 0) (.tmp 1) 3) 4 [v66_32, (.int .i64 4)] (fun v68_33 w =>
 gdM (gd v68_33 true) (pureM a2) (fun v70_34 w =>
 gdM (gd v68_33 true) (pureM (l_24.getD 1 undef)) (fun v71_35 w =>
 gdM (gd v68_33 true) (oM Try.prog (Go.Op.indexAddr 22 (.tmp 0) (.tmp 1)) 0 [v70_34, v71_35]) (fun v72_36 w =>
 gdM (gd v68_33 true) (oM Try.prog (Go.Op.fieldAddr 33 (.tmp 0) 1) 0 [v72_36]) (fun v73_37 w =>
 gdM (gd v68_33 true) (oM Try.prog (Go.Op.load 3 (.tmp 0)) 3 [v73_37]) (fun v74_38 w =>
 gdM (gd v68_33 true) (pureM a1) (fun v75_39 w =>
 gdM (gd v68_33 true) (oM Try.prog (Go.Op.binOp Go.BinOp.neq 3 (.tmp 0) (.tmp 1) 3) 4 [v74_38, v75_39]) (fun v76_40 w =>
 oM Try.prog (Go.Op.pick (.tmp 0) (.tmp 1) (.tmp 2)) 4 [v68_33, v76_40, (.bool false)] (fun v77_41 w =>
 gdM (gd v77_41 false) (pureM v66_32) (fun v79_42 w =>
 gdM (gd v77_41 false) (oM Try.prog (Go.Op.binOp Go.BinOp.eql 3 (.tmp 0) (.const (.int .i64 4)) 3) 4 [v79_42]) (fun v80_43 w =>
 oM Try.prog (Go.Op.pick (.tmp 0) (.tmp 1) (.tmp 2)) 4 [v77_41, (.bool true), v80_43] (fun v81_44 w =>
 condM v81_44
 (oM Try.prog (Go.Op.indexAddr 22 (.tmp 0) (.tmp 1)) 0 [a2, (l_24.getD 1 undef)] (fun v85_45 w =>
 oM Try.prog (Go.Op.load 33 (.tmp 0)) 33 [v85_45] (fun v86_46 w =>
 callM Try.prog 11 #[v35_12, v86_46] (fun v87_47 w =>
 M_27 [v66_32] w) w) w) w)
 (M_27 [v66_32] w)) w) w) w) w) w) w) w) w) w) w) w) w) w) w) w) w))
 (fun l_28 u_l_28 w => (oM Try.prog (Go.Op.binOp Go.BinOp.add 3 (.tmp 0) (.tmp 1) 3) 3 [(l_24.getD 1 undef), (.int .i64 1)] (fun v60_48 w =>
 J_22 [(l_28.getD 0 undef), v60_48] w ∧ m_23 [(l_28.getD 0 undef), v60_48] w < m_23 l_24 w0_l_24) w)))
 (callM Try.prog 24 #[v35_12, a3] (fun v90_49 w =>
 callM Try.prog 25 #[v35_12] (fun v92_50 w =>
 callM Try.prog 19 #[v35_12, a1, (.int .i64 0), (.int .i64 16777216)] (fun v96_51 w =>
 oM Try.prog (Go.Op.extract (.tmp 0) 0) 9 [v96_51] (fun v97_52 w =>
 oM Try.prog (Go.Op.extract (.tmp 0) 1) 29 [v96_51] (fun v98_53 w =>
 gdM (gd v19_1 true) (pureM v54_21) (fun v101_54 w =>
 gdM (gd v19_1 true) (oM Try.prog (Go.Op.binOp Go.BinOp.eql 29 (.tmp 0) (.const (.int .i64 0)) 29) 4 [v101_54]) (fun v102_55 w =>
 oM Try.prog (Go.Op.pick (.tmp 0) (.tmp 1) (.tmp 2)) 4 [v19_1, v102_55, (.bool false)] (fun v103_56 w =>
 gdM (gd v103_56 true) (pureM v98_53) (fun v105_57 w =>
 gdM (gd v103_56 true) (oM Try.prog (Go.Op.binOp Go.BinOp.eql 29 (.tmp 0) (.const (.int .i64 0)) 29) 4 [v105_57]) (fun v106_58 w =>
 oM Try.prog (Go.Op.pick (.tmp 0) (.tmp 1) (.tmp 2)) 4 [v103_56, v106_58, (.bool false)] (fun v107_59 w =>
 gdM (gd v107_59 true) (pureM v42_15) (fun v109_60 w =>
 gdM (gd v107_59 true) (pureM v53_20) (fun v110_61 w =>
 gdM (gd v107_59 true) (oM Try.prog (Go.Op.binOp Go.BinOp.eql 9 (.tmp 0) (.tmp 1) 9) 4 [v109_60, v110_61]) (fun v111_62 w =>
 oM Try.prog (Go.Op.pick (.tmp 0) (.tmp 1) (.tmp 2)) 4 [v107_59, v111_62, (.bool false)] (fun v112_63 w =>
 gdM (gd v112_63 true) (pureM v97_52) (fun v114_64 w =>
 gdM (gd v112_63 true) (pureM v53_20) (fun v115_65 w =>
 gdM (gd v112_63 true) (oM Try.prog (Go.Op.binOp Go.BinOp.eql 9 (.tmp 0) (.tmp 1) 9) 4 [v114_64, v115_65]) (fun v116_66 w =>
 oM Try.prog (Go.Op.pick (.tmp 0) (.tmp 1) (.tmp 2)) 4 [v112_63, v116_66, (.bool false)] (fun v117_67 w =>
 K v117_67 w) w) w) w) w) w) w) w) w) w) w) w) w) w) w) w) w) w) w) w)) w) w)) w0_l_24)) w) w) w)) w) w) w) w) w)) w) w)) w) w) w) w) w) w) w) w) w) w) w
theorem sh_5_eq (a0 : Value) (a1 : Value) (a2 : Value) (a3 : Value) (K : Value → World → Prop) (w : World) : sh_5 a0 a1 a2 a3 K w = code Try.prog (fun _ => 0) 118 (Try.f5.body.getD .skip) (slotsAt [a0, a1, a2, a3]) (retK Try.prog [.tmp 8] K) w := by kernel_rfl
theorem sh_5_ok {a0 a1 a2 a3 : Value} {K : Value → World → Prop} {w : World} (h : sh_5 a0 a1 a2 a3 K w) : callM Try.prog 5 #[a0, a1, a2, a3] K w :=
  calls_of_code (fun _ => 0) (fn := Try.f5) (rs := [.tmp 8]) Try.func5 rfl rfl (by kernel_rfl) (Nat.le_of_ble_eq_true rfl) ((sh_5_eq a0 a1 a2 a3 K w).mp h)

/-- cloak/cloaklaw01.BaseArms -/
def sh_6 (a0 : Value) (a1 : Value) (a2 : Value) (K : Value → World → Prop) (w : World) : Prop :=
 callM Try.prog 7 #[] (fun v15_1 w =>
 callM Try.prog 8 #[a0] (fun v17_2 w =>
 oM Try.prog (Go.Op.unOp Go.UnOp.not 4 (.tmp 0)) 4 [v17_2] (fun v18_3 w =>
 gdM (gd v18_3 false) (pureM a2) (fun v20_4 w =>
 gdM (gd v18_3 false) (oM Try.prog (Go.Op.call (Go.Call.mk (Go.Callee.builtin Go.Builtin.len) #[(.tmp 0)] #[31])) 3 [v20_4]) (fun v21_5 w =>
 gdM (gd v18_3 false) (oM Try.prog (Go.Op.binOp Go.BinOp.gtr 3 (.tmp 0) (.tmp 1) 3) 4 [v21_5, (.int .i64 60)]) (fun v22_6 w =>
 oM Try.prog (Go.Op.pick (.tmp 0) (.tmp 1) (.tmp 2)) 4 [v18_3, (.bool true), v22_6] (fun v23_7 w =>
 gdM (gd v23_7 false) (pureM a1) (fun v25_8 w =>
 gdM (gd v23_7 false) (oM Try.prog (Go.Op.binOp Go.BinOp.lss 3 (.tmp 0) (.tmp 1) 3) 4 [v25_8, (.int .i64 1)]) (fun v26_9 w =>
 oM Try.prog (Go.Op.pick (.tmp 0) (.tmp 1) (.tmp 2)) 4 [v23_7, (.bool true), v26_9] (fun v27_10 w =>
 gdM (gd v27_10 false) (pureM a1) (fun v29_11 w =>
 gdM (gd v27_10 false) (oM Try.prog (Go.Op.binOp Go.BinOp.gtr 3 (.tmp 0) (.tmp 1) 3) 4 [v29_11, (.int .i64 60)]) (fun v30_12 w =>
 oM Try.prog (Go.Op.pick (.tmp 0) (.tmp 1) (.tmp 2)) 4 [v27_10, (.bool true), v30_12] (fun v31_13 w =>
 condM v31_13
 (K v15_1 w)
 (callM Try.prog 9 #[] (fun v33_14 w =>
 callM Try.prog 9 #[] (fun v34_15 w =>
 oM Try.prog (Go.Op.binOp Go.BinOp.eql 25 (.tmp 0) (.const (.pointer none)) 25) 4 [v33_14] (fun v36_16 w =>
 gdM (gd v36_16 false) (pureM v34_15) (fun v38_17 w =>
 gdM (gd v36_16 false) (oM Try.prog (Go.Op.binOp Go.BinOp.eql 25 (.tmp 0) (.const (.pointer none)) 25) 4 [v38_17]) (fun v39_18 w =>
 oM Try.prog (Go.Op.pick (.tmp 0) (.tmp 1) (.tmp 2)) 4 [v36_16, (.bool true), v39_18] (fun v40_19 w =>
 condM v40_19
 (K (.bool false) w)
 (callM Try.prog 26 #[v33_14, a1, a2] (fun v44_20 w =>
 loopM [undef, (.bool false), (.int .i64 0), undef, (.int .i64 0)] w (fun J_21 m_22 l_23 u_l_23 w0_l_23 => (fun w => (
 oM Try.prog (Go.Op.call (Go.Call.mk (Go.Callee.builtin Go.Builtin.len) #[(.tmp 0)] #[22])) 3 [a0] (fun v47_24 w =>
 oM Try.prog (Go.Op.binOp Go.BinOp.lss 3 (.tmp 0) (.tmp 1) 3) 4 [(l_23.getD 4 undef), v47_24] (fun v48_25 w =>
 condM v48_25
 (joinM (fun M_26 => (oM Try.prog (Go.Op.indexAddr 22 (.tmp 0) (.tmp 1)) 0 [a0, (l_23.getD 4 undef)] (fun v53_28 w =>
 oM Try.prog (Go.Op.fieldAddr 33 (.tmp 0) 0) 0 [v53_28] (fun v54_29 w =>
 oM Try.prog (Go.Op.load 3 (.tmp 0)) 3 [v54_29] (fun v55_30 w =>
 oM Try.prog (Go.Op.binOp Go.BinOp.and 3 (.tmp 0) (.tmp 1) 3) 3 [v55_30, (.int .i64 7)] (fun v56_31 w =>
 oM Try.prog (Go.Op.binOp Go.BinOp.gtr 3 (.tmp 0) (.tmp 1) 3) 4 [v56_31, (.int .i64 4)] (fun v58_32 w =>
 condM v58_32
 (K v15_1 w)
 (joinM (fun M_33 => (oM Try.prog (Go.Op.binOp Go.BinOp.lss 3 (.tmp 0) (.tmp 1) 3) 4 [v56_31, (.int .i64 4)] (fun v61_35 w =>
 condM v61_35
 (oM Try.prog (Go.Op.binOp Go.BinOp.add 3 (.tmp 0) (.tmp 1) 3) 3 [(l_23.getD 2 undef), (.int .i64 1)] (fun v63_36 w =>
 M_33 [v63_36] w) w)
 (M_33 [(l_23.getD 2 undef)] w)) w))
 (fun l_34 u_l_34 w => (oM Try.prog (Go.Op.indexAddr 22 (.tmp 0) (.tmp 1)) 0 [a0, (l_23.getD 4 undef)] (fun v67_37 w =>
 oM Try.prog (Go.Op.load 33 (.tmp 0)) 33 [v67_37] (fun v68_38 w =>
 callM Try.prog 11 #[v33_14, v68_38] (fun v69_39 w =>
 oM Try.prog (Go.Op.binOp Go.BinOp.lss 3 (.tmp 0) (.tmp 1) 3) 4 [(l_34.getD 0 undef), a1] (fun v72_40 w =>
 gdM (gd v72_40 false) (pureM (l_34.getD 0 undef)) (fun v74_41 w =>
 gdM (gd v72_40 false) (pureM a1) (fun v75_42 w =>
 gdM (gd v72_40 false) (oM Try.prog (Go.Op.binOp Go.BinOp.eql 3 (.tmp 0) (.tmp 1) 3) 4 [v74_41, v75_42]) (fun v76_43 w =>
 gdM (gd v72_40 false) (pureM v76_43) (fun v77_44 w =>
 gdM (gd v77_44 true) (pureM v56_31) (fun v78_45 w =>
 gdM (gd v77_44 true) (oM Try.prog (Go.Op.binOp Go.BinOp.eql 3 (.tmp 0) (.const (.int .i64 4)) 3) 4 [v78_45]) (fun v79_46 w =>
 gdM (gd v72_40 false) (oM Try.prog (Go.Op.pick (.tmp 0) (.tmp 1) (.tmp 2)) 4 [v77_44, v79_46, (.bool false)]) (fun v80_47 w =>
 gdM (gd v72_40 false) (pureM v80_47) (fun v81_48 w =>
 gdM (gd v81_48 true) (pureM v33_14) (fun v82_49 w =>
 gdM (gd v81_48 true) (callM Try.prog 13 #[v82_49]) (fun v83_50 w =>
 gdM (gd v81_48 true) (oM Try.prog (Go.Op.unOp Go.UnOp.not 4 (.tmp 0)) 4 [v83_50]) (fun v84_51 w =>
 gdM (gd v72_40 false) (oM Try.prog (Go.Op.pick (.tmp 0) (.tmp 1) (.tmp 2)) 4 [v81_48, v84_51, (.bool false)]) (fun v85_52 w =>
 oM Try.prog (Go.Op.pick (.tmp 0) (.tmp 1) (.tmp 2)) 4 [v72_40, (.bool true), v85_52] (fun v86_53 w =>
 condM v86_53
 (oM Try.prog (Go.Op.indexAddr 22 (.tmp 0) (.tmp 1)) 0 [a0, (l_23.getD 4 undef)] (fun v91_54 w =>
 oM Try.prog (Go.Op.load 33 (.tmp 0)) 33 [v91_54] (fun v92_55 w =>
 callM Try.prog 11 #[v34_15, v92_55] (fun v93_56 w =>
 oM Try.prog (Go.Op.binOp Go.BinOp.neq 29 (.tmp 0) (.tmp 1) 29) 4 [v69_39, v93_56] (fun v94_57 w =>
 condM v94_57
 (K (.bool false) w)
 (M_26 [v56_31, (l_23.getD 1 undef), (l_34.getD 0 undef), v69_39] w)) w) w) w) w)
 (joinM (fun M_58 => (oM Try.prog (Go.Op.binOp Go.BinOp.eql 3 (.tmp 0) (.tmp 1) 3) 4 [(l_34.getD 0 undef), a1] (fun v97_60 w =>
 gdM (gd v97_60 true) (pureM v56_31) (fun v99_61 w =>
 gdM (gd v97_60 true) (oM Try.prog (Go.Op.binOp Go.BinOp.lss 3 (.tmp 0) (.tmp 1) 3) 4 [v99_61, (.int .i64 2)]) (fun v100_62 w =>
 oM Try.prog (Go.Op.pick (.tmp 0) (.tmp 1) (.tmp 2)) 4 [v97_60, v100_62, (.bool false)] (fun v101_63 w =>
 condM v101_63
 (oM Try.prog (Go.Op.indexAddr 22 (.tmp 0) (.tmp 1)) 0 [a0, (l_23.getD 4 undef)] (fun v105_64 w =>
 oM Try.prog (Go.Op.load 33 (.tmp 0)) 33 [v105_64] (fun v106_65 w =>
 callM Try.prog 11 #[v34_15, v106_65] (fun v107_66 w =>
 M_58 [] w) w) w) w)
 (M_58 [] w)) w) w) w) w))
 (fun l_59 u_l_59 w => (joinM (fun M_67 => (oM Try.prog (Go.Op.binOp Go.BinOp.eql 3 (.tmp 0) (.tmp 1) 3) 4 [(l_34.getD 0 undef), a1] (fun v110_69 w =>
 gdM (gd v110_69 true) (pureM v56_31) (fun v112_70 w =>
 gdM (gd v110_69 true) (oM Try.prog (Go.Op.binOp Go.BinOp.lss 3 (.tmp 0) (.tmp 1) 3) 4 [v112_70, (.int .i64 4)]) (fun v113_71 w =>
 oM Try.prog (Go.Op.pick (.tmp 0) (.tmp 1) (.tmp 2)) 4 [v110_69, v113_71, (.bool false)] (fun v114_72 w =>
 condM v114_72
 (callM Try.prog 24 #[v34_15, a2] (fun v117_73 w =>
 M_67 [] w) w)
 (M_67 [] w)) w) w) w) w))
 (fun l_68 u_l_68 w => (oM Try.prog (Go.Op.binOp Go.BinOp.lss 3 (.tmp 0) (.tmp 1) 3) 4 [v56_31, (.int .i64 4)] (fun v119_74 w =>
 gdM (gd v119_74 true) (pureM v69_39) (fun v121_75 w =>
 gdM (gd v119_74 true) (oM Try.prog (Go.Op.binOp Go.BinOp.neq 29 (.tmp 0) (.const (.int .i64 8)) 29) 4 [v121_75]) (fun v122_76 w =>
 oM Try.prog (Go.Op.pick (.tmp 0) (.tmp 1) (.tmp 2)) 4 [v119_74, v122_76, (.bool false)] (fun v123_77 w =>
 gdM (gd v123_77 false) (pureM v33_14) (fun v125_78 w =>
 gdM (gd v123_77 false) (callM Try.prog 13 #[v125_78]) (fun v126_79 w =>
 gdM (gd v123_77 false) (oM Try.prog (Go.Op.unOp Go.UnOp.not 4 (.tmp 0)) 4 [v126_79]) (fun v127_80 w =>
 oM Try.prog (Go.Op.pick (.tmp 0) (.tmp 1) (.tmp 2)) 4 [v123_77, (.bool true), v127_80] (fun v128_81 w =>
 condM v128_81
 (K (.bool false) w)
 (M_26 [v56_31, (l_23.getD 1 undef), (l_34.getD 0 undef), v69_39] w)) w) w) w) w) w) w) w) w)))))) w) w) w) w) w) w) w) w) w) w) w) w) w) w) w) w) w)))) w) w) w) w) w))
 (fun l_27 u_l_27 w => (oM Try.prog (Go.Op.binOp Go.BinOp.add 3 (.tmp 0) (.tmp 1) 3) 3 [(l_23.getD 4 undef), (.int .i64 1)] (fun v50_82 w =>
 J_21 [(l_27.getD 0 undef), (l_27.getD 1 undef), (l_27.getD 2 undef), (l_27.getD 3 undef), v50_82] w ∧ m_22 [(l_27.getD 0 undef), (l_27.getD 1 undef), (l_27.getD 2 undef), (l_27.getD 3 undef), v50_82] w < m_22 l_23 w0_l_23) w)))
 (callM Try.prog 27 #[v33_14, v34_15, a0] (fun v132_83 w =>
 callM Try.prog 25 #[v33_14] (fun v134_84 w =>
 callM Try.prog 25 #[v34_15] (fun v136_85 w =>
 gdM (gd v15_1 true) (pureM v132_83) (fun v139_86 w =>
 oM Try.prog (Go.Op.pick (.tmp 0) (.tmp 1) (.tmp 2)) 4 [v15_1, v139_86, (.bool false)] (fun v140_87 w =>
 gdM (gd v140_87 true) (pureM v33_14) (fun v142_88 w =>
 gdM (gd v140_87 true) (pureM v34_15) (fun v143_89 w =>
 gdM (gd v140_87 true) (pureM a0) (fun v144_90 w =>
 gdM (gd v140_87 true) (callM Try.prog 27 #[v142_88, v143_89, v144_90]) (fun v145_91 w =>
 oM Try.prog (Go.Op.pick (.tmp 0) (.tmp 1) (.tmp 2)) 4 [v140_87, v145_91, (.bool false)] (fun v146_92 w =>
 K v146_92 w) w) w) w) w) w) w) w) w) w) w)) w) w)) w0_l_23)) w)) w) w) w) w) w) w)) w) w) w) w) w) w) w) w) w) w) w) w) w
theorem sh_6_eq (a0 : Value) (a1 : Value) (a2 : Value) (K : Value → World → Prop) (w : World) : sh_6 a0 a1 a2 K w = code Try.prog (fun _ => 0) 147 (Try.f6.body.getD .skip) (slotsAt [a0, a1, a2]) (retK Try.prog [.tmp 6] K) w := by kernel_rfl
theorem sh_6_ok {a0 a1 a2 : Value} {K : Value → World → Prop} {w : World} (h : sh_6 a0 a1 a2 K w) : callM Try.prog 6 #[a0, a1, a2] K w :=
  calls_of_code (fun _ => 0) (fn := Try.f6) (rs := [.tmp 6]) Try.func6 rfl rfl (by kernel_rfl) (Nat.le_of_ble_eq_true rfl) ((sh_6_eq a0 a1 a2 K w).mp h)

/-- cloak/cloaklaw01.saneDisk -/
def sh_7 (K : Value → World → Prop) (w : World) : Prop :=
 callM Try.prog 9 #[] (fun v16_1 w =>
 oM Try.prog (Go.Op.binOp Go.BinOp.eql 25 (.tmp 0) (.const (.pointer none)) 25) 4 [v16_1] (fun v18_2 w =>
 condM v18_2
 (K (.bool false) w)
 (callM Try.prog 28 #[v16_1, (.int .i64 0), (.int .i64 0), (.string ⟨#[97, 98, 99]⟩)] (fun v20_3 w =>
 callM Try.prog 18 #[v16_1, (.int .i64 0)] (fun v22_4 w =>
 callM Try.prog 28 #[v16_1, (.int .i64 0), (.int .i64 1), (.string ⟨#[88, 89]⟩)] (fun v24_5 w =>
 callM Try.prog 17 #[v16_1] (fun v26_6 w =>
 oM Try.prog (Go.Op.binOp Go.BinOp.eql 25 (.tmp 0) (.const (.pointer none)) 25) 4 [v26_6] (fun v28_7 w =>
 condM v28_7
 (K (.bool false) w)
 (oM Try.prog (Go.Op.buildSlice 31 1 #[(0, (.tmp 0))]) 31 [(.int .i64 1)] (fun v30_8 w =>
 callM Try.prog 24 #[v16_1, v30_8] (fun v31_9 w =>
 callM Try.prog 13 #[v16_1] (fun v33_10 w =>
 callM Try.prog 19 #[v16_1, (.int .i64 0), (.int .i64 0), (.int .i64 9)] (fun v36_11 w =>
 oM Try.prog (Go.Op.extract (.tmp 0) 0) 9 [v36_11] (fun v37_12 w =>
 oM Try.prog (Go.Op.extract (.tmp 0) 1) 29 [v36_11] (fun v38_13 w =>
 callM Try.prog 25 #[v16_1] (fun v40_14 w =>
 callM Try.prog 19 #[v16_1, (.int .i64 0), (.int .i64 0), (.int .i64 9)] (fun v43_15 w =>
 oM Try.prog (Go.Op.extract (.tmp 0) 0) 9 [v43_15] (fun v44_16 w =>
 oM Try.prog (Go.Op.extract (.tmp 0) 1) 29 [v43_15] (fun v45_17 w =>
 oM Try.prog (Go.Op.buildSlice 31 1 #[(0, (.tmp 0))]) 31 [(.int .i64 0)] (fun v47_18 w =>
 callM Try.prog 24 #[v26_6, v47_18] (fun v48_19 w =>
 callM Try.prog 25 #[v26_6] (fun v50_20 w =>
 callM Try.prog 19 #[v26_6, (.int .i64 0), (.int .i64 1), (.int .i64 9)] (fun v53_21 w =>
 oM Try.prog (Go.Op.extract (.tmp 0) 0) 9 [v53_21] (fun v54_22 w =>
 oM Try.prog (Go.Op.extract (.tmp 0) 1) 29 [v53_21] (fun v55_23 w =>
 callM Try.prog 28 #[v26_6, (.int .i64 1), (.int .i64 62), (.string ⟨#[97, 98, 99, 100]⟩)] (fun v57_24 w =>
 oM Try.prog (Go.Op.buildSlice 31 2 #[(0, (.tmp 0)), (1, (.tmp 1))]) 31 [(.int .i64 0), (.int .i64 1)] (fun v59_25 w =>
 callM Try.prog 24 #[v26_6, v59_25] (fun v60_26 w =>
 callM Try.prog 25 #[v26_6] (fun v62_27 w =>
 callM Try.prog 19 #[v26_6, (.int .i64 1), (.int .i64 60), (.int .i64 100)] (fun v65_28 w =>
 oM Try.prog (Go.Op.extract (.tmp 0) 0) 9 [v65_28] (fun v66_29 w =>
 oM Try.prog (Go.Op.extract (.tmp 0) 1) 29 [v65_28] (fun v67_30 w =>
 oM Try.prog (Go.Op.binOp Go.BinOp.eql 29 (.tmp 0) (.const (.int .i64 0)) 29) 4 [v20_3] (fun v69_31 w =>
 gdM (gd v69_31 true) (pureM v22_4) (fun v71_32 w =>
 gdM (gd v69_31 true) (oM Try.prog (Go.Op.binOp Go.BinOp.eql 29 (.tmp 0) (.const (.int .i64 0)) 29) 4 [v71_32]) (fun v72_33 w =>
 oM Try.prog (Go.Op.pick (.tmp 0) (.tmp 1) (.tmp 2)) 4 [v69_31, v72_33, (.bool false)] (fun v73_34 w =>
 gdM (gd v73_34 true) (pureM v33_10) (fun v75_35 w =>
 oM Try.prog (Go.Op.pick (.tmp 0) (.tmp 1) (.tmp 2)) 4 [v73_34, v75_35, (.bool false)] (fun v76_36 w =>
 gdM (gd v76_36 true) (pureM v38_13) (fun v78_37 w =>
 gdM (gd v76_36 true) (oM Try.prog (Go.Op.binOp Go.BinOp.eql 29 (.tmp 0) (.const (.int .i64 8)) 29) 4 [v78_37]) (fun v79_38 w =>
 oM Try.prog (Go.Op.pick (.tmp 0) (.tmp 1) (.tmp 2)) 4 [v76_36, v79_38, (.bool false)] (fun v80_39 w =>
 gdM (gd v80_39 true) (pureM v44_16) (fun v82_40 w =>
 gdM (gd v80_39 true) (oM Try.prog (Go.Op.binOp Go.BinOp.eql 9 (.tmp 0) (.const (.string ⟨#[97, 88, 89]⟩)) 9) 4 [v82_40]) (fun v83_41 w =>
 oM Try.prog (Go.Op.pick (.tmp 0) (.tmp 1) (.tmp 2)) 4 [v80_39, v83_41, (.bool false)] (fun v84_42 w =>
 gdM (gd v84_42 true) (pureM v45_17) (fun v86_43 w =>
 gdM (gd v84_42 true) (oM Try.prog (Go.Op.binOp Go.BinOp.eql 29 (.tmp 0) (.const (.int .i64 0)) 29) 4 [v86_43]) (fun v87_44 w =>
 oM Try.prog (Go.Op.pick (.tmp 0) (.tmp 1) (.tmp 2)) 4 [v84_42, v87_44, (.bool false)] (fun v88_45 w =>
 gdM (gd v88_45 true) (pureM v54_22) (fun v90_46 w =>
 gdM (gd v88_45 true) (oM Try.prog (Go.Op.binOp Go.BinOp.eql 9 (.tmp 0) (.const (.string ⟨#[98, 99]⟩)) 9) 4 [v90_46]) (fun v91_47 w =>
 oM Try.prog (Go.Op.pick (.tmp 0) (.tmp 1) (.tmp 2)) 4 [v88_45, v91_47, (.bool false)] (fun v92_48 w =>
 gdM (gd v92_48 true) (pureM v55_23) (fun v94_49 w =>
 gdM (gd v92_48 true) (oM Try.prog (Go.Op.binOp Go.BinOp.eql 29 (.tmp 0) (.const (.int .i64 0)) 29) 4 [v94_49]) (fun v95_50 w =>
 oM Try.prog (Go.Op.pick (.tmp 0) (.tmp 1) (.tmp 2)) 4 [v92_48, v95_50, (.bool false)] (fun v96_51 w =>
 gdM (gd v96_51 true) (pureM v57_24) (fun v98_52 w =>
 gdM (gd v96_51 true) (oM Try.prog (Go.Op.binOp Go.BinOp.eql 29 (.tmp 0) (.const (.int .i64 0)) 29) 4 [v98_52]) (fun v99_53 w =>
 oM Try.prog (Go.Op.pick (.tmp 0) (.tmp 1) (.tmp 2)) 4 [v96_51, v99_53, (.bool false)] (fun v100_54 w =>
 gdM (gd v100_54 true) (pureM v66_29) (fun v103_55 w =>
 gdM (gd v100_54 true) (oM Try.prog (Go.Op.binOp Go.BinOp.eql 9 (.tmp 0) (.const (.string ⟨#[0, 0, 0, 0, 99, 100]⟩)) 9) 4 [v103_55]) (fun v104_56 w =>
 oM Try.prog (Go.Op.pick (.tmp 0) (.tmp 1) (.tmp 2)) 4 [v100_54, v104_56, (.bool false)] (fun v105_57 w =>
 gdM (gd v105_57 true) (pureM v67_30) (fun v107_58 w =>
 gdM (gd v105_57 true) (oM Try.prog (Go.Op.binOp Go.BinOp.eql 29 (.tmp 0) (.const (.int .i64 0)) 29) 4 [v107_58]) (fun v108_59 w =>
 oM Try.prog (Go.Op.pick (.tmp 0) (.tmp 1) (.tmp 2)) 4 [v105_57, v108_59, (.bool false)] (fun v109_60 w =>
 gdM (gd v109_60 true) (pureM v26_6) (fun v111_61 w =>
 gdM (gd v109_60 true) (callM Try.prog 15 #[v111_61, (.int .i64 1)]) (fun v112_62 w =>
 gdM (gd v109_60 true) (oM Try.prog (Go.Op.binOp Go.BinOp.eql 3 (.tmp 0) (.const (.int .i64 66)) 3) 4 [v112_62]) (fun v113_63 w =>
 oM Try.prog (Go.Op.pick (.tmp 0) (.tmp 1) (.tmp 2)) 4 [v109_60, v113_63, (.bool false)] (fun v114_64 w =>
 gdM (gd v114_64 true) (pureM v26_6) (fun v116_65 w =>
 gdM (gd v114_64 true) (callM Try.prog 28 #[v116_65, (.int .i64 16), (.int .i64 0), (.string ⟨#[]⟩)]) (fun v117_66 w =>
 gdM (gd v114_64 true) (oM Try.prog (Go.Op.binOp Go.BinOp.eql 29 (.tmp 0) (.const (.int .i64 1)) 29) 4 [v117_66]) (fun v118_67 w =>
 oM Try.prog (Go.Op.pick (.tmp 0) (.tmp 1) (.tmp 2)) 4 [v114_64, v118_67, (.bool false)] (fun v119_68 w =>
 gdM (gd v119_68 true) (pureM v26_6) (fun v121_69 w =>
 gdM (gd v119_68 true) (callM Try.prog 28 #[v121_69, (.int .i64 1), (.int .i64 16777216), (.string ⟨#[97]⟩)]) (fun v122_70 w =>
 gdM (gd v119_68 true) (oM Try.prog (Go.Op.binOp Go.BinOp.eql 29 (.tmp 0) (.const (.int .i64 6)) 29) 4 [v122_70]) (fun v123_71 w =>
 oM Try.prog (Go.Op.pick (.tmp 0) (.tmp 1) (.tmp 2)) 4 [v119_68, v123_71, (.bool false)] (fun v124_72 w =>
 K v124_72 w) w) w) w) w) w) w) w) w) w) w) w) w) w) w) w) w) w) w) w) w) w) w) w) w) w) w) w) w) w) w) w) w) w) w) w) w) w) w) w) w) w) w) w) w) w) w) w) w) w) w) w) w) w) w) w) w) w) w) w) w) w) w) w) w) w)) w) w) w) w) w)) w) w
theorem sh_7_eq (K : Value → World → Prop) (w : World) : sh_7 K w = code Try.prog (fun _ => 0) 125 (Try.f7.body.getD .skip) (slotsAt []) (retK Try.prog [.tmp 0] K) w := by kernel_rfl
theorem sh_7_ok {K : Value → World → Prop} {w : World} (h : sh_7 K w) : callM Try.prog 7 #[] K w :=
  calls_of_code (fun _ => 0) (fn := Try.f7) (rs := [.tmp 0]) Try.func7 rfl rfl (by kernel_rfl) (Nat.le_of_ble_eq_true rfl) ((sh_7_eq K w).mp h)

/-- cloak/cloaklaw01.fewActs -/
def sh_8 (a0 : Value) (K : Value → World → Prop) (w : World) : Prop :=
 oM Try.prog (Go.Op.call (Go.Call.mk (Go.Callee.builtin Go.Builtin.len) #[(.tmp 0)] #[22])) 3 [a0] (fun v5_1 w =>
 oM Try.prog (Go.Op.binOp Go.BinOp.gtr 3 (.tmp 0) (.tmp 1) 3) 4 [v5_1, (.int .i64 40)] (fun v6_2 w =>
 condM v6_2
 (K (.bool false) w)
 (loopM [(.bool false), (.int .i64 0)] w (fun J_3 m_4 l_5 u_l_5 w0_l_5 => (fun w => (
 oM Try.prog (Go.Op.call (Go.Call.mk (Go.Callee.builtin Go.Builtin.len) #[(.tmp 0)] #[22])) 3 [a0] (fun v9_6 w =>
 oM Try.prog (Go.Op.binOp Go.BinOp.lss 3 (.tmp 0) (.tmp 1) 3) 4 [(l_5.getD 1 undef), v9_6] (fun v10_7 w =>
 condM v10_7
 (oM Try.prog (Go.Op.indexAddr 22 (.tmp 0) (.tmp 1)) 0 [a0, (l_5.getD 1 undef)] (fun v15_8 w =>
 oM Try.prog (Go.Op.fieldAddr 33 (.tmp 0) 3) 0 [v15_8] (fun v16_9 w =>
 oM Try.prog (Go.Op.load 9 (.tmp 0)) 9 [v16_9] (fun v17_10 w =>
 oM Try.prog (Go.Op.call (Go.Call.mk (Go.Callee.builtin Go.Builtin.len) #[(.tmp 0)] #[9])) 3 [v17_10] (fun v18_11 w =>
 oM Try.prog (Go.Op.binOp Go.BinOp.gtr 3 (.tmp 0) (.tmp 1) 3) 4 [v18_11, (.int .i64 300)] (fun v19_12 w =>
 gdM (gd v19_12 false) (pureM a0) (fun v21_13 w =>
 gdM (gd v19_12 false) (pureM (l_5.getD 1 undef)) (fun v22_14 w =>
 gdM (gd v19_12 false) (oM Try.prog (Go.Op.indexAddr 22 (.tmp 0) (.tmp 1)) 0 [v21_13, v22_14]) (fun v23_15 w =>
 gdM (gd v19_12 false) (oM Try.prog (Go.Op.fieldAddr 33 (.tmp 0) 4) 0 [v23_15]) (fun v24_16 w =>
 gdM (gd v19_12 false) (oM Try.prog (Go.Op.load 31 (.tmp 0)) 31 [v24_16]) (fun v25_17 w =>
 gdM (gd v19_12 false) (oM Try.prog (Go.Op.call (Go.Call.mk (Go.Callee.builtin Go.Builtin.len) #[(.tmp 0)] #[31])) 3 [v25_17]) (fun v26_18 w =>
 gdM (gd v19_12 false) (oM Try.prog (Go.Op.binOp Go.BinOp.gtr 3 (.tmp 0) (.tmp 1) 3) 4 [v26_18, (.int .i64 60)]) (fun v27_19 w =>
 oM Try.prog (Go.Op.pick (.tmp 0) (.tmp 1) (.tmp 2)) 4 [v19_12, (.bool true), v27_19] (fun v28_20 w =>
 gdM (gd v28_20 false) (pureM a0) (fun v30_21 w =>
 gdM (gd v28_20 false) (pureM (l_5.getD 1 undef)) (fun v31_22 w =>
 gdM (gd v28_20 false) (oM Try.prog (Go.Op.indexAddr 22 (.tmp 0) (.tmp 1)) 0 [v30_21, v31_22]) (fun v32_23 w =>
 gdM (gd v28_20 false) (oM Try.prog (Go.Op.fieldAddr 33 (.tmp 0) 2) 0 [v32_23]) (fun v33_24 w =>
 gdM (gd v28_20 false) (oM Try.prog (Go.Op.load 3 (.tmp 0)) 3 [v33_24]) (fun v34_25 w =>
 gdM (gd v28_20 false) (oM Try.prog (Go.Op.binOp Go.BinOp.gtr 3 (.tmp 0) (.tmp 1) 3) 4 [v34_25, (.int .i64 3000)]) (fun v35_26 w =>
 gdM (gd v28_20 false) (pureM v35_26) (fun v36_27 w =>
 gdM (gd v36_27 true) (pureM a0) (fun v37_28 w =>
 gdM (gd v36_27 true) (pureM (l_5.getD 1 undef)) (fun v38_29 w =>
 gdM (gd v36_27 true) (oM Try.prog (Go.Op.indexAddr 22 (.tmp 0) (.tmp 1)) 0 [v37_28, v38_29]) (fun v39_30 w =>
 gdM (gd v36_27 true) (oM Try.prog (Go.Op.fieldAddr 33 (.tmp 0) 2) 0 [v39_30]) (fun v40_31 w =>
 gdM (gd v36_27 true) (oM Try.prog (Go.Op.load 3 (.tmp 0)) 3 [v40_31]) (fun v41_32 w =>
 gdM (gd v36_27 true) (oM Try.prog (Go.Op.binOp Go.BinOp.lss 3 (.tmp 0) (.tmp 1) 3) 4 [v41_32, (.int .i64 16776916)]) (fun v42_33 w =>
 gdM (gd v36_27 true) (pureM v42_33) (fun v43_34 w =>
 gdM (gd v43_34 false) (pureM a0) (fun v44_35 w =>
 gdM (gd v43_34 false) (oM Try.prog (Go.Op.call (Go.Call.mk (Go.Callee.builtin Go.Builtin.len) #[(.tmp 0)] #[22])) 3 [v44_35]) (fun v45_36 w =>
 gdM (gd v43_34 false) (oM Try.prog (Go.Op.binOp Go.BinOp.gtr 3 (.tmp 0) (.tmp 1) 3) 4 [v45_36, (.int .i64 8)]) (fun v46_37 w =>
 gdM (gd v36_27 true) (oM Try.prog (Go.Op.pick (.tmp 0) (.tmp 1) (.tmp 2)) 4 [v43_34, (.bool true), v46_37]) (fun v47_38 w =>
 gdM (gd v28_20 false) (oM Try.prog (Go.Op.pick (.tmp 0) (.tmp 1) (.tmp 2)) 4 [v36_27, v47_38, (.bool false)]) (fun v48_39 w =>
 oM Try.prog (Go.Op.pick (.tmp 0) (.tmp 1) (.tmp 2)) 4 [v28_20, (.bool true), v48_39] (fun v49_40 w =>
 condM v49_40
 (K (.bool false) w)
 (oM Try.prog (Go.Op.binOp Go.BinOp.add 3 (.tmp 0) (.tmp 1) 3) 3 [(l_5.getD 1 undef), (.int .i64 1)] (fun v12_41 w =>
 J_3 [(l_5.getD 0 undef), v12_41] w ∧ m_4 [(l_5.getD 0 undef), v12_41] w < m_4 l_5 w0_l_5) w)) w) w) w) w) w) w) w) w) w) w) w) w) w) w) w) w) w) w) w) w) w) w) w) w) w) w) w) w) w) w) w) w) w)
 (K (.bool true) w)) w) w)) w0_l_5))) w) w
theorem sh_8_eq (a0 : Value) (K : Value → World → Prop) (w : World) : sh_8 a0 K w = code Try.prog (fun _ => 0) 50 (Try.f8.body.getD .skip) (slotsAt [a0]) (retK Try.prog [.tmp 2] K) w := by kernel_rfl
theorem sh_8_ok {a0 : Value} {K : Value → World → Prop} {w : World} (h : sh_8 a0 K w) : callM Try.prog 8 #[a0] K w :=
  calls_of_code (fun _ => 0) (fn := Try.f8) (rs := [.tmp 2]) Try.func8 rfl rfl (by kernel_rfl) (Nat.le_of_ble_eq_true rfl) ((sh_8_eq a0 K w).mp h)

/-- cloak/base.NewDisk -/
def sh_9 (K : Value → World → Prop) (w : World) : Prop :=
 oM Try.prog (Go.Op.makeMap 50 none) 50 [] (fun v1_1 w =>
 oM Try.prog (Go.Op.makeMap 51 none) 51 [] (fun v2_2 w =>
 oM Try.prog (Go.Op.build 54 #[(0, (.tmp 0)), (2, (.tmp 1))]) 54 [v1_1, v2_2] (fun v3_3 w =>
 oM Try.prog (Go.Op.box 54 (.tmp 0)) 25 [v3_3] (fun v4_4 w =>
 K v4_4 w) w) w) w) w
theorem sh_9_eq (K : Value → World → Prop) (w : World) : sh_9 K w = code Try.prog (fun _ => 0) 5 (Try.f9.body.getD .skip) (slotsAt []) (retK Try.prog [.tmp 0] K) w := by kernel_rfl
theorem sh_9_ok {K : Value → World → Prop} {w : World} (h : sh_9 K w) : callM Try.prog 9 #[] K w :=
  calls_of_code (fun _ => 0) (fn := Try.f9) (rs := [.tmp 0]) Try.func9 rfl rfl (by kernel_rfl) (Nat.le_of_ble_eq_true rfl) ((sh_9_eq K w).mp h)

/-- cloak/cloakref01.NewDisk -/
def sh_10 (K : Value → World → Prop) (w : World) : Prop :=
 oM Try.prog (Go.Op.build 58 #[]) 58 [] (fun v1_1 w =>
 oM Try.prog (Go.Op.box 58 (.tmp 0)) 27 [v1_1] (fun v2_2 w =>
 K v2_2 w) w) w
theorem sh_10_eq (K : Value → World → Prop) (w : World) : sh_10 K w = code Try.prog (fun _ => 0) 3 (Try.f10.body.getD .skip) (slotsAt []) (retK Try.prog [.tmp 0] K) w := by kernel_rfl
theorem sh_10_ok {K : Value → World → Prop} {w : World} (h : sh_10 K w) : callM Try.prog 10 #[] K w :=
  calls_of_code (fun _ => 0) (fn := Try.f10) (rs := [.tmp 0]) Try.func10 rfl rfl (by kernel_rfl) (Nat.le_of_ble_eq_true rfl) ((sh_10_eq K w).mp h)

/-- cloak/cloaklaw01.do -/
def sh_11 (a0 : Value) (a1 : Value) (K : Value → World → Prop) (w : World) : Prop :=
 oM Try.prog (Go.Op.box 33 (.tmp 0)) 0 [a1] (fun v3_1 w =>
 joinM (fun M_2 => (oM Try.prog (Go.Op.fieldAddr 33 (.tmp 0) 0) 0 [v3_1] (fun v5_4 w =>
 oM Try.prog (Go.Op.load 3 (.tmp 0)) 3 [v5_4] (fun v6_5 w =>
 oM Try.prog (Go.Op.binOp Go.BinOp.and 3 (.tmp 0) (.tmp 1) 3) 3 [v6_5, (.int .i64 7)] (fun v7_6 w =>
 oM Try.prog (Go.Op.binOp Go.BinOp.eql 3 (.tmp 0) (.const (.int .i64 2)) 3) 4 [v7_6] (fun v17_7 w =>
 condM v17_7
 (oM Try.prog (Go.Op.fieldAddr 33 (.tmp 0) 1) 0 [v3_1] (fun v19_8 w =>
 oM Try.prog (Go.Op.load 3 (.tmp 0)) 3 [v19_8] (fun v20_9 w =>
 callM Try.prog 18 #[a0, v20_9] (fun v21_10 w =>
 K v21_10 w) w) w) w)
 (oM Try.prog (Go.Op.binOp Go.BinOp.eql 3 (.tmp 0) (.const (.int .i64 3)) 3) 4 [v7_6] (fun v23_11 w =>
 condM v23_11
 (oM Try.prog (Go.Op.fieldAddr 33 (.tmp 0) 1) 0 [v3_1] (fun v25_12 w =>
 oM Try.prog (Go.Op.load 3 (.tmp 0)) 3 [v25_12] (fun v26_13 w =>
 oM Try.prog (Go.Op.fieldAddr 33 (.tmp 0) 2) 0 [v3_1] (fun v27_14 w =>
 oM Try.prog (Go.Op.load 3 (.tmp 0)) 3 [v27_14] (fun v28_15 w =>
 callM Try.prog 29 #[a0, v26_13, v28_15] (fun v29_16 w =>
 K v29_16 w) w) w) w) w) w)
 (oM Try.prog (Go.Op.binOp Go.BinOp.eql 3 (.tmp 0) (.const (.int .i64 4)) 3) 4 [v7_6] (fun v31_17 w =>
 condM v31_17
 (oM Try.prog (Go.Op.fieldAddr 33 (.tmp 0) 2) 0 [v3_1] (fun v33_18 w =>
 oM Try.prog (Go.Op.load 3 (.tmp 0)) 3 [v33_18] (fun v34_19 w =>
 oM Try.prog (Go.Op.binOp Go.BinOp.and 3 (.tmp 0) (.tmp 1) 3) 3 [v34_19, (.int .i64 3)] (fun v35_20 w =>
 callM Try.prog 30 #[a0, v35_20] (fun v36_21 w =>
 M_2 [v17_7, (.int .i64 0), v23_11, v31_17, undef, undef, undef] w) w) w) w) w)
 (oM Try.prog (Go.Op.binOp Go.BinOp.eql 3 (.tmp 0) (.const (.int .i64 5)) 3) 4 [v7_6] (fun v38_22 w =>
 condM v38_22
 (oM Try.prog (Go.Op.fieldAddr 33 (.tmp 0) 2) 0 [v3_1] (fun v40_23 w =>
 oM Try.prog (Go.Op.load 3 (.tmp 0)) 3 [v40_23] (fun v41_24 w =>
 oM Try.prog (Go.Op.fieldAddr 33 (.tmp 0) 4) 0 [v3_1] (fun v42_25 w =>
 oM Try.prog (Go.Op.load 31 (.tmp 0)) 31 [v42_25] (fun v43_26 w =>
 callM Try.prog 26 #[a0, v41_24, v43_26] (fun v44_27 w =>
 M_2 [v17_7, (.int .i64 0), v23_11, v31_17, v38_22, undef, undef] w) w) w) w) w) w)
 (oM Try.prog (Go.Op.binOp Go.BinOp.eql 3 (.tmp 0) (.const (.int .i64 6)) 3) 4 [v7_6] (fun v46_28 w =>
 condM v46_28
 (oM Try.prog (Go.Op.fieldAddr 33 (.tmp 0) 4) 0 [v3_1] (fun v48_29 w =>
 oM Try.prog (Go.Op.load 31 (.tmp 0)) 31 [v48_29] (fun v49_30 w =>
 callM Try.prog 24 #[a0, v49_30] (fun v50_31 w =>
 M_2 [v17_7, (.int .i64 0), v23_11, v31_17, v38_22, v46_28, undef] w) w) w) w)
 (oM Try.prog (Go.Op.binOp Go.BinOp.eql 3 (.tmp 0) (.const (.int .i64 7)) 3) 4 [v7_6] (fun v52_32 w =>
 condM v52_32
 (callM Try.prog 25 #[a0] (fun v54_33 w =>
 M_2 [v17_7, (.int .i64 0), v23_11, v31_17, v38_22, v46_28, v52_32] w) w)
 (oM Try.prog (Go.Op.fieldAddr 33 (.tmp 0) 1) 0 [v3_1] (fun v9_34 w =>
 oM Try.prog (Go.Op.load 3 (.tmp 0)) 3 [v9_34] (fun v10_35 w =>
 oM Try.prog (Go.Op.fieldAddr 33 (.tmp 0) 2) 0 [v3_1] (fun v11_36 w =>
 oM Try.prog (Go.Op.load 3 (.tmp 0)) 3 [v11_36] (fun v12_37 w =>
 oM Try.prog (Go.Op.fieldAddr 33 (.tmp 0) 3) 0 [v3_1] (fun v13_38 w =>
 oM Try.prog (Go.Op.load 9 (.tmp 0)) 9 [v13_38] (fun v14_39 w =>
 callM Try.prog 28 #[a0, v10_35, v12_37, v14_39] (fun v15_40 w =>
 K v15_40 w) w) w) w) w) w) w) w)) w)) w)) w)) w)) w)) w) w) w) w))
 (fun l_3 u_l_3 w => (K (.int .i64 0) w))) w
theorem sh_11_eq (a0 : Value) (a1 : Value) (K : Value → World → Prop) (w : World) : sh_11 a0 a1 K w = code Try.prog (fun _ => 0) 55 (Try.f11.body.getD .skip) (slotsAt [a0, a1]) (retK Try.prog [.tmp 4] K) w := by kernel_rfl
theorem sh_11_ok {a0 a1 : Value} {K : Value → World → Prop} {w : World} (h : sh_11 a0 a1 K w) : callM Try.prog 11 #[a0, a1] K w :=
  calls_of_code (fun _ => 0) (fn := Try.f11) (rs := [.tmp 4]) Try.func11 rfl rfl (by kernel_rfl) (Nat.le_of_ble_eq_true rfl) ((sh_11_eq a0 a1 K w).mp h)

/-- cloak/cloaklaw01.doRef -/
def sh_12 (a0 : Value) (a1 : Value) (K : Value → World → Prop) (w : World) : Prop :=
 oM Try.prog (Go.Op.box 33 (.tmp 0)) 0 [a1] (fun v3_1 w =>
 joinM (fun M_2 => (oM Try.prog (Go.Op.fieldAddr 33 (.tmp 0) 0) 0 [v3_1] (fun v5_4 w =>
 oM Try.prog (Go.Op.load 3 (.tmp 0)) 3 [v5_4] (fun v6_5 w =>
 oM Try.prog (Go.Op.binOp Go.BinOp.and 3 (.tmp 0) (.tmp 1) 3) 3 [v6_5, (.int .i64 7)] (fun v7_6 w =>
 oM Try.prog (Go.Op.binOp Go.BinOp.eql 3 (.tmp 0) (.const (.int .i64 2)) 3) 4 [v7_6] (fun v17_7 w =>
 condM v17_7
 (oM Try.prog (Go.Op.fieldAddr 33 (.tmp 0) 1) 0 [v3_1] (fun v19_8 w =>
 oM Try.prog (Go.Op.load 3 (.tmp 0)) 3 [v19_8] (fun v20_9 w =>
 callM Try.prog 31 #[a0, v20_9] (fun v21_10 w =>
 K v21_10 w) w) w) w)
 (oM Try.prog (Go.Op.binOp Go.BinOp.eql 3 (.tmp 0) (.const (.int .i64 3)) 3) 4 [v7_6] (fun v23_11 w =>
 condM v23_11
 (oM Try.prog (Go.Op.fieldAddr 33 (.tmp 0) 1) 0 [v3_1] (fun v25_12 w =>
 oM Try.prog (Go.Op.load 3 (.tmp 0)) 3 [v25_12] (fun v26_13 w =>
 oM Try.prog (Go.Op.fieldAddr 33 (.tmp 0) 2) 0 [v3_1] (fun v27_14 w =>
 oM Try.prog (Go.Op.load 3 (.tmp 0)) 3 [v27_14] (fun v28_15 w =>
 callM Try.prog 32 #[a0, v26_13, v28_15] (fun v29_16 w =>
 K v29_16 w) w) w) w) w) w)
 (oM Try.prog (Go.Op.binOp Go.BinOp.eql 3 (.tmp 0) (.const (.int .i64 4)) 3) 4 [v7_6] (fun v31_17 w =>
 condM v31_17
 (oM Try.prog (Go.Op.fieldAddr 33 (.tmp 0) 2) 0 [v3_1] (fun v33_18 w =>
 oM Try.prog (Go.Op.load 3 (.tmp 0)) 3 [v33_18] (fun v34_19 w =>
 oM Try.prog (Go.Op.binOp Go.BinOp.and 3 (.tmp 0) (.tmp 1) 3) 3 [v34_19, (.int .i64 3)] (fun v35_20 w =>
 callM Try.prog 33 #[a0, v35_20] (fun v36_21 w =>
 M_2 [v17_7, (.int .i64 0), v23_11, v31_17, undef, undef, undef] w) w) w) w) w)
 (oM Try.prog (Go.Op.binOp Go.BinOp.eql 3 (.tmp 0) (.const (.int .i64 5)) 3) 4 [v7_6] (fun v38_22 w =>
 condM v38_22
 (oM Try.prog (Go.Op.fieldAddr 33 (.tmp 0) 2) 0 [v3_1] (fun v40_23 w =>
 oM Try.prog (Go.Op.load 3 (.tmp 0)) 3 [v40_23] (fun v41_24 w =>
 oM Try.prog (Go.Op.fieldAddr 33 (.tmp 0) 4) 0 [v3_1] (fun v42_25 w =>
 oM Try.prog (Go.Op.load 31 (.tmp 0)) 31 [v42_25] (fun v43_26 w =>
 callM Try.prog 34 #[a0, v41_24, v43_26] (fun v44_27 w =>
 M_2 [v17_7, (.int .i64 0), v23_11, v31_17, v38_22, undef, undef] w) w) w) w) w) w)
 (oM Try.prog (Go.Op.binOp Go.BinOp.eql 3 (.tmp 0) (.const (.int .i64 6)) 3) 4 [v7_6] (fun v46_28 w =>
 condM v46_28
 (oM Try.prog (Go.Op.fieldAddr 33 (.tmp 0) 4) 0 [v3_1] (fun v48_29 w =>
 oM Try.prog (Go.Op.load 31 (.tmp 0)) 31 [v48_29] (fun v49_30 w =>
 callM Try.prog 35 #[a0, v49_30] (fun v50_31 w =>
 M_2 [v17_7, (.int .i64 0), v23_11, v31_17, v38_22, v46_28, undef] w) w) w) w)
 (oM Try.prog (Go.Op.binOp Go.BinOp.eql 3 (.tmp 0) (.const (.int .i64 7)) 3) 4 [v7_6] (fun v52_32 w =>
 condM v52_32
 (callM Try.prog 36 #[a0] (fun v54_33 w =>
 M_2 [v17_7, (.int .i64 0), v23_11, v31_17, v38_22, v46_28, v52_32] w) w)
 (oM Try.prog (Go.Op.fieldAddr 33 (.tmp 0) 1) 0 [v3_1] (fun v9_34 w =>
 oM Try.prog (Go.Op.load 3 (.tmp 0)) 3 [v9_34] (fun v10_35 w =>
 oM Try.prog (Go.Op.fieldAddr 33 (.tmp 0) 2) 0 [v3_1] (fun v11_36 w =>
 oM Try.prog (Go.Op.load 3 (.tmp 0)) 3 [v11_36] (fun v12_37 w =>
 oM Try.prog (Go.Op.fieldAddr 33 (.tmp 0) 3) 0 [v3_1] (fun v13_38 w =>
 oM Try.prog (Go.Op.load 9 (.tmp 0)) 9 [v13_38] (fun v14_39 w =>
 callM Try.prog 37 #[a0, v10_35, v12_37, v14_39] (fun v15_40 w =>
 K v15_40 w) w) w) w) w) w) w) w)) w)) w)) w)) w)) w)) w) w) w) w))
 (fun l_3 u_l_3 w => (K (.int .i64 0) w))) w
theorem sh_12_eq (a0 : Value) (a1 : Value) (K : Value → World → Prop) (w : World) : sh_12 a0 a1 K w = code Try.prog (fun _ => 0) 55 (Try.f12.body.getD .skip) (slotsAt [a0, a1]) (retK Try.prog [.tmp 4] K) w := by kernel_rfl
theorem sh_12_ok {a0 a1 : Value} {K : Value → World → Prop} {w : World} (h : sh_12 a0 a1 K w) : callM Try.prog 12 #[a0, a1] K w :=
  calls_of_code (fun _ => 0) (fn := Try.f12) (rs := [.tmp 4]) Try.func12 rfl rfl (by kernel_rfl) (Nat.le_of_ble_eq_true rfl) ((sh_12_eq a0 a1 K w).mp h)

/-- (*cloak/base.Disk).Down -/
def sh_13 (a0 : Value) (K : Value → World → Prop) (w : World) : Prop :=
 oM Try.prog (Go.Op.nilCheck (.tmp 0)) 0 [a0] (fun v4_1 w =>
 oM Try.prog (Go.Op.fieldAddr 54 (.tmp 0) 4) 0 [v4_1] (fun v5_2 w =>
 oM Try.prog (Go.Op.load 4 (.tmp 0)) 4 [v5_2] (fun v6_3 w =>
 K v6_3 w) w) w) w
theorem sh_13_eq (a0 : Value) (K : Value → World → Prop) (w : World) : sh_13 a0 K w = code Try.prog (fun _ => 0) 7 (Try.f13.body.getD .skip) (slotsAt [a0]) (retK Try.prog [.tmp 2] K) w := by kernel_rfl
theorem sh_13_ok {a0 : Value} {K : Value → World → Prop} {w : World} (h : sh_13 a0 K w) : callM Try.prog 13 #[a0] K w :=
  calls_of_code (fun _ => 0) (fn := Try.f13) (rs := [.tmp 2]) Try.func13 rfl rfl (by kernel_rfl) (Nat.le_of_ble_eq_true rfl) ((sh_13_eq a0 K w).mp h)

/-- (*cloak/cloakref01.Disk).Down -/
def sh_14 (a0 : Value) (K : Value → World → Prop) (w : World) : Prop :=
 oM Try.prog (Go.Op.nilCheck (.tmp 0)) 0 [a0] (fun v4_1 w =>
 oM Try.prog (Go.Op.fieldAddr 58 (.tmp 0) 3) 0 [v4_1] (fun v5_2 w =>
 oM Try.prog (Go.Op.load 4 (.tmp 0)) 4 [v5_2] (fun v6_3 w =>
 K v6_3 w) w) w) w
theorem sh_14_eq (a0 : Value) (K : Value → World → Prop) (w : World) : sh_14 a0 K w = code Try.prog (fun _ => 0) 7 (Try.f14.body.getD .skip) (slotsAt [a0]) (retK Try.prog [.tmp 2] K) w := by kernel_rfl
theorem sh_14_ok {a0 : Value} {K : Value → World → Prop} {w : World} (h : sh_14 a0 K w) : callM Try.prog 14 #[a0] K w :=
  calls_of_code (fun _ => 0) (fn := Try.f14) (rs := [.tmp 2]) Try.func14 rfl rfl (by kernel_rfl) (Nat.le_of_ble_eq_true rfl) ((sh_14_eq a0 K w).mp h)

/-- (*cloak/base.Disk).Size -/
def sh_15 (a0 : Value) (a1 : Value) (K : Value → World → Prop) (w : World) : Prop :=
 oM Try.prog (Go.Op.nilCheck (.tmp 0)) 0 [a0] (fun v6_1 w =>
 oM Try.prog (Go.Op.fieldAddr 54 (.tmp 0) 0) 0 [v6_1] (fun v7_2 w =>
 oM Try.prog (Go.Op.load 50 (.tmp 0)) 50 [v7_2] (fun v8_3 w =>
 oM Try.prog (Go.Op.lookup 50 (.tmp 0) (.tmp 1) false) 62 [v8_3, a1] (fun v10_4 w =>
 oM Try.prog (Go.Op.field 62 (.tmp 0) 0) 9 [v10_4] (fun v11_5 w =>
 oM Try.prog (Go.Op.call (Go.Call.mk (Go.Callee.builtin Go.Builtin.len) #[(.tmp 0)] #[9])) 3 [v11_5] (fun v12_6 w =>
 K v12_6 w) w) w) w) w) w) w
theorem sh_15_eq (a0 : Value) (a1 : Value) (K : Value → World → Prop) (w : World) : sh_15 a0 a1 K w = code Try.prog (fun _ => 0) 13 (Try.f15.body.getD .skip) (slotsAt [a0, a1]) (retK Try.prog [.tmp 4] K) w := by kernel_rfl
theorem sh_15_ok {a0 a1 : Value} {K : Value → World → Prop} {w : World} (h : sh_15 a0 a1 K w) : callM Try.prog 15 #[a0, a1] K w :=
  calls_of_code (fun _ => 0) (fn := Try.f15) (rs := [.tmp 4]) Try.func15 rfl rfl (by kernel_rfl) (Nat.le_of_ble_eq_true rfl) ((sh_15_eq a0 a1 K w).mp h)

/-- (*cloak/cloakref01.Disk).Size -/
def sh_16 (a0 : Value) (a1 : Value) (K : Value → World → Prop) (w : World) : Prop :=
 callM Try.prog 38 #[a0, a1] (fun v7_1 w =>
 oM Try.prog (Go.Op.field 64 (.tmp 0) 1) 9 [v7_1] (fun v8_2 w =>
 oM Try.prog (Go.Op.call (Go.Call.mk (Go.Callee.builtin Go.Builtin.len) #[(.tmp 0)] #[9])) 3 [v8_2] (fun v9_3 w =>
 K v9_3 w) w) w) w
theorem sh_16_eq (a0 : Value) (a1 : Value) (K : Value → World → Prop) (w : World) : sh_16 a0 a1 K w = code Try.prog (fun _ => 0) 10 (Try.f16.body.getD .skip) (slotsAt [a0, a1]) (retK Try.prog [.tmp 4] K) w := by kernel_rfl
theorem sh_16_ok {a0 a1 : Value} {K : Value → World → Prop} {w : World} (h : sh_16 a0 a1 K w) : callM Try.prog 16 #[a0, a1] K w :=
  calls_of_code (fun _ => 0) (fn := Try.f16) (rs := [.tmp 4]) Try.func16 rfl rfl (by kernel_rfl) (Nat.le_of_ble_eq_true rfl) ((sh_16_eq a0 a1 K w).mp h)

/-- (*cloak/base.Disk).Copy -/
def sh_17 (a0 : Value) (K : Value → World → Prop) (w : World) : Prop :=
 oM Try.prog (Go.Op.nilCheck (.tmp 0)) 0 [a0] (fun v5_1 w =>
 oM Try.prog (Go.Op.load 54 (.tmp 0)) 54 [v5_1] (fun v6_2 w =>
 oM Try.prog (Go.Op.alloc 54) 0 [] (fun v3_3 w =>
 oM Try.prog (Go.Op.store 54 (.tmp 0) (.tmp 1)) 0 [v3_3, v6_2] (fun _ w =>
 stageM w (fun C_4 w => (pureH a0 (upto C_4 0) (fun v7_5 =>
 oH Try.prog (Go.Op.nilCheck (.tmp 0)) 0 [v7_5] (upto C_4 0) (fun v8_6 =>
 oH Try.prog (Go.Op.fieldAddr 54 (.tmp 0) 0) 0 [v8_6] (upto C_4 0) (fun v9_7 =>
 oH Try.prog (Go.Op.load 50 (.tmp 0)) 50 [v9_7] (upto C_4 0) (fun v10_8 =>
 pureH a0 (upto C_4 1) (fun v12_9 =>
 oH Try.prog (Go.Op.nilCheck (.tmp 0)) 0 [v12_9] (upto C_4 1) (fun v13_10 =>
 oH Try.prog (Go.Op.fieldAddr 54 (.tmp 0) 1) 0 [v13_10] (upto C_4 1) (fun v14_11 =>
 oH Try.prog (Go.Op.load 52 (.tmp 0)) 52 [v14_11] (upto C_4 1) (fun v15_12 =>
 pureH a0 (upto C_4 2) (fun v17_13 =>
 oH Try.prog (Go.Op.nilCheck (.tmp 0)) 0 [v17_13] (upto C_4 2) (fun v18_14 =>
 oH Try.prog (Go.Op.fieldAddr 54 (.tmp 0) 2) 0 [v18_14] (upto C_4 2) (fun v19_15 =>
 oH Try.prog (Go.Op.load 51 (.tmp 0)) 51 [v19_15] (upto C_4 2) (fun v20_16 =>
 callM Try.prog 39 #[v10_8] (fun v11_17 w => C_4 1 w ∧ (
 callM Try.prog 40 #[v15_12] (fun v16_18 w => C_4 2 w ∧ (
 callM Try.prog 41 #[v20_16] (fun v21_19 w => C_4 3 w ∧ (
 oM Try.prog (Go.Op.fieldAddr 54 (.tmp 0) 0) 0 [v3_3] (fun v22_20 w => C_4 4 w ∧ (
 oM Try.prog (Go.Op.store 50 (.tmp 0) (.tmp 1)) 0 [v22_20, v11_17] (fun _ w => C_4 5 w ∧ (
 oM Try.prog (Go.Op.fieldAddr 54 (.tmp 0) 1) 0 [v3_3] (fun v23_21 w => C_4 6 w ∧ (
 oM Try.prog (Go.Op.store 52 (.tmp 0) (.tmp 1)) 0 [v23_21, v16_18] (fun _ w => C_4 7 w ∧ (
 oM Try.prog (Go.Op.fieldAddr 54 (.tmp 0) 2) 0 [v3_3] (fun v24_22 w => C_4 8 w ∧ (
 oM Try.prog (Go.Op.store 51 (.tmp 0) (.tmp 1)) 0 [v24_22, v21_19] (fun _ w => C_4 9 w ∧ (
 K v3_3 w)) w)) w)) w)) w)) w)) w)) w)) w)) w))))))))))))))) w) w) w) w
theorem sh_17_eq (a0 : Value) (K : Value → World → Prop) (w : World) : sh_17 a0 K w = code Try.prog (fun _ => 3) 25 (Try.f17.body.getD .skip) (slotsAt [a0]) (retK Try.prog [.tmp 2] K) w := by kernel_rfl
theorem sh_17_ok {a0 : Value} {K : Value → World → Prop} {w : World} (h : sh_17 a0 K w) : callM Try.prog 17 #[a0] K w :=
  calls_of_code (fun _ => 3) (fn := Try.f17) (rs := [.tmp 2]) Try.func17 rfl rfl (by kernel_rfl) (Nat.le_of_ble_eq_true rfl) ((sh_17_eq a0 K w).mp h)

/-- (*cloak/base.Disk).Sync -/
def sh_18 (a0 : Value) (a1 : Value) (K : Value → World → Prop) (w : World) : Prop :=
 joinM (fun M_1 => (callM Try.prog 42 #[a0] (fun v7_3 w =>
 condM v7_3
 (oM Try.prog (Go.Op.nilCheck (.tmp 0)) 0 [a0] (fun v10_4 w =>
 oM Try.prog (Go.Op.fieldAddr 54 (.tmp 0) 6) 0 [v10_4] (fun v11_5 w =>
 oM Try.prog (Go.Op.load 31 (.tmp 0)) 31 [v11_5] (fun v12_6 w =>
 callM Try.prog 24 #[a0, v12_6] (fun v13_7 w =>
 M_1 [] w) w) w) w) w)
 (M_1 [] w)) w))
 (fun l_2 u_l_2 w => (callM Try.prog 43 #[a0, a1] (fun v16_8 w =>
 oM Try.prog (Go.Op.binOp Go.BinOp.neq 29 (.tmp 0) (.const (.int .i64 0)) 29) 4 [v16_8] (fun v18_9 w =>
 condM v18_9
 (K v16_8 w)
 (oM Try.prog (Go.Op.nilCheck (.tmp 0)) 0 [a0] (fun v21_10 w =>
 oM Try.prog (Go.Op.fieldAddr 54 (.tmp 0) 3) 0 [v21_10] (fun v22_11 w =>
 oM Try.prog (Go.Op.load 3 (.tmp 0)) 3 [v22_11] (fun v23_12 w =>
 oM Try.prog (Go.Op.binOp Go.BinOp.gtr 3 (.tmp 0) (.tmp 1) 3) 4 [v23_12, (.int .i64 0)] (fun v24_13 w =>
 condM v24_13
 (oM Try.prog (Go.Op.nilCheck (.tmp 0)) 0 [a0] (fun v26_14 w =>
 oM Try.prog (Go.Op.fieldAddr 54 (.tmp 0) 3) 0 [v26_14] (fun v27_15 w =>
 oM Try.prog (Go.Op.load 3 (.tmp 0)) 3 [v27_15] (fun v28_16 w =>
 oM Try.prog (Go.Op.binOp Go.BinOp.sub 3 (.tmp 0) (.tmp 1) 3) 3 [v28_16, (.int .i64 1)] (fun v29_17 w =>
 oM Try.prog (Go.Op.nilCheck (.tmp 0)) 0 [a0] (fun v30_18 w =>
 oM Try.prog (Go.Op.fieldAddr 54 (.tmp 0) 3) 0 [v30_18] (fun v31_19 w =>
 oM Try.prog (Go.Op.store 3 (.tmp 0) (.tmp 1)) 0 [v31_19, v29_17] (fun _ w =>
 K (.int .i64 9) w) w) w) w) w) w) w) w)
 (oM Try.prog (Go.Op.nilCheck (.tmp 0)) 0 [a0] (fun v35_20 w =>
 oM Try.prog (Go.Op.fieldAddr 54 (.tmp 0) 0) 0 [v35_20] (fun v36_21 w =>
 oM Try.prog (Go.Op.load 50 (.tmp 0)) 50 [v36_21] (fun v37_22 w =>
 oM Try.prog (Go.Op.lookup 50 (.tmp 0) (.tmp 1) false) 62 [v37_22, a1] (fun v39_23 w =>
 oM Try.prog (Go.Op.field 62 (.tmp 0) 0) 9 [v39_23] (fun v40_24 w =>
 callM Try.prog 44 #[a0, a1, v40_24] (fun v41_25 w =>
 K (.int .i64 0) w) w) w) w) w) w) w)) w) w) w) w)) w) w))
theorem sh_18_eq (a0 : Value) (a1 : Value) (K : Value → World → Prop) (w : World) : sh_18 a0 a1 K w = code Try.prog (fun _ => 0) 42 (Try.f18.body.getD .skip) (slotsAt [a0, a1]) (retK Try.prog [.tmp 4] K) w := by kernel_rfl
theorem sh_18_ok {a0 a1 : Value} {K : Value → World → Prop} {w : World} (h : sh_18 a0 a1 K w) : callM Try.prog 18 #[a0, a1] K w :=
  calls_of_code (fun _ => 0) (fn := Try.f18) (rs := [.tmp 4]) Try.func18 rfl rfl (by kernel_rfl) (Nat.le_of_ble_eq_true rfl) ((sh_18_eq a0 a1 K w).mp h)

/-- (*cloak/base.Disk).Read -/
def sh_19 (a0 : Value) (a1 : Value) (a2 : Value) (a3 : Value) (K : Value → World → Prop) (w : World) : Prop :=
 callM Try.prog 43 #[a0, a1] (fun v14_1 w =>
 oM Try.prog (Go.Op.binOp Go.BinOp.neq 29 (.tmp 0) (.const (.int .i64 0)) 29) 4 [v14_1] (fun v16_2 w =>
 condM v16_2
 (K (.tuple #[(.string ⟨#[]⟩), v14_1]) w)
 (oM Try.prog (Go.Op.binOp Go.BinOp.lss 3 (.tmp 0) (.tmp 1) 3) 4 [a2, (.int .i64 0)] (fun v19_3 w =>
 gdM (gd v19_3 false) (pureM a3) (fun v21_4 w =>
 gdM (gd v19_3 false) (oM Try.prog (Go.Op.binOp Go.BinOp.lss 3 (.tmp 0) (.tmp 1) 3) 4 [v21_4, (.int .i64 0)]) (fun v22_5 w =>
 oM Try.prog (Go.Op.pick (.tmp 0) (.tmp 1) (.tmp 2)) 4 [v19_3, (.bool true), v22_5] (fun v23_6 w =>
 condM v23_6
 (K (.tuple #[(.string ⟨#[]⟩), (.int .i64 1)]) w)
 (oM Try.prog (Go.Op.nilCheck (.tmp 0)) 0 [a0] (fun v25_7 w =>
 oM Try.prog (Go.Op.fieldAddr 54 (.tmp 0) 0) 0 [v25_7] (fun v26_8 w =>
 oM Try.prog (Go.Op.load 50 (.tmp 0)) 50 [v26_8] (fun v27_9 w =>
 oM Try.prog (Go.Op.lookup 50 (.tmp 0) (.tmp 1) false) 62 [v27_9, a1] (fun v29_10 w =>
 oM Try.prog (Go.Op.field 62 (.tmp 0) 0) 9 [v29_10] (fun v30_11 w =>
 oM Try.prog (Go.Op.call (Go.Call.mk (Go.Callee.builtin Go.Builtin.len) #[(.tmp 0)] #[9])) 3 [v30_11] (fun v34_12 w =>
 oM Try.prog (Go.Op.call (Go.Call.mk (Go.Callee.builtin Go.Builtin.min) #[(.tmp 0), (.tmp 1)] #[3, 3])) 3 [a2, v34_12] (fun v35_13 w =>
 oM Try.prog (Go.Op.slice 9 (.tmp 0) (some (.tmp 1)) none none) 9 [v30_11, v35_13] (fun v36_14 w =>
 oM Try.prog (Go.Op.call (Go.Call.mk (Go.Callee.builtin Go.Builtin.len) #[(.tmp 0)] #[9])) 3 [v36_14] (fun v40_15 w =>
 oM Try.prog (Go.Op.call (Go.Call.mk (Go.Callee.builtin Go.Builtin.min) #[(.tmp 0), (.tmp 1)] #[3, 3])) 3 [a3, v40_15] (fun v41_16 w =>
 oM Try.prog (Go.Op.slice 9 (.tmp 0) none (some (.tmp 1)) none) 9 [v36_14, v41_16] (fun v42_17 w =>
 K (.tuple #[v42_17, (.int .i64 0)]) w) w) w) w) w) w) w) w) w) w) w) w)) w) w) w) w)) w) w
theorem sh_19_eq (a0 : Value) (a1 : Value) (a2 : Value) (a3 : Value) (K : Value → World → Prop) (w : World) : sh_19 a0 a1 a2 a3 K w = code Try.prog (fun _ => 0) 43 (Try.f19.body.getD .skip) (slotsAt [a0, a1, a2, a3]) (retK Try.prog [.tmp 8, .tmp 9] K) w := by kernel_rfl
theorem sh_19_ok {a0 a1 a2 a3 : Value} {K : Value → World → Prop} {w : World} (h : sh_19 a0 a1 a2 a3 K w) : callM Try.prog 19 #[a0, a1, a2, a3] K w :=
  calls_of_code (fun _ => 0) (fn := Try.f19) (rs := [.tmp 8, .tmp 9]) Try.func19 rfl rfl (by kernel_rfl) (Nat.le_of_ble_eq_true rfl) ((sh_19_eq a0 a1 a2 a3 K w).mp h)

/-- (*cloak/cloakref01.Disk).Read -/
def sh_20 (a0 : Value) (a1 : Value) (a2 : Value) (a3 : Value) (K : Value → World → Prop) (w : World) : Prop :=
 callM Try.prog 45 #[a0, a1] (fun v14_1 w =>
 oM Try.prog (Go.Op.binOp Go.BinOp.neq 29 (.tmp 0) (.const (.int .i64 0)) 29) 4 [v14_1] (fun v16_2 w =>
 condM v16_2
 (K (.tuple #[(.string ⟨#[]⟩), v14_1]) w)
 (oM Try.prog (Go.Op.binOp Go.BinOp.lss 3 (.tmp 0) (.tmp 1) 3) 4 [a2, (.int .i64 0)] (fun v19_3 w =>
 gdM (gd v19_3 false) (pureM a3) (fun v21_4 w =>
 gdM (gd v19_3 false) (oM Try.prog (Go.Op.binOp Go.BinOp.lss 3 (.tmp 0) (.tmp 1) 3) 4 [v21_4, (.int .i64 0)]) (fun v22_5 w =>
 oM Try.prog (Go.Op.pick (.tmp 0) (.tmp 1) (.tmp 2)) 4 [v19_3, (.bool true), v22_5] (fun v23_6 w =>
 condM v23_6
 (K (.tuple #[(.string ⟨#[]⟩), (.int .i64 1)]) w)
 (callM Try.prog 38 #[a0, a1] (fun v26_7 w =>
 oM Try.prog (Go.Op.field 64 (.tmp 0) 1) 9 [v26_7] (fun v27_8 w =>
 oM Try.prog (Go.Op.call (Go.Call.mk (Go.Callee.builtin Go.Builtin.len) #[(.tmp 0)] #[9])) 3 [v27_8] (fun v30_9 w =>
 oM Try.prog (Go.Op.binOp Go.BinOp.geq 3 (.tmp 0) (.tmp 1) 3) 4 [a2, v30_9] (fun v31_10 w =>
 condM v31_10
 (K (.tuple #[(.string ⟨#[]⟩), (.int .i64 0)]) w)
 (oM Try.prog (Go.Op.call (Go.Call.mk (Go.Callee.builtin Go.Builtin.len) #[(.tmp 0)] #[9])) 3 [v27_8] (fun v37_11 w =>
 oM Try.prog (Go.Op.binOp Go.BinOp.sub 3 (.tmp 0) (.tmp 1) 3) 3 [v37_11, a2] (fun v39_12 w =>
 oM Try.prog (Go.Op.call (Go.Call.mk (Go.Callee.builtin Go.Builtin.min) #[(.tmp 0), (.tmp 1)] #[3, 3])) 3 [a3, v39_12] (fun v40_13 w =>
 oM Try.prog (Go.Op.binOp Go.BinOp.add 3 (.tmp 0) (.tmp 1) 3) 3 [a2, v40_13] (fun v41_14 w =>
 oM Try.prog (Go.Op.slice 9 (.tmp 0) (some (.tmp 1)) (some (.tmp 2)) none) 9 [v27_8, a2, v41_14] (fun v42_15 w =>
 K (.tuple #[v42_15, (.int .i64 0)]) w) w) w) w) w) w)) w) w) w) w)) w) w) w) w)) w) w
theorem sh_20_eq (a0 : Value) (a1 : Value) (a2 : Value) (a3 : Value) (K : Value → World → Prop) (w : World) : sh_20 a0 a1 a2 a3 K w = code Try.prog (fun _ => 0) 43 (Try.f20.body.getD .skip) (slotsAt [a0, a1, a2, a3]) (retK Try.prog [.tmp 8, .tmp 9] K) w := by kernel_rfl
theorem sh_20_ok {a0 a1 a2 a3 : Value} {K : Value → World → Prop} {w : World} (h : sh_20 a0 a1 a2 a3 K w) : callM Try.prog 20 #[a0, a1, a2, a3] K w :=
  calls_of_code (fun _ => 0) (fn := Try.f20) (rs := [.tmp 8, .tmp 9]) Try.func20 rfl rfl (by kernel_rfl) (Nat.le_of_ble_eq_true rfl) ((sh_20_eq a0 a1 a2 a3 K w).mp h)

/-- cloak/cloaklaw01.played -/
def sh_21 (a0 : Value) (K : Value → World → Prop) (w : World) : Prop :=
 callM Try.prog 9 #[] (fun v5_1 w =>
 loopM [(.int .i64 0)] w (fun J_2 m_3 l_4 u_l_4 w0_l_4 => (fun w => (
 oM Try.prog (Go.Op.call (Go.Call.mk (Go.Callee.builtin Go.Builtin.len) #[(.tmp 0)] #[22])) 3 [a0] (fun v8_5 w =>
 oM Try.prog (Go.Op.binOp Go.BinOp.lss 3 (.tmp 0) (.tmp 1) 3) 4 [(l_4.getD 0 undef), v8_5] (fun v9_6 w =>
 gdM (gd v9_6 true) (pureM v5_1) (fun v11_7 w =>
 gdM (gd v9_6 true) (oM Try.prog (Go.Op.binOp Go.BinOp.neq 25 (.tmp 0) (.const (.pointer none)) 25) 4 [v11_7]) (fun v12_8 w =>
 oM Try.prog (Go.Op.pick (.tmp 0) (.tmp 1) (.tmp 2)) 4 [v9_6, v12_8, (.bool false)] (fun v13_9 w =>
 condM v13_9
 (oM Try.prog (Go.Op.indexAddr 22 (.tmp 0) (.tmp 1)) 0 [a0, (l_4.getD 0 undef)] (fun v19_10 w =>
 oM Try.prog (Go.Op.load 33 (.tmp 0)) 33 [v19_10] (fun v20_11 w =>
 callM Try.prog 11 #[v5_1, v20_11] (fun v21_12 w =>
 oM Try.prog (Go.Op.binOp Go.BinOp.add 3 (.tmp 0) (.tmp 1) 3) 3 [(l_4.getD 0 undef), (.int .i64 1)] (fun v15_13 w =>
 J_2 [v15_13] w ∧ m_3 [v15_13] w < m_3 l_4 w0_l_4) w) w) w) w)
 (K v5_1 w)) w) w) w) w) w)) w0_l_4)) w
theorem sh_21_eq (a0 : Value) (K : Value → World → Prop) (w : World) : sh_21 a0 K w = code Try.prog (fun _ => 0) 23 (Try.f21.body.getD .skip) (slotsAt [a0]) (retK Try.prog [.tmp 2] K) w := by kernel_rfl
theorem sh_21_ok {a0 : Value} {K : Value → World → Prop} {w : World} (h : sh_21 a0 K w) : callM Try.prog 21 #[a0] K w :=
  calls_of_code (fun _ => 0) (fn := Try.f21) (rs := [.tmp 2]) Try.func21 rfl rfl (by kernel_rfl) (Nat.le_of_ble_eq_true rfl) ((sh_21_eq a0 K w).mp h)

/-- cloak/cloaklaw01.after -/
def sh_22 (a0 : Value) (a1 : Value) (a2 : Value) (K : Value → World → Prop) (w : World) : Prop :=
 callM Try.prog 17 #[a0] (fun v12_1 w =>
 oM Try.prog (Go.Op.binOp Go.BinOp.eql 25 (.tmp 0) (.const (.pointer none)) 25) 4 [v12_1] (fun v14_2 w =>
 condM v14_2
 (K (.tuple #[(.string ⟨#[]⟩), (.bool false)]) w)
 (callM Try.prog 24 #[v12_1, a2] (fun v17_3 w =>
 callM Try.prog 25 #[v12_1] (fun v19_4 w =>
 callM Try.prog 19 #[v12_1, a1, (.int .i64 0), (.int .i64 16777216)] (fun v23_5 w =>
 oM Try.prog (Go.Op.extract (.tmp 0) 0) 9 [v23_5] (fun v24_6 w =>
 oM Try.prog (Go.Op.extract (.tmp 0) 1) 29 [v23_5] (fun v25_7 w =>
 oM Try.prog (Go.Op.binOp Go.BinOp.eql 29 (.tmp 0) (.const (.int .i64 0)) 29) 4 [v25_7] (fun v28_8 w =>
 K (.tuple #[v24_6, v28_8]) w) w) w) w) w) w) w)) w) w
theorem sh_22_eq (a0 : Value) (a1 : Value) (a2 : Value) (K : Value → World → Prop) (w : World) : sh_22 a0 a1 a2 K w = code Try.prog (fun _ => 0) 29 (Try.f22.body.getD .skip) (slotsAt [a0, a1, a2]) (retK Try.prog [.tmp 6, .tmp 7] K) w := by kernel_rfl
theorem sh_22_ok {a0 a1 a2 : Value} {K : Value → World → Prop} {w : World} (h : sh_22 a0 a1 a2 K w) : callM Try.prog 22 #[a0, a1, a2] K w :=
  calls_of_code (fun _ => 0) (fn := Try.f22) (rs := [.tmp 6, .tmp 7]) Try.func22 rfl rfl (by kernel_rfl) (Nat.le_of_ble_eq_true rfl) ((sh_22_eq a0 a1 a2 K w).mp h)

/-- cloak/cloaklaw01.byteAt -/
def sh_23 (a0 : Value) (a1 : Value) (K : Value → World → Prop) (w : World) : Prop :=
 oM Try.prog (Go.Op.binOp Go.BinOp.lss 3 (.tmp 0) (.tmp 1) 3) 4 [a1, (.int .i64 0)] (fun v6_1 w =>
 gdM (gd v6_1 false) (pureM a1) (fun v8_2 w =>
 gdM (gd v6_1 false) (pureM a0) (fun v9_3 w =>
 gdM (gd v6_1 false) (oM Try.prog (Go.Op.call (Go.Call.mk (Go.Callee.builtin Go.Builtin.len) #[(.tmp 0)] #[9])) 3 [v9_3]) (fun v10_4 w =>
 gdM (gd v6_1 false) (oM Try.prog (Go.Op.binOp Go.BinOp.geq 3 (.tmp 0) (.tmp 1) 3) 4 [v8_2, v10_4]) (fun v11_5 w =>
 oM Try.prog (Go.Op.pick (.tmp 0) (.tmp 1) (.tmp 2)) 4 [v6_1, (.bool true), v11_5] (fun v12_6 w =>
 condM v12_6
 (K (.int .u8 0) w)
 (oM Try.prog (Go.Op.index 9 (.tmp 0) (.tmp 1)) 5 [a0, a1] (fun v15_7 w =>
 K v15_7 w) w)) w) w) w) w) w) w
theorem sh_23_eq (a0 : Value) (a1 : Value) (K : Value → World → Prop) (w : World) : sh_23 a0 a1 K w = code Try.prog (fun _ => 0) 16 (Try.f23.body.getD .skip) (slotsAt [a0, a1]) (retK Try.prog [.tmp 4] K) w := by kernel_rfl
theorem sh_23_ok {a0 a1 : Value} {K : Value → World → Prop} {w : World} (h : sh_23 a0 a1 K w) : callM Try.prog 23 #[a0, a1] K w :=
  calls_of_code (fun _ => 0) (fn := Try.f23) (rs := [.tmp 4]) Try.func23 rfl rfl (by kernel_rfl) (Nat.le_of_ble_eq_true rfl) ((sh_23_eq a0 a1 K w).mp h)

/-- (*cloak/base.Disk).Crash -/
def sh_24 (a0 : Value) (a1 : Value) (K : Value → World → Prop) (w : World) : Prop :=
 oM Try.prog (Go.Op.nilCheck (.tmp 0)) 0 [a0] (fun v11_1 w =>
 oM Try.prog (Go.Op.fieldAddr 54 (.tmp 0) 4) 0 [v11_1] (fun v12_2 w =>
 oM Try.prog (Go.Op.load 4 (.tmp 0)) 4 [v12_2] (fun v13_3 w =>
 condM v13_3
 (K (.tuple #[]) w)
 (oM Try.prog (Go.Op.nilCheck (.tmp 0)) 0 [a0] (fun v16_4 w =>
 oM Try.prog (Go.Op.fieldAddr 54 (.tmp 0) 4) 0 [v16_4] (fun v17_5 w =>
 oM Try.prog (Go.Op.store 4 (.tmp 0) (.tmp 1)) 0 [v17_5, (.bool true)] (fun _ w =>
 oM Try.prog (Go.Op.nilCheck (.tmp 0)) 0 [a0] (fun v18_6 w =>
 oM Try.prog (Go.Op.fieldAddr 54 (.tmp 0) 5) 0 [v18_6] (fun v19_7 w =>
 oM Try.prog (Go.Op.store 3 (.tmp 0) (.tmp 1)) 0 [v19_7, (.int .i64 0)] (fun _ w =>
 oM Try.prog (Go.Op.nilCheck (.tmp 0)) 0 [a0] (fun v21_8 w =>
 oM Try.prog (Go.Op.fieldAddr 54 (.tmp 0) 1) 0 [v21_8] (fun v22_9 w =>
 oM Try.prog (Go.Op.load 52 (.tmp 0)) 52 [v22_9] (fun v23_10 w =>
 oM Try.prog (Go.Op.call (Go.Call.mk (Go.Callee.builtin Go.Builtin.len) #[(.tmp 0)] #[52])) 3 [v23_10] (fun v24_11 w =>
 loopM [undef, undef, (.int .i64 0)] w (fun J_12 m_13 l_14 u_l_14 w0_l_14 => (fun w => (
 oM Try.prog (Go.Op.binOp Go.BinOp.lss 3 (.tmp 0) (.tmp 1) 3) 0 [(l_14.getD 2 undef), v24_11] (fun v26_15 w =>
 condM v26_15
 (joinM (fun M_16 => (oM Try.prog (Go.Op.indexAddr 52 (.tmp 0) (.tmp 1)) 0 [v23_10, (l_14.getD 2 undef)] (fun v28_18 w =>
 oM Try.prog (Go.Op.load 69 (.tmp 0)) 69 [v28_18] (fun v29_19 w =>
 oM Try.prog (Go.Op.alloc 69) 0 [] (fun v5_20 w =>
 oM Try.prog (Go.Op.store 69 (.tmp 0) (.tmp 1)) 0 [v5_20, v29_19] (fun _ w =>
 stageM w (fun C_21 w => (pureH a0 (upto C_21 1) (fun v30_22 =>
 oH Try.prog (Go.Op.nilCheck (.tmp 0)) 0 [v30_22] (upto C_21 1) (fun v31_23 =>
 oH Try.prog (Go.Op.fieldAddr 54 (.tmp 0) 0) 0 [v31_23] (upto C_21 1) (fun v32_24 =>
 oH Try.prog (Go.Op.load 50 (.tmp 0)) 50 [v32_24] (upto C_21 1) (fun v33_25 =>
 oH Try.prog (Go.Op.fieldAddr 69 (.tmp 0) 0) 0 [v5_20] (upto C_21 1) (fun v34_26 =>
 oH Try.prog (Go.Op.load 3 (.tmp 0)) 3 [v34_26] (upto C_21 1) (fun v35_27 =>
 oH Try.prog (Go.Op.lookup 50 (.tmp 0) (.tmp 1) false) 62 [v33_25, v35_27] (upto C_21 1) (fun v36_28 =>
 oH Try.prog (Go.Op.fieldAddr 69 (.tmp 0) 1) 0 [v5_20] (upto C_21 2) (fun v37_29 =>
 oH Try.prog (Go.Op.load 3 (.tmp 0)) 3 [v37_29] (upto C_21 2) (fun v38_30 =>
 oH Try.prog (Go.Op.binOp Go.BinOp.mul 3 (.tmp 0) (.tmp 1) 3) 3 [v38_30, (.int .i64 64)] (upto C_21 2) (fun v39_31 =>
 oM Try.prog (Go.Op.alloc 62) 0 [] (fun v6_32 w => C_21 1 w ∧ (
 oM Try.prog (Go.Op.store 62 (.tmp 0) (.tmp 1)) 0 [v6_32, v36_28] (fun _ w => C_21 2 w ∧ (
 C_21 3 w ∧ (oM Try.prog (Go.Op.call (Go.Call.mk (Go.Callee.builtin Go.Builtin.len) #[(.tmp 0)] #[31])) 3 [a1] (fun v41_34 w =>
 oM Try.prog (Go.Op.binOp Go.BinOp.eql 3 (.tmp 0) (.const (.int .i64 0)) 3) 4 [v41_34] (fun v42_35 w =>
 gdM (gd v42_35 false) (pureM a1) (fun v44_36 w =>
 gdM (gd v42_35 false) (pureM (l_14.getD 2 undef)) (fun v45_37 w =>
 gdM (gd v42_35 false) (pureM a1) (fun v46_38 w =>
 gdM (gd v42_35 false) (oM Try.prog (Go.Op.call (Go.Call.mk (Go.Callee.builtin Go.Builtin.len) #[(.tmp 0)] #[31])) 3 [v46_38]) (fun v47_39 w =>
 gdM (gd v42_35 false) (oM Try.prog (Go.Op.binOp Go.BinOp.rem 3 (.tmp 0) (.tmp 1) 3) 3 [v45_37, v47_39]) (fun v48_40 w =>
 gdM (gd v42_35 false) (oM Try.prog (Go.Op.indexAddr 31 (.tmp 0) (.tmp 1)) 0 [v44_36, v48_40]) (fun v49_41 w =>
 gdM (gd v42_35 false) (oM Try.prog (Go.Op.load 3 (.tmp 0)) 3 [v49_41]) (fun v50_42 w =>
 gdM (gd v42_35 false) (oM Try.prog (Go.Op.binOp Go.BinOp.and 3 (.tmp 0) (.tmp 1) 3) 3 [v50_42, (.int .i64 1)]) (fun v51_43 w =>
 gdM (gd v42_35 false) (oM Try.prog (Go.Op.binOp Go.BinOp.eql 3 (.tmp 0) (.const (.int .i64 0)) 3) 4 [v51_43]) (fun v52_44 w =>
 oM Try.prog (Go.Op.pick (.tmp 0) (.tmp 1) (.tmp 2)) 4 [v42_35, (.bool true), v52_44] (fun v53_45 w =>
 gdM (gd v53_45 false) (pureM v39_31) (fun v55_46 w =>
 gdM (gd v53_45 false) (oM Try.prog (Go.Op.fieldAddr 62 (.tmp 0) 0) 0 [v6_32]) (fun v56_47 w =>
 gdM (gd v53_45 false) (oM Try.prog (Go.Op.load 9 (.tmp 0)) 9 [v56_47]) (fun v57_48 w =>
 gdM (gd v53_45 false) (oM Try.prog (Go.Op.call (Go.Call.mk (Go.Callee.builtin Go.Builtin.len) #[(.tmp 0)] #[9])) 3 [v57_48]) (fun v58_49 w =>
 gdM (gd v53_45 false) (oM Try.prog (Go.Op.binOp Go.BinOp.geq 3 (.tmp 0) (.tmp 1) 3) 4 [v55_46, v58_49]) (fun v59_50 w =>
 oM Try.prog (Go.Op.pick (.tmp 0) (.tmp 1) (.tmp 2)) 4 [v53_45, (.bool true), v59_50] (fun v60_51 w =>
 condM v60_51
 (M_16 [(l_14.getD 2 undef), v39_31] w)
 (stageM w (fun C_52 w => (oH Try.prog (Go.Op.fieldAddr 62 (.tmp 0) 1) 0 [v6_32] (upto C_52 0) (fun v61_53 =>
 oH Try.prog (Go.Op.load 9 (.tmp 0)) 9 [v61_53] (upto C_52 0) (fun v62_54 =>
 pureH v39_31 (upto C_52 0) (fun v63_55 =>
 oH Try.prog (Go.Op.fieldAddr 62 (.tmp 0) 0) 0 [v6_32] (upto C_52 0) (fun v64_56 =>
 oH Try.prog (Go.Op.load 9 (.tmp 0)) 9 [v64_56] (upto C_52 0) (fun v65_57 =>
 pureH v39_31 (upto C_52 0) (fun v66_58 =>
 pureH v39_31 (upto C_52 0) (fun v67_59 =>
 oH Try.prog (Go.Op.binOp Go.BinOp.add 3 (.tmp 0) (.tmp 1) 3) 3 [v67_59, (.int .i64 64)] (upto C_52 0) (fun v68_60 =>
 oH Try.prog (Go.Op.fieldAddr 62 (.tmp 0) 0) 0 [v6_32] (upto C_52 0) (fun v69_61 =>
 oH Try.prog (Go.Op.load 9 (.tmp 0)) 9 [v69_61] (upto C_52 0) (fun v70_62 =>
 oH Try.prog (Go.Op.call (Go.Call.mk (Go.Callee.builtin Go.Builtin.len) #[(.tmp 0)] #[9])) 3 [v70_62] (upto C_52 0) (fun v71_63 =>
 oH Try.prog (Go.Op.call (Go.Call.mk (Go.Callee.builtin Go.Builtin.min) #[(.tmp 0), (.tmp 1)] #[3, 3])) 3 [v68_60, v71_63] (upto C_52 0) (fun v72_64 =>
 oH Try.prog (Go.Op.slice 9 (.tmp 0) (some (.tmp 1)) (some (.tmp 2)) none) 9 [v65_57, v66_58, v72_64] (upto C_52 0) (fun v73_65 =>
 callM Try.prog 46 #[v62_54, v63_55, v73_65] (fun v74_66 w => C_52 1 w ∧ (
 oM Try.prog (Go.Op.fieldAddr 62 (.tmp 0) 1) 0 [v6_32] (fun v75_67 w => C_52 2 w ∧ (
 oM Try.prog (Go.Op.store 9 (.tmp 0) (.tmp 1)) 0 [v75_67, v74_66] (fun _ w => C_52 3 w ∧ (
 stageM w (fun C_68 w => (pureH a0 (upto C_68 0) (fun v76_69 =>
 oH Try.prog (Go.Op.nilCheck (.tmp 0)) 0 [v76_69] (upto C_68 0) (fun v77_70 =>
 oH Try.prog (Go.Op.fieldAddr 54 (.tmp 0) 0) 0 [v77_70] (upto C_68 0) (fun v78_71 =>
 oH Try.prog (Go.Op.load 50 (.tmp 0)) 50 [v78_71] (upto C_68 0) (fun v79_72 =>
 oH Try.prog (Go.Op.fieldAddr 69 (.tmp 0) 0) 0 [v5_20] (upto C_68 0) (fun v80_73 =>
 oH Try.prog (Go.Op.load 3 (.tmp 0)) 3 [v80_73] (upto C_68 0) (fun v81_74 =>
 oH Try.prog (Go.Op.load 62 (.tmp 0)) 62 [v6_32] (upto C_68 0) (fun v82_75 =>
 oM Try.prog (Go.Op.mapUpdate 50 (.tmp 0) (.tmp 1) (.tmp 2)) 0 [v79_72, v81_74, v82_75] (fun _ w => C_68 1 w ∧ (
 M_16 [(l_14.getD 2 undef), v39_31] w)) w))))))))))) w)) w)) w))))))))))))))))) w) w) w) w) w) w) w) w) w) w) w) w) w) w) w) w) w) w))) w)) w))))))))))))) w) w) w) w))
 (fun l_17 u_l_17 w => (oM Try.prog (Go.Op.binOp Go.BinOp.add 3 (.tmp 0) (.tmp 1) 3) 3 [(l_14.getD 2 undef), (.int .i64 1)] (fun v83_76 w =>
 J_12 [(l_17.getD 0 undef), (l_17.getD 1 undef), v83_76] w ∧ m_13 [(l_17.getD 0 undef), (l_17.getD 1 undef), v83_76] w < m_13 l_14 w0_l_14) w)))
 (oM Try.prog (Go.Op.nilCheck (.tmp 0)) 0 [a0] (fun v85_77 w =>
 oM Try.prog (Go.Op.fieldAddr 54 (.tmp 0) 0) 0 [v85_77] (fun v86_78 w =>
 oM Try.prog (Go.Op.load 50 (.tmp 0)) 50 [v86_78] (fun v87_79 w =>
 oM Try.prog (Go.Op.range 50 (.tmp 0)) 0 [v87_79] (fun v88_80 w =>
 loopM [undef] w (fun J_81 m_82 l_83 u_l_83 w0_l_83 => (fun w => (
 oM Try.prog (Go.Op.next (.tmp 0) false) 0 [v88_80] (fun v89_84 w =>
 oM Try.prog (Go.Op.extract (.tmp 0) 0) 4 [v89_84] (fun v90_85 w =>
 condM v90_85
 (oM Try.prog (Go.Op.entry (.tmp 0)) 0 [v88_80] (fun v91_86 w =>
 oM Try.prog (Go.Op.extract (.tmp 0) 0) 3 [v91_86] (fun v92_87 w =>
 oM Try.prog (Go.Op.extract (.tmp 0) 1) 62 [v91_86] (fun v93_88 w =>
 oM Try.prog (Go.Op.alloc 62) 0 [] (fun v9_89 w =>
 oM Try.prog (Go.Op.store 62 (.tmp 0) (.tmp 1)) 0 [v9_89, v93_88] (fun _ w =>
 stageM w (fun C_90 w => (pureH a0 (upto C_90 1) (fun v94_91 =>
 oH Try.prog (Go.Op.nilCheck (.tmp 0)) 0 [v94_91] (upto C_90 1) (fun v95_92 =>
 oH Try.prog (Go.Op.fieldAddr 54 (.tmp 0) 0) 0 [v95_92] (upto C_90 1) (fun v96_93 =>
 oH Try.prog (Go.Op.load 50 (.tmp 0)) 50 [v96_93] (upto C_90 1) (fun v97_94 =>
 pureH v92_87 (upto C_90 1) (fun v98_95 =>
 oH Try.prog (Go.Op.fieldAddr 62 (.tmp 0) 1) 0 [v9_89] (upto C_90 0) (fun v99_96 =>
 oH Try.prog (Go.Op.load 9 (.tmp 0)) 9 [v99_96] (upto C_90 0) (fun v100_97 =>
 oH Try.prog (Go.Op.fieldAddr 62 (.tmp 0) 1) 0 [v9_89] (upto C_90 0) (fun v101_98 =>
 oH Try.prog (Go.Op.load 9 (.tmp 0)) 9 [v101_98] (upto C_90 0) (fun v102_99 =>
 oM Try.prog (Go.Op.build 62 #[(0, (.tmp 0)), (1, (.tmp 1))]) 62 [v100_97, v102_99] (fun v103_100 w => C_90 1 w ∧ (
 oM Try.prog (Go.Op.mapUpdate 50 (.tmp 0) (.tmp 1) (.tmp 2)) 0 [v97_94, v98_95, v103_100] (fun _ w => C_90 2 w ∧ (
 J_81 [v92_87] w ∧ m_82 [v92_87] w < m_82 l_83 w0_l_83)) w)) w)))))))))))) w) w) w) w) w)
 (oM Try.prog (Go.Op.makeMap 51 none) 51 [] (fun v106_101 w =>
 oM Try.prog (Go.Op.nilCheck (.tmp 0)) 0 [a0] (fun v107_102 w =>
 oM Try.prog (Go.Op.fieldAddr 54 (.tmp 0) 1) 0 [v107_102] (fun v108_103 w =>
 oM Try.prog (Go.Op.store 52 (.tmp 0) (.tmp 1)) 0 [v108_103, (.slice none 0 0)] (fun _ w =>
 oM Try.prog (Go.Op.nilCheck (.tmp 0)) 0 [a0] (fun v109_104 w =>
 oM Try.prog (Go.Op.fieldAddr 54 (.tmp 0) 2) 0 [v109_104] (fun v110_105 w =>
 oM Try.prog (Go.Op.store 51 (.tmp 0) (.tmp 1)) 0 [v110_105, v106_101] (fun _ w =>
 K (.tuple #[]) w) w) w) w) w) w) w) w)) w) w)) w0_l_83)) w) w) w) w)) w)) w0_l_14)) w) w) w) w) w) w) w) w) w) w)) w) w) w
theorem sh_24_eq (a0 : Value) (a1 : Value) (K : Value → World → Prop) (w : World) : sh_24 a0 a1 K w = code Try.prog (fun _ => 3) 111 (Try.f24.body.getD .skip) (slotsAt [a0, a1]) (retK Try.prog [] K) w := by kernel_rfl
theorem sh_24_ok {a0 a1 : Value} {K : Value → World → Prop} {w : World} (h : sh_24 a0 a1 K w) : callM Try.prog 24 #[a0, a1] K w :=
  calls_of_code (fun _ => 3) (fn := Try.f24) (rs := []) Try.func24 rfl rfl (by kernel_rfl) (Nat.le_of_ble_eq_true rfl) ((sh_24_eq a0 a1 K w).mp h)

/-- (*cloak/base.Disk).Start -/
def sh_25 (a0 : Value) (K : Value → World → Prop) (w : World) : Prop :=
 oM Try.prog (Go.Op.nilCheck (.tmp 0)) 0 [a0] (fun v3_1 w =>
 oM Try.prog (Go.Op.fieldAddr 54 (.tmp 0) 4) 0 [v3_1] (fun v4_2 w =>
 oM Try.prog (Go.Op.store 4 (.tmp 0) (.tmp 1)) 0 [v4_2, (.bool false)] (fun _ w =>
 K (.tuple #[]) w) w) w) w
theorem sh_25_eq (a0 : Value) (K : Value → World → Prop) (w : World) : sh_25 a0 K w = code Try.prog (fun _ => 0) 5 (Try.f25.body.getD .skip) (slotsAt [a0]) (retK Try.prog [] K) w := by kernel_rfl
theorem sh_25_ok {a0 : Value} {K : Value → World → Prop} {w : World} (h : sh_25 a0 K w) : callM Try.prog 25 #[a0] K w :=
  calls_of_code (fun _ => 0) (fn := Try.f25) (rs := []) Try.func25 rfl rfl (by kernel_rfl) (Nat.le_of_ble_eq_true rfl) ((sh_25_eq a0 K w).mp h)

/-- (*cloak/base.Disk).Arm -/
def sh_26 (a0 : Value) (a1 : Value) (a2 : Value) (K : Value → World → Prop) (w : World) : Prop :=
 oM Try.prog (Go.Op.call (Go.Call.mk (Go.Callee.builtin Go.Builtin.max) #[(.tmp 0), (.tmp 1)] #[3, 3])) 3 [a1, (.int .i64 0)] (fun v9_1 w =>
 callM Try.prog 47 #[a2] (fun v11_2 w =>
 oM Try.prog (Go.Op.nilCheck (.tmp 0)) 0 [a0] (fun v12_3 w =>
 oM Try.prog (Go.Op.fieldAddr 54 (.tmp 0) 5) 0 [v12_3] (fun v13_4 w =>
 oM Try.prog (Go.Op.store 3 (.tmp 0) (.tmp 1)) 0 [v13_4, v9_1] (fun _ w =>
 oM Try.prog (Go.Op.nilCheck (.tmp 0)) 0 [a0] (fun v14_5 w =>
 oM Try.prog (Go.Op.fieldAddr 54 (.tmp 0) 6) 0 [v14_5] (fun v15_6 w =>
 oM Try.prog (Go.Op.store 31 (.tmp 0) (.tmp 1)) 0 [v15_6, v11_2] (fun _ w =>
 K (.tuple #[]) w) w) w) w) w) w) w) w) w
theorem sh_26_eq (a0 : Value) (a1 : Value) (a2 : Value) (K : Value → World → Prop) (w : World) : sh_26 a0 a1 a2 K w = code Try.prog (fun _ => 0) 16 (Try.f26.body.getD .skip) (slotsAt [a0, a1, a2]) (retK Try.prog [] K) w := by kernel_rfl
theorem sh_26_ok {a0 a1 a2 : Value} {K : Value → World → Prop} {w : World} (h : sh_26 a0 a1 a2 K w) : callM Try.prog 26 #[a0, a1, a2] K w :=
  calls_of_code (fun _ => 0) (fn := Try.f26) (rs := []) Try.func26 rfl rfl (by kernel_rfl) (Nat.le_of_ble_eq_true rfl) ((sh_26_eq a0 a1 a2 K w).mp h)

/-- cloak/cloaklaw01.sameFiles -/
def sh_27 (a0 : Value) (a1 : Value) (a2 : Value) (K : Value → World → Prop) (w : World) : Prop :=
 callM Try.prog 13 #[a0] (fun v13_1 w =>
 callM Try.prog 13 #[a1] (fun v15_2 w =>
 oM Try.prog (Go.Op.binOp Go.BinOp.neq 4 (.tmp 0) (.tmp 1) 4) 4 [v13_1, v15_2] (fun v16_3 w =>
 condM v16_3
 (K (.bool false) w)
 (loopM [undef, undef, undef, undef, (.bool false), (.int .i64 0)] w (fun J_4 m_5 l_6 u_l_6 w0_l_6 => (fun w => (
 oM Try.prog (Go.Op.call (Go.Call.mk (Go.Callee.builtin Go.Builtin.len) #[(.tmp 0)] #[22])) 3 [a2] (fun v19_7 w =>
 oM Try.prog (Go.Op.binOp Go.BinOp.lss 3 (.tmp 0) (.tmp 1) 3) 4 [(l_6.getD 5 undef), v19_7] (fun v20_8 w =>
 condM v20_8
 (oM Try.prog (Go.Op.indexAddr 22 (.tmp 0) (.tmp 1)) 0 [a2, (l_6.getD 5 undef)] (fun v27_9 w =>
 oM Try.prog (Go.Op.fieldAddr 33 (.tmp 0) 1) 0 [v27_9] (fun v28_10 w =>
 oM Try.prog (Go.Op.load 3 (.tmp 0)) 3 [v28_10] (fun v29_11 w =>
 callM Try.prog 19 #[a0, v29_11, (.int .i64 0), (.int .i64 16777216)] (fun v30_12 w =>
 oM Try.prog (Go.Op.extract (.tmp 0) 0) 9 [v30_12] (fun v31_13 w =>
 oM Try.prog (Go.Op.extract (.tmp 0) 1) 29 [v30_12] (fun v32_14 w =>
 oM Try.prog (Go.Op.indexAddr 22 (.tmp 0) (.tmp 1)) 0 [a2, (l_6.getD 5 undef)] (fun v37_15 w =>
 oM Try.prog (Go.Op.fieldAddr 33 (.tmp 0) 1) 0 [v37_15] (fun v38_16 w =>
 oM Try.prog (Go.Op.load 3 (.tmp 0)) 3 [v38_16] (fun v39_17 w =>
 callM Try.prog 19 #[a1, v39_17, (.int .i64 0), (.int .i64 16777216)] (fun v40_18 w =>
 oM Try.prog (Go.Op.extract (.tmp 0) 0) 9 [v40_18] (fun v41_19 w =>
 oM Try.prog (Go.Op.extract (.tmp 0) 1) 29 [v40_18] (fun v42_20 w =>
 quietM w (fun C_21 => (oQ Try.prog (Go.Op.binOp Go.BinOp.neq 9 (.tmp 0) (.tmp 1) 9) 4 [v31_13, v41_19] C_21 (fun v45_22 =>
 gdQ (gd v45_22 false) (pureQ v32_14) C_21 (fun v47_23 =>
 gdQ (gd v45_22 false) (pureQ v42_20) C_21 (fun v48_24 =>
 gdQ (gd v45_22 false) (oQ Try.prog (Go.Op.binOp Go.BinOp.neq 29 (.tmp 0) (.tmp 1) 29) 4 [v47_23, v48_24]) C_21 (fun v49_25 =>
 oQ Try.prog (Go.Op.pick (.tmp 0) (.tmp 1) (.tmp 2)) 4 [v45_22, (.bool true), v49_25] C_21 (fun v50_26 =>
 gdQ (gd v50_26 false) (pureQ a0) C_21 (fun v52_27 =>
 gdQ (gd v50_26 false) (pureQ a2) C_21 (fun v53_28 =>
 gdQ (gd v50_26 false) (pureQ (l_6.getD 5 undef)) C_21 (fun v54_29 =>
 gdQ (gd v50_26 false) (oQ Try.prog (Go.Op.indexAddr 22 (.tmp 0) (.tmp 1)) 0 [v53_28, v54_29]) C_21 (fun v55_30 =>
 gdQ (gd v50_26 false) (oQ Try.prog (Go.Op.fieldAddr 33 (.tmp 0) 1) 0 [v55_30]) C_21 (fun v56_31 =>
 gdQ (gd v50_26 false) (oQ Try.prog (Go.Op.load 3 (.tmp 0)) 3 [v56_31]) C_21 (fun v57_32 =>
 gdQ (gd v50_26 false) (callQ Try.prog 15 #[v52_27, v57_32]) C_21 (fun v58_33 =>
 gdQ (gd v50_26 false) (pureQ a1) C_21 (fun v59_34 =>
 gdQ (gd v50_26 false) (pureQ a2) C_21 (fun v60_35 =>
 gdQ (gd v50_26 false) (pureQ (l_6.getD 5 undef)) C_21 (fun v61_36 =>
 gdQ (gd v50_26 false) (oQ Try.prog (Go.Op.indexAddr 22 (.tmp 0) (.tmp 1)) 0 [v60_35, v61_36]) C_21 (fun v62_37 =>
 gdQ (gd v50_26 false) (oQ Try.prog (Go.Op.fieldAddr 33 (.tmp 0) 1) 0 [v62_37]) C_21 (fun v63_38 =>
 gdQ (gd v50_26 false) (oQ Try.prog (Go.Op.load 3 (.tmp 0)) 3 [v63_38]) C_21 (fun v64_39 =>
 gdQ (gd v50_26 false) (callQ Try.prog 15 #[v59_34, v64_39]) C_21 (fun v65_40 =>
 gdQ (gd v50_26 false) (oQ Try.prog (Go.Op.binOp Go.BinOp.neq 3 (.tmp 0) (.tmp 1) 3) 4 [v58_33, v65_40]) C_21 (fun v66_41 =>
 oQ Try.prog (Go.Op.pick (.tmp 0) (.tmp 1) (.tmp 2)) 4 [v50_26, (.bool true), v66_41] C_21 (fun v67_42 =>
 ∀ w, C_21 w → (condM v67_42
 (K (.bool false) w)
 (oM Try.prog (Go.Op.binOp Go.BinOp.add 3 (.tmp 0) (.tmp 1) 3) 3 [(l_6.getD 5 undef), (.int .i64 1)] (fun v22_43 w =>
 J_4 [v31_13, v32_14, v41_19, v42_20, (l_6.getD 4 undef), v22_43] w ∧ m_5 [v31_13, v32_14, v41_19, v42_20, (l_6.getD 4 undef), v22_43] w < m_5 l_6 w0_l_6) w)))))))))))))))))))))))))) w) w) w) w) w) w) w) w) w) w) w) w)
 (K (.bool true) w)) w) w)) w0_l_6))) w) w) w
theorem sh_27_eq (a0 : Value) (a1 : Value) (a2 : Value) (K : Value → World → Prop) (w : World) : sh_27 a0 a1 a2 K w = code Try.prog (fun _ => 0) 68 (Try.f27.body.getD .skip) (slotsAt [a0, a1, a2]) (retK Try.prog [.tmp 6] K) w := by kernel_rfl
theorem sh_27_ok {a0 a1 a2 : Value} {K : Value → World → Prop} {w : World} (h : sh_27 a0 a1 a2 K w) : callM Try.prog 27 #[a0, a1, a2] K w :=
  calls_of_code (fun _ => 0) (fn := Try.f27) (rs := [.tmp 6]) Try.func27 rfl rfl (by kernel_rfl) (Nat.le_of_ble_eq_true rfl) ((sh_27_eq a0 a1 a2 K w).mp h)

/-- (*cloak/base.Disk).Write -/
def sh_28 (a0 : Value) (a1 : Value) (a2 : Value) (a3 : Value) (K : Value → World → Prop) (w : World) : Prop :=
 callM Try.prog 42 #[a0] (fun v12_1 w =>
 callM Try.prog 48 #[a0, a1, a2, a3] (fun v17_2 w =>
 condM v12_1
 (oM Try.prog (Go.Op.nilCheck (.tmp 0)) 0 [a0] (fun v21_3 w =>
 oM Try.prog (Go.Op.fieldAddr 54 (.tmp 0) 6) 0 [v21_3] (fun v22_4 w =>
 oM Try.prog (Go.Op.load 31 (.tmp 0)) 31 [v22_4] (fun v23_5 w =>
 callM Try.prog 24 #[a0, v23_5] (fun v24_6 w =>
 K (.int .i64 8) w) w) w) w) w)
 (K v17_2 w)) w) w
theorem sh_28_eq (a0 : Value) (a1 : Value) (a2 : Value) (a3 : Value) (K : Value → World → Prop) (w : World) : sh_28 a0 a1 a2 a3 K w = code Try.prog (fun _ => 0) 26 (Try.f28.body.getD .skip) (slotsAt [a0, a1, a2, a3]) (retK Try.prog [.tmp 8] K) w := by kernel_rfl
theorem sh_28_ok {a0 a1 a2 a3 : Value} {K : Value → World → Prop} {w : World} (h : sh_28 a0 a1 a2 a3 K w) : callM Try.prog 28 #[a0, a1, a2, a3] K w :=
  calls_of_code (fun _ => 0) (fn := Try.f28) (rs := [.tmp 8]) Try.func28 rfl rfl (by kernel_rfl) (Nat.le_of_ble_eq_true rfl) ((sh_28_eq a0 a1 a2 a3 K w).mp h)

/-- (*cloak/base.Disk).Truncate -/
def sh_29 (a0 : Value) (a1 : Value) (a2 : Value) (K : Value → World → Prop) (w : World) : Prop :=
 joinM (fun M_1 => (callM Try.prog 42 #[a0] (fun v9_3 w =>
 condM v9_3
 (oM Try.prog (Go.Op.nilCheck (.tmp 0)) 0 [a0] (fun v12_4 w =>
 oM Try.prog (Go.Op.fieldAddr 54 (.tmp 0) 6) 0 [v12_4] (fun v13_5 w =>
 oM Try.prog (Go.Op.load 31 (.tmp 0)) 31 [v13_5] (fun v14_6 w =>
 callM Try.prog 24 #[a0, v14_6] (fun v15_7 w =>
 M_1 [] w) w) w) w) w)
 (M_1 [] w)) w))
 (fun l_2 u_l_2 w => (callM Try.prog 43 #[a0, a1] (fun v18_8 w =>
 oM Try.prog (Go.Op.binOp Go.BinOp.neq 29 (.tmp 0) (.const (.int .i64 0)) 29) 4 [v18_8] (fun v20_9 w =>
 condM v20_9
 (K v18_8 w)
 (oM Try.prog (Go.Op.binOp Go.BinOp.lss 3 (.tmp 0) (.tmp 1) 3) 4 [a2, (.int .i64 0)] (fun v23_10 w =>
 gdM (gd v23_10 false) (pureM a2) (fun v25_11 w =>
 gdM (gd v23_10 false) (pureM a0) (fun v26_12 w =>
 gdM (gd v23_10 false) (pureM a1) (fun v27_13 w =>
 gdM (gd v23_10 false) (callM Try.prog 15 #[v26_12, v27_13]) (fun v28_14 w =>
 gdM (gd v23_10 false) (oM Try.prog (Go.Op.binOp Go.BinOp.gtr 3 (.tmp 0) (.tmp 1) 3) 4 [v25_11, v28_14]) (fun v29_15 w =>
 oM Try.prog (Go.Op.pick (.tmp 0) (.tmp 1) (.tmp 2)) 4 [v23_10, (.bool true), v29_15] (fun v30_16 w =>
 condM v30_16
 (K (.int .i64 1) w)
 (oM Try.prog (Go.Op.nilCheck (.tmp 0)) 0 [a0] (fun v34_17 w =>
 oM Try.prog (Go.Op.fieldAddr 54 (.tmp 0) 0) 0 [v34_17] (fun v35_18 w =>
 oM Try.prog (Go.Op.load 50 (.tmp 0)) 50 [v35_18] (fun v36_19 w =>
 oM Try.prog (Go.Op.lookup 50 (.tmp 0) (.tmp 1) false) 62 [v36_19, a1] (fun v38_20 w =>
 oM Try.prog (Go.Op.field 62 (.tmp 0) 0) 9 [v38_20] (fun v39_21 w =>
 oM Try.prog (Go.Op.slice 9 (.tmp 0) none (some (.tmp 1)) none) 9 [v39_21, a2] (fun v41_22 w =>
 callM Try.prog 44 #[a0, a1, v41_22] (fun v42_23 w =>
 K (.int .i64 0) w) w) w) w) w) w) w) w)) w) w) w) w) w) w) w)) w) w))
theorem sh_29_eq (a0 : Value) (a1 : Value) (a2 : Value) (K : Value → World → Prop) (w : World) : sh_29 a0 a1 a2 K w = code Try.prog (fun _ => 0) 43 (Try.f29.body.getD .skip) (slotsAt [a0, a1, a2]) (retK Try.prog [.tmp 6] K) w := by kernel_rfl
theorem sh_29_ok {a0 a1 a2 : Value} {K : Value → World → Prop} {w : World} (h : sh_29 a0 a1 a2 K w) : callM Try.prog 29 #[a0, a1, a2] K w :=
  calls_of_code (fun _ => 0) (fn := Try.f29) (rs := [.tmp 6]) Try.func29 rfl rfl (by kernel_rfl) (Nat.le_of_ble_eq_true rfl) ((sh_29_eq a0 a1 a2 K w).mp h)

/-- (*cloak/base.Disk).Lose -/
def sh_30 (a0 : Value) (a1 : Value) (K : Value → World → Prop) (w : World) : Prop :=
 oM Try.prog (Go.Op.call (Go.Call.mk (Go.Callee.builtin Go.Builtin.max) #[(.tmp 0), (.tmp 1)] #[3, 3])) 3 [a1, (.int .i64 0)] (fun v6_1 w =>
 oM Try.prog (Go.Op.nilCheck (.tmp 0)) 0 [a0] (fun v7_2 w =>
 oM Try.prog (Go.Op.fieldAddr 54 (.tmp 0) 3) 0 [v7_2] (fun v8_3 w =>
 oM Try.prog (Go.Op.store 3 (.tmp 0) (.tmp 1)) 0 [v8_3, v6_1] (fun _ w =>
 K (.tuple #[]) w) w) w) w) w
theorem sh_30_eq (a0 : Value) (a1 : Value) (K : Value → World → Prop) (w : World) : sh_30 a0 a1 K w = code Try.prog (fun _ => 0) 9 (Try.f30.body.getD .skip) (slotsAt [a0, a1]) (retK Try.prog [] K) w := by kernel_rfl
theorem sh_30_ok {a0 a1 : Value} {K : Value → World → Prop} {w : World} (h : sh_30 a0 a1 K w) : callM Try.prog 30 #[a0, a1] K w :=
  calls_of_code (fun _ => 0) (fn := Try.f30) (rs := []) Try.func30 rfl rfl (by kernel_rfl) (Nat.le_of_ble_eq_true rfl) ((sh_30_eq a0 a1 K w).mp h)

/-- (*cloak/cloakref01.Disk).Sync -/
def sh_31 (a0 : Value) (a1 : Value) (K : Value → World → Prop) (w : World) : Prop :=
 callM Try.prog 49 #[a0, (.int .i64 0), (.int .i64 0), (.string ⟨#[]⟩)] (fun v7_1 w =>
 callM Try.prog 45 #[a0, a1] (fun v10_2 w =>
 oM Try.prog (Go.Op.binOp Go.BinOp.neq 29 (.tmp 0) (.const (.int .i64 0)) 29) 4 [v10_2] (fun v12_3 w =>
 condM v12_3
 (K v10_2 w)
 (oM Try.prog (Go.Op.nilCheck (.tmp 0)) 0 [a0] (fun v15_4 w =>
 oM Try.prog (Go.Op.fieldAddr 58 (.tmp 0) 2) 0 [v15_4] (fun v16_5 w =>
 oM Try.prog (Go.Op.load 3 (.tmp 0)) 3 [v16_5] (fun v17_6 w =>
 oM Try.prog (Go.Op.binOp Go.BinOp.gtr 3 (.tmp 0) (.tmp 1) 3) 4 [v17_6, (.int .i64 0)] (fun v18_7 w =>
 condM v18_7
 (oM Try.prog (Go.Op.nilCheck (.tmp 0)) 0 [a0] (fun v20_8 w =>
 oM Try.prog (Go.Op.fieldAddr 58 (.tmp 0) 2) 0 [v20_8] (fun v21_9 w =>
 oM Try.prog (Go.Op.load 3 (.tmp 0)) 3 [v21_9] (fun v22_10 w =>
 oM Try.prog (Go.Op.binOp Go.BinOp.sub 3 (.tmp 0) (.tmp 1) 3) 3 [v22_10, (.int .i64 1)] (fun v23_11 w =>
 oM Try.prog (Go.Op.nilCheck (.tmp 0)) 0 [a0] (fun v24_12 w =>
 oM Try.prog (Go.Op.fieldAddr 58 (.tmp 0) 2) 0 [v24_12] (fun v25_13 w =>
 oM Try.prog (Go.Op.store 3 (.tmp 0) (.tmp 1)) 0 [v25_13, v23_11] (fun _ w =>
 K (.int .i64 9) w) w) w) w) w) w) w) w)
 (callM Try.prog 38 #[a0, a1] (fun v30_14 w =>
 oM Try.prog (Go.Op.field 64 (.tmp 0) 1) 9 [v30_14] (fun v31_15 w =>
 callM Try.prog 50 #[a0, a1, v31_15] (fun v32_16 w =>
 K (.int .i64 0) w) w) w) w)) w) w) w) w)) w) w) w
theorem sh_31_eq (a0 : Value) (a1 : Value) (K : Value → World → Prop) (w : World) : sh_31 a0 a1 K w = code Try.prog (fun _ => 0) 33 (Try.f31.body.getD .skip) (slotsAt [a0, a1]) (retK Try.prog [.tmp 4] K) w := by kernel_rfl
theorem sh_31_ok {a0 a1 : Value} {K : Value → World → Prop} {w : World} (h : sh_31 a0 a1 K w) : callM Try.prog 31 #[a0, a1] K w :=
  calls_of_code (fun _ => 0) (fn := Try.f31) (rs := [.tmp 4]) Try.func31 rfl rfl (by kernel_rfl) (Nat.le_of_ble_eq_true rfl) ((sh_31_eq a0 a1 K w).mp h)

/-- (*cloak/cloakref01.Disk).Truncate -/
def sh_32 (a0 : Value) (a1 : Value) (a2 : Value) (K : Value → World → Prop) (w : World) : Prop :=
 callM Try.prog 49 #[a0, (.int .i64 0), (.int .i64 0), (.string ⟨#[]⟩)] (fun v10_1 w =>
 callM Try.prog 45 #[a0, a1] (fun v13_2 w =>
 oM Try.prog (Go.Op.binOp Go.BinOp.neq 29 (.tmp 0) (.const (.int .i64 0)) 29) 4 [v13_2] (fun v15_3 w =>
 condM v15_3
 (K v13_2 w)
 (callM Try.prog 38 #[a0, a1] (fun v19_4 w =>
 oM Try.prog (Go.Op.field 64 (.tmp 0) 1) 9 [v19_4] (fun v20_5 w =>
 oM Try.prog (Go.Op.binOp Go.BinOp.lss 3 (.tmp 0) (.tmp 1) 3) 4 [a2, (.int .i64 0)] (fun v22_6 w =>
 gdM (gd v22_6 false) (pureM a2) (fun v24_7 w =>
 gdM (gd v22_6 false) (pureM v20_5) (fun v25_8 w =>
 gdM (gd v22_6 false) (oM Try.prog (Go.Op.call (Go.Call.mk (Go.Callee.builtin Go.Builtin.len) #[(.tmp 0)] #[9])) 3 [v25_8]) (fun v26_9 w =>
 gdM (gd v22_6 false) (oM Try.prog (Go.Op.binOp Go.BinOp.gtr 3 (.tmp 0) (.tmp 1) 3) 4 [v24_7, v26_9]) (fun v27_10 w =>
 oM Try.prog (Go.Op.pick (.tmp 0) (.tmp 1) (.tmp 2)) 4 [v22_6, (.bool true), v27_10] (fun v28_11 w =>
 condM v28_11
 (K (.int .i64 1) w)
 (oM Try.prog (Go.Op.slice 9 (.tmp 0) none (some (.tmp 1)) none) 9 [v20_5, a2] (fun v33_12 w =>
 callM Try.prog 50 #[a0, a1, v33_12] (fun v34_13 w =>
 K (.int .i64 0) w) w) w)) w) w) w) w) w) w) w) w)) w) w) w
theorem sh_32_eq (a0 : Value) (a1 : Value) (a2 : Value) (K : Value → World → Prop) (w : World) : sh_32 a0 a1 a2 K w = code Try.prog (fun _ => 0) 35 (Try.f32.body.getD .skip) (slotsAt [a0, a1, a2]) (retK Try.prog [.tmp 6] K) w := by kernel_rfl
theorem sh_32_ok {a0 a1 a2 : Value} {K : Value → World → Prop} {w : World} (h : sh_32 a0 a1 a2 K w) : callM Try.prog 32 #[a0, a1, a2] K w :=
  calls_of_code (fun _ => 0) (fn := Try.f32) (rs := [.tmp 6]) Try.func32 rfl rfl (by kernel_rfl) (Nat.le_of_ble_eq_true rfl) ((sh_32_eq a0 a1 a2 K w).mp h)

/-- (*cloak/cloakref01.Disk).Lose -/
def sh_33 (a0 : Value) (a1 : Value) (K : Value → World → Prop) (w : World) : Prop :=
 oM Try.prog (Go.Op.call (Go.Call.mk (Go.Callee.builtin Go.Builtin.max) #[(.tmp 0), (.tmp 1)] #[3, 3])) 3 [a1, (.int .i64 0)] (fun v6_1 w =>
 oM Try.prog (Go.Op.nilCheck (.tmp 0)) 0 [a0] (fun v7_2 w =>
 oM Try.prog (Go.Op.fieldAddr 58 (.tmp 0) 2) 0 [v7_2] (fun v8_3 w =>
 oM Try.prog (Go.Op.store 3 (.tmp 0) (.tmp 1)) 0 [v8_3, v6_1] (fun _ w =>
 K (.tuple #[]) w) w) w) w) w
theorem sh_33_eq (a0 : Value) (a1 : Value) (K : Value → World → Prop) (w : World) : sh_33 a0 a1 K w = code Try.prog (fun _ => 0) 9 (Try.f33.body.getD .skip) (slotsAt [a0, a1]) (retK Try.prog [] K) w := by kernel_rfl
theorem sh_33_ok {a0 a1 : Value} {K : Value → World → Prop} {w : World} (h : sh_33 a0 a1 K w) : callM Try.prog 33 #[a0, a1] K w :=
  calls_of_code (fun _ => 0) (fn := Try.f33) (rs := []) Try.func33 rfl rfl (by kernel_rfl) (Nat.le_of_ble_eq_true rfl) ((sh_33_eq a0 a1 K w).mp h)

/-- (*cloak/cloakref01.Disk).Arm -/
def sh_34 (a0 : Value) (a1 : Value) (a2 : Value) (K : Value → World → Prop) (w : World) : Prop :=
 oM Try.prog (Go.Op.call (Go.Call.mk (Go.Callee.builtin Go.Builtin.max) #[(.tmp 0), (.tmp 1)] #[3, 3])) 3 [a1, (.int .i64 0)] (fun v8_1 w =>
 oM Try.prog (Go.Op.nilCheck (.tmp 0)) 0 [a0] (fun v9_2 w =>
 oM Try.prog (Go.Op.fieldAddr 58 (.tmp 0) 4) 0 [v9_2] (fun v10_3 w =>
 oM Try.prog (Go.Op.store 3 (.tmp 0) (.tmp 1)) 0 [v10_3, v8_1] (fun _ w =>
 oM Try.prog (Go.Op.buildSlice 31 0 #[]) 31 [] (fun v12_4 w =>
 oM Try.prog (Go.Op.call (Go.Call.mk (Go.Callee.builtin Go.Builtin.append) #[(.tmp 0), (.tmp 1)] #[31, 31])) 31 [v12_4, a2] (fun v14_5 w =>
 oM Try.prog (Go.Op.nilCheck (.tmp 0)) 0 [a0] (fun v15_6 w =>
 oM Try.prog (Go.Op.fieldAddr 58 (.tmp 0) 5) 0 [v15_6] (fun v16_7 w =>
 oM Try.prog (Go.Op.store 31 (.tmp 0) (.tmp 1)) 0 [v16_7, v14_5] (fun _ w =>
 K (.tuple #[]) w) w) w) w) w) w) w) w) w) w
theorem sh_34_eq (a0 : Value) (a1 : Value) (a2 : Value) (K : Value → World → Prop) (w : World) : sh_34 a0 a1 a2 K w = code Try.prog (fun _ => 0) 17 (Try.f34.body.getD .skip) (slotsAt [a0, a1, a2]) (retK Try.prog [] K) w := by kernel_rfl
theorem sh_34_ok {a0 a1 a2 : Value} {K : Value → World → Prop} {w : World} (h : sh_34 a0 a1 a2 K w) : callM Try.prog 34 #[a0, a1, a2] K w :=
  calls_of_code (fun _ => 0) (fn := Try.f34) (rs := []) Try.func34 rfl rfl (by kernel_rfl) (Nat.le_of_ble_eq_true rfl) ((sh_34_eq a0 a1 a2 K w).mp h)

/-- (*cloak/cloakref01.Disk).Crash -/
def sh_35 (a0 : Value) (a1 : Value) (K : Value → World → Prop) (w : World) : Prop :=
 oM Try.prog (Go.Op.nilCheck (.tmp 0)) 0 [a0] (fun v8_1 w =>
 oM Try.prog (Go.Op.fieldAddr 58 (.tmp 0) 3) 0 [v8_1] (fun v9_2 w =>
 oM Try.prog (Go.Op.load 4 (.tmp 0)) 4 [v9_2] (fun v10_3 w =>
 condM v10_3
 (K (.tuple #[]) w)
 (oM Try.prog (Go.Op.nilCheck (.tmp 0)) 0 [a0] (fun v12_4 w =>
 oM Try.prog (Go.Op.fieldAddr 58 (.tmp 0) 3) 0 [v12_4] (fun v13_5 w =>
 oM Try.prog (Go.Op.store 4 (.tmp 0) (.tmp 1)) 0 [v13_5, (.bool true)] (fun _ w =>
 oM Try.prog (Go.Op.nilCheck (.tmp 0)) 0 [a0] (fun v15_6 w =>
 oM Try.prog (Go.Op.fieldAddr 58 (.tmp 0) 4) 0 [v15_6] (fun v16_7 w =>
 oM Try.prog (Go.Op.store 3 (.tmp 0) (.tmp 1)) 0 [v16_7, (.int .i64 0)] (fun _ w =>
 loopM [(.int .i64 0)] w (fun J_8 m_9 l_10 u_l_10 w0_l_10 => (fun w => (
 oM Try.prog (Go.Op.nilCheck (.tmp 0)) 0 [a0] (fun v19_11 w =>
 oM Try.prog (Go.Op.fieldAddr 58 (.tmp 0) 1) 0 [v19_11] (fun v20_12 w =>
 oM Try.prog (Go.Op.load 56 (.tmp 0)) 56 [v20_12] (fun v21_13 w =>
 oM Try.prog (Go.Op.call (Go.Call.mk (Go.Callee.builtin Go.Builtin.len) #[(.tmp 0)] #[56])) 3 [v21_13] (fun v22_14 w =>
 oM Try.prog (Go.Op.binOp Go.BinOp.lss 3 (.tmp 0) (.tmp 1) 3) 4 [(l_10.getD 0 undef), v22_14] (fun v23_15 w =>
 gdM (gd v23_15 true) (pureM a1) (fun v25_16 w =>
 gdM (gd v23_15 true) (oM Try.prog (Go.Op.call (Go.Call.mk (Go.Callee.builtin Go.Builtin.len) #[(.tmp 0)] #[31])) 3 [v25_16]) (fun v26_17 w =>
 gdM (gd v23_15 true) (oM Try.prog (Go.Op.binOp Go.BinOp.gtr 3 (.tmp 0) (.tmp 1) 3) 4 [v26_17, (.int .i64 0)]) (fun v27_18 w =>
 oM Try.prog (Go.Op.pick (.tmp 0) (.tmp 1) (.tmp 2)) 4 [v23_15, v27_18, (.bool false)] (fun v28_19 w =>
 condM v28_19
 (joinM (fun M_20 => (oM Try.prog (Go.Op.call (Go.Call.mk (Go.Callee.builtin Go.Builtin.len) #[(.tmp 0)] #[31])) 3 [a1] (fun v34_22 w =>
 oM Try.prog (Go.Op.binOp Go.BinOp.rem 3 (.tmp 0) (.tmp 1) 3) 3 [(l_10.getD 0 undef), v34_22] (fun v35_23 w =>
 oM Try.prog (Go.Op.indexAddr 31 (.tmp 0) (.tmp 1)) 0 [a1, v35_23] (fun v36_24 w =>
 oM Try.prog (Go.Op.load 3 (.tmp 0)) 3 [v36_24] (fun v37_25 w =>
 oM Try.prog (Go.Op.binOp Go.BinOp.and 3 (.tmp 0) (.tmp 1) 3) 3 [v37_25, (.int .i64 1)] (fun v38_26 w =>
 oM Try.prog (Go.Op.binOp Go.BinOp.eql 3 (.tmp 0) (.const (.int .i64 1)) 3) 4 [v38_26] (fun v39_27 w =>
 condM v39_27
 (oM Try.prog (Go.Op.nilCheck (.tmp 0)) 0 [a0] (fun v42_28 w =>
 oM Try.prog (Go.Op.fieldAddr 58 (.tmp 0) 1) 0 [v42_28] (fun v43_29 w =>
 oM Try.prog (Go.Op.load 56 (.tmp 0)) 56 [v43_29] (fun v44_30 w =>
 oM Try.prog (Go.Op.indexAddr 56 (.tmp 0) (.tmp 1)) 0 [v44_30, (l_10.getD 0 undef)] (fun v46_31 w =>
 oM Try.prog (Go.Op.load 77 (.tmp 0)) 77 [v46_31] (fun v47_32 w =>
 callM Try.prog 51 #[a0, v47_32] (fun v48_33 w =>
 M_20 [] w) w) w) w) w) w) w)
 (M_20 [] w)) w) w) w) w) w) w))
 (fun l_21 u_l_21 w => (oM Try.prog (Go.Op.binOp Go.BinOp.add 3 (.tmp 0) (.tmp 1) 3) 3 [(l_10.getD 0 undef), (.int .i64 1)] (fun v30_34 w =>
 J_8 [v30_34] w ∧ m_9 [v30_34] w < m_9 l_10 w0_l_10) w)))
 (loopM [(.slice none 0 0), (.int .i64 0)] w (fun J_35 m_36 l_37 u_l_37 w0_l_37 => (fun w => (
 oM Try.prog (Go.Op.nilCheck (.tmp 0)) 0 [a0] (fun v51_38 w =>
 oM Try.prog (Go.Op.fieldAddr 58 (.tmp 0) 0) 0 [v51_38] (fun v52_39 w =>
 oM Try.prog (Go.Op.load 55 (.tmp 0)) 55 [v52_39] (fun v53_40 w =>
 oM Try.prog (Go.Op.call (Go.Call.mk (Go.Callee.builtin Go.Builtin.len) #[(.tmp 0)] #[55])) 3 [v53_40] (fun v54_41 w =>
 oM Try.prog (Go.Op.binOp Go.BinOp.lss 3 (.tmp 0) (.tmp 1) 3) 4 [(l_37.getD 1 undef), v54_41] (fun v55_42 w =>
 condM v55_42
 (quietM w (fun C_43 => (oQ Try.prog (Go.Op.nilCheck (.tmp 0)) 0 [a0] C_43 (fun v60_44 =>
 oQ Try.prog (Go.Op.fieldAddr 58 (.tmp 0) 0) 0 [v60_44] C_43 (fun v61_45 =>
 oQ Try.prog (Go.Op.load 55 (.tmp 0)) 55 [v61_45] C_43 (fun v62_46 =>
 oQ Try.prog (Go.Op.indexAddr 55 (.tmp 0) (.tmp 1)) 0 [v62_46, (l_37.getD 1 undef)] C_43 (fun v64_47 =>
 oQ Try.prog (Go.Op.fieldAddr 64 (.tmp 0) 0) 0 [v64_47] C_43 (fun v65_48 =>
 oQ Try.prog (Go.Op.load 3 (.tmp 0)) 3 [v65_48] C_43 (fun v66_49 =>
 oQ Try.prog (Go.Op.nilCheck (.tmp 0)) 0 [a0] C_43 (fun v68_50 =>
 oQ Try.prog (Go.Op.fieldAddr 58 (.tmp 0) 0) 0 [v68_50] C_43 (fun v69_51 =>
 oQ Try.prog (Go.Op.load 55 (.tmp 0)) 55 [v69_51] C_43 (fun v70_52 =>
 oQ Try.prog (Go.Op.indexAddr 55 (.tmp 0) (.tmp 1)) 0 [v70_52, (l_37.getD 1 undef)] C_43 (fun v72_53 =>
 oQ Try.prog (Go.Op.fieldAddr 64 (.tmp 0) 2) 0 [v72_53] C_43 (fun v73_54 =>
 oQ Try.prog (Go.Op.load 9 (.tmp 0)) 9 [v73_54] C_43 (fun v74_55 =>
 oQ Try.prog (Go.Op.nilCheck (.tmp 0)) 0 [a0] C_43 (fun v76_56 =>
 oQ Try.prog (Go.Op.fieldAddr 58 (.tmp 0) 0) 0 [v76_56] C_43 (fun v77_57 =>
 oQ Try.prog (Go.Op.load 55 (.tmp 0)) 55 [v77_57] C_43 (fun v78_58 =>
 oQ Try.prog (Go.Op.indexAddr 55 (.tmp 0) (.tmp 1)) 0 [v78_58, (l_37.getD 1 undef)] C_43 (fun v80_59 =>
 oQ Try.prog (Go.Op.fieldAddr 64 (.tmp 0) 2) 0 [v80_59] C_43 (fun v81_60 =>
 oQ Try.prog (Go.Op.load 9 (.tmp 0)) 9 [v81_60] C_43 (fun v82_61 =>
 oQ Try.prog (Go.Op.build 64 #[(0, (.tmp 0)), (1, (.tmp 1)), (2, (.tmp 2))]) 64 [v66_49, v74_55, v82_61] C_43 (fun v83_62 =>
 oQ Try.prog (Go.Op.buildSlice 55 1 #[(0, (.tmp 0))]) 55 [v83_62] C_43 (fun v84_63 =>
 oQ Try.prog (Go.Op.call (Go.Call.mk (Go.Callee.builtin Go.Builtin.append) #[(.tmp 0), (.tmp 1)] #[55, 55])) 55 [(l_37.getD 0 undef), v84_63] C_43 (fun v85_64 =>
 ∀ w, C_43 w → (oM Try.prog (Go.Op.binOp Go.BinOp.add 3 (.tmp 0) (.tmp 1) 3) 3 [(l_37.getD 1 undef), (.int .i64 1)] (fun v57_65 w =>
 J_35 [v85_64, v57_65] w ∧ m_36 [v85_64, v57_65] w < m_36 l_37 w0_l_37) w)))))))))))))))))))))))))
 (oM Try.prog (Go.Op.nilCheck (.tmp 0)) 0 [a0] (fun v88_66 w =>
 oM Try.prog (Go.Op.fieldAddr 58 (.tmp 0) 0) 0 [v88_66] (fun v89_67 w =>
 oM Try.prog (Go.Op.store 55 (.tmp 0) (.tmp 1)) 0 [v89_67, (l_37.getD 0 undef)] (fun _ w =>
 oM Try.prog (Go.Op.nilCheck (.tmp 0)) 0 [a0] (fun v91_68 w =>
 oM Try.prog (Go.Op.fieldAddr 58 (.tmp 0) 1) 0 [v91_68] (fun v92_69 w =>
 oM Try.prog (Go.Op.store 56 (.tmp 0) (.tmp 1)) 0 [v92_69, (.slice none 0 0)] (fun _ w =>
 K (.tuple #[]) w) w) w) w) w) w) w)) w) w) w) w) w)) w0_l_37))) w) w) w) w) w) w) w) w) w)) w0_l_10)) w) w) w) w) w) w)) w) w) w
theorem sh_35_eq (a0 : Value) (a1 : Value) (K : Value → World → Prop) (w : World) : sh_35 a0 a1 K w = code Try.prog (fun _ => 0) 93 (Try.f35.body.getD .skip) (slotsAt [a0, a1]) (retK Try.prog [] K) w := by kernel_rfl
theorem sh_35_ok {a0 a1 : Value} {K : Value → World → Prop} {w : World} (h : sh_35 a0 a1 K w) : callM Try.prog 35 #[a0, a1] K w :=
  calls_of_code (fun _ => 0) (fn := Try.f35) (rs := []) Try.func35 rfl rfl (by kernel_rfl) (Nat.le_of_ble_eq_true rfl) ((sh_35_eq a0 a1 K w).mp h)

/-- (*cloak/cloakref01.Disk).Start -/
def sh_36 (a0 : Value) (K : Value → World → Prop) (w : World) : Prop :=
 oM Try.prog (Go.Op.nilCheck (.tmp 0)) 0 [a0] (fun v3_1 w =>
 oM Try.prog (Go.Op.fieldAddr 58 (.tmp 0) 3) 0 [v3_1] (fun v4_2 w =>
 oM Try.prog (Go.Op.store 4 (.tmp 0) (.tmp 1)) 0 [v4_2, (.bool false)] (fun _ w =>
 K (.tuple #[]) w) w) w) w
theorem sh_36_eq (a0 : Value) (K : Value → World → Prop) (w : World) : sh_36 a0 K w = code Try.prog (fun _ => 0) 5 (Try.f36.body.getD .skip) (slotsAt [a0]) (retK Try.prog [] K) w := by kernel_rfl
theorem sh_36_ok {a0 : Value} {K : Value → World → Prop} {w : World} (h : sh_36 a0 K w) : callM Try.prog 36 #[a0] K w :=
  calls_of_code (fun _ => 0) (fn := Try.f36) (rs := []) Try.func36 rfl rfl (by kernel_rfl) (Nat.le_of_ble_eq_true rfl) ((sh_36_eq a0 K w).mp h)

/-- (*cloak/cloakref01.Disk).Write -/
def sh_37 (a0 : Value) (a1 : Value) (a2 : Value) (a3 : Value) (K : Value → World → Prop) (w : World) : Prop :=
 callM Try.prog 49 #[a0, a1, a2, a3] (fun v14_1 w =>
 callM Try.prog 45 #[a0, a1] (fun v17_2 w =>
 oM Try.prog (Go.Op.binOp Go.BinOp.neq 29 (.tmp 0) (.const (.int .i64 0)) 29) 4 [v17_2] (fun v19_3 w =>
 condM v19_3
 (K v17_2 w)
 (oM Try.prog (Go.Op.binOp Go.BinOp.lss 3 (.tmp 0) (.tmp 1) 3) 4 [a2, (.int .i64 0)] (fun v22_4 w =>
 condM v22_4
 (K (.int .i64 1) w)
 (callM Try.prog 52 #[a2, a3] (fun v25_5 w =>
 oM Try.prog (Go.Op.unOp Go.UnOp.not 4 (.tmp 0)) 4 [v25_5] (fun v26_6 w =>
 condM v26_6
 (K (.int .i64 6) w)
 (callM Try.prog 53 #[a0, a1, a2, a3] (fun v31_7 w =>
 K (.int .i64 0) w) w)) w) w)) w)) w) w) w
theorem sh_37_eq (a0 : Value) (a1 : Value) (a2 : Value) (a3 : Value) (K : Value → World → Prop) (w : World) : sh_37 a0 a1 a2 a3 K w = code Try.prog (fun _ => 0) 32 (Try.f37.body.getD .skip) (slotsAt [a0, a1, a2, a3]) (retK Try.prog [.tmp 8] K) w := by kernel_rfl
theorem sh_37_ok {a0 a1 a2 a3 : Value} {K : Value → World → Prop} {w : World} (h : sh_37 a0 a1 a2 a3 K w) : callM Try.prog 37 #[a0, a1, a2, a3] K w :=
  calls_of_code (fun _ => 0) (fn := Try.f37) (rs := [.tmp 8]) Try.func37 rfl rfl (by kernel_rfl) (Nat.le_of_ble_eq_true rfl) ((sh_37_eq a0 a1 a2 a3 K w).mp h)

/-- (*cloak/cloakref01.Disk).get -/
def sh_38 (a0 : Value) (a1 : Value) (K : Value → World → Prop) (w : World) : Prop :=
 oM Try.prog (Go.Op.alloc 64) 0 [] (fun v4_1 w =>
 loopM [(.int .i64 0)] w (fun J_2 m_3 l_4 u_l_4 w0_l_4 => (fun w => (
 oM Try.prog (Go.Op.nilCheck (.tmp 0)) 0 [a0] (fun v8_5 w =>
 oM Try.prog (Go.Op.fieldAddr 58 (.tmp 0) 0) 0 [v8_5] (fun v9_6 w =>
 oM Try.prog (Go.Op.load 55 (.tmp 0)) 55 [v9_6] (fun v10_7 w =>
 oM Try.prog (Go.Op.call (Go.Call.mk (Go.Callee.builtin Go.Builtin.len) #[(.tmp 0)] #[55])) 3 [v10_7] (fun v11_8 w =>
 oM Try.prog (Go.Op.binOp Go.BinOp.lss 3 (.tmp 0) (.tmp 1) 3) 4 [(l_4.getD 0 undef), v11_8] (fun v12_9 w =>
 condM v12_9
 (oM Try.prog (Go.Op.nilCheck (.tmp 0)) 0 [a0] (fun v16_10 w =>
 oM Try.prog (Go.Op.fieldAddr 58 (.tmp 0) 0) 0 [v16_10] (fun v17_11 w =>
 oM Try.prog (Go.Op.load 55 (.tmp 0)) 55 [v17_11] (fun v18_12 w =>
 oM Try.prog (Go.Op.indexAddr 55 (.tmp 0) (.tmp 1)) 0 [v18_12, (l_4.getD 0 undef)] (fun v20_13 w =>
 oM Try.prog (Go.Op.fieldAddr 64 (.tmp 0) 0) 0 [v20_13] (fun v21_14 w =>
 oM Try.prog (Go.Op.load 3 (.tmp 0)) 3 [v21_14] (fun v22_15 w =>
 oM Try.prog (Go.Op.binOp Go.BinOp.eql 3 (.tmp 0) (.tmp 1) 3) 4 [v22_15, a1] (fun v24_16 w =>
 condM v24_16
 (oM Try.prog (Go.Op.nilCheck (.tmp 0)) 0 [a0] (fun v26_17 w =>
 oM Try.prog (Go.Op.fieldAddr 58 (.tmp 0) 0) 0 [v26_17] (fun v27_18 w =>
 oM Try.prog (Go.Op.load 55 (.tmp 0)) 55 [v27_18] (fun v28_19 w =>
 oM Try.prog (Go.Op.indexAddr 55 (.tmp 0) (.tmp 1)) 0 [v28_19, (l_4.getD 0 undef)] (fun v30_20 w =>
 oM Try.prog (Go.Op.load 64 (.tmp 0)) 64 [v30_20] (fun v31_21 w =>
 oM Try.prog (Go.Op.store 64 (.tmp 0) (.tmp 1)) 0 [v4_1, v31_21] (fun _ w =>
 ∃ r_22, (do loadVar 64 (← asAddr v4_1) : Sem Value).run Try.prog w = .ok r_22 w ∧ K r_22 w) w) w) w) w) w) w)
 (oM Try.prog (Go.Op.binOp Go.BinOp.add 3 (.tmp 0) (.tmp 1) 3) 3 [(l_4.getD 0 undef), (.int .i64 1)] (fun v14_23 w =>
 J_2 [v14_23] w ∧ m_3 [v14_23] w < m_3 l_4 w0_l_4) w)) w) w) w) w) w) w) w)
 (oM Try.prog (Go.Op.build 64 #[(0, (.tmp 0))]) 64 [a1] (fun v33_24 w =>
 oM Try.prog (Go.Op.store 64 (.tmp 0) (.tmp 1)) 0 [v4_1, v33_24] (fun _ w =>
 ∃ r_25, (do loadVar 64 (← asAddr v4_1) : Sem Value).run Try.prog w = .ok r_25 w ∧ K r_25 w) w) w)) w) w) w) w) w)) w0_l_4)) w
theorem sh_38_eq (a0 : Value) (a1 : Value) (K : Value → World → Prop) (w : World) : sh_38 a0 a1 K w = code Try.prog (fun _ => 0) 34 (Try.f38.body.getD .skip) (slotsAt [a0, a1]) (retK Try.prog [.cell 4 64] K) w := by kernel_rfl
theorem sh_38_ok {a0 a1 : Value} {K : Value → World → Prop} {w : World} (h : sh_38 a0 a1 K w) : callM Try.prog 38 #[a0, a1] K w :=
  calls_of_code (fun _ => 0) (fn := Try.f38) (rs := [.cell 4 64]) Try.func38 rfl rfl (by kernel_rfl) (Nat.le_of_ble_eq_true rfl) ((sh_38_eq a0 a1 K w).mp h)

/-- maps.Clone[map[int]cloak/base.file,int,cloak/base.file] -/
def sh_39 (a0 : Value) (K : Value → World → Prop) (w : World) : Prop :=
 oM Try.prog (Go.Op.binOp Go.BinOp.eql 50 (.tmp 0) (.const (.map none)) 50) 4 [a0] (fun v4_1 w =>
 condM v4_1
 (K (.map none) w)
 (oM Try.prog (Go.Op.makeInterface 50 (.tmp 0)) 20 [a0] (fun v6_2 w =>
 extM Try.prog 54 #[v6_2] (fun v7_3 w =>
 oM Try.prog (Go.Op.typeAssert (.tmp 0) 20 50 false) 50 [v7_3] (fun v8_4 w =>
 K v8_4 w) w) w) w)) w
theorem sh_39_eq (a0 : Value) (K : Value → World → Prop) (w : World) : sh_39 a0 K w = code Try.prog (fun _ => 0) 9 (Try.f39.body.getD .skip) (slotsAt [a0]) (retK Try.prog [.tmp 2] K) w := by kernel_rfl
theorem sh_39_ok {a0 : Value} {K : Value → World → Prop} {w : World} (h : sh_39 a0 K w) : callM Try.prog 39 #[a0] K w :=
  calls_of_code (fun _ => 0) (fn := Try.f39) (rs := [.tmp 2]) Try.func39 rfl rfl (by kernel_rfl) (Nat.le_of_ble_eq_true rfl) ((sh_39_eq a0 K w).mp h)

/-- slices.Clone[[]cloak/base.sector,cloak/base.sector] -/
def sh_40 (a0 : Value) (K : Value → World → Prop) (w : World) : Prop :=
 oM Try.prog (Go.Op.binOp Go.BinOp.eql 52 (.tmp 0) (.const (.slice none 0 0)) 52) 4 [a0] (fun v4_1 w =>
 condM v4_1
 (K (.slice none 0 0) w)
 (oM Try.prog (Go.Op.buildSlice 52 0 #[]) 52 [] (fun v5_2 w =>
 oM Try.prog (Go.Op.call (Go.Call.mk (Go.Callee.builtin Go.Builtin.append) #[(.tmp 0), (.tmp 1)] #[52, 52])) 52 [v5_2, a0] (fun v7_3 w =>
 K v7_3 w) w) w)) w
theorem sh_40_eq (a0 : Value) (K : Value → World → Prop) (w : World) : sh_40 a0 K w = code Try.prog (fun _ => 0) 8 (Try.f40.body.getD .skip) (slotsAt [a0]) (retK Try.prog [.tmp 2] K) w := by kernel_rfl
theorem sh_40_ok {a0 : Value} {K : Value → World → Prop} {w : World} (h : sh_40 a0 K w) : callM Try.prog 40 #[a0] K w :=
  calls_of_code (fun _ => 0) (fn := Try.f40) (rs := [.tmp 2]) Try.func40 rfl rfl (by kernel_rfl) (Nat.le_of_ble_eq_true rfl) ((sh_40_eq a0 K w).mp h)

/-- maps.Clone[map[cloak/base.sector]bool,cloak/base.sector,bool] -/
def sh_41 (a0 : Value) (K : Value → World → Prop) (w : World) : Prop :=
 oM Try.prog (Go.Op.binOp Go.BinOp.eql 51 (.tmp 0) (.const (.map none)) 51) 4 [a0] (fun v4_1 w =>
 condM v4_1
 (K (.map none) w)
 (oM Try.prog (Go.Op.makeInterface 51 (.tmp 0)) 20 [a0] (fun v6_2 w =>
 extM Try.prog 54 #[v6_2] (fun v7_3 w =>
 oM Try.prog (Go.Op.typeAssert (.tmp 0) 20 51 false) 51 [v7_3] (fun v8_4 w =>
 K v8_4 w) w) w) w)) w
theorem sh_41_eq (a0 : Value) (K : Value → World → Prop) (w : World) : sh_41 a0 K w = code Try.prog (fun _ => 0) 9 (Try.f41.body.getD .skip) (slotsAt [a0]) (retK Try.prog [.tmp 2] K) w := by kernel_rfl
theorem sh_41_ok {a0 : Value} {K : Value → World → Prop} {w : World} (h : sh_41 a0 K w) : callM Try.prog 41 #[a0] K w :=
  calls_of_code (fun _ => 0) (fn := Try.f41) (rs := [.tmp 2]) Try.func41 rfl rfl (by kernel_rfl) (Nat.le_of_ble_eq_true rfl) ((sh_41_eq a0 K w).mp h)

/-- (*cloak/base.Disk).ends -/
def sh_42 (a0 : Value) (K : Value → World → Prop) (w : World) : Prop :=
 oM Try.prog (Go.Op.nilCheck (.tmp 0)) 0 [a0] (fun v4_1 w =>
 oM Try.prog (Go.Op.fieldAddr 54 (.tmp 0) 4) 0 [v4_1] (fun v5_2 w =>
 oM Try.prog (Go.Op.load 4 (.tmp 0)) 4 [v5_2] (fun v6_3 w =>
 gdM (gd v6_3 false) (pureM a0) (fun v8_4 w =>
 gdM (gd v6_3 false) (oM Try.prog (Go.Op.nilCheck (.tmp 0)) 0 [v8_4]) (fun v9_5 w =>
 gdM (gd v6_3 false) (oM Try.prog (Go.Op.fieldAddr 54 (.tmp 0) 5) 0 [v9_5]) (fun v10_6 w =>
 gdM (gd v6_3 false) (oM Try.prog (Go.Op.load 3 (.tmp 0)) 3 [v10_6]) (fun v11_7 w =>
 gdM (gd v6_3 false) (oM Try.prog (Go.Op.binOp Go.BinOp.eql 3 (.tmp 0) (.const (.int .i64 0)) 3) 4 [v11_7]) (fun v12_8 w =>
 oM Try.prog (Go.Op.pick (.tmp 0) (.tmp 1) (.tmp 2)) 4 [v6_3, (.bool true), v12_8] (fun v13_9 w =>
 condM v13_9
 (K (.bool false) w)
 (oM Try.prog (Go.Op.nilCheck (.tmp 0)) 0 [a0] (fun v15_10 w =>
 oM Try.prog (Go.Op.fieldAddr 54 (.tmp 0) 5) 0 [v15_10] (fun v16_11 w =>
 oM Try.prog (Go.Op.load 3 (.tmp 0)) 3 [v16_11] (fun v17_12 w =>
 oM Try.prog (Go.Op.binOp Go.BinOp.sub 3 (.tmp 0) (.tmp 1) 3) 3 [v17_12, (.int .i64 1)] (fun v18_13 w =>
 oM Try.prog (Go.Op.nilCheck (.tmp 0)) 0 [a0] (fun v19_14 w =>
 oM Try.prog (Go.Op.fieldAddr 54 (.tmp 0) 5) 0 [v19_14] (fun v20_15 w =>
 oM Try.prog (Go.Op.store 3 (.tmp 0) (.tmp 1)) 0 [v20_15, v18_13] (fun _ w =>
 oM Try.prog (Go.Op.nilCheck (.tmp 0)) 0 [a0] (fun v22_16 w =>
 oM Try.prog (Go.Op.fieldAddr 54 (.tmp 0) 5) 0 [v22_16] (fun v23_17 w =>
 oM Try.prog (Go.Op.load 3 (.tmp 0)) 3 [v23_17] (fun v24_18 w =>
 oM Try.prog (Go.Op.binOp Go.BinOp.eql 3 (.tmp 0) (.const (.int .i64 0)) 3) 4 [v24_18] (fun v25_19 w =>
 K v25_19 w) w) w) w) w) w) w) w) w) w) w) w)) w) w) w) w) w) w) w) w) w
theorem sh_42_eq (a0 : Value) (K : Value → World → Prop) (w : World) : sh_42 a0 K w = code Try.prog (fun _ => 0) 26 (Try.f42.body.getD .skip) (slotsAt [a0]) (retK Try.prog [.tmp 2] K) w := by kernel_rfl
theorem sh_42_ok {a0 : Value} {K : Value → World → Prop} {w : World} (h : sh_42 a0 K w) : callM Try.prog 42 #[a0] K w :=
  calls_of_code (fun _ => 0) (fn := Try.f42) (rs := [.tmp 2]) Try.func42 rfl rfl (by kernel_rfl) (Nat.le_of_ble_eq_true rfl) ((sh_42_eq a0 K w).mp h)

/-- (*cloak/base.Disk).may -/
def sh_43 (a0 : Value) (a1 : Value) (K : Value → World → Prop) (w : World) : Prop :=
 oM Try.prog (Go.Op.nilCheck (.tmp 0)) 0 [a0] (fun v7_1 w =>
 oM Try.prog (Go.Op.fieldAddr 54 (.tmp 0) 4) 0 [v7_1] (fun v8_2 w =>
 oM Try.prog (Go.Op.load 4 (.tmp 0)) 4 [v8_2] (fun v9_3 w =>
 condM v9_3
 (K (.int .i64 8) w)
 (oM Try.prog (Go.Op.binOp Go.BinOp.lss 3 (.tmp 0) (.tmp 1) 3) 4 [a1, (.int .i64 0)] (fun v12_4 w =>
 gdM (gd v12_4 false) (pureM a1) (fun v14_5 w =>
 gdM (gd v12_4 false) (oM Try.prog (Go.Op.binOp Go.BinOp.geq 3 (.tmp 0) (.tmp 1) 3) 4 [v14_5, (.int .i64 16)]) (fun v15_6 w =>
 oM Try.prog (Go.Op.pick (.tmp 0) (.tmp 1) (.tmp 2)) 4 [v12_4, (.bool true), v15_6] (fun v16_7 w =>
 condM v16_7
 (K (.int .i64 1) w)
 (K (.int .i64 0) w)) w) w) w) w)) w) w) w
theorem sh_43_eq (a0 : Value) (a1 : Value) (K : Value → World → Prop) (w : World) : sh_43 a0 a1 K w = code Try.prog (fun _ => 0) 17 (Try.f43.body.getD .skip) (slotsAt [a0, a1]) (retK Try.prog [.tmp 4] K) w := by kernel_rfl
theorem sh_43_ok {a0 a1 : Value} {K : Value → World → Prop} {w : World} (h : sh_43 a0 a1 K w) : callM Try.prog 43 #[a0, a1] K w :=
  calls_of_code (fun _ => 0) (fn := Try.f43) (rs := [.tmp 4]) Try.func43 rfl rfl (by kernel_rfl) (Nat.le_of_ble_eq_true rfl) ((sh_43_eq a0 a1 K w).mp h)

/-- (*cloak/base.Disk).settle -/
def sh_44 (a0 : Value) (a1 : Value) (a2 : Value) (K : Value → World → Prop) (w : World) : Prop :=
 oM Try.prog (Go.Op.box 3 (.tmp 0)) 0 [a1] (fun v4_1 w =>
 stageM w (fun C_2 w => (pureH a0 (upto C_2 1) (fun v6_3 =>
 oH Try.prog (Go.Op.nilCheck (.tmp 0)) 0 [v6_3] (upto C_2 1) (fun v7_4 =>
 oH Try.prog (Go.Op.fieldAddr 54 (.tmp 0) 0) 0 [v7_4] (upto C_2 1) (fun v8_5 =>
 oH Try.prog (Go.Op.load 50 (.tmp 0)) 50 [v8_5] (upto C_2 1) (fun v9_6 =>
 oH Try.prog (Go.Op.load 3 (.tmp 0)) 3 [v4_1] (upto C_2 1) (fun v10_7 =>
 pureH a2 (upto C_2 0) (fun v11_8 =>
 pureH a2 (upto C_2 0) (fun v12_9 =>
 oM Try.prog (Go.Op.build 62 #[(0, (.tmp 0)), (1, (.tmp 1))]) 62 [v11_8, v12_9] (fun v13_10 w => C_2 1 w ∧ (
 oM Try.prog (Go.Op.mapUpdate 50 (.tmp 0) (.tmp 1) (.tmp 2)) 0 [v9_6, v10_7, v13_10] (fun _ w => C_2 2 w ∧ (
 oM Try.prog (Go.Op.nilCheck (.tmp 0)) 0 [a0] (fun v16_11 w =>
 oM Try.prog (Go.Op.fieldAddr 54 (.tmp 0) 1) 0 [v16_11] (fun v17_12 w =>
 oM Try.prog (Go.Op.load 52 (.tmp 0)) 52 [v17_12] (fun v18_13 w =>
 oM Try.prog (Go.Op.makeFunc (Go.Fn.func 56) #[] #[(.tmp 0)]) 81 [v4_1] (fun v19_14 w =>
 callM Try.prog 55 #[v18_13, v19_14] (fun v20_15 w =>
 oM Try.prog (Go.Op.nilCheck (.tmp 0)) 0 [a0] (fun v21_16 w =>
 oM Try.prog (Go.Op.fieldAddr 54 (.tmp 0) 1) 0 [v21_16] (fun v22_17 w =>
 oM Try.prog (Go.Op.store 52 (.tmp 0) (.tmp 1)) 0 [v22_17, v20_15] (fun _ w =>
 oM Try.prog (Go.Op.nilCheck (.tmp 0)) 0 [a0] (fun v24_18 w =>
 oM Try.prog (Go.Op.fieldAddr 54 (.tmp 0) 2) 0 [v24_18] (fun v25_19 w =>
 oM Try.prog (Go.Op.load 51 (.tmp 0)) 51 [v25_19] (fun v26_20 w =>
 oM Try.prog (Go.Op.makeFunc (Go.Fn.func 58) #[] #[(.tmp 0)]) 83 [v4_1] (fun v27_21 w =>
 callM Try.prog 57 #[v26_20, v27_21] (fun v28_22 w =>
 K (.tuple #[]) w) w) w) w) w) w) w) w) w) w) w) w) w) w)) w)) w)))))))))) w
theorem sh_44_eq (a0 : Value) (a1 : Value) (a2 : Value) (K : Value → World → Prop) (w : World) : sh_44 a0 a1 a2 K w = code Try.prog (fun _ => 3) 29 (Try.f44.body.getD .skip) (slotsAt [a0, a1, a2]) (retK Try.prog [] K) w := by kernel_rfl
theorem sh_44_ok {a0 a1 a2 : Value} {K : Value → World → Prop} {w : World} (h : sh_44 a0 a1 a2 K w) : callM Try.prog 44 #[a0, a1, a2] K w :=
  calls_of_code (fun _ => 3) (fn := Try.f44) (rs := []) Try.func44 rfl rfl (by kernel_rfl) (Nat.le_of_ble_eq_true rfl) ((sh_44_eq a0 a1 a2 K w).mp h)

/-- (*cloak/cloakref01.Disk).may -/
def sh_45 (a0 : Value) (a1 : Value) (K : Value → World → Prop) (w : World) : Prop :=
 oM Try.prog (Go.Op.nilCheck (.tmp 0)) 0 [a0] (fun v6_1 w =>
 oM Try.prog (Go.Op.fieldAddr 58 (.tmp 0) 3) 0 [v6_1] (fun v7_2 w =>
 oM Try.prog (Go.Op.load 4 (.tmp 0)) 4 [v7_2] (fun v8_3 w =>
 condM v8_3
 (K (.int .i64 8) w)
 (oM Try.prog (Go.Op.binOp Go.BinOp.lss 3 (.tmp 0) (.tmp 1) 3) 4 [a1, (.int .i64 0)] (fun v10_4 w =>
 gdM (gd v10_4 false) (pureM a1) (fun v12_5 w =>
 gdM (gd v10_4 false) (oM Try.prog (Go.Op.binOp Go.BinOp.gtr 3 (.tmp 0) (.tmp 1) 3) 4 [v12_5, (.int .i64 15)]) (fun v13_6 w =>
 oM Try.prog (Go.Op.pick (.tmp 0) (.tmp 1) (.tmp 2)) 4 [v10_4, (.bool true), v13_6] (fun v14_7 w =>
 condM v14_7
 (K (.int .i64 1) w)
 (K (.int .i64 0) w)) w) w) w) w)) w) w) w
theorem sh_45_eq (a0 : Value) (a1 : Value) (K : Value → World → Prop) (w : World) : sh_45 a0 a1 K w = code Try.prog (fun _ => 0) 15 (Try.f45.body.getD .skip) (slotsAt [a0, a1]) (retK Try.prog [.tmp 4] K) w := by kernel_rfl
theorem sh_45_ok {a0 a1 : Value} {K : Value → World → Prop} {w : World} (h : sh_45 a0 a1 K w) : callM Try.prog 45 #[a0, a1] K w :=
  calls_of_code (fun _ => 0) (fn := Try.f45) (rs := [.tmp 4]) Try.func45 rfl rfl (by kernel_rfl) (Nat.le_of_ble_eq_true rfl) ((sh_45_eq a0 a1 K w).mp h)

/-- cloak/base.put -/
def sh_46 (a0 : Value) (a1 : Value) (a2 : Value) (K : Value → World → Prop) (w : World) : Prop :=
 oM Try.prog (Go.Op.binOp Go.BinOp.eql 9 (.tmp 0) (.const (.string ⟨#[]⟩)) 9) 4 [a2] (fun v9_1 w =>
 condM v9_1
 (K a0 w)
 (oM Try.prog (Go.Op.call (Go.Call.mk (Go.Callee.builtin Go.Builtin.len) #[(.tmp 0)] #[9])) 3 [a0] (fun v12_2 w =>
 oM Try.prog (Go.Op.call (Go.Call.mk (Go.Callee.builtin Go.Builtin.len) #[(.tmp 0)] #[9])) 3 [a2] (fun v15_3 w =>
 oM Try.prog (Go.Op.binOp Go.BinOp.add 3 (.tmp 0) (.tmp 1) 3) 3 [a1, v15_3] (fun v16_4 w =>
 oM Try.prog (Go.Op.call (Go.Call.mk (Go.Callee.builtin Go.Builtin.max) #[(.tmp 0), (.tmp 1)] #[3, 3])) 3 [v12_2, v16_4] (fun v17_5 w =>
 oM Try.prog (Go.Op.makeSlice 84 (.tmp 0) (.tmp 1)) 84 [v17_5, v17_5] (fun v18_6 w =>
 oM Try.prog (Go.Op.call (Go.Call.mk (Go.Callee.builtin Go.Builtin.copy) #[(.tmp 0), (.tmp 1)] #[84, 9])) 3 [v18_6, a0] (fun v21_7 w =>
 oM Try.prog (Go.Op.slice 84 (.tmp 0) (some (.tmp 1)) none none) 84 [v18_6, a1] (fun v24_8 w =>
 oM Try.prog (Go.Op.call (Go.Call.mk (Go.Callee.builtin Go.Builtin.copy) #[(.tmp 0), (.tmp 1)] #[84, 9])) 3 [v24_8, a2] (fun v26_9 w =>
 oM Try.prog (Go.Op.convert 84 9 (.tmp 0)) 9 [v18_6] (fun v28_10 w =>
 K v28_10 w) w) w) w) w) w) w) w) w) w)) w
theorem sh_46_eq (a0 : Value) (a1 : Value) (a2 : Value) (K : Value → World → Prop) (w : World) : sh_46 a0 a1 a2 K w = code Try.prog (fun _ => 0) 29 (Try.f46.body.getD .skip) (slotsAt [a0, a1, a2]) (retK Try.prog [.tmp 6] K) w := by kernel_rfl
theorem sh_46_ok {a0 a1 a2 : Value} {K : Value → World → Prop} {w : World} (h : sh_46 a0 a1 a2 K w) : callM Try.prog 46 #[a0, a1, a2] K w :=
  calls_of_code (fun _ => 0) (fn := Try.f46) (rs := [.tmp 6]) Try.func46 rfl rfl (by kernel_rfl) (Nat.le_of_ble_eq_true rfl) ((sh_46_eq a0 a1 a2 K w).mp h)

/-- slices.Clone[[]int,int] -/
def sh_47 (a0 : Value) (K : Value → World → Prop) (w : World) : Prop :=
 oM Try.prog (Go.Op.binOp Go.BinOp.eql 31 (.tmp 0) (.const (.slice none 0 0)) 31) 4 [a0] (fun v4_1 w =>
 condM v4_1
 (K (.slice none 0 0) w)
 (oM Try.prog (Go.Op.buildSlice 31 0 #[]) 31 [] (fun v5_2 w =>
 oM Try.prog (Go.Op.call (Go.Call.mk (Go.Callee.builtin Go.Builtin.append) #[(.tmp 0), (.tmp 1)] #[31, 31])) 31 [v5_2, a0] (fun v7_3 w =>
 K v7_3 w) w) w)) w
theorem sh_47_eq (a0 : Value) (K : Value → World → Prop) (w : World) : sh_47 a0 K w = code Try.prog (fun _ => 0) 8 (Try.f47.body.getD .skip) (slotsAt [a0]) (retK Try.prog [.tmp 2] K) w := by kernel_rfl
theorem sh_47_ok {a0 : Value} {K : Value → World → Prop} {w : World} (h : sh_47 a0 K w) : callM Try.prog 47 #[a0] K w :=
  calls_of_code (fun _ => 0) (fn := Try.f47) (rs := [.tmp 2]) Try.func47 rfl rfl (by kernel_rfl) (Nat.le_of_ble_eq_true rfl) ((sh_47_eq a0 K w).mp h)

/-- (*cloak/base.Disk).write -/
def sh_48 (a0 : Value) (a1 : Value) (a2 : Value) (a3 : Value) (K : Value → World → Prop) (w : World) : Prop :=
 callM Try.prog 43 #[a0, a1] (fun v15_1 w =>
 oM Try.prog (Go.Op.binOp Go.BinOp.neq 29 (.tmp 0) (.const (.int .i64 0)) 29) 4 [v15_1] (fun v17_2 w =>
 condM v17_2
 (K v15_1 w)
 (oM Try.prog (Go.Op.binOp Go.BinOp.lss 3 (.tmp 0) (.tmp 1) 3) 4 [a2, (.int .i64 0)] (fun v21_3 w =>
 condM v21_3
 (K (.int .i64 1) w)
 (oM Try.prog (Go.Op.binOp Go.BinOp.gtr 3 (.tmp 0) (.tmp 1) 3) 4 [a2, (.int .i64 16777216)] (fun v24_4 w =>
 gdM (gd v24_4 false) (pureM a3) (fun v26_5 w =>
 gdM (gd v24_4 false) (oM Try.prog (Go.Op.call (Go.Call.mk (Go.Callee.builtin Go.Builtin.len) #[(.tmp 0)] #[9])) 3 [v26_5]) (fun v27_6 w =>
 gdM (gd v24_4 false) (pureM a2) (fun v28_7 w =>
 gdM (gd v24_4 false) (oM Try.prog (Go.Op.binOp Go.BinOp.sub 3 (.tmp 0) (.tmp 1) 3) 3 [(.int .i64 16777216), v28_7]) (fun v29_8 w =>
 gdM (gd v24_4 false) (oM Try.prog (Go.Op.binOp Go.BinOp.gtr 3 (.tmp 0) (.tmp 1) 3) 4 [v27_6, v29_8]) (fun v30_9 w =>
 oM Try.prog (Go.Op.pick (.tmp 0) (.tmp 1) (.tmp 2)) 4 [v24_4, (.bool true), v30_9] (fun v31_10 w =>
 condM v31_10
 (K (.int .i64 6) w)
 (oM Try.prog (Go.Op.binOp Go.BinOp.eql 9 (.tmp 0) (.const (.string ⟨#[]⟩)) 9) 4 [a3] (fun v34_11 w =>
 condM v34_11
 (K (.int .i64 0) w)
 (oM Try.prog (Go.Op.nilCheck (.tmp 0)) 0 [a0] (fun v36_12 w =>
 oM Try.prog (Go.Op.fieldAddr 54 (.tmp 0) 0) 0 [v36_12] (fun v37_13 w =>
 oM Try.prog (Go.Op.load 50 (.tmp 0)) 50 [v37_13] (fun v38_14 w =>
 oM Try.prog (Go.Op.lookup 50 (.tmp 0) (.tmp 1) false) 62 [v38_14, a1] (fun v40_15 w =>
 oM Try.prog (Go.Op.alloc 62) 0 [] (fun v10_16 w =>
 oM Try.prog (Go.Op.store 62 (.tmp 0) (.tmp 1)) 0 [v10_16, v40_15] (fun _ w =>
 oM Try.prog (Go.Op.fieldAddr 62 (.tmp 0) 0) 0 [v10_16] (fun v41_17 w =>
 oM Try.prog (Go.Op.load 9 (.tmp 0)) 9 [v41_17] (fun v42_18 w =>
 callM Try.prog 46 #[v42_18, a2, a3] (fun v45_19 w =>
 oM Try.prog (Go.Op.fieldAddr 62 (.tmp 0) 0) 0 [v10_16] (fun v46_20 w =>
 oM Try.prog (Go.Op.store 9 (.tmp 0) (.tmp 1)) 0 [v46_20, v45_19] (fun _ w =>
 stageM w (fun C_21 w => (pureH a0 (upto C_21 0) (fun v47_22 =>
 oH Try.prog (Go.Op.nilCheck (.tmp 0)) 0 [v47_22] (upto C_21 0) (fun v48_23 =>
 oH Try.prog (Go.Op.fieldAddr 54 (.tmp 0) 0) 0 [v48_23] (upto C_21 0) (fun v49_24 =>
 oH Try.prog (Go.Op.load 50 (.tmp 0)) 50 [v49_24] (upto C_21 0) (fun v50_25 =>
 pureH a1 (upto C_21 0) (fun v51_26 =>
 oH Try.prog (Go.Op.load 62 (.tmp 0)) 62 [v10_16] (upto C_21 0) (fun v52_27 =>
 oM Try.prog (Go.Op.mapUpdate 50 (.tmp 0) (.tmp 1) (.tmp 2)) 0 [v50_25, v51_26, v52_27] (fun _ w => C_21 1 w ∧ (
 oM Try.prog (Go.Op.binOp Go.BinOp.quo 3 (.tmp 0) (.tmp 1) 3) 3 [a2, (.int .i64 64)] (fun v54_28 w =>
 loopM [v54_28] w (fun J_29 m_30 l_31 u_l_31 w0_l_31 => (fun w => (
 oM Try.prog (Go.Op.call (Go.Call.mk (Go.Callee.builtin Go.Builtin.len) #[(.tmp 0)] #[9])) 3 [a3] (fun v58_32 w =>
 oM Try.prog (Go.Op.binOp Go.BinOp.add 3 (.tmp 0) (.tmp 1) 3) 3 [a2, v58_32] (fun v59_33 w =>
 oM Try.prog (Go.Op.binOp Go.BinOp.sub 3 (.tmp 0) (.tmp 1) 3) 3 [v59_33, (.int .i64 1)] (fun v60_34 w =>
 oM Try.prog (Go.Op.binOp Go.BinOp.quo 3 (.tmp 0) (.tmp 1) 3) 3 [v60_34, (.int .i64 64)] (fun v61_35 w =>
 oM Try.prog (Go.Op.binOp Go.BinOp.leq 3 (.tmp 0) (.tmp 1) 3) 4 [(l_31.getD 0 undef), v61_35] (fun v62_36 w =>
 condM v62_36
 (joinM (fun M_37 => (oM Try.prog (Go.Op.build 69 #[(0, (.tmp 0)), (1, (.tmp 1))]) 69 [a1, (l_31.getD 0 undef)] (fun v67_39 w =>
 oM Try.prog (Go.Op.alloc 69) 0 [] (fun v12_40 w =>
 oM Try.prog (Go.Op.store 69 (.tmp 0) (.tmp 1)) 0 [v12_40, v67_39] (fun _ w =>
 stageM w (fun C_41 w => (pureH a0 (upto C_41 0) (fun v68_42 =>
 oH Try.prog (Go.Op.nilCheck (.tmp 0)) 0 [v68_42] (upto C_41 0) (fun v69_43 =>
 oH Try.prog (Go.Op.fieldAddr 54 (.tmp 0) 2) 0 [v69_43] (upto C_41 0) (fun v70_44 =>
 oH Try.prog (Go.Op.load 51 (.tmp 0)) 51 [v70_44] (upto C_41 0) (fun v71_45 =>
 oH Try.prog (Go.Op.load 69 (.tmp 0)) 69 [v12_40] (upto C_41 0) (fun v72_46 =>
 oH Try.prog (Go.Op.lookup 51 (.tmp 0) (.tmp 1) false) 4 [v71_45, v72_46] (upto C_41 0) (fun v73_47 =>
 oH Try.prog (Go.Op.unOp Go.UnOp.not 4 (.tmp 0)) 4 [v73_47] (upto C_41 0) (fun v74_48 =>
 condM v74_48
 (stageM w (fun C_49 w => (pureH a0 (upto C_49 2) (fun v75_50 =>
 pureH a0 (upto C_49 2) (fun v76_51 =>
 oH Try.prog (Go.Op.nilCheck (.tmp 0)) 0 [v76_51] (upto C_49 2) (fun v77_52 =>
 oH Try.prog (Go.Op.fieldAddr 54 (.tmp 0) 2) 0 [v77_52] (upto C_49 2) (fun v78_53 =>
 oH Try.prog (Go.Op.load 51 (.tmp 0)) 51 [v78_53] (upto C_49 2) (fun v79_54 =>
 oH Try.prog (Go.Op.load 69 (.tmp 0)) 69 [v12_40] (upto C_49 5) (fun v80_55 =>
 pureH a0 (upto C_49 1) (fun v81_56 =>
 oH Try.prog (Go.Op.nilCheck (.tmp 0)) 0 [v81_56] (upto C_49 1) (fun v82_57 =>
 oH Try.prog (Go.Op.fieldAddr 54 (.tmp 0) 1) 0 [v82_57] (upto C_49 1) (fun v83_58 =>
 oH Try.prog (Go.Op.load 52 (.tmp 0)) 52 [v83_58] (upto C_49 1) (fun v84_59 =>
 oH Try.prog (Go.Op.load 69 (.tmp 0)) 69 [v12_40] (upto C_49 0) (fun v85_60 =>
 oM Try.prog (Go.Op.buildSlice 52 1 #[(0, (.tmp 0))]) 52 [v85_60] (fun v86_61 w => C_49 1 w ∧ (
 oM Try.prog (Go.Op.call (Go.Call.mk (Go.Callee.builtin Go.Builtin.append) #[(.tmp 0), (.tmp 1)] #[52, 52])) 52 [v84_59, v86_61] (fun v87_62 w => C_49 2 w ∧ (
 oM Try.prog (Go.Op.nilCheck (.tmp 0)) 0 [v75_50] (fun v88_63 w => C_49 3 w ∧ (
 oM Try.prog (Go.Op.fieldAddr 54 (.tmp 0) 1) 0 [v88_63] (fun v89_64 w => C_49 4 w ∧ (
 oM Try.prog (Go.Op.store 52 (.tmp 0) (.tmp 1)) 0 [v89_64, v87_62] (fun _ w => C_49 5 w ∧ (
 oM Try.prog (Go.Op.mapEntry 51 (.tmp 0) (.tmp 1)) 0 [v79_54, v80_55] (fun v90_65 w => C_49 6 w ∧ (
 oM Try.prog (Go.Op.extract (.tmp 0) 1) 3 [v90_65] (fun v91_66 w => C_49 7 w ∧ (
 oM Try.prog (Go.Op.entryStore 51 (.tmp 0) (.tmp 1) (.tmp 2)) 0 [v79_54, v91_66, (.bool true)] (fun _ w => C_49 8 w ∧ (
 M_37 [] w)) w)) w)) w)) w)) w)) w)) w)) w))))))))))))))
 (M_37 [] w))))))))))) w) w) w))
 (fun l_38 u_l_38 w => (oM Try.prog (Go.Op.binOp Go.BinOp.add 3 (.tmp 0) (.tmp 1) 3) 3 [(l_31.getD 0 undef), (.int .i64 1)] (fun v64_67 w =>
 J_29 [v64_67] w ∧ m_30 [v64_67] w < m_30 l_31 w0_l_31) w)))
 (K (.int .i64 0) w)) w) w) w) w) w)) w0_l_31)) w)) w))))))))) w) w) w) w) w) w) w) w) w) w) w)) w)) w) w) w) w) w) w) w)) w)) w) w
theorem sh_48_eq (a0 : Value) (a1 : Value) (a2 : Value) (a3 : Value) (K : Value → World → Prop) (w : World) : sh_48 a0 a1 a2 a3 K w = code Try.prog (fun _ => 3) 92 (Try.f48.body.getD .skip) (slotsAt [a0, a1, a2, a3]) (retK Try.prog [.tmp 8] K) w := by kernel_rfl
theorem sh_48_ok {a0 a1 a2 a3 : Value} {K : Value → World → Prop} {w : World} (h : sh_48 a0 a1 a2 a3 K w) : callM Try.prog 48 #[a0, a1, a2, a3] K w :=
  calls_of_code (fun _ => 3) (fn := Try.f48) (rs := [.tmp 8]) Try.func48 rfl rfl (by kernel_rfl) (Nat.le_of_ble_eq_true rfl) ((sh_48_eq a0 a1 a2 a3 K w).mp h)

/-- (*cloak/cloakref01.Disk).comes -/
def sh_49 (a0 : Value) (a1 : Value) (a2 : Value) (a3 : Value) (K : Value → World → Prop) (w : World) : Prop :=
 oM Try.prog (Go.Op.nilCheck (.tmp 0)) 0 [a0] (fun v9_1 w =>
 oM Try.prog (Go.Op.fieldAddr 58 (.tmp 0) 3) 0 [v9_1] (fun v10_2 w =>
 oM Try.prog (Go.Op.load 4 (.tmp 0)) 4 [v10_2] (fun v11_3 w =>
 gdM (gd v11_3 false) (pureM a0) (fun v13_4 w =>
 gdM (gd v11_3 false) (oM Try.prog (Go.Op.nilCheck (.tmp 0)) 0 [v13_4]) (fun v14_5 w =>
 gdM (gd v11_3 false) (oM Try.prog (Go.Op.fieldAddr 58 (.tmp 0) 4) 0 [v14_5]) (fun v15_6 w =>
 gdM (gd v11_3 false) (oM Try.prog (Go.Op.load 3 (.tmp 0)) 3 [v15_6]) (fun v16_7 w =>
 gdM (gd v11_3 false) (oM Try.prog (Go.Op.binOp Go.BinOp.eql 3 (.tmp 0) (.const (.int .i64 0)) 3) 4 [v16_7]) (fun v17_8 w =>
 oM Try.prog (Go.Op.pick (.tmp 0) (.tmp 1) (.tmp 2)) 4 [v11_3, (.bool true), v17_8] (fun v18_9 w =>
 condM v18_9
 (K (.tuple #[]) w)
 (oM Try.prog (Go.Op.nilCheck (.tmp 0)) 0 [a0] (fun v20_10 w =>
 oM Try.prog (Go.Op.fieldAddr 58 (.tmp 0) 4) 0 [v20_10] (fun v21_11 w =>
 oM Try.prog (Go.Op.load 3 (.tmp 0)) 3 [v21_11] (fun v22_12 w =>
 oM Try.prog (Go.Op.binOp Go.BinOp.sub 3 (.tmp 0) (.tmp 1) 3) 3 [v22_12, (.int .i64 1)] (fun v23_13 w =>
 oM Try.prog (Go.Op.nilCheck (.tmp 0)) 0 [a0] (fun v24_14 w =>
 oM Try.prog (Go.Op.fieldAddr 58 (.tmp 0) 4) 0 [v24_14] (fun v25_15 w =>
 oM Try.prog (Go.Op.store 3 (.tmp 0) (.tmp 1)) 0 [v25_15, v23_13] (fun _ w =>
 oM Try.prog (Go.Op.nilCheck (.tmp 0)) 0 [a0] (fun v27_16 w =>
 oM Try.prog (Go.Op.fieldAddr 58 (.tmp 0) 4) 0 [v27_16] (fun v28_17 w =>
 oM Try.prog (Go.Op.load 3 (.tmp 0)) 3 [v28_17] (fun v29_18 w =>
 oM Try.prog (Go.Op.binOp Go.BinOp.gtr 3 (.tmp 0) (.tmp 1) 3) 4 [v29_18, (.int .i64 0)] (fun v30_19 w =>
 condM v30_19
 (K (.tuple #[]) w)
 (joinM (fun M_20 => (oM Try.prog (Go.Op.binOp Go.BinOp.geq 3 (.tmp 0) (.tmp 1) 3) 4 [a1, (.int .i64 0)] (fun v32_22 w =>
 gdM (gd v32_22 true) (pureM a1) (fun v34_23 w =>
 gdM (gd v32_22 true) (oM Try.prog (Go.Op.binOp Go.BinOp.leq 3 (.tmp 0) (.tmp 1) 3) 4 [v34_23, (.int .i64 15)]) (fun v35_24 w =>
 oM Try.prog (Go.Op.pick (.tmp 0) (.tmp 1) (.tmp 2)) 4 [v32_22, v35_24, (.bool false)] (fun v36_25 w =>
 gdM (gd v36_25 true) (pureM a2) (fun v38_26 w =>
 gdM (gd v36_25 true) (pureM a3) (fun v39_27 w =>
 gdM (gd v36_25 true) (callM Try.prog 52 #[v38_26, v39_27]) (fun v40_28 w =>
 oM Try.prog (Go.Op.pick (.tmp 0) (.tmp 1) (.tmp 2)) 4 [v36_25, v40_28, (.bool false)] (fun v41_29 w =>
 condM v41_29
 (callM Try.prog 53 #[a0, a1, a2, a3] (fun v46_30 w =>
 M_20 [] w) w)
 (M_20 [] w)) w) w) w) w) w) w) w) w))
 (fun l_21 u_l_21 w => (oM Try.prog (Go.Op.nilCheck (.tmp 0)) 0 [a0] (fun v49_31 w =>
 oM Try.prog (Go.Op.fieldAddr 58 (.tmp 0) 5) 0 [v49_31] (fun v50_32 w =>
 oM Try.prog (Go.Op.load 31 (.tmp 0)) 31 [v50_32] (fun v51_33 w =>
 callM Try.prog 35 #[a0, v51_33] (fun v52_34 w =>
 K (.tuple #[]) w) w) w) w) w)))) w) w) w) w) w) w) w) w) w) w) w)) w) w) w) w) w) w) w) w) w
theorem sh_49_eq (a0 : Value) (a1 : Value) (a2 : Value) (a3 : Value) (K : Value → World → Prop) (w : World) : sh_49 a0 a1 a2 a3 K w = code Try.prog (fun _ => 0) 53 (Try.f49.body.getD .skip) (slotsAt [a0, a1, a2, a3]) (retK Try.prog [] K) w := by kernel_rfl
theorem sh_49_ok {a0 a1 a2 a3 : Value} {K : Value → World → Prop} {w : World} (h : sh_49 a0 a1 a2 a3 K w) : callM Try.prog 49 #[a0, a1, a2, a3] K w :=
  calls_of_code (fun _ => 0) (fn := Try.f49) (rs := []) Try.func49 rfl rfl (by kernel_rfl) (Nat.le_of_ble_eq_true rfl) ((sh_49_eq a0 a1 a2 a3 K w).mp h)

/-- (*cloak/cloakref01.Disk).settle -/
def sh_50 (a0 : Value) (a1 : Value) (a2 : Value) (K : Value → World → Prop) (w : World) : Prop :=
 oM Try.prog (Go.Op.build 64 #[(0, (.tmp 0)), (1, (.tmp 1)), (2, (.tmp 2))]) 64 [a1, a2, a2] (fun v12_1 w =>
 callM Try.prog 59 #[a0, v12_1] (fun v13_2 w =>
 loopM [(.slice none 0 0), (.int .i64 0)] w (fun J_3 m_4 l_5 u_l_5 w0_l_5 => (fun w => (
 oM Try.prog (Go.Op.nilCheck (.tmp 0)) 0 [a0] (fun v16_6 w =>
 oM Try.prog (Go.Op.fieldAddr 58 (.tmp 0) 1) 0 [v16_6] (fun v17_7 w =>
 oM Try.prog (Go.Op.load 56 (.tmp 0)) 56 [v17_7] (fun v18_8 w =>
 oM Try.prog (Go.Op.call (Go.Call.mk (Go.Callee.builtin Go.Builtin.len) #[(.tmp 0)] #[56])) 3 [v18_8] (fun v19_9 w =>
 oM Try.prog (Go.Op.binOp Go.BinOp.lss 3 (.tmp 0) (.tmp 1) 3) 4 [(l_5.getD 1 undef), v19_9] (fun v20_10 w =>
 condM v20_10
 (joinM (fun M_11 => (oM Try.prog (Go.Op.nilCheck (.tmp 0)) 0 [a0] (fun v24_13 w =>
 oM Try.prog (Go.Op.fieldAddr 58 (.tmp 0) 1) 0 [v24_13] (fun v25_14 w =>
 oM Try.prog (Go.Op.load 56 (.tmp 0)) 56 [v25_14] (fun v26_15 w =>
 oM Try.prog (Go.Op.indexAddr 56 (.tmp 0) (.tmp 1)) 0 [v26_15, (l_5.getD 1 undef)] (fun v28_16 w =>
 oM Try.prog (Go.Op.fieldAddr 77 (.tmp 0) 0) 0 [v28_16] (fun v29_17 w =>
 oM Try.prog (Go.Op.load 3 (.tmp 0)) 3 [v29_17] (fun v30_18 w =>
 oM Try.prog (Go.Op.binOp Go.BinOp.neq 3 (.tmp 0) (.tmp 1) 3) 4 [v30_18, a1] (fun v32_19 w =>
 condM v32_19
 (oM Try.prog (Go.Op.nilCheck (.tmp 0)) 0 [a0] (fun v35_20 w =>
 oM Try.prog (Go.Op.fieldAddr 58 (.tmp 0) 1) 0 [v35_20] (fun v36_21 w =>
 oM Try.prog (Go.Op.load 56 (.tmp 0)) 56 [v36_21] (fun v37_22 w =>
 oM Try.prog (Go.Op.indexAddr 56 (.tmp 0) (.tmp 1)) 0 [v37_22, (l_5.getD 1 undef)] (fun v39_23 w =>
 oM Try.prog (Go.Op.load 77 (.tmp 0)) 77 [v39_23] (fun v40_24 w =>
 oM Try.prog (Go.Op.buildSlice 56 1 #[(0, (.tmp 0))]) 56 [v40_24] (fun v41_25 w =>
 oM Try.prog (Go.Op.call (Go.Call.mk (Go.Callee.builtin Go.Builtin.append) #[(.tmp 0), (.tmp 1)] #[56, 56])) 56 [(l_5.getD 0 undef), v41_25] (fun v42_26 w =>
 M_11 [v42_26] w) w) w) w) w) w) w) w)
 (M_11 [(l_5.getD 0 undef)] w)) w) w) w) w) w) w) w))
 (fun l_12 u_l_12 w => (oM Try.prog (Go.Op.binOp Go.BinOp.add 3 (.tmp 0) (.tmp 1) 3) 3 [(l_5.getD 1 undef), (.int .i64 1)] (fun v22_27 w =>
 J_3 [(l_12.getD 0 undef), v22_27] w ∧ m_4 [(l_12.getD 0 undef), v22_27] w < m_4 l_5 w0_l_5) w)))
 (oM Try.prog (Go.Op.nilCheck (.tmp 0)) 0 [a0] (fun v45_28 w =>
 oM Try.prog (Go.Op.fieldAddr 58 (.tmp 0) 1) 0 [v45_28] (fun v46_29 w =>
 oM Try.prog (Go.Op.store 56 (.tmp 0) (.tmp 1)) 0 [v46_29, (l_5.getD 0 undef)] (fun _ w =>
 K (.tuple #[]) w) w) w) w)) w) w) w) w) w)) w0_l_5)) w) w
theorem sh_50_eq (a0 : Value) (a1 : Value) (a2 : Value) (K : Value → World → Prop) (w : World) : sh_50 a0 a1 a2 K w = code Try.prog (fun _ => 0) 47 (Try.f50.body.getD .skip) (slotsAt [a0, a1, a2]) (retK Try.prog [] K) w := by kernel_rfl
theorem sh_50_ok {a0 a1 a2 : Value} {K : Value → World → Prop} {w : World} (h : sh_50 a0 a1 a2 K w) : callM Try.prog 50 #[a0, a1, a2] K w :=
  calls_of_code (fun _ => 0) (fn := Try.f50) (rs := []) Try.func50 rfl rfl (by kernel_rfl) (Nat.le_of_ble_eq_true rfl) ((sh_50_eq a0 a1 a2 K w).mp h)

/-- (*cloak/cloakref01.Disk).survive -/
def sh_51 (a0 : Value) (a1 : Value) (K : Value → World → Prop) (w : World) : Prop :=
 oM Try.prog (Go.Op.box 77 (.tmp 0)) 0 [a1] (fun v3_1 w =>
 oM Try.prog (Go.Op.fieldAddr 77 (.tmp 0) 0) 0 [v3_1] (fun v6_2 w =>
 oM Try.prog (Go.Op.load 3 (.tmp 0)) 3 [v6_2] (fun v7_3 w =>
 callM Try.prog 38 #[a0, v7_3] (fun v8_4 w =>
 oM Try.prog (Go.Op.alloc 64) 0 [] (fun v4_5 w =>
 oM Try.prog (Go.Op.store 64 (.tmp 0) (.tmp 1)) 0 [v4_5, v8_4] (fun _ w =>
 joinM (fun M_6 => (oM Try.prog (Go.Op.fieldAddr 77 (.tmp 0) 1) 0 [v3_1] (fun v9_8 w =>
 oM Try.prog (Go.Op.load 3 (.tmp 0)) 3 [v9_8] (fun v10_9 w =>
 oM Try.prog (Go.Op.binOp Go.BinOp.mul 3 (.tmp 0) (.tmp 1) 3) 3 [(.int .i64 64), v10_9] (fun v11_10 w =>
 oM Try.prog (Go.Op.fieldAddr 64 (.tmp 0) 1) 0 [v4_5] (fun v12_11 w =>
 oM Try.prog (Go.Op.load 9 (.tmp 0)) 9 [v12_11] (fun v13_12 w =>
 oM Try.prog (Go.Op.call (Go.Call.mk (Go.Callee.builtin Go.Builtin.len) #[(.tmp 0)] #[9])) 3 [v13_12] (fun v14_13 w =>
 oM Try.prog (Go.Op.binOp Go.BinOp.lss 3 (.tmp 0) (.tmp 1) 3) 4 [v11_10, v14_13] (fun v15_14 w =>
 condM v15_14
 (quietM w (fun C_15 => (oQ Try.prog (Go.Op.fieldAddr 64 (.tmp 0) 2) 0 [v4_5] C_15 (fun v16_16 =>
 oQ Try.prog (Go.Op.load 9 (.tmp 0)) 9 [v16_16] C_15 (fun v17_17 =>
 oQ Try.prog (Go.Op.fieldAddr 77 (.tmp 0) 1) 0 [v3_1] C_15 (fun v18_18 =>
 oQ Try.prog (Go.Op.load 3 (.tmp 0)) 3 [v18_18] C_15 (fun v19_19 =>
 oQ Try.prog (Go.Op.binOp Go.BinOp.mul 3 (.tmp 0) (.tmp 1) 3) 3 [(.int .i64 64), v19_19] C_15 (fun v20_20 =>
 oQ Try.prog (Go.Op.fieldAddr 64 (.tmp 0) 1) 0 [v4_5] C_15 (fun v21_21 =>
 oQ Try.prog (Go.Op.load 9 (.tmp 0)) 9 [v21_21] C_15 (fun v22_22 =>
 oQ Try.prog (Go.Op.fieldAddr 77 (.tmp 0) 1) 0 [v3_1] C_15 (fun v23_23 =>
 oQ Try.prog (Go.Op.load 3 (.tmp 0)) 3 [v23_23] C_15 (fun v24_24 =>
 oQ Try.prog (Go.Op.binOp Go.BinOp.mul 3 (.tmp 0) (.tmp 1) 3) 3 [(.int .i64 64), v24_24] C_15 (fun v25_25 =>
 oQ Try.prog (Go.Op.fieldAddr 77 (.tmp 0) 1) 0 [v3_1] C_15 (fun v26_26 =>
 oQ Try.prog (Go.Op.load 3 (.tmp 0)) 3 [v26_26] C_15 (fun v27_27 =>
 oQ Try.prog (Go.Op.binOp Go.BinOp.mul 3 (.tmp 0) (.tmp 1) 3) 3 [(.int .i64 64), v27_27] C_15 (fun v28_28 =>
 oQ Try.prog (Go.Op.binOp Go.BinOp.add 3 (.tmp 0) (.tmp 1) 3) 3 [v28_28, (.int .i64 64)] C_15 (fun v29_29 =>
 oQ Try.prog (Go.Op.fieldAddr 64 (.tmp 0) 1) 0 [v4_5] C_15 (fun v30_30 =>
 oQ Try.prog (Go.Op.load 9 (.tmp 0)) 9 [v30_30] C_15 (fun v31_31 =>
 oQ Try.prog (Go.Op.call (Go.Call.mk (Go.Callee.builtin Go.Builtin.len) #[(.tmp 0)] #[9])) 3 [v31_31] C_15 (fun v32_32 =>
 oQ Try.prog (Go.Op.call (Go.Call.mk (Go.Callee.builtin Go.Builtin.min) #[(.tmp 0), (.tmp 1)] #[3, 3])) 3 [v29_29, v32_32] C_15 (fun v33_33 =>
 oQ Try.prog (Go.Op.slice 9 (.tmp 0) (some (.tmp 1)) (some (.tmp 2)) none) 9 [v22_22, v25_25, v33_33] C_15 (fun v34_34 =>
 callQ Try.prog 60 #[v17_17, v20_20, v34_34] C_15 (fun v35_35 =>
 oQ Try.prog (Go.Op.fieldAddr 64 (.tmp 0) 2) 0 [v4_5] C_15 (fun v36_36 =>
 oQ Try.prog (Go.Op.store 9 (.tmp 0) (.tmp 1)) 0 [v36_36, v35_35] C_15 (fun _ =>
 ∀ w, C_15 w → (M_6 [] w))))))))))))))))))))))))))
 (M_6 [] w)) w) w) w) w) w) w) w))
 (fun l_7 u_l_7 w => (oM Try.prog (Go.Op.load 64 (.tmp 0)) 64 [v4_5] (fun v38_37 w =>
 callM Try.prog 59 #[a0, v38_37] (fun v39_38 w =>
 K (.tuple #[]) w) w) w))) w) w) w) w) w) w
theorem sh_51_eq (a0 : Value) (a1 : Value) (K : Value → World → Prop) (w : World) : sh_51 a0 a1 K w = code Try.prog (fun _ => 0) 40 (Try.f51.body.getD .skip) (slotsAt [a0, a1]) (retK Try.prog [] K) w := by kernel_rfl
theorem sh_51_ok {a0 a1 : Value} {K : Value → World → Prop} {w : World} (h : sh_51 a0 a1 K w) : callM Try.prog 51 #[a0, a1] K w :=
  calls_of_code (fun _ => 0) (fn := Try.f51) (rs := []) Try.func51 rfl rfl (by kernel_rfl) (Nat.le_of_ble_eq_true rfl) ((sh_51_eq a0 a1 K w).mp h)

/-- cloak/cloakref01.fits -/
def sh_52 (a0 : Value) (a1 : Value) (K : Value → World → Prop) (w : World) : Prop :=
 oM Try.prog (Go.Op.binOp Go.BinOp.geq 3 (.tmp 0) (.tmp 1) 3) 4 [a0, (.int .i64 0)] (fun v6_1 w =>
 gdM (gd v6_1 true) (pureM a0) (fun v8_2 w =>
 gdM (gd v6_1 true) (oM Try.prog (Go.Op.binOp Go.BinOp.leq 3 (.tmp 0) (.tmp 1) 3) 4 [v8_2, (.int .i64 16777216)]) (fun v9_3 w =>
 oM Try.prog (Go.Op.pick (.tmp 0) (.tmp 1) (.tmp 2)) 4 [v6_1, v9_3, (.bool false)] (fun v10_4 w =>
 gdM (gd v10_4 true) (pureM a0) (fun v12_5 w =>
 gdM (gd v10_4 true) (pureM a1) (fun v13_6 w =>
 gdM (gd v10_4 true) (oM Try.prog (Go.Op.call (Go.Call.mk (Go.Callee.builtin Go.Builtin.len) #[(.tmp 0)] #[9])) 3 [v13_6]) (fun v14_7 w =>
 gdM (gd v10_4 true) (oM Try.prog (Go.Op.binOp Go.BinOp.add 3 (.tmp 0) (.tmp 1) 3) 3 [v12_5, v14_7]) (fun v15_8 w =>
 gdM (gd v10_4 true) (oM Try.prog (Go.Op.binOp Go.BinOp.leq 3 (.tmp 0) (.tmp 1) 3) 4 [v15_8, (.int .i64 16777216)]) (fun v16_9 w =>
 oM Try.prog (Go.Op.pick (.tmp 0) (.tmp 1) (.tmp 2)) 4 [v10_4, v16_9, (.bool false)] (fun v17_10 w =>
 K v17_10 w) w) w) w) w) w) w) w) w) w) w
theorem sh_52_eq (a0 : Value) (a1 : Value) (K : Value → World → Prop) (w : World) : sh_52 a0 a1 K w = code Try.prog (fun _ => 0) 18 (Try.f52.body.getD .skip) (slotsAt [a0, a1]) (retK Try.prog [.tmp 4] K) w := by kernel_rfl
theorem sh_52_ok {a0 a1 : Value} {K : Value → World → Prop} {w : World} (h : sh_52 a0 a1 K w) : callM Try.prog 52 #[a0, a1] K w :=
  calls_of_code (fun _ => 0) (fn := Try.f52) (rs := [.tmp 4]) Try.func52 rfl rfl (by kernel_rfl) (Nat.le_of_ble_eq_true rfl) ((sh_52_eq a0 a1 K w).mp h)

/-- (*cloak/cloakref01.Disk).add -/
def sh_53 (a0 : Value) (a1 : Value) (a2 : Value) (a3 : Value) (K : Value → World → Prop) (w : World) : Prop :=
 oM Try.prog (Go.Op.binOp Go.BinOp.eql 9 (.tmp 0) (.const (.string ⟨#[]⟩)) 9) 4 [a3] (fun v11_1 w =>
 condM v11_1
 (K (.tuple #[]) w)
 (callM Try.prog 38 #[a0, a1] (fun v14_2 w =>
 oM Try.prog (Go.Op.alloc 64) 0 [] (fun v8_3 w =>
 oM Try.prog (Go.Op.store 64 (.tmp 0) (.tmp 1)) 0 [v8_3, v14_2] (fun _ w =>
 oM Try.prog (Go.Op.fieldAddr 64 (.tmp 0) 1) 0 [v8_3] (fun v15_4 w =>
 oM Try.prog (Go.Op.load 9 (.tmp 0)) 9 [v15_4] (fun v16_5 w =>
 callM Try.prog 60 #[v16_5, a2, a3] (fun v19_6 w =>
 oM Try.prog (Go.Op.fieldAddr 64 (.tmp 0) 1) 0 [v8_3] (fun v20_7 w =>
 oM Try.prog (Go.Op.store 9 (.tmp 0) (.tmp 1)) 0 [v20_7, v19_6] (fun _ w =>
 oM Try.prog (Go.Op.load 64 (.tmp 0)) 64 [v8_3] (fun v22_8 w =>
 callM Try.prog 59 #[a0, v22_8] (fun v23_9 w =>
 oM Try.prog (Go.Op.binOp Go.BinOp.quo 3 (.tmp 0) (.tmp 1) 3) 3 [a2, (.int .i64 64)] (fun v25_10 w =>
 loopM [v25_10] w (fun J_11 m_12 l_13 u_l_13 w0_l_13 => (fun w => (
 oM Try.prog (Go.Op.call (Go.Call.mk (Go.Callee.builtin Go.Builtin.len) #[(.tmp 0)] #[9])) 3 [a3] (fun v29_14 w =>
 oM Try.prog (Go.Op.binOp Go.BinOp.add 3 (.tmp 0) (.tmp 1) 3) 3 [a2, v29_14] (fun v30_15 w =>
 oM Try.prog (Go.Op.binOp Go.BinOp.sub 3 (.tmp 0) (.tmp 1) 3) 3 [v30_15, (.int .i64 1)] (fun v31_16 w =>
 oM Try.prog (Go.Op.binOp Go.BinOp.quo 3 (.tmp 0) (.tmp 1) 3) 3 [v31_16, (.int .i64 64)] (fun v32_17 w =>
 oM Try.prog (Go.Op.binOp Go.BinOp.leq 3 (.tmp 0) (.tmp 1) 3) 4 [(l_13.getD 0 undef), v32_17] (fun v33_18 w =>
 condM v33_18
 (joinM (fun M_19 => (callM Try.prog 61 #[a0, a1, (l_13.getD 0 undef)] (fun v39_21 w =>
 oM Try.prog (Go.Op.unOp Go.UnOp.not 4 (.tmp 0)) 4 [v39_21] (fun v40_22 w =>
 condM v40_22
 (oM Try.prog (Go.Op.nilCheck (.tmp 0)) 0 [a0] (fun v43_23 w =>
 oM Try.prog (Go.Op.fieldAddr 58 (.tmp 0) 1) 0 [v43_23] (fun v44_24 w =>
 oM Try.prog (Go.Op.load 56 (.tmp 0)) 56 [v44_24] (fun v45_25 w =>
 oM Try.prog (Go.Op.build 77 #[(0, (.tmp 0)), (1, (.tmp 1))]) 77 [a1, (l_13.getD 0 undef)] (fun v48_26 w =>
 oM Try.prog (Go.Op.buildSlice 56 1 #[(0, (.tmp 0))]) 56 [v48_26] (fun v49_27 w =>
 oM Try.prog (Go.Op.call (Go.Call.mk (Go.Callee.builtin Go.Builtin.append) #[(.tmp 0), (.tmp 1)] #[56, 56])) 56 [v45_25, v49_27] (fun v50_28 w =>
 oM Try.prog (Go.Op.nilCheck (.tmp 0)) 0 [a0] (fun v51_29 w =>
 oM Try.prog (Go.Op.fieldAddr 58 (.tmp 0) 1) 0 [v51_29] (fun v52_30 w =>
 oM Try.prog (Go.Op.store 56 (.tmp 0) (.tmp 1)) 0 [v52_30, v50_28] (fun _ w =>
 M_19 [] w) w) w) w) w) w) w) w) w) w)
 (M_19 [] w)) w) w))
 (fun l_20 u_l_20 w => (oM Try.prog (Go.Op.binOp Go.BinOp.add 3 (.tmp 0) (.tmp 1) 3) 3 [(l_13.getD 0 undef), (.int .i64 1)] (fun v35_31 w =>
 J_11 [v35_31] w ∧ m_12 [v35_31] w < m_12 l_13 w0_l_13) w)))
 (K (.tuple #[]) w)) w) w) w) w) w)) w0_l_13)) w) w) w) w) w) w) w) w) w) w) w)) w
theorem sh_53_eq (a0 : Value) (a1 : Value) (a2 : Value) (a3 : Value) (K : Value → World → Prop) (w : World) : sh_53 a0 a1 a2 a3 K w = code Try.prog (fun _ => 0) 53 (Try.f53.body.getD .skip) (slotsAt [a0, a1, a2, a3]) (retK Try.prog [] K) w := by kernel_rfl
theorem sh_53_ok {a0 a1 a2 a3 : Value} {K : Value → World → Prop} {w : World} (h : sh_53 a0 a1 a2 a3 K w) : callM Try.prog 53 #[a0, a1, a2, a3] K w :=
  calls_of_code (fun _ => 0) (fn := Try.f53) (rs := []) Try.func53 rfl rfl (by kernel_rfl) (Nat.le_of_ble_eq_true rfl) ((sh_53_eq a0 a1 a2 a3 K w).mp h)

/-- slices.DeleteFunc[[]cloak/base.sector,cloak/base.sector] -/
def sh_55 (a0 : Value) (a1 : Value) (K : Value → World → Prop) (w : World) : Prop :=
 callM Try.prog 62 #[a0, a1] (fun v10_1 w =>
 oM Try.prog (Go.Op.binOp Go.BinOp.eql 3 (.tmp 0) (.const (.int .i64 (-1))) 3) 4 [v10_1] (fun v12_2 w =>
 condM v12_2
 (K a0 w)
 (oM Try.prog (Go.Op.binOp Go.BinOp.add 3 (.tmp 0) (.tmp 1) 3) 3 [v10_1, (.int .i64 1)] (fun v15_3 w =>
 loopM [v10_1, v15_3] w (fun J_4 m_5 l_6 u_l_6 w0_l_6 => (fun w => (
 oM Try.prog (Go.Op.call (Go.Call.mk (Go.Callee.builtin Go.Builtin.len) #[(.tmp 0)] #[52])) 3 [a0] (fun v18_7 w =>
 oM Try.prog (Go.Op.binOp Go.BinOp.lss 3 (.tmp 0) (.tmp 1) 3) 4 [(l_6.getD 1 undef), v18_7] (fun v19_8 w =>
 condM v19_8
 (joinM (fun M_9 => (oM Try.prog (Go.Op.indexAddr 52 (.tmp 0) (.tmp 1)) 0 [a0, (l_6.getD 1 undef)] (fun v24_11 w =>
 oM Try.prog (Go.Op.load 69 (.tmp 0)) 69 [v24_11] (fun v25_12 w =>
 oM Try.prog (Go.Op.alloc 69) 0 [] (fun v7_13 w =>
 oM Try.prog (Go.Op.store 69 (.tmp 0) (.tmp 1)) 0 [v7_13, v25_12] (fun _ w =>
 oM Try.prog (Go.Op.load 69 (.tmp 0)) 69 [v7_13] (fun v27_14 w =>
 oM Try.prog (Go.Op.call (Go.Call.mk (Go.Callee.value (.tmp 0)) #[(.tmp 1)] #[69])) 4 [a1, v27_14] (fun v28_15 w =>
 oM Try.prog (Go.Op.unOp Go.UnOp.not 4 (.tmp 0)) 4 [v28_15] (fun v29_16 w =>
 condM v29_16
 (oM Try.prog (Go.Op.load 69 (.tmp 0)) 69 [v7_13] (fun v32_17 w =>
 oM Try.prog (Go.Op.indexAddr 52 (.tmp 0) (.tmp 1)) 0 [a0, (l_6.getD 0 undef)] (fun v33_18 w =>
 oM Try.prog (Go.Op.store 69 (.tmp 0) (.tmp 1)) 0 [v33_18, v32_17] (fun _ w =>
 oM Try.prog (Go.Op.binOp Go.BinOp.add 3 (.tmp 0) (.tmp 1) 3) 3 [(l_6.getD 0 undef), (.int .i64 1)] (fun v35_19 w =>
 M_9 [v35_19] w) w) w) w) w)
 (M_9 [(l_6.getD 0 undef)] w)) w) w) w) w) w) w) w))
 (fun l_10 u_l_10 w => (oM Try.prog (Go.Op.binOp Go.BinOp.add 3 (.tmp 0) (.tmp 1) 3) 3 [(l_6.getD 1 undef), (.int .i64 1)] (fun v21_20 w =>
 J_4 [(l_10.getD 0 undef), v21_20] w ∧ m_5 [(l_10.getD 0 undef), v21_20] w < m_5 l_6 w0_l_6) w)))
 (oM Try.prog (Go.Op.slice 52 (.tmp 0) (some (.tmp 1)) none none) 52 [a0, (l_6.getD 0 undef)] (fun v38_21 w =>
 oM Try.prog (Go.Op.call (Go.Call.mk (Go.Callee.builtin Go.Builtin.clear) #[(.tmp 0)] #[52])) 0 [v38_21] (fun _ w =>
 oM Try.prog (Go.Op.slice 52 (.tmp 0) none (some (.tmp 1)) none) 52 [a0, (l_6.getD 0 undef)] (fun v41_22 w =>
 K v41_22 w) w) w) w)) w) w)) w0_l_6)) w)) w) w
theorem sh_55_eq (a0 : Value) (a1 : Value) (K : Value → World → Prop) (w : World) : sh_55 a0 a1 K w = code Try.prog (fun _ => 0) 42 (Try.f55.body.getD .skip) (slotsAt [a0, a1]) (retK Try.prog [.tmp 4] K) w := by kernel_rfl
theorem sh_55_ok {a0 a1 : Value} {K : Value → World → Prop} {w : World} (h : sh_55 a0 a1 K w) : callM Try.prog 55 #[a0, a1] K w :=
  calls_of_code (fun _ => 0) (fn := Try.f55) (rs := [.tmp 4]) Try.func55 rfl rfl (by kernel_rfl) (Nat.le_of_ble_eq_true rfl) ((sh_55_eq a0 a1 K w).mp h)

/-- (*cloak/base.Disk).settle$1 -/
def sh_56 (a0 : Value) (a1 : Value) (K : Value → World → Prop) (w : World) : Prop :=
 oM Try.prog (Go.Op.box 69 (.tmp 0)) 0 [a0] (fun v2_1 w =>
 oM Try.prog (Go.Op.fieldAddr 69 (.tmp 0) 0) 0 [v2_1] (fun v4_2 w =>
 oM Try.prog (Go.Op.load 3 (.tmp 0)) 3 [v4_2] (fun v5_3 w =>
 oM Try.prog (Go.Op.load 3 (.tmp 0)) 3 [a1] (fun v6_4 w =>
 oM Try.prog (Go.Op.binOp Go.BinOp.eql 3 (.tmp 0) (.tmp 1) 3) 4 [v5_3, v6_4] (fun v7_5 w =>
 K v7_5 w) w) w) w) w) w
theorem sh_56_eq (a0 : Value) (a1 : Value) (K : Value → World → Prop) (w : World) : sh_56 a0 a1 K w = code Try.prog (fun _ => 0) 8 (Try.f56.body.getD .skip) (slotsAt [a0, a1]) (retK Try.prog [.tmp 3] K) w := by kernel_rfl
theorem sh_56_ok {a0 a1 : Value} {K : Value → World → Prop} {w : World} (h : sh_56 a0 a1 K w) : callM Try.prog 56 #[a0, a1] K w :=
  calls_of_code (fun _ => 0) (fn := Try.f56) (rs := [.tmp 3]) Try.func56 rfl rfl (by kernel_rfl) (Nat.le_of_ble_eq_true rfl) ((sh_56_eq a0 a1 K w).mp h)

/-- maps.DeleteFunc[map[cloak/base.sector]bool,cloak/base.sector,bool] -/
def sh_57 (a0 : Value) (a1 : Value) (K : Value → World → Prop) (w : World) : Prop :=
 oM Try.prog (Go.Op.range 51 (.tmp 0)) 0 [a0] (fun v7_1 w =>
 loopM [undef] w (fun J_2 m_3 l_4 u_l_4 w0_l_4 => (fun w => (
 oM Try.prog (Go.Op.next (.tmp 0) false) 0 [v7_1] (fun v8_5 w =>
 oM Try.prog (Go.Op.extract (.tmp 0) 0) 4 [v8_5] (fun v9_6 w =>
 condM v9_6
 (oM Try.prog (Go.Op.entry (.tmp 0)) 0 [v7_1] (fun v10_7 w =>
 oM Try.prog (Go.Op.extract (.tmp 0) 0) 69 [v10_7] (fun v11_8 w =>
 oM Try.prog (Go.Op.extract (.tmp 0) 1) 4 [v10_7] (fun v12_9 w =>
 oM Try.prog (Go.Op.alloc 69) 0 [] (fun v4_10 w =>
 oM Try.prog (Go.Op.store 69 (.tmp 0) (.tmp 1)) 0 [v4_10, v11_8] (fun _ w =>
 oM Try.prog (Go.Op.load 69 (.tmp 0)) 69 [v4_10] (fun v14_11 w =>
 oM Try.prog (Go.Op.call (Go.Call.mk (Go.Callee.value (.tmp 0)) #[(.tmp 1), (.tmp 2)] #[69, 4])) 4 [a1, v14_11, v12_9] (fun v16_12 w =>
 condM v16_12
 (oM Try.prog (Go.Op.load 69 (.tmp 0)) 69 [v4_10] (fun v18_13 w =>
 oM Try.prog (Go.Op.call (Go.Call.mk (Go.Callee.builtin Go.Builtin.delete) #[(.tmp 0), (.tmp 1)] #[51, 69])) 0 [a0, v18_13] (fun _ w =>
 J_2 [v12_9] w ∧ m_3 [v12_9] w < m_3 l_4 w0_l_4) w) w)
 (J_2 [v12_9] w ∧ m_3 [v12_9] w < m_3 l_4 w0_l_4)) w) w) w) w) w) w) w)
 (K (.tuple #[]) w)) w) w)) w0_l_4)) w
theorem sh_57_eq (a0 : Value) (a1 : Value) (K : Value → World → Prop) (w : World) : sh_57 a0 a1 K w = code Try.prog (fun _ => 0) 19 (Try.f57.body.getD .skip) (slotsAt [a0, a1]) (retK Try.prog [] K) w := by kernel_rfl
theorem sh_57_ok {a0 a1 : Value} {K : Value → World → Prop} {w : World} (h : sh_57 a0 a1 K w) : callM Try.prog 57 #[a0, a1] K w :=
  calls_of_code (fun _ => 0) (fn := Try.f57) (rs := []) Try.func57 rfl rfl (by kernel_rfl) (Nat.le_of_ble_eq_true rfl) ((sh_57_eq a0 a1 K w).mp h)

/-- (*cloak/base.Disk).settle$2 -/
def sh_58 (a0 : Value) (a1 : Value) (a2 : Value) (K : Value → World → Prop) (w : World) : Prop :=
 oM Try.prog (Go.Op.box 69 (.tmp 0)) 0 [a0] (fun v3_1 w =>
 oM Try.prog (Go.Op.fieldAddr 69 (.tmp 0) 0) 0 [v3_1] (fun v6_2 w =>
 oM Try.prog (Go.Op.load 3 (.tmp 0)) 3 [v6_2] (fun v7_3 w =>
 oM Try.prog (Go.Op.load 3 (.tmp 0)) 3 [a2] (fun v8_4 w =>
 oM Try.prog (Go.Op.binOp Go.BinOp.eql 3 (.tmp 0) (.tmp 1) 3) 4 [v7_3, v8_4] (fun v9_5 w =>
 K v9_5 w) w) w) w) w) w
theorem sh_58_eq (a0 : Value) (a1 : Value) (a2 : Value) (K : Value → World → Prop) (w : World) : sh_58 a0 a1 a2 K w = code Try.prog (fun _ => 0) 10 (Try.f58.body.getD .skip) (slotsAt [a0, a1, a2]) (retK Try.prog [.tmp 5] K) w := by kernel_rfl
theorem sh_58_ok {a0 a1 a2 : Value} {K : Value → World → Prop} {w : World} (h : sh_58 a0 a1 a2 K w) : callM Try.prog 58 #[a0, a1, a2] K w :=
  calls_of_code (fun _ => 0) (fn := Try.f58) (rs := [.tmp 5]) Try.func58 rfl rfl (by kernel_rfl) (Nat.le_of_ble_eq_true rfl) ((sh_58_eq a0 a1 a2 K w).mp h)

/-- (*cloak/cloakref01.Disk).set -/
def sh_59 (a0 : Value) (a1 : Value) (K : Value → World → Prop) (w : World) : Prop :=
 oM Try.prog (Go.Op.box 64 (.tmp 0)) 0 [a1] (fun v3_1 w =>
 loopM [(.slice none 0 0), (.int .i64 0)] w (fun J_2 m_3 l_4 u_l_4 w0_l_4 => (fun w => (
 oM Try.prog (Go.Op.nilCheck (.tmp 0)) 0 [a0] (fun v8_5 w =>
 oM Try.prog (Go.Op.fieldAddr 58 (.tmp 0) 0) 0 [v8_5] (fun v9_6 w =>
 oM Try.prog (Go.Op.load 55 (.tmp 0)) 55 [v9_6] (fun v10_7 w =>
 oM Try.prog (Go.Op.call (Go.Call.mk (Go.Callee.builtin Go.Builtin.len) #[(.tmp 0)] #[55])) 3 [v10_7] (fun v11_8 w =>
 oM Try.prog (Go.Op.binOp Go.BinOp.lss 3 (.tmp 0) (.tmp 1) 3) 4 [(l_4.getD 1 undef), v11_8] (fun v12_9 w =>
 condM v12_9
 (joinM (fun M_10 => (quietM w (fun C_12 => (oQ Try.prog (Go.Op.nilCheck (.tmp 0)) 0 [a0] C_12 (fun v16_13 =>
 oQ Try.prog (Go.Op.fieldAddr 58 (.tmp 0) 0) 0 [v16_13] C_12 (fun v17_14 =>
 oQ Try.prog (Go.Op.load 55 (.tmp 0)) 55 [v17_14] C_12 (fun v18_15 =>
 oQ Try.prog (Go.Op.indexAddr 55 (.tmp 0) (.tmp 1)) 0 [v18_15, (l_4.getD 1 undef)] C_12 (fun v20_16 =>
 oQ Try.prog (Go.Op.fieldAddr 64 (.tmp 0) 0) 0 [v20_16] C_12 (fun v21_17 =>
 oQ Try.prog (Go.Op.load 3 (.tmp 0)) 3 [v21_17] C_12 (fun v22_18 =>
 oQ Try.prog (Go.Op.fieldAddr 64 (.tmp 0) 0) 0 [v3_1] C_12 (fun v23_19 =>
 oQ Try.prog (Go.Op.load 3 (.tmp 0)) 3 [v23_19] C_12 (fun v24_20 =>
 oQ Try.prog (Go.Op.binOp Go.BinOp.neq 3 (.tmp 0) (.tmp 1) 3) 4 [v22_18, v24_20] C_12 (fun v25_21 =>
 ∀ w, C_12 w → (condM v25_21
 (oM Try.prog (Go.Op.nilCheck (.tmp 0)) 0 [a0] (fun v28_22 w =>
 oM Try.prog (Go.Op.fieldAddr 58 (.tmp 0) 0) 0 [v28_22] (fun v29_23 w =>
 oM Try.prog (Go.Op.load 55 (.tmp 0)) 55 [v29_23] (fun v30_24 w =>
 oM Try.prog (Go.Op.indexAddr 55 (.tmp 0) (.tmp 1)) 0 [v30_24, (l_4.getD 1 undef)] (fun v32_25 w =>
 oM Try.prog (Go.Op.load 64 (.tmp 0)) 64 [v32_25] (fun v33_26 w =>
 oM Try.prog (Go.Op.buildSlice 55 1 #[(0, (.tmp 0))]) 55 [v33_26] (fun v34_27 w =>
 oM Try.prog (Go.Op.call (Go.Call.mk (Go.Callee.builtin Go.Builtin.append) #[(.tmp 0), (.tmp 1)] #[55, 55])) 55 [(l_4.getD 0 undef), v34_27] (fun v35_28 w =>
 M_10 [v35_28] w) w) w) w) w) w) w) w)
 (M_10 [(l_4.getD 0 undef)] w)))))))))))))))
 (fun l_11 u_l_11 w => (oM Try.prog (Go.Op.binOp Go.BinOp.add 3 (.tmp 0) (.tmp 1) 3) 3 [(l_4.getD 1 undef), (.int .i64 1)] (fun v14_29 w =>
 J_2 [(l_11.getD 0 undef), v14_29] w ∧ m_3 [(l_11.getD 0 undef), v14_29] w < m_3 l_4 w0_l_4) w)))
 (oM Try.prog (Go.Op.load 64 (.tmp 0)) 64 [v3_1] (fun v38_30 w =>
 oM Try.prog (Go.Op.buildSlice 55 1 #[(0, (.tmp 0))]) 55 [v38_30] (fun v39_31 w =>
 oM Try.prog (Go.Op.call (Go.Call.mk (Go.Callee.builtin Go.Builtin.append) #[(.tmp 0), (.tmp 1)] #[55, 55])) 55 [(l_4.getD 0 undef), v39_31] (fun v40_32 w =>
 oM Try.prog (Go.Op.nilCheck (.tmp 0)) 0 [a0] (fun v41_33 w =>
 oM Try.prog (Go.Op.fieldAddr 58 (.tmp 0) 0) 0 [v41_33] (fun v42_34 w =>
 oM Try.prog (Go.Op.store 55 (.tmp 0) (.tmp 1)) 0 [v42_34, v40_32] (fun _ w =>
 K (.tuple #[]) w) w) w) w) w) w) w)) w) w) w) w) w)) w0_l_4)) w
theorem sh_59_eq (a0 : Value) (a1 : Value) (K : Value → World → Prop) (w : World) : sh_59 a0 a1 K w = code Try.prog (fun _ => 0) 43 (Try.f59.body.getD .skip) (slotsAt [a0, a1]) (retK Try.prog [] K) w := by kernel_rfl
theorem sh_59_ok {a0 a1 : Value} {K : Value → World → Prop} {w : World} (h : sh_59 a0 a1 K w) : callM Try.prog 59 #[a0, a1] K w :=
  calls_of_code (fun _ => 0) (fn := Try.f59) (rs := []) Try.func59 rfl rfl (by kernel_rfl) (Nat.le_of_ble_eq_true rfl) ((sh_59_eq a0 a1 K w).mp h)

/-- cloak/cloakref01.Put -/
def sh_60 (a0 : Value) (a1 : Value) (a2 : Value) (K : Value → World → Prop) (w : World) : Prop :=
 oM Try.prog (Go.Op.binOp Go.BinOp.eql 9 (.tmp 0) (.const (.string ⟨#[]⟩)) 9) 4 [a2] (fun v10_1 w =>
 condM v10_1
 (K a0 w)
 (oM Try.prog (Go.Op.convert 9 84 (.tmp 0)) 84 [a0] (fun v13_2 w =>
 loopM [v13_2] w (fun J_3 m_4 l_5 u_l_5 w0_l_5 => (fun w => (
 oM Try.prog (Go.Op.call (Go.Call.mk (Go.Callee.builtin Go.Builtin.len) #[(.tmp 0)] #[84])) 3 [(l_5.getD 0 undef)] (fun v15_6 w =>
 oM Try.prog (Go.Op.call (Go.Call.mk (Go.Callee.builtin Go.Builtin.len) #[(.tmp 0)] #[9])) 3 [a2] (fun v18_7 w =>
 oM Try.prog (Go.Op.binOp Go.BinOp.add 3 (.tmp 0) (.tmp 1) 3) 3 [a1, v18_7] (fun v19_8 w =>
 oM Try.prog (Go.Op.binOp Go.BinOp.lss 3 (.tmp 0) (.tmp 1) 3) 4 [v15_6, v19_8] (fun v20_9 w =>
 condM v20_9
 (oM Try.prog (Go.Op.buildSlice 84 1 #[(0, (.tmp 0))]) 84 [(.int .u8 0)] (fun v22_10 w =>
 oM Try.prog (Go.Op.call (Go.Call.mk (Go.Callee.builtin Go.Builtin.append) #[(.tmp 0), (.tmp 1)] #[84, 84])) 84 [(l_5.getD 0 undef), v22_10] (fun v23_11 w =>
 J_3 [v23_11] w ∧ m_4 [v23_11] w < m_4 l_5 w0_l_5) w) w)
 (loopM [(.int .i64 0)] w (fun J_12 m_13 l_14 u_l_14 w0_l_14 => (fun w => (
 oM Try.prog (Go.Op.call (Go.Call.mk (Go.Callee.builtin Go.Builtin.len) #[(.tmp 0)] #[9])) 3 [a2] (fun v26_15 w =>
 oM Try.prog (Go.Op.binOp Go.BinOp.lss 3 (.tmp 0) (.tmp 1) 3) 4 [(l_14.getD 0 undef), v26_15] (fun v27_16 w =>
 condM v27_16
 (oM Try.prog (Go.Op.binOp Go.BinOp.add 3 (.tmp 0) (.tmp 1) 3) 3 [a1, (l_14.getD 0 undef)] (fun v33_17 w =>
 oM Try.prog (Go.Op.index 9 (.tmp 0) (.tmp 1)) 5 [a2, (l_14.getD 0 undef)] (fun v36_18 w =>
 oM Try.prog (Go.Op.indexAddr 84 (.tmp 0) (.tmp 1)) 0 [(l_5.getD 0 undef), v33_17] (fun v37_19 w =>
 oM Try.prog (Go.Op.store 5 (.tmp 0) (.tmp 1)) 0 [v37_19, v36_18] (fun _ w =>
 oM Try.prog (Go.Op.binOp Go.BinOp.add 3 (.tmp 0) (.tmp 1) 3) 3 [(l_14.getD 0 undef), (.int .i64 1)] (fun v29_20 w =>
 J_12 [v29_20] w ∧ m_13 [v29_20] w < m_13 l_14 w0_l_14) w) w) w) w) w)
 (oM Try.prog (Go.Op.convert 84 9 (.tmp 0)) 9 [(l_5.getD 0 undef)] (fun v39_21 w =>
 K v39_21 w) w)) w) w)) w0_l_14))) w) w) w) w)) w0_l_5)) w)) w
theorem sh_60_eq (a0 : Value) (a1 : Value) (a2 : Value) (K : Value → World → Prop) (w : World) : sh_60 a0 a1 a2 K w = code Try.prog (fun _ => 0) 40 (Try.f60.body.getD .skip) (slotsAt [a0, a1, a2]) (retK Try.prog [.tmp 6] K) w := by kernel_rfl
theorem sh_60_ok {a0 a1 a2 : Value} {K : Value → World → Prop} {w : World} (h : sh_60 a0 a1 a2 K w) : callM Try.prog 60 #[a0, a1, a2] K w :=
  calls_of_code (fun _ => 0) (fn := Try.f60) (rs := [.tmp 6]) Try.func60 rfl rfl (by kernel_rfl) (Nat.le_of_ble_eq_true rfl) ((sh_60_eq a0 a1 a2 K w).mp h)

/-- (*cloak/cloakref01.Disk).pending -/
def sh_61 (a0 : Value) (a1 : Value) (a2 : Value) (K : Value → World → Prop) (w : World) : Prop :=
 loopM [(.bool false), (.int .i64 0)] w (fun J_1 m_2 l_3 u_l_3 w0_l_3 => (fun w => (
 oM Try.prog (Go.Op.nilCheck (.tmp 0)) 0 [a0] (fun v10_4 w =>
 oM Try.prog (Go.Op.fieldAddr 58 (.tmp 0) 1) 0 [v10_4] (fun v11_5 w =>
 oM Try.prog (Go.Op.load 56 (.tmp 0)) 56 [v11_5] (fun v12_6 w =>
 oM Try.prog (Go.Op.call (Go.Call.mk (Go.Callee.builtin Go.Builtin.len) #[(.tmp 0)] #[56])) 3 [v12_6] (fun v13_7 w =>
 oM Try.prog (Go.Op.binOp Go.BinOp.lss 3 (.tmp 0) (.tmp 1) 3) 4 [(l_3.getD 1 undef), v13_7] (fun v14_8 w =>
 condM v14_8
 (oM Try.prog (Go.Op.nilCheck (.tmp 0)) 0 [a0] (fun v18_9 w =>
 oM Try.prog (Go.Op.fieldAddr 58 (.tmp 0) 1) 0 [v18_9] (fun v19_10 w =>
 oM Try.prog (Go.Op.load 56 (.tmp 0)) 56 [v19_10] (fun v20_11 w =>
 oM Try.prog (Go.Op.indexAddr 56 (.tmp 0) (.tmp 1)) 0 [v20_11, (l_3.getD 1 undef)] (fun v22_12 w =>
 oM Try.prog (Go.Op.fieldAddr 77 (.tmp 0) 0) 0 [v22_12] (fun v23_13 w =>
 oM Try.prog (Go.Op.load 3 (.tmp 0)) 3 [v23_13] (fun v24_14 w =>
 oM Try.prog (Go.Op.binOp Go.BinOp.eql 3 (.tmp 0) (.tmp 1) 3) 4 [v24_14, a1] (fun v26_15 w =>
 gdM (gd v26_15 true) (pureM a0) (fun v28_16 w =>
 gdM (gd v26_15 true) (oM Try.prog (Go.Op.nilCheck (.tmp 0)) 0 [v28_16]) (fun v29_17 w =>
 gdM (gd v26_15 true) (oM Try.prog (Go.Op.fieldAddr 58 (.tmp 0) 1) 0 [v29_17]) (fun v30_18 w =>
 gdM (gd v26_15 true) (oM Try.prog (Go.Op.load 56 (.tmp 0)) 56 [v30_18]) (fun v31_19 w =>
 gdM (gd v26_15 true) (pureM (l_3.getD 1 undef)) (fun v32_20 w =>
 gdM (gd v26_15 true) (oM Try.prog (Go.Op.indexAddr 56 (.tmp 0) (.tmp 1)) 0 [v31_19, v32_20]) (fun v33_21 w =>
 gdM (gd v26_15 true) (oM Try.prog (Go.Op.fieldAddr 77 (.tmp 0) 1) 0 [v33_21]) (fun v34_22 w =>
 gdM (gd v26_15 true) (oM Try.prog (Go.Op.load 3 (.tmp 0)) 3 [v34_22]) (fun v35_23 w =>
 gdM (gd v26_15 true) (pureM a2) (fun v36_24 w =>
 gdM (gd v26_15 true) (oM Try.prog (Go.Op.binOp Go.BinOp.eql 3 (.tmp 0) (.tmp 1) 3) 4 [v35_23, v36_24]) (fun v37_25 w =>
 oM Try.prog (Go.Op.pick (.tmp 0) (.tmp 1) (.tmp 2)) 4 [v26_15, v37_25, (.bool false)] (fun v38_26 w =>
 condM v38_26
 (K (.bool true) w)
 (oM Try.prog (Go.Op.binOp Go.BinOp.add 3 (.tmp 0) (.tmp 1) 3) 3 [(l_3.getD 1 undef), (.int .i64 1)] (fun v16_27 w =>
 J_1 [(l_3.getD 0 undef), v16_27] w ∧ m_2 [(l_3.getD 0 undef), v16_27] w < m_2 l_3 w0_l_3) w)) w) w) w) w) w) w) w) w) w) w) w) w) w) w) w) w) w) w)
 (K (.bool false) w)) w) w) w) w) w)) w0_l_3)
theorem sh_61_eq (a0 : Value) (a1 : Value) (a2 : Value) (K : Value → World → Prop) (w : World) : sh_61 a0 a1 a2 K w = code Try.prog (fun _ => 0) 39 (Try.f61.body.getD .skip) (slotsAt [a0, a1, a2]) (retK Try.prog [.tmp 6] K) w := by kernel_rfl
theorem sh_61_ok {a0 a1 a2 : Value} {K : Value → World → Prop} {w : World} (h : sh_61 a0 a1 a2 K w) : callM Try.prog 61 #[a0, a1, a2] K w :=
  calls_of_code (fun _ => 0) (fn := Try.f61) (rs := [.tmp 6]) Try.func61 rfl rfl (by kernel_rfl) (Nat.le_of_ble_eq_true rfl) ((sh_61_eq a0 a1 a2 K w).mp h)

/-- slices.IndexFunc[[]cloak/base.sector,cloak/base.sector] -/
def sh_62 (a0 : Value) (a1 : Value) (K : Value → World → Prop) (w : World) : Prop :=
 oM Try.prog (Go.Op.call (Go.Call.mk (Go.Callee.builtin Go.Builtin.len) #[(.tmp 0)] #[52])) 3 [a0] (fun v7_1 w =>
 loopM [undef, (.int .i64 0), (.int .i64 0)] w (fun J_2 m_3 l_4 u_l_4 w0_l_4 => (fun w => (
 oM Try.prog (Go.Op.binOp Go.BinOp.lss 3 (.tmp 0) (.tmp 1) 3) 0 [(l_4.getD 2 undef), v7_1] (fun v9_5 w =>
 condM v9_5
 (oM Try.prog (Go.Op.indexAddr 52 (.tmp 0) (.tmp 1)) 0 [a0, (l_4.getD 2 undef)] (fun v14_6 w =>
 oM Try.prog (Go.Op.load 69 (.tmp 0)) 69 [v14_6] (fun v15_7 w =>
 oM Try.prog (Go.Op.call (Go.Call.mk (Go.Callee.value (.tmp 0)) #[(.tmp 1)] #[69])) 4 [a1, v15_7] (fun v16_8 w =>
 condM v16_8
 (K (l_4.getD 2 undef) w)
 (oM Try.prog (Go.Op.binOp Go.BinOp.add 3 (.tmp 0) (.tmp 1) 3) 3 [(l_4.getD 2 undef), (.int .i64 1)] (fun v18_9 w =>
 J_2 [(l_4.getD 2 undef), (l_4.getD 1 undef), v18_9] w ∧ m_3 [(l_4.getD 2 undef), (l_4.getD 1 undef), v18_9] w < m_3 l_4 w0_l_4) w)) w) w) w)
 (K (.int .i64 (-1)) w)) w)) w0_l_4)) w
theorem sh_62_eq (a0 : Value) (a1 : Value) (K : Value → World → Prop) (w : World) : sh_62 a0 a1 K w = code Try.prog (fun _ => 0) 19 (Try.f62.body.getD .skip) (slotsAt [a0, a1]) (retK Try.prog [.tmp 4] K) w := by kernel_rfl
theorem sh_62_ok {a0 a1 : Value} {K : Value → World → Prop} {w : World} (h : sh_62 a0 a1 K w) : callM Try.prog 62 #[a0, a1] K w :=
  calls_of_code (fun _ => 0) (fn := Try.f62) (rs := [.tmp 4]) Try.func62 rfl rfl (by kernel_rfl) (Nat.le_of_ble_eq_true rfl) ((sh_62_eq a0 a1 K w).mp h)

end Go.Proofs
