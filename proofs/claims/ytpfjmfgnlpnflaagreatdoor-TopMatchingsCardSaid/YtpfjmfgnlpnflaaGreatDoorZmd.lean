/- Parts of the proof of the seat's statements (HFo, FoA, FoB, FoC, FoD, HRa, HRb, RfA, RfB, RfC, RfD, RfE, RfF, RfG, RfH, RfI, TcF, RgA, FqA, FoE, FoF, FoG, FoH, FoI, FqB, FqC, FqG, FqI, FqJ, FqK0, HiSpec, HiExp, HiLaw, HiDot, HiCore, CoSpec, FqD, FqE, FqF, CoLaw, CoLaw2, CoLaw3, FqL, FoJ, FoK, FdPoly, FdInv, FdThr, PrUnit, GrLaw, FdPr, GrPr, TpA, TpB, TpC, TpD, TpE, TpF, TpG, TpH, TpI, TpJ, TpK, TpL, TpM, TzA): lemmas about the given translation and plain laws. No condition of their own. -/
import Derived.Test.YtpfjmfgnlpnflaaGreatDoorZmc
import Derived.Test.YtpfjmfgnlpnflaaGreatDoorMrf
import Derived.Test.YtpfjmfgnlpnflaaGreatDoorProg
import Derived.Laws.IdiomStrings
set_option linter.all false
set_option maxRecDepth 100000
set_option linter.unusedVariables false
set_option maxRecDepth 100000
namespace Go.Proofs
open Go.Sh
def sh_16 (a0 : Value) (a1 : Value) (a2 : Value) (a3 : Value) (a4 : Value) (a5 : Value) (a6 : Value) (K : Value → World → Prop) (w : World) : Prop :=
 oM Tryz.prog (.box 32 (.tmp 0)) 0 [a0] (fun v7_1 w =>
 oM Tryz.prog (.box 24 (.tmp 0)) 0 [a1] (fun v8_2 w =>
 oM Tryz.prog (.box 39 (.tmp 0)) 0 [a3] (fun v10_3 w =>
 oM Tryz.prog (.box 45 (.tmp 0)) 0 [a4] (fun v11_4 w =>
 oM Tryz.prog (.box 39 (.tmp 0)) 0 [a5] (fun v12_5 w =>
 oM Tryz.prog (.alloc 45) 0 [] (fun v14_6 w =>
 oM Tryz.prog (.load 32 (.tmp 0)) 32 [v7_1] (fun v29_7 w =>
 oM Tryz.prog (.load 39 (.tmp 0)) 39 [v10_3] (fun v31_8 w =>
 oM Tryz.prog (.load 45 (.tmp 0)) 45 [v11_4] (fun v32_9 w =>
 callM Tryz.prog 72 #[v29_7, a2, v31_8, v32_9] (fun v33_10 w =>
 oM Tryz.prog (.extract (.tmp 0) 0) 41 [v33_10] (fun v34_11 w =>
 oM Tryz.prog (.extract (.tmp 0) 1) 4 [v33_10] (fun v35_12 w =>
 oM Tryz.prog (.alloc 41) 0 [] (fun v16_13 w =>
 oM Tryz.prog (.store 41 (.tmp 0) (.tmp 1)) 0 [v16_13, v34_11] (fun _ w =>
 oM Tryz.prog (.load 32 (.tmp 0)) 32 [v7_1] (fun v37_14 w =>
 oM Tryz.prog (.fieldAddr 39 (.tmp 0) 0) 0 [v10_3] (fun v38_15 w =>
 oM Tryz.prog (.load 22 (.tmp 0)) 22 [v38_15] (fun v39_16 w =>
 oM Tryz.prog (.load 45 (.tmp 0)) 45 [v11_4] (fun v40_17 w =>
 callM Tryz.prog 15 #[v37_14, v39_16, v40_17, a6] (fun v42_18 w =>
 oM Tryz.prog (.extract (.tmp 0) 0) 49 [v42_18] (fun v43_19 w =>
 oM Tryz.prog (.extract (.tmp 0) 1) 4 [v42_18] (fun v44_20 w =>
 oM Tryz.prog (.alloc 49) 0 [] (fun v18_21 w =>
 oM Tryz.prog (.store 49 (.tmp 0) (.tmp 1)) 0 [v18_21, v43_19] (fun _ w =>
 oM Tryz.prog (.load 32 (.tmp 0)) 32 [v7_1] (fun v46_22 w =>
 oM Tryz.prog (.fieldAddr 39 (.tmp 0) 0) 0 [v12_5] (fun v47_23 w =>
 oM Tryz.prog (.load 22 (.tmp 0)) 22 [v47_23] (fun v48_24 w =>
 callM Tryz.prog 67 #[v46_22, v48_24] (fun v49_25 w =>
 oM Tryz.prog (.extract (.tmp 0) 0) 116 [v49_25] (fun v50_26 w =>
 oM Tryz.prog (.extract (.tmp 0) 1) 3 [v49_25] (fun v51_27 w =>
 oM Tryz.prog (.extract (.tmp 0) 2) 4 [v49_25] (fun v52_28 w =>
 oM Tryz.prog (.alloc 116) 0 [] (fun v20_29 w =>
 oM Tryz.prog (.store 116 (.tmp 0) (.tmp 1)) 0 [v20_29, v50_26] (fun _ w =>
 oM Tryz.prog (.unOp .not 4 (.tmp 0)) 4 [v35_12] (fun v54_30 w =>
 gdM (gd v54_30 false) (pureM v44_20) (fun v56_31 w =>
 gdM (gd v54_30 false) (oM Tryz.prog (.unOp .not 4 (.tmp 0)) 4 [v56_31]) (fun v57_32 w =>
 oM Tryz.prog (.pick (.tmp 0) (.tmp 1) (.tmp 2)) 4 [v54_30, (.bool true), v57_32] (fun v58_33 w =>
 gdM (gd v58_33 false) (pureM v52_28) (fun v60_34 w =>
 gdM (gd v58_33 false) (oM Tryz.prog (.unOp .not 4 (.tmp 0)) 4 [v60_34]) (fun v61_35 w =>
 oM Tryz.prog (.pick (.tmp 0) (.tmp 1) (.tmp 2)) 4 [v58_33, (.bool true), v61_35] (fun v62_36 w =>
 gdM (gd v62_36 false) (oM Tryz.prog (.load 32 (.tmp 0)) 32 [v7_1]) (fun v64_37 w =>
 gdM (gd v62_36 false) (oM Tryz.prog (.load 24 (.tmp 0)) 24 [v8_2]) (fun v65_38 w =>
 gdM (gd v62_36 false) (callM Tryz.prog 73 #[v64_37, v65_38]) (fun v66_39 w =>
 gdM (gd v62_36 false) (oM Tryz.prog (.unOp .not 4 (.tmp 0)) 4 [v66_39]) (fun v67_40 w =>
 oM Tryz.prog (.pick (.tmp 0) (.tmp 1) (.tmp 2)) 4 [v62_36, (.bool true), v67_40] (fun v68_41 w =>
 gdM (gd v68_41 false) (oM Tryz.prog (.load 116 (.tmp 0)) 116 [v20_29]) (fun v70_42 w =>
 gdM (gd v68_41 false) (oM Tryz.prog (.fieldAddr 39 (.tmp 0) 2) 0 [v12_5]) (fun v71_43 w =>
 gdM (gd v68_41 false) (oM Tryz.prog (.load 3 (.tmp 0)) 3 [v71_43]) (fun v72_44 w =>
 gdM (gd v68_41 false) (oM Tryz.prog (.buildSlice 22 1 #[(0, (.tmp 0))]) 22 [v72_44]) (fun v73_45 w =>
 gdM (gd v68_41 false) (callM Tryz.prog 65 #[v70_42, (.int .i64 1), v73_45]) (fun v74_46 w =>
 gdM (gd v68_41 false) (oM Tryz.prog (.unOp .not 4 (.tmp 0)) 4 [v74_46]) (fun v75_47 w =>
 oM Tryz.prog (.pick (.tmp 0) (.tmp 1) (.tmp 2)) 4 [v68_41, (.bool true), v75_47] (fun v76_48 w =>
 gdM (gd v76_48 false) (oM Tryz.prog (.load 116 (.tmp 0)) 116 [v20_29]) (fun v78_49 w =>
 gdM (gd v76_48 false) (oM Tryz.prog (.fieldAddr 39 (.tmp 0) 3) 0 [v12_5]) (fun v79_50 w =>
 gdM (gd v76_48 false) (oM Tryz.prog (.load 3 (.tmp 0)) 3 [v79_50]) (fun v80_51 w =>
 gdM (gd v76_48 false) (oM Tryz.prog (.buildSlice 22 1 #[(0, (.tmp 0))]) 22 [v80_51]) (fun v81_52 w =>
 gdM (gd v76_48 false) (callM Tryz.prog 65 #[v78_49, (.int .i64 0), v81_52]) (fun v82_53 w =>
 gdM (gd v76_48 false) (oM Tryz.prog (.unOp .not 4 (.tmp 0)) 4 [v82_53]) (fun v83_54 w =>
 oM Tryz.prog (.pick (.tmp 0) (.tmp 1) (.tmp 2)) 4 [v76_48, (.bool true), v83_54] (fun v84_55 w =>
 condM v84_55
 (oM Tryz.prog (.build 45 #[]) 45 [] (fun v85_56 w =>
 oM Tryz.prog (.store 45 (.tmp 0) (.tmp 1)) 0 [v14_6, v85_56] (fun _ w =>
 ∃ r_57, (do loadVar 45 (← asAddr v14_6) : Sem Value).run Tryz.prog w = .ok r_57 w ∧ K (.tuple #[r_57, (.bool false)]) w) w) w)
 (heldM w (fun C_58 w => (((true : Bool) = true) ∧ (oH Tryz.prog (.load 116 (.tmp 0)) 116 [v20_29] C_58 (fun v86_59 =>
 oH Tryz.prog (.load 116 (.tmp 0)) 116 [v20_29] C_58 (fun v87_60 =>
 oH Tryz.prog (.fieldAddr 45 (.tmp 0) 0) 0 [v11_4] C_58 (fun v88_61 =>
 oH Tryz.prog (.load 3 (.tmp 0)) 3 [v88_61] C_58 (fun v89_62 =>
 oH Tryz.prog (.load 116 (.tmp 0)) 116 [v20_29] C_58 (fun v90_63 =>
 oH Tryz.prog (.load 24 (.tmp 0)) 24 [v8_2] C_58 (fun v91_64 =>
 oH Tryz.prog (.fieldAddr 39 (.tmp 0) 0) 0 [v10_3] C_58 (fun v92_65 =>
 oH Tryz.prog (.load 22 (.tmp 0)) 22 [v92_65] C_58 (fun v93_66 =>
 oH Tryz.prog (.load 116 (.tmp 0)) 116 [v20_29] C_58 (fun v97_67 =>
 oH Tryz.prog (.load 24 (.tmp 0)) 24 [v8_2] C_58 (fun v98_68 =>
 oH Tryz.prog (.fieldAddr 39 (.tmp 0) 0) 0 [v12_5] C_58 (fun v99_69 =>
 oH Tryz.prog (.load 22 (.tmp 0)) 22 [v99_69] C_58 (fun v100_70 =>
 oH Tryz.prog (.load 116 (.tmp 0)) 116 [v20_29] C_58 (fun v103_71 =>
 oH Tryz.prog (.load 116 (.tmp 0)) 116 [v20_29] C_58 (fun v104_72 =>
 oH Tryz.prog (.load 41 (.tmp 0)) 41 [v16_13] C_58 (fun v105_73 =>
 oH Tryz.prog (.fieldAddr 39 (.tmp 0) 2) 0 [v12_5] C_58 (fun v107_74 =>
 oH Tryz.prog (.load 3 (.tmp 0)) 3 [v107_74] C_58 (fun v108_75 =>
 ∃ S_76 : World → World → Prop, ∃ R_77 : Value → World → Prop, (∀ v w w_1, S_76 w w_1 → R_77 v w → R_77 v w_1) ∧
 (∀ w, C_58 w → (callM Tryz.prog 75 #[v90_63, v91_64, v93_66] (fun v w_1 => C_58 w_1 ∧ S_76 w w_1 ∧ R_77 v w_1) w)) ∧
 (∃ R_78 : Value → World → Prop, (∀ v w w_1, S_76 w w_1 → R_78 v w → R_78 v w_1) ∧
 (∀ w, C_58 w → ∀ v94_79, R_77 v94_79 w → (oM Tryz.prog (.buildSlice 22 1 #[(0, (.tmp 0))]) 22 [v94_79] (fun v w_1 => C_58 w_1 ∧ S_76 w w_1 ∧ R_78 v w_1) w)) ∧
 (∃ R_80 : Value → World → Prop, (∀ v w w_1, S_76 w w_1 → R_80 v w → R_80 v w_1) ∧
 (∀ w, C_58 w → ∀ v95_81, R_78 v95_81 w → (callM Tryz.prog 71 #[v87_60, v89_62, v95_81] (fun v w_1 => C_58 w_1 ∧ S_76 w w_1 ∧ R_80 v w_1) w)) ∧
 (∃ R_82 : Value → World → Prop, (∀ v w w_1, S_76 w w_1 → R_82 v w → R_82 v w_1) ∧
 (∀ w, C_58 w → (callM Tryz.prog 75 #[v97_67, v98_68, v100_70] (fun v w_1 => C_58 w_1 ∧ S_76 w w_1 ∧ R_82 v w_1) w)) ∧
 (∃ R_83 : Value → World → Prop, (∀ v w w_1, S_76 w w_1 → R_83 v w → R_83 v w_1) ∧
 (∀ w, C_58 w → ∀ v96_84, R_80 v96_84 w → ∀ v101_85, R_82 v101_85 w → (callM Tryz.prog 74 #[v86_59, v96_84, v101_85] (fun v w_1 => C_58 w_1 ∧ S_76 w w_1 ∧ R_83 v w_1) w)) ∧
 (∃ R_86 : Value → World → Prop, (∀ v w w_1, S_76 w w_1 → R_86 v w → R_86 v w_1) ∧
 (∀ w, C_58 w → (callM Tryz.prog 76 #[v104_72, v105_73] (fun v w_1 => C_58 w_1 ∧ S_76 w w_1 ∧ R_86 v w_1) w)) ∧
 (∃ R_87 : Value → World → Prop, (∀ v w w_1, S_76 w w_1 → R_87 v w → R_87 v w_1) ∧
 (∀ w, C_58 w → ∀ v106_88, R_86 v106_88 w → (callM Tryz.prog 74 #[v103_71, v106_88, v108_75] (fun v w_1 => C_58 w_1 ∧ S_76 w w_1 ∧ R_87 v w_1) w)) ∧
 (∃ R_89 : Value → World → Prop, (∀ v w w_1, S_76 w w_1 → R_89 v w → R_89 v w_1) ∧
 (∀ w, C_58 w → ∀ v102_90, R_83 v102_90 w → ∀ v109_91, R_87 v109_91 w → (oM Tryz.prog (.build 45 #[(0, (.tmp 0)), (1, (.tmp 1))]) 45 [v102_90, v109_91] (fun v w_1 => C_58 w_1 ∧ S_76 w w_1 ∧ R_89 v w_1) w)) ∧
 (∃ R_92 : Value → World → Prop, (∀ v w w_1, S_76 w w_1 → R_92 v w → R_92 v w_1) ∧
 (∀ w, C_58 w → (oM Tryz.prog (.alloc 45) 0 [] (fun v w_1 => C_58 w_1 ∧ S_76 w w_1 ∧ R_92 v w_1) w)) ∧
 (∀ w, C_58 w → ∀ v94_93, R_77 v94_93 w → ∀ v95_94, R_78 v95_94 w → ∀ v96_95, R_80 v96_95 w → ∀ v101_96, R_82 v101_96 w → ∀ v102_97, R_83 v102_97 w → ∀ v106_98, R_86 v106_98 w → ∀ v109_99, R_87 v109_99 w → ∀ v110_100, R_89 v110_100 w → ∀ v23_101, R_92 v23_101 w → (
 oM Tryz.prog (.store 45 (.tmp 0) (.tmp 1)) 0 [v23_101, v110_100] (fun _ w =>
 heldM w (fun C_102 w => (((true : Bool) = true) ∧ (oH Tryz.prog (.load 116 (.tmp 0)) 116 [v20_29] C_102 (fun v111_103 =>
 oH Tryz.prog (.fieldAddr 41 (.tmp 0) 5) 0 [v16_13] C_102 (fun v112_104 =>
 oH Tryz.prog (.load 3 (.tmp 0)) 3 [v112_104] C_102 (fun v113_105 =>
 oH Tryz.prog (.load 116 (.tmp 0)) 116 [v20_29] C_102 (fun v114_106 =>
 oH Tryz.prog (.fieldAddr 39 (.tmp 0) 3) 0 [v12_5] C_102 (fun v115_107 =>
 oH Tryz.prog (.load 3 (.tmp 0)) 3 [v115_107] C_102 (fun v116_108 =>
 oH Tryz.prog (.fieldAddr 45 (.tmp 0) 1) 0 [v23_101] C_102 (fun v117_109 =>
 oH Tryz.prog (.load 3 (.tmp 0)) 3 [v117_109] C_102 (fun v118_110 =>
 ∃ S_111 : World → World → Prop, ∃ R_112 : Value → World → Prop, (∀ v w w_1, S_111 w w_1 → R_112 v w → R_112 v w_1) ∧
 (∀ w, C_102 w → (oM Tryz.prog (.buildSlice 22 1 #[(0, (.tmp 0))]) 22 [v118_110] (fun v w_1 => C_102 w_1 ∧ S_111 w w_1 ∧ R_112 v w_1) w)) ∧
 (∃ R_113 : Value → World → Prop, (∀ v w w_1, S_111 w w_1 → R_113 v w → R_113 v w_1) ∧
 (∀ w, C_102 w → ∀ v119_114, R_112 v119_114 w → (callM Tryz.prog 71 #[v114_106, v116_108, v119_114] (fun v w_1 => C_102 w_1 ∧ S_111 w w_1 ∧ R_113 v w_1) w)) ∧
 (∀ w, C_102 w → ∀ v119_115, R_112 v119_115 w → ∀ v120_116, R_113 v120_116 w → (
 callM Tryz.prog 77 #[v111_103, v113_105, v120_116] (fun v121_117 w =>
 oM Tryz.prog (.fieldAddr 45 (.tmp 0) 2) 0 [v23_101] (fun v122_118 w =>
 oM Tryz.prog (.store 3 (.tmp 0) (.tmp 1)) 0 [v122_118, v121_117] (fun _ w =>
 oM Tryz.prog (.fieldAddr 39 (.tmp 0) 0) 0 [v12_5] (fun v123_119 w =>
 oM Tryz.prog (.load 22 (.tmp 0)) 22 [v123_119] (fun v124_120 w =>
 callM Tryz.prog 69 #[v124_120] (fun v125_121 w =>
 oM Tryz.prog (.call (Go.Call.mk (.builtin .len) #[(.tmp 0)] #[22])) 3 [v125_121] (fun v126_122 w =>
 loopM [undef, undef, (.int .i64 0)] w (fun J_123 m_124 l_125 u_l_125 w0_l_125 => (fun w => (
 oM Tryz.prog (.binOp .lss 3 (.tmp 0) (.tmp 1) 3) 0 [(l_125.getD 2 undef), v126_122] (fun v128_126 w =>
 condM v128_126
 (oM Tryz.prog (.indexAddr 22 (.tmp 0) (.tmp 1)) 0 [v125_121, (l_125.getD 2 undef)] (fun v130_127 w =>
 oM Tryz.prog (.load 3 (.tmp 0)) 3 [v130_127] (fun v131_128 w =>
 heldM w (fun C_129 w => (((true : Bool) = true) ∧ (oH Tryz.prog (.fieldAddr 45 (.tmp 0) 3) 0 [v23_101] C_129 (fun v132_130 =>
 oH Tryz.prog (.load 22 (.tmp 0)) 22 [v132_130] C_129 (fun v133_131 =>
 oH Tryz.prog (.load 116 (.tmp 0)) 116 [v20_29] C_129 (fun v134_132 =>
 oH Tryz.prog (.fieldAddr 49 (.tmp 0) 1) 0 [v18_21] C_129 (fun v135_133 =>
 oH Tryz.prog (.load 22 (.tmp 0)) 22 [v135_133] C_129 (fun v136_134 =>
 pureH (l_125.getD 2 undef) C_129 (fun v137_135 =>
 oH Tryz.prog (.indexAddr 22 (.tmp 0) (.tmp 1)) 0 [v136_134, v137_135] C_129 (fun v138_136 =>
 oH Tryz.prog (.load 3 (.tmp 0)) 3 [v138_136] C_129 (fun v139_137 =>
 oH Tryz.prog (.load 116 (.tmp 0)) 116 [v20_29] C_129 (fun v140_138 =>
 pureH a6 C_129 (fun v141_139 =>
 oH Tryz.prog (.fieldAddr 45 (.tmp 0) 0) 0 [v23_101] C_129 (fun v142_140 =>
 oH Tryz.prog (.load 3 (.tmp 0)) 3 [v142_140] C_129 (fun v143_141 =>
 pureH v131_128 C_129 (fun v144_142 =>
 ∃ S_143 : World → World → Prop, ∃ R_144 : Value → World → Prop, (∀ v w w_1, S_143 w w_1 → R_144 v w → R_144 v w_1) ∧
 (∀ w, C_129 w → (oM Tryz.prog (.buildSlice 22 2 #[(0, (.tmp 0)), (1, (.tmp 1))]) 22 [v143_141, v144_142] (fun v w_1 => C_129 w_1 ∧ S_143 w w_1 ∧ R_144 v w_1) w)) ∧
 (∃ R_145 : Value → World → Prop, (∀ v w w_1, S_143 w w_1 → R_145 v w → R_145 v w_1) ∧
 (∀ w, C_129 w → ∀ v145_146, R_144 v145_146 w → (callM Tryz.prog 71 #[v140_138, v141_139, v145_146] (fun v w_1 => C_129 w_1 ∧ S_143 w w_1 ∧ R_145 v w_1) w)) ∧
 (∃ R_147 : Value → World → Prop, (∀ v w w_1, S_143 w w_1 → R_147 v w → R_147 v w_1) ∧
 (∀ w, C_129 w → ∀ v146_148, R_145 v146_148 w → (callM Tryz.prog 77 #[v134_132, v139_137, v146_148] (fun v w_1 => C_129 w_1 ∧ S_143 w w_1 ∧ R_147 v w_1) w)) ∧
 (∃ R_149 : Value → World → Prop, (∀ v w w_1, S_143 w w_1 → R_149 v w → R_149 v w_1) ∧
 (∀ w, C_129 w → ∀ v147_150, R_147 v147_150 w → (oM Tryz.prog (.buildSlice 22 1 #[(0, (.tmp 0))]) 22 [v147_150] (fun v w_1 => C_129 w_1 ∧ S_143 w w_1 ∧ R_149 v w_1) w)) ∧
 (∀ w, C_129 w → ∀ v145_151, R_144 v145_151 w → ∀ v146_152, R_145 v146_152 w → ∀ v147_153, R_147 v147_153 w → ∀ v148_154, R_149 v148_154 w → (
 oM Tryz.prog (.call (Go.Call.mk (.builtin .append) #[(.tmp 0), (.tmp 1)] #[22, 22])) 22 [v133_131, v148_154] (fun v149_155 w =>
 oM Tryz.prog (.fieldAddr 45 (.tmp 0) 3) 0 [v23_101] (fun v150_156 w =>
 oM Tryz.prog (.store 22 (.tmp 0) (.tmp 1)) 0 [v150_156, v149_155] (fun _ w =>
 oM Tryz.prog (.binOp .add 3 (.tmp 0) (.tmp 1) 3) 3 [(l_125.getD 2 undef), (.int .i64 1)] (fun v151_157 w =>
 J_123 [(l_125.getD 2 undef), v131_128, v151_157] w ∧ m_124 [(l_125.getD 2 undef), v131_128, v151_157] w < m_124 l_125 w0_l_125) w) w) w) w)))))))))))))))))))))) w) w)
 (oM Tryz.prog (.load 32 (.tmp 0)) 32 [v7_1] (fun v153_158 w =>
 oM Tryz.prog (.load 39 (.tmp 0)) 39 [v12_5] (fun v155_159 w =>
 oM Tryz.prog (.load 45 (.tmp 0)) 45 [v23_101] (fun v156_160 w =>
 callM Tryz.prog 72 #[v153_158, a2, v155_159, v156_160] (fun v157_161 w =>
 oM Tryz.prog (.extract (.tmp 0) 0) 41 [v157_161] (fun v158_162 w =>
 oM Tryz.prog (.extract (.tmp 0) 1) 4 [v157_161] (fun v159_163 w =>
 oM Tryz.prog (.alloc 41) 0 [] (fun v26_164 w =>
 oM Tryz.prog (.store 41 (.tmp 0) (.tmp 1)) 0 [v26_164, v158_162] (fun _ w =>
 oM Tryz.prog (.unOp .not 4 (.tmp 0)) 4 [v159_163] (fun v161_165 w =>
 gdM (gd v161_165 false) (oM Tryz.prog (.load 41 (.tmp 0)) 41 [v26_164]) (fun v163_166 w =>
 gdM (gd v161_165 false) (oM Tryz.prog (.load 41 (.tmp 0)) 41 [v16_13]) (fun v164_167 w =>
 gdM (gd v161_165 false) (oM Tryz.prog (.binOp .neq 41 (.tmp 0) (.tmp 1) 41) 4 [v163_166, v164_167]) (fun v165_168 w =>
 oM Tryz.prog (.pick (.tmp 0) (.tmp 1) (.tmp 2)) 4 [v161_165, (.bool true), v165_168] (fun v166_169 w =>
 condM v166_169
 (oM Tryz.prog (.build 45 #[]) 45 [] (fun v167_170 w =>
 oM Tryz.prog (.store 45 (.tmp 0) (.tmp 1)) 0 [v14_6, v167_170] (fun _ w =>
 ∃ r_171, (do loadVar 45 (← asAddr v14_6) : Sem Value).run Tryz.prog w = .ok r_171 w ∧ K (.tuple #[r_171, (.bool false)]) w) w) w)
 (oM Tryz.prog (.load 45 (.tmp 0)) 45 [v23_101] (fun v168_172 w =>
 oM Tryz.prog (.store 45 (.tmp 0) (.tmp 1)) 0 [v14_6, v168_172] (fun _ w =>
 ∃ r_173, (do loadVar 45 (← asAddr v14_6) : Sem Value).run Tryz.prog w = .ok r_173 w ∧ K (.tuple #[r_173, (.bool true)]) w) w) w)) w) w) w) w) w) w) w) w) w) w) w) w) w)) w)) w0_l_125)) w) w) w) w) w) w) w))))))))))))))) w)))))))))))))))))))))))))))))))) w) w) w) w) w) w) w) w) w) w) w) w) w) w) w) w) w) w) w) w) w) w) w) w) w) w) w) w) w) w) w) w) w) w) w) w) w) w) w) w) w) w) w) w) w) w) w) w) w) w) w) w) w) w) w) w) w) w
theorem sh_16_eq (a0 : Value) (a1 : Value) (a2 : Value) (a3 : Value) (a4 : Value) (a5 : Value) (a6 : Value) (K : Value → World → Prop) (w : World) : sh_16 a0 a1 a2 a3 a4 a5 a6 K w = code Tryz.prog (fun i => bif Nat.beq i 6 then .free [0, 1, 2, 3, 4, 5, 6, 7, 11, 12, 13, 14, 17, 18, 19, 21, 22] [8, 9, 10, 15, 16, 20, 23, 24, 25] [26] else bif Nat.beq i 7 then .free [0, 1, 2, 3, 4, 5, 6, 7] [8, 9] [10, 11, 12] else bif Nat.beq i 11 then .free [0, 1, 2, 3, 4, 5, 6, 7, 8, 9, 10, 11, 12] [13, 14, 15, 16] [17, 18, 19] else 0) 169 (Tryz.f16.body.getD .skip) (slotsAt [a0, a1, a2, a3, a4, a5, a6]) (retK Tryz.prog [.cell 14 45, .tmp 15] K) w := by kernel_rfl
theorem sh_16_ok {a0 a1 a2 a3 a4 a5 a6 : Value} {K : Value → World → Prop} {w : World} (h : sh_16 a0 a1 a2 a3 a4 a5 a6 K w) : callM Tryz.prog 16 #[a0, a1, a2, a3, a4, a5, a6] K w :=
  calls_of_code (fun i => bif Nat.beq i 6 then .free [0, 1, 2, 3, 4, 5, 6, 7, 11, 12, 13, 14, 17, 18, 19, 21, 22] [8, 9, 10, 15, 16, 20, 23, 24, 25] [26] else bif Nat.beq i 7 then .free [0, 1, 2, 3, 4, 5, 6, 7] [8, 9] [10, 11, 12] else bif Nat.beq i 11 then .free [0, 1, 2, 3, 4, 5, 6, 7, 8, 9, 10, 11, 12] [13, 14, 15, 16] [17, 18, 19] else 0) (fn := Tryz.f16) (rs := [.cell 14 45, .tmp 15]) Tryz.func16 rfl rfl (by kernel_rfl) (Nat.le_of_ble_eq_true rfl) ((sh_16_eq a0 a1 a2 a3 a4 a5 a6 K w).mp h)
def sh_63 (a0 : Value) (a1 : Value) (K : Value → World → Prop) (w : World) : Prop :=
 oM Tryz.prog (.box 30 (.tmp 0)) 0 [a0] (fun v2_1 w =>
 oM Tryz.prog (.box 24 (.tmp 0)) 0 [a1] (fun v3_2 w =>
 oM Tryz.prog (.alloc 32) 0 [] (fun v4_3 w =>
 oM Tryz.prog (.makeFunc (Go.Fn.func 132) #[] #[(.tmp 0)]) 138 [v2_1] (fun v10_4 w =>
 oM Tryz.prog (.load 30 (.tmp 0)) 30 [v2_1] (fun v11_5 w =>
 callM Tryz.prog 131 #[v11_5] (fun v12_6 w =>
 oM Tryz.prog (.unOp .not 4 (.tmp 0)) 4 [v12_6] (fun v13_7 w =>
 gdM (gd v13_7 false) (oM Tryz.prog (.fieldAddr 24 (.tmp 0) 0) 0 [v3_2]) (fun v15_8 w =>
 gdM (gd v13_7 false) (oM Tryz.prog (.load 22 (.tmp 0)) 22 [v15_8]) (fun v16_9 w =>
 gdM (gd v13_7 false) (oM Tryz.prog (.call (Go.Call.mk (.builtin .len) #[(.tmp 0)] #[22])) 3 [v16_9]) (fun v17_10 w =>
 gdM (gd v13_7 false) (oM Tryz.prog (.binOp .lss 3 (.tmp 0) (.tmp 1) 3) 4 [v17_10, (.int .i64 2)]) (fun v18_11 w =>
 oM Tryz.prog (.pick (.tmp 0) (.tmp 1) (.tmp 2)) 4 [v13_7, (.bool true), v18_11] (fun v19_12 w =>
 gdM (gd v19_12 false) (oM Tryz.prog (.fieldAddr 24 (.tmp 0) 0) 0 [v3_2]) (fun v21_13 w =>
 gdM (gd v19_12 false) (oM Tryz.prog (.load 22 (.tmp 0)) 22 [v21_13]) (fun v22_14 w =>
 gdM (gd v19_12 false) (oM Tryz.prog (.call (Go.Call.mk (.builtin .len) #[(.tmp 0)] #[22])) 3 [v22_14]) (fun v23_15 w =>
 gdM (gd v19_12 false) (oM Tryz.prog (.binOp .gtr 3 (.tmp 0) (.tmp 1) 3) 4 [v23_15, (.int .i64 7)]) (fun v24_16 w =>
 oM Tryz.prog (.pick (.tmp 0) (.tmp 1) (.tmp 2)) 4 [v19_12, (.bool true), v24_16] (fun v25_17 w =>
 gdM (gd v25_17 false) (oM Tryz.prog (.fieldAddr 24 (.tmp 0) 0) 0 [v3_2]) (fun v27_18 w =>
 gdM (gd v25_17 false) (oM Tryz.prog (.load 22 (.tmp 0)) 22 [v27_18]) (fun v28_19 w =>
 gdM (gd v25_17 false) (pureM v10_4) (fun v29_20 w =>
 gdM (gd v25_17 false) (callM Tryz.prog 92 #[v28_19, v29_20]) (fun v30_21 w =>
 oM Tryz.prog (.pick (.tmp 0) (.tmp 1) (.tmp 2)) 4 [v25_17, (.bool true), v30_21] (fun v31_22 w =>
 gdM (gd v31_22 false) (pureM v10_4) (fun v33_23 w =>
 gdM (gd v31_22 false) (oM Tryz.prog (.fieldAddr 24 (.tmp 0) 1) 0 [v3_2]) (fun v34_24 w =>
 gdM (gd v31_22 false) (oM Tryz.prog (.load 3 (.tmp 0)) 3 [v34_24]) (fun v35_25 w =>
 gdM (gd v31_22 false) (oM Tryz.prog (.call (Go.Call.mk (.value (.tmp 0)) #[(.tmp 1)] #[3])) 4 [v33_23, v35_25]) (fun v36_26 w =>
 oM Tryz.prog (.pick (.tmp 0) (.tmp 1) (.tmp 2)) 4 [v31_22, (.bool true), v36_26] (fun v37_27 w =>
 condM v37_27
 (oM Tryz.prog (.build 32 #[]) 32 [] (fun v38_28 w =>
 oM Tryz.prog (.store 32 (.tmp 0) (.tmp 1)) 0 [v4_3, v38_28] (fun _ w =>
 ∃ r_29, (do loadVar 32 (← asAddr v4_3) : Sem Value).run Tryz.prog w = .ok r_29 w ∧ K (.tuple #[r_29, (.bool false)]) w) w) w)
 (heldM w (fun C_30 w => (((true : Bool) = true) ∧ (oH Tryz.prog (.load 30 (.tmp 0)) 30 [v2_1] C_30 (fun v39_31 =>
 oH Tryz.prog (.load 30 (.tmp 0)) 30 [v2_1] C_30 (fun v40_32 =>
 oH Tryz.prog (.fieldAddr 30 (.tmp 0) 2) 0 [v2_1] C_30 (fun v41_33 =>
 oH Tryz.prog (.load 3 (.tmp 0)) 3 [v41_33] C_30 (fun v42_34 =>
 oH Tryz.prog (.fieldAddr 24 (.tmp 0) 1) 0 [v3_2] C_30 (fun v43_35 =>
 oH Tryz.prog (.load 3 (.tmp 0)) 3 [v43_35] C_30 (fun v44_36 =>
 ∃ S_37 : World → World → Prop, ∃ R_38 : Value → World → Prop, (∀ v w w_1, S_37 w w_1 → R_38 v w → R_38 v w_1) ∧
 (∀ w, C_30 w → (callM Tryz.prog 24 #[v40_32, v42_34, v44_36] (fun v w_1 => C_30 w_1 ∧ S_37 w w_1 ∧ R_38 v w_1) w)) ∧
 (∃ R_39 : Value → World → Prop, (∀ v w w_1, S_37 w w_1 → R_39 v w → R_39 v w_1) ∧
 (∀ w, C_30 w → ∀ v45_40, R_38 v45_40 w → (oM Tryz.prog (.build 32 #[(0, (.tmp 0)), (2, (.tmp 1))]) 32 [v39_31, v45_40] (fun v w_1 => C_30 w_1 ∧ S_37 w w_1 ∧ R_39 v w_1) w)) ∧
 (∃ R_41 : Value → World → Prop, (∀ v w w_1, S_37 w w_1 → R_41 v w → R_41 v w_1) ∧
 (∀ w, C_30 w → (oM Tryz.prog (.alloc 32) 0 [] (fun v w_1 => C_30 w_1 ∧ S_37 w w_1 ∧ R_41 v w_1) w)) ∧
 (∀ w, C_30 w → ∀ v45_42, R_38 v45_42 w → ∀ v46_43, R_39 v46_43 w → ∀ v7_44, R_41 v7_44 w → (
 oM Tryz.prog (.store 32 (.tmp 0) (.tmp 1)) 0 [v7_44, v46_43] (fun _ w =>
 oM Tryz.prog (.fieldAddr 24 (.tmp 0) 0) 0 [v3_2] (fun v47_45 w =>
 oM Tryz.prog (.load 22 (.tmp 0)) 22 [v47_45] (fun v48_46 w =>
 oM Tryz.prog (.call (Go.Call.mk (.builtin .len) #[(.tmp 0)] #[22])) 3 [v48_46] (fun v49_47 w =>
 loopM [undef, (.int .i64 0)] w (fun J_48 m_49 l_50 u_l_50 w0_l_50 => (fun w => (
 oM Tryz.prog (.binOp .lss 3 (.tmp 0) (.tmp 1) 3) 0 [(l_50.getD 1 undef), v49_47] (fun v51_51 w =>
 condM v51_51
 (oM Tryz.prog (.indexAddr 22 (.tmp 0) (.tmp 1)) 0 [v48_46, (l_50.getD 1 undef)] (fun v52_52 w =>
 oM Tryz.prog (.load 3 (.tmp 0)) 3 [v52_52] (fun v53_53 w =>
 heldM w (fun C_54 w => (((true : Bool) = true) ∧ (oH Tryz.prog (.fieldAddr 32 (.tmp 0) 1) 0 [v7_44] C_54 (fun v54_55 =>
 oH Tryz.prog (.load 22 (.tmp 0)) 22 [v54_55] C_54 (fun v55_56 =>
 oH Tryz.prog (.load 30 (.tmp 0)) 30 [v2_1] C_54 (fun v56_57 =>
 oH Tryz.prog (.fieldAddr 30 (.tmp 0) 2) 0 [v2_1] C_54 (fun v57_58 =>
 oH Tryz.prog (.load 3 (.tmp 0)) 3 [v57_58] C_54 (fun v58_59 =>
 pureH v53_53 C_54 (fun v59_60 =>
 ∃ S_61 : World → World → Prop, ∃ R_62 : Value → World → Prop, (∀ v w w_1, S_61 w w_1 → R_62 v w → R_62 v w_1) ∧
 (∀ w, C_54 w → (callM Tryz.prog 24 #[v56_57, v58_59, v59_60] (fun v w_1 => C_54 w_1 ∧ S_61 w w_1 ∧ R_62 v w_1) w)) ∧
 (∃ R_63 : Value → World → Prop, (∀ v w w_1, S_61 w w_1 → R_63 v w → R_63 v w_1) ∧
 (∀ w, C_54 w → ∀ v60_64, R_62 v60_64 w → (oM Tryz.prog (.buildSlice 22 1 #[(0, (.tmp 0))]) 22 [v60_64] (fun v w_1 => C_54 w_1 ∧ S_61 w w_1 ∧ R_63 v w_1) w)) ∧
 (∀ w, C_54 w → ∀ v60_65, R_62 v60_65 w → ∀ v61_66, R_63 v61_66 w → (
 oM Tryz.prog (.call (Go.Call.mk (.builtin .append) #[(.tmp 0), (.tmp 1)] #[22, 22])) 22 [v55_56, v61_66] (fun v62_67 w =>
 oM Tryz.prog (.fieldAddr 32 (.tmp 0) 1) 0 [v7_44] (fun v63_68 w =>
 oM Tryz.prog (.store 22 (.tmp 0) (.tmp 1)) 0 [v63_68, v62_67] (fun _ w =>
 oM Tryz.prog (.binOp .add 3 (.tmp 0) (.tmp 1) 3) 3 [(l_50.getD 1 undef), (.int .i64 1)] (fun v64_69 w =>
 J_48 [v53_53, v64_69] w ∧ m_49 [v53_53, v64_69] w < m_49 l_50 w0_l_50) w) w) w) w))))))))))))) w) w)
 (oM Tryz.prog (.load 32 (.tmp 0)) 32 [v7_44] (fun v65_70 w =>
 oM Tryz.prog (.store 32 (.tmp 0) (.tmp 1)) 0 [v4_3, v65_70] (fun _ w =>
 ∃ r_71, (do loadVar 32 (← asAddr v4_3) : Sem Value).run Tryz.prog w = .ok r_71 w ∧ K (.tuple #[r_71, (.bool true)]) w) w) w)) w)) w0_l_50)) w) w) w) w))))))))))))))) w) w) w) w) w) w) w) w) w) w) w) w) w) w) w) w) w) w) w) w) w) w) w) w) w) w) w
theorem sh_63_eq (a0 : Value) (a1 : Value) (K : Value → World → Prop) (w : World) : sh_63 a0 a1 K w = code Tryz.prog (fun i => bif Nat.beq i 4 then .free [0, 1, 2, 3, 4, 5] [6, 7, 8] [9] else bif Nat.beq i 8 then .free [0, 1, 2, 3, 4, 5] [6, 7] [8, 9, 10] else 0) 66 (Tryz.f63.body.getD .skip) (slotsAt [a0, a1]) (retK Tryz.prog [.cell 4 32, .tmp 5] K) w := by kernel_rfl
theorem sh_63_ok {a0 a1 : Value} {K : Value → World → Prop} {w : World} (h : sh_63 a0 a1 K w) : callM Tryz.prog 63 #[a0, a1] K w :=
  calls_of_code (fun i => bif Nat.beq i 4 then .free [0, 1, 2, 3, 4, 5] [6, 7, 8] [9] else bif Nat.beq i 8 then .free [0, 1, 2, 3, 4, 5] [6, 7] [8, 9, 10] else 0) (fn := Tryz.f63) (rs := [.cell 4 32, .tmp 5]) Tryz.func63 rfl rfl (by kernel_rfl) (Nat.le_of_ble_eq_true rfl) ((sh_63_eq a0 a1 K w).mp h)
def sh_132 (a0 : Value) (a1 : Value) (K : Value → World → Prop) (w : World) : Prop :=
 oM Tryz.prog (.binOp .lss 3 (.tmp 0) (.tmp 1) 3) 4 [a0, (.int .i64 1)] (fun v5_1 w =>
 gdM (gd v5_1 false) (pureM a0) (fun v7_2 w =>
 gdM (gd v5_1 false) (oM Tryz.prog (.fieldAddr 30 (.tmp 0) 1) 0 [a1]) (fun v8_3 w =>
 gdM (gd v5_1 false) (oM Tryz.prog (.load 3 (.tmp 0)) 3 [v8_3]) (fun v9_4 w =>
 gdM (gd v5_1 false) (oM Tryz.prog (.binOp .geq 3 (.tmp 0) (.tmp 1) 3) 4 [v7_2, v9_4]) (fun v10_5 w =>
 oM Tryz.prog (.pick (.tmp 0) (.tmp 1) (.tmp 2)) 4 [v5_1, (.bool true), v10_5] (fun v11_6 w =>
 K v11_6 w) w) w) w) w) w) w
theorem sh_132_eq (a0 : Value) (a1 : Value) (K : Value → World → Prop) (w : World) : sh_132 a0 a1 K w = code Tryz.prog (fun _ => 0) 12 (Tryz.f132.body.getD .skip) (slotsAt [a0, a1]) (retK Tryz.prog [.tmp 3] K) w := by kernel_rfl
theorem sh_132_ok {a0 a1 : Value} {K : Value → World → Prop} {w : World} (h : sh_132 a0 a1 K w) : callM Tryz.prog 132 #[a0, a1] K w :=
  calls_of_code (fun _ => 0) (fn := Tryz.f132) (rs := [.tmp 3]) Tryz.func132 rfl rfl (by kernel_rfl) (Nat.le_of_ble_eq_true rfl) ((sh_132_eq a0 a1 K w).mp h)
def sh_75 (a0 : Value) (a1 : Value) (a2 : Value) (K : Value → World → Prop) (w : World) : Prop :=
 oM Tryz.prog (.box 116 (.tmp 0)) 0 [a0] (fun v3_1 w =>
 oM Tryz.prog (.box 24 (.tmp 0)) 0 [a1] (fun v4_2 w =>
 callM Tryz.prog 69 #[a2] (fun v11_3 w =>
 oM Tryz.prog (.call (Go.Call.mk (.builtin .len) #[(.tmp 0)] #[22])) 3 [v11_3] (fun v12_4 w =>
 loopM [undef, undef, (.int .i64 0), (.int .i64 0)] w (fun J_5 m_6 l_7 u_l_7 w0_l_7 => (fun w => (
 oM Tryz.prog (.binOp .lss 3 (.tmp 0) (.tmp 1) 3) 0 [(l_7.getD 3 undef), v12_4] (fun v14_8 w =>
 condM v14_8
 (oM Tryz.prog (.indexAddr 22 (.tmp 0) (.tmp 1)) 0 [v11_3, (l_7.getD 3 undef)] (fun v16_9 w =>
 oM Tryz.prog (.load 3 (.tmp 0)) 3 [v16_9] (fun v17_10 w =>
 heldM w (fun C_11 w => (((true : Bool) = true) ∧ (oH Tryz.prog (.load 116 (.tmp 0)) 116 [v3_1] C_11 (fun v18_12 =>
 pureH (l_7.getD 2 undef) C_11 (fun v19_13 =>
 oH Tryz.prog (.load 116 (.tmp 0)) 116 [v3_1] C_11 (fun v20_14 =>
 pureH v17_10 C_11 (fun v21_15 =>
 oH Tryz.prog (.fieldAddr 24 (.tmp 0) 0) 0 [v4_2] C_11 (fun v22_16 =>
 oH Tryz.prog (.load 22 (.tmp 0)) 22 [v22_16] C_11 (fun v23_17 =>
 pureH (l_7.getD 3 undef) C_11 (fun v24_18 =>
 oH Tryz.prog (.indexAddr 22 (.tmp 0) (.tmp 1)) 0 [v23_17, v24_18] C_11 (fun v25_19 =>
 oH Tryz.prog (.load 3 (.tmp 0)) 3 [v25_19] C_11 (fun v26_20 =>
 ∃ S_21 : World → World → Prop, ∃ R_22 : Value → World → Prop, (∀ v w w_1, S_21 w w_1 → R_22 v w → R_22 v w_1) ∧
 (∀ w, C_11 w → (oM Tryz.prog (.buildSlice 22 1 #[(0, (.tmp 0))]) 22 [v26_20] (fun v w_1 => C_11 w_1 ∧ S_21 w w_1 ∧ R_22 v w_1) w)) ∧
 (∃ R_23 : Value → World → Prop, (∀ v w w_1, S_21 w w_1 → R_23 v w → R_23 v w_1) ∧
 (∀ w, C_11 w → ∀ v27_24, R_22 v27_24 w → (callM Tryz.prog 71 #[v20_14, v21_15, v27_24] (fun v w_1 => C_11 w_1 ∧ S_21 w w_1 ∧ R_23 v w_1) w)) ∧
 (∀ w, C_11 w → ∀ v27_25, R_22 v27_25 w → ∀ v28_26, R_23 v28_26 w → (
 callM Tryz.prog 70 #[v18_12, v19_13, v28_26] (fun v29_27 w =>
 oM Tryz.prog (.binOp .add 3 (.tmp 0) (.tmp 1) 3) 3 [(l_7.getD 3 undef), (.int .i64 1)] (fun v30_28 w =>
 J_5 [(l_7.getD 3 undef), v17_10, v29_27, v30_28] w ∧ m_6 [(l_7.getD 3 undef), v17_10, v29_27, v30_28] w < m_6 l_7 w0_l_7) w) w)))))))))))))))) w) w)
 (K (l_7.getD 2 undef) w)) w)) w0_l_7)) w) w) w) w
theorem sh_75_eq (a0 : Value) (a1 : Value) (a2 : Value) (K : Value → World → Prop) (w : World) : sh_75 a0 a1 a2 K w = code Tryz.prog (fun _ => .free [0, 1, 2, 3, 4, 5, 6, 7, 8] [9, 10] [11, 12]) 32 (Tryz.f75.body.getD .skip) (slotsAt [a0, a1, a2]) (retK Tryz.prog [.tmp 6] K) w := by kernel_rfl
theorem sh_75_ok {a0 a1 a2 : Value} {K : Value → World → Prop} {w : World} (h : sh_75 a0 a1 a2 K w) : callM Tryz.prog 75 #[a0, a1, a2] K w :=
  calls_of_code (fun _ => .free [0, 1, 2, 3, 4, 5, 6, 7, 8] [9, 10] [11, 12]) (fn := Tryz.f75) (rs := [.tmp 6]) Tryz.func75 rfl rfl (by kernel_rfl) (Nat.le_of_ble_eq_true rfl) ((sh_75_eq a0 a1 a2 K w).mp h)
def sh_73 (a0 : Value) (a1 : Value) (K : Value → World → Prop) (w : World) : Prop :=
 oM Tryz.prog (.box 32 (.tmp 0)) 0 [a0] (fun v2_1 w =>
 oM Tryz.prog (.box 24 (.tmp 0)) 0 [a1] (fun v3_2 w =>
 oM Tryz.prog (.fieldAddr 32 (.tmp 0) 0) 0 [v2_1] (fun v8_3 w =>
 oM Tryz.prog (.load 30 (.tmp 0)) 30 [v8_3] (fun v9_4 w =>
 oM Tryz.prog (.load 24 (.tmp 0)) 24 [v3_2] (fun v10_5 w =>
 callM Tryz.prog 63 #[v9_4, v10_5] (fun v11_6 w =>
 oM Tryz.prog (.extract (.tmp 0) 0) 32 [v11_6] (fun v12_7 w =>
 oM Tryz.prog (.extract (.tmp 0) 1) 4 [v11_6] (fun v13_8 w =>
 oM Tryz.prog (.alloc 32) 0 [] (fun v5_9 w =>
 oM Tryz.prog (.store 32 (.tmp 0) (.tmp 1)) 0 [v5_9, v12_7] (fun _ w =>
 gdM (gd v13_8 true) (oM Tryz.prog (.fieldAddr 32 (.tmp 0) 2) 0 [v5_9]) (fun v16_10 w =>
 gdM (gd v13_8 true) (oM Tryz.prog (.load 3 (.tmp 0)) 3 [v16_10]) (fun v17_11 w =>
 gdM (gd v13_8 true) (oM Tryz.prog (.fieldAddr 32 (.tmp 0) 2) 0 [v2_1]) (fun v18_12 w =>
 gdM (gd v13_8 true) (oM Tryz.prog (.load 3 (.tmp 0)) 3 [v18_12]) (fun v19_13 w =>
 gdM (gd v13_8 true) (oM Tryz.prog (.binOp .eql 3 (.tmp 0) (.tmp 1) 3) 4 [v17_11, v19_13]) (fun v20_14 w =>
 oM Tryz.prog (.pick (.tmp 0) (.tmp 1) (.tmp 2)) 4 [v13_8, v20_14, (.bool false)] (fun v21_15 w =>
 gdM (gd v21_15 true) (oM Tryz.prog (.fieldAddr 32 (.tmp 0) 1) 0 [v5_9]) (fun v23_16 w =>
 gdM (gd v21_15 true) (oM Tryz.prog (.load 22 (.tmp 0)) 22 [v23_16]) (fun v24_17 w =>
 gdM (gd v21_15 true) (oM Tryz.prog (.fieldAddr 32 (.tmp 0) 1) 0 [v2_1]) (fun v25_18 w =>
 gdM (gd v21_15 true) (oM Tryz.prog (.load 22 (.tmp 0)) 22 [v25_18]) (fun v26_19 w =>
 gdM (gd v21_15 true) (callM Tryz.prog 137 #[v24_17, v26_19]) (fun v27_20 w =>
 oM Tryz.prog (.pick (.tmp 0) (.tmp 1) (.tmp 2)) 4 [v21_15, v27_20, (.bool false)] (fun v28_21 w =>
 K v28_21 w) w) w) w) w) w) w) w) w) w) w) w) w) w) w) w) w) w) w) w) w) w) w
theorem sh_73_eq (a0 : Value) (a1 : Value) (K : Value → World → Prop) (w : World) : sh_73 a0 a1 K w = code Tryz.prog (fun _ => 0) 29 (Tryz.f73.body.getD .skip) (slotsAt [a0, a1]) (retK Tryz.prog [.tmp 4] K) w := by kernel_rfl
theorem sh_73_ok {a0 a1 : Value} {K : Value → World → Prop} {w : World} (h : sh_73 a0 a1 K w) : callM Tryz.prog 73 #[a0, a1] K w :=
  calls_of_code (fun _ => 0) (fn := Tryz.f73) (rs := [.tmp 4]) Tryz.func73 rfl rfl (by kernel_rfl) (Nat.le_of_ble_eq_true rfl) ((sh_73_eq a0 a1 K w).mp h)
def sh_137 (a0 : Value) (a1 : Value) (K : Value → World → Prop) (w : World) : Prop :=
 oM Tryz.prog (.call (Go.Call.mk (.builtin .len) #[(.tmp 0)] #[22])) 3 [a0] (fun v7_1 w =>
 oM Tryz.prog (.call (Go.Call.mk (.builtin .len) #[(.tmp 0)] #[22])) 3 [a1] (fun v9_2 w =>
 oM Tryz.prog (.binOp .neq 3 (.tmp 0) (.tmp 1) 3) 4 [v7_1, v9_2] (fun v10_3 w =>
 condM v10_3
 (K (.bool false) w)
 (oM Tryz.prog (.call (Go.Call.mk (.builtin .len) #[(.tmp 0)] #[22])) 3 [a0] (fun v12_4 w =>
 loopM [undef, (.bool false), (.int .i64 0)] w (fun J_5 m_6 l_7 u_l_7 w0_l_7 => (fun w => (
 oM Tryz.prog (.binOp .lss 3 (.tmp 0) (.tmp 1) 3) 0 [(l_7.getD 2 undef), v12_4] (fun v14_8 w =>
 condM v14_8
 (heldM w (fun C_9 w => (((true : Bool) = true) ∧ (pureH a0 C_9 (fun v16_10 =>
 pureH (l_7.getD 2 undef) C_9 (fun v17_11 =>
 oH Tryz.prog (.indexAddr 22 (.tmp 0) (.tmp 1)) 0 [v16_10, v17_11] C_9 (fun v18_12 =>
 oH Tryz.prog (.load 3 (.tmp 0)) 3 [v18_12] C_9 (fun v19_13 =>
 pureH a1 C_9 (fun v20_14 =>
 pureH (l_7.getD 2 undef) C_9 (fun v21_15 =>
 oH Tryz.prog (.indexAddr 22 (.tmp 0) (.tmp 1)) 0 [v20_14, v21_15] C_9 (fun v22_16 =>
 oH Tryz.prog (.load 3 (.tmp 0)) 3 [v22_16] C_9 (fun v23_17 =>
 oH Tryz.prog (.binOp .neq 3 (.tmp 0) (.tmp 1) 3) 4 [v19_13, v23_17] C_9 (fun v24_18 =>
 ∃ S_19 : World → World → Prop, ∀ w, C_9 w → (
 condM v24_18
 (K (.bool false) w)
 (oM Tryz.prog (.binOp .add 3 (.tmp 0) (.tmp 1) 3) 3 [(l_7.getD 2 undef), (.int .i64 1)] (fun v25_20 w =>
 J_5 [(l_7.getD 2 undef), (l_7.getD 1 undef), v25_20] w ∧ m_6 [(l_7.getD 2 undef), (l_7.getD 1 undef), v25_20] w < m_6 l_7 w0_l_7) w)))))))))))))))
 (K (.bool true) w)) w)) w0_l_7)) w)) w) w) w
theorem sh_137_eq (a0 : Value) (a1 : Value) (K : Value → World → Prop) (w : World) : sh_137 a0 a1 K w = code Tryz.prog (fun _ => .free [0, 1, 2, 3, 4, 5, 6, 7, 8] [] []) 26 (Tryz.f137.body.getD .skip) (slotsAt [a0, a1]) (retK Tryz.prog [.tmp 4] K) w := by kernel_rfl
theorem sh_137_ok {a0 a1 : Value} {K : Value → World → Prop} {w : World} (h : sh_137 a0 a1 K w) : callM Tryz.prog 137 #[a0, a1] K w :=
  calls_of_code (fun _ => .free [0, 1, 2, 3, 4, 5, 6, 7, 8] [] []) (fn := Tryz.f137) (rs := [.tmp 4]) Tryz.func137 rfl rfl (by kernel_rfl) (Nat.le_of_ble_eq_true rfl) ((sh_137_eq a0 a1 K w).mp h)
def sh_72 (a0 : Value) (a1 : Value) (a2 : Value) (a3 : Value) (K : Value → World → Prop) (w : World) : Prop :=
 oM Tryz.prog (.box 32 (.tmp 0)) 0 [a0] (fun v4_1 w =>
 oM Tryz.prog (.box 39 (.tmp 0)) 0 [a2] (fun v6_2 w =>
 oM Tryz.prog (.box 45 (.tmp 0)) 0 [a3] (fun v7_3 w =>
 oM Tryz.prog (.alloc 41) 0 [] (fun v8_4 w =>
 oM Tryz.prog (.load 32 (.tmp 0)) 32 [v4_1] (fun v14_5 w =>
 oM Tryz.prog (.fieldAddr 39 (.tmp 0) 0) 0 [v6_2] (fun v16_6 w =>
 oM Tryz.prog (.load 22 (.tmp 0)) 22 [v16_6] (fun v17_7 w =>
 oM Tryz.prog (.fieldAddr 39 (.tmp 0) 1) 0 [v6_2] (fun v18_8 w =>
 oM Tryz.prog (.load 37 (.tmp 0)) 37 [v18_8] (fun v19_9 w =>
 oM Tryz.prog (.load 45 (.tmp 0)) 45 [v7_3] (fun v20_10 w =>
 callM Tryz.prog 17 #[v14_5, a1, v17_7, v19_9, v20_10] (fun v21_11 w =>
 oM Tryz.prog (.extract (.tmp 0) 0) 3 [v21_11] (fun v22_12 w =>
 oM Tryz.prog (.extract (.tmp 0) 1) 54 [v21_11] (fun v23_13 w =>
 oM Tryz.prog (.binOp .neq 54 (.tmp 0) (.const (.int .i64 0)) 54) 4 [v23_13] (fun v25_14 w =>
 gdM (gd v25_14 false) (pureM v22_12) (fun v27_15 w =>
 gdM (gd v25_14 false) (oM Tryz.prog (.fieldAddr 39 (.tmp 0) 2) 0 [v6_2]) (fun v28_16 w =>
 gdM (gd v25_14 false) (oM Tryz.prog (.load 3 (.tmp 0)) 3 [v28_16]) (fun v29_17 w =>
 gdM (gd v25_14 false) (oM Tryz.prog (.binOp .neq 3 (.tmp 0) (.tmp 1) 3) 4 [v27_15, v29_17]) (fun v30_18 w =>
 oM Tryz.prog (.pick (.tmp 0) (.tmp 1) (.tmp 2)) 4 [v25_14, (.bool true), v30_18] (fun v31_19 w =>
 condM v31_19
 (oM Tryz.prog (.build 41 #[]) 41 [] (fun v32_20 w =>
 oM Tryz.prog (.store 41 (.tmp 0) (.tmp 1)) 0 [v8_4, v32_20] (fun _ w =>
 ∃ r_21, (do loadVar 41 (← asAddr v8_4) : Sem Value).run Tryz.prog w = .ok r_21 w ∧ K (.tuple #[r_21, (.bool false)]) w) w) w)
 (oM Tryz.prog (.load 32 (.tmp 0)) 32 [v4_1] (fun v34_22 w =>
 oM Tryz.prog (.fieldAddr 39 (.tmp 0) 0) 0 [v6_2] (fun v36_23 w =>
 oM Tryz.prog (.load 22 (.tmp 0)) 22 [v36_23] (fun v37_24 w =>
 oM Tryz.prog (.fieldAddr 39 (.tmp 0) 1) 0 [v6_2] (fun v38_25 w =>
 oM Tryz.prog (.load 37 (.tmp 0)) 37 [v38_25] (fun v39_26 w =>
 oM Tryz.prog (.load 45 (.tmp 0)) 45 [v7_3] (fun v40_27 w =>
 oM Tryz.prog (.fieldAddr 39 (.tmp 0) 3) 0 [v6_2] (fun v41_28 w =>
 oM Tryz.prog (.load 3 (.tmp 0)) 3 [v41_28] (fun v42_29 w =>
 callM Tryz.prog 18 #[v34_22, a1, v37_24, v39_26, v40_27, v42_29] (fun v43_30 w =>
 oM Tryz.prog (.extract (.tmp 0) 0) 41 [v43_30] (fun v44_31 w =>
 oM Tryz.prog (.extract (.tmp 0) 1) 54 [v43_30] (fun v45_32 w =>
 oM Tryz.prog (.alloc 41) 0 [] (fun v12_33 w =>
 oM Tryz.prog (.store 41 (.tmp 0) (.tmp 1)) 0 [v12_33, v44_31] (fun _ w =>
 oM Tryz.prog (.load 41 (.tmp 0)) 41 [v12_33] (fun v46_34 w =>
 oM Tryz.prog (.binOp .eql 54 (.tmp 0) (.const (.int .i64 0)) 54) 4 [v45_32] (fun v48_35 w =>
 oM Tryz.prog (.store 41 (.tmp 0) (.tmp 1)) 0 [v8_4, v46_34] (fun _ w =>
 ∃ r_36, (do loadVar 41 (← asAddr v8_4) : Sem Value).run Tryz.prog w = .ok r_36 w ∧ K (.tuple #[r_36, v48_35]) w) w) w) w) w) w) w) w) w) w) w) w) w) w) w) w) w)) w) w) w) w) w) w) w) w) w) w) w) w) w) w) w) w) w) w) w
theorem sh_72_eq (a0 : Value) (a1 : Value) (a2 : Value) (a3 : Value) (K : Value → World → Prop) (w : World) : sh_72 a0 a1 a2 a3 K w = code Tryz.prog (fun _ => 0) 49 (Tryz.f72.body.getD .skip) (slotsAt [a0, a1, a2, a3]) (retK Tryz.prog [.cell 8 41, .tmp 9] K) w := by kernel_rfl
theorem sh_72_ok {a0 a1 a2 a3 : Value} {K : Value → World → Prop} {w : World} (h : sh_72 a0 a1 a2 a3 K w) : callM Tryz.prog 72 #[a0, a1, a2, a3] K w :=
  calls_of_code (fun _ => 0) (fn := Tryz.f72) (rs := [.cell 8 41, .tmp 9]) Tryz.func72 rfl rfl (by kernel_rfl) (Nat.le_of_ble_eq_true rfl) ((sh_72_eq a0 a1 a2 a3 K w).mp h)
end Go.Proofs
namespace Go.Proofs.Cd
open Go Go.Sh Go.RowKit Go.Lib CodeSpec
set_option linter.unusedSimpArgs false
set_option linter.unusedVariables false
set_option maxRecDepth 100000
end Go.Proofs.Cd
namespace Go.Proofs
open Go Go.Sh Go.RowKit FdSpec TkSpec CodeSpec
set_option linter.unusedSimpArgs false
set_option linter.unusedVariables false
set_option maxRecDepth 10000
section
variable {K : Value → World → Prop} {w w0 : World} {L : List (Addr × Value)}
end
end Go.Proofs
namespace Go.Proofs
open Go Go.Sh Go.RowKit FdSpec TkSpec CodeSpec
set_option linter.unusedSimpArgs false
set_option linter.unusedVariables false
set_option maxRecDepth 10000
section
variable {K : Value → World → Prop} {w w0 : World} {L : List (Addr × Value)}
end
end Go.Proofs
namespace Go.Proofs
open Go Go.Sh Go.RowKit FdSpec TkSpec CodeSpec
set_option linter.unusedSimpArgs false
set_option linter.unusedVariables false
set_option maxRecDepth 10000
section
variable {K : Value → World → Prop} {w w0 : World} {L : List (Addr × Value)}
structure GrI (Wl w : World) (g : Nat) (T : TypeId) (cs : List Value) (ov : Value) (l : List Int) : Prop where
  lt : g < Wl.heap.size
  fr : FrG g Wl w
  own : OwnI w Wl.heap.size ov l
  holds : Holds w g T cs
theorem GrI.next {Wl w1 : World} {g : Nat} {T : TypeId} {cs : List Value} {ov : Value} {l : List Int} (h : GrI Wl w g T cs ov l) (hb : Below w.heap.size w w1) : GrI Wl w1 g T cs ov l :=
  ⟨h.lt, h.fr.next hb, h.own.keep hb, h.holds.next hb⟩
theorem GrI.start {g : Nat} {T : TypeId} {cs : List Value} (hg : g < w.heap.size) (hh : Holds w g T cs) : GrI w w g T cs (.slice none 0 0) [] := ⟨hg, Fr.refl _ _, World.ownsRow_nil _ _ _ _, hh⟩
theorem gr_append {Wl : World} {g : Nat} {T T3 : TypeId} {cs : List Value} {ov xv : Value} {l : List Int} {x : Int} (h : GrI Wl w g T cs ov l) (hx : Ints w xv [x]) (hl : l.length < 1099511627776)
    (k : ∀ ad n c w', GrI Wl w' g T cs (.slice ad n c) (l ++ [x]) → K (.slice ad n c) w') : oM Tryz.prog (.call { callee := .builtin .append, args := #[.tmp 0, .tmp 1], argTypes := #[22, 22] }) T3 [ov, xv] K w := by
  refine append1 h.own h.fr.size hx hl (fun v w' ho hb => ?_)
  obtain ⟨ad, c, rfl⟩ := owns_len ho
  have hlt := h.lt
  refine k _ _ _ _ ⟨h.lt, h.fr.trans (S' := fun i => Wl.heap.size ≤ i) ⟨hb.os, hb.tape, hb.output, hb.size, fun i hi hn => hb.block i (by omega)⟩ (fun i h => .inr h), ho, ?_⟩
  have := h.holds
  unfold Holds at this ⊢
  rw [hb.block g hlt]
  exact this
theorem gr_store {Wl : World} {g i : Nat} {T T3 : TypeId} {cs : List Value} {l : List Int} {ad : Option Addr} {n c : Nat} (h : GrI Wl w g T cs (.slice ad n c) l) (hi : i < cs.length)
    (k : ∀ w', GrI Wl w' g T (cs.set i (.slice ad n c)) (.slice ad n c) l → K undef w') : oM Tryz.prog (.store 22 (.tmp 0) (.tmp 1)) T3 [ptr g i, .slice ad n c] K w := by
  refine arr_set sz_ints rfl rfl h.holds hi (fun w' hg hh => ?_)
  have hlt := h.lt
  exact k _ ⟨h.lt, h.fr.by hg (fun i e => .inl (Option.some.inj e).symm), owns_keep h.own (fun j hj => hg.block j (owns_own h.own hj).1 (fun e => by have := (owns_own h.own hj).2.1; have := Option.some.inj e; omega)), hh⟩
def GrJ (Wl : World) (g : Nat) (T : TypeId) (cs : Value → List Value) (al : List Int) (vs : List Value) (w' : World) : Prop := ∃ (v ov : Value) (i : Nat), vs = [v, .int .i64 (i : Int)] ∧ i ≤ al.length ∧ GrI Wl w' g T (cs ov) ov (al.take i)
def grMu (n : Nat) (l : List Value) (_ : World) : Nat := match l with | [_, .int _ i] => n - i.toNat | _ => 0
theorem grMu_eq (n : Nat) (u : Value) (k : IntKind) (i : Int) (w : World) : grMu n [u, .int k i] w = n - i.toNat := rfl
theorem take_snoc {al : List Int} {i : Nat} (h : i < al.length) : al.take i ++ [al[i]] = al.take (i + 1) := by
  rw [List.take_add_one, List.getElem?_eq_getElem h]; rfl
@[reducible] def mirV (m : Mir) (v : Value) : Value := .agg #[v, .int .i64 m.blind]
@[reducible] def mirC (m : Mir) (v : Value) : List Value := [v, .int .i64 m.blind]
structure MirR (w : World) (m : Mir) (v : Value) : Prop where
  ints : Ints w v m.bases
  blind : I64 m.blind
theorem MirR.next {w1 : World} {m : Mir} {v : Value} (h : MirR w m v) (hb : Below w.heap.size w w1) : MirR w1 m v := ⟨h.ints.next hb, h.blind⟩
theorem bad_ok (g : Grp) (x : Int) {b : Nat} (h1 : w.cell? ⟨b, 1, none⟩ = some (.int .i64 g.Q)) (k : ∀ w', Below w.heap.size w w' → K (.bool (badN g x)) w') : callM Tryz.prog 132 #[.int .i64 x, .pointer (some ⟨b, 0, none⟩)] K w := by
  apply sh_132_ok
  unfold sh_132
  have k := k w (Below.refl _ _)
  unfold badN at k
  by_cases h0 : x < 1
  · rw [decide_eq_true h0, Bool.true_or] at k
    refine Xa (An2 @h1 @h0) ?_
    exact k
  · rw [decide_eq_false h0, Bool.false_or] at k
    refine Xa (An2 @h1 @h0) ?_
    by_cases h2 : g.Q ≤ x
    · simpa [h2] using k
    · simpa [h2] using k
theorem makeM_no {g : Grp} {m : Mir} (h : validG g = false ∨ m.bases.length < 2 ∨ 7 < m.bases.length ∨ m.bases.any (badN g) = true ∨ badN g m.blind = true) : makeM g m = (⟨⟨0, 0, 0⟩, [], 0⟩, false) := by
  unfold makeM
  rw [if_neg]
  rcases h with h | h | h | h | h <;> simp [h] <;> omega
end
end Go.Proofs
namespace Go.Proofs
open Go Go.Sh Go.RowKit FdSpec TkSpec CodeSpec
set_option linter.unusedSimpArgs false
set_option linter.unusedVariables false
set_option maxRecDepth 10000
section
variable {K : Value → World → Prop} {w w0 : World} {L : List (Addr × Value)}
theorem build_stp2 (T : TypeId) (g : Grp) (b : Int) : oM Tryz.prog (Go.Op.build 32 #[(0, (.tmp 0)), (2, (.tmp 1))]) T [grpV g, .int .i64 b] = pureM (stpV ⟨g, [], b⟩ (.slice none 0 0)) := by
  funext K w
  kernel_rfl
theorem store_stp {K : Value → World → Prop} {T' : TypeId} {g : Nat} (s : Stp) (ad : Option Addr) (n c : Nat) (hk : KnM w0 L g 5 w)
    (k : ∀ W, KnM w0 L g 5 W → cellsAre W (cellsOf [] g 0 (stpC s (.slice ad n c))) → w.grownBy W (some g) → K undef W) : oM Tryz.prog (.store 32 (.tmp 0) (.tmp 1)) T' [.pointer (some ⟨g, 0, none⟩), stpV s (.slice ad n c)] K w := by
  obtain ⟨W, e, hg, hm, hc⟩ := store_run (P := Tryz.prog) (W := w) sz_stp (x := stpV s (.slice ad n c)) rfl rfl (stp_one s ad n c) hk.mine
  rw [oM_store, e]
  exact k W ⟨hk.kn.wrote hg hk.base hk.off, hm, hk.base, hk.off⟩ hc hg
theorem zS_R {v : Value} (hT : DbT w) (hi : Ints w v []) : SetR w zS v := ⟨⟨by constructor <;> decide, by constructor <;> decide, by constructor <;> decide⟩, hi, by constructor <;> decide, hT⟩
theorem Make_ok (g : Grp) (m : Mir) {mv : Value} (hg : GrpR g) (hT : DbT w) (hm : MirR w m mv)
    (k : ∀ w' sv, Below w.heap.size w w' → SetR w' (makeM g m).1 sv → (∀ i, Value.inBlock sv = some i → w.heap.size ≤ i) → K (.tuple #[stpV (makeM g m).1 sv, .bool (makeM g m).2]) w') : callM Tryz.prog 63 #[grpV g, mirV m mv] K w := by
  apply sh_63_ok
  unfold sh_63
  have hms := hm.ints
  obtain ⟨ad, c, rfl⟩ := hm.ints.isSlice
  have k2 : ∀ w' sv r, makeM g m = r → Below w.heap.size w w' → SetR w' r.1 sv → (∀ i, Value.inBlock sv = some i → w.heap.size ≤ i) → K (.tuple #[stpV r.1 sv, .bool r.2]) w' := fun w' sv r e hb hi hf => by
    rw [← e] at hi ⊢
    exact k w' sv hb hi hf
  clear k
  have hno := makeM_no (g := g) (m := m)
  have hml := hms.len
  refine box_kn (cs := [.int .i64 g.P, .int .i64 g.Q, .int .i64 g.G]) rfl (.start w) fun b1 W hk hb1 hbb => ?_
  refine box_kn (cs := mirC m (.slice ad m.bases.length c)) rfl hk fun b2 W2 hk hb2 hbb => ?_
  refine alloc_mine (n := 5) al_stp rfl hk fun g0 W3 hk hb3 hg0 => ?_
  clear hb1 hb2 hb3
  have bad : makeM g m = (⟨⟨0, 0, 0⟩, [], 0⟩, false) → ∀ w2 (hk : KnM w (cellsOf (cellsOf [] b1 0 [.int .i64 g.P, .int .i64 g.Q, .int .i64 g.G]) b2 0 (mirC m (.slice ad m.bases.length c))) g0 5 w2),
      oM Tryz.prog (Go.Op.store 32 (.tmp 0) (.tmp 1)) 0 [.pointer (some ⟨g0, 0, none⟩), stpV zS (.slice none 0 0)] (fun _ w =>
        ∃ r_29, (do loadVar 32 (← asAddr (.pointer (some ⟨g0, 0, none⟩))) : Sem Value).run Tryz.prog w = .ok r_29 w ∧ K (.tuple #[r_29, (.bool false)]) w) w2 := fun e w2 hk =>
    store_stp zS none 0 0 hk (fun W3 hk hc _ => ⟨_, by simp [go_sem, hc], k2 _ _ _ e hk.below (zS_R (hT.next hk.below) (Ints.nil _)) (fun i h => by cases h)⟩)
  refine Xa hk.cells ?_
  refine ValidGroup_ok g hg (hT.next hk.below) (fun w2 h2 => ?_)
  have hk := hk.next h2
  clear h2
  cases hv : validG g with
  | false =>
    refine Xa hk.cells ?_
    exact bad (hno (.inl hv)) _ hk
  | true =>
  by_cases h2 : (m.bases.length : Int) < 2
  · refine Xa (An2 hk.cells @h2) ?_
    exact bad (hno (.inr (.inl (by omega)))) _ hk
  by_cases h7 : (7 : Int) < m.bases.length
  · refine Xa (An3 hk.cells @h2 @h7) ?_
    exact bad (hno (.inr (.inr (.inl (by omega))))) _ hk
  refine Xa (An3 hk.cells @h2 @h7) ?_
  refine ContainsFunc_ok (badN g) (hms.next hk.below) ?_ ?_
  · intro w' x K' T hb _ h'
    refine oM_callv1 (by kernel_rfl) ?_
    have hk := (hk.next hb).cells
    exact bad_ok g x hk.2.2.2.1 h'
  intro w3 h3
  have hk := hk.next h3
  clear h3
  cases ha : m.bases.any (badN g) with
  | true =>
    refine Xa hk.cells ?_
    exact bad (hno (.inr (.inr (.inr (.inl ha))))) _ hk
  | false =>
  refine Xa hk.cells ?_
  refine oM_callv1 (by kernel_rfl) ?_
  refine bad_ok g m.blind hk.cells.2.2.2.1 (fun w4 h4 => ?_)
  have hk := hk.next h4
  clear h4
  cases hb : badN g m.blind with
  | true =>
    refine Xa hk.cells ?_
    exact bad (hno (.inr (.inr (.inr (.inr hb))))) _ hk
  | false =>
  clear bad hno
  have ey : makeM g m = (⟨g, m.bases.map (powerG g g.G), powerG g g.G m.blind⟩, true) := by
    unfold makeM
    rw [if_pos]
    rw [hv, ha, hb, decide_eq_true (by omega : 2 ≤ m.bases.length), decide_eq_true (by omega : m.bases.length ≤ 7)]; rfl
  refine Xa hk.cells ?_
  have hk := hk.drew
  refine ⟨Nx { w4 with drawn := w4.drawn + 1 }, Below.refl _ _, rfl, ?_⟩
  generalize ({ w4 with drawn := w4.drawn + 1 } : World) = W at hk ⊢
  refine Xc (fun W0 hW0 => (hk.next hW0).cells) ?_
  refine ⟨Nx, ?_⟩
  apply monoE
  · intro w1 h1
    exact Power_ok g g.G m.blind (fun w2 h2 => ⟨h1.on h2, h2, rfl⟩)
  repeat (apply monoE; focus (intro w9 h9; (repeat (intro v9 e9; try (obtain rfl := e9))); (repeat (any_goals ((with_reducible refine idO ?_); (with_reducible refine oM_gen fun Kv hK=>?_); simp [go_sem, build_stp2]; refine hK _ _ ?_; clear hK; clear Kv))); exact ⟨h9, Below.refl _ _, rfl⟩))
  refine monoR (fun v w' => ∃ g2, v = ptr g2 0 ∧ W.heap.size ≤ g2 ∧ Holds w' g2 32 (stpC zS (.slice none 0 0))) (fun v w w1 hS h => h.imp fun g2 h => ⟨h.1, h.2.1, h.2.2.next hS⟩) ?_ ?_
  · intro w1 h1
    exact arr_alloc al_stp (fun g2 w2 h2 hg2 hh => ⟨h1.on h2, h2, g2, rfl, Nat.le_trans h1.size hg2, hh⟩)
  (intro w9 h9; repeat (intro v9 e9; try (obtain rfl := e9)))
  obtain ⟨g2, rfl, hg2, hh⟩ := e9
  refine arr_store sz_stp (xs := stpC ⟨g, [], powerG g g.G m.blind⟩ (.slice none 0 0)) rfl rfl (stp_one ⟨g, [], powerG g g.G m.blind⟩ none 0 0) hh rfl (fun w10 hg10 hh => ?_)
  have h10 := grown_below h9 hg10 hg2
  have hgW : g0 < W.heap.size := mine_lt hk.mine
  have hoffL := cells_lt hk.cells
  have hk := hk.next h10
  clear hg10 h9
  refine Xa hk.cells ?_
  have hne : g0 ≠ g2 := by omega
  have hoff : ∀ p ∈ cellsOf (cellsOf [] b1 0 [.int .i64 g.P, .int .i64 g.Q, .int .i64 g.G]) b2 0 (mirC m (.slice ad m.bases.length c)), p.1.block ≠ g2 := fun p hp => by have := hoffL p hp; omega
  have hbase : w.heap.size ≤ g2 := Nat.le_trans hk.base (by omega)
  have hal : (m.bases.map (powerG g g.G)).length = m.bases.length := List.length_map _
  have hrng : ∀ n ∈ m.bases.map (powerG g g.G), I64 n := by
    intro n hn
    obtain ⟨x, _, rfl⟩ := List.mem_map.1 hn
    exact powerG_I64 _ _ _
  have hat : ∀ i (h : i < m.bases.length), powerG g g.G m.bases[i] = (m.bases.map (powerG g g.G))[i]'(by rw [hal]; exact h) := fun i h => by simp
  generalize m.bases.map (powerG g g.G) = al at *
  refine ⟨GrJ w10 g2 32 (fun ov => stpC ⟨g, [], powerG g g.G m.blind⟩ ov) al, grMu m.bases.length, ⟨_, .slice none 0 0, 0, rfl, by omega, .start hh.lt hh⟩, ?_⟩
  have hk0 := hk
  rintro _ _ w6 ⟨u, ov, i, rfl, hi, hgr⟩
  have hk := hk0.fr hgr.fr hoff hne hbase
  by_cases hin : i = m.bases.length
  · have ho := hgr.own
    rw [List.take_of_length_le (by omega)] at ho
    have hints := ho.ints hrng (by omega)
    obtain ⟨g', oc, cur, rfl, hlt, hB, _, _, _, _⟩ := owns_cells ho (by omega)
    refine Xa hgr.holds.are ?_
    refine store_stp ⟨g, al, powerG g g.G m.blind⟩ (some ⟨g', 0, none⟩) al.length oc hk (fun W3 hk hc hg3 => ⟨stpV ⟨g, al, powerG g g.G m.blind⟩ (.slice (some ⟨g', 0, none⟩) al.length oc), by simp [go_sem, hc], k2 W3 (.slice (some ⟨g', 0, none⟩) al.length oc) _ ey hk.below ⟨hg, ⟨hints.row.keep hg3.size (fun i hi hlt => hg3.block i hlt ?_), hrng, by show al.length ≤ _; omega⟩, powerG_I64 _ _ _, hT.next hk.below⟩ (fun i h => by have e2 : g' = i := Option.some.inj h; have := hk0.below.size; omega)⟩)
    cases hi
    intro e
    have e2 : g' = g0 := Option.some.inj e
    have := hh.lt
    omega
  · obtain ⟨b8, o8, rfl, hb8', ca, ra, _⟩ := hms.at (i := i) (by omega)
    refine Xa (ca _ hk.below) ?_
    have hk := hk.drew
    have hgr := hgr.next (.drawn (B := w6.heap.size))
    refine ⟨Nx { w6 with drawn := w6.drawn + 1 }, Below.refl _ _, rfl, ?_⟩
    generalize ({ w6 with drawn := w6.drawn + 1 } : World) = W6 at hk hgr ⊢
    refine Xc (fun W0 hW0 => An2 ((hk.next hW0).cells) ((hgr.next hW0).holds.are)) ?_
    refine ⟨Nx, ?_⟩
    apply monoE
    · intro w1 h1
      exact Power_ok g g.G _ (fun w2 h2 => ⟨h1.on h2, h2, rfl⟩)
    refine monoR (fun v w' => Ints w' v [powerG g g.G m.bases[i]]) (fun v w w1 hS h => h.next hS) ?_ ?_
    · rintro w1 h1 _ rfl
      exact mk1 _ (powerG_I64 _ _ _) (fun v w2 h2 hi => ⟨h1.on h2, h2, hi⟩)
    rintro w9 h9 _ rfl v9 hi9
    refine gr_append (hgr.next h9) hi9 (by rw [List.length_take]; omega) (fun ad n c w11 hgr => ?_)
    refine Xa0 ?_
    refine gr_store (i := 3) hgr (show 3 < 5 by decide) (fun w12 hgr => ?_)
    refine Xa0 ?_
    rw [hat i (by omega), take_snoc] at hgr
    refine ⟨⟨_, _, i + 1, rfl, by omega, hgr⟩, ?_⟩
    simp only [grMu_eq]; omega
end
end Go.Proofs
set_option linter.unusedVariables false
set_option maxRecDepth 100000
namespace Go.Proofs
open Go.Sh
end Go.Proofs
set_option linter.unusedVariables false
set_option maxRecDepth 100000
namespace Go.Proofs
open Go.Sh
end Go.Proofs
namespace Go.Proofs
open Go Go.Sh Go.RowKit FdSpec
set_option linter.unusedSimpArgs false
set_option linter.unusedVariables false
set_option maxRecDepth 10000
section
variable {K : Value → World → Prop} {w : World}
end
end Go.Proofs
namespace Go.Proofs
open Go Go.Sh Go.RowKit FdSpec TkSpec
set_option linter.unusedSimpArgs false
set_option linter.unusedVariables false
set_option maxRecDepth 10000
section
variable {K : Value → World → Prop} {w : World}
end
end Go.Proofs
namespace Go.Proofs
open Go Go.Sh Go.RowKit FdSpec TkSpec
set_option linter.unusedSimpArgs false
set_option linter.unusedVariables false
set_option maxRecDepth 10000
section
variable {K : Value → World → Prop} {w : World}
end
end Go.Proofs
namespace Go.Proofs
open Go Go.Sh Go.RowKit FdSpec TkSpec
set_option linter.unusedSimpArgs false
set_option linter.unusedVariables false
set_option maxRecDepth 10000
section
variable {K : Value → World → Prop} {w : World}
@[reducible] def grpC (g : Grp) : List Value := [.int .i64 g.P, .int .i64 g.Q, .int .i64 g.G]
end
end Go.Proofs
namespace Go.Proofs
open Go Go.Sh Go.RowKit ShaSpec
set_option linter.unusedSimpArgs false
set_option linter.unusedVariables false
set_option maxRecDepth 10000
section
variable {K : Value → World → Prop} {w w0 : World}
abbrev OwnW (w : World) (B : Nat) (v : Value) (l : List W) : Prop := w.ownsRow B 200 1 v l.length (ws l)
def WrdR (w : World) (v : Value) (l : List W) : Prop := ∃ ad c, v = .slice ad l.length c ∧ (l = [] ∨ ∃ b o, ad = some ⟨b, o, none⟩ ∧ b < w.heap.size ∧ ∀ i, i < l.length → w.cell? ⟨b, o + i, none⟩ = some (w32 (at' l i)))
theorem WrdR.next {w' : World} {v : Value} {l : List W} (h : WrdR w v l) (hb : Below w.heap.size w w') : WrdR w' v l := by
  obtain ⟨ad, c, rfl, h⟩ := h
  refine ⟨ad, c, rfl, h.imp id ?_⟩
  rintro ⟨b, o, rfl, hlt, hc⟩
  exact ⟨b, o, rfl, Nat.lt_of_lt_of_le hlt hb.size, fun i hi => by rw [hb.cell hlt]; exact hc i hi⟩
theorem WrdR.at {v : Value} {l : List W} (h : WrdR w v l) (hne : 0 < l.length) : ∃ b o c, v = .slice (some ⟨b, o, none⟩) l.length c ∧ ∀ w', Below w.heap.size w w' → ∀ i, i < l.length → w'.cell? ⟨b, o + i, none⟩ = some (w32 (at' l i)) := by
  obtain ⟨ad, c, rfl, h⟩ := h
  rcases h with rfl | ⟨b, o, rfl, hlt, hc⟩
  · simp at hne
  · exact ⟨b, o, c, rfl, fun w' hb i hi => by rw [hb.cell hlt]; exact hc i hi⟩
theorem OwnW.keep {B : Nat} {v : Value} {l : List W} {w' : World} (h : OwnW w B v l) (hb : Below w.heap.size w w') : OwnW w' B v l :=
  owns_keep h (fun i hi => hb.block i (owns_own h hi).1)
@[go_sem] theorem idx_w32 (T : TypeId) (b o n c : Nat) (x : Int) : oM Tryz.prog (.indexAddr 216 (.tmp 0) (.tmp 1)) T [.slice (some ⟨b, o, none⟩) n c, .int .i64 x] = onM (0 ≤ x ∧ x < n) (.pointer (some ⟨b, o + x.toNat, none⟩)) := by
  funext K w
  rw [oM_indexAddr, run_indexAt_slice (h := by kernel_rfl)]
  have hs : (sizeOf (Tryz.prog.elem 216)).run Tryz.prog w = .ok 1 w := by kernel_rfl
  by_cases hi : 0 ≤ x ∧ x < n
  · rw [if_pos hi, hs]
    simp only [Result.andThen, add_none, Nat.mul_one, rM_ok]
    exact propext ⟨fun h => ⟨hi, h⟩, fun h => h.2⟩
  · rw [if_neg hi]
    obtain ⟨e', w', he⟩ := halts Value Tryz.prog .i64 x n .index w
    rw [he]
    exact propext ⟨fun h => h.elim, fun h => hi h.1⟩
abbrev W' := BitVec 32
end
end Go.Proofs
namespace Go.Proofs
open Go Go.Sh Go.RowKit ShaSpec
set_option linter.unusedSimpArgs false
set_option linter.unusedVariables false
set_option maxRecDepth 10000
section
variable {K : Value → World → Prop} {w w0 : World}
def One (x : W) (v : Value) (w' : World) : Prop := ∃ g, v = .slice (some ⟨g, 0, none⟩) 1 1 ∧ g < w'.heap.size ∧ w'.cell? ⟨g, 0, none⟩ = some (w32 x)
theorem One.next {x : W} {v : Value} {w w' : World} (h : One x v w) (hb : Nx w w') : One x v w' := by
  obtain ⟨g, rfl, hlt, hc⟩ := h
  exact ⟨g, rfl, Nat.lt_of_lt_of_le hlt hb.size, by rw [hb.cell hlt]; exact hc⟩
end
end Go.Proofs
namespace Go.Proofs
open Go Go.Sh Go.RowKit ShaSpec
set_option linter.unusedSimpArgs false
set_option linter.unusedVariables false
set_option maxRecDepth 10000
section
variable {K : Value → World → Prop} {w w0 : World}
end
end Go.Proofs
namespace Go.Proofs
open Go Go.Sh Go.RowKit ShaSpec FdSpec TkSpec
set_option linter.unusedSimpArgs false
set_option linter.unusedVariables false
set_option maxRecDepth 10000
section
variable {K : Value → World → Prop} {w w0 : World}
theorem OwnB.keep {B : Nat} {v : Value} {l : List UInt8} {w' : World} (h : OwnB w B v l) (hb : Below w.heap.size w w') : OwnB w' B v l :=
  owns_keep h (fun i hi => hb.block i (owns_own h hi).1)
theorem OwnB.shape {B : Nat} {v : Value} {l : List UInt8} (h : OwnB w B v l) : ∃ ad c, v = .slice ad l.length c := by
  rcases h.2 with ⟨rfl, h0⟩ | ⟨g, cap, cur, rfl, _⟩
  · exact ⟨none, 0, by rw [h0]⟩
  · exact ⟨_, cap, rfl⟩
end
end Go.Proofs
namespace Go.Proofs
open Go Go.Sh Go.RowKit ShaSpec FdSpec TkSpec
set_option linter.unusedSimpArgs false
set_option linter.unusedVariables false
set_option maxRecDepth 10000
section
variable {K : Value → World → Prop} {w w0 : World}
end
end Go.Proofs
namespace Go.Proofs.Cd
open Go Go.Sh Go.RowKit Go.Lib CodeSpec
set_option linter.unusedSimpArgs false
set_option maxRecDepth 10000
end Go.Proofs.Cd
namespace Go.Proofs
open Go Go.Sh Go.RowKit FdSpec TkSpec CodeSpec
set_option linter.unusedSimpArgs false
set_option linter.unusedVariables false
set_option maxRecDepth 10000
section
variable {K : Value → World → Prop} {w w0 : World} {L : List (Addr × Value)}
end
end Go.Proofs
namespace Go.Proofs
open Go Go.Sh Go.RowKit FdSpec TkSpec CodeSpec
set_option linter.unusedSimpArgs false
set_option linter.unusedVariables false
set_option maxRecDepth 10000
section
variable {K : Value → World → Prop} {w w0 : World} {L : List (Addr × Value)}
theorem sz_grp (w : World) : (sizeOf 30).run Tryz.prog w = .ok 3 w := by kernel_rfl
theorem al_grp (w : World) : (Instr.alloc 30 true (.tuple #[])).run Tryz.prog w = .ok (.pointer (some ⟨w.heap.size, 0, none⟩)) (w.alloc (.cells [.int .i64 0, .int .i64 0, .int .i64 0].toArray 30)) := by kernel_rfl
theorem grp_one (g : Grp) : ∀ u ∈ grpC g, u.oneCell' = true := by
  intro u hu
  simp only [grpC, List.mem_cons, List.not_mem_nil, or_false] at hu
  rcases hu with rfl | rfl | rfl <;> rfl
theorem local_grpM {K : Value → World → Prop} {T' T2 : TypeId} {g n : Nat} (t : Grp) (hk : KnM w0 L g n w)
    (k : ∀ b W, KnM w0 (cellsOf L b 0 (grpC t)) g n W → Below w.heap.size w W → w.heap.size ≤ b → K (.pointer (some ⟨b, 0, none⟩)) W) :
    oM Tryz.prog (.alloc 30) T' [] (fun v w => oM Tryz.prog (.store 30 (.tmp 0) (.tmp 1)) T2 [v, grpV t] (fun _ w => K v w) w) w :=
  local_knm al_grp rfl sz_grp rfl rfl (grp_one t) hk k
theorem store_grp {K : Value → World → Prop} {T' : TypeId} {g : Nat} (t : Grp) (hk : KnM w0 L g 3 w)
    (k : ∀ W, KnM w0 L g 3 W → cellsAre W (cellsOf [] g 0 (grpC t)) → K undef W) : oM Tryz.prog (.store 30 (.tmp 0) (.tmp 1)) T' [.pointer (some ⟨g, 0, none⟩), grpV t] K w :=
  store_mine sz_grp rfl rfl (grp_one t) hk k
@[reducible] def zG : Grp := ⟨0, 0, 0⟩
theorem build_grp3 (T : TypeId) (a b c : Int) : oM Tryz.prog (Go.Op.build 30 #[(0, (.tmp 0)), (1, (.tmp 1)), (2, (.tmp 2))]) T [.int .i64 a, .int .i64 b, .int .i64 c] = pureM (grpV ⟨a, b, c⟩) := by
  funext K w
  kernel_rfl
theorem fMake_ok (q : Int) (hq : I64 q) (hT : DbT w) (k : ∀ w', Below w.heap.size w w' → K (.tuple #[grpV (makeG q).1, .bool (makeG q).2]) w') : callM Tryz.prog 62 #[.int .i64 q] K w := by
  apply sh_62_ok
  unfold sh_62
  have k2 : ∀ w' r, makeG q = r → Below w.heap.size w w' → K (.tuple #[grpV r.1, .bool r.2]) w' := fun w' r e hb => by rw [← e]; exact k w' hb
  clear k
  refine alloc_mine (n := 3) al_grp rfl (.start w) fun g W hk hb4 hg => ?_
  clear hb4
  by_cases h5 : q < 5
  · have e : makeG q = (zG, false) := by unfold makeG; rw [if_pos (.inl h5)]
    refine Xa @h5 ?_
    exact store_grp zG hk (fun W3 hk hc => ⟨_, by simp [go_sem, hc], k2 _ _ e hk.below⟩)
  by_cases h6 : 1152921504606846976 ≤ q
  · have e : makeG q = (zG, false) := by unfold makeG; rw [if_pos (.inr h6)]
    refine Xa (An2 @h5 @h6) ?_
    exact store_grp zG hk (fun W3 hk hc => ⟨_, by simp [go_sem, hc], k2 _ _ e hk.below⟩)
  have e : makeG q = if validG ⟨2 * q + 1, q, 4⟩ then (⟨2 * q + 1, q, 4⟩, true) else (zG, false) := by unfold makeG; rw [if_neg (by omega)]
  repeat (any_goals (first
  | ((with_reducible refine local_grpM ⟨2 * q + 1, q, 4⟩ hk ?_); intro b7 W7 hk hb7 hg7)
  | (with_reducible first|refine pureM_in ?_|((refine idGd ?_); refine zC ?_)|((refine idPick ?_); refine yC ?_)|((refine idCond ?_); refine yM ?_))
  | ((with_reducible refine idO ?_); (with_reducible refine oM_gen fun Kv hK=>?_); simp [go_sem, h5, h6, build_grp3, hk.cells]; (try simp (disch := omega) only [wrapI64, wrapU8, wrapU32, wrapU64]); refine hK _ _ ?_; clear hK; clear Kv)))
  refine ValidGroup_ok ⟨2 * q + 1, q, 4⟩ ⟨by unfold I64; dsimp only; omega, hq, by unfold I64; dsimp only; omega⟩ (hT.next hk.below) (fun w2 h2 => ?_)
  have hk := hk.next h2
  cases hv : validG ⟨2 * q + 1, q, 4⟩ with
  | false =>
    rw [hv, if_neg (by decide)] at e
    refine Xa hk.cells ?_
    exact store_grp zG hk (fun W3 hk hc => ⟨_, by simp [go_sem, hc], k2 _ _ e hk.below⟩)
  | true =>
    rw [hv, if_pos rfl] at e
    refine Xa hk.cells ?_
    exact store_grp ⟨2 * q + 1, q, 4⟩ hk (fun W3 hk hc => ⟨_, by simp [go_sem, hc], k2 _ _ e hk.below⟩)
structure Cas where
  q : Int
  m : Mir
  x : Int
  w : Int
  attrs : List Int
  b : Bld
@[reducible] def casV (c : Cas) (mv av yv : Value) : Value := .agg #[.int .i64 c.q, mv, .int .i64 c.m.blind, .int .i64 c.x, .int .i64 c.w, av, .int .i64 c.b.s, .int .i64 c.b.u, .int .i64 c.b.v, yv]
@[reducible] def casC (c : Cas) (mv av yv : Value) : List Value := [.int .i64 c.q, mv, .int .i64 c.m.blind, .int .i64 c.x, .int .i64 c.w, av, .int .i64 c.b.s, .int .i64 c.b.u, .int .i64 c.b.v, yv]
structure CasR (w : World) (c : Cas) (mv av yv : Value) : Prop where
  q : I64 c.q
  m : MirR w c.m mv
  x : I64 c.x
  wn : I64 c.w
  attrs : Ints w av c.attrs
  b : BldR w c.b yv
theorem CasR.next {w1 : World} {c : Cas} {mv av yv : Value} (h : CasR w c mv av yv) (hb : Below w.heap.size w w1) : CasR w1 c mv av yv := ⟨h.q, h.m.next hb, h.x, h.wn, h.attrs.next hb, h.b.next hb⟩
end
end Go.Proofs
namespace Go.Proofs
open Go Go.Sh Go.RowKit FdSpec TkSpec CodeSpec
set_option linter.unusedSimpArgs false
set_option linter.unusedVariables false
set_option maxRecDepth 10000
section
variable {K : Value → World → Prop} {w w0 : World} {L : List (Addr × Value)}
theorem Equal_ok {v u : Value} {a b : List Int} (ha : Ints w v a) (hb : Ints w u b) (k : ∀ w', Below w.heap.size w w' → K (.bool (decide (a = b))) w') : callM Tryz.prog 137 #[v, u] K w := by
  apply sh_137_ok
  unfold sh_137
  obtain ⟨ad1, c1, rfl⟩ := ha.isSlice
  obtain ⟨ad2, c2, rfl⟩ := hb.isSlice
  have l1 := ha.len
  have l2 := hb.len
  by_cases hl : a.length = b.length
  · refine Xa @hl ?_
    refine ⟨fun vs w' => Below w.heap.size w w' ∧ ∃ (v v2 : Value) (i : Nat), vs = [v, v2, .int .i64 (i : Int)] ∧ i ≤ a.length ∧ a.take i = b.take i, fun vs _ => match vs with | [_, _, .int _ i] => b.length - i.toNat | _ => 0, ⟨Below.refl _ _, _, _, 0, rfl, by omega, rfl⟩, ?_⟩
    rintro _ _ w1 ⟨h1, u1, u2, i, rfl, hi, he⟩
    by_cases hin : i = b.length
    · have e : a = b := by
        rw [List.take_of_length_le (by omega), List.take_of_length_le (by omega)] at he
        exact he
      have k := k _ h1
      rw [decide_eq_true e] at k
      refine Xa @hl ?_
      exact k
    · obtain ⟨b1, o1, rfl, hb1, ca, ra, _⟩ := ha.at (i := i) (by omega)
      obtain ⟨b2, o2, rfl, hb2, cb, rb, _⟩ := hb.at (i := i) (by omega)
      refine Xa @hl ?_
      refine ⟨Below w.heap.size w, h1.trans .drawn, rfl, ?_⟩
      by_cases hx : a[i] = b[i]
      · refine Xf (fun W0 hW0 => An2 (ca _ hW0) (cb _ hW0)) (An2 @hl @hx) ?_
        refine ⟨Nx, fun w2 h2 => ?_⟩
        refine Xa @hx ?_
        refine ⟨⟨h2, _, _, i + 1, rfl, by omega, ?_⟩, by show b.length - (((i + 1 : Nat) : Int)).toNat < b.length - ((i : Nat) : Int).toNat; omega⟩
        rw [List.take_succ_eq_append_getElem (by omega), List.take_succ_eq_append_getElem (by omega), he, hx]
      · refine Xf (fun W0 hW0 => An2 (ca _ hW0) (cb _ hW0)) (An2 @hl @hx) ?_
        refine ⟨Nx, fun w2 h2 => ?_⟩
        have k := k _ h2
        rw [decide_eq_false (by rintro rfl; exact hx rfl)] at k
        refine Xa @hx ?_
        exact k
  · have hl' : ¬ (a.length : Int) = b.length := by omega
    have k := k _ (Below.refl _ _)
    rw [decide_eq_false (by rintro rfl; exact hl rfl)] at k
    refine Xa @hl' ?_
    exact k
theorem Mirrors_ok (s : Stp) (m : Mir) {v mv : Value} (hs : SetR w s v) (hm : MirR w m mv) (k : ∀ w', Below w.heap.size w w' → K (.bool (mirrorsM s m)) w') : callM Tryz.prog 73 #[stpV s v, mirV m mv] K w := by
  apply sh_73_ok
  unfold sh_73
  obtain ⟨ad, c, rfl⟩ := hs.ints.isSlice
  have hms := hm
  obtain ⟨mad, mc, rfl⟩ := hm.ints.isSlice
  refine box_kn (cs := stpC s (.slice ad s.bases.length c)) rfl (.start w) fun b1 W hk hb1 hbb => ?_
  refine box_kn (cs := mirC m (.slice mad m.bases.length mc)) rfl hk fun b2 W2 hk hb2 hbb => ?_
  clear hb1 hb2
  unfold mirrorsM at k
  refine Xa hk.cells ?_
  refine Make_ok s.g m hs.grp (hs.db.next hk.below) (hms.next hk.below) (fun w3 sv h3 hr _ => ?_)
  have hk := hk.next h3
  obtain ⟨sad, sc, rfl⟩ := hr.ints.isSlice
  generalize (makeM s.g m).1 = t at *
  generalize (makeM s.g m).2 = q at *
  refine Xb2_0 ?_
  refine local_stp t sad t.bases.length sc hk (fun b7 W7 hk hb7 hg7 => ?_)
  cases q with
  | false =>
    rw [Bool.false_and, Bool.false_and] at k
    refine Xa0 ?_
    exact k _ hk.below
  | true =>
  rw [Bool.true_and] at k
  by_cases hbl : t.blind = s.blind
  · rw [decide_eq_true hbl, Bool.true_and] at k
    refine Xa (An2 hk.cells @hbl) ?_
    refine Equal_ok (hr.ints.next hb7) (hs.ints.next hk.below) (fun w8 h8 => ?_)
    have k := k _ (hk.next h8).below
    generalize decide (t.bases = s.bases) = q at *
    refine Xa0 ?_
    exact k
  · rw [decide_eq_false hbl, Bool.false_and] at k
    refine Xa (An2 hk.cells @hbl) ?_
    exact k _ hk.below
end
end Go.Proofs
namespace Go.Proofs
open Go Go.Sh Go.RowKit FdSpec TkSpec CodeSpec
set_option linter.unusedSimpArgs false
set_option linter.unusedVariables false
set_option maxRecDepth 10000
section
variable {K : Value → World → Prop} {w w0 : World} {L : List (Addr × Value)}
@[reducible] def sesV (x : Ses) (v : Value) : Value := .agg #[v, .int .i64 x.offer.z, .int .i64 x.offer.a, .int .i64 x.offer.b, .int .i64 x.c, .int .i64 x.r]
@[reducible] def sesC (x : Ses) (v : Value) : List Value := [v, .int .i64 x.offer.z, .int .i64 x.offer.a, .int .i64 x.offer.b, .int .i64 x.c, .int .i64 x.r]
structure SesR (w : World) (x : Ses) (v : Value) : Prop where
  attrs : Ints w v x.attrs
  offer : OffR x.offer
  c : I64 x.c
  r : I64 x.r
theorem SesR.next {w1 : World} {x : Ses} {v : Value} (h : SesR w x v) (hb : Below w.heap.size w w1) : SesR w1 x v := ⟨h.attrs.next hb, h.offer, h.c, h.r⟩
theorem local_tktM {K : Value → World → Prop} {T' T2 : TypeId} {g n : Nat} (t : Tkt) (hk : KnM w0 L g n w)
    (k : ∀ b W, KnM w0 (cellsOf L b 0 (tktC t)) g n W → Below w.heap.size w W → w.heap.size ≤ b → K (.pointer (some ⟨b, 0, none⟩)) W) :
    oM Tryz.prog (.alloc 41) T' [] (fun v w => oM Tryz.prog (.store 41 (.tmp 0) (.tmp 1)) T2 [v, tktV t] (fun _ w => K v w) w) w :=
  local_knm al_tkt rfl sz_tkt rfl rfl (tkt_one t) hk k
theorem obtained_ok (s : Stp) (key : Int) (x : Ses) (b : Bld) {v xv bv : Value} (hkey : I64 key) (hs : SetR w s v) (hx : SesR w x xv) (hb : BldR w b bv) (hL : Cd.Laid w)
    (k : ∀ w', Below w.heap.size w w' → K (.tuple #[tktV (obtainedM s key x b).1, .bool (obtainedM s key x b).2]) w') :
    callM Tryz.prog 72 #[stpV s v, .int .i64 key, sesV x xv, bldV b bv] K w := by
  apply sh_72_ok
  unfold sh_72
  obtain ⟨ad, cc, rfl⟩ := hs.ints.isSlice
  have ha := hx.attrs
  obtain ⟨xad, xc, rfl⟩ := hx.attrs.isSlice
  have hb' := hb
  obtain ⟨yad, yc, rfl⟩ := hb.ys.isSlice
  have k2 : ∀ w' r, obtainedM s key x b = r → Below w.heap.size w w' → K (.tuple #[tktV r.1, .bool r.2]) w' := fun w' r e hb => by rw [← e]; exact k w' hb
  clear k
  refine box_kn (cs := stpC s (.slice ad s.bases.length cc)) rfl (.start w) fun b1 W hk hb1 hbb => ?_
  refine box_kn (cs := sesC x (.slice xad x.attrs.length xc)) rfl hk fun b2 W2 hk hb2 hbb => ?_
  refine box_kn (cs := bldC b (.slice yad b.ys.length yc)) rfl hk fun b3 W3 hk hb3 hbb => ?_
  refine alloc_mine (n := 6) al_tkt rfl hk fun g W hk hb4 hg => ?_
  clear hb1 hb2 hb3 hb4
  refine Xa hk.cells ?_
  refine Ask_ok s key x.offer b hkey hx.offer (hs.next hk.below) (ha.next hk.below) (hb'.next hk.below) (hL.below hk.below hL.size) (fun w4 h4 => ?_)
  have hk := hk.next h4
  clear h4
  have eo : obtainedM s key x b = if decide ((askM s key x.attrs x.offer b).2 = 0) && decide ((askM s key x.attrs x.offer b).1 = x.c) then
    ((finishM s key x.attrs x.offer b x.r).1, decide ((finishM s key x.attrs x.offer b x.r).2 = 0)) else (zT, false) := rfl
  generalize (askM s key x.attrs x.offer b).1 = c1 at *
  generalize (askM s key x.attrs x.offer b).2 = e1 at *
  by_cases he : e1 = 0
  rotate_left
  · rw [decide_eq_false he, Bool.false_and, if_neg (by decide)] at eo
    refine Xa (An3 hk.cells @build_tkt0 @he) ?_
    exact store_tkt zT hk (fun W3 hk hc => ⟨_, by simp [go_sem, hc], k2 _ _ eo hk.below⟩)
  by_cases hc : c1 = x.c
  rotate_left
  · rw [decide_eq_false hc, Bool.and_false, if_neg (by decide)] at eo
    refine Xa (An4 hk.cells @build_tkt0 @he @hc) ?_
    exact store_tkt zT hk (fun W3 hk hc => ⟨_, by simp [go_sem, hc], k2 _ _ eo hk.below⟩)
  rw [decide_eq_true he, decide_eq_true hc, Bool.true_and, if_pos rfl] at eo
  refine Xa (An3 hk.cells @he @hc) ?_
  refine Finish_ok s key x.r x.offer b hkey hx.r hx.offer (hs.next hk.below) (ha.next hk.below) (hb'.next hk.below) (hL.below hk.below hL.size) (fun w4 h4 => ?_)
  have hk := hk.next h4
  clear h4
  generalize (finishM s key x.attrs x.offer b x.r).1 = t at *
  generalize (finishM s key x.attrs x.offer b x.r).2 = e2 at *
  refine Xb2_0 ?_
  refine local_tktM t hk (fun g7 W7 hk hb7 hg7 => ?_)
  by_cases he2 : e2 = 0
  · rw [decide_eq_true he2] at eo
    refine Xa (An2 hk.cells @he2) ?_
    exact store_tkt t hk (fun W3 hk hc => ⟨_, by simp [go_sem, hc], k2 _ _ eo hk.below⟩)
  · rw [decide_eq_false he2] at eo
    refine Xa (An2 hk.cells @he2) ?_
    exact store_tkt t hk (fun W3 hk hc => ⟨_, by simp [go_sem, hc], k2 _ _ eo hk.below⟩)
end
end Go.Proofs
namespace Go.Proofs
open Go Go.Sh Go.RowKit FdSpec TkSpec CodeSpec
set_option linter.unusedSimpArgs false
set_option linter.unusedVariables false
set_option maxRecDepth 10000
section
variable {K : Value → World → Prop} {w w0 : World} {L : List (Addr × Value)}
def logF (s : Stp) (o : Int) (p : Int × Int) : Int := plusQ s o (mulQ s p.1 [p.2])
def LgJ (s : Stp) (ps : List (Int × Int)) (R : Int) (w0 : World) (vs : List Value) (w' : World) : Prop := Below w0.heap.size w0 w' ∧ ∃ (u1 u2 : Value) (o : Int) (i : Nat), vs = [u1, u2, .int .i64 o, .int .i64 (i : Int)] ∧ i ≤ ps.length ∧ (ps.drop i).foldl (logF s) o = R
theorem log_ok (s : Stp) (m : Mir) {dv mv lv : Value} {l : List Int} (hs : SetR w s dv) (hm : MirR w m mv) (hl : Ints w lv l) (hne : 0 < l.length) (hln : l.length < 1000) (hml : m.bases.length = l.length + 1)
    (k : ∀ w', Below w.heap.size w w' → K (.int .i64 (logM s m l)) w') : callM Tryz.prog 75 #[stpV s dv, mirV m mv, lv] K w := by
  apply sh_75_ok
  unfold sh_75
  obtain ⟨ad, c, rfl⟩ := hs.ints.isSlice
  have hms := hm.ints
  obtain ⟨mad, mc, rfl⟩ := hm.ints.isSlice
  refine box_kn (cs := stpC s (.slice ad s.bases.length c)) rfl (.start w) fun b1 W hk hb1 hbb => ?_
  refine box_kn (cs := mirC m (.slice mad m.bases.length mc)) rfl hk fun b2 W2 hk hb2 hbb => ?_
  clear hb1 hb2
  have el : logM s m l = ((expsM l).zip m.bases).foldl (logF s) 0 := rfl
  rw [el] at k
  have hel : (expsM l).length = l.length + 1 := rfl
  refine exps_ok (hl.next hk.below) (by omega) (by omega) (fun ev w3 he h3 _ => ?_)
  have hk := hk.next h3
  clear h3
  obtain ⟨ead, ec, rfl⟩ := he.isSlice
  have hzl : ((expsM l).zip m.bases).length = l.length + 1 := by rw [List.length_zip]; omega
  have hzd := fun i h1 h2 => zip_drop (expsM l) m.bases i h1 h2
  refine Xa0 ?_
  refine ⟨LgJ s ((expsM l).zip m.bases) (((expsM l).zip m.bases).foldl (logF s) 0) w3, pdMu (expsM l).length, ⟨Below.refl _ _, _, _, 0, 0, rfl, by omega, rfl⟩, ?_⟩
  generalize ((expsM l).zip m.bases).foldl (logF s) 0 = R at *
  rintro _ _ w6 ⟨h6, u1, u2, o, i, rfl, hi, ha⟩
  have hk := hk.next h6
  by_cases hin : i = (expsM l).length
  · rw [List.drop_of_length_le (by omega)] at ha
    refine Xa0 ?_
    rw [show R = o from ha.symm] at k
    exact k _ hk.below
  · rw [hzd i (by omega) (by omega)] at ha
    obtain ⟨b8, o8, rfl, hb8, ca, ra, _⟩ := he.at (i := i) (by omega)
    obtain ⟨b9, o9, rfl, hb9, cb, rb, _⟩ := hms.at (i := i) (by omega)
    generalize (expsM l)[i] = x at *
    generalize m.bases[i] = y at *
    refine Xa (ca _ h6) ?_
    have hk := hk.drew
    have h6 := h6.on (.drawn (B := w6.heap.size))
    refine ⟨Nx { w6 with drawn := w6.drawn + 1 }, Below.refl _ _, rfl, ?_⟩
    generalize ({ w6 with drawn := w6.drawn + 1 } : World) = W6 at hk h6 ⊢
    refine Xc (fun W0 hW0 => An2 ((hk.next hW0).cells) (cb _ (hk.next hW0).below)) ?_
    refine ⟨Nx, ?_⟩
    refine monoR (fun v w' => Ints w' v [y]) (fun v w w1 hS h => h.next hS) ?_ ?_
    · intro w1 h1
      exact mk1 _ rb (fun v w2 h2 hi => ⟨h1.on h2, h2, hi⟩)
    apply monoE
    · rintro w1 h1 v1 hi1
      exact mul_ok s x (hs.next (hk.next h1).below) hi1 (fun w2 h2 => ⟨h1.on h2, h2, rfl⟩)
    rintro w9 h9 v9 hi9 _ rfl
    refine plus_ok s o _ (hs.next (hk.next h9).below) (fun w10 h10 => ?_)
    refine Xa0 ?_
    refine ⟨⟨(h6.on h9).on h10, _, _, _, i + 1, rfl, by omega, ha⟩, ?_⟩
    simp only [pdMu_eq]; omega
end
end Go.Proofs
namespace Go.Proofs
open Go Go.Sh Go.RowKit FdSpec TkSpec CodeSpec
set_option linter.unusedSimpArgs false
set_option linter.unusedVariables false
set_option maxRecDepth 10000
section
variable {K : Value → World → Prop} {w w0 : World} {L : List (Addr × Value)}
theorem neq_tkt (T : TypeId) (a b : Tkt) : oM Tryz.prog (.binOp .neq 41 (.tmp 0) (.tmp 1) 41) T [tktV a, tktV b] = pureM (.bool (!decide (a = b))) := by
  funext K w
  have h1 : (eqGuard .neq 41 (.tmp 0) (.tmp 1) (tktV a) (tktV b)).run Tryz.prog w = .ok () w := run_eqGuard_agg w _ _ _ _ _ _ (by kernel_rfl)
  have h2 : (binOp .neq 41 (tktV a) (tktV b)).run Tryz.prog w = .ok (.bool (!decide (a = b))) w := by
    rw [run_neq_struct, run_equalIn_agg w 9999 41 _ _ (by kernel_rfl) (by kernel_rfl)]
    have u3 := Tryz.underlying3
    have e : decide (a = b) = ((a.mark == b.mark) && (a.first == b.first) && (a.z == b.z) && (a.a == b.a) && (a.b == b.b) && (a.r == b.r)) := by
      obtain ⟨a1, a2, a3, a4, a5, a6⟩ := a
      obtain ⟨b1, b2, b3, b4, b5, b6⟩ := b
      simp [Tkt.mk.injEq, and_assoc, Bool.and_assoc]
      rfl
    rw [e]
    simp [go_sem, Program.fieldsOf, Tryz.underlying41, Op.eqFields, part, u3]
    repeat' split
    all_goals simp_all
  unfold oM opM
  simp [xop, execOp, evalL, evE, h1, h2]
  exact Iff.rfl
theorem local_spdM {K : Value → World → Prop} {T' T2 : TypeId} {g n : Nat} (x : Spd) (ad : Option Addr) (m c : Nat) (hk : KnM w0 L g n w)
    (k : ∀ b W, KnM w0 (cellsOf L b 0 (spdC x (.slice ad m c))) g n W → Below w.heap.size w W → w.heap.size ≤ b → K (.pointer (some ⟨b, 0, none⟩)) W) :
    oM Tryz.prog (.alloc 49) T' [] (fun v w => oM Tryz.prog (.store 49 (.tmp 0) (.tmp 1)) T2 [v, spdV x (.slice ad m c)] (fun _ w => K v w) w) w :=
  local_knm al_spd rfl sz_spd rfl rfl (spd_one x ad m c) hk k
theorem build_bld2 (T : TypeId) (a b : Int) : oM Tryz.prog (Go.Op.build 45 #[(0, (.tmp 0)), (1, (.tmp 1))]) T [.int .i64 a, .int .i64 b] = pureM (bldV ⟨a, b, 0, []⟩ (.slice none 0 0)) := by
  funext K w
  kernel_rfl
theorem store_bld {K : Value → World → Prop} {T' : TypeId} {g : Nat} (s : Bld) (ad : Option Addr) (n c : Nat) (hk : KnM w0 L g 4 w)
    (k : ∀ W, KnM w0 L g 4 W → cellsAre W (cellsOf [] g 0 (bldC s (.slice ad n c))) → w.grownBy W (some g) → K undef W) : oM Tryz.prog (.store 45 (.tmp 0) (.tmp 1)) T' [.pointer (some ⟨g, 0, none⟩), bldV s (.slice ad n c)] K w := by
  obtain ⟨W, e, hg, hm, hc⟩ := store_run (P := Tryz.prog) (W := w) sz_bld (x := bldV s (.slice ad n c)) rfl rfl (bld_one s ad n c) hk.mine
  rw [oM_store, e]
  exact k W ⟨hk.kn.wrote hg hk.base hk.off, hm, hk.base, hk.off⟩ hc hg
theorem logF_I64 (s : Stp) (ps : List (Int × Int)) : ∀ o, I64 o → I64 (ps.foldl (logF s) o) := by
  induction ps with
  | nil => intro o h; exact h
  | cons p ps ih => intro o h; exact ih _ (addM_I64 _ _ _)
theorem logM_I64 (s : Stp) (m : Mir) (l : List Int) : I64 (logM s m l) := logF_I64 s _ 0 (by constructor <;> decide)
theorem use_len {s : Stp} {l : List Int} {b : Bld} {dare : Int} (h : (useM s l b dare).2 = true) : (useM s l b dare).1.answers.length = s.bases.length ∧ (useM s l b dare).1.dare = dare ∧ l.length + 1 = s.bases.length := by
  cases hu : (usableM s l).2 with
  | false => rw [useM_no (.inl hu)] at h; cases h
  | true =>
  cases hb : blindsM s b with
  | false => rw [useM_no (.inr (.inl hb))] at h; cases h
  | true =>
  cases hn : numsM s 1 [dare] with
  | false => rw [useM_no (.inr (.inr hn))] at h; cases h
  | true =>
  rw [useM_yes hu hb hn]
  have := usable_len hu
  have := blinds_len hb
  refine ⟨?_, rfl, this ▸ by omega⟩
  show (ansL s l b dare).length = _
  unfold ansL
  rw [List.length_map, List.length_zip]
  show min (l.length + 1) _ = _
  omega
theorem mirrors_len {s : Stp} {m : Mir} (h : mirrorsM s m = true) : m.bases.length = s.bases.length := by
  unfold mirrorsM at h
  simp only [Bool.and_eq_true, decide_eq_true_eq] at h
  rw [← h.2]
  have h2 := h.1.1
  unfold makeM at h2 ⊢
  split at h2
  · rename_i hc
    rw [if_pos hc]
    simp
  · cases h2
theorem finish_R (s : Stp) (key : Int) (l : List Int) (o : Off) (b : Bld) (r : Int) : TktR (finishM s key l o b r).1 := by
  have h0 : TktR zT := ⟨by constructor <;> decide, by constructor <;> decide, by constructor <;> decide, by constructor <;> decide, by constructor <;> decide, by constructor <;> decide⟩
  unfold finishM
  split
  · exact h0
  split
  · exact h0
  split
  · exact h0
  · have h := askTkt_R s l o b
    exact ⟨h.mark, h.first, h.z, h.a, h.b, addM_I64 _ _ _⟩
theorem obtained_R (s : Stp) (key : Int) (x : Ses) (b : Bld) : TktR (obtainedM s key x b).1 := by
  unfold obtainedM
  split
  · exact finish_R _ _ _ _ _ _
  · exact ⟨by constructor <;> decide, by constructor <;> decide, by constructor <;> decide, by constructor <;> decide, by constructor <;> decide, by constructor <;> decide⟩
end
end Go.Proofs
namespace Go.Proofs
open Go Go.Sh Go.RowKit FdSpec TkSpec CodeSpec
set_option linter.unusedSimpArgs false
set_option linter.unusedVariables false
set_option maxRecDepth 10000
section
variable {K : Value → World → Prop} {w w0 : World} {L : List (Addr × Value)}
def GrJ3 (Wl : World) (g : Nat) (T : TypeId) (cs : Value → List Value) (al : List Int) (vs : List Value) (w' : World) : Prop := ∃ (u v ov : Value) (i : Nat), vs = [u, v, .int .i64 (i : Int)] ∧ i ≤ al.length ∧ GrI Wl w' g T (cs ov) ov (al.take i)
def exYs (s : Stp) (dare S : Int) (l xs : List Int) : List Int := ((expsM l).zip xs).map fun p => lessQ s p.2 (mulQ s dare [S, p.1])
theorem exYs_len {s : Stp} {dare S : Int} {l xs : List Int} (h : l.length + 1 = xs.length) : (exYs s dare S l xs).length = xs.length := by
  unfold exYs
  rw [List.length_map, List.length_zip]
  show min (l.length + 1) _ = _
  omega
theorem exYs_at {s : Stp} {dare S : Int} {l xs : List Int} (i : Nat) (h1 : i < (expsM l).length) (h2 : i < xs.length) : (exYs s dare S l xs)[i]? = some (lessQ s xs[i] (mulQ s dare [S, (expsM l)[i]])) := by
  simp [exYs, h1, h2, List.getElem?_zip_eq_some]
  exact ⟨_, _, ⟨rfl, rfl⟩, rfl⟩
theorem take_snoc' {al : List Int} {i : Nat} {x : Int} (h : al[i]? = some x) : al.take i ++ [x] = al.take (i + 1) := by
  rw [List.take_add_one, h]; rfl
theorem exYs_rng {s : Stp} {dare S : Int} {l xs : List Int} : ∀ n ∈ exYs s dare S l xs, I64 n := by
  intro n hn
  obtain ⟨m, _, rfl⟩ := List.mem_map.1 hn
  exact subM_I64 _ _ _
set_option maxHeartbeats 1000000 in
theorem Explain_okF (s : Stp) (m : Mir) (key dare : Int) (x : Ses) (b : Bld) (y : Ses) {v mv xv bv yv : Value} (hkey : I64 key) (hd : I64 dare) (hs : SetR w s v) (hm : MirR w m mv) (hx : SesR w x xv) (hb : BldR w b bv) (hy : SesR w y yv) (hL : Cd.Laid w)
    (k : ∀ w' ov, Below w.heap.size w w' → BldR w' (explainM s m key x b y dare).1 ov → (∀ i, Value.inBlock ov = some i → w.heap.size ≤ i) → K (.tuple #[bldV (explainM s m key x b y dare).1 ov, .bool (explainM s m key x b y dare).2]) w') :
    callM Tryz.prog 16 #[stpV s v, mirV m mv, .int .i64 key, sesV x xv, bldV b bv, sesV y yv, .int .i64 dare] K w := by
  apply sh_16_ok
  unfold sh_16
  obtain ⟨ad, cc, rfl⟩ := hs.ints.isSlice
  have hm' := hm
  obtain ⟨mad, mc, rfl⟩ := hm.ints.isSlice
  have hx' := hx
  obtain ⟨xad, xc, rfl⟩ := hx.attrs.isSlice
  have hb' := hb
  obtain ⟨bad, bc, rfl⟩ := hb.ys.isSlice
  have hy' := hy
  obtain ⟨yad, yc, rfl⟩ := hy.attrs.isSlice
  have k2 : ∀ w' ov r, explainM s m key x b y dare = r → Below w.heap.size w w' → BldR w' r.1 ov → (∀ i, Value.inBlock ov = some i → w.heap.size ≤ i) → K (.tuple #[bldV r.1 ov, .bool r.2]) w' := fun w' ov r e hb hr hf => by
    rw [← e] at hr ⊢
    exact k w' ov hb hr hf
  clear k
  refine box_kn (cs := stpC s (.slice ad s.bases.length cc)) rfl (.start w) fun b1 W hk hb1 hbb => ?_
  refine box_kn (cs := mirC m (.slice mad m.bases.length mc)) rfl hk fun b2 W2 hk hb2 hbb => ?_
  refine box_kn (cs := sesC x (.slice xad x.attrs.length xc)) rfl hk fun b3 W3 hk hb3 hbb => ?_
  refine box_kn (cs := bldC b (.slice bad b.ys.length bc)) rfl hk fun b4 W4 hk hb4 hbb => ?_
  refine box_kn (cs := sesC y (.slice yad y.attrs.length yc)) rfl hk fun b5 W5 hk hb5 hbb => ?_
  refine alloc_mine (n := 4) al_bld rfl hk fun g W hk hb6 hg => ?_
  clear hb1 hb2 hb3 hb4 hb5 hb6
  have zB_R : ∀ w', BldR w' zB (.slice none 0 0) := fun w' => ⟨by constructor <;> decide, by constructor <;> decide, by constructor <;> decide, Ints.nil _⟩
  have ebad : explFine s m key x b y dare = false → explainM s m key x b y dare = (zB, false) := fun h => by unfold explainM; rw [h, if_neg (by decide)]
  have hbad : explainM s m key x b y dare = (zB, false) → ∀ L w2 (hk : KnM w L g 4 w2),
      oM Tryz.prog (Go.Op.store 45 (.tmp 0) (.tmp 1)) 0 [.pointer (some ⟨g, 0, none⟩), bldV zB (.slice none 0 0)] (fun _ w =>
        ∃ r_29, (do loadVar 45 (← asAddr (.pointer (some ⟨g, 0, none⟩))) : Sem Value).run Tryz.prog w = .ok r_29 w ∧ K (.tuple #[r_29, (.bool false)]) w) w2 := fun e L w2 hk =>
    store_bld zB none 0 0 hk (fun W3 hk hc _ => ⟨_, by simp [go_sem, hc], k2 _ _ _ e hk.below (zB_R _) (fun i hi => by cases hi)⟩)
  repeat (any_goals ((with_reducible refine idO ?_); (with_reducible refine oM_gen fun Kv hK=>?_); simp [go_sem, hk.cells]; refine hK _ _ ?_; clear hK; clear Kv))
  refine obtained_ok s key x b hkey (hs.next hk.below) (hx'.next hk.below) (hb'.next hk.below) (hL.below hk.below hL.size) (fun w7 h7 => ?_)
  have hk := hk.next h7
  clear h7
  have ht := obtained_R s key x b
  have eF : explFine s m key x b y dare = ((obtainedM s key x b).2 && (useM s x.attrs b dare).2 && (usableM s y.attrs).2 && mirrorsM s m && numsM s 1 [y.c] && numsM s 0 [y.r]) := rfl
  have eE : explainM s m key x b y dare = if explFine s m key x b y dare then
      (if (obtainedM s key y (explB s m x b y dare (obtainedM s key x b).1 (useM s x.attrs b dare).1)).2 && decide ((obtainedM s key y (explB s m x b y dare (obtainedM s key x b).1 (useM s x.attrs b dare).1)).1 = (obtainedM s key x b).1) then (explB s m x b y dare (obtainedM s key x b).1 (useM s x.attrs b dare).1, true) else (zB, false)) else (zB, false) := rfl
  generalize (obtainedM s key x b).1 = t at *
  generalize (obtainedM s key x b).2 = one at *
  iterate 2 (any_goals ((with_reducible refine idO ?_); (with_reducible refine oM_gen fun Kv hK=>?_); simp [go_sem]; refine hK _ _ ?_; clear hK; clear Kv))
  refine local_tktM t hk (fun g1 W8 hk hb8 hg1 => ?_)
  clear hb8
  repeat (any_goals ((with_reducible refine idO ?_); (with_reducible refine oM_gen fun Kv hK=>?_); simp [go_sem, hk.cells]; refine hK _ _ ?_; clear hK; clear Kv))
  refine Use_ok s b dare hd (hs.next hk.below) (hx'.attrs.next hk.below) (hb'.next hk.below) (fun w9 uv h9 hu => ?_)
  have hk := hk.next h9
  clear h9
  have hul := use_len (s := s) (l := x.attrs) (b := b) (dare := dare)
  generalize (useM s x.attrs b dare).1 = us at *
  generalize (useM s x.attrs b dare).2 = two at *
  obtain ⟨uad, uc, rfl⟩ := hu.isSlice
  iterate 2 (any_goals ((with_reducible refine idO ?_); (with_reducible refine oM_gen fun Kv hK=>?_); simp [go_sem]; refine hK _ _ ?_; clear hK; clear Kv))
  refine local_spdM us uad us.answers.length uc hk (fun g2 W10 hk hb10 hg2 => ?_)
  have hu := hu.next hb10
  clear hb10
  repeat (any_goals ((with_reducible refine idO ?_); (with_reducible refine oM_gen fun Kv hK=>?_); simp [go_sem, hk.cells]; refine hK _ _ ?_; clear hK; clear Kv))
  refine usable_ok s (hs.next hk.below) (hy'.attrs.next hk.below) (fun w11 h11 => ?_)
  have hk := hk.next h11
  have hu := hu.next h11
  clear h11
  have hyl := usable_len (s := s) (l := y.attrs)
  generalize (usableM s y.attrs).2 = three at *
  generalize (usableM s y.attrs).1 = mk at *
  iterate 3 (any_goals ((with_reducible refine idO ?_); (with_reducible refine oM_gen fun Kv hK=>?_); simp [go_sem]; refine hK _ _ ?_; clear hK; clear Kv))
  refine local_desk s ad s.bases.length cc hk (fun g3 W12 hk hb12 hg3 => ?_)
  have hu := hu.next hb12
  clear hb12
  cases one with
  | false =>
    repeat (any_goals (first
    | (with_reducible first|((refine idGd ?_); refine zD ?_)|((refine idPick ?_); refine yB ?_)|((refine idCond ?_); refine yL ?_))
    | ((with_reducible refine idO ?_); (with_reducible refine oM_gen fun Kv hK=>?_); simp [go_sem, hk.cells]; refine hK _ _ ?_; clear hK; clear Kv)))
    exact hbad (ebad (by rw [eF]; simp)) _ _ hk
  | true =>
  cases two with
  | false =>
    repeat (any_goals (first
    | (with_reducible first|refine pureM_in ?_|((refine idGd ?_); first|refine zC ?_|refine zD ?_)|((refine idPick ?_); first|refine yB ?_|refine yC ?_)|((refine idCond ?_); refine yL ?_))
    | ((with_reducible refine idO ?_); (with_reducible refine oM_gen fun Kv hK=>?_); simp [go_sem, hk.cells]; refine hK _ _ ?_; clear hK; clear Kv)))
    exact hbad (ebad (by rw [eF]; simp)) _ _ hk
  | true =>
  cases three with
  | false =>
    repeat (any_goals (first
    | (with_reducible first|refine pureM_in ?_|((refine idGd ?_); first|refine zC ?_|refine zD ?_)|((refine idPick ?_); first|refine yB ?_|refine yC ?_)|((refine idCond ?_); refine yL ?_))
    | ((with_reducible refine idO ?_); (with_reducible refine oM_gen fun Kv hK=>?_); simp [go_sem, hk.cells]; refine hK _ _ ?_; clear hK; clear Kv)))
    exact hbad (ebad (by rw [eF]; simp)) _ _ hk
  | true =>
  repeat (any_goals (first
  | (with_reducible first|refine pureM_in ?_|((refine idGd ?_); refine zC ?_)|((refine idPick ?_); refine yC ?_))
  | ((with_reducible refine idO ?_); (with_reducible refine oM_gen fun Kv hK=>?_); simp [go_sem, hk.cells]; refine hK _ _ ?_; clear hK; clear Kv)))
  refine Mirrors_ok s m (hs.next hk.below) (hm'.next hk.below) (fun w13 h13 => ?_)
  have hk := hk.next h13
  have hu := hu.next h13
  clear h13
  cases hmi : mirrorsM s m with
  | false =>
    repeat (any_goals (first
    | (with_reducible first|((refine idGd ?_); first|refine zC ?_|refine zD ?_)|((refine idPick ?_); first|refine yB ?_|refine yC ?_)|((refine idCond ?_); refine yL ?_))
    | ((with_reducible refine idO ?_); (with_reducible refine oM_gen fun Kv hK=>?_); simp [go_sem, hk.cells]; refine hK _ _ ?_; clear hK; clear Kv)))
    exact hbad (ebad (by rw [eF, hmi]; simp)) _ _ hk
  | true =>
  repeat (any_goals (first
  | ((with_reducible refine mk1 y.c hy'.c ?_); intro v8 W8 hb8 hi)
  | (with_reducible first|((refine idGd ?_); refine zC ?_)|((refine idPick ?_); refine yC ?_))
  | ((with_reducible refine idO ?_); (with_reducible refine oM_gen fun Kv hK=>?_); simp [go_sem, hk.cells]; refine hK _ _ ?_; clear hK; clear Kv)))
  have hk := hk.next hb8
  have hu := hu.next hb8
  clear hb8
  refine nums_ok s 1 (hs.next hk.below) hi (fun w14 h14 => ?_)
  have hk := hk.next h14
  have hu := hu.next h14
  clear h14 hi
  cases hn1 : numsM s 1 [y.c] with
  | false =>
    repeat (any_goals (first
    | (with_reducible first|((refine idGd ?_); first|refine zC ?_|refine zD ?_)|((refine idPick ?_); first|refine yB ?_|refine yC ?_)|((refine idCond ?_); refine yL ?_))
    | ((with_reducible refine idO ?_); (with_reducible refine oM_gen fun Kv hK=>?_); simp [go_sem, hk.cells]; refine hK _ _ ?_; clear hK; clear Kv)))
    exact hbad (ebad (by rw [eF, hn1]; simp)) _ _ hk
  | true =>
  repeat (any_goals (first
  | ((with_reducible refine mk1 y.r hy'.r ?_); intro v8 W8 hb8 hi)
  | (with_reducible first|((refine idGd ?_); refine zC ?_)|((refine idPick ?_); refine yC ?_))
  | ((with_reducible refine idO ?_); (with_reducible refine oM_gen fun Kv hK=>?_); simp [go_sem, hk.cells]; refine hK _ _ ?_; clear hK; clear Kv)))
  have hk := hk.next hb8
  have hu := hu.next hb8
  clear hb8
  refine nums_ok s 0 (hs.next hk.below) hi (fun w14 h14 => ?_)
  have hk := hk.next h14
  have hu := hu.next h14
  clear h14 hi
  cases hn2 : numsM s 0 [y.r] with
  | false =>
    repeat (any_goals (first
    | (with_reducible first|((refine idGd ?_); refine zC ?_)|((refine idPick ?_); refine yC ?_)|((refine idCond ?_); refine yL ?_))
    | ((with_reducible refine idO ?_); (with_reducible refine oM_gen fun Kv hK=>?_); simp [go_sem, hk.cells]; refine hK _ _ ?_; clear hK; clear Kv)))
    exact hbad (ebad (by rw [eF, hn2]; simp)) _ _ hk
  | true =>
  have eF : explFine s m key x b y dare = true := by rw [eF, hmi, hn1, hn2]; rfl
  rw [eF, if_pos rfl] at eE
  clear ebad eF hn1 hn2
  obtain ⟨hul1, hul2, hul3⟩ := hul rfl
  obtain ⟨hyl, hv⟩ := hyl rfl
  have hml := mirrors_len hmi
  have hv7 := validS_len hv
  clear hmi hv
  repeat (any_goals (first
  | (with_reducible first|((refine idGd ?_); refine zC ?_)|((refine idPick ?_); refine yC ?_)|((refine idCond ?_); refine yM ?_))
  | ((with_reducible refine idO ?_); (with_reducible refine oM_gen fun Kv hK=>?_); simp [go_sem, hk.cells]; refine hK _ _ ?_; clear hK; clear Kv)))
  have hk := hk.drew
  have hu := hu.next (.drawn (B := w14.heap.size))
  refine ⟨Nx { w14 with drawn := w14.drawn + 1 }, Below.refl _ _, rfl, ?_⟩
  generalize ({ w14 with drawn := w14.drawn + 1 } : World) = W at hk hu ⊢
  repeat (any_goals ((with_reducible refine idOH ?_); (with_reducible refine oH_of ⟨_, rfl⟩ (fun W0 hW0 => by (refine oM_gen (fun Kv hK => ?_)); simp [go_sem, (hk.next hW0).cells]; (first | exact hK _ _ ⟨rfl, rfl⟩ | exact ⟨by omega, hK _ _ ⟨rfl, rfl⟩⟩)) ?_)))
  refine ⟨Nx, ?_⟩
  apply monoE
  · intro w1 h1
    exact log_ok s m (hs.next (hk.next h1).below) (hm'.next (hk.next h1).below) (hx'.attrs.next (hk.next h1).below) (by omega) (by omega) (by omega) (fun w2 h2 => ⟨h1.on h2, h2, rfl⟩)
  refine monoR (fun v w' => Ints w' v [logM s m x.attrs]) (fun v w w1 hS h => h.next hS) ?_ ?_
  · rintro w1 h1 _ rfl
    exact mk1 _ (logM_I64 _ _ _) (fun v w2 h2 hi => ⟨h1.on h2, h2, hi⟩)
  apply monoE
  · rintro w1 h1 v1 hi1
    exact mul_ok s b.s (hs.next (hk.next h1).below) hi1 (fun w2 h2 => ⟨h1.on h2, h2, rfl⟩)
  apply monoE
  · intro w1 h1
    exact log_ok s m (hs.next (hk.next h1).below) (hm'.next (hk.next h1).below) (hy'.attrs.next (hk.next h1).below) (by omega) (by omega) (by omega) (fun w2 h2 => ⟨h1.on h2, h2, rfl⟩)
  apply monoE
  · rintro w1 h1 _ rfl _ rfl
    exact over_ok s _ _ (hs.next (hk.next h1).below) (fun w2 h2 => ⟨h1.on h2, h2, rfl⟩)
  apply monoE
  · intro w1 h1
    exact inner_ok s t ht (hs.next (hk.next h1).below) (hL.below (hk.next h1).below hL.size) (fun w2 h2 => ⟨h1.on h2, h2, rfl⟩)
  apply monoE
  · rintro w1 h1 _ rfl
    exact over_ok s _ _ (hs.next (hk.next h1).below) (fun w2 h2 => ⟨h1.on h2, h2, rfl⟩)
  repeat (apply monoE; focus (intro w9 h9; (repeat (intro v9 e9; try (obtain rfl := e9))); (repeat (any_goals ((with_reducible refine idO ?_); (with_reducible refine oM_gen fun Kv hK=>?_); simp [go_sem, build_bld2]; refine hK _ _ ?_; clear hK; clear Kv))); exact ⟨h9, Below.refl _ _, rfl⟩))
  refine monoR (fun v w' => ∃ g2, v = ptr g2 0 ∧ W.heap.size ≤ g2 ∧ Holds w' g2 45 (bldC zB (.slice none 0 0))) (fun v w w1 hS h => h.imp fun g2 h => ⟨h.1, h.2.1, h.2.2.next hS⟩) ?_ ?_
  · intro w1 h1
    exact arr_alloc al_bld (fun g2 w2 h2 hg2 hh => ⟨h1.on h2, h2, g2, rfl, Nat.le_trans h1.size hg2, hh⟩)
  rintro w9 h9 _ rfl v2 - _ rfl _ rfl _ rfl _ rfl _ rfl _ rfl v9 ⟨g9, rfl, hg9, hh⟩
  have eS : overQ s (mulQ s b.s [logM s m x.attrs]) (logM s m y.attrs) = explS s m x b y := rfl
  rw [eS]
  have hSI : I64 (explS s m x b y) := mulQ_I64 _ _ _ (by simp)
  have hUI : I64 (overQ s (innerQ s t) y.c) := mulQ_I64 _ _ _ (by simp)
  have eB : explB s m x b y dare t us = ⟨explS s m x b y, overQ s (innerQ s t) y.c, lessQ s t.r (mulQ s y.r [overQ s (innerQ s t) y.c]), exYs s dare (explS s m x b y) y.attrs us.answers⟩ := rfl
  rw [eB] at eE
  clear eB eS
  generalize explS s m x b y = S at *
  generalize overQ s (innerQ s t) y.c = U at *
  refine arr_store sz_bld (xs := bldC ⟨S, U, 0, []⟩ (.slice none 0 0)) rfl rfl (bld_one ⟨S, U, 0, []⟩ none 0 0) hh rfl (fun w10 hg10 hh => ?_)
  have hgW : g < W.heap.size := mine_lt hk.mine
  have hoffL := cells_lt hk.cells
  have h10 := grown_below h9 hg10 hg9
  clear hg10 h9
  have h10 := h10.on (.drawn (B := w10.heap.size))
  have hh := hh.next (.drawn (B := w10.heap.size))
  refine ⟨Nx { w10 with drawn := w10.drawn + 1 }, Below.refl _ _, rfl, ?_⟩
  generalize ({ w10 with drawn := w10.drawn + 1 } : World) = W10 at h10 hh ⊢
  repeat (any_goals ((with_reducible refine idOH ?_); (with_reducible refine oH_of ⟨_, rfl⟩ (fun W0 hW0 => by (refine oM_gen (fun Kv hK => ?_)); simp [go_sem, (hk.next (h10.on hW0)).cells, (hh.next hW0).are]; (first | exact hK _ _ ⟨rfl, rfl⟩ | exact ⟨by omega, hK _ _ ⟨rfl, rfl⟩⟩)) ?_)))
  refine ⟨Nx, ?_⟩
  refine monoR (fun v w' => Ints w' v [U]) (fun v w w1 hS h => h.next hS) ?_ ?_
  · intro w1 h1
    exact mk1 _ hUI (fun v w2 h2 hi => ⟨h1.on h2, h2, hi⟩)
  apply monoE
  · rintro w1 h1 v1 hi1
    exact mul_ok s y.r (hs.next (hk.next (h10.on h1)).below) hi1 (fun w2 h2 => ⟨h1.on h2, h2, rfl⟩)
  rintro w1 h1 v1 - _ rfl
  refine less_ok s _ _ (hs.next (hk.next (h10.on h1)).below) (fun w2 h2 => ?_)
  have hh := (hh.next h1).next h2
  have h10 := (h10.on h1).on h2
  clear h1 h2
  have hVI : I64 (lessQ s t.r (mulQ s y.r [U])) := subM_I64 _ _ _
  generalize lessQ s t.r (mulQ s y.r [U]) = V at *
  repeat (any_goals ((with_reducible refine idO ?_); (with_reducible refine oM_gen fun Kv hK=>?_); simp [go_sem]; refine hK _ _ ?_; clear hK; clear Kv))
  refine arr_set (i := 2) sz_int rfl rfl hh (show 2 < 4 by decide) (fun w10 hg10 hh => ?_)
  have hh : Holds w10 g9 45 (bldC ⟨S, U, V, []⟩ (.slice none 0 0)) := hh
  have h10 := grown_below h10 hg10 hg9
  clear hg10
  have hkW := hk
  have hk := hk.next h10
  repeat (any_goals ((with_reducible refine idO ?_); (with_reducible refine oM_gen fun Kv hK=>?_); simp [go_sem, hk.cells]; refine hK _ _ ?_; clear hK; clear Kv))
  have hgl : g9 < w10.heap.size := hh.lt
  refine exps_ok (hy'.attrs.next hk.below) (by omega) (by omega) (fun ev w11 he h11 hff => ?_)
  have hh := hh.next h11
  have h10 := h10.on h11
  have hk := hk.next h11
  have hs11 := h11.size
  clear h11
  obtain ⟨ead, ec, rfl⟩ := he.isSlice
  have hing : ∀ i, Value.inBlock (.slice ead (expsM y.attrs).length ec) = some i → i ≠ g9 := fun i hi => by
    have := hff i hi
    omega
  have hel : (expsM y.attrs).length = y.attrs.length + 1 := rfl
  have hal := exYs_len (s := s) (dare := dare) (S := S) (l := y.attrs) (xs := us.answers) (by omega)
  have hat := exYs_at (s := s) (dare := dare) (S := S) (l := y.attrs) (xs := us.answers)
  have hrng := exYs_rng (s := s) (dare := dare) (S := S) (l := y.attrs) (xs := us.answers)
  generalize exYs s dare S y.attrs us.answers = al at *
  repeat (any_goals ((with_reducible refine idO ?_); (with_reducible refine oM_gen fun Kv hK=>?_); simp [go_sem]; refine hK _ _ ?_; clear hK; clear Kv))
  have hne : g ≠ g9 := by omega
  have hoff := fun p hp => Nat.ne_of_lt (Nat.lt_of_lt_of_le (hoffL p hp) hg9)
  have hbase : w.heap.size ≤ g9 := Nat.le_trans hkW.base (by omega)
  refine ⟨GrJ3 w11 g9 45 (fun ov => bldC ⟨S, U, V, []⟩ ov) al, vsMu (expsM y.attrs).length, ⟨_, _, .slice none 0 0, 0, rfl, by omega, .start hh.lt hh⟩, ?_⟩
  have hk0 := hk
  have hh0 := hh
  have h100 := h10
  rintro _ _ w6 ⟨u1, u2, ov, i, rfl, hi, hgr⟩
  have hk := hk0.fr hgr.fr hoff hne hbase
  have hW6 : Below W.heap.size W w6 := FrG.below h100 hgr.fr hg9
  by_cases hin : i = (expsM y.attrs).length
  · have hgr' := hgr
    rw [List.take_of_length_le (by omega)] at hgr'
    have ho := hgr'.own
    have hints := ho.ints hrng (by omega)
    obtain ⟨g', oc, cur, rfl, hlt, hB, _, _, _, _⟩ := owns_cells ho (by omega)
    repeat (any_goals (first
    | (with_reducible ((refine idCond ?_); refine yO ?_))
    | ((with_reducible refine idO ?_); (with_reducible refine oM_gen fun Kv hK=>?_); simp [go_sem, hk.cells, hgr.holds.are]; refine hK _ _ ?_; clear hK; clear Kv)))
    refine obtained_ok s key y ⟨S, U, V, al⟩ hkey (hs.next hk.below) (hy'.next hk.below) ⟨hSI, hUI, hVI, hints⟩ (hL.below hk.below hL.size) (fun w7 h7 => ?_)
    have hk := hk.next h7
    have hgr := hgr'.next h7
    have hints := hints.next h7
    clear h7
    generalize (obtainedM s key y ⟨S, U, V, al⟩).1 = t2 at *
    generalize (obtainedM s key y ⟨S, U, V, al⟩).2 = ok2 at *
    iterate 2 (any_goals ((with_reducible refine idO ?_); (with_reducible refine oM_gen fun Kv hK=>?_); simp [go_sem]; refine hK _ _ ?_; clear hK; clear Kv))
    refine local_tktM t2 hk (fun g8 W8 hk hb8 hg8 => ?_)
    have hgr := hgr.next hb8
    have hints := hints.next hb8
    clear hb8
    cases ok2 with
    | false =>
      rw [Bool.false_and, if_neg (by decide)] at eE
      repeat (any_goals (first
      | (with_reducible first|((refine idGd ?_); refine zD ?_)|((refine idPick ?_); refine yB ?_)|((refine idCond ?_); refine yL ?_))
      | ((with_reducible refine idO ?_); (with_reducible refine oM_gen fun Kv hK=>?_); simp [go_sem, hk.cells]; refine hK _ _ ?_; clear hK; clear Kv)))
      exact hbad eE _ _ hk
    | true =>
    rw [Bool.true_and] at eE
    by_cases htt : t2 = t
    · rw [decide_eq_true htt, if_pos rfl] at eE
      have en := fun T => neq_tkt T t2 t
      simp only [htt, decide_true, Bool.not_true] at en
      subst htt
      repeat (any_goals (first
      | (with_reducible first|((refine idGd ?_); refine zC ?_)|((refine idPick ?_); refine yC ?_)|((refine idCond ?_); refine yM ?_))
      | ((with_reducible refine idO ?_); (with_reducible refine oM_gen fun Kv hK=>?_); simp [go_sem, hk.cells, en, hgr.holds.are]; refine hK _ _ ?_; clear hK; clear Kv)))
      refine store_bld ⟨S, U, V, al⟩ (some ⟨g', 0, none⟩) al.length oc hk (fun W3 hk hc hg3 => ⟨bldV ⟨S, U, V, al⟩ (.slice (some ⟨g', 0, none⟩) al.length oc), by simp [go_sem, hc], k2 W3 (.slice (some ⟨g', 0, none⟩) al.length oc) _ eE hk.below ⟨hSI, hUI, hVI, ⟨hints.row.keep hg3.size (fun i hi hlt => hg3.block i hlt ?_), hrng, by show al.length ≤ _; omega⟩⟩ (fun i hi => by cases hi; have := hk0.below.size; show w.heap.size ≤ g'; omega)⟩)
      cases hi
      intro e
      have e2 : g' = g := Option.some.inj e
      omega
    · rw [decide_eq_false htt, if_neg (by decide)] at eE
      have en := fun T => neq_tkt T t2 t
      simp only [decide_eq_false htt, Bool.not_false] at en
      repeat (any_goals (first
      | (with_reducible first|((refine idGd ?_); refine zC ?_)|((refine idPick ?_); refine yC ?_)|((refine idCond ?_); refine yL ?_))
      | ((with_reducible refine idO ?_); (with_reducible refine oM_gen fun Kv hK=>?_); simp [go_sem, hk.cells, en]; refine hK _ _ ?_; clear hK; clear Kv)))
      exact hbad eE _ _ hk
  · have hev := Ints.fr he hgr.fr hing
    obtain ⟨b8, o8, rfl, hb8, ca, ra, _⟩ := hev.at (i := i) (by omega)
    obtain ⟨b9, o9, rfl, hb9, cb, rb, _⟩ := hu.at (i := i) (by omega)
    have hat := hat i (by omega) (by omega)
    have htk := take_snoc' hat
    generalize (expsM y.attrs)[i] = e at *
    generalize us.answers[i] = a at *
    repeat (any_goals (first
    | (with_reducible ((refine idCond ?_); refine yN ?_))
    | ((with_reducible refine idO ?_); (with_reducible refine oM_gen fun Kv hK=>?_); simp [go_sem, ca _ (Below.refl _ _)]; (first|refine hK _ _ ?_|refine And.intro (by omega) (hK _ _ ?_)); clear hK; clear Kv)))
    have hk := hk.drew
    have hgr := hgr.next (.drawn (B := w6.heap.size))
    have hW6 := hW6.on (.drawn (B := w6.heap.size))
    refine ⟨Nx { w6 with drawn := w6.drawn + 1 }, Below.refl _ _, rfl, ?_⟩
    generalize ({ w6 with drawn := w6.drawn + 1 } : World) = W6 at hk hgr hW6 ⊢
    repeat (any_goals (first
    | (with_reducible refine pureH_in ?_)
    | ((with_reducible refine idOH ?_); (with_reducible refine oH_of ⟨_, rfl⟩ (fun W0 hW0 => by (refine oM_gen (fun Kv hK => ?_)); simp [go_sem, (hk.next hW0).cells, (hgr.next hW0).holds.are, cb _ (hW6.on hW0)]; (first | exact hK _ _ ⟨rfl, rfl⟩ | exact ⟨by omega, hK _ _ ⟨rfl, rfl⟩⟩)) ?_))))
    refine ⟨Nx, ?_⟩
    refine monoR (fun v w' => Ints w' v [S, e]) (fun v w w1 hS h => h.next hS) ?_ ?_
    · intro w1 h1
      exact mk2 _ _ hSI ra (fun v w2 h2 hi => ⟨h1.on h2, h2, hi⟩)
    apply monoE
    · rintro w1 h1 v1 hi1
      exact mul_ok s dare (hs.next (hk.next h1).below) hi1 (fun w2 h2 => ⟨h1.on h2, h2, rfl⟩)
    apply monoE
    · rintro w1 h1 _ rfl
      exact less_ok s a _ (hs.next (hk.next h1).below) (fun w2 h2 => ⟨h1.on h2, h2, rfl⟩)
    refine monoR (fun v w' => Ints w' v [lessQ s a (mulQ s dare [S, e])]) (fun v w w1 hS h => h.next hS) ?_ ?_
    · rintro w1 h1 _ rfl
      exact mk1 _ (subM_I64 _ _ _) (fun v w2 h2 hi => ⟨h1.on h2, h2, hi⟩)
    rintro w9 h9 v1 - _ rfl _ rfl v9 hi9
    refine gr_append (hgr.next h9) hi9 (by rw [List.length_take]; omega) (fun ad n c w11 hgr => ?_)
    repeat (any_goals ((with_reducible refine idO ?_); (with_reducible refine oM_gen fun Kv hK=>?_); simp [go_sem]; refine hK _ _ ?_; clear hK; clear Kv))
    refine gr_store (i := 3) hgr (show 3 < 4 by decide) (fun w12 hgr => ?_)
    repeat (any_goals ((with_reducible refine idO ?_); (with_reducible refine oM_gen fun Kv hK=>?_); simp [go_sem]; (try simp (disch := omega) only [wrapI64, wrapU8, wrapU32, wrapU64]); refine hK _ _ ?_; clear hK; clear Kv))
    rw [htk] at hgr
    refine ⟨⟨_, _, _, i + 1, rfl, by omega, hgr⟩, ?_⟩
    simp only [vsMu_eq]; omega
end
end Go.Proofs
namespace Go.Proofs
open Go Go.Sh Go.RowKit FdSpec TkSpec CodeSpec
set_option linter.unusedSimpArgs false
set_option linter.unusedVariables false
set_option maxRecDepth 10000
section
variable {K : Value → World → Prop} {w w0 : World} {L : List (Addr × Value)}
end
end Go.Proofs
namespace Go.Proofs
open Go Go.Sh Go.RowKit FdSpec TkSpec CodeSpec
set_option linter.unusedSimpArgs false
set_option linter.unusedVariables false
set_option maxRecDepth 10000
section
variable {K : Value → World → Prop} {w w0 : World} {L : List (Addr × Value)}
theorem local_stpM {K : Value → World → Prop} {T' T2 : TypeId} {g n : Nat} (s : Stp) (ad : Option Addr) (m c : Nat) (hk : KnM w0 L g n w)
    (k : ∀ b W, KnM w0 (cellsOf L b 0 (stpC s (.slice ad m c))) g n W → Below w.heap.size w W → w.heap.size ≤ b → K (.pointer (some ⟨b, 0, none⟩)) W) :
    oM Tryz.prog (.alloc 32) T' [] (fun v w => oM Tryz.prog (.store 32 (.tmp 0) (.tmp 1)) T2 [v, stpV s (.slice ad m c)] (fun _ w => K v w) w) w :=
  local_knm al_stp rfl sz_stp rfl rfl (stp_one s ad m c) hk k
theorem makeG_R {q : Int} (hq : I64 q) : GrpR (makeG q).1 := by
  have hz : GrpR ⟨0, 0, 0⟩ := ⟨by constructor <;> decide, by constructor <;> decide, by constructor <;> decide⟩
  unfold makeG
  split
  · exact hz
  · rename_i h
    split
    · exact ⟨by unfold I64; dsimp only; omega, hq, by unfold I64; dsimp only; omega⟩
    · exact hz
end
end Go.Proofs
namespace Go.Proofs
open Go Go.Sh Go.RowKit FdSpec TkSpec CodeSpec
set_option linter.unusedSimpArgs false
set_option linter.unusedVariables false
set_option maxRecDepth 10000
section
variable {K : Value → World → Prop} {w w0 : World} {L : List (Addr × Value)}
theorem SameSpend_ok (x y : Spd) {v u : Value} (hx : SpdR w x v) (hy : SpdR w y u) (k : ∀ w', Below w.heap.size w w' → K (.bool (decide (x.dare = y.dare) && decide (x.answers = y.answers))) w') : callM Tryz.prog 19 #[spdV x v, spdV y u] K w := by
  apply sh_19_ok
  unfold sh_19
  have hx' := hx.answers
  have hy' := hy.answers
  obtain ⟨ad, c, rfl⟩ := hx.answers.isSlice
  obtain ⟨ad2, c2, rfl⟩ := hy.answers.isSlice
  refine box_kn (cs := spdC x (.slice ad x.answers.length c)) rfl (.start w) fun b1 W hk hb1 hbb => ?_
  refine box_kn (cs := spdC y (.slice ad2 y.answers.length c2)) rfl hk fun b2 W2 hk hb2 hbb => ?_
  by_cases hd : x.dare = y.dare
  rotate_left
  · rw [decide_eq_false hd, Bool.false_and] at k
    refine Xa (An2 hk.cells @hd) ?_
    exact k _ hk.below
  rw [decide_eq_true hd, Bool.true_and] at k
  refine Xa (An2 hk.cells @hd) ?_
  refine Same_ok (hx'.next hk.below) (hy'.next hk.below) (fun w3 h3 => ?_)
  have k := k _ (hk.next h3).below
  generalize decide (x.answers = y.answers) = q at *
  refine Xa0 ?_
  exact k
def zX : Ses := ⟨[], ⟨0, 0, 0⟩, 0, 0⟩
end
end Go.Proofs
namespace Go.Proofs
open Go Go.Sh Go.RowKit FdSpec TkSpec CodeSpec
set_option linter.unusedSimpArgs false
set_option linter.unusedVariables false
set_option maxRecDepth 10000
section
variable {K : Value → World → Prop} {w w0 : World} {L : List (Addr × Value)}
theorem sz_ses (w : World) : (sizeOf 39).run Tryz.prog w = .ok 6 w := by kernel_rfl
theorem al_ses (w : World) : (Instr.alloc 39 true (.tuple #[])).run Tryz.prog w = .ok (.pointer (some ⟨w.heap.size, 0, none⟩)) (w.alloc (.cells (sesC zX (.slice none 0 0)).toArray 39)) := by kernel_rfl
theorem ses_one (x : Ses) (ad : Option Addr) (n c : Nat) : ∀ u ∈ sesC x (.slice ad n c), u.oneCell' = true := by
  intro u hu
  simp only [sesC, List.mem_cons, List.not_mem_nil, or_false] at hu
  rcases hu with rfl | rfl | rfl | rfl | rfl | rfl <;> rfl
structure Res3 (w : World) (B g1 g2 g3 : Nat) (a b c : List Value) : Prop where
  lo : B ≤ g1 ∧ g1 < g2 ∧ g2 < g3
  s : Holds w g1 32 a
  x : Holds w g2 39 b
  t : Holds w g3 41 c
theorem Res3.next {w1 : World} {B g1 g2 g3 : Nat} {a b c : List Value} (h : Res3 w B g1 g2 g3 a b c) (hb : Below w.heap.size w w1) : Res3 w1 B g1 g2 g3 a b c := ⟨h.lo, h.s.next hb, h.x.next hb, h.t.next hb⟩
theorem zX_R : SesR w zX (.slice none 0 0) := ⟨Ints.nil _, ⟨by constructor <;> decide, by constructor <;> decide, by constructor <;> decide⟩, by constructor <;> decide, by constructor <;> decide⟩
theorem zT_R : TktR zT := ⟨by constructor <;> decide, by constructor <;> decide, by constructor <;> decide, by constructor <;> decide, by constructor <;> decide, by constructor <;> decide⟩
end
end Go.Proofs
namespace Go.Proofs
open Go Go.Sh Go.RowKit FdSpec TkSpec CodeSpec
set_option linter.unusedSimpArgs false
set_option linter.unusedVariables false
set_option maxRecDepth 10000
section
variable {K : Value → World → Prop} {w w0 : World} {L : List (Addr × Value)}
theorem propose_R (s : Stp) (x : Int) (l : List Int) (y : Int) : OffR (proposeM s x l y).1 := by
  unfold proposeM
  split
  · exact ⟨powerG_I64 _ _ _, genM_I64 _ _, powerG_I64 _ _ _⟩
  · exact ⟨by constructor <;> decide, by constructor <;> decide, by constructor <;> decide⟩
theorem publicM_I64 (s : Stp) (x : Int) : I64 (publicM s x) := by
  unfold publicM
  split
  · exact genM_I64 _ _
  · constructor <;> decide
theorem askM_I64 (s : Stp) (key : Int) (l : List Int) (o : Off) (b : Bld) : I64 (askM s key l o b).1 := by
  unfold askM
  dsimp only
  split
  · exact mulQ_I64 _ _ _ (by simp)
  · constructor <;> decide
theorem grantM_I64 (s : Stp) (x w c : Int) : I64 (grantM s x w c) := by
  unfold grantM
  split
  · exact addM_I64 _ _ _
  · constructor <;> decide
end
end Go.Proofs
namespace Go.Proofs
open Go Go.Sh Go.RowKit FdSpec TkSpec CodeSpec
set_option linter.unusedSimpArgs false
set_option linter.unusedVariables false
set_option maxRecDepth 10000
section
variable {K : Value → World → Prop} {w w0 : World} {L : List (Addr × Value)}
@[go_sem] theorem oM_extract4_0 {P : Program} {K : Value → World → Prop} {w : World} (T : TypeId) (a b c d : Value) : oM P (.extract (.tmp 0) 0) T [.tuple #[a, b, c, d]] K w = K a w := oM_of_run rfl
@[go_sem] theorem oM_extract4_1 {P : Program} {K : Value → World → Prop} {w : World} (T : TypeId) (a b c d : Value) : oM P (.extract (.tmp 0) 1) T [.tuple #[a, b, c, d]] K w = K b w := oM_of_run rfl
@[go_sem] theorem oM_extract4_2 {P : Program} {K : Value → World → Prop} {w : World} (T : TypeId) (a b c d : Value) : oM P (.extract (.tmp 0) 2) T [.tuple #[a, b, c, d]] K w = K c w := oM_of_run rfl
@[go_sem] theorem oM_extract4_3 {P : Program} {K : Value → World → Prop} {w : World} (T : TypeId) (a b c d : Value) : oM P (.extract (.tmp 0) 3) T [.tuple #[a, b, c, d]] K w = K d w := oM_of_run rfl
theorem local_spdK {K : Value → World → Prop} {T' T2 : TypeId} (x : Spd) (ad : Option Addr) (m c : Nat) (hk : Kn w0 L w)
    (k : ∀ b W, Kn w0 (cellsOf L b 0 (spdC x (.slice ad m c))) W → Below w.heap.size w W → w.heap.size ≤ b → K (.pointer (some ⟨b, 0, none⟩)) W) :
    oM Tryz.prog (.alloc 49) T' [] (fun v w => oM Tryz.prog (.store 49 (.tmp 0) (.tmp 1)) T2 [v, spdV x (.slice ad m c)] (fun _ w => K v w) w) w :=
  local_kn al_spd rfl sz_spd rfl rfl (spd_one x ad m c) hk k
end
end Go.Proofs
namespace TkSpec
open FdSpec
def grp (n : Nat) : Grp := ⟨2 * n + 1, n, 4⟩
def ordL : List Nat := [5, 11, 23, 29, 41, 53, 83, 89, 113, 131, 173, 179, 191]
theorem ord_inv : ∀ n ∈ ordL, ∀ a, a < n → 0 < a → ∃ b, b < n ∧ 0 < b ∧ a * b % n = 1 := by decide +kernel
end TkSpec
namespace TkSpec
open FdSpec
def E (n : Nat) (k : Int) : Int := pw (2 * n + 1) 4 (k % n).toNat
structure Ok (n : Nat) : Prop where
  five : 5 ≤ n
  le : n ≤ 200
  one : pw (2 * n + 1) 4 n = 1
end TkSpec
namespace TkSpec
open FdSpec
theorem Ok.q {n : Nat} (h : Ok n) : okN (n : Int) := by have := h.five; have := h.le; unfold okN; omega
theorem Ok.p {n : Nat} (h : Ok n) : okN (2 * (n : Int) + 1) := by have := h.five; have := h.le; unfold okN; omega
def dot : List Int → List Int → Int
  | a :: l, b :: m => a * b + dot l m
  | _, _ => 0
theorem ord_one : ∀ n ∈ ordL, pw (2 * n + 1) 4 n = 1 := by decide +kernel
theorem ord_rng : ∀ n ∈ ordL, 5 ≤ n ∧ n ≤ 200 := by decide
theorem ok_of {n : Nat} (h : n ∈ ordL) : Ok n := ⟨(ord_rng n h).1, (ord_rng n h).2, ord_one n h⟩
end TkSpec
namespace TkSpec
open FdSpec
def ansF (n d S : Int) (p : Int × Int) : Int := addM n p.2 (mulM n (mulM n d S) p.1)
def ansG (n d i : Int) (p : Int × Int) : Int := subM n p.2 (mulM n (mulM n d i) p.1)
theorem step_lin (n a ys e e' d S i : Int) (hn : okN n) : ∃ q, a * ansG n d i (e', ansF n d S (e, ys)) = a * ys + d * S * (a * e) - d * i * (a * e') + n * q := by
  unfold ansG ansF addM subM mulM
  simp only [if_pos hn]
  rw [Int.emod_def (d * S) n]
  generalize d * S / n = A
  rw [Int.emod_def ((d * S - n * A) * e) n]
  generalize (d * S - n * A) * e / n = B
  rw [Int.emod_def (ys + _) n]
  generalize (ys + ((d * S - n * A) * e - n * B)) / n = C
  rw [Int.emod_def (d * i) n]
  generalize d * i / n = D
  rw [Int.emod_def ((d * i - n * D) * e') n]
  generalize (d * i - n * D) * e' / n = F
  rw [Int.emod_def]
  generalize (ys + ((d * S - n * A) * e - n * B) - n * C - ((d * i - n * D) * e' - n * F)) / n = G
  exact ⟨-(a * (A * e + B + C - D * e' - F + G)), by grind⟩
theorem dot_lin (n d S i : Int) (hn : okN n) : ∀ (ns es ys es' : List Int), es.length = ns.length → ys.length = ns.length → es'.length = ns.length →
    ∃ q, dot ns ((es'.zip ((es.zip ys).map (ansF n d S))).map (ansG n d i)) = dot ns ys + d * S * dot ns es - d * i * dot ns es' + n * q
  | [], es, ys, es', _, _, _ => ⟨0, by simp [dot]⟩
  | a :: ns, e :: es, y :: ys, e' :: es', h1, h2, h3 => by
    simp only [List.length_cons, Nat.add_right_cancel_iff] at h1 h2 h3
    obtain ⟨q, hq⟩ := dot_lin n d S i hn ns es ys es' h1 h2 h3
    obtain ⟨r, hr⟩ := step_lin n a y e e' d S i hn
    simp only [List.zip_cons_cons, List.map_cons, dot]
    rw [hq, hr]
    exact ⟨q + r, by grind⟩
  | a :: ns, [], ys, es', h1, _, _ => by simp at h1
  | a :: ns, e :: es, [], es', _, h2, _ => by simp at h2
  | a :: ns, e :: es, y :: ys, [], _, _, h3 => by simp at h3
#print axioms dot_lin
end TkSpec
namespace TkSpec
open FdSpec
theorem E_dvd {n : Nat} {a b q : Int} (h : a = b + n * q) : E n a = E n b := by
  subst h
  unfold E
  rw [Int.add_mul_emod_self_left]
theorem inv_ex {n : Nat} (hn : n ∈ ordL) {a : Int} (h : 0 < a % n) : ∃ b q : Int, a * b = 1 + n * q := by
  have h5 := (ok_of hn).five
  have h3 := Int.emod_lt_of_pos a (b := n) (by omega)
  obtain ⟨b, hb, _, he⟩ := ord_inv n hn (a % n).toNat (by omega) (by omega)
  have e1 : ((a % n).toNat : Int) = a % n := Int.toNat_of_nonneg (by omega)
  have h2 := Int.emod_add_mul_ediv a n
  have h4 := Int.emod_add_mul_ediv ((a % n) * b) n
  have he' : ((a % n) * (b : Int)) % n = 1 := by
    have := congrArg (fun k : Nat => (k : Int)) he
    simp only [Int.natCast_emod, Int.natCast_mul, e1] at this
    simpa using this
  rw [he'] at h4
  exact ⟨b, (a % n) * b / n + a / n * b, by grind⟩
end TkSpec
namespace TkSpec
open FdSpec
def Cg (n : Nat) (a b : Int) : Prop := ∃ q : Int, a = b + n * q
namespace Cg
variable {n : Nat} {a b c d : Int}
theorem of_eq (h : a = b) : Cg n a b := ⟨0, by simp [h]⟩
theorem symm (h : Cg n a b) : Cg n b a := by obtain ⟨q, h⟩ := h; exact ⟨-q, by grind⟩
theorem trans (h : Cg n a b) (k : Cg n b c) : Cg n a c := by obtain ⟨q, h⟩ := h; obtain ⟨r, k⟩ := k; exact ⟨q + r, by grind⟩
theorem add (h : Cg n a b) (k : Cg n c d) : Cg n (a + c) (b + d) := by obtain ⟨q, h⟩ := h; obtain ⟨r, k⟩ := k; exact ⟨q + r, by grind⟩
theorem sub (h : Cg n a b) (k : Cg n c d) : Cg n (a - c) (b - d) := by obtain ⟨q, h⟩ := h; obtain ⟨r, k⟩ := k; exact ⟨q - r, by grind⟩
theorem mul (h : Cg n a b) (k : Cg n c d) : Cg n (a * c) (b * d) := by obtain ⟨q, h⟩ := h; obtain ⟨r, k⟩ := k; exact ⟨q * d + b * r + n * q * r, by grind⟩
theorem mod (n : Nat) (a : Int) : Cg n (a % n) a := ⟨-(a / n), by have := Int.emod_add_mul_ediv a n; grind⟩
theorem eq (h : Cg n a b) (h1 : 0 ≤ a ∧ a < n) (h2 : 0 ≤ b ∧ b < n) : a = b := by
  obtain ⟨q, h⟩ := h
  have e : a % n = b % n := by rw [h, Int.add_mul_emod_self_left]
  rwa [Int.emod_eq_of_lt h1.1 h1.2, Int.emod_eq_of_lt h2.1 h2.2] at e
theorem cancel (hn : n ∈ ordL) (hc : 0 < c % n) (h : Cg n (c * a) (c * b)) : Cg n a b := by
  obtain ⟨i, q, hi⟩ := inv_ex hn hc
  obtain ⟨r, h⟩ := h
  exact ⟨i * r - q * a + q * b, by grind⟩
theorem addM {n : Nat} (hn : okN n) (a b : Int) : Cg n (addM n a b) (a + b) := by unfold FdSpec.addM; rw [if_pos hn]; exact mod _ _
theorem subM {n : Nat} (hn : okN n) (a b : Int) : Cg n (subM n a b) (a - b) := by unfold FdSpec.subM; rw [if_pos hn]; exact mod _ _
theorem mulM {n : Nat} (hn : okN n) (a b : Int) : Cg n (mulM n a b) (a * b) := by unfold FdSpec.mulM; rw [if_pos hn]; exact mod _ _
theorem E (h : Cg n a b) : E n a = E n b := by obtain ⟨q, h⟩ := h; exact E_dvd h
end Cg
theorem mul_pos {n : Nat} (hn : n ∈ ordL) {a b : Int} (ha : 0 < a % n) (hb : 0 < b % n) : 0 < a * b % n := by
  have h5 := (ok_of hn).five
  have h1 := Int.emod_nonneg (a * b) (b := n) (by omega)
  rcases Int.lt_or_eq_of_le h1 with h | h
  · exact h
  · exfalso
    have hc : Cg n (a * b) (a * 0) := by
      rw [Int.mul_zero]
      exact (Cg.mod n (a * b)).symm.trans (Cg.of_eq h.symm)
    obtain ⟨q, hq⟩ := hc.cancel hn ha
    rw [hq, Int.zero_add, Int.mul_emod_right] at hb
    omega
end TkSpec
namespace Go.Proofs
open Go Go.Sh Go.RowKit FdSpec TkSpec CodeSpec
set_option linter.unusedSimpArgs false
set_option linter.unusedVariables false
set_option maxRecDepth 10000
end Go.Proofs
namespace Go.Proofs
open Go Go.Sh Go.RowKit FdSpec TkSpec CodeSpec
set_option linter.unusedSimpArgs false
set_option linter.unusedVariables false
set_option maxRecDepth 10000
end Go.Proofs
namespace Go.Proofs
open Go Go.Sh Go.RowKit FdSpec TkSpec CodeSpec
set_option linter.unusedSimpArgs false
set_option linter.unusedVariables false
set_option maxRecDepth 10000
end Go.Proofs
namespace TkSpec
open FdSpec
section
variable {n : Nat} (hn : n ∈ ordL) {s : Stp} {ns : List Int} (hg : s.g = grp n) (hb : s.bases = ns.map (E n))
include hn hg
theorem nums_one {a m : Int} : numsM s a [m] = true ↔ a ≤ m ∧ m < n := by
  unfold numsM
  rw [hg]
  show ([m].all fun x => decide (a ≤ x) && decide (x < (n : Int))) = true ↔ _
  simp
include hb
end
end TkSpec
namespace TkSpec
open FdSpec
def obtainsM (s : Stp) (key : Int) (x : Ses) (b : Bld) (t : Tkt) (p : Spd) : Bool :=
  decide ((askM s key x.attrs x.offer b).2 = 0) && decide ((askM s key x.attrs x.offer b).1 = x.c) &&
    (decide ((finishM s key x.attrs x.offer b x.r).2 = 0) && decide ((finishM s key x.attrs x.offer b x.r).1 = t) && (useM s x.attrs b p.dare).2 &&
      (decide ((useM s x.attrs b p.dare).1.dare = p.dare) && decide ((useM s x.attrs b p.dare).1.answers = p.answers)))
section
variable {n : Nat} (hn : n ∈ ordL) {s : Stp} {ns : List Int} (hg : s.g = grp n) (hb : s.bases = ns.map (E n))
include hn hg hb
end
end TkSpec
namespace Go.Proofs
open FdSpec TkSpec
end Go.Proofs
namespace Go.Proofs
open Go Go.Sh Go.RowKit FdSpec TkSpec CodeSpec
set_option linter.unusedSimpArgs false
set_option linter.unusedVariables false
set_option maxRecDepth 10000
section
variable {K : Value → World → Prop} {w w0 : World} {L : List (Addr × Value)}
end
end Go.Proofs
namespace Go.Proofs
open Go Go.Sh Go.RowKit FdSpec TkSpec CodeSpec
set_option linter.unusedSimpArgs false
set_option linter.unusedVariables false
set_option maxRecDepth 10000
section
variable {K : Value → World → Prop} {w w0 : World} {L : List (Addr × Value)}
@[reducible] def lnkC (x : Lnk) (v : Value) : List Value := [.int .i64 x.ticket.mark, .int .i64 x.ticket.first, .int .i64 x.ticket.z, .int .i64 x.ticket.a, .int .i64 x.ticket.b, .int .i64 x.ticket.r, .int .i64 x.spend.dare, v, .string ⟨x.terms.toArray⟩]
@[reducible] def lnkV (x : Lnk) (v : Value) : Value := .agg #[.int .i64 x.ticket.mark, .int .i64 x.ticket.first, .int .i64 x.ticket.z, .int .i64 x.ticket.a, .int .i64 x.ticket.b, .int .i64 x.ticket.r, .int .i64 x.spend.dare, v, .string ⟨x.terms.toArray⟩]
def LnkAt (w : World) (b p : Nat) (x : Lnk) (v : Value) : Prop :=
  w.cell? ⟨b, p, none⟩ = some (.int .i64 x.ticket.mark) ∧ w.cell? ⟨b, p + 1, none⟩ = some (.int .i64 x.ticket.first) ∧ w.cell? ⟨b, p + 2, none⟩ = some (.int .i64 x.ticket.z) ∧ w.cell? ⟨b, p + 3, none⟩ = some (.int .i64 x.ticket.a) ∧
  w.cell? ⟨b, p + 4, none⟩ = some (.int .i64 x.ticket.b) ∧ w.cell? ⟨b, p + 5, none⟩ = some (.int .i64 x.ticket.r) ∧ w.cell? ⟨b, p + 6, none⟩ = some (.int .i64 x.spend.dare) ∧ w.cell? ⟨b, p + 7, none⟩ = some v ∧ w.cell? ⟨b, p + 8, none⟩ = some (.string ⟨x.terms.toArray⟩)
theorem LnkAt.next {w' : World} {b p : Nat} {x : Lnk} {v : Value} (h : LnkAt w b p x v) (hb : Below w.heap.size w w') (hlt : b < w.heap.size) : LnkAt w' b p x v := by
  have e : ∀ k, w'.cell? ⟨b, k, none⟩ = w.cell? ⟨b, k, none⟩ := fun k => by rw [hb.cell hlt]
  unfold LnkAt at h ⊢
  simp only [e]
  exact h
structure LnkRow (w : World) (v : Value) (l : List Lnk) : Prop where
  row : ∃ ad c, v = .slice ad l.length c ∧ (l = [] ∨ ∃ b o, ad = some ⟨b, o, none⟩ ∧ b < w.heap.size ∧ ∀ (i : Nat) (h : i < l.length), ∃ av, SpdR w l[i].spend av ∧ LnkAt w b (o + i * 9) l[i] av)
  tk : ∀ x ∈ l, TktR x.ticket
  tx : ∀ x ∈ l, x.terms.length ≤ 9223372036854775807
  len : l.length ≤ 9223372036854775807
theorem LnkRow.next {w' : World} {v : Value} {l : List Lnk} (h : LnkRow w v l) (hb : Below w.heap.size w w') : LnkRow w' v l := by
  obtain ⟨⟨ad, c, rfl, h1⟩, h2, h3, h4⟩ := h
  refine ⟨⟨ad, c, rfl, h1.imp id ?_⟩, h2, h3, h4⟩
  rintro ⟨b, o, rfl, hlt, hc⟩
  refine ⟨b, o, rfl, Nat.lt_of_lt_of_le hlt hb.size, fun i hi => ?_⟩
  obtain ⟨av, h5, h6⟩ := hc i hi
  exact ⟨av, h5.next hb, h6.next hb hlt⟩
theorem LnkRow.isSlice {v : Value} {l : List Lnk} (h : LnkRow w v l) : ∃ ad c, v = .slice ad l.length c := by
  obtain ⟨⟨ad, c, rfl, _⟩, _⟩ := h; exact ⟨ad, c, rfl⟩
theorem LnkRow.at {ad : Option Addr} {n c : Nat} {l : List Lnk} (h : LnkRow w (.slice ad n c) l) {i : Nat} (hi : i < l.length) :
    ∃ b o av, ad = some ⟨b, o, none⟩ ∧ (∀ w', Below w.heap.size w w' → LnkAt w' b (o + i * 9) l[i] av) ∧ SpdR w l[i].spend av ∧ TktR l[i].ticket ∧ l[i].terms.length ≤ 9223372036854775807 := by
  obtain ⟨⟨ad', c', hv, h1⟩, h2, h3, h4⟩ := h
  cases hv
  rcases h1 with rfl | ⟨b, o, rfl, hlt, hc⟩
  · simp at hi
  · obtain ⟨av, h5, h6⟩ := hc i hi
    exact ⟨b, o, av, rfl, fun w' hb => h6.next hb hlt, h5, h2 _ (List.getElem_mem hi), h3 _ (List.getElem_mem hi)⟩
@[go_sem] theorem idx_lnk (T : TypeId) (b o n c : Nat) (x : Int) : oM Tryz.prog (.indexAddr 85 (.tmp 0) (.tmp 1)) T [.slice (some ⟨b, o, none⟩) n c, .int .i64 x] = onM (0 ≤ x ∧ x < n) (.pointer (some ⟨b, o + x.toNat * 9, none⟩)) := by
  funext K w
  rw [oM_indexAddr, run_indexAt_slice (h := by kernel_rfl)]
  have hs : (sizeOf (Tryz.prog.elem 85)).run Tryz.prog w = .ok 9 w := by kernel_rfl
  by_cases hi : 0 ≤ x ∧ x < n
  · rw [if_pos hi, hs]
    simp only [Result.andThen, add_none, rM_ok]
    exact propext ⟨fun h => ⟨hi, h⟩, fun h => h.2⟩
  · rw [if_neg hi]
    obtain ⟨e', w', he⟩ := halts Value Tryz.prog .i64 x n .index w
    rw [he]
    exact propext ⟨fun h => h.elim, fun h => hi h.1⟩
end
end Go.Proofs
namespace Go.Proofs
open Go Go.Sh Go.RowKit FdSpec TkSpec CodeSpec
set_option linter.unusedSimpArgs false
set_option linter.unusedVariables false
set_option maxRecDepth 10000
section
variable {K : Value → World → Prop} {w w0 : World} {L : List (Addr × Value)}
end
end Go.Proofs
namespace FdPoly
def ev : List Int → Int → Int
  | [], _ => 0
  | c :: p, x => c + x * ev p x
def U (q a : Int) : Prop := ∃ u, q ∣ u * a - 1
theorem U.cancel {q a b : Int} (h : U q a) (hd : q ∣ a * b) : q ∣ b := by
  obtain ⟨u, k, hk⟩ := h
  obtain ⟨m, hm⟩ := hd
  exact ⟨u * m - k * b, by grind⟩
def Z (q : Int) (p : List Int) : Prop := ∀ c ∈ p, q ∣ c
theorem Z.ev {q : Int} : ∀ {p : List Int}, Z q p → ∀ x, q ∣ FdPoly.ev p x
  | [], _, _ => Int.dvd_zero q
  | c :: p, h, x => by
    have h1 := h c (by simp)
    have h2 := Z.ev (p := p) (fun d hd => h d (by simp [hd])) x
    exact Int.dvd_add h1 (Int.dvd_mul_of_dvd_right h2)
def Apart (q : Int) : List Int → Prop
  | [] => True
  | a :: xs => (∀ x ∈ xs, U q (x - a)) ∧ Apart q xs
def addL : List Int → List Int → List Int
  | [], p => p
  | p, [] => p
  | c :: p, d :: r => (c + d) :: addL p r
def scl (k : Int) (p : List Int) : List Int := p.map (fun c => k * c)
theorem addL_ev (x : Int) : ∀ p r : List Int, ev (addL p r) x = ev p x + ev r x
  | [], r => by simp [addL, ev]
  | c :: p, [] => by simp [addL, ev]
  | c :: p, d :: r => by
    simp only [addL, ev, addL_ev x p r]
    grind
theorem addL_len : ∀ p r : List Int, (addL p r).length = max p.length r.length
  | [], r => by simp [addL]
  | c :: p, [] => by simp [addL]
  | c :: p, d :: r => by simp only [addL, List.length_cons, addL_len p r]; omega
theorem addL_get : ∀ (p r : List Int) (i : Nat), (addL p r).getD i 0 = p.getD i 0 + r.getD i 0
  | [], r, i => by simp [addL]
  | c :: p, [], i => by simp [addL]
  | c :: p, d :: r, 0 => by simp [addL]
  | c :: p, d :: r, i + 1 => by
    have := addL_get p r i
    simpa [addL] using this
theorem scl_ev (k x : Int) (p : List Int) : ev (scl k p) x = k * ev p x := by
  induction p with
  | nil => simp [scl, ev]
  | cons c p ih =>
    have e : scl k (c :: p) = (k * c) :: scl k p := rfl
    rw [e]
    simp only [ev, ih]
    grind
theorem scl_len (k : Int) (p : List Int) : (scl k p).length = p.length := by simp [scl]
theorem scl_get (k : Int) (p : List Int) (i : Nat) : (scl k p).getD i 0 = k * p.getD i 0 := by
  induction p generalizing i with
  | nil => simp [scl]
  | cons c p ih =>
    cases i with
    | zero => simp [scl]
    | succ i => simpa [scl] using ih i
def lin (a : Int) (p : List Int) : List Int := addL (0 :: p) (scl (-a) p)
theorem lin_ev (a x : Int) (p : List Int) : ev (lin a p) x = (x - a) * ev p x := by
  unfold lin
  rw [addL_ev, scl_ev]
  simp only [ev]
  grind
theorem lin_len (a : Int) (p : List Int) : (lin a p).length = p.length + 1 := by
  unfold lin
  rw [addL_len, scl_len, List.length_cons]; omega
theorem lin_top (a : Int) (p : List Int) : (lin a p).getD p.length 0 = p.getD (p.length - 1) 0 := by
  unfold lin
  rw [addL_get, scl_get]
  have h1 : p.getD p.length 0 = 0 := by simp [List.getD]
  rw [h1]
  cases p with
  | nil => simp
  | cons c p => simp
structure Ip (q : Int) (X Y : Nat → Int) (i n : Nat) (p : List Int) (t : Int) : Prop where
  len : p.length = n + 1
  val : ∀ j, i ≤ j → j ≤ i + n → q ∣ ev p (X j) - Y j
  top : q ∣ p.getD n 0 - t
theorem Ip.step {q : Int} {X Y : Nat → Int} {i n : Nat} {p r : List Int} {t s u : Int} (h : Ip q X Y i n p t) (h' : Ip q X Y (i + 1) n r s) (hu : q ∣ u * (X (i + n + 1) - X i) - 1) :
    Ip q X Y i (n + 1) (scl u (addL (lin (X i) r) (scl (-1) (lin (X (i + n + 1)) p)))) ((s - t) * u) := by
  refine ⟨?_, fun j h1 h2 => ?_, ?_⟩
  · rw [scl_len, addL_len, scl_len, lin_len, lin_len, h.len, h'.len]; omega
  · rw [scl_ev, addL_ev, scl_ev, lin_ev, lin_ev]
    obtain ⟨k, hk⟩ := hu
    by_cases hj : j = i
    · subst hj
      obtain ⟨a, ha⟩ := h.val j (Nat.le_refl _) (by omega)
      generalize ev p (X j) = P at *
      generalize ev r (X j) = R at *
      generalize X (j + n + 1) = xn at *
      generalize X j = xj at *
      generalize Y j = y at *
      exact ⟨u * (xn - xj) * a + k * y, by grind⟩
    · by_cases hj2 : j = i + n + 1
      · subst hj2
        obtain ⟨a, ha⟩ := h'.val (i + n + 1) (by omega) (by omega)
        generalize ev p (X (i + n + 1)) = P at *
        generalize ev r (X (i + n + 1)) = R at *
        generalize X (i + n + 1) = xn at *
        generalize X i = xj at *
        generalize Y (i + n + 1) = y at *
        exact ⟨u * (xn - xj) * a + k * y, by grind⟩
      · obtain ⟨a, ha⟩ := h.val j (by omega) (by omega)
        obtain ⟨b, hb⟩ := h'.val j (by omega) (by omega)
        generalize ev p (X j) = P at *
        generalize ev r (X j) = R at *
        generalize X (i + n + 1) = xn at *
        generalize X i = xi at *
        generalize X j = xj at *
        generalize Y j = y at *
        exact ⟨u * (xj - xi) * b - u * (xj - xn) * a + k * y, by grind⟩
  · rw [scl_get, addL_get, scl_get]
    have e1 : (lin (X i) r).getD (n + 1) 0 = r.getD n 0 := by have := lin_top (X i) r; rw [h'.len] at this; exact this
    have e2 : (lin (X (i + n + 1)) p).getD (n + 1) 0 = p.getD n 0 := by have := lin_top (X (i + n + 1)) p; rw [h.len] at this; exact this
    rw [e1, e2]
    obtain ⟨a, ha⟩ := h.top
    obtain ⟨b, hb⟩ := h'.top
    exact ⟨u * b - u * a, by grind⟩
theorem Ip.one (q : Int) (X Y : Nat → Int) (i : Nat) : Ip q X Y i 0 [Y i] (Y i) :=
  ⟨rfl, fun j h1 h2 => by
    have : j = i := by omega
    subst this
    simp [ev], by simp⟩
def pr (X : Nat → Int) : Nat → List Int
  | 0 => [1]
  | n + 1 => lin (X n) (pr X n)
end FdPoly
namespace FdPoly
open FdSpec
theorem addM_dvd {n a b : Int} (hn : okN n) : n ∣ addM n a b - (a + b) := by
  unfold addM; rw [if_pos hn]
  have := Int.emod_add_mul_ediv (a + b) n
  exact ⟨-((a + b) / n), by grind⟩
theorem subM_dvd {n a b : Int} (hn : okN n) : n ∣ subM n a b - (a - b) := by
  unfold subM; rw [if_pos hn]
  have := Int.emod_add_mul_ediv (a - b) n
  exact ⟨-((a - b) / n), by grind⟩
theorem mulM_dvd {n a b : Int} (hn : okN n) : n ∣ mulM n a b - a * b := by
  unfold mulM; rw [if_pos hn]
  have := Int.emod_add_mul_ediv (a * b) n
  exact ⟨-(a * b / n), by grind⟩
theorem mod_dvd (n a : Int) : n ∣ a % n - a := by
  have := Int.emod_add_mul_ediv a n
  exact ⟨-(a / n), by grind⟩
theorem euc_inv {n a : Int} (hn : okN n) : ∀ (m : Nat) (r s x y α β : Int), s.toNat ≤ m → 0 ≤ r → 0 ≤ s → α * r + β * s = 1 → n ∣ x * a - r → n ∣ y * a - s → (eucAll n r s x y).1 = 1 ∧ n ∣ (eucAll n r s x y).2 * a - 1
  | m, r, s, x, y, α, β, hm, hr, hs, hb, hx, hy => by
    by_cases h0 : s = 0
    · subst h0
      have e : eucAll n r 0 x y = (r, x) := euc_zero n _ r x y
      rw [e]
      have h1 : α * r = 1 := by omega
      have h2 : r = 1 := by
        have : r ∣ 1 := ⟨α, by rw [Int.mul_comm]; exact h1.symm⟩
        have := Int.le_of_dvd (by omega) this
        by_cases h3 : r = 0
        · rw [h3] at h1; omega
        · omega
      subst h2
      exact ⟨rfl, hx⟩
    · have hs' : 0 < s := by omega
      rw [euc_step n r s x y hs']
      have h1 := Int.emod_nonneg r h0
      have h2 := Int.emod_lt_of_pos r hs'
      have h3 := Int.emod_add_mul_ediv r s
      have h4 : n ∣ subM n x (mulM n (r / s) y) * a - r % s := by
        obtain ⟨k1, e1⟩ := subM_dvd (a := x) (b := mulM n (r / s) y) hn
        obtain ⟨k2, e2⟩ := mulM_dvd (a := r / s) (b := y) hn
        obtain ⟨k3, e3⟩ := hx
        obtain ⟨k4, e4⟩ := hy
        generalize subM n x (mulM n (r / s) y) = A at *
        generalize mulM n (r / s) y = B at *
        generalize r / s = d at *
        generalize r % s = e at *
        exact ⟨k1 * a - k2 * a + k3 - d * k4, by grind⟩
      cases m with
      | zero => omega
      | succ m => exact euc_inv hn m s (r % s) y _ (β + α * (r / s)) α (by omega) hs h1 (by generalize r / s = d at *; generalize r % s = e at *; grind) hy h4
theorem invM_some {n a : Int} (hn : okN n) (h : U n a) : ∃ x, invM n a = some x ∧ n ∣ x * a - 1 ∧ 0 ≤ x ∧ x < n := by
  obtain ⟨u, k, hk⟩ := h
  have hp : 0 < n := by have := hn.1; omega
  have h1 := Int.emod_nonneg a (b := n) (by omega)
  have h3 := Int.emod_add_mul_ediv a n
  obtain ⟨e1, e2⟩ := euc_inv (a := a) hn _ n (a % n) 0 1 (u * (a / n) - k) u (Nat.le_refl _) (by omega) h1 (by generalize a / n = d at *; generalize a % n = e at *; grind) ⟨-1, by omega⟩ (by
    obtain ⟨m, hm⟩ := mod_dvd n a
    exact ⟨-m, by grind⟩)
  refine ⟨(eucAll n n (a % n) 0 1).2 % n, ?_, ?_, Int.emod_nonneg _ (by omega), Int.emod_lt_of_pos _ hp⟩
  · unfold invM
    rw [if_pos hn, if_pos e1]
  · obtain ⟨m, hm⟩ := mod_dvd n (eucAll n n (a % n) 0 1).2
    obtain ⟨l, hl⟩ := e2
    generalize (eucAll n n (a % n) 0 1).2 = z at *
    generalize z % n = zz at *
    exact ⟨m * a + l, by grind⟩
end FdPoly
namespace FdPoly
open FdSpec
theorem res_eq {q a b : Int} (h : q ∣ a - b) (ha : 0 ≤ a ∧ a < q) (hb : 0 ≤ b ∧ b < q) : a = b := by
  obtain ⟨k, hk⟩ := h
  have h1 : k < 1 := by
    refine Classical.byContradiction fun hn => ?_
    have : q * 1 ≤ q * k := Int.mul_le_mul_of_nonneg_left (by omega) (by omega)
    omega
  have h2 : -1 < k := by
    refine Classical.byContradiction fun hn => ?_
    have : q * k ≤ q * (-1) := Int.mul_le_mul_of_nonneg_left (by omega) (by omega)
    omega
  have : k = 0 := by omega
  subst this
  omega
theorem Ip.cong {q : Int} {X Y : Nat → Int} {i n : Nat} {p : List Int} {t s : Int} (h : Ip q X Y i n p t) (e : q ∣ t - s) : Ip q X Y i n p s := by
  refine ⟨h.len, h.val, ?_⟩
  have := Int.dvd_add h.top e
  have e2 : p.getD n 0 - t + (t - s) = p.getD n 0 - s := by omega
  rwa [e2] at this
theorem U.cong {q a b : Int} (h : U q a) (e : q ∣ b - a) : U q b := by
  obtain ⟨u, k, hk⟩ := h
  obtain ⟨m, hm⟩ := e
  exact ⟨u, k + u * m, by grind⟩
section
variable {q : Int} {xs ys : List Int}
def d0 (q : Int) (ys : List Int) : List Int := ys.map (fun y => y % q)
end
def hNew (q x d : Int) (o : List Int) (n : Nat) : Int := if n = 0 then addM q (subM q 0 (mulM q (o.getD 0 0) x)) d else addM q (subM q 0 (mulM q (o.getD n 0) x)) (o.getD (n - 1) 0)
def hStep (q x d : Int) (o : List Int) : List Int := (List.range o.length).map (hNew q x d o)
theorem hStep_get (q x d : Int) (o : List Int) (n : Nat) : (hStep q x d o).getD n 0 = if n < o.length then hNew q x d o n else 0 := by
  unfold hStep
  rw [List.getD_eq_getElem?_getD, List.getElem?_map]
  by_cases h : n < o.length
  · rw [List.getElem?_range h, if_pos h]; rfl
  · rw [if_neg h, List.getElem?_eq_none (by simp; omega)]; rfl
def Zr (c : Nat) (o : List Int) : Prop := ∀ n, c ≤ n → o.getD n 0 = 0
theorem mul0 {q x : Int} (hq : okN q) : mulM q 0 x = 0 := by unfold mulM; rw [if_pos hq]; simp
theorem sub0 {q : Int} (hq : okN q) : subM q 0 0 = 0 := by unfold subM; rw [if_pos hq]; simp
theorem add0 {q : Int} (hq : okN q) : addM q 0 0 = 0 := by unfold addM; rw [if_pos hq]; simp
theorem Zr.step {q x d : Int} (hq : okN q) {c : Nat} {o : List Int} (h : Zr c o) : Zr (c + 1) (hStep q x d o) := by
  intro n hn
  rw [hStep_get]
  split
  · unfold hNew
    rw [if_neg (by omega), h n (by omega), h (n - 1) (by omega), mul0 hq, sub0 hq, add0 hq]
  · rfl
end FdPoly
namespace FdPoly
open FdSpec
theorem U.mul {q a b : Int} (ha : U q a) (hb : U q b) : U q (a * b) := by
  obtain ⟨u, k, hk⟩ := ha
  obtain ⟨v, m, hm⟩ := hb
  exact ⟨u * v, v * b * k + m, by grind⟩
theorem U.neg {q a : Int} (ha : U q a) : U q (-a) := by
  obtain ⟨u, k, hk⟩ := ha
  exact ⟨-u, k, by grind⟩
theorem U.one (q : Int) : U q 1 := ⟨1, 0, by omega⟩
theorem prime_small {q : Int} (h : primeM q = true) : q ∈ smallP ∨ ∀ p ∈ smallP, q % p ≠ 0 := by
  unfold primeM at h
  split at h
  · cases h
  · cases hf : smallP.find? (fun p => decide (q % p = 0)) with
    | some p =>
      rw [hf] at h
      have hm := List.mem_of_find?_eq_some hf
      have : q = p := by simpa using h
      rw [this]; exact .inl hm
    | none =>
      rw [List.find?_eq_none] at hf
      exact .inr (fun p hp => by simpa using hf p hp)
theorem U.list {q : Int} (l : List Int) (h : ∀ x ∈ l, U q x) {d : Int} (hd : d = l.foldr (· * ·) 1) : U q d := by
  subst hd
  induction l with
  | nil => exact U.one q
  | cons x l ih => exact (h x (by simp)).mul (ih (fun y hy => h y (by simp [hy])))
end FdPoly
namespace GrLaw
open FdSpec FdPoly TkSpec
def Cg (P a b : Int) : Prop := P ∣ a - b
section
variable {P a b c d x y : Int}
theorem Cg.refl (P a : Int) : Cg P a a := ⟨0, by omega⟩
theorem Cg.symm (h : Cg P a b) : Cg P b a := by obtain ⟨k, hk⟩ := h; exact ⟨-k, by grind⟩
theorem Cg.trans (h : Cg P a b) (h2 : Cg P b c) : Cg P a c := by obtain ⟨k, hk⟩ := h; obtain ⟨m, hm⟩ := h2; exact ⟨k + m, by grind⟩
theorem Cg.mul (h : Cg P a b) (h2 : Cg P c d) : Cg P (a * c) (b * d) := by obtain ⟨k, hk⟩ := h; obtain ⟨m, hm⟩ := h2; exact ⟨k * c + b * m, by grind⟩
theorem Cg.pow (h : Cg P a b) : ∀ n : Nat, Cg P (a ^ n) (b ^ n)
  | 0 => by rw [Int.pow_zero, Int.pow_zero]; exact Cg.refl _ _
  | n + 1 => by rw [Int.pow_succ, Int.pow_succ]; exact (Cg.pow h n).mul h
theorem Cg.mod (P a : Int) : Cg P (a % P) a := mod_dvd P a
theorem Cg.emod (h : Cg P a b) : a % P = b % P := by
  obtain ⟨k, hk⟩ := h
  have : a = b + P * k := by omega
  rw [this, Int.add_mul_emod_self_left]
theorem Cg.of_emod (h : a % P = b % P) : Cg P a b := (Cg.mod P a).symm.trans (by rw [h]; exact Cg.mod P b)
theorem Cg.eq (h : Cg P a b) (ha : 0 ≤ a ∧ a < P) (hb : 0 ≤ b ∧ b < P) : a = b := res_eq h ha hb
theorem U.of_cg (h : Cg P (b * a) 1) : U P a := ⟨b, h⟩
theorem U.cg (h : U P a) (e : Cg P b a) : U P b := h.cong e
theorem Cg.cancel (hu : U P c) (h : Cg P (a * c) (b * c)) : Cg P a b := by
  refine hu.cancel ?_
  obtain ⟨k, hk⟩ := h
  exact ⟨k, by grind⟩
theorem pow_mod {n : Nat} (h : Cg P (x ^ n) 1) (k : Nat) : Cg P (x ^ k) (x ^ (k % n)) := by
  have e : x ^ k = (x ^ n) ^ (k / n) * x ^ (k % n) := by
    rw [← Int.pow_mul, ← Int.pow_add, Nat.div_add_mod]
  rw [e]
  have h1 := h.pow (k / n)
  rw [Int.one_pow] at h1
  have := h1.mul (Cg.refl P (x ^ (k % n)))
  rwa [Int.one_mul] at this
theorem pow_same {n : Nat} (h : Cg P (x ^ n) 1) {j k : Nat} (e : j % n = k % n) : Cg P (x ^ j) (x ^ k) := by
  have h1 := pow_mod h j
  rw [e] at h1
  exact h1.trans (pow_mod h k).symm
end
structure Gv (g : Grp) : Prop where
  q0 : 5 ≤ g.Q
  q1 : g.Q < 1152921504606846976
  p : g.P = 2 * g.Q + 1
  g0 : 2 ≤ g.G
  g1 : g.G < g.P
  pq : primeM g.Q = true
  gq : pw g.P g.G g.Q.toNat = 1
theorem gv_of {g : Grp} (h : validG g = true) : Gv g := by
  unfold validG at h
  split at h
  · cases h
  · simp only [Bool.and_eq_true, decide_eq_true_eq] at h
    exact ⟨by omega, by omega, by omega, by omega, by omega, h.1.1, h.2⟩
def Ex (g : Grp) (x k : Int) : Int := x ^ (k % g.Q).toNat
def El (g : Grp) (x : Int) : Prop := Cg g.P (x ^ g.Q.toNat) 1
section
variable {g : Grp} {x y a b : Int}
theorem Gv.okP (h : Gv g) : okN g.P := by have := h.q0; have := h.q1; have := h.p; exact ⟨by omega, by omega⟩
theorem Gv.okQ (h : Gv g) : okN g.Q := by have := h.q0; have := h.q1; exact ⟨by omega, by omega⟩
theorem El.of_pw (h : Gv g) (hx : pw g.P x g.Q.toNat = 1) : El g x := by
  refine Cg.of_emod ?_
  have e : x ^ g.Q.toNat % g.P = 1 := hx
  rw [e, Int.emod_eq_of_lt (by omega) (by have := h.q0; have := h.p; omega)]
theorem El.gen (h : Gv g) : El g g.G := El.of_pw h h.gq
theorem El.mul (hx : El g x) (hy : El g y) : El g (x * y) := by
  unfold El
  rw [Int.mul_pow]
  have := Cg.mul hx hy
  rwa [Int.one_mul] at this
theorem El.cg (hx : El g x) (h : Cg g.P y x) : El g y := (h.pow _).trans hx
theorem El.pow (hx : El g x) (n : Nat) : El g (x ^ n) := by
  unfold El
  rw [← Int.pow_mul, Nat.mul_comm, Int.pow_mul]
  have := Cg.pow hx n
  rwa [Int.one_pow] at this
theorem El.unit (h : Gv g) (hx : El g x) : U g.P x := by
  refine U.of_cg (b := x ^ (g.Q.toNat - 1)) ?_
  have e : x ^ (g.Q.toNat - 1) * x = x ^ g.Q.toNat := by
    rw [← Int.pow_succ]; congr 1; have := h.q0; omega
  rw [e]; exact hx
theorem toNat_mod {Q k : Int} (hQ : 0 < Q) : (((k % Q).toNat : Nat) : Int) = k % Q := Int.toNat_of_nonneg (Int.emod_nonneg _ (by omega))
theorem nat_mod {Q : Int} (hQ : 0 < Q) {m n : Nat} (h : (m : Int) % Q = (n : Int) % Q) : m % Q.toNat = n % Q.toNat := by
  have hq : ((Q.toNat : Nat) : Int) = Q := Int.toNat_of_nonneg (by omega)
  have : ((m % Q.toNat : Nat) : Int) = ((n % Q.toNat : Nat) : Int) := by
    rw [Int.natCast_emod, Int.natCast_emod, hq]; exact h
  omega
theorem Ex_add (h : Gv g) (hx : El g x) (a b : Int) : Cg g.P (Ex g x (a + b)) (Ex g x a * Ex g x b) := by
  unfold Ex
  rw [← Int.pow_add]
  have hQ : 0 < g.Q := by have := h.q0; omega
  refine pow_same hx (nat_mod hQ ?_)
  push_cast
  rw [toNat_mod hQ, toNat_mod hQ, toNat_mod hQ]
  rw [Int.emod_emod_of_dvd _ (Int.dvd_refl _), ← Int.add_emod]
theorem Ex_mul (h : Gv g) (hx : El g x) (a b : Int) : Cg g.P (Ex g x (a * b)) (Ex g x a ^ (b % g.Q).toNat) := by
  unfold Ex
  rw [← Int.pow_mul]
  have hQ : 0 < g.Q := by have := h.q0; omega
  refine pow_same hx (nat_mod hQ ?_)
  push_cast
  rw [toNat_mod hQ, toNat_mod hQ, toNat_mod hQ]
  rw [Int.emod_emod_of_dvd _ (Int.dvd_refl _), ← Int.mul_emod]
theorem Ex_cong (e : a % g.Q = b % g.Q) : Ex g x a = Ex g x b := by unfold Ex; rw [e]
theorem Ex_zero (x : Int) : Ex g x 0 = 1 := by simp [Ex]
theorem Ex_cg (h : Cg g.P x y) (a : Int) : Cg g.P (Ex g x a) (Ex g y a) := h.pow _
theorem El.ex (hx : El g x) (a : Int) : El g (Ex g x a) := hx.pow _
theorem powerG_eq (h : Gv g) (x k : Int) : powerG g x k = Ex g x k % g.P := by
  unfold powerG
  rw [if_pos ⟨h.okP, h.okQ⟩]; rfl
theorem powerG_cg (h : Gv g) (x k : Int) : Cg g.P (powerG g x k) (Ex g x k) := by rw [powerG_eq h]; exact Cg.mod _ _
theorem powerG_range (h : Gv g) (x k : Int) : 0 ≤ powerG g x k ∧ powerG g x k < g.P := by
  rw [powerG_eq h]
  have := h.okP.1
  exact ⟨Int.emod_nonneg _ (by omega), Int.emod_lt_of_pos _ (by omega)⟩
theorem timesG_cg (h : Gv g) (a b : Int) : Cg g.P (timesG g a b) (a * b) := by
  unfold timesG
  rw [if_pos h.okQ]
  exact mulM_dvd h.okP
theorem timesG_range (h : Gv g) (a b : Int) : 0 ≤ timesG g a b ∧ timesG g a b < g.P := by
  unfold timesG
  rw [if_pos h.okQ]
  exact mulM_range _ _ _ h.okP
def PX (g : Grp) : List (Int × Int) → Int
  | [] => 1
  | (b, e) :: l => Ex g b e * PX g l
theorem prodL_cg (h : Gv g) : ∀ (l : List (Int × Int)) (out : Int), Cg g.P (prodL g out l) (out * PX g l)
  | [], out => by simp [prodL, PX]; exact Cg.refl _ _
  | (b, e) :: l, out => by
    rw [prodL, PX]
    refine (prodL_cg h l _).trans ?_
    have h1 : Cg g.P (mulM g.P out (powerG g b e)) (out * Ex g b e) := (show Cg g.P _ _ from mulM_dvd h.okP).trans ((Cg.refl _ out).mul (powerG_cg h b e))
    have := h1.mul (Cg.refl g.P (PX g l))
    have e2 : out * Ex g b e * PX g l = out * (Ex g b e * PX g l) := Int.mul_assoc _ _ _
    rwa [e2] at this
theorem prodL_range (h : Gv g) : ∀ (l : List (Int × Int)) (out : Int), 0 ≤ out ∧ out < g.P → 0 ≤ prodL g out l ∧ prodL g out l < g.P
  | [], out, ho => ho
  | (b, e) :: l, out, _ => by rw [prodL]; exact prodL_range h l _ (mulM_range _ _ _ h.okP)
end
end GrLaw
namespace FdPr
open FdSpec FdPoly GrLaw Mr
theorem mrUp_ex {n : Nat} (hn : 2 ≤ n) : ∀ (k : Nat) (x : Int), mrUp n k x = true → ∃ i, i < k ∧ E n (x ^ (2 ^ i)) (-1)
  | 0, x, h => by simp [mrUp] at h
  | k + 1, x, h => by
    rw [mrUp] at h
    split at h
    · rename_i hx
      refine ⟨0, by omega, ?_⟩
      rw [hx, Nat.pow_zero, Int.pow_succ, Int.pow_zero]
      exact ⟨1, by omega⟩
    · obtain ⟨i, hi, h1⟩ := mrUp_ex hn k _ h
      refine ⟨i + 1, by omega, ?_⟩
      have h2 : E n ((x * x) ^ 2 ^ i) ((x * x % n) ^ 2 ^ i) := (E.emod n (x * x)).symm.pow _
      have e : x ^ 2 ^ (i + 1) = (x * x) ^ 2 ^ i := by
        rw [Nat.pow_succ, Nat.mul_comm, Int.pow_mul]
        congr 1
        rw [Int.pow_succ, Int.pow_succ, Int.pow_zero, Int.one_mul]
      rw [e]
      exact h2.trans h1
theorem passes_sp {n : Nat} {b : Nat} (hn : 2 ≤ n) (h : passes n b = true) {k d : Nat} (hk : k = FdSpec.tz 64 (n - 1)) (hd : d = (n - 1) / 2 ^ k) (e : n - 1 = 2 ^ k * d) : Sp n d b ∧ E n ((b : Int) ^ (n - 1)) 1 := by
  have e1 : ((n : Int) - 1).toNat = n - 1 := by omega
  unfold passes at h
  simp only [e1] at h
  rw [← hk, ← hd] at h
  have hx : E n (pw n b d) ((b : Int) ^ d) := E.emod n _
  split at h
  · rename_i h1
    rw [h1] at hx
    have h2 : E n ((b : Int) ^ d) 1 := hx.symm
    refine ⟨Or.inl h2, ?_⟩
    rw [e, Nat.mul_comm, Int.pow_mul]
    exact h2.one_pow _
  · obtain ⟨i, hi, h1⟩ := mrUp_ex hn k _ h
    have h2 : E n ((b : Int) ^ (2 ^ i * d)) (-1) := by
      rw [Nat.mul_comm, Int.pow_mul]
      exact (hx.pow _).symm.trans h1
    refine ⟨Or.inr ⟨i, h2⟩, ?_⟩
    have h3 := h2.pow (2 ^ (k - i))
    rw [← Int.pow_mul, neg_one_pow, if_pos] at h3
    · have e2 : 2 ^ i * d * 2 ^ (k - i) = n - 1 := by
        have : 2 ^ k = 2 ^ i * 2 ^ (k - i) := by rw [← Nat.pow_add]; congr 1; omega
        rw [e, this]; grind
      rwa [e2] at h3
    · have : 2 ^ (k - i) = 2 * 2 ^ (k - i - 1) := by rw [← Nat.pow_succ']; congr 1; omega
      omega
theorem small_pr : ∀ p < 38, 2 ≤ p → (∀ d, d < p → 2 ≤ d → ¬ d ∣ p) → p ∈ Bs := by decide +kernel
theorem pr_mem {p : Nat} (hp : Pr p) (h : p ≤ 37) : p ∈ Bs := small_pr p (by omega) hp.1 fun d h1 h2 hd => by
  rcases hp.2 d hd with h3 | h3 <;> omega
theorem smallP_eq : smallP = Bs.map Int.ofNat := rfl
theorem test_facts {n : Int} (h : primeM n = true) (hs : n ∉ smallP) : 2 ≤ n ∧ (∀ a ∈ Bs, n.toNat % a ≠ 0) ∧ ∃ d, d % 2 = 1 ∧ ∀ a ∈ Bs, Sp n.toNat d a ∧ E n.toNat ((a : Int) ^ (n.toNat - 1)) 1 := by
  have h1 := (prime_small h).resolve_left hs
  unfold primeM at h
  split at h
  · cases h
  · rename_i h0
    have hn : 2 ≤ n := by omega
    have hb : n < 2305843009213693952 := by omega
    have hN : ((n.toNat : Nat) : Int) = n := Int.toNat_of_nonneg (by omega)
    have hz : ∀ a ∈ Bs, n.toNat % a ≠ 0 := by
      intro a ha h2
      have h3 := h1 (a : Int) (by rw [smallP_eq]; exact List.mem_map.mpr ⟨a, ha, rfl⟩)
      apply h3
      rw [← hN, ← Int.natCast_emod, h2]; rfl
    cases hf : smallP.find? (fun p => decide (n % p = 0)) with
    | some p =>
      have hm := List.mem_of_find?_eq_some hf
      have h2 := List.find?_some hf
      exact absurd (by simpa using h2) (h1 p hm)
    | none =>
      rw [hf] at h
      have hall := List.all_eq_true.mp h
      obtain ⟨hk, j, e⟩ := tz_lt 64 (n.toNat - 1) (by omega) (by
        have : (2 : Nat) ^ 64 = 18446744073709551616 := by decide
        omega)
      refine ⟨hn, hz, 2 * j + 1, by omega, fun a ha => ?_⟩
      have hp := hall (a : Int) (by rw [smallP_eq]; exact List.mem_map.mpr ⟨a, ha, rfl⟩)
      refine passes_sp (by omega) (by rw [hN]; exact hp) rfl ?_ e
      rw [e]
      conv => rhs; rw [← e]
      have h4 : 0 < 2 ^ FdSpec.tz 64 (n.toNat - 1) := Nat.two_pow_pos _
      conv => rhs; lhs; rw [e]
      rw [Nat.mul_div_cancel_left _ h4]
theorem mem_pr {n : Int} (h : n ∈ smallP) : Pr n.toNat := by
  rw [smallP_eq] at h
  obtain ⟨a, ha, rfl⟩ := List.mem_map.mp h
  exact pr_small a ha
theorem prime_Q {g : Grp} (h : validG g = true) : Pr g.Q.toNat := by
  have hv := gv_of h
  by_cases hs : g.Q ∈ smallP
  · exact mem_pr hs
  · obtain ⟨hn, hz, d, hd, hall⟩ := test_facts hv.pq hs
    have hP : primeM g.P = true := by
      unfold validG at h
      split at h
      · cases h
      · simp only [Bool.and_eq_true, decide_eq_true_eq] at h
        exact h.1.2
    have q0 := hv.q0
    have q1 := hv.q1
    have hp := hv.p
    have h3 : g.P % 3 ≠ 0 := by
      intro h3
      rcases prime_small hP with h4 | h4
      · have : ∀ p ∈ smallP, p % 3 = 0 → p = 3 := by decide
        have := this g.P h4 h3
        omega
      · exact h4 3 (by decide) h3
    have z3 := hz 3 (by decide)
    have z2 := hz 2 (by decide)
    refine Ps.prime (d := d) ⟨by omega, by omega, by omega, fun p hpr hdv => ?_, hd, fun a ha => (hall a ha).1, fun a ha => (hall a ha).2⟩ (by omega)
    apply Classical.byContradiction
    intro hc
    exact hz p (pr_mem hpr (by omega)) (Nat.mod_eq_zero_of_dvd hdv)
theorem prime_P {g : Grp} (h : validG g = true) : Pr g.P.toNat := by
  have hv := gv_of h
  have hQ := prime_Q h
  have hP : primeM g.P = true := by
    unfold validG at h
    split at h
    · cases h
    · simp only [Bool.and_eq_true, decide_eq_true_eq] at h
      exact h.1.2
  by_cases hs : g.P ∈ smallP
  · exact mem_pr hs
  · obtain ⟨hn, hz, d, hd, hall⟩ := test_facts hP hs
    have q0 := hv.q0
    have hp := hv.p
    have eP : g.P.toNat = 2 * g.Q.toNat + 1 := by omega
    have h2 := (hall 2 (by decide)).2
    obtain ⟨r, hr, hrd⟩ := exists_pr g.P.toNat (by omega)
    have hr37 : 37 < r := by
      apply Classical.byContradiction
      intro hc
      exact hz r (pr_mem hr (by omega)) (Nat.mod_eq_zero_of_dvd hrd)
    have r2 := odd_of hr hr37
    have h3 : E r ((2 : Int) ^ Nat.gcd (2 * g.Q.toNat) (r - 1)) 1 := by
      refine gcd_pow _ _ ?_ (fermat hr r2 (show 2 ∈ Bs by decide) hr37)
      have := h2.dvd hrd
      rwa [eP, Nat.add_sub_cancel] at this
    have hrP : r = g.P.toNat := by
      by_cases hq : g.Q.toNat ∣ r - 1
      · obtain ⟨t, ht⟩ := hq
        have hle := Nat.le_of_dvd (by omega) hrd
        have t0 : t ≠ 0 := by rintro rfl; omega
        have t1 : t ≠ 1 := by
          rintro rfl
          rw [Nat.mul_one] at ht
          have q37 : 37 ≤ g.Q.toNat := by omega
          rcases hQ.2 2 (Nat.dvd_of_mod_eq_zero (by omega)) with h5 | h5 <;> omega
        have h5 : g.Q.toNat * 2 ≤ g.Q.toNat * t := Nat.mul_le_mul_left _ (by omega)
        omega
      · exfalso
        have h5 : Nat.gcd g.Q.toNat (r - 1) = 1 := by
          rcases hQ.2 (Nat.gcd g.Q.toNat (r - 1)) (Nat.gcd_dvd_left _ _) with h6 | h6
          · exact h6
          · exact absurd (h6 ▸ Nat.gcd_dvd_right g.Q.toNat (r - 1)) hq
        have h6 : Nat.gcd (2 * g.Q.toNat) (r - 1) ∣ 2 := by
          have h7 : Nat.Coprime (Nat.gcd (2 * g.Q.toNat) (r - 1)) g.Q.toNat := by
            refine Nat.Coprime.coprime_dvd_left (Nat.gcd_dvd_right _ _) ?_
            show Nat.gcd (r - 1) g.Q.toNat = 1
            rw [Nat.gcd_comm]; exact h5
          exact h7.dvd_of_dvd_mul_right (Nat.gcd_dvd_left _ _)
        have h8 := Nat.le_of_dvd (by omega) h6
        have h9 : Nat.gcd (2 * g.Q.toNat) (r - 1) = 0 ∨ Nat.gcd (2 * g.Q.toNat) (r - 1) = 1 ∨ Nat.gcd (2 * g.Q.toNat) (r - 1) = 2 := by omega
        rcases h9 with h9 | h9 | h9
        · rw [h9] at h6; have := Nat.eq_zero_of_zero_dvd h6; omega
        · rw [h9] at h3
          have h10 : (r : Int) ∣ 1 := h3
          have := Int.le_of_dvd (by omega) h10
          omega
        · rw [h9] at h3
          have h10 : (r : Int) ∣ 3 := h3
          have := Int.le_of_dvd (by omega) h10
          omega
    exact hrP ▸ hr
theorem unit_Q {g : Grp} (h : validG g = true) {a : Int} (ha : a % g.Q ≠ 0) : U g.Q a := by
  have hQ := prime_Q h
  have q0 := (gv_of h).q0
  have hN : ((g.Q.toNat : Nat) : Int) = g.Q := Int.toNat_of_nonneg (by omega)
  have r0 := Int.emod_nonneg a (show g.Q ≠ 0 by omega)
  have r1 := Int.emod_lt_of_pos a (show 0 < g.Q by omega)
  have h2 : g.Q.toNat % 2 = 1 := by
    rcases Nat.mod_two_eq_zero_or_one g.Q.toNat with h2 | h2
    · rcases hQ.2 2 (Nat.dvd_of_mod_eq_zero h2) with h3 | h3 <;> omega
    · exact h2
  have hd : ¬ g.Q.toNat ∣ (a % g.Q).toNat := fun hd => by have := Nat.le_of_dvd (by omega) hd; omega
  have h3 := gauss (h := g.Q.toNat / 2) hQ (by omega) hd
  have h4 := h3.mul h3
  rw [← Int.pow_add, ← Int.pow_add, neg_one_pow, if_pos (by omega)] at h4
  have eA : (((a % g.Q).toNat : Nat) : Int) = a % g.Q := Int.toNat_of_nonneg r0
  rw [eA] at h4
  have h5 : g.Q ∣ (a % g.Q) ^ (g.Q.toNat / 2 + g.Q.toNat / 2) - 1 := by
    have : ((g.Q.toNat : Nat) : Int) ∣ (a % g.Q) ^ (g.Q.toNat / 2 + g.Q.toNat / 2) - 1 := h4
    rwa [hN] at this
  have hU : U g.Q (a % g.Q) := by
    refine ⟨(a % g.Q) ^ (g.Q.toNat / 2 + g.Q.toNat / 2 - 1), ?_⟩
    rw [← Int.pow_succ, show (g.Q.toNat / 2 + g.Q.toNat / 2 - 1).succ = g.Q.toNat / 2 + g.Q.toNat / 2 by omega]
    exact h5
  refine hU.cong ?_
  exact ⟨a / g.Q, by have := Int.emod_add_mul_ediv a g.Q; omega⟩
end FdPr
namespace GrPr
open FdSpec FdPoly GrLaw
section
variable {g : Grp} (hv : validG g = true)
include hv
theorem nP : ((g.P.toNat : Nat) : Int) = g.P := Int.toNat_of_nonneg (by have := (gv_of hv).q0; have := (gv_of hv).p; omega)
theorem cg_E {a b : Int} : Cg g.P a b ↔ Mr.E g.P.toNat a b := by unfold Cg Mr.E; rw [nP hv]
theorem ord {x : Int} (hx : El g x) (h1 : ¬ Cg g.P x 1) {k : Nat} (hk : Cg g.P (x ^ k) 1) : g.Q.toNat ∣ k := by
  rw [cg_E hv] at hk h1
  have h2 : Mr.E g.P.toNat (x ^ g.Q.toNat) 1 := (cg_E hv).mp hx
  have h3 := Mr.gcd_pow _ _ h2 hk
  rcases (FdPr.prime_Q hv).2 (Nat.gcd g.Q.toNat k) (Nat.gcd_dvd_left _ _) with h4 | h4
  · rw [h4, Int.pow_succ, Int.pow_zero, Int.one_mul] at h3
    exact absurd h3 h1
  · exact h4 ▸ Nat.gcd_dvd_right g.Q.toNat k
theorem gen_ne : ¬ Cg g.P g.G 1 := by
  intro h
  have hg := gv_of hv
  have := hg.g0
  have := hg.g1
  have := Int.le_of_dvd (by omega) h
  omega
theorem Ex_inj {x : Int} (hx : El g x) (h1 : ¬ Cg g.P x 1) {a b : Int} (h : Cg g.P (Ex g x a) (Ex g x b)) : a % g.Q = b % g.Q := by
  have hg := gv_of hv
  have q0 := hg.q0
  have h2 : Cg g.P (Ex g x (a - b)) 1 := by
    have h3 := Ex_add hg hx (a - b) b
    rw [Int.sub_add_cancel] at h3
    have h4 : Cg g.P (1 * Ex g x b) (Ex g x (a - b) * Ex g x b) := by rw [Int.one_mul]; exact h.symm.trans h3
    exact (Cg.cancel ((hx.ex b).unit hg) h4).symm
  have h3 := ord hv hx h1 h2
  have r0 := Int.emod_nonneg (a - b) (show g.Q ≠ 0 by omega)
  have r1 := Int.emod_lt_of_pos (a - b) (show 0 < g.Q by omega)
  have h4 : ((a - b) % g.Q).toNat = 0 := by
    apply Classical.byContradiction
    intro hc
    have := Nat.le_of_dvd (by omega) h3
    omega
  have h5 : (a - b) % g.Q = 0 := by omega
  exact Int.emod_eq_emod_iff_emod_sub_eq_zero.mpr h5
theorem log {x : Int} (hx : El g x) : ∃ k : Int, Cg g.P x (Ex g g.G k) := by
  have hg := gv_of hv
  have q0 := hg.q0
  apply Classical.byContradiction
  intro hc
  have hl : ∀ k : Nat, ¬ Mr.E g.P.toNat x (g.G ^ k) := by
    intro k h
    apply hc
    refine ⟨k, ?_⟩
    have h1 : Cg g.P x (g.G ^ k) := (cg_E hv).mpr h
    refine h1.trans ?_
    unfold Ex
    refine pow_same (El.gen hg) (nat_mod (by omega) ?_)
    rw [toNat_mod (by omega), Int.emod_emod_of_dvd _ (Int.dvd_refl _)]
  have hp : List.Pairwise (fun a b : Nat => ¬ Mr.E g.P.toNat (g.G ^ a) (g.G ^ b)) (List.range g.Q.toNat) := by
    refine List.Pairwise.imp_of_mem ?_ List.pairwise_lt_range
    intro a b ha hb hab h
    have ha := List.mem_range.mp ha
    have hb := List.mem_range.mp hb
    have h1 : Cg g.P (Ex g g.G a) (Ex g g.G b) := by
      unfold Ex
      rw [Int.emod_eq_of_lt (by omega) (by omega), Int.emod_eq_of_lt (by omega) (by omega)]
      exact (cg_E hv).mpr h
    have h2 := Ex_inj hv (El.gen hg) (gen_ne hv) h1
    rw [Int.emod_eq_of_lt (by omega) (by omega), Int.emod_eq_of_lt (by omega) (by omega)] at h2
    omega
  have h1 : Mr.Apart g.P.toNat (x :: (List.range g.Q.toNat).map fun k => g.G ^ k) := by
    refine List.pairwise_cons.mpr ⟨fun y hy => ?_, List.pairwise_map.mpr hp⟩
    obtain ⟨k, _, rfl⟩ := List.mem_map.mp hy
    exact hl k
  have h2 := Mr.roots_pow (FdPr.prime_P hv) (k := g.Q.toNat) (by omega) _ h1 (by
    intro y hy
    rcases List.mem_cons.mp hy with rfl | hy
    · exact (cg_E hv).mp hx
    · obtain ⟨k, _, rfl⟩ := List.mem_map.mp hy
      exact (cg_E hv).mp ((El.gen hg).pow k))
  rw [List.length_cons, List.length_map, List.length_range] at h2
  omega
theorem inv_Q {a : Int} (ha : a % g.Q ≠ 0) : g.Q ∣ powM g.Q a (-1) * a - 1 ∧ 0 ≤ powM g.Q a (-1) ∧ powM g.Q a (-1) < g.Q := by
  have hg := gv_of hv
  obtain ⟨x, e, hx, h0, h1⟩ := invM_some hg.okQ (FdPr.unit_Q hv ha)
  have e1 : powM g.Q a (-1) = x := by
    unfold powM
    rw [if_pos hg.okQ, if_neg (by omega), e]
    show pw g.Q x (-(-1 : Int)).toNat = _
    have : (-(-1 : Int)).toNat = 1 := by decide
    rw [this]
    unfold pw
    rw [Int.pow_succ, Int.pow_zero, Int.one_mul, Int.emod_eq_of_lt h0 h1]
  rw [e1]
  exact ⟨hx, h0, h1⟩
theorem cancel_Q {a b c : Int} (ha : c % g.Q ≠ 0) (h : g.Q ∣ c * a - c * b) : g.Q ∣ a - b := by
  rw [← Int.mul_sub] at h
  exact (FdPr.unit_Q hv ha).cancel h
theorem zero_Q {a b : Int} (h : (a * b) % g.Q = 0) : a % g.Q = 0 ∨ b % g.Q = 0 := by
  by_cases ha : a % g.Q = 0
  · exact Or.inl ha
  · exact Or.inr (Int.emod_eq_zero_of_dvd ((FdPr.unit_Q hv ha).cancel (Int.dvd_of_emod_eq_zero h)))
end
end GrPr
namespace TpA
open FdSpec FdPoly GrLaw GrPr TkSpec
def dot : List Int → List Int → Int
  | β :: bs, e :: es => β * e + dot bs es
  | _, _ => 0
theorem mod_of_dvd {q a b : Int} (h : q ∣ a - b) : a % q = b % q := Int.emod_eq_emod_iff_emod_sub_eq_zero.mpr (Int.emod_eq_zero_of_dvd h)
theorem dvd_of_mod {q a b : Int} (h : a % q = b % q) : q ∣ a - b := Int.dvd_of_emod_eq_zero (Int.emod_eq_emod_iff_emod_sub_eq_zero.mp h)
section
variable {g : Grp} (hv : validG g = true)
include hv
theorem prodG_log {bases bs es : List Int} (h : ∀ es : List Int, Cg g.P (PX g (bases.zip es)) (Ex g g.G (dot bs es))) (hl : bases.length = es.length) : (prodG g bases es).2 = true ∧ Cg g.P (prodG g bases es).1 (Ex g g.G (dot bs es)) ∧ 0 ≤ (prodG g bases es).1 ∧ (prodG g bases es).1 < g.P := by
  have hg := gv_of hv
  have hP := hg.okP.1
  unfold prodG
  rw [if_pos ⟨hg.okP, hg.okQ, hl⟩]
  have h1 : 0 ≤ (1 % g.P) ∧ 1 % g.P < g.P := ⟨Int.emod_nonneg _ (by omega), Int.emod_lt_of_pos _ (by omega)⟩
  refine ⟨rfl, ?_, prodL_range hg _ _ h1⟩
  have h2 := prodL_cg hg (bases.zip es) (1 % g.P)
  have h3 := (Cg.mod g.P 1).mul (Cg.refl g.P (PX g (bases.zip es)))
  rw [Int.one_mul] at h3
  exact h2.trans (h3.trans (h es))
theorem Ex_eq {a b : Int} (h : g.Q ∣ a - b) : Ex g g.G a = Ex g g.G b := Ex_cong (mod_of_dvd h)
theorem Ex_dvd {a b : Int} (h : Cg g.P (Ex g g.G a) (Ex g g.G b)) : g.Q ∣ a - b := dvd_of_mod (Ex_inj hv (El.gen (gv_of hv)) (gen_ne hv) h)
theorem pow_log {x k a : Int} (hx : Cg g.P x (Ex g g.G a)) : Cg g.P (powerG g x k) (Ex g g.G (a * k)) := by
  have hg := gv_of hv
  exact (powerG_cg hg x k).trans ((Ex_cg hx k).trans (Ex_mul hg (El.gen hg) a k).symm)
end
theorem overQ_dvd {s : Stp} (hv : validG s.g = true) {a b : Int} (hb : b % s.g.Q ≠ 0) : s.g.Q ∣ overQ s a b * b - a := by
  obtain ⟨⟨k, hk⟩, _⟩ := inv_Q hv hb
  obtain ⟨l, hl⟩ := mulM_dvd (gv_of hv).okQ (a := a) (b := powM s.g.Q b (-1))
  have e : overQ s a b = mulM s.g.Q a (powM s.g.Q b (-1)) := rfl
  rw [e]
  exact ⟨l * b + a * k, by grind⟩
theorem overQ_range {s : Stp} (hv : validG s.g = true) (a b : Int) : 0 ≤ overQ s a b ∧ overQ s a b < s.g.Q := mulM_range _ _ _ (gv_of hv).okQ
end TpA
namespace TpA
open FdSpec FdPoly GrLaw GrPr TkSpec
theorem lessQ_range {s : Stp} (hv : validG s.g = true) (a b : Int) : 0 ≤ lessQ s a b ∧ lessQ s a b < s.g.Q := subM_range _ _ _ (gv_of hv).okQ
theorem range_eq {q a b : Int} (h : q ∣ a - b) (ha : 0 ≤ a ∧ a < q) (hb : 0 ≤ b ∧ b < q) : a = b := by
  have := mod_of_dvd h
  rwa [Int.emod_eq_of_lt ha.1 ha.2, Int.emod_eq_of_lt hb.1 hb.2] at this
theorem nums_mem {s : Stp} {m : Int} {l : List Int} (h : numsM s m l = true) : ∀ x ∈ l, m ≤ x ∧ x < s.g.Q := by
  intro x hx
  have := List.all_eq_true.mp h x hx
  simpa using this
theorem getD_mem {l : List Int} {i : Nat} (h : i < l.length) : l.getD i 0 ∈ l := by
  rw [List.getD_eq_getElem?_getD, List.getElem?_eq_getElem h]; exact List.getElem_mem h
theorem zip_map_getD {a b : List Int} (f : Int → Int → Int) {i : Nat} (ha : i < a.length) (hb : i < b.length) : ((a.zip b).map fun p => f p.1 p.2).getD i 0 = f (a.getD i 0) (b.getD i 0) := by
  rw [List.getD_eq_getElem?_getD, List.getD_eq_getElem?_getD, List.getD_eq_getElem?_getD, List.getElem?_map, List.getElem?_eq_getElem ha, List.getElem?_eq_getElem hb, List.getElem?_eq_getElem (by rw [List.length_zip]; omega), List.getElem_zip]
  rfl
end TpA
namespace TpA
open FdSpec FdPoly GrLaw GrPr TkSpec
theorem dot_nil_right (bs : List Int) : dot bs [] = 0 := by cases bs <;> rfl
theorem foldl_dot {q : Int} (hq : okN q) : ∀ (es bs : List Int) (o : Int), q ∣ (es.zip bs).foldl (fun o p => addM q o (mulM q p.1 p.2)) o - (o + dot bs es)
  | [], bs, o => by simp [dot_nil_right]
  | e :: es, [], o => by simp [dot]
  | e :: es, b :: bs, o => by
    rw [List.zip_cons_cons, List.foldl_cons, dot]
    obtain ⟨k, hk⟩ := foldl_dot hq es bs (addM q o (mulM q e b))
    obtain ⟨l, hl⟩ := addM_dvd hq (a := o) (b := mulM q e b)
    obtain ⟨n, hn⟩ := mulM_dvd hq (a := e) (b := b)
    exact ⟨k + l + n, by grind⟩
theorem foldl_range {q : Int} (hq : okN q) : ∀ (l : List (Int × Int)) (o : Int), (0 ≤ o ∧ o < q) → 0 ≤ l.foldl (fun o p => addM q o (mulM q p.1 p.2)) o ∧ l.foldl (fun o p => addM q o (mulM q p.1 p.2)) o < q
  | [], o, h => h
  | p :: l, o, _ => by rw [List.foldl_cons]; exact foldl_range hq l _ (addM_range _ _ _ hq)
theorem logM_eq (s : Stp) (m : Mir) (attrs : List Int) : logM s m attrs = ((expsM attrs).zip m.bases).foldl (fun o p => addM s.g.Q o (mulM s.g.Q p.1 p.2)) 0 := rfl
structure Md (g : Grp) (m : Mir) (s : Stp) : Prop where
  eg : s.g = g
  v : validG s.g = true
  vs : validS s = true
  len : s.bases.length = m.bases.length
  b2 : 2 ≤ m.bases.length
  log : ∀ es : List Int, Cg s.g.P (PX s.g (s.bases.zip es)) (Ex s.g s.g.G (dot m.bases es))
  rng : ∀ b ∈ m.bases, 1 ≤ b ∧ b < s.g.Q
theorem PX_map {g : Grp} (hv : validG g = true) : ∀ (ms es : List Int), Cg g.P (PX g ((ms.map (powerG g g.G)).zip es)) (Ex g g.G (dot ms es))
  | [], es => by simp [PX, dot, Ex_zero]; exact Cg.refl _ _
  | m :: ms, [] => by simp [PX, dot, Ex_zero]; exact Cg.refl _ _
  | m :: ms, e :: es => by
    have hg := gv_of hv
    rw [List.map_cons, List.zip_cons_cons, PX, dot]
    have h3 : Cg g.P (Ex g (powerG g g.G m) e) (Ex g g.G (m * e)) := (Ex_cg (powerG_cg hg g.G m) e).trans (Ex_mul hg (El.gen hg) m e).symm
    exact (h3.mul (PX_map hv ms es)).trans (Ex_add hg (El.gen hg) _ _).symm
theorem powG_el {g : Grp} (hv : validG g = true) (k : Int) : El g (powerG g g.G k) := ((El.gen (gv_of hv)).ex k).cg (powerG_cg (gv_of hv) _ _)
theorem el_range {g : Grp} (hv : validG g = true) {x : Int} (hx : El g x) (h0 : 0 ≤ x) (h1 : x < g.P) : 1 ≤ x := by
  have hg := gv_of hv
  have q0 := hg.q0
  apply Classical.byContradiction
  intro hc
  have e : x = 0 := by omega
  have h2 : Cg g.P (x ^ g.Q.toNat) 1 := hx
  rw [e, Int.zero_pow (by omega)] at h2
  have h3 : g.P ∣ 0 - 1 := h2
  have h4 : g.P ∣ 1 := by obtain ⟨k, hk⟩ := h3; exact ⟨-k, by grind⟩
  have := Int.le_of_dvd (by omega) h4
  have := hg.p
  omega
theorem el_elem {g : Grp} (hv : validG g = true) {x : Int} (hx : El g x) (h0 : 0 ≤ x) (h1 : x < g.P) : elemG g x = true := by
  have hg := gv_of hv
  unfold elemG
  have h2 := el_range hv hx h0 h1
  have h3 : pw g.P x g.Q.toNat = 1 := by
    have h4 := Cg.emod (show Cg g.P (x ^ g.Q.toNat) 1 from hx)
    rw [Int.emod_eq_of_lt (a := 1) (by omega) (by have := hg.q0; have := hg.p; omega)] at h4
    exact h4
  simp [h2, h1, hv, h3]
theorem powG_elem {g : Grp} (hv : validG g = true) (k : Int) : elemG g (powerG g g.G k) = true := by
  have := powerG_range (gv_of hv) g.G k
  exact el_elem hv (powG_el hv k) this.1 this.2
theorem powG_one {g : Grp} (hv : validG g = true) (k : Int) : powerG g g.G k = 1 ↔ k % g.Q = 0 := by
  have hg := gv_of hv
  have hc := powerG_cg hg g.G k
  constructor
  · intro h
    rw [h] at hc
    have h2 : Cg g.P (Ex g g.G k) (Ex g g.G 0) := by rw [Ex_zero]; exact hc.symm
    have := mod_of_dvd (Ex_dvd hv h2)
    simpa using this
  · intro h
    have e : Ex g g.G k = Ex g g.G 0 := Ex_cong (by simpa using h)
    rw [powerG_eq hg, e, Ex_zero, Int.emod_eq_of_lt (by omega) (by have := hg.q0; have := hg.p; omega)]
theorem made_md {g : Grp} {m : Mir} (h : (makeM g m).2 = true) : Md g m (makeM g m).1 := by
  unfold makeM at h ⊢
  split at h
  · rename_i h0
    rw [if_pos h0]
    simp only [Bool.and_eq_true, decide_eq_true_eq, Bool.not_eq_true'] at h0
    obtain ⟨⟨⟨⟨hv, h2⟩, h7⟩, hb⟩, hbl⟩ := h0
    have hr : ∀ b ∈ m.bases, 1 ≤ b ∧ b < g.Q := by
      intro b hm
      have := List.any_eq_false.mp hb b hm
      unfold badN at this
      simp at this
      omega
    have hbr : 1 ≤ m.blind ∧ m.blind < g.Q := by unfold badN at hbl; simp at hbl; omega
    have ho : ∀ b, (1 ≤ b ∧ b < g.Q) → otherM g (powerG g g.G b) = true := by
      intro b hb
      unfold otherM
      have h3 : powerG g g.G b ≠ 1 := fun h3 => by
        have := (powG_one hv b).mp h3
        rw [Int.emod_eq_of_lt (by omega) hb.2] at this
        omega
      simp [h3, powG_elem hv b]
    refine ⟨rfl, hv, ?_, by simp, h2, fun es => PX_map hv m.bases es, hr⟩
    unfold validS
    have h3 : (m.bases.map (powerG g g.G)).all (otherM g) = true := List.all_eq_true.mpr fun x hx => by
      obtain ⟨b, hb, rfl⟩ := List.mem_map.mp hx
      exact ho b (hr b hb)
    simp [hv, h2, h7, h3, ho m.blind hbr]
  · cases h
section
variable {g : Grp} {m : Mir} {s : Stp} (h : Md g m s)
include h
theorem Md.log_dvd (attrs : List Int) : s.g.Q ∣ logM s m attrs - dot m.bases (expsM attrs) := by
  have := foldl_dot (gv_of h.v).okQ (expsM attrs) m.bases 0
  rwa [Int.zero_add] at this
theorem Md.log_range (attrs : List Int) : 0 ≤ logM s m attrs ∧ logM s m attrs < s.g.Q := by
  rw [logM_eq]
  exact foldl_range (gv_of h.v).okQ _ 0 ⟨by omega, by have := (gv_of h.v).q0; omega⟩
def fineA (s : Stp) (attrs : List Int) : Bool := decide (attrs.length + 1 = s.bases.length) && numsM s 0 attrs && !decide (attrs.headD 0 = 0)
theorem Md.marks (attrs : List Int) : (fineA s attrs = false → markM s attrs = (0, false)) ∧ (fineA s attrs = true → markM s attrs = (powerG s.g s.g.G (logM s m attrs), true)) := by
  have e : (validS s && decide (attrs.length + 1 = s.bases.length) && numsM s 0 attrs && !decide (attrs.headD 0 = 0)) = fineA s attrs := by unfold fineA; rw [h.vs]; simp [Bool.and_assoc]
  constructor
  · intro hf
    unfold markM; rw [e, hf]; rfl
  · intro hf
    unfold markM
    rw [e, hf, if_pos rfl]
    have hl : s.bases.length = (expsM attrs).length := by unfold fineA at hf; simp at hf; show _ = attrs.length + 1; omega
    obtain ⟨_, h1, h2, h3⟩ := prodG_log h.v h.log hl
    have h4 := powerG_range (gv_of h.v) s.g.G (logM s m attrs)
    have h5 : (prodG s.g s.bases (expsM attrs)).1 = powerG s.g s.g.G (logM s m attrs) := by
      refine Cg.eq (P := s.g.P) ?_ ⟨h2, h3⟩ h4
      refine h1.trans (Cg.trans ?_ (powerG_cg (gv_of h.v) _ _).symm)
      rw [Ex_eq h.v (a := logM s m attrs) (h.log_dvd attrs)]
      exact Cg.refl _ _
    rw [h5]
theorem Md.usable (attrs : List Int) : (usableM s attrs).2 = (fineA s attrs && !decide (logM s m attrs = 0)) := by
  unfold usableM
  cases hf : fineA s attrs with
  | false => rw [(h.marks attrs).1 hf]; rfl
  | true =>
    rw [(h.marks attrs).2 hf]
    have h1 := h.log_range attrs
    have h2 : powerG s.g s.g.G (logM s m attrs) = 1 ↔ logM s m attrs = 0 := by
      rw [powG_one h.v, Int.emod_eq_of_lt h1.1 h1.2]
    show (true && !decide (powerG s.g s.g.G (logM s m attrs) = 1)) = _
    rw [decide_eq_decide.mpr h2]
end
end TpA
namespace TpA
open FdSpec FdPoly GrLaw GrPr TkSpec
theorem dvd_iff_eq {q a b : Int} (ha : 0 ≤ a ∧ a < q) (hb : 0 ≤ b ∧ b < q) : q ∣ a - b ↔ a = b := ⟨fun h => range_eq h ha hb, fun h => ⟨0, by omega⟩⟩
theorem eq_iff {g : Grp} (hv : validG g = true) {x y a b : Int} (hx : Cg g.P x (Ex g g.G a)) (hy : Cg g.P y (Ex g g.G b)) (rx : 0 ≤ x ∧ x < g.P) (ry : 0 ≤ y ∧ y < g.P) : x = y ↔ g.Q ∣ a - b := by
  constructor
  · intro h
    subst h
    exact Ex_dvd hv (hx.symm.trans hy)
  · intro h
    refine Cg.eq (P := g.P) ?_ rx ry
    rw [Ex_eq hv h] at hx
    exact hx.trans hy.symm
theorem signed_iff {s : Stp} (hv : validG s.g = true) {key m c r : Int} {o : Off} {x μ z a b : Int} (hk : Cg s.g.P key (Ex s.g s.g.G x)) (hm : Cg s.g.P m (Ex s.g s.g.G μ)) (hz : Cg s.g.P o.z (Ex s.g s.g.G z)) (ha : Cg s.g.P o.a (Ex s.g s.g.G a)) (hb : Cg s.g.P o.b (Ex s.g s.g.G b)) :
    signedM s key m c r o = true ↔ s.g.Q ∣ r - (x * c + a) ∧ s.g.Q ∣ μ * r - (z * c + b) := by
  have hg := gv_of hv
  unfold signedM
  rw [Bool.and_eq_true, decide_eq_true_eq, decide_eq_true_eq]
  have t1 : ∀ k y : Int, timesM s k [y] = timesG s.g k y := fun _ _ => rfl
  rw [t1, t1]
  show (powerG s.g s.g.G r = timesG s.g (powerG s.g key c) o.a ∧ _) ↔ _
  rw [eq_iff hv (powerG_cg hg s.g.G r) ((timesG_cg hg _ _).trans (((pow_log hv hk).mul ha).trans (Ex_add hg (El.gen hg) _ _).symm)) (powerG_range hg _ _) (timesG_range hg _ _)]
  rw [eq_iff hv (pow_log hv hm) ((timesG_cg hg _ _).trans (((pow_log hv hz).mul hb).trans (Ex_add hg (El.gen hg) _ _).symm)) (powerG_range hg _ _) (timesG_range hg _ _)]
theorem public_log {g : Grp} {m : Mir} {s : Stp} (h : Md g m s) {x : Int} (hx : 1 ≤ x ∧ x < s.g.Q) : publicM s x = powerG s.g s.g.G x ∧ keyM s (publicM s x) = true := by
  have e : publicM s x = powerG s.g s.g.G x := by
    unfold publicM genM
    rw [if_pos]
    have hn : numsM s 1 [x] = true := by unfold numsM; simp [hx.1, hx.2]
    rw [h.vs, hn]; rfl
  refine ⟨e, ?_⟩
  rw [e]
  unfold keyM elementsM
  have h1 : powerG s.g s.g.G x ≠ 1 := fun h1 => by
    have := (powG_one h.v x).mp h1
    rw [Int.emod_eq_of_lt (by omega) hx.2] at this
    omega
  simp [h1, powG_elem h.v x]
end TpA
namespace TpA
open FdSpec FdPoly GrLaw GrPr TkSpec
theorem nums_one {s : Stp} {m x : Int} : numsM s m [x] = true ↔ m ≤ x ∧ x < s.g.Q := by unfold numsM; simp
theorem elem_log {g : Grp} (hv : validG g = true) {x a : Int} (hx : Cg g.P x (Ex g g.G a)) (r : 0 ≤ x ∧ x < g.P) : elemG g x = true :=
  el_elem hv (((El.gen (gv_of hv)).ex a).cg hx) r.1 r.2
theorem one_iff {g : Grp} (hv : validG g = true) {x a : Int} (hx : Cg g.P x (Ex g g.G a)) (r : 0 ≤ x ∧ x < g.P) : x = 1 ↔ a % g.Q = 0 := by
  have hg := gv_of hv
  have h1 : Cg g.P 1 (Ex g g.G 0) := by rw [Ex_zero]; exact Cg.refl _ _
  rw [eq_iff hv hx h1 r ⟨by omega, by have := hg.q0; have := hg.p; omega⟩, Int.sub_zero]
  exact ⟨Int.emod_eq_zero_of_dvd, Int.dvd_of_emod_eq_zero⟩
theorem mul_ne {g : Grp} (hv : validG g = true) {a b : Int} (ha : a % g.Q ≠ 0) (hb : b % g.Q ≠ 0) : (a * b) % g.Q ≠ 0 := fun h => (zero_Q hv h).elim ha hb
theorem small_ne {q a : Int} (h : 1 ≤ a ∧ a < q) : a % q ≠ 0 := by rw [Int.emod_eq_of_lt (by omega) h.2]; omega
theorem timesM_one (s : Stp) (a b : Int) : timesM s a [b] = timesG s.g a b := rfl
theorem times_log {g : Grp} (hv : validG g = true) {x y a b : Int} (hx : Cg g.P x (Ex g g.G a)) (hy : Cg g.P y (Ex g g.G b)) : Cg g.P (timesG g x y) (Ex g g.G (a + b)) :=
  (timesG_cg (gv_of hv) x y).trans ((hx.mul hy).trans (Ex_add (gv_of hv) (El.gen (gv_of hv)) a b).symm)
theorem log_mod {g : Grp} (hv : validG g = true) {x a b : Int} (hx : Cg g.P x (Ex g g.G a)) (h : g.Q ∣ a - b) : Cg g.P x (Ex g g.G b) := by rwa [Ex_eq hv h] at hx
structure Hon (g : Grp) (m : Mir) (s : Stp) (attrs : List Int) (b : Bld) (x w : Int) : Prop where
  md : Md g m s
  us : (usableM s attrs).2 = true
  bl : blindsM s b = true
  hx : 1 ≤ x ∧ x < s.g.Q
  hw : 0 ≤ w ∧ w < s.g.Q
section
variable {g : Grp} {m : Mir} {s : Stp} {attrs : List Int} {b : Bld} {x w : Int}
theorem Md.us_facts (h : Md g m s) (hu : (usableM s attrs).2 = true) : fineA s attrs = true ∧ logM s m attrs % s.g.Q ≠ 0 ∧ (usableM s attrs).1 = powerG s.g s.g.G (logM s m attrs) := by
  have h1 := h.usable attrs
  rw [hu] at h1
  have h2 := Bool.and_eq_true _ _ |>.mp h1.symm
  have h3 := h.log_range attrs
  refine ⟨h2.1, ?_, ?_⟩
  · rw [Int.emod_eq_of_lt h3.1 h3.2]
    simpa using h2.2
  · unfold usableM
    rw [(h.marks attrs).2 h2.1]
theorem blinds_iff : blindsM s b = true ↔ (1 ≤ b.s ∧ b.s < s.g.Q) ∧ (1 ≤ b.u ∧ b.u < s.g.Q) ∧ (0 ≤ b.v ∧ b.v < s.g.Q) ∧ b.ys.length = s.bases.length ∧ numsM s 0 b.ys = true := by
  unfold blindsM numsM
  simp
  constructor
  · rintro ⟨⟨⟨⟨h1, h2⟩, h3⟩, h4⟩, h5⟩; exact ⟨h1, h2, h3, h4, h5⟩
  · rintro ⟨h1, h2, h3, h4, h5⟩; exact ⟨⟨⟨⟨h1, h2⟩, h3⟩, h4⟩, h5⟩
variable (h : Hon g m s attrs b x w)
include h
theorem Hon.offer : proposeM s x attrs w = (⟨powerG s.g (usableM s attrs).1 x, powerG s.g s.g.G w, powerG s.g (usableM s attrs).1 w⟩, 0) := by
  unfold proposeM genM
  rw [h.us, nums_one.mpr h.hx, nums_one.mpr h.hw]; rfl
theorem Hon.ask_logs {T : Tkt} (hT : T = askTkt s attrs (proposeM s x attrs w).1 b) :
    let A := logM s m attrs
    Cg s.g.P T.mark (Ex s.g s.g.G (A * b.s)) ∧ Cg s.g.P T.first (Ex s.g s.g.G (dot m.bases b.ys)) ∧ Cg s.g.P T.z (Ex s.g s.g.G (A * x * b.s)) ∧ Cg s.g.P T.a (Ex s.g s.g.G (w * b.u + b.v)) ∧ Cg s.g.P T.b (Ex s.g s.g.G (A * w * (b.s * b.u) + A * b.s * b.v)) ∧
    (0 ≤ T.mark ∧ T.mark < s.g.P) ∧ (0 ≤ T.first ∧ T.first < s.g.P) ∧ (0 ≤ T.z ∧ T.z < s.g.P) ∧ (0 ≤ T.a ∧ T.a < s.g.P) ∧ (0 ≤ T.b ∧ T.b < s.g.P) := by
  have hv := h.md.v
  have hg := gv_of hv
  obtain ⟨_, _, eM⟩ := h.md.us_facts h.us
  have hM : Cg s.g.P (usableM s attrs).1 (Ex s.g s.g.G (logM s m attrs)) := by rw [eM]; exact powerG_cg hg _ _
  rw [h.offer] at hT
  subst hT
  obtain ⟨_, b2, _, b4, _⟩ := blinds_iff.mp h.bl
  have hp := prodG_log hv h.md.log (es := b.ys) b4.symm
  have hmark := pow_log hv (k := b.s) hM
  unfold askTkt
  simp only [timesM_one]
  refine ⟨hmark, hp.2.1, pow_log hv (pow_log hv hM), times_log hv (pow_log hv (powerG_cg hg s.g.G w)) (powerG_cg hg s.g.G b.v), ?_, powerG_range hg _ _, hp.2.2, powerG_range hg _ _, timesG_range hg _ _, timesG_range hg _ _⟩
  refine log_mod hv (times_log hv (pow_log hv (pow_log hv hM)) (pow_log hv hmark)) ?_
  obtain ⟨k, hk⟩ := mulM_dvd hg.okQ (a := b.s) (b := b.u)
  have e : mulQ s b.s [b.u] = mulM s.g.Q b.s b.u := rfl
  rw [e]
  exact ⟨logM s m attrs * w * k, by grind⟩
theorem Hon.fine : askFine s (publicM s x) attrs (proposeM s x attrs w).1 b = true := by
  have hv := h.md.v
  have hg := gv_of hv
  obtain ⟨_, hA, eM⟩ := h.md.us_facts h.us
  have hM : Cg s.g.P (usableM s attrs).1 (Ex s.g s.g.G (logM s m attrs)) := by rw [eM]; exact powerG_cg hg _ _
  unfold askFine
  rw [h.us, (public_log h.md h.hx).2, h.offer, h.bl]
  have h1 : elemG s.g (powerG s.g (usableM s attrs).1 x) = true := elem_log hv (pow_log hv hM) (powerG_range hg _ _)
  have h2 : elemG s.g (powerG s.g (usableM s attrs).1 w) = true := elem_log hv (pow_log hv hM) (powerG_range hg _ _)
  have h3 : powerG s.g (usableM s attrs).1 x ≠ 1 := fun h3 => mul_ne hv hA (small_ne h.hx) ((one_iff hv (pow_log hv hM) (powerG_range hg _ _)).mp h3)
  unfold elementsM
  simp [h1, h2, h3, powG_elem hv w]
theorem Hon.err : askErr s (publicM s x) attrs (proposeM s x attrs w).1 b = if innerQ s (askTkt s attrs (proposeM s x attrs w).1 b) = 0 then 7 else 0 := by
  unfold askErr; rw [if_pos h.fine]
theorem Hon.chal : s.g.Q ∣ askC s attrs (proposeM s x attrs w).1 b * b.u - innerQ s (askTkt s attrs (proposeM s x attrs w).1 b) ∧ 0 ≤ askC s attrs (proposeM s x attrs w).1 b ∧ askC s attrs (proposeM s x attrs w).1 b < s.g.Q := by
  obtain ⟨_, b2, _⟩ := blinds_iff.mp h.bl
  exact ⟨overQ_dvd h.md.v (small_ne b2), overQ_range h.md.v _ _⟩
theorem Hon.grant {c : Int} (hc : 0 ≤ c ∧ c < s.g.Q) : s.g.Q ∣ grantM s x w c - (c * x + w) ∧ 0 ≤ grantM s x w c ∧ grantM s x w c < s.g.Q := by
  have hg := gv_of h.md.v
  have e : grantM s x w c = addM s.g.Q (mulM s.g.Q c x) w := by
    unfold grantM
    have : numsM s 0 [w, c] = true := by unfold numsM; simp [h.hw.1, h.hw.2, hc.1, hc.2]
    rw [h.md.vs, nums_one.mpr h.hx, this]; rfl
  rw [e]
  obtain ⟨k, hk⟩ := addM_dvd hg.okQ (a := mulM s.g.Q c x) (b := w)
  obtain ⟨l, hl⟩ := mulM_dvd hg.okQ (a := c) (b := x)
  exact ⟨⟨k + l, by grind⟩, addM_range _ _ _ hg.okQ⟩
theorem Hon.signed {r : Int} (hr : 0 ≤ r ∧ r < s.g.Q) {c : Int} (hc : 0 ≤ c ∧ c < s.g.Q) : signedM s (publicM s x) (usableM s attrs).1 c r (proposeM s x attrs w).1 = true ↔ r = grantM s x w c := by
  have hv := h.md.v
  have hg := gv_of hv
  obtain ⟨_, hA, eM⟩ := h.md.us_facts h.us
  have hM : Cg s.g.P (usableM s attrs).1 (Ex s.g s.g.G (logM s m attrs)) := by rw [eM]; exact powerG_cg hg _ _
  have hk : Cg s.g.P (publicM s x) (Ex s.g s.g.G x) := by rw [(public_log h.md h.hx).1]; exact powerG_cg hg _ _
  have e := h.offer
  rw [signed_iff (o := (proposeM s x attrs w).1) (z := logM s m attrs * x) (a := w) (b := logM s m attrs * w) hv hk hM (by rw [e]; exact pow_log hv hM) (by rw [e]; exact powerG_cg hg _ _) (by rw [e]; exact pow_log hv hM)]
  obtain ⟨⟨k, hk⟩, hgr⟩ := h.grant hc
  rw [← dvd_iff_eq hr hgr]
  constructor
  · rintro ⟨⟨l, hl⟩, _⟩
    exact ⟨l - k, by grind⟩
  · rintro ⟨l, hl⟩
    refine ⟨⟨l + k, by grind⟩, ⟨logM s m attrs * (l + k), ?_⟩⟩
    have e1 : r = c * x + w + s.g.Q * (l + k) := by grind
    rw [e1]; grind
end
end TpA
namespace TpA
open FdSpec FdPoly GrLaw GrPr TkSpec
section
variable {g : Grp} {m : Mir} {s : Stp} {attrs : List Int} {b : Bld} {x w : Int} (h : Hon g m s attrs b x w)
include h
theorem Hon.finish (hi : innerQ s (askTkt s attrs (proposeM s x attrs w).1 b) ≠ 0) (r : Int) : finishM s (publicM s x) attrs (proposeM s x attrs w).1 b r =
    if 0 ≤ r ∧ r < s.g.Q then (if r = grantM s x w (askC s attrs (proposeM s x attrs w).1 b) then ({ askTkt s attrs (proposeM s x attrs w).1 b with r := plusQ s (mulQ s r [b.u]) b.v }, 0) else (zT, 14)) else (zT, 1) := by
  unfold finishM
  rw [h.err, if_neg hi, if_neg (by simp)]
  by_cases hr : 0 ≤ r ∧ r < s.g.Q
  · rw [if_pos hr, nums_one.mpr hr]
    have h1 := h.signed hr h.chal.2
    by_cases e : r = grantM s x w (askC s attrs (proposeM s x attrs w).1 b)
    · rw [if_pos e, h1.mpr e]; rfl
    · rw [if_neg e]
      have : signedM s (publicM s x) (usableM s attrs).1 (askC s attrs (proposeM s x attrs w).1 b) r (proposeM s x attrs w).1 = false := by
        cases h2 : signedM s (publicM s x) (usableM s attrs).1 (askC s attrs (proposeM s x attrs w).1 b) r (proposeM s x attrs w).1 with
        | false => rfl
        | true => exact absurd (h1.mp h2) e
      rw [this]; rfl
  · rw [if_neg hr]
    have : numsM s 0 [r] = false := by
      cases h2 : numsM s 0 [r] with
      | false => rfl
      | true => exact absurd (nums_one.mp h2) hr
    rw [this]; rfl
theorem Hon.use_ok {d : Int} (hd : 1 ≤ d ∧ d < s.g.Q) : useM s attrs b d = (⟨d, ((expsM attrs).zip b.ys).map fun p => plusQ s p.2 (mulQ s d [b.s, p.1])⟩, true) := by
  unfold useM
  rw [h.us, h.bl, nums_one.mpr hd]; rfl
theorem Hon.use_no {d : Int} (hd : ¬ (1 ≤ d ∧ d < s.g.Q)) : (useM s attrs b d).2 = false := by
  unfold useM
  have : numsM s 1 [d] = false := by
    cases h2 : numsM s 1 [d] with
    | false => rfl
    | true => exact absurd (nums_one.mp h2) hd
  rw [this]; simp
theorem Hon.lens : (expsM attrs).length = s.bases.length ∧ b.ys.length = s.bases.length := by
  obtain ⟨hf, _⟩ := h.md.us_facts h.us
  obtain ⟨_, _, _, b4, _⟩ := blinds_iff.mp h.bl
  refine ⟨?_, b4⟩
  unfold fineA at hf
  simp at hf
  show attrs.length + 1 = _
  omega
theorem Hon.ans {d : Int} : s.g.Q ∣ dot m.bases (((expsM attrs).zip b.ys).map fun p => plusQ s p.2 (mulQ s d [b.s, p.1])) - (dot m.bases b.ys + d * b.s * dot m.bases (expsM attrs)) := by
  have hg := gv_of h.md.v
  obtain ⟨h1, h2⟩ := h.lens
  have hl := h.md.len
  have key : ∀ bs es ys : List Int, es.length = bs.length → ys.length = bs.length → s.g.Q ∣ dot bs ((es.zip ys).map fun p => plusQ s p.2 (mulQ s d [b.s, p.1])) - (dot bs ys + d * b.s * dot bs es) := by
    intro bs
    induction bs with
    | nil => intro es ys _ _; simp [dot]
    | cons β bs ih =>
      intro es ys he hy
      cases es with
      | nil => simp at he
      | cons e es =>
        cases ys with
        | nil => simp at hy
        | cons y ys =>
          obtain ⟨k, hk⟩ := ih es ys (by simpa using he) (by simpa using hy)
          rw [List.zip_cons_cons, List.map_cons, dot, dot, dot]
          have e0 : plusQ s y (mulQ s d [b.s, e]) = addM s.g.Q y (mulM s.g.Q (mulM s.g.Q d b.s) e) := rfl
          rw [e0]
          obtain ⟨k1, h1⟩ := addM_dvd hg.okQ (a := y) (b := mulM s.g.Q (mulM s.g.Q d b.s) e)
          obtain ⟨k2, h2⟩ := mulM_dvd hg.okQ (a := mulM s.g.Q d b.s) (b := e)
          obtain ⟨k3, h3⟩ := mulM_dvd hg.okQ (a := d) (b := b.s)
          generalize addM s.g.Q y (mulM s.g.Q (mulM s.g.Q d b.s) e) = Y at *
          generalize mulM s.g.Q (mulM s.g.Q d b.s) e = Z at *
          generalize mulM s.g.Q d b.s = W at *
          have e1 : W = d * b.s + s.g.Q * k3 := by grind
          have e2 : Z = d * b.s * e + s.g.Q * (k3 * e + k2) := by rw [e1] at h2; grind
          have e3 : Y = y + d * b.s * e + s.g.Q * (k1 + k3 * e + k2) := by grind
          refine ⟨β * (k1 + k3 * e + k2) + k, ?_⟩
          rw [e3]; grind
  exact key _ _ _ (by omega) (by omega)
end
end TpA
namespace TpA
open FdSpec FdPoly GrLaw GrPr TkSpec
section
variable {g : Grp} {m : Mir} {s : Stp} {attrs : List Int} {b : Bld} {x w : Int} (h : Hon g m s attrs b x w)
include h
end
end TpA
namespace TpA
open FdSpec FdPoly GrLaw GrPr TkSpec
theorem list_eq {a c : List Int} (hl : a.length = c.length) (h : ∀ i, i < c.length → a.getD i 0 = c.getD i 0) : a = c := by
  refine List.ext_getElem hl fun i h1 h2 => ?_
  have := h i h2
  rwa [List.getD_eq_getElem?_getD, List.getD_eq_getElem?_getD, List.getElem?_eq_getElem h1, List.getElem?_eq_getElem h2] at this
section
variable {g : Grp} {m : Mir} {s : Stp} {attrs : List Int} {b : Bld} {x w : Int} (h : Hon g m s attrs b x w)
include h
end
end TpA
namespace TpA
open FdSpec FdPoly GrLaw GrPr TkSpec
theorem addM_e {q a b : Int} (hq : okN q) : ∃ k, addM q a b = a + b + q * k := by obtain ⟨k, hk⟩ := addM_dvd hq (a := a) (b := b); exact ⟨k, by omega⟩
theorem subM_e {q a b : Int} (hq : okN q) : ∃ k, subM q a b = a - b + q * k := by obtain ⟨k, hk⟩ := subM_dvd hq (a := a) (b := b); exact ⟨k, by omega⟩
theorem mulM_e {q a b : Int} (hq : okN q) : ∃ k, mulM q a b = a * b + q * k := by obtain ⟨k, hk⟩ := mulM_dvd hq (a := a) (b := b); exact ⟨k, by omega⟩
theorem overQ_e {s : Stp} (hv : validG s.g = true) {a b : Int} (hb : b % s.g.Q ≠ 0) : ∃ k, overQ s a b * b = a + s.g.Q * k := by obtain ⟨k, hk⟩ := overQ_dvd hv (a := a) hb; exact ⟨k, by omega⟩
theorem dot_less {s : Stp} (hv : validG s.g = true) (d n : Int) : ∀ bs es xs : List Int, es.length = bs.length → xs.length = bs.length → s.g.Q ∣ dot bs ((es.zip xs).map fun p => lessQ s p.2 (mulQ s d [n, p.1])) - (dot bs xs - d * n * dot bs es)
  | [], es, xs, _, _ => by simp [dot]
  | β :: bs, e :: es, y :: ys, he, hy => by
    have hq := (gv_of hv).okQ
    obtain ⟨k, hk⟩ := dot_less hv d n bs es ys (by simpa using he) (by simpa using hy)
    rw [List.zip_cons_cons, List.map_cons, dot, dot, dot]
    have e0 : lessQ s y (mulQ s d [n, e]) = subM s.g.Q y (mulM s.g.Q (mulM s.g.Q d n) e) := rfl
    rw [e0]
    obtain ⟨k1, h1⟩ := subM_e hq (a := y) (b := mulM s.g.Q (mulM s.g.Q d n) e)
    obtain ⟨k2, h2⟩ := mulM_e hq (a := mulM s.g.Q d n) (b := e)
    obtain ⟨k3, h3⟩ := mulM_e hq (a := d) (b := n)
    rw [h1, h2, h3]
    exact ⟨β * (k1 - k2 - k3 * e) + k, by grind⟩
  | _ :: _, [], _, h, _ => by simp at h
  | _ :: _, _ :: _, [], _, h => by simp at h
structure Oth (g : Grp) (m : Mir) (s : Stp) (attrs : List Int) (w n : Int) : Prop where
  us : (usableM s attrs).2 = true
  hw : 0 ≤ w ∧ w < s.g.Q
  hn : 1 ≤ n ∧ n < s.g.Q
section
variable {g : Grp} {m : Mir} {s : Stp} {attrs attrs' : List Int} {b : Bld} {x w w' n : Int}
def hT (s : Stp) (attrs : List Int) (b : Bld) (x w : Int) : Tkt :=
  { askTkt s attrs (proposeM s x attrs w).1 b with r := plusQ s (mulQ s (grantM s x w (askC s attrs (proposeM s x attrs w).1 b)) [b.u]) b.v }
def hSes (s : Stp) (attrs : List Int) (b : Bld) (x w : Int) : Ses := ⟨attrs, (proposeM s x attrs w).1, askC s attrs (proposeM s x attrs w).1 b, grantM s x w (askC s attrs (proposeM s x attrs w).1 b)⟩
def oSes (s : Stp) (attrs' : List Int) (x w' n : Int) : Ses := ⟨attrs', (proposeM s x attrs' w').1, n, grantM s x w' n⟩
def eB (s : Stp) (m : Mir) (attrs attrs' : List Int) (b : Bld) (x w w' n d : Int) : Bld := explB s m (hSes s attrs b x w) b (oSes s attrs' x w' n) d (hT s attrs b x w) (useM s attrs b d).1
theorem eB_blinds (h : Hon g m s attrs b x w) (o : Oth g m s attrs' w' n) (hi : innerQ s (askTkt s attrs (proposeM s x attrs w).1 b) ≠ 0) (hir : 0 ≤ innerQ s (askTkt s attrs (proposeM s x attrs w).1 b) ∧ innerQ s (askTkt s attrs (proposeM s x attrs w).1 b) < s.g.Q) {d : Int} (hd : 1 ≤ d ∧ d < s.g.Q) :
    blindsM s (eB s m attrs attrs' b x w w' n d) = true := by
  have hv := h.md.v
  have hg := gv_of hv
  have hq := hg.okQ
  obtain ⟨b1, b2, b3, b4, b5⟩ := blinds_iff.mp h.bl
  obtain ⟨_, hA, _⟩ := h.md.us_facts h.us
  obtain ⟨hf', hA', _⟩ := h.md.us_facts o.us
  have hl' : attrs'.length + 1 = s.bases.length := by unfold fineA at hf'; simp at hf'; omega
  have pos : ∀ {y : Int}, (0 ≤ y ∧ y < s.g.Q) → y % s.g.Q ≠ 0 → 1 ≤ y ∧ y < s.g.Q := fun hy hne => ⟨by
    rcases Int.lt_or_eq_of_le hy.1 with h1 | h1
    · omega
    · subst h1; simp at hne, hy.2⟩
  rw [blinds_iff]
  refine ⟨pos (overQ_range hv _ _) ?_, pos (overQ_range hv _ _) ?_, lessQ_range hv _ _, ?_, ?_⟩
  · intro h0
    obtain ⟨k, hk⟩ := overQ_e hv (a := mulQ s b.s [logM s m attrs]) hA'
    have e1 : mulQ s b.s [logM s m attrs] = mulM s.g.Q b.s (logM s m attrs) := rfl
    obtain ⟨k1, h1⟩ := mulM_e hq (a := b.s) (b := logM s m attrs)
    obtain ⟨k2, h2⟩ := Int.dvd_of_emod_eq_zero h0
    have h2 : overQ s (mulQ s b.s [logM s m attrs]) (logM s m attrs') = s.g.Q * k2 := h2
    rw [h2, e1, h1] at hk
    exact mul_ne hv (small_ne b1) hA (Int.emod_eq_zero_of_dvd ⟨k2 * logM s m attrs' - k - k1, by grind⟩)
  · intro h0
    obtain ⟨k, hk⟩ := overQ_e hv (a := innerQ s (hT s attrs b x w)) (small_ne o.hn)
    obtain ⟨k2, h2⟩ := Int.dvd_of_emod_eq_zero h0
    have h2 : overQ s (innerQ s (hT s attrs b x w)) n = s.g.Q * k2 := h2
    rw [h2] at hk
    have hi2 : innerQ s (hT s attrs b x w) % s.g.Q = 0 := Int.emod_eq_zero_of_dvd ⟨k2 * n - k, by grind⟩
    have e2 : innerQ s (hT s attrs b x w) = innerQ s (askTkt s attrs (proposeM s x attrs w).1 b) := rfl
    rw [e2, Int.emod_eq_of_lt hir.1 hir.2] at hi2
    exact hi hi2
  · show (((expsM attrs').zip (useM s attrs b d).1.answers).map _).length = _
    rw [List.length_map, List.length_zip, h.use_ok hd]
    show min (attrs'.length + 1) (((expsM attrs).zip b.ys).map _).length = _
    obtain ⟨h1, h2⟩ := h.lens
    rw [List.length_map, List.length_zip]
    omega
  · refine List.all_eq_true.mpr fun y hy => ?_
    obtain ⟨p, _, rfl⟩ := List.mem_map.mp hy
    have := lessQ_range hv p.2 (mulQ s d [explS s m (hSes s attrs b x w) b (oSes s attrs' x w' n), p.1])
    simp; exact this
end
end TpA
namespace TpA
open FdSpec FdPoly GrLaw GrPr TkSpec
section
variable {g : Grp} {m : Mir} {s : Stp} {attrs attrs' : List Int} {b : Bld} {x w w' n : Int}
theorem eB_hon (h : Hon g m s attrs b x w) (o : Oth g m s attrs' w' n) {b' : Bld} (hb : blindsM s b' = true) : Hon g m s attrs' b' x w' := ⟨h.md, o.us, hb, h.hx, o.hw⟩
theorem eB_eqs (h : Hon g m s attrs b x w) (o : Oth g m s attrs' w' n) {d : Int} (hd : 1 ≤ d ∧ d < s.g.Q) :
    let B := eB s m attrs attrs' b x w w' n d
    let c := innerQ s (askTkt s attrs (proposeM s x attrs w).1 b)
    s.g.Q ∣ B.s * logM s m attrs' - b.s * logM s m attrs ∧ s.g.Q ∣ B.u * n - c ∧ s.g.Q ∣ w' * B.u + B.v - (w * b.u + b.v) ∧ s.g.Q ∣ dot m.bases B.ys - dot m.bases b.ys := by
  have hv := h.md.v
  have hg := gv_of hv
  have hq := hg.okQ
  obtain ⟨b1, b2, b3, b4, b5⟩ := blinds_iff.mp h.bl
  obtain ⟨_, hA, _⟩ := h.md.us_facts h.us
  obtain ⟨hf', hA', _⟩ := h.md.us_facts o.us
  obtain ⟨l1, l2⟩ := h.lens
  have hl' : attrs'.length + 1 = s.bases.length := by unfold fineA at hf'; simp at hf'; omega
  have hS : s.g.Q ∣ explS s m (hSes s attrs b x w) b (oSes s attrs' x w' n) * logM s m attrs' - b.s * logM s m attrs := by
    obtain ⟨k, hk⟩ := overQ_e hv (a := mulQ s b.s [logM s m attrs]) hA'
    obtain ⟨k1, h1⟩ := mulM_e hq (a := b.s) (b := logM s m attrs)
    have e1 : mulQ s b.s [logM s m attrs] = mulM s.g.Q b.s (logM s m attrs) := rfl
    have hk : explS s m (hSes s attrs b x w) b (oSes s attrs' x w' n) * logM s m attrs' = mulQ s b.s [logM s m attrs] + s.g.Q * k := hk
    rw [e1, h1] at hk
    exact ⟨k + k1, by grind⟩
  have hU : s.g.Q ∣ overQ s (innerQ s (hT s attrs b x w)) n * n - innerQ s (askTkt s attrs (proposeM s x attrs w).1 b) := overQ_dvd hv (small_ne o.hn)
  refine ⟨hS, hU, ?_, ?_⟩
  · obtain ⟨⟨k1, h1⟩, hc⟩ := h.chal
    obtain ⟨⟨k2, h2⟩, _⟩ := h.grant hc
    have hno : 0 ≤ n ∧ n < s.g.Q := ⟨by have := o.hn; omega, o.hn.2⟩
    obtain ⟨k3, h3⟩ : ∃ k, grantM s x w' n = n * x + w' + s.g.Q * k := by
      have e : grantM s x w' n = addM s.g.Q (mulM s.g.Q n x) w' := by
        unfold grantM
        have : numsM s 0 [w', n] = true := by unfold numsM; simp [o.hw.1, o.hw.2, hno.1, hno.2]
        rw [h.md.vs, nums_one.mpr h.hx, this]; rfl
      obtain ⟨k, hk⟩ := addM_e hq (a := mulM s.g.Q n x) (b := w')
      obtain ⟨l, hl⟩ := mulM_e hq (a := n) (b := x)
      exact ⟨k + l, by rw [e, hk, hl]; grind⟩
    obtain ⟨k4, h4⟩ := hU
    show s.g.Q ∣ w' * overQ s (innerQ s (hT s attrs b x w)) n + subM s.g.Q (addM s.g.Q (mulM s.g.Q (grantM s x w (askC s attrs (proposeM s x attrs w).1 b)) b.u) b.v) (mulM s.g.Q (grantM s x w' n) (overQ s (innerQ s (hT s attrs b x w)) n)) - (w * b.u + b.v)
    generalize overQ s (innerQ s (hT s attrs b x w)) n = U' at *
    generalize innerQ s (askTkt s attrs (proposeM s x attrs w).1 b) = c at *
    generalize grantM s x w (askC s attrs (proposeM s x attrs w).1 b) = r at *
    generalize askC s attrs (proposeM s x attrs w).1 b = nn at *
    generalize grantM s x w' n = r' at *
    obtain ⟨k5, h5⟩ := mulM_e hq (a := r) (b := b.u)
    obtain ⟨k6, h6⟩ := addM_e hq (a := mulM s.g.Q r b.u) (b := b.v)
    obtain ⟨k7, h7⟩ := mulM_e hq (a := r') (b := U')
    obtain ⟨k8, h8⟩ := subM_e hq (a := addM s.g.Q (mulM s.g.Q r b.u) b.v) (b := mulM s.g.Q r' U')
    rw [h8, h6, h5, h7]
    have e1 : r = nn * x + w + s.g.Q * k2 := by omega
    have e2 : nn * b.u = c + s.g.Q * k1 := by omega
    have e3 : U' * n = c + s.g.Q * k4 := by omega
    have e4 : r * b.u = x * c + w * b.u + s.g.Q * (x * k1 + k2 * b.u) := by
      have : r * b.u = x * (nn * b.u) + w * b.u + s.g.Q * (k2 * b.u) := by rw [e1]; grind
      rw [this, e2]; grind
    have e5 : r' * U' = x * c + w' * U' + s.g.Q * (x * k4 + k3 * U') := by
      have : r' * U' = x * (U' * n) + w' * U' + s.g.Q * (k3 * U') := by rw [h3]; grind
      rw [this, e3]; grind
    rw [e4, e5]
    exact ⟨x * k1 + k2 * b.u + k5 + k6 - (x * k4 + k3 * U') - k7 + k8, by grind⟩
  · have hx : (useM s attrs b d).1.answers = ((expsM attrs).zip b.ys).map fun p => plusQ s p.2 (mulQ s d [b.s, p.1]) := by rw [h.use_ok hd]
    have hml := h.md.len
    obtain ⟨k1, h1⟩ := dot_less hv d (explS s m (hSes s attrs b x w) b (oSes s attrs' x w' n)) m.bases (expsM attrs') (useM s attrs b d).1.answers (by show attrs'.length + 1 = _; omega) (by rw [hx, List.length_map, List.length_zip]; omega)
    obtain ⟨k2, h2⟩ := h.ans (d := d)
    obtain ⟨k3, h3⟩ := h.md.log_dvd attrs
    obtain ⟨k4, h4⟩ := h.md.log_dvd attrs'
    obtain ⟨k5, h5⟩ := hS
    rw [← hx] at h2
    show s.g.Q ∣ dot m.bases (((expsM attrs').zip (useM s attrs b d).1.answers).map fun p => lessQ s p.2 (mulQ s d [explS s m (hSes s attrs b x w) b (oSes s attrs' x w' n), p.1])) - dot m.bases b.ys
    generalize dot m.bases (((expsM attrs').zip (useM s attrs b d).1.answers).map fun p => lessQ s p.2 (mulQ s d [explS s m (hSes s attrs b x w) b (oSes s attrs' x w' n), p.1])) = Y' at *
    generalize dot m.bases (useM s attrs b d).1.answers = X at *
    generalize explS s m (hSes s attrs b x w) b (oSes s attrs' x w' n) = S' at *
    generalize dot m.bases (expsM attrs) = Z at *
    generalize dot m.bases (expsM attrs') = Z' at *
    generalize logM s m attrs = A at *
    generalize logM s m attrs' = A' at *
    have e1 : A = Z + s.g.Q * k3 := by omega
    have e2 : A' = Z' + s.g.Q * k4 := by omega
    rw [e1, e2] at h5
    have e3 : S' * Z' = b.s * Z + s.g.Q * (b.s * k3 + k5 - S' * k4) := by grind
    have e4 : d * S' * Z' = d * (S' * Z') := Int.mul_assoc _ _ _
    have e5 : d * b.s * Z = d * (b.s * Z) := Int.mul_assoc _ _ _
    have e6 : Y' = X - d * (S' * Z') + s.g.Q * k1 := by rw [← e4]; omega
    have e7 : X = dot m.bases b.ys + d * (b.s * Z) + s.g.Q * k2 := by rw [← e5]; omega
    rw [e6, e7, e3]
    exact ⟨k2 + k1 - d * (b.s * k3 + k5 - S' * k4), by grind⟩
theorem ask_same (h : Hon g m s attrs b x w) {b' : Bld} (h' : Hon g m s attrs' b' x w') (e1 : s.g.Q ∣ b'.s * logM s m attrs' - b.s * logM s m attrs) (e2 : s.g.Q ∣ w' * b'.u + b'.v - (w * b.u + b.v)) (e3 : s.g.Q ∣ dot m.bases b'.ys - dot m.bases b.ys) :
    askTkt s attrs' (proposeM s x attrs' w').1 b' = askTkt s attrs (proposeM s x attrs w).1 b := by
  have hv := h.md.v
  obtain ⟨l1, l2, l3, l4, l5, r1, r2, r3, r4, r5⟩ := h.ask_logs rfl
  obtain ⟨m1, m2, m3, m4, m5, p1, p2, p3, p4, p5⟩ := h'.ask_logs rfl
  obtain ⟨k1, h1⟩ := e1
  obtain ⟨k2, h2⟩ := e2
  have f1 := (eq_iff hv m1 l1 p1 r1).mpr ⟨k1, by grind⟩
  have f2 := (eq_iff hv m2 l2 p2 r2).mpr e3
  have f3 := (eq_iff hv m3 l3 p3 r3).mpr ⟨x * k1, by grind⟩
  have f4 := (eq_iff hv m4 l4 p4 r4).mpr ⟨k2, by grind⟩
  have f5 := (eq_iff hv m5 l5 p5 r5).mpr (by
    generalize logM s m attrs = A at *
    generalize logM s m attrs' = A' at *
    have q1 : A' * w' * (b'.s * b'.u) + A' * b'.s * b'.v = (b'.s * A') * (w' * b'.u + b'.v) := by grind
    have q2 : A * w * (b.s * b.u) + A * b.s * b.v = (b.s * A) * (w * b.u + b.v) := by grind
    have q3 : b'.s * A' = b.s * A + s.g.Q * k1 := by omega
    have q4 : w' * b'.u + b'.v = w * b.u + b.v + s.g.Q * k2 := by omega
    rw [q1, q2, q3, q4]
    exact ⟨b.s * A * k2 + k1 * (w * b.u + b.v + s.g.Q * k2), by grind⟩)
  have f6 : (askTkt s attrs' (proposeM s x attrs' w').1 b').r = (askTkt s attrs (proposeM s x attrs w).1 b).r := rfl
  generalize askTkt s attrs' (proposeM s x attrs' w').1 b' = T' at *
  generalize askTkt s attrs (proposeM s x attrs w).1 b = T at *
  obtain ⟨a1, a2, a3, a4, a5, a6⟩ := T'
  obtain ⟨c1, c2, c3, c4, c5, c6⟩ := T
  simp only at f1 f2 f3 f4 f5 f6
  rw [f1, f2, f3, f4, f5, f6]
end
end TpA
namespace TpA
open FdSpec FdPoly GrLaw GrPr TkSpec
section
variable {g : Grp} {m : Mir} {s : Stp} {attrs attrs' : List Int} {b : Bld} {x w w' n : Int}
theorem obtains_iff (h' : Hon g m s attrs' b x w') (hn : 1 ≤ n ∧ n < s.g.Q) (hi : innerQ s (askTkt s attrs' (proposeM s x attrs' w').1 b) ≠ 0) :
    obtainedM s (publicM s x) (oSes s attrs' x w' n) b = if s.g.Q ∣ n * b.u - innerQ s (askTkt s attrs' (proposeM s x attrs' w').1 b) then
      ({ askTkt s attrs' (proposeM s x attrs' w').1 b with r := plusQ s (mulQ s (grantM s x w' n) [b.u]) b.v }, true) else (zT, false) := by
  have hv := h'.md.v
  obtain ⟨_, b2, _⟩ := blinds_iff.mp h'.bl
  obtain ⟨⟨k, hk⟩, hc⟩ := h'.chal
  have e0 : askErr s (publicM s x) (oSes s attrs' x w' n).attrs (oSes s attrs' x w' n).offer b = 0 := by
    show askErr s (publicM s x) attrs' (proposeM s x attrs' w').1 b = 0
    rw [h'.err, if_neg hi]
  have e1 : (askM s (publicM s x) (oSes s attrs' x w' n).attrs (oSes s attrs' x w' n).offer b).1 = askC s attrs' (proposeM s x attrs' w').1 b := by
    unfold askM
    rw [e0]; rfl
  unfold obtainedM
  rw [e0, e1]
  show (if decide ((0 : Int) = 0) && decide (askC s attrs' (proposeM s x attrs' w').1 b = n) then _ else _) = _
  by_cases hd : s.g.Q ∣ n * b.u - innerQ s (askTkt s attrs' (proposeM s x attrs' w').1 b)
  · have en : askC s attrs' (proposeM s x attrs' w').1 b = n := by
      obtain ⟨l, hl⟩ := hd
      refine range_eq ?_ hc ⟨by omega, hn.2⟩
      refine cancel_Q hv (small_ne b2) ⟨k - l, ?_⟩
      grind
    rw [if_pos hd, en]
    simp only [decide_true, Bool.and_self, if_true]
    have hf := h'.finish hi (grantM s x w' n)
    have hr := (h'.grant (c := n) ⟨by omega, hn.2⟩).2
    rw [if_pos hr, en, if_pos rfl] at hf
    show ((finishM s (publicM s x) attrs' (proposeM s x attrs' w').1 b (grantM s x w' n)).1, decide ((finishM s (publicM s x) attrs' (proposeM s x attrs' w').1 b (grantM s x w' n)).2 = 0)) = _
    rw [hf]; rfl
  · have en : askC s attrs' (proposeM s x attrs' w').1 b ≠ n := by
      intro en
      rw [en] at hk
      exact hd ⟨k, hk⟩
    rw [if_neg hd]
    simp [en]
theorem eB_obtains (h : Hon g m s attrs b x w) (o : Oth g m s attrs' w' n) (hi : innerQ s (askTkt s attrs (proposeM s x attrs w).1 b) ≠ 0) (hir : 0 ≤ innerQ s (askTkt s attrs (proposeM s x attrs w).1 b) ∧ innerQ s (askTkt s attrs (proposeM s x attrs w).1 b) < s.g.Q) {d : Int} (hd : 1 ≤ d ∧ d < s.g.Q) :
    obtainedM s (publicM s x) (oSes s attrs' x w' n) (eB s m attrs attrs' b x w w' n d) = (hT s attrs b x w, true) := by
  have hv := h.md.v
  have hg := gv_of hv
  have hb := eB_blinds h o hi hir hd
  have h' := eB_hon h o hb
  obtain ⟨q1, q2, q3, q4⟩ := eB_eqs h o hd
  have hs := ask_same h h' q1 q3 q4
  rw [obtains_iff h' o.hn (by rw [hs]; exact hi), hs, if_pos (by rw [Int.mul_comm]; exact q2)]
  have er : plusQ s (mulQ s (grantM s x w' n) [(eB s m attrs attrs' b x w w' n d).u]) (eB s m attrs attrs' b x w w' n d).v = (hT s attrs b x w).r := by
    refine range_eq ?_ (addM_range _ _ _ hg.okQ) (addM_range _ _ _ hg.okQ)
    have hq := hg.okQ
    show s.g.Q ∣ addM s.g.Q (mulM s.g.Q (grantM s x w' n) (eB s m attrs attrs' b x w w' n d).u) (subM s.g.Q (hT s attrs b x w).r (mulM s.g.Q (grantM s x w' n) (eB s m attrs attrs' b x w w' n d).u)) - (hT s attrs b x w).r
    generalize mulM s.g.Q (grantM s x w' n) (eB s m attrs attrs' b x w w' n d).u = M
    obtain ⟨k1, h1⟩ := subM_e hq (a := (hT s attrs b x w).r) (b := M)
    obtain ⟨k2, h2⟩ := addM_e hq (a := M) (b := subM s.g.Q (hT s attrs b x w).r M)
    rw [h2, h1]
    exact ⟨k1 + k2, by grind⟩
  rw [er]; rfl
end
end TpA
namespace TpA
open FdSpec FdPoly GrLaw GrPr TkSpec
section
variable {g : Grp} {m : Mir} {s : Stp} {attrs attrs' : List Int} {b : Bld} {x w w' n : Int}
theorem use_at (h : Hon g m s attrs b x w) {d : Int} (hd : 1 ≤ d ∧ d < s.g.Q) {i : Nat} (hi : i < s.bases.length) : (useM s attrs b d).1.answers.getD i 0 = plusQ s (b.ys.getD i 0) (mulQ s d [b.s, (expsM attrs).getD i 0]) ∧ (0 ≤ (useM s attrs b d).1.answers.getD i 0 ∧ (useM s attrs b d).1.answers.getD i 0 < s.g.Q) := by
  obtain ⟨h1, h2⟩ := h.lens
  have e : (useM s attrs b d).1.answers.getD i 0 = plusQ s (b.ys.getD i 0) (mulQ s d [b.s, (expsM attrs).getD i 0]) := by
    rw [h.use_ok hd]
    exact zip_map_getD (fun e y => plusQ s y (mulQ s d [b.s, e])) (by omega) (by omega)
  exact ⟨e, e ▸ addM_range _ _ _ (gv_of h.md.v).okQ⟩
theorem use_len (h : Hon g m s attrs b x w) {d : Int} (hd : 1 ≤ d ∧ d < s.g.Q) : (useM s attrs b d).1.answers.length = s.bases.length := by
  obtain ⟨h1, h2⟩ := h.lens
  rw [h.use_ok hd]
  show (((expsM attrs).zip b.ys).map _).length = _
  rw [List.length_map, List.length_zip]; omega
theorem eB_spend (h : Hon g m s attrs b x w) (o : Oth g m s attrs' w' n) {d : Int} (hd : 1 ≤ d ∧ d < s.g.Q) (hb : blindsM s (eB s m attrs attrs' b x w w' n d) = true) :
    useM s attrs' (eB s m attrs attrs' b x w w' n d) d = useM s attrs b d := by
  have hg := gv_of h.md.v
  have hq := hg.okQ
  have h' := eB_hon h o hb
  have l1 := use_len h hd
  have l2 := use_len h' hd
  obtain ⟨p1, p2⟩ := h'.lens
  have ea : (useM s attrs' (eB s m attrs attrs' b x w w' n d) d).1.answers = (useM s attrs b d).1.answers := by
    refine list_eq (by omega) fun i hi => ?_
    obtain ⟨u1, u2⟩ := use_at h hd (i := i) (by omega)
    obtain ⟨v1, v2⟩ := use_at h' hd (i := i) (by omega)
    refine range_eq ?_ v2 u2
    rw [v1]
    have ey : (eB s m attrs attrs' b x w w' n d).ys.getD i 0 = lessQ s ((useM s attrs b d).1.answers.getD i 0) (mulQ s d [(eB s m attrs attrs' b x w w' n d).s, (expsM attrs').getD i 0]) :=
      zip_map_getD (fun e y => lessQ s y (mulQ s d [(eB s m attrs attrs' b x w w' n d).s, e])) (by show i < (expsM attrs').length; omega) (by omega)
    rw [ey]
    generalize mulQ s d [(eB s m attrs attrs' b x w w' n d).s, (expsM attrs').getD i 0] = M
    generalize (useM s attrs b d).1.answers.getD i 0 = a
    obtain ⟨k1, h1⟩ := subM_e hq (a := a) (b := M)
    obtain ⟨k2, h2⟩ := addM_e hq (a := subM s.g.Q a M) (b := M)
    show s.g.Q ∣ addM s.g.Q (subM s.g.Q a M) M - a
    rw [h2, h1]
    exact ⟨k1 + k2, by grind⟩
  have e1 := h.use_ok hd
  have e2 := h'.use_ok hd
  rw [e1] at ea
  rw [e2] at ea ⊢
  rw [e1]
  simp only at ea
  rw [ea]
theorem eB_only (h : Hon g m s attrs b x w) (o : Oth g m s attrs' w' n) (hi : innerQ s (askTkt s attrs (proposeM s x attrs w).1 b) ≠ 0) {d : Int} (hd : 1 ≤ d ∧ d < s.g.Q) (hbl : blindsM s (eB s m attrs attrs' b x w w' n d) = true) {c : Bld}
    (hc : blindsM s c = true) (h1 : obtainedM s (publicM s x) (oSes s attrs' x w' n) c = (hT s attrs b x w, true)) (h2 : (useM s attrs' c d).1.answers = (useM s attrs b d).1.answers) :
    c = eB s m attrs attrs' b x w w' n d := by
  have hv := h.md.v
  have hg := gv_of hv
  have hq := hg.okQ
  have hB := eB_hon h o hbl
  have hC := eB_hon h o hc
  obtain ⟨c1, c2, c3, c4, c5⟩ := blinds_iff.mp hc
  obtain ⟨b1, b2, b3, b4, b5⟩ := blinds_iff.mp hbl
  obtain ⟨_, hA', _⟩ := h.md.us_facts o.us
  obtain ⟨⟨k1, q1⟩, ⟨k2, q2⟩, _, _⟩ := eB_eqs h o hd
  have hsp := eB_spend h o hd hbl
  by_cases hic : innerQ s (askTkt s attrs' (proposeM s x attrs' w').1 c) = 0
  · exfalso
    have e0 : askErr s (publicM s x) (oSes s attrs' x w' n).attrs (oSes s attrs' x w' n).offer c = 7 := by
      show askErr s (publicM s x) attrs' (proposeM s x attrs' w').1 c = 7
      rw [hC.err, if_pos hic]
    unfold obtainedM at h1
    rw [e0] at h1
    simp at h1
  · rw [obtains_iff hC o.hn hic] at h1
    split at h1
    · rename_i hdv
      have hT1 : { askTkt s attrs' (proposeM s x attrs' w').1 c with r := plusQ s (mulQ s (grantM s x w' n) [c.u]) c.v } = hT s attrs b x w := (Prod.mk.inj h1).1
      have em : (askTkt s attrs' (proposeM s x attrs' w').1 c).mark = (askTkt s attrs (proposeM s x attrs w).1 b).mark := by have := congrArg Tkt.mark hT1; exact this
      have ein : innerQ s (askTkt s attrs' (proposeM s x attrs' w').1 c) = innerQ s (askTkt s attrs (proposeM s x attrs w).1 b) := by
        have : innerQ s { askTkt s attrs' (proposeM s x attrs' w').1 c with r := plusQ s (mulQ s (grantM s x w' n) [c.u]) c.v } = innerQ s (hT s attrs b x w) := by rw [hT1]
        exact this
      have er : plusQ s (mulQ s (grantM s x w' n) [c.u]) c.v = (hT s attrs b x w).r := by have := congrArg Tkt.r hT1; exact this
      have es : c.s = (eB s m attrs attrs' b x w w' n d).s := by
        have m1 := (hC.ask_logs rfl).1
        have m2 := (h.ask_logs rfl).1
        rw [em] at m1
        obtain ⟨k, hk⟩ := Ex_dvd hv (m1.symm.trans m2)
        refine range_eq ?_ ⟨by omega, c1.2⟩ ⟨by omega, b1.2⟩
        refine cancel_Q hv hA' ⟨k - k1, ?_⟩
        grind
      have eu : c.u = (eB s m attrs attrs' b x w w' n d).u := by
        rw [ein] at hdv
        obtain ⟨k, hk⟩ := hdv
        refine range_eq ?_ ⟨by omega, c2.2⟩ ⟨by omega, b2.2⟩
        refine cancel_Q hv (small_ne o.hn) ⟨k - k2, ?_⟩
        grind
      have ev : c.v = (eB s m attrs attrs' b x w w' n d).v := by
        refine range_eq ?_ c3 b3
        rw [eu] at er
        show s.g.Q ∣ c.v - subM s.g.Q (hT s attrs b x w).r (mulM s.g.Q (grantM s x w' n) (eB s m attrs attrs' b x w w' n d).u)
        have er : addM s.g.Q (mulM s.g.Q (grantM s x w' n) (eB s m attrs attrs' b x w w' n d).u) c.v = (hT s attrs b x w).r := er
        generalize mulM s.g.Q (grantM s x w' n) (eB s m attrs attrs' b x w w' n d).u = M at *
        obtain ⟨j1, g1⟩ := subM_e hq (a := (hT s attrs b x w).r) (b := M)
        obtain ⟨j2, g2⟩ := addM_e hq (a := M) (b := c.v)
        rw [g1, ← er, g2]
        exact ⟨-j1 - j2, by grind⟩
      have ey : c.ys = (eB s m attrs attrs' b x w w' n d).ys := by
        refine list_eq (by omega) fun i hi => ?_
        obtain ⟨u1, _⟩ := use_at hC hd (i := i) (by omega)
        obtain ⟨v1, _⟩ := use_at hB hd (i := i) (by omega)
        rw [h2] at u1
        rw [hsp] at v1
        rw [es] at u1
        have e3 := u1.symm.trans v1
        have r1 := nums_mem c5 _ (getD_mem (i := i) (l := c.ys) (by omega))
        have r2 := nums_mem b5 _ (getD_mem (i := i) (by omega))
        refine range_eq ?_ r1 r2
        generalize mulQ s d [(eB s m attrs attrs' b x w w' n d).s, (expsM attrs').getD i 0] = M at *
        obtain ⟨j1, g1⟩ := addM_e hq (a := c.ys.getD i 0) (b := M)
        obtain ⟨j2, g2⟩ := addM_e hq (a := (eB s m attrs attrs' b x w w' n d).ys.getD i 0) (b := M)
        have e3 : addM s.g.Q (c.ys.getD i 0) M = addM s.g.Q ((eB s m attrs attrs' b x w w' n d).ys.getD i 0) M := e3
        rw [g1, g2] at e3
        exact ⟨j2 - j1, by grind⟩
      generalize eB s m attrs attrs' b x w w' n d = B at *
      obtain ⟨x1, x2, x3, x4⟩ := c
      obtain ⟨y1, y2, y3, y4⟩ := B
      simp only at es eu ev ey
      rw [es, eu, ev, ey]
    · simp at h1
end
end TpA
namespace TpA
open FdSpec FdPoly GrLaw GrPr TkSpec
theorem fine_hon {g : Grp} {m : Mir} {s : Stp} {attrs : List Int} {b : Bld} {x w : Int} (hmd : Md g m s) (hf : askFine s (publicM s x) attrs (proposeM s x attrs w).1 b = true) :
    Hon g m s attrs b x w ∧ (proposeM s x attrs w).2 = 0 := by
  unfold askFine at hf
  simp only [Bool.and_eq_true] at hf
  obtain ⟨⟨⟨⟨hu, hk⟩, he⟩, _⟩, hb⟩ := hf
  by_cases hc : ((usableM s attrs).2 && numsM s 1 [x] && numsM s 0 [w]) = true
  · have h0 : (proposeM s x attrs w).2 = 0 := by unfold proposeM; rw [if_pos hc]
    simp only [Bool.and_eq_true] at hc
    exact ⟨⟨hmd, hu, hb, nums_one.mp hc.1.2, nums_one.mp hc.2⟩, h0⟩
  · exfalso
    have e : (proposeM s x attrs w).1 = ⟨0, 0, 0⟩ := by unfold proposeM; rw [if_neg hc]
    rw [e] at he
    simp [elementsM, elemG] at he
theorem askErr_cases (s : Stp) (key : Int) (attrs : List Int) (o : Off) (b : Bld) : (askFine s key attrs o b = false ∧ askErr s key attrs o b = 1) ∨ (askFine s key attrs o b = true ∧ innerQ s (askTkt s attrs o b) = 0 ∧ askErr s key attrs o b = 7) ∨
    (askFine s key attrs o b = true ∧ innerQ s (askTkt s attrs o b) ≠ 0 ∧ askErr s key attrs o b = 0) := by
  unfold askErr
  cases askFine s key attrs o b with
  | false => exact .inl ⟨rfl, rfl⟩
  | true =>
    by_cases h : innerQ s (askTkt s attrs o b) = 0
    · exact .inr (.inl ⟨rfl, h, by simp [h]⟩)
    · exact .inr (.inr ⟨rfl, h, by simp [h]⟩)
end TpA
namespace Go.Proofs
open Go Go.Sh Go.RowKit FdSpec TkSpec CodeSpec
set_option linter.unusedSimpArgs false
set_option linter.unusedVariables false
set_option maxRecDepth 10000
section
variable {K : Value → World → Prop} {w w0 : World} {L : List (Addr × Value)}
theorem local_stpK {K : Value → World → Prop} {T' T2 : TypeId} (s : Stp) (ad : Option Addr) (m c : Nat) (hk : Kn w0 L w)
    (k : ∀ b W, Kn w0 (cellsOf L b 0 (stpC s (.slice ad m c))) W → Below w.heap.size w W → w.heap.size ≤ b → K (.pointer (some ⟨b, 0, none⟩)) W) :
    oM Tryz.prog (.alloc 32) T' [] (fun v w => oM Tryz.prog (.store 32 (.tmp 0) (.tmp 1)) T2 [v, stpV s (.slice ad m c)] (fun _ w => K v w) w) w :=
  local_kn al_stp rfl sz_stp rfl rfl (stp_one s ad m c) hk k
theorem spd_R {w : World} {s : Stp} {l : List Int} {b : Bld} {d : Int} {uv : Value} (hd : I64 d) (hu : Ints w uv (useM s l b d).1.answers) : SpdR w (useM s l b d).1 uv := by
  refine ⟨?_, hu⟩
  unfold useM
  split
  · exact hd
  · constructor <;> decide
end
end Go.Proofs
