/- Parts of the proof of the seat's statements (HJd, HJj, HC, ShelfD, CodeSpec, JcB, JcE): lemmas about the given translation and plain laws. No condition of their own. -/
import Derived.Test.YtefjibjojkjiiaaDoorRca
import Derived.Test.YtefjibjojkjiiaaDoorProg
import Derived.Shelf.Strings.Builder1
import Derived.Shelf.Small.Strs
import Derived.Shelf.Small.Wraps
import Derived.Shelf.Strings.BuilderF
import Derived.Shelf.Strings.BuilderK
import Derived.Shelf.Strconv.Atoi
import Derived.Shelf.Strconv.Itoa0
import Derived.Shelf.Strconv.Itoa1
import Derived.Shelf.LaysM
import Derived.Shelf.Strconv.Itoa2
import Derived.Shelf.Strconv.Itoa3
import Derived.Shelf.Strconv.AtoiErrFast
import Derived.Shelf.Strconv.ParseIntEmpty
import Derived.Shelf.Strconv.AtoiFail
import Derived.Shelf.Strconv.Clone
import Derived.Shelf.Strconv.SyntaxError
import Derived.Shelf.LaysC
import Derived.Shelf.Strconv.ToError
import Derived.Shelf.Strconv.Lower
import Derived.Shelf.Strconv.ParseUint10
import Derived.Shelf.Strconv.ParseUint10Empty
import Derived.Shelf.Strconv.ParseUint10Any
import Derived.Shelf.Strconv.ParseInt10
import Derived.Shelf.Strconv.AtoiLong
import Derived.Shelf.Strconv.AtoiInnerAll
import Derived.Shelf.Strconv.RangeError
import Derived.Shelf.Strconv.ToErrorRange
import Derived.Shelf.Strconv.AtoiAll
import Derived.Shelf.Strings.Search1
import Derived.Shelf.Strings.Prefix
import Derived.Test.YtefjibjojkjiiaaDoorRows
import Derived.Lib.ItoaNum
import Derived.Lib.AtoiAllCases
import Derived.Lib.Builder
import Derived.Lib.AppendStr
import Derived.Lib.AppendIntMem
set_option linter.all false
set_option linter.unusedVariables false
set_option maxRecDepth 100000
namespace Go.Proofs
open Go.Sh
def sh_48 (K : Value → World → Prop) (w : World) : Prop :=
 oM Tryd.prog (.makeMap 88 none) 88 [] (fun v1_1 w =>
 oM Tryd.prog (.makeMap 89 none) 89 [] (fun v2_2 w =>
 oM Tryd.prog (.build 92 #[(0, (.tmp 0)), (2, (.tmp 1))]) 92 [v1_1, v2_2] (fun v3_3 w =>
 oM Tryd.prog (.box 92 (.tmp 0)) 51 [v3_3] (fun v4_4 w =>
 K v4_4 w) w) w) w) w
theorem sh_48_eq (K : Value → World → Prop) (w : World) : sh_48 K w = code Tryd.prog (fun _ => 0) 5 (Tryd.f48.body.getD .skip) (slotsAt []) (retK Tryd.prog [.tmp 0] K) w := by kernel_rfl
theorem sh_48_ok {K : Value → World → Prop} {w : World} (h : sh_48 K w) : callM Tryd.prog 48 #[] K w :=
  calls_of_code (fun _ => 0) (fn := Tryd.f48) (rs := [.tmp 0]) Tryd.func48 rfl rfl (by kernel_rfl) (Nat.le_of_ble_eq_true rfl) ((sh_48_eq K w).mp h)
def sh_51 (a0 : Value) (a1 : Value) (K : Value → World → Prop) (w : World) : Prop :=
 oM Tryd.prog (.nilCheck (.tmp 0)) 0 [a0] (fun v6_1 w =>
 oM Tryd.prog (.fieldAddr 92 (.tmp 0) 0) 0 [v6_1] (fun v7_2 w =>
 oM Tryd.prog (.load 88 (.tmp 0)) 88 [v7_2] (fun v8_3 w =>
 oM Tryd.prog (.lookup 88 (.tmp 0) (.tmp 1) false) 100 [v8_3, a1] (fun v10_4 w =>
 oM Tryd.prog (.field 100 (.tmp 0) 0) 9 [v10_4] (fun v11_5 w =>
 oM Tryd.prog (.call (Go.Call.mk (.builtin .len) #[(.tmp 0)] #[9])) 3 [v11_5] (fun v12_6 w =>
 K v12_6 w) w) w) w) w) w) w
theorem sh_51_eq (a0 : Value) (a1 : Value) (K : Value → World → Prop) (w : World) : sh_51 a0 a1 K w = code Tryd.prog (fun _ => 0) 13 (Tryd.f51.body.getD .skip) (slotsAt [a0, a1]) (retK Tryd.prog [.tmp 4] K) w := by kernel_rfl
theorem sh_51_ok {a0 a1 : Value} {K : Value → World → Prop} {w : World} (h : sh_51 a0 a1 K w) : callM Tryd.prog 51 #[a0, a1] K w :=
  calls_of_code (fun _ => 0) (fn := Tryd.f51) (rs := [.tmp 4]) Tryd.func51 rfl rfl (by kernel_rfl) (Nat.le_of_ble_eq_true rfl) ((sh_51_eq a0 a1 K w).mp h)
def sh_52 (a0 : Value) (a1 : Value) (a2 : Value) (a3 : Value) (K : Value → World → Prop) (w : World) : Prop :=
 callM Tryd.prog 84 #[a0, a1] (fun v14_1 w =>
 oM Tryd.prog (.binOp .neq 54 (.tmp 0) (.const (.int .i64 0)) 54) 4 [v14_1] (fun v16_2 w =>
 condM v16_2
 (K (.tuple #[(.string ⟨#[]⟩), v14_1]) w)
 (oM Tryd.prog (.binOp .lss 3 (.tmp 0) (.tmp 1) 3) 4 [a2, (.int .i64 0)] (fun v19_3 w =>
 gdM (gd v19_3 false) (pureM a3) (fun v21_4 w =>
 gdM (gd v19_3 false) (oM Tryd.prog (.binOp .lss 3 (.tmp 0) (.tmp 1) 3) 4 [v21_4, (.int .i64 0)]) (fun v22_5 w =>
 oM Tryd.prog (.pick (.tmp 0) (.tmp 1) (.tmp 2)) 4 [v19_3, (.bool true), v22_5] (fun v23_6 w =>
 condM v23_6
 (K (.tuple #[(.string ⟨#[]⟩), (.int .i64 1)]) w)
 (oM Tryd.prog (.nilCheck (.tmp 0)) 0 [a0] (fun v25_7 w =>
 oM Tryd.prog (.fieldAddr 92 (.tmp 0) 0) 0 [v25_7] (fun v26_8 w =>
 oM Tryd.prog (.load 88 (.tmp 0)) 88 [v26_8] (fun v27_9 w =>
 oM Tryd.prog (.lookup 88 (.tmp 0) (.tmp 1) false) 100 [v27_9, a1] (fun v29_10 w =>
 oM Tryd.prog (.field 100 (.tmp 0) 0) 9 [v29_10] (fun v30_11 w =>
 oM Tryd.prog (.call (Go.Call.mk (.builtin .len) #[(.tmp 0)] #[9])) 3 [v30_11] (fun v34_12 w =>
 oM Tryd.prog (.call (Go.Call.mk (.builtin .min) #[(.tmp 0), (.tmp 1)] #[3, 3])) 3 [a2, v34_12] (fun v35_13 w =>
 oM Tryd.prog (.slice 9 (.tmp 0) (some (.tmp 1)) none none) 9 [v30_11, v35_13] (fun v36_14 w =>
 oM Tryd.prog (.call (Go.Call.mk (.builtin .len) #[(.tmp 0)] #[9])) 3 [v36_14] (fun v40_15 w =>
 oM Tryd.prog (.call (Go.Call.mk (.builtin .min) #[(.tmp 0), (.tmp 1)] #[3, 3])) 3 [a3, v40_15] (fun v41_16 w =>
 oM Tryd.prog (.slice 9 (.tmp 0) none (some (.tmp 1)) none) 9 [v36_14, v41_16] (fun v42_17 w =>
 K (.tuple #[v42_17, (.int .i64 0)]) w) w) w) w) w) w) w) w) w) w) w) w)) w) w) w) w)) w) w
theorem sh_52_eq (a0 : Value) (a1 : Value) (a2 : Value) (a3 : Value) (K : Value → World → Prop) (w : World) : sh_52 a0 a1 a2 a3 K w = code Tryd.prog (fun _ => 0) 43 (Tryd.f52.body.getD .skip) (slotsAt [a0, a1, a2, a3]) (retK Tryd.prog [.tmp 8, .tmp 9] K) w := by kernel_rfl
theorem sh_52_ok {a0 a1 a2 a3 : Value} {K : Value → World → Prop} {w : World} (h : sh_52 a0 a1 a2 a3 K w) : callM Tryd.prog 52 #[a0, a1, a2, a3] K w :=
  calls_of_code (fun _ => 0) (fn := Tryd.f52) (rs := [.tmp 8, .tmp 9]) Tryd.func52 rfl rfl (by kernel_rfl) (Nat.le_of_ble_eq_true rfl) ((sh_52_eq a0 a1 a2 a3 K w).mp h)
def sh_53 (a0 : Value) (a1 : Value) (a2 : Value) (a3 : Value) (K : Value → World → Prop) (w : World) : Prop :=
 callM Tryd.prog 85 #[a0] (fun v12_1 w =>
 callM Tryd.prog 86 #[a0, a1, a2, a3] (fun v17_2 w =>
 condM v12_1
 (oM Tryd.prog (.nilCheck (.tmp 0)) 0 [a0] (fun v21_3 w =>
 oM Tryd.prog (.fieldAddr 92 (.tmp 0) 6) 0 [v21_3] (fun v22_4 w =>
 oM Tryd.prog (.load 22 (.tmp 0)) 22 [v22_4] (fun v23_5 w =>
 callM Tryd.prog 62 #[a0, v23_5] (fun v24_6 w =>
 K (.int .i64 8) w) w) w) w) w)
 (K v17_2 w)) w) w
theorem sh_53_eq (a0 : Value) (a1 : Value) (a2 : Value) (a3 : Value) (K : Value → World → Prop) (w : World) : sh_53 a0 a1 a2 a3 K w = code Tryd.prog (fun _ => 0) 26 (Tryd.f53.body.getD .skip) (slotsAt [a0, a1, a2, a3]) (retK Tryd.prog [.tmp 8] K) w := by kernel_rfl
theorem sh_53_ok {a0 a1 a2 a3 : Value} {K : Value → World → Prop} {w : World} (h : sh_53 a0 a1 a2 a3 K w) : callM Tryd.prog 53 #[a0, a1, a2, a3] K w :=
  calls_of_code (fun _ => 0) (fn := Tryd.f53) (rs := [.tmp 8]) Tryd.func53 rfl rfl (by kernel_rfl) (Nat.le_of_ble_eq_true rfl) ((sh_53_eq a0 a1 a2 a3 K w).mp h)
def sh_62 (a0 : Value) (a1 : Value) (K : Value → World → Prop) (w : World) : Prop :=
 oM Tryd.prog (.nilCheck (.tmp 0)) 0 [a0] (fun v11_1 w =>
 oM Tryd.prog (.fieldAddr 92 (.tmp 0) 4) 0 [v11_1] (fun v12_2 w =>
 oM Tryd.prog (.load 4 (.tmp 0)) 4 [v12_2] (fun v13_3 w =>
 condM v13_3
 (K (.tuple #[]) w)
 (oM Tryd.prog (.nilCheck (.tmp 0)) 0 [a0] (fun v16_4 w =>
 oM Tryd.prog (.fieldAddr 92 (.tmp 0) 4) 0 [v16_4] (fun v17_5 w =>
 oM Tryd.prog (.store 4 (.tmp 0) (.tmp 1)) 0 [v17_5, (.bool true)] (fun _ w =>
 oM Tryd.prog (.nilCheck (.tmp 0)) 0 [a0] (fun v18_6 w =>
 oM Tryd.prog (.fieldAddr 92 (.tmp 0) 5) 0 [v18_6] (fun v19_7 w =>
 oM Tryd.prog (.store 3 (.tmp 0) (.tmp 1)) 0 [v19_7, (.int .i64 0)] (fun _ w =>
 oM Tryd.prog (.nilCheck (.tmp 0)) 0 [a0] (fun v21_8 w =>
 oM Tryd.prog (.fieldAddr 92 (.tmp 0) 1) 0 [v21_8] (fun v22_9 w =>
 oM Tryd.prog (.load 90 (.tmp 0)) 90 [v22_9] (fun v23_10 w =>
 oM Tryd.prog (.call (Go.Call.mk (.builtin .len) #[(.tmp 0)] #[90])) 3 [v23_10] (fun v24_11 w =>
 loopM [undef, undef, (.int .i64 0)] w (fun J_12 m_13 l_14 u_l_14 w0_l_14 => (fun w => (
 oM Tryd.prog (.binOp .lss 3 (.tmp 0) (.tmp 1) 3) 0 [(l_14.getD 2 undef), v24_11] (fun v26_15 w =>
 condM v26_15
 (joinM (fun M_16 => (oM Tryd.prog (.indexAddr 90 (.tmp 0) (.tmp 1)) 0 [v23_10, (l_14.getD 2 undef)] (fun v28_18 w =>
 oM Tryd.prog (.load 103 (.tmp 0)) 103 [v28_18] (fun v29_19 w =>
 oM Tryd.prog (.alloc 103) 0 [] (fun v5_20 w =>
 oM Tryd.prog (.store 103 (.tmp 0) (.tmp 1)) 0 [v5_20, v29_19] (fun _ w =>
 stageM w (fun C_21 w => (pureH a0 (upto C_21 1) (fun v30_22 =>
 oH Tryd.prog (.nilCheck (.tmp 0)) 0 [v30_22] (upto C_21 1) (fun v31_23 =>
 oH Tryd.prog (.fieldAddr 92 (.tmp 0) 0) 0 [v31_23] (upto C_21 1) (fun v32_24 =>
 oH Tryd.prog (.load 88 (.tmp 0)) 88 [v32_24] (upto C_21 1) (fun v33_25 =>
 oH Tryd.prog (.fieldAddr 103 (.tmp 0) 0) 0 [v5_20] (upto C_21 1) (fun v34_26 =>
 oH Tryd.prog (.load 3 (.tmp 0)) 3 [v34_26] (upto C_21 1) (fun v35_27 =>
 oH Tryd.prog (.lookup 88 (.tmp 0) (.tmp 1) false) 100 [v33_25, v35_27] (upto C_21 1) (fun v36_28 =>
 oH Tryd.prog (.fieldAddr 103 (.tmp 0) 1) 0 [v5_20] (upto C_21 2) (fun v37_29 =>
 oH Tryd.prog (.load 3 (.tmp 0)) 3 [v37_29] (upto C_21 2) (fun v38_30 =>
 oH Tryd.prog (.binOp .mul 3 (.tmp 0) (.tmp 1) 3) 3 [v38_30, (.int .i64 64)] (upto C_21 2) (fun v39_31 =>
 oM Tryd.prog (.alloc 100) 0 [] (fun v6_32 w => C_21 1 w ∧ (
 oM Tryd.prog (.store 100 (.tmp 0) (.tmp 1)) 0 [v6_32, v36_28] (fun _ w => C_21 2 w ∧ (
 C_21 3 w ∧ (oM Tryd.prog (.call (Go.Call.mk (.builtin .len) #[(.tmp 0)] #[22])) 3 [a1] (fun v41_34 w =>
 oM Tryd.prog (.binOp .eql 3 (.tmp 0) (.const (.int .i64 0)) 3) 4 [v41_34] (fun v42_35 w =>
 gdM (gd v42_35 false) (pureM a1) (fun v44_36 w =>
 gdM (gd v42_35 false) (pureM (l_14.getD 2 undef)) (fun v45_37 w =>
 gdM (gd v42_35 false) (pureM a1) (fun v46_38 w =>
 gdM (gd v42_35 false) (oM Tryd.prog (.call (Go.Call.mk (.builtin .len) #[(.tmp 0)] #[22])) 3 [v46_38]) (fun v47_39 w =>
 gdM (gd v42_35 false) (oM Tryd.prog (.binOp .rem 3 (.tmp 0) (.tmp 1) 3) 3 [v45_37, v47_39]) (fun v48_40 w =>
 gdM (gd v42_35 false) (oM Tryd.prog (.indexAddr 22 (.tmp 0) (.tmp 1)) 0 [v44_36, v48_40]) (fun v49_41 w =>
 gdM (gd v42_35 false) (oM Tryd.prog (.load 3 (.tmp 0)) 3 [v49_41]) (fun v50_42 w =>
 gdM (gd v42_35 false) (oM Tryd.prog (.binOp .and 3 (.tmp 0) (.tmp 1) 3) 3 [v50_42, (.int .i64 1)]) (fun v51_43 w =>
 gdM (gd v42_35 false) (oM Tryd.prog (.binOp .eql 3 (.tmp 0) (.const (.int .i64 0)) 3) 4 [v51_43]) (fun v52_44 w =>
 oM Tryd.prog (.pick (.tmp 0) (.tmp 1) (.tmp 2)) 4 [v42_35, (.bool true), v52_44] (fun v53_45 w =>
 gdM (gd v53_45 false) (pureM v39_31) (fun v55_46 w =>
 gdM (gd v53_45 false) (oM Tryd.prog (.fieldAddr 100 (.tmp 0) 0) 0 [v6_32]) (fun v56_47 w =>
 gdM (gd v53_45 false) (oM Tryd.prog (.load 9 (.tmp 0)) 9 [v56_47]) (fun v57_48 w =>
 gdM (gd v53_45 false) (oM Tryd.prog (.call (Go.Call.mk (.builtin .len) #[(.tmp 0)] #[9])) 3 [v57_48]) (fun v58_49 w =>
 gdM (gd v53_45 false) (oM Tryd.prog (.binOp .geq 3 (.tmp 0) (.tmp 1) 3) 4 [v55_46, v58_49]) (fun v59_50 w =>
 oM Tryd.prog (.pick (.tmp 0) (.tmp 1) (.tmp 2)) 4 [v53_45, (.bool true), v59_50] (fun v60_51 w =>
 condM v60_51
 (M_16 [(l_14.getD 2 undef), v39_31] w)
 (stageM w (fun C_52 w => (oH Tryd.prog (.fieldAddr 100 (.tmp 0) 1) 0 [v6_32] (upto C_52 0) (fun v61_53 =>
 oH Tryd.prog (.load 9 (.tmp 0)) 9 [v61_53] (upto C_52 0) (fun v62_54 =>
 pureH v39_31 (upto C_52 0) (fun v63_55 =>
 oH Tryd.prog (.fieldAddr 100 (.tmp 0) 0) 0 [v6_32] (upto C_52 0) (fun v64_56 =>
 oH Tryd.prog (.load 9 (.tmp 0)) 9 [v64_56] (upto C_52 0) (fun v65_57 =>
 pureH v39_31 (upto C_52 0) (fun v66_58 =>
 pureH v39_31 (upto C_52 0) (fun v67_59 =>
 oH Tryd.prog (.binOp .add 3 (.tmp 0) (.tmp 1) 3) 3 [v67_59, (.int .i64 64)] (upto C_52 0) (fun v68_60 =>
 oH Tryd.prog (.fieldAddr 100 (.tmp 0) 0) 0 [v6_32] (upto C_52 0) (fun v69_61 =>
 oH Tryd.prog (.load 9 (.tmp 0)) 9 [v69_61] (upto C_52 0) (fun v70_62 =>
 oH Tryd.prog (.call (Go.Call.mk (.builtin .len) #[(.tmp 0)] #[9])) 3 [v70_62] (upto C_52 0) (fun v71_63 =>
 oH Tryd.prog (.call (Go.Call.mk (.builtin .min) #[(.tmp 0), (.tmp 1)] #[3, 3])) 3 [v68_60, v71_63] (upto C_52 0) (fun v72_64 =>
 oH Tryd.prog (.slice 9 (.tmp 0) (some (.tmp 1)) (some (.tmp 2)) none) 9 [v65_57, v66_58, v72_64] (upto C_52 0) (fun v73_65 =>
 callM Tryd.prog 88 #[v62_54, v63_55, v73_65] (fun v74_66 w => C_52 1 w ∧ (
 oM Tryd.prog (.fieldAddr 100 (.tmp 0) 1) 0 [v6_32] (fun v75_67 w => C_52 2 w ∧ (
 oM Tryd.prog (.store 9 (.tmp 0) (.tmp 1)) 0 [v75_67, v74_66] (fun _ w => C_52 3 w ∧ (
 stageM w (fun C_68 w => (pureH a0 (upto C_68 0) (fun v76_69 =>
 oH Tryd.prog (.nilCheck (.tmp 0)) 0 [v76_69] (upto C_68 0) (fun v77_70 =>
 oH Tryd.prog (.fieldAddr 92 (.tmp 0) 0) 0 [v77_70] (upto C_68 0) (fun v78_71 =>
 oH Tryd.prog (.load 88 (.tmp 0)) 88 [v78_71] (upto C_68 0) (fun v79_72 =>
 oH Tryd.prog (.fieldAddr 103 (.tmp 0) 0) 0 [v5_20] (upto C_68 0) (fun v80_73 =>
 oH Tryd.prog (.load 3 (.tmp 0)) 3 [v80_73] (upto C_68 0) (fun v81_74 =>
 oH Tryd.prog (.load 100 (.tmp 0)) 100 [v6_32] (upto C_68 0) (fun v82_75 =>
 oM Tryd.prog (.mapUpdate 88 (.tmp 0) (.tmp 1) (.tmp 2)) 0 [v79_72, v81_74, v82_75] (fun _ w => C_68 1 w ∧ (
 M_16 [(l_14.getD 2 undef), v39_31] w)) w))))))))))) w)) w)) w))))))))))))))))) w) w) w) w) w) w) w) w) w) w) w) w) w) w) w) w) w) w))) w)) w))))))))))))) w) w) w) w))
 (fun l_17 u_l_17 w => (oM Tryd.prog (.binOp .add 3 (.tmp 0) (.tmp 1) 3) 3 [(l_14.getD 2 undef), (.int .i64 1)] (fun v83_76 w =>
 J_12 [(l_17.getD 0 undef), (l_17.getD 1 undef), v83_76] w ∧ m_13 [(l_17.getD 0 undef), (l_17.getD 1 undef), v83_76] w < m_13 l_14 w0_l_14) w)))
 (oM Tryd.prog (.nilCheck (.tmp 0)) 0 [a0] (fun v85_77 w =>
 oM Tryd.prog (.fieldAddr 92 (.tmp 0) 0) 0 [v85_77] (fun v86_78 w =>
 oM Tryd.prog (.load 88 (.tmp 0)) 88 [v86_78] (fun v87_79 w =>
 oM Tryd.prog (.range 88 (.tmp 0)) 0 [v87_79] (fun v88_80 w =>
 loopM [undef] w (fun J_81 m_82 l_83 u_l_83 w0_l_83 => (fun w => (
 oM Tryd.prog (.next (.tmp 0) false) 0 [v88_80] (fun v89_84 w =>
 oM Tryd.prog (.extract (.tmp 0) 0) 4 [v89_84] (fun v90_85 w =>
 condM v90_85
 (oM Tryd.prog (.entry (.tmp 0)) 0 [v88_80] (fun v91_86 w =>
 oM Tryd.prog (.extract (.tmp 0) 0) 3 [v91_86] (fun v92_87 w =>
 oM Tryd.prog (.extract (.tmp 0) 1) 100 [v91_86] (fun v93_88 w =>
 oM Tryd.prog (.alloc 100) 0 [] (fun v9_89 w =>
 oM Tryd.prog (.store 100 (.tmp 0) (.tmp 1)) 0 [v9_89, v93_88] (fun _ w =>
 stageM w (fun C_90 w => (pureH a0 (upto C_90 1) (fun v94_91 =>
 oH Tryd.prog (.nilCheck (.tmp 0)) 0 [v94_91] (upto C_90 1) (fun v95_92 =>
 oH Tryd.prog (.fieldAddr 92 (.tmp 0) 0) 0 [v95_92] (upto C_90 1) (fun v96_93 =>
 oH Tryd.prog (.load 88 (.tmp 0)) 88 [v96_93] (upto C_90 1) (fun v97_94 =>
 pureH v92_87 (upto C_90 1) (fun v98_95 =>
 oH Tryd.prog (.fieldAddr 100 (.tmp 0) 1) 0 [v9_89] (upto C_90 0) (fun v99_96 =>
 oH Tryd.prog (.load 9 (.tmp 0)) 9 [v99_96] (upto C_90 0) (fun v100_97 =>
 oH Tryd.prog (.fieldAddr 100 (.tmp 0) 1) 0 [v9_89] (upto C_90 0) (fun v101_98 =>
 oH Tryd.prog (.load 9 (.tmp 0)) 9 [v101_98] (upto C_90 0) (fun v102_99 =>
 oM Tryd.prog (.build 100 #[(0, (.tmp 0)), (1, (.tmp 1))]) 100 [v100_97, v102_99] (fun v103_100 w => C_90 1 w ∧ (
 oM Tryd.prog (.mapUpdate 88 (.tmp 0) (.tmp 1) (.tmp 2)) 0 [v97_94, v98_95, v103_100] (fun _ w => C_90 2 w ∧ (
 J_81 [v92_87] w ∧ m_82 [v92_87] w < m_82 l_83 w0_l_83)) w)) w)))))))))))) w) w) w) w) w)
 (oM Tryd.prog (.makeMap 89 none) 89 [] (fun v106_101 w =>
 oM Tryd.prog (.nilCheck (.tmp 0)) 0 [a0] (fun v107_102 w =>
 oM Tryd.prog (.fieldAddr 92 (.tmp 0) 1) 0 [v107_102] (fun v108_103 w =>
 oM Tryd.prog (.store 90 (.tmp 0) (.tmp 1)) 0 [v108_103, (.slice none 0 0)] (fun _ w =>
 oM Tryd.prog (.nilCheck (.tmp 0)) 0 [a0] (fun v109_104 w =>
 oM Tryd.prog (.fieldAddr 92 (.tmp 0) 2) 0 [v109_104] (fun v110_105 w =>
 oM Tryd.prog (.store 89 (.tmp 0) (.tmp 1)) 0 [v110_105, v106_101] (fun _ w =>
 K (.tuple #[]) w) w) w) w) w) w) w) w)) w) w)) w0_l_83)) w) w) w) w)) w)) w0_l_14)) w) w) w) w) w) w) w) w) w) w)) w) w) w
theorem sh_62_eq (a0 : Value) (a1 : Value) (K : Value → World → Prop) (w : World) : sh_62 a0 a1 K w = code Tryd.prog (fun _ => 3) 111 (Tryd.f62.body.getD .skip) (slotsAt [a0, a1]) (retK Tryd.prog [] K) w := by kernel_rfl
theorem sh_62_ok {a0 a1 : Value} {K : Value → World → Prop} {w : World} (h : sh_62 a0 a1 K w) : callM Tryd.prog 62 #[a0, a1] K w :=
  calls_of_code (fun _ => 3) (fn := Tryd.f62) (rs := []) Tryd.func62 rfl rfl (by kernel_rfl) (Nat.le_of_ble_eq_true rfl) ((sh_62_eq a0 a1 K w).mp h)
def sh_63 (a0 : Value) (K : Value → World → Prop) (w : World) : Prop :=
 oM Tryd.prog (.nilCheck (.tmp 0)) 0 [a0] (fun v3_1 w =>
 oM Tryd.prog (.fieldAddr 92 (.tmp 0) 4) 0 [v3_1] (fun v4_2 w =>
 oM Tryd.prog (.store 4 (.tmp 0) (.tmp 1)) 0 [v4_2, (.bool false)] (fun _ w =>
 K (.tuple #[]) w) w) w) w
theorem sh_63_eq (a0 : Value) (K : Value → World → Prop) (w : World) : sh_63 a0 K w = code Tryd.prog (fun _ => 0) 5 (Tryd.f63.body.getD .skip) (slotsAt [a0]) (retK Tryd.prog [] K) w := by kernel_rfl
theorem sh_63_ok {a0 : Value} {K : Value → World → Prop} {w : World} (h : sh_63 a0 K w) : callM Tryd.prog 63 #[a0] K w :=
  calls_of_code (fun _ => 0) (fn := Tryd.f63) (rs := []) Tryd.func63 rfl rfl (by kernel_rfl) (Nat.le_of_ble_eq_true rfl) ((sh_63_eq a0 K w).mp h)
def sh_80 (a0 : Value) (a1 : Value) (K : Value → World → Prop) (w : World) : Prop :=
 joinM (fun M_1 => (callM Tryd.prog 85 #[a0] (fun v7_3 w =>
 condM v7_3
 (oM Tryd.prog (.nilCheck (.tmp 0)) 0 [a0] (fun v10_4 w =>
 oM Tryd.prog (.fieldAddr 92 (.tmp 0) 6) 0 [v10_4] (fun v11_5 w =>
 oM Tryd.prog (.load 22 (.tmp 0)) 22 [v11_5] (fun v12_6 w =>
 callM Tryd.prog 62 #[a0, v12_6] (fun v13_7 w =>
 M_1 [] w) w) w) w) w)
 (M_1 [] w)) w))
 (fun l_2 u_l_2 w => (callM Tryd.prog 84 #[a0, a1] (fun v16_8 w =>
 oM Tryd.prog (.binOp .neq 54 (.tmp 0) (.const (.int .i64 0)) 54) 4 [v16_8] (fun v18_9 w =>
 condM v18_9
 (K v16_8 w)
 (oM Tryd.prog (.nilCheck (.tmp 0)) 0 [a0] (fun v21_10 w =>
 oM Tryd.prog (.fieldAddr 92 (.tmp 0) 3) 0 [v21_10] (fun v22_11 w =>
 oM Tryd.prog (.load 3 (.tmp 0)) 3 [v22_11] (fun v23_12 w =>
 oM Tryd.prog (.binOp .gtr 3 (.tmp 0) (.tmp 1) 3) 4 [v23_12, (.int .i64 0)] (fun v24_13 w =>
 condM v24_13
 (oM Tryd.prog (.nilCheck (.tmp 0)) 0 [a0] (fun v26_14 w =>
 oM Tryd.prog (.fieldAddr 92 (.tmp 0) 3) 0 [v26_14] (fun v27_15 w =>
 oM Tryd.prog (.load 3 (.tmp 0)) 3 [v27_15] (fun v28_16 w =>
 oM Tryd.prog (.binOp .sub 3 (.tmp 0) (.tmp 1) 3) 3 [v28_16, (.int .i64 1)] (fun v29_17 w =>
 oM Tryd.prog (.nilCheck (.tmp 0)) 0 [a0] (fun v30_18 w =>
 oM Tryd.prog (.fieldAddr 92 (.tmp 0) 3) 0 [v30_18] (fun v31_19 w =>
 oM Tryd.prog (.store 3 (.tmp 0) (.tmp 1)) 0 [v31_19, v29_17] (fun _ w =>
 K (.int .i64 9) w) w) w) w) w) w) w) w)
 (oM Tryd.prog (.nilCheck (.tmp 0)) 0 [a0] (fun v35_20 w =>
 oM Tryd.prog (.fieldAddr 92 (.tmp 0) 0) 0 [v35_20] (fun v36_21 w =>
 oM Tryd.prog (.load 88 (.tmp 0)) 88 [v36_21] (fun v37_22 w =>
 oM Tryd.prog (.lookup 88 (.tmp 0) (.tmp 1) false) 100 [v37_22, a1] (fun v39_23 w =>
 oM Tryd.prog (.field 100 (.tmp 0) 0) 9 [v39_23] (fun v40_24 w =>
 callM Tryd.prog 96 #[a0, a1, v40_24] (fun v41_25 w =>
 K (.int .i64 0) w) w) w) w) w) w) w)) w) w) w) w)) w) w))
theorem sh_80_eq (a0 : Value) (a1 : Value) (K : Value → World → Prop) (w : World) : sh_80 a0 a1 K w = code Tryd.prog (fun _ => 0) 42 (Tryd.f80.body.getD .skip) (slotsAt [a0, a1]) (retK Tryd.prog [.tmp 4] K) w := by kernel_rfl
theorem sh_80_ok {a0 a1 : Value} {K : Value → World → Prop} {w : World} (h : sh_80 a0 a1 K w) : callM Tryd.prog 80 #[a0, a1] K w :=
  calls_of_code (fun _ => 0) (fn := Tryd.f80) (rs := [.tmp 4]) Tryd.func80 rfl rfl (by kernel_rfl) (Nat.le_of_ble_eq_true rfl) ((sh_80_eq a0 a1 K w).mp h)
def sh_82 (a0 : Value) (a1 : Value) (a2 : Value) (K : Value → World → Prop) (w : World) : Prop :=
 joinM (fun M_1 => (callM Tryd.prog 85 #[a0] (fun v9_3 w =>
 condM v9_3
 (oM Tryd.prog (.nilCheck (.tmp 0)) 0 [a0] (fun v12_4 w =>
 oM Tryd.prog (.fieldAddr 92 (.tmp 0) 6) 0 [v12_4] (fun v13_5 w =>
 oM Tryd.prog (.load 22 (.tmp 0)) 22 [v13_5] (fun v14_6 w =>
 callM Tryd.prog 62 #[a0, v14_6] (fun v15_7 w =>
 M_1 [] w) w) w) w) w)
 (M_1 [] w)) w))
 (fun l_2 u_l_2 w => (callM Tryd.prog 84 #[a0, a1] (fun v18_8 w =>
 oM Tryd.prog (.binOp .neq 54 (.tmp 0) (.const (.int .i64 0)) 54) 4 [v18_8] (fun v20_9 w =>
 condM v20_9
 (K v18_8 w)
 (oM Tryd.prog (.binOp .lss 3 (.tmp 0) (.tmp 1) 3) 4 [a2, (.int .i64 0)] (fun v23_10 w =>
 gdM (gd v23_10 false) (pureM a2) (fun v25_11 w =>
 gdM (gd v23_10 false) (pureM a0) (fun v26_12 w =>
 gdM (gd v23_10 false) (pureM a1) (fun v27_13 w =>
 gdM (gd v23_10 false) (callM Tryd.prog 51 #[v26_12, v27_13]) (fun v28_14 w =>
 gdM (gd v23_10 false) (oM Tryd.prog (.binOp .gtr 3 (.tmp 0) (.tmp 1) 3) 4 [v25_11, v28_14]) (fun v29_15 w =>
 oM Tryd.prog (.pick (.tmp 0) (.tmp 1) (.tmp 2)) 4 [v23_10, (.bool true), v29_15] (fun v30_16 w =>
 condM v30_16
 (K (.int .i64 1) w)
 (oM Tryd.prog (.nilCheck (.tmp 0)) 0 [a0] (fun v34_17 w =>
 oM Tryd.prog (.fieldAddr 92 (.tmp 0) 0) 0 [v34_17] (fun v35_18 w =>
 oM Tryd.prog (.load 88 (.tmp 0)) 88 [v35_18] (fun v36_19 w =>
 oM Tryd.prog (.lookup 88 (.tmp 0) (.tmp 1) false) 100 [v36_19, a1] (fun v38_20 w =>
 oM Tryd.prog (.field 100 (.tmp 0) 0) 9 [v38_20] (fun v39_21 w =>
 oM Tryd.prog (.slice 9 (.tmp 0) none (some (.tmp 1)) none) 9 [v39_21, a2] (fun v41_22 w =>
 callM Tryd.prog 96 #[a0, a1, v41_22] (fun v42_23 w =>
 K (.int .i64 0) w) w) w) w) w) w) w) w)) w) w) w) w) w) w) w)) w) w))
theorem sh_82_eq (a0 : Value) (a1 : Value) (a2 : Value) (K : Value → World → Prop) (w : World) : sh_82 a0 a1 a2 K w = code Tryd.prog (fun _ => 0) 43 (Tryd.f82.body.getD .skip) (slotsAt [a0, a1, a2]) (retK Tryd.prog [.tmp 6] K) w := by kernel_rfl
theorem sh_82_ok {a0 a1 a2 : Value} {K : Value → World → Prop} {w : World} (h : sh_82 a0 a1 a2 K w) : callM Tryd.prog 82 #[a0, a1, a2] K w :=
  calls_of_code (fun _ => 0) (fn := Tryd.f82) (rs := [.tmp 6]) Tryd.func82 rfl rfl (by kernel_rfl) (Nat.le_of_ble_eq_true rfl) ((sh_82_eq a0 a1 a2 K w).mp h)
def sh_84 (a0 : Value) (a1 : Value) (K : Value → World → Prop) (w : World) : Prop :=
 oM Tryd.prog (.nilCheck (.tmp 0)) 0 [a0] (fun v7_1 w =>
 oM Tryd.prog (.fieldAddr 92 (.tmp 0) 4) 0 [v7_1] (fun v8_2 w =>
 oM Tryd.prog (.load 4 (.tmp 0)) 4 [v8_2] (fun v9_3 w =>
 condM v9_3
 (K (.int .i64 8) w)
 (oM Tryd.prog (.binOp .lss 3 (.tmp 0) (.tmp 1) 3) 4 [a1, (.int .i64 0)] (fun v12_4 w =>
 gdM (gd v12_4 false) (pureM a1) (fun v14_5 w =>
 gdM (gd v12_4 false) (oM Tryd.prog (.binOp .geq 3 (.tmp 0) (.tmp 1) 3) 4 [v14_5, (.int .i64 16)]) (fun v15_6 w =>
 oM Tryd.prog (.pick (.tmp 0) (.tmp 1) (.tmp 2)) 4 [v12_4, (.bool true), v15_6] (fun v16_7 w =>
 condM v16_7
 (K (.int .i64 1) w)
 (K (.int .i64 0) w)) w) w) w) w)) w) w) w
theorem sh_84_eq (a0 : Value) (a1 : Value) (K : Value → World → Prop) (w : World) : sh_84 a0 a1 K w = code Tryd.prog (fun _ => 0) 17 (Tryd.f84.body.getD .skip) (slotsAt [a0, a1]) (retK Tryd.prog [.tmp 4] K) w := by kernel_rfl
theorem sh_84_ok {a0 a1 : Value} {K : Value → World → Prop} {w : World} (h : sh_84 a0 a1 K w) : callM Tryd.prog 84 #[a0, a1] K w :=
  calls_of_code (fun _ => 0) (fn := Tryd.f84) (rs := [.tmp 4]) Tryd.func84 rfl rfl (by kernel_rfl) (Nat.le_of_ble_eq_true rfl) ((sh_84_eq a0 a1 K w).mp h)
def sh_85 (a0 : Value) (K : Value → World → Prop) (w : World) : Prop :=
 oM Tryd.prog (.nilCheck (.tmp 0)) 0 [a0] (fun v4_1 w =>
 oM Tryd.prog (.fieldAddr 92 (.tmp 0) 4) 0 [v4_1] (fun v5_2 w =>
 oM Tryd.prog (.load 4 (.tmp 0)) 4 [v5_2] (fun v6_3 w =>
 gdM (gd v6_3 false) (pureM a0) (fun v8_4 w =>
 gdM (gd v6_3 false) (oM Tryd.prog (.nilCheck (.tmp 0)) 0 [v8_4]) (fun v9_5 w =>
 gdM (gd v6_3 false) (oM Tryd.prog (.fieldAddr 92 (.tmp 0) 5) 0 [v9_5]) (fun v10_6 w =>
 gdM (gd v6_3 false) (oM Tryd.prog (.load 3 (.tmp 0)) 3 [v10_6]) (fun v11_7 w =>
 gdM (gd v6_3 false) (oM Tryd.prog (.binOp .eql 3 (.tmp 0) (.const (.int .i64 0)) 3) 4 [v11_7]) (fun v12_8 w =>
 oM Tryd.prog (.pick (.tmp 0) (.tmp 1) (.tmp 2)) 4 [v6_3, (.bool true), v12_8] (fun v13_9 w =>
 condM v13_9
 (K (.bool false) w)
 (oM Tryd.prog (.nilCheck (.tmp 0)) 0 [a0] (fun v15_10 w =>
 oM Tryd.prog (.fieldAddr 92 (.tmp 0) 5) 0 [v15_10] (fun v16_11 w =>
 oM Tryd.prog (.load 3 (.tmp 0)) 3 [v16_11] (fun v17_12 w =>
 oM Tryd.prog (.binOp .sub 3 (.tmp 0) (.tmp 1) 3) 3 [v17_12, (.int .i64 1)] (fun v18_13 w =>
 oM Tryd.prog (.nilCheck (.tmp 0)) 0 [a0] (fun v19_14 w =>
 oM Tryd.prog (.fieldAddr 92 (.tmp 0) 5) 0 [v19_14] (fun v20_15 w =>
 oM Tryd.prog (.store 3 (.tmp 0) (.tmp 1)) 0 [v20_15, v18_13] (fun _ w =>
 oM Tryd.prog (.nilCheck (.tmp 0)) 0 [a0] (fun v22_16 w =>
 oM Tryd.prog (.fieldAddr 92 (.tmp 0) 5) 0 [v22_16] (fun v23_17 w =>
 oM Tryd.prog (.load 3 (.tmp 0)) 3 [v23_17] (fun v24_18 w =>
 oM Tryd.prog (.binOp .eql 3 (.tmp 0) (.const (.int .i64 0)) 3) 4 [v24_18] (fun v25_19 w =>
 K v25_19 w) w) w) w) w) w) w) w) w) w) w) w)) w) w) w) w) w) w) w) w) w
theorem sh_85_eq (a0 : Value) (K : Value → World → Prop) (w : World) : sh_85 a0 K w = code Tryd.prog (fun _ => 0) 26 (Tryd.f85.body.getD .skip) (slotsAt [a0]) (retK Tryd.prog [.tmp 2] K) w := by kernel_rfl
theorem sh_85_ok {a0 : Value} {K : Value → World → Prop} {w : World} (h : sh_85 a0 K w) : callM Tryd.prog 85 #[a0] K w :=
  calls_of_code (fun _ => 0) (fn := Tryd.f85) (rs := [.tmp 2]) Tryd.func85 rfl rfl (by kernel_rfl) (Nat.le_of_ble_eq_true rfl) ((sh_85_eq a0 K w).mp h)
def sh_86 (a0 : Value) (a1 : Value) (a2 : Value) (a3 : Value) (K : Value → World → Prop) (w : World) : Prop :=
 callM Tryd.prog 84 #[a0, a1] (fun v15_1 w =>
 oM Tryd.prog (.binOp .neq 54 (.tmp 0) (.const (.int .i64 0)) 54) 4 [v15_1] (fun v17_2 w =>
 condM v17_2
 (K v15_1 w)
 (oM Tryd.prog (.binOp .lss 3 (.tmp 0) (.tmp 1) 3) 4 [a2, (.int .i64 0)] (fun v21_3 w =>
 condM v21_3
 (K (.int .i64 1) w)
 (oM Tryd.prog (.binOp .gtr 3 (.tmp 0) (.tmp 1) 3) 4 [a2, (.int .i64 16777216)] (fun v24_4 w =>
 gdM (gd v24_4 false) (pureM a3) (fun v26_5 w =>
 gdM (gd v24_4 false) (oM Tryd.prog (.call (Go.Call.mk (.builtin .len) #[(.tmp 0)] #[9])) 3 [v26_5]) (fun v27_6 w =>
 gdM (gd v24_4 false) (pureM a2) (fun v28_7 w =>
 gdM (gd v24_4 false) (oM Tryd.prog (.binOp .sub 3 (.tmp 0) (.tmp 1) 3) 3 [(.int .i64 16777216), v28_7]) (fun v29_8 w =>
 gdM (gd v24_4 false) (oM Tryd.prog (.binOp .gtr 3 (.tmp 0) (.tmp 1) 3) 4 [v27_6, v29_8]) (fun v30_9 w =>
 oM Tryd.prog (.pick (.tmp 0) (.tmp 1) (.tmp 2)) 4 [v24_4, (.bool true), v30_9] (fun v31_10 w =>
 condM v31_10
 (K (.int .i64 6) w)
 (oM Tryd.prog (.binOp .eql 9 (.tmp 0) (.const (.string ⟨#[]⟩)) 9) 4 [a3] (fun v34_11 w =>
 condM v34_11
 (K (.int .i64 0) w)
 (oM Tryd.prog (.nilCheck (.tmp 0)) 0 [a0] (fun v36_12 w =>
 oM Tryd.prog (.fieldAddr 92 (.tmp 0) 0) 0 [v36_12] (fun v37_13 w =>
 oM Tryd.prog (.load 88 (.tmp 0)) 88 [v37_13] (fun v38_14 w =>
 oM Tryd.prog (.lookup 88 (.tmp 0) (.tmp 1) false) 100 [v38_14, a1] (fun v40_15 w =>
 oM Tryd.prog (.alloc 100) 0 [] (fun v10_16 w =>
 oM Tryd.prog (.store 100 (.tmp 0) (.tmp 1)) 0 [v10_16, v40_15] (fun _ w =>
 oM Tryd.prog (.fieldAddr 100 (.tmp 0) 0) 0 [v10_16] (fun v41_17 w =>
 oM Tryd.prog (.load 9 (.tmp 0)) 9 [v41_17] (fun v42_18 w =>
 callM Tryd.prog 88 #[v42_18, a2, a3] (fun v45_19 w =>
 oM Tryd.prog (.fieldAddr 100 (.tmp 0) 0) 0 [v10_16] (fun v46_20 w =>
 oM Tryd.prog (.store 9 (.tmp 0) (.tmp 1)) 0 [v46_20, v45_19] (fun _ w =>
 stageM w (fun C_21 w => (pureH a0 (upto C_21 0) (fun v47_22 =>
 oH Tryd.prog (.nilCheck (.tmp 0)) 0 [v47_22] (upto C_21 0) (fun v48_23 =>
 oH Tryd.prog (.fieldAddr 92 (.tmp 0) 0) 0 [v48_23] (upto C_21 0) (fun v49_24 =>
 oH Tryd.prog (.load 88 (.tmp 0)) 88 [v49_24] (upto C_21 0) (fun v50_25 =>
 pureH a1 (upto C_21 0) (fun v51_26 =>
 oH Tryd.prog (.load 100 (.tmp 0)) 100 [v10_16] (upto C_21 0) (fun v52_27 =>
 oM Tryd.prog (.mapUpdate 88 (.tmp 0) (.tmp 1) (.tmp 2)) 0 [v50_25, v51_26, v52_27] (fun _ w => C_21 1 w ∧ (
 oM Tryd.prog (.binOp .quo 3 (.tmp 0) (.tmp 1) 3) 3 [a2, (.int .i64 64)] (fun v54_28 w =>
 loopM [v54_28] w (fun J_29 m_30 l_31 u_l_31 w0_l_31 => (fun w => (
 oM Tryd.prog (.call (Go.Call.mk (.builtin .len) #[(.tmp 0)] #[9])) 3 [a3] (fun v58_32 w =>
 oM Tryd.prog (.binOp .add 3 (.tmp 0) (.tmp 1) 3) 3 [a2, v58_32] (fun v59_33 w =>
 oM Tryd.prog (.binOp .sub 3 (.tmp 0) (.tmp 1) 3) 3 [v59_33, (.int .i64 1)] (fun v60_34 w =>
 oM Tryd.prog (.binOp .quo 3 (.tmp 0) (.tmp 1) 3) 3 [v60_34, (.int .i64 64)] (fun v61_35 w =>
 oM Tryd.prog (.binOp .leq 3 (.tmp 0) (.tmp 1) 3) 4 [(l_31.getD 0 undef), v61_35] (fun v62_36 w =>
 condM v62_36
 (joinM (fun M_37 => (oM Tryd.prog (.build 103 #[(0, (.tmp 0)), (1, (.tmp 1))]) 103 [a1, (l_31.getD 0 undef)] (fun v67_39 w =>
 oM Tryd.prog (.alloc 103) 0 [] (fun v12_40 w =>
 oM Tryd.prog (.store 103 (.tmp 0) (.tmp 1)) 0 [v12_40, v67_39] (fun _ w =>
 stageM w (fun C_41 w => (pureH a0 (upto C_41 0) (fun v68_42 =>
 oH Tryd.prog (.nilCheck (.tmp 0)) 0 [v68_42] (upto C_41 0) (fun v69_43 =>
 oH Tryd.prog (.fieldAddr 92 (.tmp 0) 2) 0 [v69_43] (upto C_41 0) (fun v70_44 =>
 oH Tryd.prog (.load 89 (.tmp 0)) 89 [v70_44] (upto C_41 0) (fun v71_45 =>
 oH Tryd.prog (.load 103 (.tmp 0)) 103 [v12_40] (upto C_41 0) (fun v72_46 =>
 oH Tryd.prog (.lookup 89 (.tmp 0) (.tmp 1) false) 4 [v71_45, v72_46] (upto C_41 0) (fun v73_47 =>
 oH Tryd.prog (.unOp .not 4 (.tmp 0)) 4 [v73_47] (upto C_41 0) (fun v74_48 =>
 condM v74_48
 (stageM w (fun C_49 w => (pureH a0 (upto C_49 2) (fun v75_50 =>
 pureH a0 (upto C_49 2) (fun v76_51 =>
 oH Tryd.prog (.nilCheck (.tmp 0)) 0 [v76_51] (upto C_49 2) (fun v77_52 =>
 oH Tryd.prog (.fieldAddr 92 (.tmp 0) 2) 0 [v77_52] (upto C_49 2) (fun v78_53 =>
 oH Tryd.prog (.load 89 (.tmp 0)) 89 [v78_53] (upto C_49 2) (fun v79_54 =>
 oH Tryd.prog (.load 103 (.tmp 0)) 103 [v12_40] (upto C_49 5) (fun v80_55 =>
 pureH a0 (upto C_49 1) (fun v81_56 =>
 oH Tryd.prog (.nilCheck (.tmp 0)) 0 [v81_56] (upto C_49 1) (fun v82_57 =>
 oH Tryd.prog (.fieldAddr 92 (.tmp 0) 1) 0 [v82_57] (upto C_49 1) (fun v83_58 =>
 oH Tryd.prog (.load 90 (.tmp 0)) 90 [v83_58] (upto C_49 1) (fun v84_59 =>
 oH Tryd.prog (.load 103 (.tmp 0)) 103 [v12_40] (upto C_49 0) (fun v85_60 =>
 oM Tryd.prog (.buildSlice 90 1 #[(0, (.tmp 0))]) 90 [v85_60] (fun v86_61 w => C_49 1 w ∧ (
 oM Tryd.prog (.call (Go.Call.mk (.builtin .append) #[(.tmp 0), (.tmp 1)] #[90, 90])) 90 [v84_59, v86_61] (fun v87_62 w => C_49 2 w ∧ (
 oM Tryd.prog (.nilCheck (.tmp 0)) 0 [v75_50] (fun v88_63 w => C_49 3 w ∧ (
 oM Tryd.prog (.fieldAddr 92 (.tmp 0) 1) 0 [v88_63] (fun v89_64 w => C_49 4 w ∧ (
 oM Tryd.prog (.store 90 (.tmp 0) (.tmp 1)) 0 [v89_64, v87_62] (fun _ w => C_49 5 w ∧ (
 oM Tryd.prog (.mapEntry 89 (.tmp 0) (.tmp 1)) 0 [v79_54, v80_55] (fun v90_65 w => C_49 6 w ∧ (
 oM Tryd.prog (.extract (.tmp 0) 1) 3 [v90_65] (fun v91_66 w => C_49 7 w ∧ (
 oM Tryd.prog (.entryStore 89 (.tmp 0) (.tmp 1) (.tmp 2)) 0 [v79_54, v91_66, (.bool true)] (fun _ w => C_49 8 w ∧ (
 M_37 [] w)) w)) w)) w)) w)) w)) w)) w)) w))))))))))))))
 (M_37 [] w))))))))))) w) w) w))
 (fun l_38 u_l_38 w => (oM Tryd.prog (.binOp .add 3 (.tmp 0) (.tmp 1) 3) 3 [(l_31.getD 0 undef), (.int .i64 1)] (fun v64_67 w =>
 J_29 [v64_67] w ∧ m_30 [v64_67] w < m_30 l_31 w0_l_31) w)))
 (K (.int .i64 0) w)) w) w) w) w) w)) w0_l_31)) w)) w))))))))) w) w) w) w) w) w) w) w) w) w) w)) w)) w) w) w) w) w) w) w)) w)) w) w
theorem sh_86_eq (a0 : Value) (a1 : Value) (a2 : Value) (a3 : Value) (K : Value → World → Prop) (w : World) : sh_86 a0 a1 a2 a3 K w = code Tryd.prog (fun _ => 3) 92 (Tryd.f86.body.getD .skip) (slotsAt [a0, a1, a2, a3]) (retK Tryd.prog [.tmp 8] K) w := by kernel_rfl
theorem sh_86_ok {a0 a1 a2 a3 : Value} {K : Value → World → Prop} {w : World} (h : sh_86 a0 a1 a2 a3 K w) : callM Tryd.prog 86 #[a0, a1, a2, a3] K w :=
  calls_of_code (fun _ => 3) (fn := Tryd.f86) (rs := [.tmp 8]) Tryd.func86 rfl rfl (by kernel_rfl) (Nat.le_of_ble_eq_true rfl) ((sh_86_eq a0 a1 a2 a3 K w).mp h)
def sh_88 (a0 : Value) (a1 : Value) (a2 : Value) (K : Value → World → Prop) (w : World) : Prop :=
 oM Tryd.prog (.binOp .eql 9 (.tmp 0) (.const (.string ⟨#[]⟩)) 9) 4 [a2] (fun v9_1 w =>
 condM v9_1
 (K a0 w)
 (oM Tryd.prog (.call (Go.Call.mk (.builtin .len) #[(.tmp 0)] #[9])) 3 [a0] (fun v12_2 w =>
 oM Tryd.prog (.call (Go.Call.mk (.builtin .len) #[(.tmp 0)] #[9])) 3 [a2] (fun v15_3 w =>
 oM Tryd.prog (.binOp .add 3 (.tmp 0) (.tmp 1) 3) 3 [a1, v15_3] (fun v16_4 w =>
 oM Tryd.prog (.call (Go.Call.mk (.builtin .max) #[(.tmp 0), (.tmp 1)] #[3, 3])) 3 [v12_2, v16_4] (fun v17_5 w =>
 oM Tryd.prog (.makeSlice 61 (.tmp 0) (.tmp 1)) 61 [v17_5, v17_5] (fun v18_6 w =>
 oM Tryd.prog (.call (Go.Call.mk (.builtin .copy) #[(.tmp 0), (.tmp 1)] #[61, 9])) 3 [v18_6, a0] (fun v21_7 w =>
 oM Tryd.prog (.slice 61 (.tmp 0) (some (.tmp 1)) none none) 61 [v18_6, a1] (fun v24_8 w =>
 oM Tryd.prog (.call (Go.Call.mk (.builtin .copy) #[(.tmp 0), (.tmp 1)] #[61, 9])) 3 [v24_8, a2] (fun v26_9 w =>
 oM Tryd.prog (.convert 61 9 (.tmp 0)) 9 [v18_6] (fun v28_10 w =>
 K v28_10 w) w) w) w) w) w) w) w) w) w)) w
theorem sh_88_eq (a0 : Value) (a1 : Value) (a2 : Value) (K : Value → World → Prop) (w : World) : sh_88 a0 a1 a2 K w = code Tryd.prog (fun _ => 0) 29 (Tryd.f88.body.getD .skip) (slotsAt [a0, a1, a2]) (retK Tryd.prog [.tmp 6] K) w := by kernel_rfl
theorem sh_88_ok {a0 a1 a2 : Value} {K : Value → World → Prop} {w : World} (h : sh_88 a0 a1 a2 K w) : callM Tryd.prog 88 #[a0, a1, a2] K w :=
  calls_of_code (fun _ => 0) (fn := Tryd.f88) (rs := [.tmp 6]) Tryd.func88 rfl rfl (by kernel_rfl) (Nat.le_of_ble_eq_true rfl) ((sh_88_eq a0 a1 a2 K w).mp h)
def sh_96 (a0 : Value) (a1 : Value) (a2 : Value) (K : Value → World → Prop) (w : World) : Prop :=
 oM Tryd.prog (.box 3 (.tmp 0)) 0 [a1] (fun v4_1 w =>
 stageM w (fun C_2 w => (pureH a0 (upto C_2 1) (fun v6_3 =>
 oH Tryd.prog (.nilCheck (.tmp 0)) 0 [v6_3] (upto C_2 1) (fun v7_4 =>
 oH Tryd.prog (.fieldAddr 92 (.tmp 0) 0) 0 [v7_4] (upto C_2 1) (fun v8_5 =>
 oH Tryd.prog (.load 88 (.tmp 0)) 88 [v8_5] (upto C_2 1) (fun v9_6 =>
 oH Tryd.prog (.load 3 (.tmp 0)) 3 [v4_1] (upto C_2 1) (fun v10_7 =>
 pureH a2 (upto C_2 0) (fun v11_8 =>
 pureH a2 (upto C_2 0) (fun v12_9 =>
 oM Tryd.prog (.build 100 #[(0, (.tmp 0)), (1, (.tmp 1))]) 100 [v11_8, v12_9] (fun v13_10 w => C_2 1 w ∧ (
 oM Tryd.prog (.mapUpdate 88 (.tmp 0) (.tmp 1) (.tmp 2)) 0 [v9_6, v10_7, v13_10] (fun _ w => C_2 2 w ∧ (
 oM Tryd.prog (.nilCheck (.tmp 0)) 0 [a0] (fun v16_11 w =>
 oM Tryd.prog (.fieldAddr 92 (.tmp 0) 1) 0 [v16_11] (fun v17_12 w =>
 oM Tryd.prog (.load 90 (.tmp 0)) 90 [v17_12] (fun v18_13 w =>
 oM Tryd.prog (.makeFunc (Go.Fn.func 104) #[] #[(.tmp 0)]) 122 [v4_1] (fun v19_14 w =>
 callM Tryd.prog 103 #[v18_13, v19_14] (fun v20_15 w =>
 oM Tryd.prog (.nilCheck (.tmp 0)) 0 [a0] (fun v21_16 w =>
 oM Tryd.prog (.fieldAddr 92 (.tmp 0) 1) 0 [v21_16] (fun v22_17 w =>
 oM Tryd.prog (.store 90 (.tmp 0) (.tmp 1)) 0 [v22_17, v20_15] (fun _ w =>
 oM Tryd.prog (.nilCheck (.tmp 0)) 0 [a0] (fun v24_18 w =>
 oM Tryd.prog (.fieldAddr 92 (.tmp 0) 2) 0 [v24_18] (fun v25_19 w =>
 oM Tryd.prog (.load 89 (.tmp 0)) 89 [v25_19] (fun v26_20 w =>
 oM Tryd.prog (.makeFunc (Go.Fn.func 106) #[] #[(.tmp 0)]) 124 [v4_1] (fun v27_21 w =>
 callM Tryd.prog 105 #[v26_20, v27_21] (fun v28_22 w =>
 K (.tuple #[]) w) w) w) w) w) w) w) w) w) w) w) w) w) w)) w)) w)))))))))) w
theorem sh_96_eq (a0 : Value) (a1 : Value) (a2 : Value) (K : Value → World → Prop) (w : World) : sh_96 a0 a1 a2 K w = code Tryd.prog (fun _ => 3) 29 (Tryd.f96.body.getD .skip) (slotsAt [a0, a1, a2]) (retK Tryd.prog [] K) w := by kernel_rfl
theorem sh_96_ok {a0 a1 a2 : Value} {K : Value → World → Prop} {w : World} (h : sh_96 a0 a1 a2 K w) : callM Tryd.prog 96 #[a0, a1, a2] K w :=
  calls_of_code (fun _ => 3) (fn := Tryd.f96) (rs := []) Tryd.func96 rfl rfl (by kernel_rfl) (Nat.le_of_ble_eq_true rfl) ((sh_96_eq a0 a1 a2 K w).mp h)
def sh_103 (a0 : Value) (a1 : Value) (K : Value → World → Prop) (w : World) : Prop :=
 callM Tryd.prog 119 #[a0, a1] (fun v10_1 w =>
 oM Tryd.prog (.binOp .eql 3 (.tmp 0) (.const (.int .i64 (-1))) 3) 4 [v10_1] (fun v12_2 w =>
 condM v12_2
 (K a0 w)
 (oM Tryd.prog (.binOp .add 3 (.tmp 0) (.tmp 1) 3) 3 [v10_1, (.int .i64 1)] (fun v15_3 w =>
 loopM [v10_1, v15_3] w (fun J_4 m_5 l_6 u_l_6 w0_l_6 => (fun w => (
 oM Tryd.prog (.call (Go.Call.mk (.builtin .len) #[(.tmp 0)] #[90])) 3 [a0] (fun v18_7 w =>
 oM Tryd.prog (.binOp .lss 3 (.tmp 0) (.tmp 1) 3) 4 [(l_6.getD 1 undef), v18_7] (fun v19_8 w =>
 condM v19_8
 (joinM (fun M_9 => (oM Tryd.prog (.indexAddr 90 (.tmp 0) (.tmp 1)) 0 [a0, (l_6.getD 1 undef)] (fun v24_11 w =>
 oM Tryd.prog (.load 103 (.tmp 0)) 103 [v24_11] (fun v25_12 w =>
 oM Tryd.prog (.alloc 103) 0 [] (fun v7_13 w =>
 oM Tryd.prog (.store 103 (.tmp 0) (.tmp 1)) 0 [v7_13, v25_12] (fun _ w =>
 oM Tryd.prog (.load 103 (.tmp 0)) 103 [v7_13] (fun v27_14 w =>
 oM Tryd.prog (.call (Go.Call.mk (.value (.tmp 0)) #[(.tmp 1)] #[103])) 4 [a1, v27_14] (fun v28_15 w =>
 oM Tryd.prog (.unOp .not 4 (.tmp 0)) 4 [v28_15] (fun v29_16 w =>
 condM v29_16
 (oM Tryd.prog (.load 103 (.tmp 0)) 103 [v7_13] (fun v32_17 w =>
 oM Tryd.prog (.indexAddr 90 (.tmp 0) (.tmp 1)) 0 [a0, (l_6.getD 0 undef)] (fun v33_18 w =>
 oM Tryd.prog (.store 103 (.tmp 0) (.tmp 1)) 0 [v33_18, v32_17] (fun _ w =>
 oM Tryd.prog (.binOp .add 3 (.tmp 0) (.tmp 1) 3) 3 [(l_6.getD 0 undef), (.int .i64 1)] (fun v35_19 w =>
 M_9 [v35_19] w) w) w) w) w)
 (M_9 [(l_6.getD 0 undef)] w)) w) w) w) w) w) w) w))
 (fun l_10 u_l_10 w => (oM Tryd.prog (.binOp .add 3 (.tmp 0) (.tmp 1) 3) 3 [(l_6.getD 1 undef), (.int .i64 1)] (fun v21_20 w =>
 J_4 [(l_10.getD 0 undef), v21_20] w ∧ m_5 [(l_10.getD 0 undef), v21_20] w < m_5 l_6 w0_l_6) w)))
 (oM Tryd.prog (.slice 90 (.tmp 0) (some (.tmp 1)) none none) 90 [a0, (l_6.getD 0 undef)] (fun v38_21 w =>
 oM Tryd.prog (.call (Go.Call.mk (.builtin .clear) #[(.tmp 0)] #[90])) 0 [v38_21] (fun _ w =>
 oM Tryd.prog (.slice 90 (.tmp 0) none (some (.tmp 1)) none) 90 [a0, (l_6.getD 0 undef)] (fun v41_22 w =>
 K v41_22 w) w) w) w)) w) w)) w0_l_6)) w)) w) w
theorem sh_103_eq (a0 : Value) (a1 : Value) (K : Value → World → Prop) (w : World) : sh_103 a0 a1 K w = code Tryd.prog (fun _ => 0) 42 (Tryd.f103.body.getD .skip) (slotsAt [a0, a1]) (retK Tryd.prog [.tmp 4] K) w := by kernel_rfl
theorem sh_103_ok {a0 a1 : Value} {K : Value → World → Prop} {w : World} (h : sh_103 a0 a1 K w) : callM Tryd.prog 103 #[a0, a1] K w :=
  calls_of_code (fun _ => 0) (fn := Tryd.f103) (rs := [.tmp 4]) Tryd.func103 rfl rfl (by kernel_rfl) (Nat.le_of_ble_eq_true rfl) ((sh_103_eq a0 a1 K w).mp h)
def sh_104 (a0 : Value) (a1 : Value) (K : Value → World → Prop) (w : World) : Prop :=
 oM Tryd.prog (.box 103 (.tmp 0)) 0 [a0] (fun v2_1 w =>
 oM Tryd.prog (.fieldAddr 103 (.tmp 0) 0) 0 [v2_1] (fun v4_2 w =>
 oM Tryd.prog (.load 3 (.tmp 0)) 3 [v4_2] (fun v5_3 w =>
 oM Tryd.prog (.load 3 (.tmp 0)) 3 [a1] (fun v6_4 w =>
 oM Tryd.prog (.binOp .eql 3 (.tmp 0) (.tmp 1) 3) 4 [v5_3, v6_4] (fun v7_5 w =>
 K v7_5 w) w) w) w) w) w
theorem sh_104_eq (a0 : Value) (a1 : Value) (K : Value → World → Prop) (w : World) : sh_104 a0 a1 K w = code Tryd.prog (fun _ => 0) 8 (Tryd.f104.body.getD .skip) (slotsAt [a0, a1]) (retK Tryd.prog [.tmp 3] K) w := by kernel_rfl
theorem sh_104_ok {a0 a1 : Value} {K : Value → World → Prop} {w : World} (h : sh_104 a0 a1 K w) : callM Tryd.prog 104 #[a0, a1] K w :=
  calls_of_code (fun _ => 0) (fn := Tryd.f104) (rs := [.tmp 3]) Tryd.func104 rfl rfl (by kernel_rfl) (Nat.le_of_ble_eq_true rfl) ((sh_104_eq a0 a1 K w).mp h)
def sh_105 (a0 : Value) (a1 : Value) (K : Value → World → Prop) (w : World) : Prop :=
 oM Tryd.prog (.range 89 (.tmp 0)) 0 [a0] (fun v7_1 w =>
 loopM [undef] w (fun J_2 m_3 l_4 u_l_4 w0_l_4 => (fun w => (
 oM Tryd.prog (.next (.tmp 0) false) 0 [v7_1] (fun v8_5 w =>
 oM Tryd.prog (.extract (.tmp 0) 0) 4 [v8_5] (fun v9_6 w =>
 condM v9_6
 (oM Tryd.prog (.entry (.tmp 0)) 0 [v7_1] (fun v10_7 w =>
 oM Tryd.prog (.extract (.tmp 0) 0) 103 [v10_7] (fun v11_8 w =>
 oM Tryd.prog (.extract (.tmp 0) 1) 4 [v10_7] (fun v12_9 w =>
 oM Tryd.prog (.alloc 103) 0 [] (fun v4_10 w =>
 oM Tryd.prog (.store 103 (.tmp 0) (.tmp 1)) 0 [v4_10, v11_8] (fun _ w =>
 oM Tryd.prog (.load 103 (.tmp 0)) 103 [v4_10] (fun v14_11 w =>
 oM Tryd.prog (.call (Go.Call.mk (.value (.tmp 0)) #[(.tmp 1), (.tmp 2)] #[103, 4])) 4 [a1, v14_11, v12_9] (fun v16_12 w =>
 condM v16_12
 (oM Tryd.prog (.load 103 (.tmp 0)) 103 [v4_10] (fun v18_13 w =>
 oM Tryd.prog (.call (Go.Call.mk (.builtin .delete) #[(.tmp 0), (.tmp 1)] #[89, 103])) 0 [a0, v18_13] (fun _ w =>
 J_2 [v12_9] w ∧ m_3 [v12_9] w < m_3 l_4 w0_l_4) w) w)
 (J_2 [v12_9] w ∧ m_3 [v12_9] w < m_3 l_4 w0_l_4)) w) w) w) w) w) w) w)
 (K (.tuple #[]) w)) w) w)) w0_l_4)) w
theorem sh_105_eq (a0 : Value) (a1 : Value) (K : Value → World → Prop) (w : World) : sh_105 a0 a1 K w = code Tryd.prog (fun _ => 0) 19 (Tryd.f105.body.getD .skip) (slotsAt [a0, a1]) (retK Tryd.prog [] K) w := by kernel_rfl
theorem sh_105_ok {a0 a1 : Value} {K : Value → World → Prop} {w : World} (h : sh_105 a0 a1 K w) : callM Tryd.prog 105 #[a0, a1] K w :=
  calls_of_code (fun _ => 0) (fn := Tryd.f105) (rs := []) Tryd.func105 rfl rfl (by kernel_rfl) (Nat.le_of_ble_eq_true rfl) ((sh_105_eq a0 a1 K w).mp h)
def sh_106 (a0 : Value) (a1 : Value) (a2 : Value) (K : Value → World → Prop) (w : World) : Prop :=
 oM Tryd.prog (.box 103 (.tmp 0)) 0 [a0] (fun v3_1 w =>
 oM Tryd.prog (.fieldAddr 103 (.tmp 0) 0) 0 [v3_1] (fun v6_2 w =>
 oM Tryd.prog (.load 3 (.tmp 0)) 3 [v6_2] (fun v7_3 w =>
 oM Tryd.prog (.load 3 (.tmp 0)) 3 [a2] (fun v8_4 w =>
 oM Tryd.prog (.binOp .eql 3 (.tmp 0) (.tmp 1) 3) 4 [v7_3, v8_4] (fun v9_5 w =>
 K v9_5 w) w) w) w) w) w
theorem sh_106_eq (a0 : Value) (a1 : Value) (a2 : Value) (K : Value → World → Prop) (w : World) : sh_106 a0 a1 a2 K w = code Tryd.prog (fun _ => 0) 10 (Tryd.f106.body.getD .skip) (slotsAt [a0, a1, a2]) (retK Tryd.prog [.tmp 5] K) w := by kernel_rfl
theorem sh_106_ok {a0 a1 a2 : Value} {K : Value → World → Prop} {w : World} (h : sh_106 a0 a1 a2 K w) : callM Tryd.prog 106 #[a0, a1, a2] K w :=
  calls_of_code (fun _ => 0) (fn := Tryd.f106) (rs := [.tmp 5]) Tryd.func106 rfl rfl (by kernel_rfl) (Nat.le_of_ble_eq_true rfl) ((sh_106_eq a0 a1 a2 K w).mp h)
def sh_119 (a0 : Value) (a1 : Value) (K : Value → World → Prop) (w : World) : Prop :=
 oM Tryd.prog (.call (Go.Call.mk (.builtin .len) #[(.tmp 0)] #[90])) 3 [a0] (fun v7_1 w =>
 loopM [undef, (.int .i64 0), (.int .i64 0)] w (fun J_2 m_3 l_4 u_l_4 w0_l_4 => (fun w => (
 oM Tryd.prog (.binOp .lss 3 (.tmp 0) (.tmp 1) 3) 0 [(l_4.getD 2 undef), v7_1] (fun v9_5 w =>
 condM v9_5
 (oM Tryd.prog (.indexAddr 90 (.tmp 0) (.tmp 1)) 0 [a0, (l_4.getD 2 undef)] (fun v14_6 w =>
 oM Tryd.prog (.load 103 (.tmp 0)) 103 [v14_6] (fun v15_7 w =>
 oM Tryd.prog (.call (Go.Call.mk (.value (.tmp 0)) #[(.tmp 1)] #[103])) 4 [a1, v15_7] (fun v16_8 w =>
 condM v16_8
 (K (l_4.getD 2 undef) w)
 (oM Tryd.prog (.binOp .add 3 (.tmp 0) (.tmp 1) 3) 3 [(l_4.getD 2 undef), (.int .i64 1)] (fun v18_9 w =>
 J_2 [(l_4.getD 2 undef), (l_4.getD 1 undef), v18_9] w ∧ m_3 [(l_4.getD 2 undef), (l_4.getD 1 undef), v18_9] w < m_3 l_4 w0_l_4) w)) w) w) w)
 (K (.int .i64 (-1)) w)) w)) w0_l_4)) w
theorem sh_119_eq (a0 : Value) (a1 : Value) (K : Value → World → Prop) (w : World) : sh_119 a0 a1 K w = code Tryd.prog (fun _ => 0) 19 (Tryd.f119.body.getD .skip) (slotsAt [a0, a1]) (retK Tryd.prog [.tmp 4] K) w := by kernel_rfl
theorem sh_119_ok {a0 a1 : Value} {K : Value → World → Prop} {w : World} (h : sh_119 a0 a1 K w) : callM Tryd.prog 119 #[a0, a1] K w :=
  calls_of_code (fun _ => 0) (fn := Tryd.f119) (rs := [.tmp 4]) Tryd.func119 rfl rfl (by kernel_rfl) (Nat.le_of_ble_eq_true rfl) ((sh_119_eq a0 a1 K w).mp h)
end Go.Proofs
set_option linter.unusedVariables false
set_option maxRecDepth 100000
namespace Go.Proofs
open Go.Sh
def sh_46 (K : Value → World → Prop) (w : World) : Prop :=
 callM Tryd.prog 48 #[] (fun v12_1 w =>
 oM Tryd.prog (.binOp .eql 51 (.tmp 0) (.const (.pointer none)) 51) 4 [v12_1] (fun v14_2 w =>
 condM v14_2
 (K (.bool false) w)
 (callM Tryd.prog 49 #[v12_1, (.int .i64 3)] (fun v17_3 w =>
 oM Tryd.prog (.extract (.tmp 0) 0) 53 [v17_3] (fun v18_4 w =>
 oM Tryd.prog (.extract (.tmp 0) 1) 54 [v17_3] (fun v19_5 w =>
 oM Tryd.prog (.binOp .eql 53 (.tmp 0) (.const (.pointer none)) 53) 4 [v18_4] (fun v21_6 w =>
 condM v21_6
 (K (.bool false) w)
 (callM Tryd.prog 50 #[v18_4, (.string ⟨#[97, 98]⟩)] (fun v23_7 w =>
 callM Tryd.prog 50 #[v18_4, (.string ⟨#[]⟩)] (fun v25_8 w =>
 callM Tryd.prog 52 #[v12_1, (.int .i64 3), (.int .i64 0), (.int .i64 99)] (fun v28_9 w =>
 oM Tryd.prog (.extract (.tmp 0) 0) 9 [v28_9] (fun v29_10 w =>
 oM Tryd.prog (.extract (.tmp 0) 1) 54 [v28_9] (fun v30_11 w =>
 callM Tryd.prog 53 #[v12_1, (.int .i64 4), (.int .i64 0), (.string ⟨#[50, 58, 97, 98, 44, 50, 57, 51, 59, 49, 58, 97, 44, 57, 56, 59]⟩)] (fun v32_12 w =>
 callM Tryd.prog 49 #[v12_1, (.int .i64 4)] (fun v35_13 w =>
 oM Tryd.prog (.extract (.tmp 0) 0) 53 [v35_13] (fun v36_14 w =>
 oM Tryd.prog (.extract (.tmp 0) 1) 54 [v35_13] (fun v37_15 w =>
 oM Tryd.prog (.binOp .eql 53 (.tmp 0) (.const (.pointer none)) 53) 4 [v36_14] (fun v39_16 w =>
 condM v39_16
 (K (.bool false) w)
 (callM Tryd.prog 79 #[(.string ⟨#[]⟩)] (fun v40_17 w =>
 oM Tryd.prog (.binOp .eql 3 (.tmp 0) (.const (.int .i64 0)) 3) 4 [v40_17] (fun v41_18 w =>
 gdM (gd v41_18 true) (callM Tryd.prog 79 #[(.string ⟨#[97]⟩)]) (fun v43_19 w =>
 gdM (gd v41_18 true) (oM Tryd.prog (.binOp .eql 3 (.tmp 0) (.const (.int .i64 97)) 3) 4 [v43_19]) (fun v44_20 w =>
 oM Tryd.prog (.pick (.tmp 0) (.tmp 1) (.tmp 2)) 4 [v41_18, v44_20, (.bool false)] (fun v45_21 w =>
 gdM (gd v45_21 true) (callM Tryd.prog 79 #[(.string ⟨#[97, 98]⟩)]) (fun v47_22 w =>
 gdM (gd v45_21 true) (oM Tryd.prog (.binOp .eql 3 (.tmp 0) (.const (.int .i64 293)) 3) 4 [v47_22]) (fun v48_23 w =>
 oM Tryd.prog (.pick (.tmp 0) (.tmp 1) (.tmp 2)) 4 [v45_21, v48_23, (.bool false)] (fun v49_24 w =>
 oM Tryd.prog (.binOp .eql 54 (.tmp 0) (.const (.int .i64 0)) 54) 4 [v19_5] (fun v51_25 w =>
 gdM (gd v51_25 true) (pureM v23_7) (fun v53_26 w =>
 gdM (gd v51_25 true) (oM Tryd.prog (.binOp .eql 54 (.tmp 0) (.const (.int .i64 0)) 54) 4 [v53_26]) (fun v54_27 w =>
 oM Tryd.prog (.pick (.tmp 0) (.tmp 1) (.tmp 2)) 4 [v51_25, v54_27, (.bool false)] (fun v55_28 w =>
 gdM (gd v55_28 true) (pureM v25_8) (fun v57_29 w =>
 gdM (gd v55_28 true) (oM Tryd.prog (.binOp .eql 54 (.tmp 0) (.const (.int .i64 0)) 54) 4 [v57_29]) (fun v58_30 w =>
 oM Tryd.prog (.pick (.tmp 0) (.tmp 1) (.tmp 2)) 4 [v55_28, v58_30, (.bool false)] (fun v59_31 w =>
 gdM (gd v59_31 true) (pureM v29_10) (fun v61_32 w =>
 gdM (gd v59_31 true) (oM Tryd.prog (.binOp .eql 9 (.tmp 0) (.const (.string ⟨#[50, 58, 97, 98, 44, 50, 57, 51, 59, 48, 58, 44, 48, 59]⟩)) 9) 4 [v61_32]) (fun v62_33 w =>
 oM Tryd.prog (.pick (.tmp 0) (.tmp 1) (.tmp 2)) 4 [v59_31, v62_33, (.bool false)] (fun v63_34 w =>
 gdM (gd v63_34 true) (pureM v18_4) (fun v65_35 w =>
 gdM (gd v63_34 true) (callM Tryd.prog 55 #[v65_35]) (fun v66_36 w =>
 gdM (gd v63_34 true) (oM Tryd.prog (.binOp .eql 3 (.tmp 0) (.const (.int .i64 2)) 3) 4 [v66_36]) (fun v67_37 w =>
 oM Tryd.prog (.pick (.tmp 0) (.tmp 1) (.tmp 2)) 4 [v63_34, v67_37, (.bool false)] (fun v68_38 w =>
 gdM (gd v68_38 true) (pureM v18_4) (fun v70_39 w =>
 gdM (gd v68_38 true) (callM Tryd.prog 56 #[v70_39, (.int .i64 0)]) (fun v71_40 w =>
 gdM (gd v68_38 true) (oM Tryd.prog (.binOp .eql 9 (.tmp 0) (.const (.string ⟨#[97, 98]⟩)) 9) 4 [v71_40]) (fun v72_41 w =>
 oM Tryd.prog (.pick (.tmp 0) (.tmp 1) (.tmp 2)) 4 [v68_38, v72_41, (.bool false)] (fun v73_42 w =>
 gdM (gd v49_24 true) (pureM v73_42) (fun v76_43 w =>
 oM Tryd.prog (.pick (.tmp 0) (.tmp 1) (.tmp 2)) 4 [v49_24, v76_43, (.bool false)] (fun v77_44 w =>
 gdM (gd v77_44 true) (pureM v37_15) (fun v79_45 w =>
 gdM (gd v77_44 true) (oM Tryd.prog (.binOp .eql 54 (.tmp 0) (.const (.int .i64 0)) 54) 4 [v79_45]) (fun v80_46 w =>
 oM Tryd.prog (.pick (.tmp 0) (.tmp 1) (.tmp 2)) 4 [v77_44, v80_46, (.bool false)] (fun v81_47 w =>
 gdM (gd v81_47 true) (pureM v36_14) (fun v83_48 w =>
 gdM (gd v81_47 true) (callM Tryd.prog 54 #[v83_48]) (fun v84_49 w =>
 gdM (gd v81_47 true) (oM Tryd.prog (.buildSlice 23 1 #[(0, (.tmp 0))]) 23 [(.string ⟨#[97, 98]⟩)]) (fun v85_50 w =>
 gdM (gd v81_47 true) (callM Tryd.prog 40 #[v84_49, v85_50]) (fun v86_51 w =>
 oM Tryd.prog (.pick (.tmp 0) (.tmp 1) (.tmp 2)) 4 [v81_47, v86_51, (.bool false)] (fun v87_52 w =>
 gdM (gd v87_52 true) (pureM v12_1) (fun v89_53 w =>
 gdM (gd v87_52 true) (callM Tryd.prog 51 #[v89_53, (.int .i64 4)]) (fun v90_54 w =>
 gdM (gd v87_52 true) (oM Tryd.prog (.binOp .eql 3 (.tmp 0) (.const (.int .i64 9)) 3) 4 [v90_54]) (fun v91_55 w =>
 oM Tryd.prog (.pick (.tmp 0) (.tmp 1) (.tmp 2)) 4 [v87_52, v91_55, (.bool false)] (fun v92_56 w =>
 K v92_56 w) w) w) w) w) w) w) w) w) w) w) w) w) w) w) w) w) w) w) w) w) w) w) w) w) w) w) w) w) w) w) w) w) w) w) w) w) w) w) w) w)) w) w) w) w) w) w) w) w) w) w)) w) w) w) w)) w) w
theorem sh_46_eq (K : Value → World → Prop) (w : World) : sh_46 K w = code Tryd.prog (fun _ => 0) 93 (Tryd.f46.body.getD .skip) (slotsAt []) (retK Tryd.prog [.tmp 0] K) w := by kernel_rfl
theorem sh_46_ok {K : Value → World → Prop} {w : World} (h : sh_46 K w) : callM Tryd.prog 46 #[] K w :=
  calls_of_code (fun _ => 0) (fn := Tryd.f46) (rs := [.tmp 0]) Tryd.func46 rfl rfl (by kernel_rfl) (Nat.le_of_ble_eq_true rfl) ((sh_46_eq K w).mp h)
def sh_49 (a0 : Value) (a1 : Value) (K : Value → World → Prop) (w : World) : Prop :=
 oM Tryd.prog (.binOp .lss 3 (.tmp 0) (.tmp 1) 3) 4 [a1, (.int .i64 0)] (fun v13_1 w =>
 gdM (gd v13_1 false) (pureM a1) (fun v15_2 w =>
 gdM (gd v13_1 false) (oM Tryd.prog (.binOp .gtr 3 (.tmp 0) (.tmp 1) 3) 4 [v15_2, (.int .i64 15)]) (fun v16_3 w =>
 oM Tryd.prog (.pick (.tmp 0) (.tmp 1) (.tmp 2)) 4 [v13_1, (.bool true), v16_3] (fun v17_4 w =>
 condM v17_4
 (K (.tuple #[(.pointer none), (.int .i64 1)]) w)
 (callM Tryd.prog 80 #[a0, a1] (fun v20_5 w =>
 oM Tryd.prog (.binOp .neq 54 (.tmp 0) (.const (.int .i64 0)) 54) 4 [v20_5] (fun v22_6 w =>
 condM v22_6
 (K (.tuple #[(.pointer none), v20_5]) w)
 (callM Tryd.prog 51 #[a0, a1] (fun v29_7 w =>
 callM Tryd.prog 52 #[a0, a1, (.int .i64 0), v29_7] (fun v30_8 w =>
 oM Tryd.prog (.extract (.tmp 0) 0) 9 [v30_8] (fun v31_9 w =>
 oM Tryd.prog (.extract (.tmp 0) 1) 54 [v30_8] (fun v32_10 w =>
 oM Tryd.prog (.binOp .neq 54 (.tmp 0) (.const (.int .i64 0)) 54) 4 [v32_10] (fun v34_11 w =>
 condM v34_11
 (K (.tuple #[(.pointer none), v32_10]) w)
 (callM Tryd.prog 81 #[v31_9] (fun v38_12 w =>
 oM Tryd.prog (.extract (.tmp 0) 0) 23 [v38_12] (fun v39_13 w =>
 oM Tryd.prog (.extract (.tmp 0) 1) 3 [v38_12] (fun v40_14 w =>
 joinM (fun M_15 => (oM Tryd.prog (.call (Go.Call.mk (.builtin .len) #[(.tmp 0)] #[9])) 3 [v31_9] (fun v43_17 w =>
 oM Tryd.prog (.binOp .lss 3 (.tmp 0) (.tmp 1) 3) 4 [v40_14, v43_17] (fun v44_18 w =>
 condM v44_18
 (callM Tryd.prog 82 #[a0, a1, v40_14] (fun v48_19 w =>
 oM Tryd.prog (.binOp .neq 54 (.tmp 0) (.const (.int .i64 0)) 54) 4 [v48_19] (fun v50_20 w =>
 condM v50_20
 (K (.tuple #[(.pointer none), v48_19]) w)
 (M_15 [v48_19, (.pointer none), (.int .i64 0)] w)) w) w)
 (M_15 [undef, (.pointer none), (.int .i64 0)] w)) w) w))
 (fun l_16 u_l_16 w => (oM Tryd.prog (.build 98 #[(0, (.tmp 0)), (1, (.tmp 1)), (2, (.tmp 2)), (3, (.tmp 3))]) 98 [a0, a1, v39_13, v40_14] (fun v56_21 w =>
 oM Tryd.prog (.box 98 (.tmp 0)) 53 [v56_21] (fun v57_22 w =>
 K (.tuple #[v57_22, (.int .i64 0)]) w) w) w))) w) w) w)) w) w) w) w) w)) w) w)) w) w) w) w
theorem sh_49_eq (a0 : Value) (a1 : Value) (K : Value → World → Prop) (w : World) : sh_49 a0 a1 K w = code Tryd.prog (fun _ => 0) 58 (Tryd.f49.body.getD .skip) (slotsAt [a0, a1]) (retK Tryd.prog [.tmp 4, .tmp 5] K) w := by kernel_rfl
theorem sh_49_ok {a0 a1 : Value} {K : Value → World → Prop} {w : World} (h : sh_49 a0 a1 K w) : callM Tryd.prog 49 #[a0, a1] K w :=
  calls_of_code (fun _ => 0) (fn := Tryd.f49) (rs := [.tmp 4, .tmp 5]) Tryd.func49 rfl rfl (by kernel_rfl) (Nat.le_of_ble_eq_true rfl) ((sh_49_eq a0 a1 K w).mp h)
def sh_50 (a0 : Value) (a1 : Value) (K : Value → World → Prop) (w : World) : Prop :=
 callM Tryd.prog 83 #[a1] (fun v8_1 w =>
 oM Tryd.prog (.nilCheck (.tmp 0)) 0 [a0] (fun v11_2 w =>
 oM Tryd.prog (.fieldAddr 98 (.tmp 0) 4) 0 [v11_2] (fun v12_3 w =>
 oM Tryd.prog (.load 4 (.tmp 0)) 4 [v12_3] (fun v13_4 w =>
 condM v13_4
 (K (.int .i64 7) w)
 (oM Tryd.prog (.call (Go.Call.mk (.builtin .len) #[(.tmp 0)] #[9])) 3 [a1] (fun v16_5 w =>
 oM Tryd.prog (.binOp .gtr 3 (.tmp 0) (.tmp 1) 3) 4 [v16_5, (.int .i64 20000)] (fun v17_6 w =>
 condM v17_6
 (K (.int .i64 3) w)
 (oM Tryd.prog (.nilCheck (.tmp 0)) 0 [a0] (fun v20_7 w =>
 oM Tryd.prog (.fieldAddr 98 (.tmp 0) 3) 0 [v20_7] (fun v21_8 w =>
 oM Tryd.prog (.load 3 (.tmp 0)) 3 [v21_8] (fun v22_9 w =>
 oM Tryd.prog (.call (Go.Call.mk (.builtin .len) #[(.tmp 0)] #[9])) 3 [v8_1] (fun v24_10 w =>
 oM Tryd.prog (.binOp .add 3 (.tmp 0) (.tmp 1) 3) 3 [v22_9, v24_10] (fun v25_11 w =>
 oM Tryd.prog (.binOp .gtr 3 (.tmp 0) (.tmp 1) 3) 4 [v25_11, (.int .i64 1048576)] (fun v26_12 w =>
 condM v26_12
 (K (.int .i64 6) w)
 (heldM w (fun C_13 w => (((true : Bool) = true) ∧ (pureH a0 C_13 (fun v27_14 =>
 oH Tryd.prog (.nilCheck (.tmp 0)) 0 [v27_14] C_13 (fun v28_15 =>
 oH Tryd.prog (.fieldAddr 98 (.tmp 0) 0) 0 [v28_15] C_13 (fun v29_16 =>
 oH Tryd.prog (.load 51 (.tmp 0)) 51 [v29_16] C_13 (fun v30_17 =>
 pureH a0 C_13 (fun v31_18 =>
 oH Tryd.prog (.nilCheck (.tmp 0)) 0 [v31_18] C_13 (fun v32_19 =>
 oH Tryd.prog (.fieldAddr 98 (.tmp 0) 1) 0 [v32_19] C_13 (fun v33_20 =>
 oH Tryd.prog (.load 3 (.tmp 0)) 3 [v33_20] C_13 (fun v34_21 =>
 pureH a0 C_13 (fun v35_22 =>
 oH Tryd.prog (.nilCheck (.tmp 0)) 0 [v35_22] C_13 (fun v36_23 =>
 oH Tryd.prog (.fieldAddr 98 (.tmp 0) 3) 0 [v36_23] C_13 (fun v37_24 =>
 oH Tryd.prog (.load 3 (.tmp 0)) 3 [v37_24] C_13 (fun v38_25 =>
 pureH v8_1 C_13 (fun v39_26 =>
 ∃ S_27 : World → World → Prop, ∀ w, C_13 w → (
 callM Tryd.prog 53 #[v30_17, v34_21, v38_25, v39_26] (fun v40_28 w =>
 oM Tryd.prog (.binOp .neq 54 (.tmp 0) (.const (.int .i64 0)) 54) 4 [v40_28] (fun v42_29 w =>
 condM v42_29
 (oM Tryd.prog (.nilCheck (.tmp 0)) 0 [a0] (fun v44_30 w =>
 oM Tryd.prog (.fieldAddr 98 (.tmp 0) 4) 0 [v44_30] (fun v45_31 w =>
 oM Tryd.prog (.store 4 (.tmp 0) (.tmp 1)) 0 [v45_31, (.bool true)] (fun _ w =>
 K v40_28 w) w) w) w)
 (stageM w (fun C_32 w => (pureH a0 (upto C_32 2) (fun v47_33 =>
 pureH a0 (upto C_32 5) (fun v48_34 =>
 pureH a0 (upto C_32 1) (fun v49_35 =>
 oH Tryd.prog (.nilCheck (.tmp 0)) 0 [v49_35] (upto C_32 1) (fun v50_36 =>
 oH Tryd.prog (.fieldAddr 98 (.tmp 0) 2) 0 [v50_36] (upto C_32 1) (fun v51_37 =>
 oH Tryd.prog (.load 23 (.tmp 0)) 23 [v51_37] (upto C_32 1) (fun v52_38 =>
 pureH a1 (upto C_32 0) (fun v53_39 =>
 pureH a0 (upto C_32 2) (fun v56_40 =>
 oH Tryd.prog (.nilCheck (.tmp 0)) 0 [v56_40] (upto C_32 2) (fun v57_41 =>
 oH Tryd.prog (.fieldAddr 98 (.tmp 0) 3) 0 [v57_41] (upto C_32 2) (fun v58_42 =>
 oH Tryd.prog (.load 3 (.tmp 0)) 3 [v58_42] (upto C_32 2) (fun v59_43 =>
 pureH v8_1 (upto C_32 5) (fun v60_44 =>
 oH Tryd.prog (.call (Go.Call.mk (.builtin .len) #[(.tmp 0)] #[9])) 3 [v60_44] (upto C_32 5) (fun v61_45 =>
 oH Tryd.prog (.binOp .add 3 (.tmp 0) (.tmp 1) 3) 3 [v59_43, v61_45] (upto C_32 5) (fun v62_46 =>
 oM Tryd.prog (.buildSlice 23 1 #[(0, (.tmp 0))]) 23 [v53_39] (fun v54_47 w => C_32 1 w ∧ (
 oM Tryd.prog (.call (Go.Call.mk (.builtin .append) #[(.tmp 0), (.tmp 1)] #[23, 23])) 23 [v52_38, v54_47] (fun v55_48 w => C_32 2 w ∧ (
 oM Tryd.prog (.nilCheck (.tmp 0)) 0 [v47_33] (fun v63_49 w => C_32 3 w ∧ (
 oM Tryd.prog (.fieldAddr 98 (.tmp 0) 2) 0 [v63_49] (fun v64_50 w => C_32 4 w ∧ (
 oM Tryd.prog (.store 23 (.tmp 0) (.tmp 1)) 0 [v64_50, v55_48] (fun _ w => C_32 5 w ∧ (
 oM Tryd.prog (.nilCheck (.tmp 0)) 0 [v48_34] (fun v65_51 w => C_32 6 w ∧ (
 oM Tryd.prog (.fieldAddr 98 (.tmp 0) 3) 0 [v65_51] (fun v66_52 w => C_32 7 w ∧ (
 oM Tryd.prog (.store 3 (.tmp 0) (.tmp 1)) 0 [v66_52, v62_46] (fun _ w => C_32 8 w ∧ (
 K (.int .i64 0) w)) w)) w)) w)) w)) w)) w)) w)) w)))))))))))))))))) w) w))))))))))))))))))) w) w) w) w) w) w)) w) w)) w) w) w) w
theorem sh_50_eq (a0 : Value) (a1 : Value) (K : Value → World → Prop) (w : World) : sh_50 a0 a1 K w = code Tryd.prog (fun i => bif Nat.beq i 8 then .free [0, 1, 2, 3, 4, 5, 6, 7, 8, 9, 10, 11, 12] [] [13, 14] else bif Nat.beq i 12 then 3 else 0) 67 (Tryd.f50.body.getD .skip) (slotsAt [a0, a1]) (retK Tryd.prog [.tmp 4] K) w := by kernel_rfl
theorem sh_50_ok {a0 a1 : Value} {K : Value → World → Prop} {w : World} (h : sh_50 a0 a1 K w) : callM Tryd.prog 50 #[a0, a1] K w :=
  calls_of_code (fun i => bif Nat.beq i 8 then .free [0, 1, 2, 3, 4, 5, 6, 7, 8, 9, 10, 11, 12] [] [13, 14] else bif Nat.beq i 12 then 3 else 0) (fn := Tryd.f50) (rs := [.tmp 4]) Tryd.func50 rfl rfl (by kernel_rfl) (Nat.le_of_ble_eq_true rfl) ((sh_50_eq a0 a1 K w).mp h)
def sh_54 (a0 : Value) (K : Value → World → Prop) (w : World) : Prop :=
 oM Tryd.prog (.nilCheck (.tmp 0)) 0 [a0] (fun v5_1 w =>
 oM Tryd.prog (.fieldAddr 98 (.tmp 0) 2) 0 [v5_1] (fun v6_2 w =>
 oM Tryd.prog (.load 23 (.tmp 0)) 23 [v6_2] (fun v7_3 w =>
 oM Tryd.prog (.call (Go.Call.mk (.builtin .len) #[(.tmp 0)] #[23])) 3 [v7_3] (fun v8_4 w =>
 oM Tryd.prog (.makeSlice 23 (.tmp 0) (.tmp 1)) 23 [v8_4, v8_4] (fun v9_5 w =>
 oM Tryd.prog (.nilCheck (.tmp 0)) 0 [a0] (fun v12_6 w =>
 oM Tryd.prog (.fieldAddr 98 (.tmp 0) 2) 0 [v12_6] (fun v13_7 w =>
 oM Tryd.prog (.load 23 (.tmp 0)) 23 [v13_7] (fun v14_8 w =>
 oM Tryd.prog (.call (Go.Call.mk (.builtin .copy) #[(.tmp 0), (.tmp 1)] #[23, 23])) 3 [v9_5, v14_8] (fun v15_9 w =>
 K v9_5 w) w) w) w) w) w) w) w) w) w
theorem sh_54_eq (a0 : Value) (K : Value → World → Prop) (w : World) : sh_54 a0 K w = code Tryd.prog (fun _ => 0) 17 (Tryd.f54.body.getD .skip) (slotsAt [a0]) (retK Tryd.prog [.tmp 2] K) w := by kernel_rfl
theorem sh_54_ok {a0 : Value} {K : Value → World → Prop} {w : World} (h : sh_54 a0 K w) : callM Tryd.prog 54 #[a0] K w :=
  calls_of_code (fun _ => 0) (fn := Tryd.f54) (rs := [.tmp 2]) Tryd.func54 rfl rfl (by kernel_rfl) (Nat.le_of_ble_eq_true rfl) ((sh_54_eq a0 K w).mp h)
def sh_55 (a0 : Value) (K : Value → World → Prop) (w : World) : Prop :=
 oM Tryd.prog (.nilCheck (.tmp 0)) 0 [a0] (fun v4_1 w =>
 oM Tryd.prog (.fieldAddr 98 (.tmp 0) 2) 0 [v4_1] (fun v5_2 w =>
 oM Tryd.prog (.load 23 (.tmp 0)) 23 [v5_2] (fun v6_3 w =>
 oM Tryd.prog (.call (Go.Call.mk (.builtin .len) #[(.tmp 0)] #[23])) 3 [v6_3] (fun v7_4 w =>
 K v7_4 w) w) w) w) w
theorem sh_55_eq (a0 : Value) (K : Value → World → Prop) (w : World) : sh_55 a0 K w = code Tryd.prog (fun _ => 0) 8 (Tryd.f55.body.getD .skip) (slotsAt [a0]) (retK Tryd.prog [.tmp 2] K) w := by kernel_rfl
theorem sh_55_ok {a0 : Value} {K : Value → World → Prop} {w : World} (h : sh_55 a0 K w) : callM Tryd.prog 55 #[a0] K w :=
  calls_of_code (fun _ => 0) (fn := Tryd.f55) (rs := [.tmp 2]) Tryd.func55 rfl rfl (by kernel_rfl) (Nat.le_of_ble_eq_true rfl) ((sh_55_eq a0 K w).mp h)
def sh_56 (a0 : Value) (a1 : Value) (K : Value → World → Prop) (w : World) : Prop :=
 oM Tryd.prog (.binOp .lss 3 (.tmp 0) (.tmp 1) 3) 4 [a1, (.int .i64 0)] (fun v6_1 w =>
 gdM (gd v6_1 false) (pureM a1) (fun v8_2 w =>
 gdM (gd v6_1 false) (pureM a0) (fun v9_3 w =>
 gdM (gd v6_1 false) (oM Tryd.prog (.nilCheck (.tmp 0)) 0 [v9_3]) (fun v10_4 w =>
 gdM (gd v6_1 false) (oM Tryd.prog (.fieldAddr 98 (.tmp 0) 2) 0 [v10_4]) (fun v11_5 w =>
 gdM (gd v6_1 false) (oM Tryd.prog (.load 23 (.tmp 0)) 23 [v11_5]) (fun v12_6 w =>
 gdM (gd v6_1 false) (oM Tryd.prog (.call (Go.Call.mk (.builtin .len) #[(.tmp 0)] #[23])) 3 [v12_6]) (fun v13_7 w =>
 gdM (gd v6_1 false) (oM Tryd.prog (.binOp .geq 3 (.tmp 0) (.tmp 1) 3) 4 [v8_2, v13_7]) (fun v14_8 w =>
 oM Tryd.prog (.pick (.tmp 0) (.tmp 1) (.tmp 2)) 4 [v6_1, (.bool true), v14_8] (fun v15_9 w =>
 condM v15_9
 (K (.string ⟨#[]⟩) w)
 (oM Tryd.prog (.nilCheck (.tmp 0)) 0 [a0] (fun v17_10 w =>
 oM Tryd.prog (.fieldAddr 98 (.tmp 0) 2) 0 [v17_10] (fun v18_11 w =>
 oM Tryd.prog (.load 23 (.tmp 0)) 23 [v18_11] (fun v19_12 w =>
 oM Tryd.prog (.indexAddr 23 (.tmp 0) (.tmp 1)) 0 [v19_12, a1] (fun v21_13 w =>
 oM Tryd.prog (.load 9 (.tmp 0)) 9 [v21_13] (fun v22_14 w =>
 K v22_14 w) w) w) w) w) w)) w) w) w) w) w) w) w) w) w
theorem sh_56_eq (a0 : Value) (a1 : Value) (K : Value → World → Prop) (w : World) : sh_56 a0 a1 K w = code Tryd.prog (fun _ => 0) 23 (Tryd.f56.body.getD .skip) (slotsAt [a0, a1]) (retK Tryd.prog [.tmp 4] K) w := by kernel_rfl
theorem sh_56_ok {a0 a1 : Value} {K : Value → World → Prop} {w : World} (h : sh_56 a0 a1 K w) : callM Tryd.prog 56 #[a0, a1] K w :=
  calls_of_code (fun _ => 0) (fn := Tryd.f56) (rs := [.tmp 4]) Tryd.func56 rfl rfl (by kernel_rfl) (Nat.le_of_ble_eq_true rfl) ((sh_56_eq a0 a1 K w).mp h)
def sh_61 (a0 : Value) (K : Value → World → Prop) (w : World) : Prop :=
 oM Tryd.prog (.nilCheck (.tmp 0)) 0 [a0] (fun v5_1 w =>
 oM Tryd.prog (.fieldAddr 98 (.tmp 0) 4) 0 [v5_1] (fun v6_2 w =>
 oM Tryd.prog (.load 4 (.tmp 0)) 4 [v6_2] (fun v7_3 w =>
 condM v7_3
 (K (.int .i64 7) w)
 (heldM w (fun C_4 w => (((true : Bool) = true) ∧ (pureH a0 C_4 (fun v8_5 =>
 oH Tryd.prog (.nilCheck (.tmp 0)) 0 [v8_5] C_4 (fun v9_6 =>
 oH Tryd.prog (.fieldAddr 98 (.tmp 0) 0) 0 [v9_6] C_4 (fun v10_7 =>
 oH Tryd.prog (.load 51 (.tmp 0)) 51 [v10_7] C_4 (fun v11_8 =>
 pureH a0 C_4 (fun v12_9 =>
 oH Tryd.prog (.nilCheck (.tmp 0)) 0 [v12_9] C_4 (fun v13_10 =>
 oH Tryd.prog (.fieldAddr 98 (.tmp 0) 1) 0 [v13_10] C_4 (fun v14_11 =>
 oH Tryd.prog (.load 3 (.tmp 0)) 3 [v14_11] C_4 (fun v15_12 =>
 ∃ S_13 : World → World → Prop, ∀ w, C_4 w → (
 callM Tryd.prog 80 #[v11_8, v15_12] (fun v16_14 w =>
 oM Tryd.prog (.binOp .neq 54 (.tmp 0) (.const (.int .i64 0)) 54) 4 [v16_14] (fun v19_15 w =>
 oM Tryd.prog (.nilCheck (.tmp 0)) 0 [a0] (fun v20_16 w =>
 oM Tryd.prog (.fieldAddr 98 (.tmp 0) 4) 0 [v20_16] (fun v21_17 w =>
 oM Tryd.prog (.store 4 (.tmp 0) (.tmp 1)) 0 [v21_17, v19_15] (fun _ w =>
 K v16_14 w) w) w) w) w) w)))))))))))))) w) w) w
theorem sh_61_eq (a0 : Value) (K : Value → World → Prop) (w : World) : sh_61 a0 K w = code Tryd.prog (fun _ => .free [0, 1, 2, 3, 4, 5, 6, 7] [] [8, 9]) 23 (Tryd.f61.body.getD .skip) (slotsAt [a0]) (retK Tryd.prog [.tmp 2] K) w := by kernel_rfl
theorem sh_61_ok {a0 : Value} {K : Value → World → Prop} {w : World} (h : sh_61 a0 K w) : callM Tryd.prog 61 #[a0] K w :=
  calls_of_code (fun _ => .free [0, 1, 2, 3, 4, 5, 6, 7] [] [8, 9]) (fn := Tryd.f61) (rs := [.tmp 2]) Tryd.func61 rfl rfl (by kernel_rfl) (Nat.le_of_ble_eq_true rfl) ((sh_61_eq a0 K w).mp h)
def sh_79 (a0 : Value) (K : Value → World → Prop) (w : World) : Prop :=
 oM Tryd.prog (.call (Go.Call.mk (.builtin .len) #[(.tmp 0)] #[9])) 3 [a0] (fun v6_1 w =>
 loopM [undef, (.int .i64 0), (.int .i64 0)] w (fun J_2 m_3 l_4 u_l_4 w0_l_4 => (fun w => (
 oM Tryd.prog (.binOp .lss 3 (.tmp 0) (.tmp 1) 3) 4 [(l_4.getD 2 undef), v6_1] (fun v8_5 w =>
 condM v8_5
 (oM Tryd.prog (.index 9 (.tmp 0) (.tmp 1)) 5 [a0, (l_4.getD 2 undef)] (fun v13_6 w =>
 oM Tryd.prog (.convert 5 3 (.tmp 0)) 3 [v13_6] (fun v14_7 w =>
 oM Tryd.prog (.binOp .add 3 (.tmp 0) (.tmp 1) 3) 3 [(l_4.getD 2 undef), (.int .i64 1)] (fun v16_8 w =>
 oM Tryd.prog (.binOp .mul 3 (.tmp 0) (.tmp 1) 3) 3 [v14_7, v16_8] (fun v17_9 w =>
 oM Tryd.prog (.binOp .add 3 (.tmp 0) (.tmp 1) 3) 3 [(l_4.getD 1 undef), v17_9] (fun v18_10 w =>
 oM Tryd.prog (.binOp .add 3 (.tmp 0) (.tmp 1) 3) 3 [(l_4.getD 2 undef), (.int .i64 1)] (fun v19_11 w =>
 J_2 [(l_4.getD 2 undef), v18_10, v19_11] w ∧ m_3 [(l_4.getD 2 undef), v18_10, v19_11] w < m_3 l_4 w0_l_4) w) w) w) w) w) w)
 (K (l_4.getD 1 undef) w)) w)) w0_l_4)) w
theorem sh_79_eq (a0 : Value) (K : Value → World → Prop) (w : World) : sh_79 a0 K w = code Tryd.prog (fun _ => 0) 21 (Tryd.f79.body.getD .skip) (slotsAt [a0]) (retK Tryd.prog [.tmp 2] K) w := by kernel_rfl
theorem sh_79_ok {a0 : Value} {K : Value → World → Prop} {w : World} (h : sh_79 a0 K w) : callM Tryd.prog 79 #[a0] K w :=
  calls_of_code (fun _ => 0) (fn := Tryd.f79) (rs := [.tmp 2]) Tryd.func79 rfl rfl (by kernel_rfl) (Nat.le_of_ble_eq_true rfl) ((sh_79_eq a0 K w).mp h)
def sh_81 (a0 : Value) (K : Value → World → Prop) (w : World) : Prop :=
 joinM (fun M_1 => (loopM [undef, undef, undef, undef, undef, (.slice none 0 0), (.int .i64 0)] w (fun J_3 m_4 l_5 u_l_5 w0_l_5 => (fun w => (
 oM Tryd.prog (.call (Go.Call.mk (.builtin .len) #[(.tmp 0)] #[9])) 3 [a0] (fun v12_6 w =>
 oM Tryd.prog (.binOp .lss 3 (.tmp 0) (.tmp 1) 3) 4 [(l_5.getD 6 undef), v12_6] (fun v13_7 w =>
 condM v13_7
 (oM Tryd.prog (.slice 9 (.tmp 0) (some (.tmp 1)) none none) 9 [a0, (l_5.getD 6 undef)] (fun v16_8 w =>
 callM Tryd.prog 23 #[v16_8] (fun v17_9 w =>
 callM Tryd.prog 27 #[v17_9] (fun v19_10 w =>
 callM Tryd.prog 25 #[v17_9] (fun v21_11 w =>
 callM Tryd.prog 83 #[v19_10] (fun v23_12 w =>
 joinM (fun M_13 => (oM Tryd.prog (.call (Go.Call.mk (.builtin .len) #[(.tmp 0)] #[9])) 3 [v19_10] (fun v26_15 w =>
 oM Tryd.prog (.binOp .gtr 3 (.tmp 0) (.tmp 1) 3) 4 [v26_15, (.int .i64 20000)] (fun v27_16 w =>
 condM v27_16
 (M_13 [v27_16] w)
 (callM Tryd.prog 79 #[v19_10] (fun v30_17 w =>
 oM Tryd.prog (.binOp .neq 3 (.tmp 0) (.tmp 1) 3) 4 [v21_11, v30_17] (fun v31_18 w =>
 condM v31_18
 (M_13 [v31_18] w)
 (oM Tryd.prog (.call (Go.Call.mk (.builtin .len) #[(.tmp 0)] #[9])) 3 [a0] (fun v33_19 w =>
 oM Tryd.prog (.binOp .sub 3 (.tmp 0) (.tmp 1) 3) 3 [v33_19, (l_5.getD 6 undef)] (fun v35_20 w =>
 oM Tryd.prog (.call (Go.Call.mk (.builtin .len) #[(.tmp 0)] #[9])) 3 [v23_12] (fun v37_21 w =>
 oM Tryd.prog (.binOp .lss 3 (.tmp 0) (.tmp 1) 3) 4 [v35_20, v37_21] (fun v38_22 w =>
 condM v38_22
 (M_13 [v38_22] w)
 (oM Tryd.prog (.call (Go.Call.mk (.builtin .len) #[(.tmp 0)] #[9])) 3 [v23_12] (fun v43_23 w =>
 oM Tryd.prog (.binOp .add 3 (.tmp 0) (.tmp 1) 3) 3 [(l_5.getD 6 undef), v43_23] (fun v44_24 w =>
 oM Tryd.prog (.slice 9 (.tmp 0) (some (.tmp 1)) (some (.tmp 2)) none) 9 [a0, (l_5.getD 6 undef), v44_24] (fun v45_25 w =>
 oM Tryd.prog (.binOp .neq 9 (.tmp 0) (.tmp 1) 9) 4 [v45_25, v23_12] (fun v47_26 w =>
 M_13 [v47_26] w) w) w) w) w)) w) w) w) w)) w) w)) w) w))
 (fun l_14 u_l_14 w => (condM (l_14.getD 0 undef)
 (M_1 [v17_9, v19_10, v21_11, v23_12, (l_14.getD 0 undef), (l_5.getD 5 undef), (l_5.getD 6 undef)] w)
 (oM Tryd.prog (.buildSlice 23 1 #[(0, (.tmp 0))]) 23 [v19_10] (fun v50_27 w =>
 oM Tryd.prog (.call (Go.Call.mk (.builtin .append) #[(.tmp 0), (.tmp 1)] #[23, 23])) 23 [(l_5.getD 5 undef), v50_27] (fun v51_28 w =>
 oM Tryd.prog (.call (Go.Call.mk (.builtin .len) #[(.tmp 0)] #[9])) 3 [v23_12] (fun v54_29 w =>
 oM Tryd.prog (.binOp .add 3 (.tmp 0) (.tmp 1) 3) 3 [(l_5.getD 6 undef), v54_29] (fun v55_30 w =>
 J_3 [v17_9, v19_10, v21_11, v23_12, (l_14.getD 0 undef), v51_28, v55_30] w ∧ m_4 [v17_9, v19_10, v21_11, v23_12, (l_14.getD 0 undef), v51_28, v55_30] w < m_4 l_5 w0_l_5) w) w) w) w)))) w) w) w) w) w)
 (M_1 [(l_5.getD 0 undef), (l_5.getD 1 undef), (l_5.getD 2 undef), (l_5.getD 3 undef), (l_5.getD 4 undef), (l_5.getD 5 undef), (l_5.getD 6 undef)] w)) w) w)) w0_l_5)))
 (fun l_2 u_l_2 w => (K (.tuple #[(l_2.getD 5 undef), (l_2.getD 6 undef)]) w))
theorem sh_81_eq (a0 : Value) (K : Value → World → Prop) (w : World) : sh_81 a0 K w = code Tryd.prog (fun _ => 0) 58 (Tryd.f81.body.getD .skip) (slotsAt [a0]) (retK Tryd.prog [.tmp 2, .tmp 3] K) w := by kernel_rfl
theorem sh_81_ok {a0 : Value} {K : Value → World → Prop} {w : World} (h : sh_81 a0 K w) : callM Tryd.prog 81 #[a0] K w :=
  calls_of_code (fun _ => 0) (fn := Tryd.f81) (rs := [.tmp 2, .tmp 3]) Tryd.func81 rfl rfl (by kernel_rfl) (Nat.le_of_ble_eq_true rfl) ((sh_81_eq a0 K w).mp h)
def sh_83 (a0 : Value) (K : Value → World → Prop) (w : World) : Prop :=
 callM Tryd.prog 17 #[a0] (fun v4_1 w =>
 callM Tryd.prog 79 #[a0] (fun v6_2 w =>
 callM Tryd.prog 13 #[v6_2] (fun v7_3 w =>
 oM Tryd.prog (.binOp .add 9 (.tmp 0) (.tmp 1) 9) 9 [v4_1, v7_3] (fun v8_4 w =>
 K v8_4 w) w) w) w) w
theorem sh_83_eq (a0 : Value) (K : Value → World → Prop) (w : World) : sh_83 a0 K w = code Tryd.prog (fun _ => 0) 9 (Tryd.f83.body.getD .skip) (slotsAt [a0]) (retK Tryd.prog [.tmp 2] K) w := by kernel_rfl
theorem sh_83_ok {a0 : Value} {K : Value → World → Prop} {w : World} (h : sh_83 a0 K w) : callM Tryd.prog 83 #[a0] K w :=
  calls_of_code (fun _ => 0) (fn := Tryd.f83) (rs := [.tmp 2]) Tryd.func83 rfl rfl (by kernel_rfl) (Nat.le_of_ble_eq_true rfl) ((sh_83_eq a0 K w).mp h)
end Go.Proofs
set_option linter.unusedVariables false
set_option maxRecDepth 100000
namespace Go.Proofs
open Go.Sh
def sh_11 (K : Value → World → Prop) (w : World) : Prop :=
 callM Tryd.prog 13 #[(.int .i64 0)] (fun v5_1 w =>
 oM Tryd.prog (.binOp .eql 9 (.tmp 0) (.const (.string ⟨#[48, 59]⟩)) 9) 4 [v5_1] (fun v6_2 w =>
 gdM (gd v6_2 true) (callM Tryd.prog 13 #[(.int .i64 300)]) (fun v8_3 w =>
 gdM (gd v6_2 true) (oM Tryd.prog (.binOp .eql 9 (.tmp 0) (.const (.string ⟨#[51, 48, 48, 59]⟩)) 9) 4 [v8_3]) (fun v9_4 w =>
 oM Tryd.prog (.pick (.tmp 0) (.tmp 1) (.tmp 2)) 4 [v6_2, v9_4, (.bool false)] (fun v10_5 w =>
 gdM (gd v10_5 true) (callM Tryd.prog 13 #[(.int .i64 (-1))]) (fun v12_6 w =>
 gdM (gd v10_5 true) (oM Tryd.prog (.binOp .eql 9 (.tmp 0) (.const (.string ⟨#[]⟩)) 9) 4 [v12_6]) (fun v13_7 w =>
 oM Tryd.prog (.pick (.tmp 0) (.tmp 1) (.tmp 2)) 4 [v10_5, v13_7, (.bool false)] (fun v14_8 w =>
 gdM (gd v14_8 true) (callM Tryd.prog 15 #[(.int .i64 (-7))]) (fun v16_9 w =>
 gdM (gd v14_8 true) (oM Tryd.prog (.binOp .eql 9 (.tmp 0) (.const (.string ⟨#[45, 55, 59]⟩)) 9) 4 [v16_9]) (fun v17_10 w =>
 oM Tryd.prog (.pick (.tmp 0) (.tmp 1) (.tmp 2)) 4 [v14_8, v17_10, (.bool false)] (fun v18_11 w =>
 gdM (gd v18_11 true) (callM Tryd.prog 15 #[(.int .i64 7)]) (fun v20_12 w =>
 gdM (gd v18_11 true) (oM Tryd.prog (.binOp .eql 9 (.tmp 0) (.const (.string ⟨#[55, 59]⟩)) 9) 4 [v20_12]) (fun v21_13 w =>
 oM Tryd.prog (.pick (.tmp 0) (.tmp 1) (.tmp 2)) 4 [v18_11, v21_13, (.bool false)] (fun v22_14 w =>
 callM Tryd.prog 17 #[(.string ⟨#[97, 44, 98]⟩)] (fun v23_15 w =>
 oM Tryd.prog (.binOp .eql 9 (.tmp 0) (.const (.string ⟨#[51, 58, 97, 44, 98, 44]⟩)) 9) 4 [v23_15] (fun v24_16 w =>
 gdM (gd v24_16 true) (oM Tryd.prog (.buildSlice 22 2 #[(0, (.tmp 0)), (1, (.tmp 1))]) 22 [(.int .i64 1), (.int .i64 (-1))]) (fun v26_17 w =>
 gdM (gd v24_16 true) (callM Tryd.prog 19 #[v26_17]) (fun v27_18 w =>
 gdM (gd v24_16 true) (oM Tryd.prog (.binOp .eql 9 (.tmp 0) (.const (.string ⟨#[50, 91, 49, 59, 45, 49, 59, 93]⟩)) 9) 4 [v27_18]) (fun v28_19 w =>
 oM Tryd.prog (.pick (.tmp 0) (.tmp 1) (.tmp 2)) 4 [v24_16, v28_19, (.bool false)] (fun v29_20 w =>
 gdM (gd v29_20 true) (callM Tryd.prog 21 #[(.slice none 0 0)]) (fun v31_21 w =>
 gdM (gd v29_20 true) (oM Tryd.prog (.binOp .eql 9 (.tmp 0) (.const (.string ⟨#[48, 91, 93]⟩)) 9) 4 [v31_21]) (fun v32_22 w =>
 oM Tryd.prog (.pick (.tmp 0) (.tmp 1) (.tmp 2)) 4 [v29_20, v32_22, (.bool false)] (fun v33_23 w =>
 callM Tryd.prog 23 #[(.string ⟨#[48, 48, 55, 59]⟩)] (fun v34_24 w =>
 oM Tryd.prog (.binOp .eql 34 (.tmp 0) (.const (.pointer none)) 34) 4 [v34_24] (fun v36_25 w =>
 condM v36_25
 (K (.bool false) w)
 (callM Tryd.prog 25 #[v34_24] (fun v38_26 w =>
 gdM (gd v22_14 true) (pureM v33_23) (fun v41_27 w =>
 oM Tryd.prog (.pick (.tmp 0) (.tmp 1) (.tmp 2)) 4 [v22_14, v41_27, (.bool false)] (fun v42_28 w =>
 gdM (gd v42_28 true) (pureM v38_26) (fun v44_29 w =>
 gdM (gd v42_28 true) (oM Tryd.prog (.binOp .eql 3 (.tmp 0) (.const (.int .i64 0)) 3) 4 [v44_29]) (fun v45_30 w =>
 oM Tryd.prog (.pick (.tmp 0) (.tmp 1) (.tmp 2)) 4 [v42_28, v45_30, (.bool false)] (fun v46_31 w =>
 gdM (gd v46_31 true) (pureM v34_24) (fun v48_32 w =>
 gdM (gd v46_31 true) (callM Tryd.prog 30 #[v48_32]) (fun v49_33 w =>
 gdM (gd v46_31 true) (oM Tryd.prog (.binOp .eql 3 (.tmp 0) (.const (.int .i64 0)) 3) 4 [v49_33]) (fun v50_34 w =>
 oM Tryd.prog (.pick (.tmp 0) (.tmp 1) (.tmp 2)) 4 [v46_31, v50_34, (.bool false)] (fun v51_35 w =>
 gdM (gd v51_35 true) (pureM v34_24) (fun v53_36 w =>
 gdM (gd v51_35 true) (callM Tryd.prog 31 #[v53_36]) (fun v54_37 w =>
 gdM (gd v51_35 true) (oM Tryd.prog (.unOp .not 4 (.tmp 0)) 4 [v54_37]) (fun v55_38 w =>
 oM Tryd.prog (.pick (.tmp 0) (.tmp 1) (.tmp 2)) 4 [v51_35, v55_38, (.bool false)] (fun v56_39 w =>
 K v56_39 w) w) w) w) w) w) w) w) w) w) w) w) w) w) w)) w) w) w) w) w) w) w) w) w) w) w) w) w) w) w) w) w) w) w) w) w) w) w) w) w
theorem sh_11_eq (K : Value → World → Prop) (w : World) : sh_11 K w = code Tryd.prog (fun _ => 0) 57 (Tryd.f11.body.getD .skip) (slotsAt []) (retK Tryd.prog [.tmp 0] K) w := by kernel_rfl
theorem sh_11_ok {K : Value → World → Prop} {w : World} (h : sh_11 K w) : callM Tryd.prog 11 #[] K w :=
  calls_of_code (fun _ => 0) (fn := Tryd.f11) (rs := [.tmp 0]) Tryd.func11 rfl rfl (by kernel_rfl) (Nat.le_of_ble_eq_true rfl) ((sh_11_eq K w).mp h)
def sh_12 (a0 : Value) (K : Value → World → Prop) (w : World) : Prop :=
 oM Tryd.prog (.call (Go.Call.mk (.builtin .len) #[(.tmp 0)] #[28])) 3 [a0] (fun v7_1 w =>
 oM Tryd.prog (.binOp .gtr 3 (.tmp 0) (.tmp 1) 3) 4 [v7_1, (.int .i64 20)] (fun v8_2 w =>
 condM v8_2
 (K (.bool false) w)
 (loopM [(.bool false), (.int .i64 0), undef, (.int .i64 0)] w (fun J_3 m_4 l_5 u_l_5 w0_l_5 => (fun w => (
 oM Tryd.prog (.call (Go.Call.mk (.builtin .len) #[(.tmp 0)] #[28])) 3 [a0] (fun v11_6 w =>
 oM Tryd.prog (.binOp .lss 3 (.tmp 0) (.tmp 1) 3) 4 [(l_5.getD 3 undef), v11_6] (fun v12_7 w =>
 condM v12_7
 (oM Tryd.prog (.indexAddr 28 (.tmp 0) (.tmp 1)) 0 [a0, (l_5.getD 3 undef)] (fun v17_8 w =>
 oM Tryd.prog (.fieldAddr 25 (.tmp 0) 3) 0 [v17_8] (fun v18_9 w =>
 oM Tryd.prog (.load 22 (.tmp 0)) 22 [v18_9] (fun v19_10 w =>
 oM Tryd.prog (.call (Go.Call.mk (.builtin .len) #[(.tmp 0)] #[22])) 3 [v19_10] (fun v20_11 w =>
 oM Tryd.prog (.binOp .gtr 3 (.tmp 0) (.tmp 1) 3) 4 [v20_11, (.int .i64 400)] (fun v21_12 w =>
 gdM (gd v21_12 false) (pureM a0) (fun v23_13 w =>
 gdM (gd v21_12 false) (pureM (l_5.getD 3 undef)) (fun v24_14 w =>
 gdM (gd v21_12 false) (oM Tryd.prog (.indexAddr 28 (.tmp 0) (.tmp 1)) 0 [v23_13, v24_14]) (fun v25_15 w =>
 gdM (gd v21_12 false) (oM Tryd.prog (.fieldAddr 25 (.tmp 0) 4) 0 [v25_15]) (fun v26_16 w =>
 gdM (gd v21_12 false) (oM Tryd.prog (.load 23 (.tmp 0)) 23 [v26_16]) (fun v27_17 w =>
 gdM (gd v21_12 false) (oM Tryd.prog (.call (Go.Call.mk (.builtin .len) #[(.tmp 0)] #[23])) 3 [v27_17]) (fun v28_18 w =>
 gdM (gd v21_12 false) (oM Tryd.prog (.binOp .gtr 3 (.tmp 0) (.tmp 1) 3) 4 [v28_18, (.int .i64 400)]) (fun v29_19 w =>
 oM Tryd.prog (.pick (.tmp 0) (.tmp 1) (.tmp 2)) 4 [v21_12, (.bool true), v29_19] (fun v30_20 w =>
 gdM (gd v30_20 false) (pureM a0) (fun v32_21 w =>
 gdM (gd v30_20 false) (pureM (l_5.getD 3 undef)) (fun v33_22 w =>
 gdM (gd v30_20 false) (oM Tryd.prog (.indexAddr 28 (.tmp 0) (.tmp 1)) 0 [v32_21, v33_22]) (fun v34_23 w =>
 gdM (gd v30_20 false) (oM Tryd.prog (.fieldAddr 25 (.tmp 0) 2) 0 [v34_23]) (fun v35_24 w =>
 gdM (gd v30_20 false) (oM Tryd.prog (.load 9 (.tmp 0)) 9 [v35_24]) (fun v36_25 w =>
 gdM (gd v30_20 false) (oM Tryd.prog (.call (Go.Call.mk (.builtin .len) #[(.tmp 0)] #[9])) 3 [v36_25]) (fun v37_26 w =>
 gdM (gd v30_20 false) (oM Tryd.prog (.binOp .gtr 3 (.tmp 0) (.tmp 1) 3) 4 [v37_26, (.int .i64 400)]) (fun v38_27 w =>
 oM Tryd.prog (.pick (.tmp 0) (.tmp 1) (.tmp 2)) 4 [v30_20, (.bool true), v38_27] (fun v39_28 w =>
 condM v39_28
 (K (.bool false) w)
 (quietM w (fun C_29 => (oQ Tryd.prog (.indexAddr 28 (.tmp 0) (.tmp 1)) 0 [a0, (l_5.getD 3 undef)] C_29 (fun v43_30 =>
 oQ Tryd.prog (.fieldAddr 25 (.tmp 0) 2) 0 [v43_30] C_29 (fun v44_31 =>
 oQ Tryd.prog (.load 9 (.tmp 0)) 9 [v44_31] C_29 (fun v45_32 =>
 oQ Tryd.prog (.call (Go.Call.mk (.builtin .len) #[(.tmp 0)] #[9])) 3 [v45_32] C_29 (fun v46_33 =>
 oQ Tryd.prog (.binOp .add 3 (.tmp 0) (.tmp 1) 3) 3 [(l_5.getD 1 undef), v46_33] C_29 (fun v47_34 =>
 oQ Tryd.prog (.indexAddr 28 (.tmp 0) (.tmp 1)) 0 [a0, (l_5.getD 3 undef)] C_29 (fun v50_35 =>
 oQ Tryd.prog (.fieldAddr 25 (.tmp 0) 3) 0 [v50_35] C_29 (fun v51_36 =>
 oQ Tryd.prog (.load 22 (.tmp 0)) 22 [v51_36] C_29 (fun v52_37 =>
 oQ Tryd.prog (.call (Go.Call.mk (.builtin .len) #[(.tmp 0)] #[22])) 3 [v52_37] C_29 (fun v53_38 =>
 oQ Tryd.prog (.binOp .add 3 (.tmp 0) (.tmp 1) 3) 3 [v47_34, v53_38] C_29 (fun v54_39 =>
 oQ Tryd.prog (.indexAddr 28 (.tmp 0) (.tmp 1)) 0 [a0, (l_5.getD 3 undef)] C_29 (fun v57_40 =>
 oQ Tryd.prog (.fieldAddr 25 (.tmp 0) 4) 0 [v57_40] C_29 (fun v58_41 =>
 oQ Tryd.prog (.load 23 (.tmp 0)) 23 [v58_41] C_29 (fun v59_42 =>
 oQ Tryd.prog (.call (Go.Call.mk (.builtin .len) #[(.tmp 0)] #[23])) 3 [v59_42] C_29 (fun v60_43 =>
 oQ Tryd.prog (.binOp .add 3 (.tmp 0) (.tmp 1) 3) 3 [v54_39, v60_43] C_29 (fun v61_44 =>
 ∀ w, C_29 w → (loopM [(l_5.getD 0 undef), v61_44, (.int .i64 0)] w (fun J_45 m_46 l_47 u_l_47 w0_l_47 => (fun w => (
 oM Tryd.prog (.indexAddr 28 (.tmp 0) (.tmp 1)) 0 [a0, (l_5.getD 3 undef)] (fun v65_48 w =>
 oM Tryd.prog (.fieldAddr 25 (.tmp 0) 4) 0 [v65_48] (fun v66_49 w =>
 oM Tryd.prog (.load 23 (.tmp 0)) 23 [v66_49] (fun v67_50 w =>
 oM Tryd.prog (.call (Go.Call.mk (.builtin .len) #[(.tmp 0)] #[23])) 3 [v67_50] (fun v68_51 w =>
 oM Tryd.prog (.binOp .lss 3 (.tmp 0) (.tmp 1) 3) 4 [(l_47.getD 2 undef), v68_51] (fun v69_52 w =>
 condM v69_52
 (oM Tryd.prog (.indexAddr 28 (.tmp 0) (.tmp 1)) 0 [a0, (l_5.getD 3 undef)] (fun v74_53 w =>
 oM Tryd.prog (.fieldAddr 25 (.tmp 0) 4) 0 [v74_53] (fun v75_54 w =>
 oM Tryd.prog (.load 23 (.tmp 0)) 23 [v75_54] (fun v76_55 w =>
 oM Tryd.prog (.indexAddr 23 (.tmp 0) (.tmp 1)) 0 [v76_55, (l_47.getD 2 undef)] (fun v78_56 w =>
 oM Tryd.prog (.load 9 (.tmp 0)) 9 [v78_56] (fun v79_57 w =>
 oM Tryd.prog (.call (Go.Call.mk (.builtin .len) #[(.tmp 0)] #[9])) 3 [v79_57] (fun v80_58 w =>
 oM Tryd.prog (.binOp .gtr 3 (.tmp 0) (.tmp 1) 3) 4 [v80_58, (.int .i64 400)] (fun v81_59 w =>
 condM v81_59
 (K (.bool false) w)
 (oM Tryd.prog (.indexAddr 28 (.tmp 0) (.tmp 1)) 0 [a0, (l_5.getD 3 undef)] (fun v85_60 w =>
 oM Tryd.prog (.fieldAddr 25 (.tmp 0) 4) 0 [v85_60] (fun v86_61 w =>
 oM Tryd.prog (.load 23 (.tmp 0)) 23 [v86_61] (fun v87_62 w =>
 oM Tryd.prog (.indexAddr 23 (.tmp 0) (.tmp 1)) 0 [v87_62, (l_47.getD 2 undef)] (fun v89_63 w =>
 oM Tryd.prog (.load 9 (.tmp 0)) 9 [v89_63] (fun v90_64 w =>
 oM Tryd.prog (.call (Go.Call.mk (.builtin .len) #[(.tmp 0)] #[9])) 3 [v90_64] (fun v91_65 w =>
 oM Tryd.prog (.binOp .add 3 (.tmp 0) (.tmp 1) 3) 3 [(l_47.getD 1 undef), v91_65] (fun v92_66 w =>
 oM Tryd.prog (.binOp .add 3 (.tmp 0) (.tmp 1) 3) 3 [(l_47.getD 2 undef), (.int .i64 1)] (fun v71_67 w =>
 J_45 [(l_47.getD 0 undef), v92_66, v71_67] w ∧ m_46 [(l_47.getD 0 undef), v92_66, v71_67] w < m_46 l_47 w0_l_47) w) w) w) w) w) w) w) w)) w) w) w) w) w) w) w)
 (oM Tryd.prog (.binOp .add 3 (.tmp 0) (.tmp 1) 3) 3 [(l_5.getD 3 undef), (.int .i64 1)] (fun v14_68 w =>
 J_3 [(l_47.getD 0 undef), (l_47.getD 1 undef), (l_47.getD 2 undef), v14_68] w ∧ m_4 [(l_47.getD 0 undef), (l_47.getD 1 undef), (l_47.getD 2 undef), v14_68] w < m_4 l_5 w0_l_5) w)) w) w) w) w) w)) w0_l_47))))))))))))))))))))) w) w) w) w) w) w) w) w) w) w) w) w) w) w) w) w) w) w) w) w) w)
 (oM Tryd.prog (.binOp .leq 3 (.tmp 0) (.tmp 1) 3) 4 [(l_5.getD 1 undef), (.int .i64 400)] (fun v94_69 w =>
 K v94_69 w) w)) w) w)) w0_l_5))) w) w
theorem sh_12_eq (a0 : Value) (K : Value → World → Prop) (w : World) : sh_12 a0 K w = code Tryd.prog (fun _ => 0) 95 (Tryd.f12.body.getD .skip) (slotsAt [a0]) (retK Tryd.prog [.tmp 2] K) w := by kernel_rfl
theorem sh_12_ok {a0 : Value} {K : Value → World → Prop} {w : World} (h : sh_12 a0 K w) : callM Tryd.prog 12 #[a0] K w :=
  calls_of_code (fun _ => 0) (fn := Tryd.f12) (rs := [.tmp 2]) Tryd.func12 rfl rfl (by kernel_rfl) (Nat.le_of_ble_eq_true rfl) ((sh_12_eq a0 K w).mp h)
def sh_13 (a0 : Value) (K : Value → World → Prop) (w : World) : Prop :=
 oM Tryd.prog (.binOp .lss 3 (.tmp 0) (.tmp 1) 3) 4 [a0, (.int .i64 0)] (fun v4_1 w =>
 condM v4_1
 (K (.string ⟨#[]⟩) w)
 (callM Tryd.prog 15 #[a0] (fun v6_2 w =>
 K v6_2 w) w)) w
theorem sh_13_eq (a0 : Value) (K : Value → World → Prop) (w : World) : sh_13 a0 K w = code Tryd.prog (fun _ => 0) 7 (Tryd.f13.body.getD .skip) (slotsAt [a0]) (retK Tryd.prog [.tmp 2] K) w := by kernel_rfl
theorem sh_13_ok {a0 : Value} {K : Value → World → Prop} {w : World} (h : sh_13 a0 K w) : callM Tryd.prog 13 #[a0] K w :=
  calls_of_code (fun _ => 0) (fn := Tryd.f13) (rs := [.tmp 2]) Tryd.func13 rfl rfl (by kernel_rfl) (Nat.le_of_ble_eq_true rfl) ((sh_13_eq a0 K w).mp h)
def sh_15 (a0 : Value) (K : Value → World → Prop) (w : World) : Prop :=
 callM Tryd.prog 65 #[a0] (fun v4_1 w =>
 oM Tryd.prog (.binOp .add 9 (.tmp 0) (.tmp 1) 9) 9 [v4_1, (.string ⟨#[59]⟩)] (fun v5_2 w =>
 K v5_2 w) w) w
theorem sh_15_eq (a0 : Value) (K : Value → World → Prop) (w : World) : sh_15 a0 K w = code Tryd.prog (fun _ => 0) 6 (Tryd.f15.body.getD .skip) (slotsAt [a0]) (retK Tryd.prog [.tmp 2] K) w := by kernel_rfl
theorem sh_15_ok {a0 : Value} {K : Value → World → Prop} {w : World} (h : sh_15 a0 K w) : callM Tryd.prog 15 #[a0] K w :=
  calls_of_code (fun _ => 0) (fn := Tryd.f15) (rs := [.tmp 2]) Tryd.func15 rfl rfl (by kernel_rfl) (Nat.le_of_ble_eq_true rfl) ((sh_15_eq a0 K w).mp h)
def sh_17 (a0 : Value) (K : Value → World → Prop) (w : World) : Prop :=
 oM Tryd.prog (.call (Go.Call.mk (.builtin .len) #[(.tmp 0)] #[9])) 3 [a0] (fun v4_1 w =>
 callM Tryd.prog 65 #[v4_1] (fun v5_2 w =>
 oM Tryd.prog (.binOp .add 9 (.tmp 0) (.tmp 1) 9) 9 [v5_2, (.string ⟨#[58]⟩)] (fun v6_3 w =>
 oM Tryd.prog (.binOp .add 9 (.tmp 0) (.tmp 1) 9) 9 [v6_3, a0] (fun v8_4 w =>
 oM Tryd.prog (.binOp .add 9 (.tmp 0) (.tmp 1) 9) 9 [v8_4, (.string ⟨#[44]⟩)] (fun v9_5 w =>
 K v9_5 w) w) w) w) w) w
theorem sh_17_eq (a0 : Value) (K : Value → World → Prop) (w : World) : sh_17 a0 K w = code Tryd.prog (fun _ => 0) 10 (Tryd.f17.body.getD .skip) (slotsAt [a0]) (retK Tryd.prog [.tmp 2] K) w := by kernel_rfl
theorem sh_17_ok {a0 : Value} {K : Value → World → Prop} {w : World} (h : sh_17 a0 K w) : callM Tryd.prog 17 #[a0] K w :=
  calls_of_code (fun _ => 0) (fn := Tryd.f17) (rs := [.tmp 2]) Tryd.func17 rfl rfl (by kernel_rfl) (Nat.le_of_ble_eq_true rfl) ((sh_17_eq a0 K w).mp h)
def sh_19 (a0 : Value) (K : Value → World → Prop) (w : World) : Prop :=
 callM Tryd.prog 67 #[a0, (.func (.func 15) #[] #[])] (fun v4_1 w =>
 K v4_1 w) w
theorem sh_19_eq (a0 : Value) (K : Value → World → Prop) (w : World) : sh_19 a0 K w = code Tryd.prog (fun _ => 0) 5 (Tryd.f19.body.getD .skip) (slotsAt [a0]) (retK Tryd.prog [.tmp 2] K) w := by kernel_rfl
theorem sh_19_ok {a0 : Value} {K : Value → World → Prop} {w : World} (h : sh_19 a0 K w) : callM Tryd.prog 19 #[a0] K w :=
  calls_of_code (fun _ => 0) (fn := Tryd.f19) (rs := [.tmp 2]) Tryd.func19 rfl rfl (by kernel_rfl) (Nat.le_of_ble_eq_true rfl) ((sh_19_eq a0 K w).mp h)
def sh_21 (a0 : Value) (K : Value → World → Prop) (w : World) : Prop :=
 callM Tryd.prog 68 #[a0, (.func (.func 17) #[] #[])] (fun v4_1 w =>
 K v4_1 w) w
theorem sh_21_eq (a0 : Value) (K : Value → World → Prop) (w : World) : sh_21 a0 K w = code Tryd.prog (fun _ => 0) 5 (Tryd.f21.body.getD .skip) (slotsAt [a0]) (retK Tryd.prog [.tmp 2] K) w := by kernel_rfl
theorem sh_21_ok {a0 : Value} {K : Value → World → Prop} {w : World} (h : sh_21 a0 K w) : callM Tryd.prog 21 #[a0] K w :=
  calls_of_code (fun _ => 0) (fn := Tryd.f21) (rs := [.tmp 2]) Tryd.func21 rfl rfl (by kernel_rfl) (Nat.le_of_ble_eq_true rfl) ((sh_21_eq a0 K w).mp h)
def sh_23 (a0 : Value) (K : Value → World → Prop) (w : World) : Prop :=
 oM Tryd.prog (.build 78 #[(0, (.tmp 0))]) 78 [a0] (fun v4_1 w =>
 oM Tryd.prog (.box 78 (.tmp 0)) 34 [v4_1] (fun v5_2 w =>
 K v5_2 w) w) w
theorem sh_23_eq (a0 : Value) (K : Value → World → Prop) (w : World) : sh_23 a0 K w = code Tryd.prog (fun _ => 0) 6 (Tryd.f23.body.getD .skip) (slotsAt [a0]) (retK Tryd.prog [.tmp 2] K) w := by kernel_rfl
theorem sh_23_ok {a0 : Value} {K : Value → World → Prop} {w : World} (h : sh_23 a0 K w) : callM Tryd.prog 23 #[a0] K w :=
  calls_of_code (fun _ => 0) (fn := Tryd.f23) (rs := [.tmp 2]) Tryd.func23 rfl rfl (by kernel_rfl) (Nat.le_of_ble_eq_true rfl) ((sh_23_eq a0 K w).mp h)
def sh_24 (a0 : Value) (K : Value → World → Prop) (w : World) : Prop :=
 oM Tryd.prog (.box 25 (.tmp 0)) 0 [a0] (fun v1_1 w =>
 oM Tryd.prog (.fieldAddr 25 (.tmp 0) 0) 0 [v1_1] (fun v4_2 w =>
 oM Tryd.prog (.load 3 (.tmp 0)) 3 [v4_2] (fun v5_3 w =>
 oM Tryd.prog (.binOp .rem 3 (.tmp 0) (.tmp 1) 3) 3 [v5_3, (.int .i64 5)] (fun v6_4 w =>
 joinM (fun M_5 => (oM Tryd.prog (.binOp .lss 3 (.tmp 0) (.tmp 1) 3) 4 [v6_4, (.int .i64 0)] (fun v8_7 w =>
 condM v8_7
 (oM Tryd.prog (.binOp .add 3 (.tmp 0) (.tmp 1) 3) 3 [v6_4, (.int .i64 5)] (fun v10_8 w =>
 M_5 [v10_8] w) w)
 (M_5 [v6_4] w)) w))
 (fun l_6 u_l_6 w => (K (l_6.getD 0 undef) w))) w) w) w) w
theorem sh_24_eq (a0 : Value) (K : Value → World → Prop) (w : World) : sh_24 a0 K w = code Tryd.prog (fun _ => 0) 12 (Tryd.f24.body.getD .skip) (slotsAt [a0]) (retK Tryd.prog [.tmp 2] K) w := by kernel_rfl
theorem sh_24_ok {a0 : Value} {K : Value → World → Prop} {w : World} (h : sh_24 a0 K w) : callM Tryd.prog 24 #[a0] K w :=
  calls_of_code (fun _ => 0) (fn := Tryd.f24) (rs := [.tmp 2]) Tryd.func24 rfl rfl (by kernel_rfl) (Nat.le_of_ble_eq_true rfl) ((sh_24_eq a0 K w).mp h)
def sh_25 (a0 : Value) (K : Value → World → Prop) (w : World) : Prop :=
 callM Tryd.prog 69 #[a0, (.int .u8 59), (.int .i64 0)] (fun v4_1 w =>
 K v4_1 w) w
theorem sh_25_eq (a0 : Value) (K : Value → World → Prop) (w : World) : sh_25 a0 K w = code Tryd.prog (fun _ => 0) 5 (Tryd.f25.body.getD .skip) (slotsAt [a0]) (retK Tryd.prog [.tmp 2] K) w := by kernel_rfl
theorem sh_25_ok {a0 : Value} {K : Value → World → Prop} {w : World} (h : sh_25 a0 K w) : callM Tryd.prog 25 #[a0] K w :=
  calls_of_code (fun _ => 0) (fn := Tryd.f25) (rs := [.tmp 2]) Tryd.func25 rfl rfl (by kernel_rfl) (Nat.le_of_ble_eq_true rfl) ((sh_25_eq a0 K w).mp h)
def sh_26 (a0 : Value) (K : Value → World → Prop) (w : World) : Prop :=
 callM Tryd.prog 69 #[a0, (.int .u8 59), (.int .i64 (-9223372036854775808))] (fun v4_1 w =>
 K v4_1 w) w
theorem sh_26_eq (a0 : Value) (K : Value → World → Prop) (w : World) : sh_26 a0 K w = code Tryd.prog (fun _ => 0) 5 (Tryd.f26.body.getD .skip) (slotsAt [a0]) (retK Tryd.prog [.tmp 2] K) w := by kernel_rfl
theorem sh_26_ok {a0 : Value} {K : Value → World → Prop} {w : World} (h : sh_26 a0 K w) : callM Tryd.prog 26 #[a0] K w :=
  calls_of_code (fun _ => 0) (fn := Tryd.f26) (rs := [.tmp 2]) Tryd.func26 rfl rfl (by kernel_rfl) (Nat.le_of_ble_eq_true rfl) ((sh_26_eq a0 K w).mp h)
def sh_27 (a0 : Value) (K : Value → World → Prop) (w : World) : Prop :=
 callM Tryd.prog 69 #[a0, (.int .u8 58), (.int .i64 0)] (fun v6_1 w =>
 oM Tryd.prog (.nilCheck (.tmp 0)) 0 [a0] (fun v9_2 w =>
 oM Tryd.prog (.fieldAddr 78 (.tmp 0) 0) 0 [v9_2] (fun v10_3 w =>
 oM Tryd.prog (.load 9 (.tmp 0)) 9 [v10_3] (fun v11_4 w =>
 oM Tryd.prog (.call (Go.Call.mk (.builtin .len) #[(.tmp 0)] #[9])) 3 [v11_4] (fun v12_5 w =>
 oM Tryd.prog (.binOp .gtr 3 (.tmp 0) (.tmp 1) 3) 4 [v6_1, v12_5] (fun v13_6 w =>
 condM v13_6
 (callM Tryd.prog 70 #[a0] (fun v15_7 w =>
 K (.string ⟨#[]⟩) w) w)
 (oM Tryd.prog (.nilCheck (.tmp 0)) 0 [a0] (fun v17_8 w =>
 oM Tryd.prog (.fieldAddr 78 (.tmp 0) 0) 0 [v17_8] (fun v18_9 w =>
 oM Tryd.prog (.load 9 (.tmp 0)) 9 [v18_9] (fun v19_10 w =>
 oM Tryd.prog (.slice 9 (.tmp 0) none (some (.tmp 1)) none) 9 [v19_10, v6_1] (fun v21_11 w =>
 oM Tryd.prog (.nilCheck (.tmp 0)) 0 [a0] (fun v24_12 w =>
 oM Tryd.prog (.fieldAddr 78 (.tmp 0) 0) 0 [v24_12] (fun v25_13 w =>
 oM Tryd.prog (.load 9 (.tmp 0)) 9 [v25_13] (fun v26_14 w =>
 oM Tryd.prog (.slice 9 (.tmp 0) (some (.tmp 1)) none none) 9 [v26_14, v6_1] (fun v28_15 w =>
 oM Tryd.prog (.nilCheck (.tmp 0)) 0 [a0] (fun v29_16 w =>
 oM Tryd.prog (.fieldAddr 78 (.tmp 0) 0) 0 [v29_16] (fun v30_17 w =>
 oM Tryd.prog (.store 9 (.tmp 0) (.tmp 1)) 0 [v30_17, v28_15] (fun _ w =>
 callM Tryd.prog 71 #[a0, (.string ⟨#[44]⟩)] (fun v32_18 w =>
 oM Tryd.prog (.nilCheck (.tmp 0)) 0 [a0] (fun v34_19 w =>
 oM Tryd.prog (.fieldAddr 78 (.tmp 0) 1) 0 [v34_19] (fun v35_20 w =>
 oM Tryd.prog (.load 4 (.tmp 0)) 4 [v35_20] (fun v36_21 w =>
 condM v36_21
 (K (.string ⟨#[]⟩) w)
 (K v21_11 w)) w) w) w) w) w) w) w) w) w) w) w) w) w) w) w)) w) w) w) w) w) w
theorem sh_27_eq (a0 : Value) (K : Value → World → Prop) (w : World) : sh_27 a0 K w = code Tryd.prog (fun _ => 0) 38 (Tryd.f27.body.getD .skip) (slotsAt [a0]) (retK Tryd.prog [.tmp 2] K) w := by kernel_rfl
theorem sh_27_ok {a0 : Value} {K : Value → World → Prop} {w : World} (h : sh_27 a0 K w) : callM Tryd.prog 27 #[a0] K w :=
  calls_of_code (fun _ => 0) (fn := Tryd.f27) (rs := [.tmp 2]) Tryd.func27 rfl rfl (by kernel_rfl) (Nat.le_of_ble_eq_true rfl) ((sh_27_eq a0 K w).mp h)
def sh_28 (a0 : Value) (K : Value → World → Prop) (w : World) : Prop :=
 oM Tryd.prog (.makeFunc (Go.Fn.func 26) #[(.tmp 0)] #[]) 37 [a0] (fun v5_1 w =>
 callM Tryd.prog 72 #[a0, v5_1] (fun v6_2 w =>
 K v6_2 w) w) w
theorem sh_28_eq (a0 : Value) (K : Value → World → Prop) (w : World) : sh_28 a0 K w = code Tryd.prog (fun _ => 0) 7 (Tryd.f28.body.getD .skip) (slotsAt [a0]) (retK Tryd.prog [.tmp 2] K) w := by kernel_rfl
theorem sh_28_ok {a0 : Value} {K : Value → World → Prop} {w : World} (h : sh_28 a0 K w) : callM Tryd.prog 28 #[a0] K w :=
  calls_of_code (fun _ => 0) (fn := Tryd.f28) (rs := [.tmp 2]) Tryd.func28 rfl rfl (by kernel_rfl) (Nat.le_of_ble_eq_true rfl) ((sh_28_eq a0 K w).mp h)
def sh_29 (a0 : Value) (K : Value → World → Prop) (w : World) : Prop :=
 oM Tryd.prog (.makeFunc (Go.Fn.func 27) #[(.tmp 0)] #[]) 38 [a0] (fun v5_1 w =>
 callM Tryd.prog 73 #[a0, v5_1] (fun v6_2 w =>
 K v6_2 w) w) w
theorem sh_29_eq (a0 : Value) (K : Value → World → Prop) (w : World) : sh_29 a0 K w = code Tryd.prog (fun _ => 0) 7 (Tryd.f29.body.getD .skip) (slotsAt [a0]) (retK Tryd.prog [.tmp 2] K) w := by kernel_rfl
theorem sh_29_ok {a0 : Value} {K : Value → World → Prop} {w : World} (h : sh_29 a0 K w) : callM Tryd.prog 29 #[a0] K w :=
  calls_of_code (fun _ => 0) (fn := Tryd.f29) (rs := [.tmp 2]) Tryd.func29 rfl rfl (by kernel_rfl) (Nat.le_of_ble_eq_true rfl) ((sh_29_eq a0 K w).mp h)
def sh_30 (a0 : Value) (K : Value → World → Prop) (w : World) : Prop :=
 oM Tryd.prog (.nilCheck (.tmp 0)) 0 [a0] (fun v4_1 w =>
 oM Tryd.prog (.fieldAddr 78 (.tmp 0) 0) 0 [v4_1] (fun v5_2 w =>
 oM Tryd.prog (.load 9 (.tmp 0)) 9 [v5_2] (fun v6_3 w =>
 oM Tryd.prog (.call (Go.Call.mk (.builtin .len) #[(.tmp 0)] #[9])) 3 [v6_3] (fun v7_4 w =>
 K v7_4 w) w) w) w) w
theorem sh_30_eq (a0 : Value) (K : Value → World → Prop) (w : World) : sh_30 a0 K w = code Tryd.prog (fun _ => 0) 8 (Tryd.f30.body.getD .skip) (slotsAt [a0]) (retK Tryd.prog [.tmp 2] K) w := by kernel_rfl
theorem sh_30_ok {a0 : Value} {K : Value → World → Prop} {w : World} (h : sh_30 a0 K w) : callM Tryd.prog 30 #[a0] K w :=
  calls_of_code (fun _ => 0) (fn := Tryd.f30) (rs := [.tmp 2]) Tryd.func30 rfl rfl (by kernel_rfl) (Nat.le_of_ble_eq_true rfl) ((sh_30_eq a0 K w).mp h)
def sh_31 (a0 : Value) (K : Value → World → Prop) (w : World) : Prop :=
 oM Tryd.prog (.nilCheck (.tmp 0)) 0 [a0] (fun v4_1 w =>
 oM Tryd.prog (.fieldAddr 78 (.tmp 0) 1) 0 [v4_1] (fun v5_2 w =>
 oM Tryd.prog (.load 4 (.tmp 0)) 4 [v5_2] (fun v6_3 w =>
 oM Tryd.prog (.unOp .not 4 (.tmp 0)) 4 [v6_3] (fun v7_4 w =>
 gdM (gd v7_4 true) (pureM a0) (fun v9_5 w =>
 gdM (gd v7_4 true) (oM Tryd.prog (.nilCheck (.tmp 0)) 0 [v9_5]) (fun v10_6 w =>
 gdM (gd v7_4 true) (oM Tryd.prog (.fieldAddr 78 (.tmp 0) 0) 0 [v10_6]) (fun v11_7 w =>
 gdM (gd v7_4 true) (oM Tryd.prog (.load 9 (.tmp 0)) 9 [v11_7]) (fun v12_8 w =>
 gdM (gd v7_4 true) (oM Tryd.prog (.binOp .eql 9 (.tmp 0) (.const (.string ⟨#[]⟩)) 9) 4 [v12_8]) (fun v13_9 w =>
 oM Tryd.prog (.pick (.tmp 0) (.tmp 1) (.tmp 2)) 4 [v7_4, v13_9, (.bool false)] (fun v14_10 w =>
 K v14_10 w) w) w) w) w) w) w) w) w) w) w
theorem sh_31_eq (a0 : Value) (K : Value → World → Prop) (w : World) : sh_31 a0 K w = code Tryd.prog (fun _ => 0) 15 (Tryd.f31.body.getD .skip) (slotsAt [a0]) (retK Tryd.prog [.tmp 2] K) w := by kernel_rfl
theorem sh_31_ok {a0 : Value} {K : Value → World → Prop} {w : World} (h : sh_31 a0 K w) : callM Tryd.prog 31 #[a0] K w :=
  calls_of_code (fun _ => 0) (fn := Tryd.f31) (rs := [.tmp 2]) Tryd.func31 rfl rfl (by kernel_rfl) (Nat.le_of_ble_eq_true rfl) ((sh_31_eq a0 K w).mp h)
def sh_32 (a0 : Value) (K : Value → World → Prop) (w : World) : Prop :=
 oM Tryd.prog (.box 25 (.tmp 0)) 0 [a0] (fun v1_1 w =>
 oM Tryd.prog (.load 25 (.tmp 0)) 25 [v1_1] (fun v3_2 w =>
 callM Tryd.prog 24 #[v3_2] (fun v4_3 w =>
 oM Tryd.prog (.binOp .eql 3 (.tmp 0) (.const (.int .i64 0)) 3) 4 [v4_3] (fun v6_4 w =>
 condM v6_4
 (oM Tryd.prog (.fieldAddr 25 (.tmp 0) 1) 0 [v1_1] (fun v7_5 w =>
 oM Tryd.prog (.load 3 (.tmp 0)) 3 [v7_5] (fun v8_6 w =>
 callM Tryd.prog 74 #[v8_6] (fun v9_7 w =>
 callM Tryd.prog 13 #[v9_7] (fun v10_8 w =>
 K v10_8 w) w) w) w) w)
 (oM Tryd.prog (.binOp .eql 3 (.tmp 0) (.const (.int .i64 1)) 3) 4 [v4_3] (fun v12_9 w =>
 condM v12_9
 (oM Tryd.prog (.fieldAddr 25 (.tmp 0) 1) 0 [v1_1] (fun v13_10 w =>
 oM Tryd.prog (.load 3 (.tmp 0)) 3 [v13_10] (fun v14_11 w =>
 callM Tryd.prog 15 #[v14_11] (fun v15_12 w =>
 K v15_12 w) w) w) w)
 (oM Tryd.prog (.binOp .eql 3 (.tmp 0) (.const (.int .i64 2)) 3) 4 [v4_3] (fun v17_13 w =>
 condM v17_13
 (oM Tryd.prog (.fieldAddr 25 (.tmp 0) 2) 0 [v1_1] (fun v18_14 w =>
 oM Tryd.prog (.load 9 (.tmp 0)) 9 [v18_14] (fun v19_15 w =>
 callM Tryd.prog 17 #[v19_15] (fun v20_16 w =>
 K v20_16 w) w) w) w)
 (oM Tryd.prog (.binOp .eql 3 (.tmp 0) (.const (.int .i64 3)) 3) 4 [v4_3] (fun v22_17 w =>
 condM v22_17
 (oM Tryd.prog (.fieldAddr 25 (.tmp 0) 3) 0 [v1_1] (fun v23_18 w =>
 oM Tryd.prog (.load 22 (.tmp 0)) 22 [v23_18] (fun v24_19 w =>
 callM Tryd.prog 19 #[v24_19] (fun v25_20 w =>
 K v25_20 w) w) w) w)
 (oM Tryd.prog (.fieldAddr 25 (.tmp 0) 4) 0 [v1_1] (fun v26_21 w =>
 oM Tryd.prog (.load 23 (.tmp 0)) 23 [v26_21] (fun v27_22 w =>
 callM Tryd.prog 21 #[v27_22] (fun v28_23 w =>
 K v28_23 w) w) w) w)) w)) w)) w)) w) w) w) w
theorem sh_32_eq (a0 : Value) (K : Value → World → Prop) (w : World) : sh_32 a0 K w = code Tryd.prog (fun _ => 0) 29 (Tryd.f32.body.getD .skip) (slotsAt [a0]) (retK Tryd.prog [.tmp 2] K) w := by kernel_rfl
theorem sh_32_ok {a0 : Value} {K : Value → World → Prop} {w : World} (h : sh_32 a0 K w) : callM Tryd.prog 32 #[a0] K w :=
  calls_of_code (fun _ => 0) (fn := Tryd.f32) (rs := [.tmp 2]) Tryd.func32 rfl rfl (by kernel_rfl) (Nat.le_of_ble_eq_true rfl) ((sh_32_eq a0 K w).mp h)
def sh_33 (a0 : Value) (a1 : Value) (K : Value → World → Prop) (w : World) : Prop :=
 oM Tryd.prog (.box 25 (.tmp 0)) 0 [a1] (fun v3_1 w =>
 oM Tryd.prog (.load 25 (.tmp 0)) 25 [v3_1] (fun v5_2 w =>
 callM Tryd.prog 24 #[v5_2] (fun v6_3 w =>
 oM Tryd.prog (.binOp .eql 3 (.tmp 0) (.const (.int .i64 0)) 3) 4 [v6_3] (fun v8_4 w =>
 condM v8_4
 (heldM w (fun C_5 w => (pureH a0 C_5 (fun v9_6 =>
 oH Tryd.prog (.fieldAddr 25 (.tmp 0) 1) 0 [v3_1] C_5 (fun v11_7 =>
 oH Tryd.prog (.load 3 (.tmp 0)) 3 [v11_7] C_5 (fun v12_8 =>
 callM Tryd.prog 25 #[v9_6] (fun v10_9 w => C_5 w ∧ (
 callM Tryd.prog 74 #[v12_8] (fun v13_10 w => C_5 w ∧ (
 oM Tryd.prog (.binOp .eql 3 (.tmp 0) (.tmp 1) 3) 4 [v10_9, v13_10] (fun v14_11 w => C_5 w ∧ (
 C_5 w ∧ (K v14_11 w))) w)) w)) w))))))
 (oM Tryd.prog (.binOp .eql 3 (.tmp 0) (.const (.int .i64 1)) 3) 4 [v6_3] (fun v16_13 w =>
 condM v16_13
 (heldM w (fun C_14 w => (pureH a0 C_14 (fun v17_15 =>
 oH Tryd.prog (.fieldAddr 25 (.tmp 0) 1) 0 [v3_1] C_14 (fun v19_16 =>
 oH Tryd.prog (.load 3 (.tmp 0)) 3 [v19_16] C_14 (fun v20_17 =>
 callM Tryd.prog 26 #[v17_15] (fun v18_18 w => C_14 w ∧ (
 oM Tryd.prog (.binOp .eql 3 (.tmp 0) (.tmp 1) 3) 4 [v18_18, v20_17] (fun v21_19 w => C_14 w ∧ (
 C_14 w ∧ (K v21_19 w))) w)) w))))))
 (oM Tryd.prog (.binOp .eql 3 (.tmp 0) (.const (.int .i64 2)) 3) 4 [v6_3] (fun v23_21 w =>
 condM v23_21
 (heldM w (fun C_22 w => (pureH a0 C_22 (fun v24_23 =>
 oH Tryd.prog (.fieldAddr 25 (.tmp 0) 2) 0 [v3_1] C_22 (fun v26_24 =>
 oH Tryd.prog (.load 9 (.tmp 0)) 9 [v26_24] C_22 (fun v27_25 =>
 callM Tryd.prog 27 #[v24_23] (fun v25_26 w => C_22 w ∧ (
 oM Tryd.prog (.binOp .eql 9 (.tmp 0) (.tmp 1) 9) 4 [v25_26, v27_25] (fun v28_27 w => C_22 w ∧ (
 C_22 w ∧ (K v28_27 w))) w)) w))))))
 (oM Tryd.prog (.binOp .eql 3 (.tmp 0) (.const (.int .i64 3)) 3) 4 [v6_3] (fun v30_29 w =>
 condM v30_29
 (heldM w (fun C_30 w => (pureH a0 C_30 (fun v31_31 =>
 oH Tryd.prog (.fieldAddr 25 (.tmp 0) 3) 0 [v3_1] C_30 (fun v33_32 =>
 oH Tryd.prog (.load 22 (.tmp 0)) 22 [v33_32] C_30 (fun v34_33 =>
 callM Tryd.prog 28 #[v31_31] (fun v32_34 w => C_30 w ∧ (
 callM Tryd.prog 38 #[v32_34, v34_33] (fun v35_35 w => C_30 w ∧ (
 C_30 w ∧ (K v35_35 w))) w)) w))))))
 (heldM w (fun C_37 w => (pureH a0 C_37 (fun v36_38 =>
 oH Tryd.prog (.fieldAddr 25 (.tmp 0) 4) 0 [v3_1] C_37 (fun v38_39 =>
 oH Tryd.prog (.load 23 (.tmp 0)) 23 [v38_39] C_37 (fun v39_40 =>
 callM Tryd.prog 29 #[v36_38] (fun v37_41 w => C_37 w ∧ (
 callM Tryd.prog 40 #[v37_41, v39_40] (fun v40_42 w => C_37 w ∧ (
 C_37 w ∧ (K v40_42 w))) w)) w))))))) w)) w)) w)) w) w) w) w
theorem sh_33_eq (a0 : Value) (a1 : Value) (K : Value → World → Prop) (w : World) : sh_33 a0 a1 K w = code Tryd.prog (fun _ => 2) 41 (Tryd.f33.body.getD .skip) (slotsAt [a0, a1]) (retK Tryd.prog [.tmp 4] K) w := by kernel_rfl
theorem sh_33_ok {a0 a1 : Value} {K : Value → World → Prop} {w : World} (h : sh_33 a0 a1 K w) : callM Tryd.prog 33 #[a0, a1] K w :=
  calls_of_code (fun _ => 2) (fn := Tryd.f33) (rs := [.tmp 4]) Tryd.func33 rfl rfl (by kernel_rfl) (Nat.le_of_ble_eq_true rfl) ((sh_33_eq a0 a1 K w).mp h)
def sh_38 (a0 : Value) (a1 : Value) (K : Value → World → Prop) (w : World) : Prop :=
 oM Tryd.prog (.call (Go.Call.mk (.builtin .len) #[(.tmp 0)] #[22])) 3 [a0] (fun v7_1 w =>
 oM Tryd.prog (.call (Go.Call.mk (.builtin .len) #[(.tmp 0)] #[22])) 3 [a1] (fun v9_2 w =>
 oM Tryd.prog (.binOp .neq 3 (.tmp 0) (.tmp 1) 3) 4 [v7_1, v9_2] (fun v10_3 w =>
 condM v10_3
 (K (.bool false) w)
 (loopM [(.bool false), (.int .i64 0)] w (fun J_4 m_5 l_6 u_l_6 w0_l_6 => (fun w => (
 oM Tryd.prog (.call (Go.Call.mk (.builtin .len) #[(.tmp 0)] #[22])) 3 [a0] (fun v13_7 w =>
 oM Tryd.prog (.binOp .lss 3 (.tmp 0) (.tmp 1) 3) 4 [(l_6.getD 1 undef), v13_7] (fun v14_8 w =>
 condM v14_8
 (quietM w (fun C_9 => (oQ Tryd.prog (.indexAddr 22 (.tmp 0) (.tmp 1)) 0 [a0, (l_6.getD 1 undef)] C_9 (fun v19_10 =>
 oQ Tryd.prog (.load 3 (.tmp 0)) 3 [v19_10] C_9 (fun v20_11 =>
 oQ Tryd.prog (.indexAddr 22 (.tmp 0) (.tmp 1)) 0 [a1, (l_6.getD 1 undef)] C_9 (fun v23_12 =>
 oQ Tryd.prog (.load 3 (.tmp 0)) 3 [v23_12] C_9 (fun v24_13 =>
 oQ Tryd.prog (.binOp .neq 3 (.tmp 0) (.tmp 1) 3) 4 [v20_11, v24_13] C_9 (fun v25_14 =>
 ∀ w, C_9 w → (condM v25_14
 (K (.bool false) w)
 (oM Tryd.prog (.binOp .add 3 (.tmp 0) (.tmp 1) 3) 3 [(l_6.getD 1 undef), (.int .i64 1)] (fun v16_15 w =>
 J_4 [(l_6.getD 0 undef), v16_15] w ∧ m_5 [(l_6.getD 0 undef), v16_15] w < m_5 l_6 w0_l_6) w))))))))))
 (K (.bool true) w)) w) w)) w0_l_6))) w) w) w
theorem sh_38_eq (a0 : Value) (a1 : Value) (K : Value → World → Prop) (w : World) : sh_38 a0 a1 K w = code Tryd.prog (fun _ => 0) 26 (Tryd.f38.body.getD .skip) (slotsAt [a0, a1]) (retK Tryd.prog [.tmp 4] K) w := by kernel_rfl
theorem sh_38_ok {a0 a1 : Value} {K : Value → World → Prop} {w : World} (h : sh_38 a0 a1 K w) : callM Tryd.prog 38 #[a0, a1] K w :=
  calls_of_code (fun _ => 0) (fn := Tryd.f38) (rs := [.tmp 4]) Tryd.func38 rfl rfl (by kernel_rfl) (Nat.le_of_ble_eq_true rfl) ((sh_38_eq a0 a1 K w).mp h)
def sh_40 (a0 : Value) (a1 : Value) (K : Value → World → Prop) (w : World) : Prop :=
 oM Tryd.prog (.call (Go.Call.mk (.builtin .len) #[(.tmp 0)] #[23])) 3 [a0] (fun v7_1 w =>
 oM Tryd.prog (.call (Go.Call.mk (.builtin .len) #[(.tmp 0)] #[23])) 3 [a1] (fun v9_2 w =>
 oM Tryd.prog (.binOp .neq 3 (.tmp 0) (.tmp 1) 3) 4 [v7_1, v9_2] (fun v10_3 w =>
 condM v10_3
 (K (.bool false) w)
 (loopM [(.bool false), (.int .i64 0)] w (fun J_4 m_5 l_6 u_l_6 w0_l_6 => (fun w => (
 oM Tryd.prog (.call (Go.Call.mk (.builtin .len) #[(.tmp 0)] #[23])) 3 [a0] (fun v13_7 w =>
 oM Tryd.prog (.binOp .lss 3 (.tmp 0) (.tmp 1) 3) 4 [(l_6.getD 1 undef), v13_7] (fun v14_8 w =>
 condM v14_8
 (quietM w (fun C_9 => (oQ Tryd.prog (.indexAddr 23 (.tmp 0) (.tmp 1)) 0 [a0, (l_6.getD 1 undef)] C_9 (fun v19_10 =>
 oQ Tryd.prog (.load 9 (.tmp 0)) 9 [v19_10] C_9 (fun v20_11 =>
 oQ Tryd.prog (.indexAddr 23 (.tmp 0) (.tmp 1)) 0 [a1, (l_6.getD 1 undef)] C_9 (fun v23_12 =>
 oQ Tryd.prog (.load 9 (.tmp 0)) 9 [v23_12] C_9 (fun v24_13 =>
 oQ Tryd.prog (.binOp .neq 9 (.tmp 0) (.tmp 1) 9) 4 [v20_11, v24_13] C_9 (fun v25_14 =>
 ∀ w, C_9 w → (condM v25_14
 (K (.bool false) w)
 (oM Tryd.prog (.binOp .add 3 (.tmp 0) (.tmp 1) 3) 3 [(l_6.getD 1 undef), (.int .i64 1)] (fun v16_15 w =>
 J_4 [(l_6.getD 0 undef), v16_15] w ∧ m_5 [(l_6.getD 0 undef), v16_15] w < m_5 l_6 w0_l_6) w))))))))))
 (K (.bool true) w)) w) w)) w0_l_6))) w) w) w
theorem sh_40_eq (a0 : Value) (a1 : Value) (K : Value → World → Prop) (w : World) : sh_40 a0 a1 K w = code Tryd.prog (fun _ => 0) 26 (Tryd.f40.body.getD .skip) (slotsAt [a0, a1]) (retK Tryd.prog [.tmp 4] K) w := by kernel_rfl
theorem sh_40_ok {a0 a1 : Value} {K : Value → World → Prop} {w : World} (h : sh_40 a0 a1 K w) : callM Tryd.prog 40 #[a0, a1] K w :=
  calls_of_code (fun _ => 0) (fn := Tryd.f40) (rs := [.tmp 4]) Tryd.func40 rfl rfl (by kernel_rfl) (Nat.le_of_ble_eq_true rfl) ((sh_40_eq a0 a1 K w).mp h)
def sh_67 (a0 : Value) (a1 : Value) (K : Value → World → Prop) (w : World) : Prop :=
 oM Tryd.prog (.alloc 107) 0 [] (fun v5_1 w =>
 oM Tryd.prog (.call (Go.Call.mk (.builtin .len) #[(.tmp 0)] #[22])) 3 [a0] (fun v9_2 w =>
 callM Tryd.prog 65 #[v9_2] (fun v10_3 w =>
 oM Tryd.prog (.binOp .add 9 (.tmp 0) (.tmp 1) 9) 9 [v10_3, (.string ⟨#[91]⟩)] (fun v11_4 w =>
 callM Tryd.prog 90 #[v5_1, v11_4] (fun v12_5 w =>
 oM Tryd.prog (.call (Go.Call.mk (.builtin .len) #[(.tmp 0)] #[22])) 3 [a0] (fun v14_6 w =>
 loopM [undef, (.int .i64 0)] w (fun J_7 m_8 l_9 u_l_9 w0_l_9 => (fun w => (
 oM Tryd.prog (.binOp .lss 3 (.tmp 0) (.tmp 1) 3) 0 [(l_9.getD 1 undef), v14_6] (fun v16_10 w =>
 condM v16_10
 (oM Tryd.prog (.indexAddr 22 (.tmp 0) (.tmp 1)) 0 [a0, (l_9.getD 1 undef)] (fun v17_11 w =>
 oM Tryd.prog (.load 3 (.tmp 0)) 3 [v17_11] (fun v18_12 w =>
 oM Tryd.prog (.call (Go.Call.mk (.value (.tmp 0)) #[(.tmp 1)] #[3])) 9 [a1, v18_12] (fun v21_13 w =>
 callM Tryd.prog 90 #[v5_1, v21_13] (fun v22_14 w =>
 oM Tryd.prog (.binOp .add 3 (.tmp 0) (.tmp 1) 3) 3 [(l_9.getD 1 undef), (.int .i64 1)] (fun v23_15 w =>
 J_7 [v18_12, v23_15] w ∧ m_8 [v18_12, v23_15] w < m_8 l_9 w0_l_9) w) w) w) w) w)
 (callM Tryd.prog 91 #[v5_1] (fun v24_16 w =>
 oM Tryd.prog (.binOp .add 9 (.tmp 0) (.tmp 1) 9) 9 [v24_16, (.string ⟨#[93]⟩)] (fun v25_17 w =>
 K v25_17 w) w) w)) w)) w0_l_9)) w) w) w) w) w) w
theorem sh_67_eq (a0 : Value) (a1 : Value) (K : Value → World → Prop) (w : World) : sh_67 a0 a1 K w = code Tryd.prog (fun _ => 0) 26 (Tryd.f67.body.getD .skip) (slotsAt [a0, a1]) (retK Tryd.prog [.tmp 4] K) w := by kernel_rfl
theorem sh_67_ok {a0 a1 : Value} {K : Value → World → Prop} {w : World} (h : sh_67 a0 a1 K w) : callM Tryd.prog 67 #[a0, a1] K w :=
  calls_of_code (fun _ => 0) (fn := Tryd.f67) (rs := [.tmp 4]) Tryd.func67 rfl rfl (by kernel_rfl) (Nat.le_of_ble_eq_true rfl) ((sh_67_eq a0 a1 K w).mp h)
def sh_68 (a0 : Value) (a1 : Value) (K : Value → World → Prop) (w : World) : Prop :=
 oM Tryd.prog (.alloc 107) 0 [] (fun v5_1 w =>
 oM Tryd.prog (.call (Go.Call.mk (.builtin .len) #[(.tmp 0)] #[23])) 3 [a0] (fun v9_2 w =>
 callM Tryd.prog 65 #[v9_2] (fun v10_3 w =>
 oM Tryd.prog (.binOp .add 9 (.tmp 0) (.tmp 1) 9) 9 [v10_3, (.string ⟨#[91]⟩)] (fun v11_4 w =>
 callM Tryd.prog 90 #[v5_1, v11_4] (fun v12_5 w =>
 oM Tryd.prog (.call (Go.Call.mk (.builtin .len) #[(.tmp 0)] #[23])) 3 [a0] (fun v14_6 w =>
 loopM [undef, (.int .i64 0)] w (fun J_7 m_8 l_9 u_l_9 w0_l_9 => (fun w => (
 oM Tryd.prog (.binOp .lss 3 (.tmp 0) (.tmp 1) 3) 0 [(l_9.getD 1 undef), v14_6] (fun v16_10 w =>
 condM v16_10
 (oM Tryd.prog (.indexAddr 23 (.tmp 0) (.tmp 1)) 0 [a0, (l_9.getD 1 undef)] (fun v17_11 w =>
 oM Tryd.prog (.load 9 (.tmp 0)) 9 [v17_11] (fun v18_12 w =>
 oM Tryd.prog (.call (Go.Call.mk (.value (.tmp 0)) #[(.tmp 1)] #[9])) 9 [a1, v18_12] (fun v21_13 w =>
 callM Tryd.prog 90 #[v5_1, v21_13] (fun v22_14 w =>
 oM Tryd.prog (.binOp .add 3 (.tmp 0) (.tmp 1) 3) 3 [(l_9.getD 1 undef), (.int .i64 1)] (fun v23_15 w =>
 J_7 [v18_12, v23_15] w ∧ m_8 [v18_12, v23_15] w < m_8 l_9 w0_l_9) w) w) w) w) w)
 (callM Tryd.prog 91 #[v5_1] (fun v24_16 w =>
 oM Tryd.prog (.binOp .add 9 (.tmp 0) (.tmp 1) 9) 9 [v24_16, (.string ⟨#[93]⟩)] (fun v25_17 w =>
 K v25_17 w) w) w)) w)) w0_l_9)) w) w) w) w) w) w
theorem sh_68_eq (a0 : Value) (a1 : Value) (K : Value → World → Prop) (w : World) : sh_68 a0 a1 K w = code Tryd.prog (fun _ => 0) 26 (Tryd.f68.body.getD .skip) (slotsAt [a0, a1]) (retK Tryd.prog [.tmp 4] K) w := by kernel_rfl
theorem sh_68_ok {a0 a1 : Value} {K : Value → World → Prop} {w : World} (h : sh_68 a0 a1 K w) : callM Tryd.prog 68 #[a0, a1] K w :=
  calls_of_code (fun _ => 0) (fn := Tryd.f68) (rs := [.tmp 4]) Tryd.func68 rfl rfl (by kernel_rfl) (Nat.le_of_ble_eq_true rfl) ((sh_68_eq a0 a1 K w).mp h)
def sh_69 (a0 : Value) (a1 : Value) (a2 : Value) (K : Value → World → Prop) (w : World) : Prop :=
 quietM w (fun C_1 => (oQ Tryd.prog (.nilCheck (.tmp 0)) 0 [a0] C_1 (fun v12_2 =>
 oQ Tryd.prog (.fieldAddr 78 (.tmp 0) 0) 0 [v12_2] C_1 (fun v13_3 =>
 oQ Tryd.prog (.load 9 (.tmp 0)) 9 [v13_3] C_1 (fun v14_4 =>
 oQ Tryd.prog (.nilCheck (.tmp 0)) 0 [a0] C_1 (fun v16_5 =>
 oQ Tryd.prog (.fieldAddr 78 (.tmp 0) 0) 0 [v16_5] C_1 (fun v17_6 =>
 oQ Tryd.prog (.load 9 (.tmp 0)) 9 [v17_6] C_1 (fun v18_7 =>
 oQ Tryd.prog (.call (Go.Call.mk (.builtin .len) #[(.tmp 0)] #[9])) 3 [v18_7] C_1 (fun v19_8 =>
 oQ Tryd.prog (.call (Go.Call.mk (.builtin .min) #[(.tmp 0), (.tmp 1)] #[3, 3])) 3 [v19_8, (.int .i64 21)] C_1 (fun v20_9 =>
 oQ Tryd.prog (.slice 9 (.tmp 0) none (some (.tmp 1)) none) 9 [v14_4, v20_9] C_1 (fun v21_10 =>
 ∀ w, C_1 w → (callM Tryd.prog 92 #[v21_10, a1] (fun v24_11 w =>
 oM Tryd.prog (.binOp .lss 3 (.tmp 0) (.tmp 1) 3) 4 [v24_11, (.int .i64 0)] (fun v26_12 w =>
 condM v26_12
 (callM Tryd.prog 70 #[a0] (fun v28_13 w =>
 K (.int .i64 0) w) w)
 (oM Tryd.prog (.slice 9 (.tmp 0) none (some (.tmp 1)) none) 9 [v21_10, v24_11] (fun v32_14 w =>
 callM Tryd.prog 93 #[v32_14] (fun v33_15 w =>
 oM Tryd.prog (.extract (.tmp 0) 0) 3 [v33_15] (fun v34_16 w =>
 oM Tryd.prog (.extract (.tmp 0) 1) 109 [v33_15] (fun v35_17 w =>
 quietM w (fun C_18 => (oQ Tryd.prog (.binOp .neq 109 (.tmp 0) (.const .nilIface) 109) 4 [v35_17] C_18 (fun v37_19 =>
 gdQ (gd v37_19 false) (pureQ v34_16) C_18 (fun v39_20 =>
 gdQ (gd v37_19 false) (callQ Tryd.prog 65 #[v39_20]) C_18 (fun v40_21 =>
 gdQ (gd v37_19 false) (pureQ v21_10) C_18 (fun v41_22 =>
 gdQ (gd v37_19 false) (pureQ v24_11) C_18 (fun v42_23 =>
 gdQ (gd v37_19 false) (oQ Tryd.prog (.slice 9 (.tmp 0) none (some (.tmp 1)) none) 9 [v41_22, v42_23]) C_18 (fun v43_24 =>
 gdQ (gd v37_19 false) (oQ Tryd.prog (.binOp .neq 9 (.tmp 0) (.tmp 1) 9) 4 [v40_21, v43_24]) C_18 (fun v44_25 =>
 oQ Tryd.prog (.pick (.tmp 0) (.tmp 1) (.tmp 2)) 4 [v37_19, (.bool true), v44_25] C_18 (fun v45_26 =>
 gdQ (gd v45_26 false) (pureQ v34_16) C_18 (fun v47_27 =>
 gdQ (gd v45_26 false) (pureQ a2) C_18 (fun v48_28 =>
 gdQ (gd v45_26 false) (oQ Tryd.prog (.binOp .lss 3 (.tmp 0) (.tmp 1) 3) 4 [v47_27, v48_28]) C_18 (fun v49_29 =>
 oQ Tryd.prog (.pick (.tmp 0) (.tmp 1) (.tmp 2)) 4 [v45_26, (.bool true), v49_29] C_18 (fun v50_30 =>
 ∀ w, C_18 w → (condM v50_30
 (callM Tryd.prog 70 #[a0] (fun v52_31 w =>
 K (.int .i64 0) w) w)
 (oM Tryd.prog (.nilCheck (.tmp 0)) 0 [a0] (fun v55_32 w =>
 oM Tryd.prog (.fieldAddr 78 (.tmp 0) 0) 0 [v55_32] (fun v56_33 w =>
 oM Tryd.prog (.load 9 (.tmp 0)) 9 [v56_33] (fun v57_34 w =>
 oM Tryd.prog (.binOp .add 3 (.tmp 0) (.tmp 1) 3) 3 [v24_11, (.int .i64 1)] (fun v59_35 w =>
 oM Tryd.prog (.slice 9 (.tmp 0) (some (.tmp 1)) none none) 9 [v57_34, v59_35] (fun v60_36 w =>
 oM Tryd.prog (.nilCheck (.tmp 0)) 0 [a0] (fun v61_37 w =>
 oM Tryd.prog (.fieldAddr 78 (.tmp 0) 0) 0 [v61_37] (fun v62_38 w =>
 oM Tryd.prog (.store 9 (.tmp 0) (.tmp 1)) 0 [v62_38, v60_36] (fun _ w =>
 K v34_16 w) w) w) w) w) w) w) w) w))))))))))))))))) w) w) w) w)) w) w))))))))))))
theorem sh_69_eq (a0 : Value) (a1 : Value) (a2 : Value) (K : Value → World → Prop) (w : World) : sh_69 a0 a1 a2 K w = code Tryd.prog (fun _ => 0) 64 (Tryd.f69.body.getD .skip) (slotsAt [a0, a1, a2]) (retK Tryd.prog [.tmp 6] K) w := by kernel_rfl
theorem sh_69_ok {a0 a1 a2 : Value} {K : Value → World → Prop} {w : World} (h : sh_69 a0 a1 a2 K w) : callM Tryd.prog 69 #[a0, a1, a2] K w :=
  calls_of_code (fun _ => 0) (fn := Tryd.f69) (rs := [.tmp 6]) Tryd.func69 rfl rfl (by kernel_rfl) (Nat.le_of_ble_eq_true rfl) ((sh_69_eq a0 a1 a2 K w).mp h)
def sh_70 (a0 : Value) (K : Value → World → Prop) (w : World) : Prop :=
 oM Tryd.prog (.nilCheck (.tmp 0)) 0 [a0] (fun v4_1 w =>
 oM Tryd.prog (.fieldAddr 78 (.tmp 0) 0) 0 [v4_1] (fun v5_2 w =>
 oM Tryd.prog (.store 9 (.tmp 0) (.tmp 1)) 0 [v5_2, (.string ⟨#[]⟩)] (fun _ w =>
 oM Tryd.prog (.nilCheck (.tmp 0)) 0 [a0] (fun v6_3 w =>
 oM Tryd.prog (.fieldAddr 78 (.tmp 0) 1) 0 [v6_3] (fun v7_4 w =>
 oM Tryd.prog (.store 4 (.tmp 0) (.tmp 1)) 0 [v7_4, (.bool true)] (fun _ w =>
 K (.tuple #[]) w) w) w) w) w) w) w
theorem sh_70_eq (a0 : Value) (K : Value → World → Prop) (w : World) : sh_70 a0 K w = code Tryd.prog (fun _ => 0) 8 (Tryd.f70.body.getD .skip) (slotsAt [a0]) (retK Tryd.prog [] K) w := by kernel_rfl
theorem sh_70_ok {a0 : Value} {K : Value → World → Prop} {w : World} (h : sh_70 a0 K w) : callM Tryd.prog 70 #[a0] K w :=
  calls_of_code (fun _ => 0) (fn := Tryd.f70) (rs := []) Tryd.func70 rfl rfl (by kernel_rfl) (Nat.le_of_ble_eq_true rfl) ((sh_70_eq a0 K w).mp h)
def sh_71 (a0 : Value) (a1 : Value) (K : Value → World → Prop) (w : World) : Prop :=
 oM Tryd.prog (.nilCheck (.tmp 0)) 0 [a0] (fun v8_1 w =>
 oM Tryd.prog (.fieldAddr 78 (.tmp 0) 0) 0 [v8_1] (fun v9_2 w =>
 oM Tryd.prog (.load 9 (.tmp 0)) 9 [v9_2] (fun v10_3 w =>
 callM Tryd.prog 94 #[v10_3, a1] (fun v12_4 w =>
 oM Tryd.prog (.extract (.tmp 0) 0) 9 [v12_4] (fun v13_5 w =>
 oM Tryd.prog (.extract (.tmp 0) 1) 4 [v12_4] (fun v14_6 w =>
 oM Tryd.prog (.nilCheck (.tmp 0)) 0 [a0] (fun v17_7 w =>
 oM Tryd.prog (.fieldAddr 78 (.tmp 0) 0) 0 [v17_7] (fun v18_8 w =>
 oM Tryd.prog (.store 9 (.tmp 0) (.tmp 1)) 0 [v18_8, v13_5] (fun _ w =>
 oM Tryd.prog (.unOp .not 4 (.tmp 0)) 4 [v14_6] (fun v20_9 w =>
 condM v20_9
 (callM Tryd.prog 70 #[a0] (fun v22_10 w =>
 K (.tuple #[]) w) w)
 (K (.tuple #[]) w)) w) w) w) w) w) w) w) w) w) w
theorem sh_71_eq (a0 : Value) (a1 : Value) (K : Value → World → Prop) (w : World) : sh_71 a0 a1 K w = code Tryd.prog (fun _ => 0) 23 (Tryd.f71.body.getD .skip) (slotsAt [a0, a1]) (retK Tryd.prog [] K) w := by kernel_rfl
theorem sh_71_ok {a0 a1 : Value} {K : Value → World → Prop} {w : World} (h : sh_71 a0 a1 K w) : callM Tryd.prog 71 #[a0, a1] K w :=
  calls_of_code (fun _ => 0) (fn := Tryd.f71) (rs := []) Tryd.func71 rfl rfl (by kernel_rfl) (Nat.le_of_ble_eq_true rfl) ((sh_71_eq a0 a1 K w).mp h)
def sh_72 (a0 : Value) (a1 : Value) (K : Value → World → Prop) (w : World) : Prop :=
 callM Tryd.prog 69 #[a0, (.int .u8 91), (.int .i64 0)] (fun v8_1 w =>
 loopM [(.slice none 0 0), v8_1] w (fun J_2 m_3 l_4 u_l_4 w0_l_4 => (fun w => (
 oM Tryd.prog (.binOp .gtr 3 (.tmp 0) (.tmp 1) 3) 4 [(l_4.getD 1 undef), (.int .i64 0)] (fun v10_5 w =>
 gdM (gd v10_5 true) (pureM a0) (fun v12_6 w =>
 gdM (gd v10_5 true) (oM Tryd.prog (.nilCheck (.tmp 0)) 0 [v12_6]) (fun v13_7 w =>
 gdM (gd v10_5 true) (oM Tryd.prog (.fieldAddr 78 (.tmp 0) 1) 0 [v13_7]) (fun v14_8 w =>
 gdM (gd v10_5 true) (oM Tryd.prog (.load 4 (.tmp 0)) 4 [v14_8]) (fun v15_9 w =>
 gdM (gd v10_5 true) (oM Tryd.prog (.unOp .not 4 (.tmp 0)) 4 [v15_9]) (fun v16_10 w =>
 oM Tryd.prog (.pick (.tmp 0) (.tmp 1) (.tmp 2)) 4 [v10_5, v16_10, (.bool false)] (fun v17_11 w =>
 condM v17_11
 (oM Tryd.prog (.call (Go.Call.mk (.value (.tmp 0)) #[] #[])) 3 [a1] (fun v22_12 w =>
 oM Tryd.prog (.buildSlice 22 1 #[(0, (.tmp 0))]) 22 [v22_12] (fun v23_13 w =>
 oM Tryd.prog (.call (Go.Call.mk (.builtin .append) #[(.tmp 0), (.tmp 1)] #[22, 22])) 22 [(l_4.getD 0 undef), v23_13] (fun v24_14 w =>
 oM Tryd.prog (.binOp .sub 3 (.tmp 0) (.tmp 1) 3) 3 [(l_4.getD 1 undef), (.int .i64 1)] (fun v19_15 w =>
 J_2 [v24_14, v19_15] w ∧ m_3 [v24_14, v19_15] w < m_3 l_4 w0_l_4) w) w) w) w)
 (callM Tryd.prog 71 #[a0, (.string ⟨#[93]⟩)] (fun v26_16 w =>
 oM Tryd.prog (.nilCheck (.tmp 0)) 0 [a0] (fun v28_17 w =>
 oM Tryd.prog (.fieldAddr 78 (.tmp 0) 1) 0 [v28_17] (fun v29_18 w =>
 oM Tryd.prog (.load 4 (.tmp 0)) 4 [v29_18] (fun v30_19 w =>
 condM v30_19
 (K (.slice none 0 0) w)
 (K (l_4.getD 0 undef) w)) w) w) w) w)) w) w) w) w) w) w) w)) w0_l_4)) w
theorem sh_72_eq (a0 : Value) (a1 : Value) (K : Value → World → Prop) (w : World) : sh_72 a0 a1 K w = code Tryd.prog (fun _ => 0) 32 (Tryd.f72.body.getD .skip) (slotsAt [a0, a1]) (retK Tryd.prog [.tmp 4] K) w := by kernel_rfl
theorem sh_72_ok {a0 a1 : Value} {K : Value → World → Prop} {w : World} (h : sh_72 a0 a1 K w) : callM Tryd.prog 72 #[a0, a1] K w :=
  calls_of_code (fun _ => 0) (fn := Tryd.f72) (rs := [.tmp 4]) Tryd.func72 rfl rfl (by kernel_rfl) (Nat.le_of_ble_eq_true rfl) ((sh_72_eq a0 a1 K w).mp h)
def sh_73 (a0 : Value) (a1 : Value) (K : Value → World → Prop) (w : World) : Prop :=
 callM Tryd.prog 69 #[a0, (.int .u8 91), (.int .i64 0)] (fun v8_1 w =>
 loopM [(.slice none 0 0), v8_1] w (fun J_2 m_3 l_4 u_l_4 w0_l_4 => (fun w => (
 oM Tryd.prog (.binOp .gtr 3 (.tmp 0) (.tmp 1) 3) 4 [(l_4.getD 1 undef), (.int .i64 0)] (fun v10_5 w =>
 gdM (gd v10_5 true) (pureM a0) (fun v12_6 w =>
 gdM (gd v10_5 true) (oM Tryd.prog (.nilCheck (.tmp 0)) 0 [v12_6]) (fun v13_7 w =>
 gdM (gd v10_5 true) (oM Tryd.prog (.fieldAddr 78 (.tmp 0) 1) 0 [v13_7]) (fun v14_8 w =>
 gdM (gd v10_5 true) (oM Tryd.prog (.load 4 (.tmp 0)) 4 [v14_8]) (fun v15_9 w =>
 gdM (gd v10_5 true) (oM Tryd.prog (.unOp .not 4 (.tmp 0)) 4 [v15_9]) (fun v16_10 w =>
 oM Tryd.prog (.pick (.tmp 0) (.tmp 1) (.tmp 2)) 4 [v10_5, v16_10, (.bool false)] (fun v17_11 w =>
 condM v17_11
 (oM Tryd.prog (.call (Go.Call.mk (.value (.tmp 0)) #[] #[])) 9 [a1] (fun v22_12 w =>
 oM Tryd.prog (.buildSlice 23 1 #[(0, (.tmp 0))]) 23 [v22_12] (fun v23_13 w =>
 oM Tryd.prog (.call (Go.Call.mk (.builtin .append) #[(.tmp 0), (.tmp 1)] #[23, 23])) 23 [(l_4.getD 0 undef), v23_13] (fun v24_14 w =>
 oM Tryd.prog (.binOp .sub 3 (.tmp 0) (.tmp 1) 3) 3 [(l_4.getD 1 undef), (.int .i64 1)] (fun v19_15 w =>
 J_2 [v24_14, v19_15] w ∧ m_3 [v24_14, v19_15] w < m_3 l_4 w0_l_4) w) w) w) w)
 (callM Tryd.prog 71 #[a0, (.string ⟨#[93]⟩)] (fun v26_16 w =>
 oM Tryd.prog (.nilCheck (.tmp 0)) 0 [a0] (fun v28_17 w =>
 oM Tryd.prog (.fieldAddr 78 (.tmp 0) 1) 0 [v28_17] (fun v29_18 w =>
 oM Tryd.prog (.load 4 (.tmp 0)) 4 [v29_18] (fun v30_19 w =>
 condM v30_19
 (K (.slice none 0 0) w)
 (K (l_4.getD 0 undef) w)) w) w) w) w)) w) w) w) w) w) w) w)) w0_l_4)) w
theorem sh_73_eq (a0 : Value) (a1 : Value) (K : Value → World → Prop) (w : World) : sh_73 a0 a1 K w = code Tryd.prog (fun _ => 0) 32 (Tryd.f73.body.getD .skip) (slotsAt [a0, a1]) (retK Tryd.prog [.tmp 4] K) w := by kernel_rfl
theorem sh_73_ok {a0 a1 : Value} {K : Value → World → Prop} {w : World} (h : sh_73 a0 a1 K w) : callM Tryd.prog 73 #[a0, a1] K w :=
  calls_of_code (fun _ => 0) (fn := Tryd.f73) (rs := [.tmp 4]) Tryd.func73 rfl rfl (by kernel_rfl) (Nat.le_of_ble_eq_true rfl) ((sh_73_eq a0 a1 K w).mp h)
def sh_74 (a0 : Value) (K : Value → World → Prop) (w : World) : Prop :=
 oM Tryd.prog (.binOp .lss 3 (.tmp 0) (.tmp 1) 3) 4 [a0, (.int .i64 0)] (fun v4_1 w =>
 condM v4_1
 (oM Tryd.prog (.binOp .add 3 (.tmp 0) (.tmp 1) 3) 3 [a0, (.int .i64 1)] (fun v6_2 w =>
 oM Tryd.prog (.unOp .neg 3 (.tmp 0)) 3 [v6_2] (fun v7_3 w =>
 K v7_3 w) w) w)
 (K a0 w)) w
theorem sh_74_eq (a0 : Value) (K : Value → World → Prop) (w : World) : sh_74 a0 K w = code Tryd.prog (fun _ => 0) 9 (Tryd.f74.body.getD .skip) (slotsAt [a0]) (retK Tryd.prog [.tmp 2] K) w := by kernel_rfl
theorem sh_74_ok {a0 : Value} {K : Value → World → Prop} {w : World} (h : sh_74 a0 K w) : callM Tryd.prog 74 #[a0] K w :=
  calls_of_code (fun _ => 0) (fn := Tryd.f74) (rs := [.tmp 2]) Tryd.func74 rfl rfl (by kernel_rfl) (Nat.le_of_ble_eq_true rfl) ((sh_74_eq a0 K w).mp h)
def sh_90 (a0 : Value) (a1 : Value) (K : Value → World → Prop) (w : World) : Prop :=
 callM Tryd.prog 98 #[a0] (fun v7_1 w =>
 oM Tryd.prog (.nilCheck (.tmp 0)) 0 [a0] (fun v10_2 w =>
 oM Tryd.prog (.fieldAddr 107 (.tmp 0) 1) 0 [v10_2] (fun v11_3 w =>
 oM Tryd.prog (.load 61 (.tmp 0)) 61 [v11_3] (fun v12_4 w =>
 oM Tryd.prog (.call (Go.Call.mk (.builtin .append) #[(.tmp 0), (.tmp 1)] #[61, 9])) 61 [v12_4, a1] (fun v14_5 w =>
 oM Tryd.prog (.nilCheck (.tmp 0)) 0 [a0] (fun v15_6 w =>
 oM Tryd.prog (.fieldAddr 107 (.tmp 0) 1) 0 [v15_6] (fun v16_7 w =>
 oM Tryd.prog (.store 61 (.tmp 0) (.tmp 1)) 0 [v16_7, v14_5] (fun _ w =>
 oM Tryd.prog (.call (Go.Call.mk (.builtin .len) #[(.tmp 0)] #[9])) 3 [a1] (fun v18_8 w =>
 K (.tuple #[v18_8, .nilIface]) w) w) w) w) w) w) w) w) w) w
theorem sh_90_eq (a0 : Value) (a1 : Value) (K : Value → World → Prop) (w : World) : sh_90 a0 a1 K w = code Tryd.prog (fun _ => 0) 19 (Tryd.f90.body.getD .skip) (slotsAt [a0, a1]) (retK Tryd.prog [.tmp 4, .tmp 5] K) w := by kernel_rfl
theorem sh_90_ok {a0 a1 : Value} {K : Value → World → Prop} {w : World} (h : sh_90 a0 a1 K w) : callM Tryd.prog 90 #[a0, a1] K w :=
  calls_of_code (fun _ => 0) (fn := Tryd.f90) (rs := [.tmp 4, .tmp 5]) Tryd.func90 rfl rfl (by kernel_rfl) (Nat.le_of_ble_eq_true rfl) ((sh_90_eq a0 a1 K w).mp h)
def sh_98 (a0 : Value) (K : Value → World → Prop) (w : World) : Prop :=
 oM Tryd.prog (.nilCheck (.tmp 0)) 0 [a0] (fun v3_1 w =>
 oM Tryd.prog (.fieldAddr 107 (.tmp 0) 0) 0 [v3_1] (fun v4_2 w =>
 oM Tryd.prog (.load 105 (.tmp 0)) 105 [v4_2] (fun v5_3 w =>
 oM Tryd.prog (.binOp .eql 105 (.tmp 0) (.const (.pointer none)) 105) 4 [v5_3] (fun v6_4 w =>
 condM v6_4
 (oM Tryd.prog (.convert 105 131 (.tmp 0)) 131 [a0] (fun v9_5 w =>
 extM Tryd.prog 111 #[v9_5] (fun v10_6 w =>
 oM Tryd.prog (.convert 131 105 (.tmp 0)) 105 [v10_6] (fun v11_7 w =>
 oM Tryd.prog (.nilCheck (.tmp 0)) 0 [a0] (fun v12_8 w =>
 oM Tryd.prog (.fieldAddr 107 (.tmp 0) 0) 0 [v12_8] (fun v13_9 w =>
 oM Tryd.prog (.store 105 (.tmp 0) (.tmp 1)) 0 [v13_9, v11_7] (fun _ w =>
 K (.tuple #[]) w) w) w) w) w) w) w)
 (oM Tryd.prog (.nilCheck (.tmp 0)) 0 [a0] (fun v15_10 w =>
 oM Tryd.prog (.fieldAddr 107 (.tmp 0) 0) 0 [v15_10] (fun v16_11 w =>
 oM Tryd.prog (.load 105 (.tmp 0)) 105 [v16_11] (fun v17_12 w =>
 oM Tryd.prog (.binOp .neq 105 (.tmp 0) (.tmp 1) 105) 4 [v17_12, a0] (fun v19_13 w =>
 condM v19_13
 (False)
 (K (.tuple #[]) w)) w) w) w) w)) w) w) w) w
theorem sh_98_eq (a0 : Value) (K : Value → World → Prop) (w : World) : sh_98 a0 K w = code Tryd.prog (fun _ => 0) 20 (Tryd.f98.body.getD .skip) (slotsAt [a0]) (retK Tryd.prog [] K) w := by kernel_rfl
theorem sh_98_ok {a0 : Value} {K : Value → World → Prop} {w : World} (h : sh_98 a0 K w) : callM Tryd.prog 98 #[a0] K w :=
  calls_of_code (fun _ => 0) (fn := Tryd.f98) (rs := []) Tryd.func98 rfl rfl (by kernel_rfl) (Nat.le_of_ble_eq_true rfl) ((sh_98_eq a0 K w).mp h)
end Go.Proofs
set_option linter.all false
namespace Go.Proofs
abbrev tabName : String := (YtefjibjojkjiiaaDoor.Rows.baseWritesRow.laid.map (fun x => x.1)).getD 2 default
open Go.Shelf
def Tryd.lays169_ren : Go.Shelf.Ren := ⟨fun | 169 => 91 | n => n, fun | 70 => 105 | 9 => 9 | 0 => 0 | 72 => 107 | 37 => 61 | 127 => 119 | 3 => 3 | 5 => 5 | n => n, fun | n => n⟩
theorem Tryd.lays169 : Go.Proofs.Lays.n169 Tryd.prog Tryd.lays169_ren := {
  mixed := by kernel_rfl
  f169 := Tryd.func91.trans (congrArg some (by kernel_rfl))
  t0 := Tryd.underlying0
  a0 := Tryd.isAgg0
  z0 := Tryd.sizeOf0
  v0 := Tryd.zeroValue0
  t3 := Tryd.underlying3
  a3 := Tryd.isAgg3
  z3 := Tryd.sizeOf3
  v3 := Tryd.zeroValue3
  t9 := Tryd.underlying9
  a9 := Tryd.isAgg9
  z9 := Tryd.sizeOf9
  v9 := Tryd.zeroValue9
  t37 := Tryd.underlying61
  a37 := Tryd.isAgg61
  z37 := Tryd.sizeOf61
  v37 := Tryd.zeroValue61
  t70 := Tryd.underlying105
  a70 := Tryd.isAgg105
  z70 := Tryd.sizeOf105
  v70 := Tryd.zeroValue105
  t72 := Tryd.underlying107
  a72 := Tryd.isAgg107
  z72 := Tryd.sizeOf107
  v72 := Tryd.zeroValue107
  t127 := Tryd.underlying119
  a127 := Tryd.isAgg119
  z127 := Tryd.sizeOf119
  v127 := Tryd.zeroValue119 }
theorem Tryd.Builder_Extra_169 : Builder.Extra Tryd.prog Tryd.lays169_ren := {
  sizeBuilder := by kernel_rfl
  liesBuilder := by kernel_rfl
  t5 := Tryd.underlying5
  a5 := Tryd.isAgg5
  z5 := Tryd.sizeOf5
  v5 := Tryd.zeroValue5
  infoByte := by kernel_rfl
  cellsByte := by kernel_rfl
  sizeByte := by kernel_rfl
  neB5 := by decide }
open Go.RowKit in
theorem Tryd.Builder_String_any (B b : Nat) (l : List UInt8) (w : World) (h : Lib.IsBuilder 107 5 B b (Lib.byteCells l) w) (hBw : B ≤ w.heap.size) :
    Calls Tryd.prog 91 #[.pointer (some ⟨b, 0, none⟩)] w fun e w' => e = .returned (.string ⟨l.toArray⟩) ∧ Below B w w' := Any.Builder_String_any Tryd.lays169 Tryd.Builder_Extra_169 B b l w h hBw
def Tryd.lays137_ren : Go.Shelf.Ren := ⟨fun | 137 => 92 | 217 => 99 | 266 => 112 | n => n, fun | 9 => 9 | 5 => 5 | 3 => 3 | n => n, fun | n => n⟩
theorem Tryd.lays137 : Go.Proofs.Lays.n137 Tryd.prog Tryd.lays137_ren := {
  mixed := by kernel_rfl
  f137 := Tryd.func92.trans (congrArg some (by kernel_rfl))
  f217 := Tryd.func99.trans (congrArg some (by kernel_rfl))
  f266 := Tryd.func112.trans (congrArg some (by kernel_rfl))
  t3 := Tryd.underlying3
  a3 := Tryd.isAgg3
  z3 := Tryd.sizeOf3
  v3 := Tryd.zeroValue3
  t5 := Tryd.underlying5
  a5 := Tryd.isAgg5
  z5 := Tryd.sizeOf5
  v5 := Tryd.zeroValue5
  t9 := Tryd.underlying9
  a9 := Tryd.isAgg9
  z9 := Tryd.sizeOf9
  v9 := Tryd.zeroValue9 }
open Go.RowKit in
theorem Tryd.strings_IndexByte (s : ByteArray) (c : Int) (w : World) :
    Calls Tryd.prog 92 #[.string s, .int .u8 c] w fun e w' => e = .returned (.int .i64 (Lib.indexByte s.data.toList c.toNat.toUInt8)) ∧ w' = w := Any.strings_IndexByte Tryd.lays137 s c w
def Tryd.lays103_ren : Go.Shelf.Ren := ⟨fun | 103 => 94 | 210 => 102 | 206 => 118 | n => n, fun | 9 => 9 | 4 => 4 | 24 => 113 | 3 => 3 | n => n, fun | n => n⟩
theorem Tryd.lays103 : Go.Proofs.Lays.n103 Tryd.prog Tryd.lays103_ren := {
  mixed := by kernel_rfl
  f103 := Tryd.func94.trans (congrArg some (by kernel_rfl))
  f206 := Tryd.func118.trans (congrArg some (by kernel_rfl))
  f210 := Tryd.func102.trans (congrArg some (by kernel_rfl))
  t3 := Tryd.underlying3
  a3 := Tryd.isAgg3
  z3 := Tryd.sizeOf3
  v3 := Tryd.zeroValue3
  t4 := Tryd.underlying4
  a4 := Tryd.isAgg4
  z4 := Tryd.sizeOf4
  v4 := Tryd.zeroValue4
  t9 := Tryd.underlying9
  a9 := Tryd.isAgg9
  z9 := Tryd.sizeOf9
  v9 := Tryd.zeroValue9
  t24 := Tryd.underlying113
  a24 := Tryd.isAgg113
  z24 := Tryd.sizeOf113
  v24 := Tryd.zeroValue113 }
open Go.RowKit in
theorem Tryd.strings_CutPrefix (s p : ByteArray) (w : World) :
    Calls Tryd.prog 94 #[.string s, .string p] w fun e w' => e = .returned (.tuple #[.string ⟨(Lib.trimPrefix s.data.toList p.data.toList).toArray⟩, .bool (Lib.hasPrefix s.data.toList p.data.toList)]) ∧ w' = w := Any.strings_CutPrefix Tryd.lays103 s p w
def Tryd.laysM171_ren : Go.Shelf.Ren := ⟨fun | 171 => 65 | 243 => 89 | 246 => 97 | 283 => 107 | 284 => 108 | 285 => 109 | 286 => 110 | 129 => 121 | 317 => 120 | 318 => 122 | 319 => 123 | 320 => 124 | 337 => 128 | 338 => 129 | n => n, fun | 3 => 3 | 9 => 9 | 2 => 2 | 4 => 4 | 171 => 125 | 0 => 0 | 53 => 126 | 37 => 61 | 5 => 5 | 173 => 129 | 212 => 142 | 51 => 143 | 20 => 20 | 213 => 144 | 46 => 146 | 232 => 159 | 233 => 160 | n => n, fun | 17 => 0 | 18 => 4 | 19 => 5 | n => n⟩
theorem Tryd.laysM171 : Go.Proofs.LaysM.n171 Tryd.prog Tryd.laysM171_ren := {
  mixed := by kernel_rfl
  f129 := Tryd.func121.trans (congrArg some (by kernel_rfl))
  f171 := Tryd.func65.trans (congrArg some (by kernel_rfl))
  f243 := Tryd.func89.trans (congrArg some (by kernel_rfl))
  f246 := Tryd.func97.trans (congrArg some (by kernel_rfl))
  f283 := Tryd.func107.trans (congrArg some (by kernel_rfl))
  f284 := Tryd.func108.trans (congrArg some (by kernel_rfl))
  f285 := Tryd.func109.trans (congrArg some (by kernel_rfl))
  f286 := Tryd.func110.trans (congrArg some (by kernel_rfl))
  f317 := Tryd.func120.trans (congrArg some (by kernel_rfl))
  f318 := Tryd.func122.trans (congrArg some (by kernel_rfl))
  f319 := Tryd.func123.trans (congrArg some (by kernel_rfl))
  f320 := Tryd.func124.trans (congrArg some (by kernel_rfl))
  f337 := Tryd.func128.trans (congrArg some (by kernel_rfl))
  f338 := Tryd.func129.trans (congrArg some (by kernel_rfl))
  t0 := Tryd.underlying0
  a0 := Tryd.isAgg0
  z0 := Tryd.sizeOf0
  v0 := Tryd.zeroValue0
  t2 := Tryd.underlying2
  a2 := Tryd.isAgg2
  z2 := Tryd.sizeOf2
  v2 := Tryd.zeroValue2
  t3 := Tryd.underlying3
  a3 := Tryd.isAgg3
  z3 := Tryd.sizeOf3
  v3 := Tryd.zeroValue3
  t4 := Tryd.underlying4
  a4 := Tryd.isAgg4
  z4 := Tryd.sizeOf4
  v4 := Tryd.zeroValue4
  t5 := Tryd.underlying5
  a5 := Tryd.isAgg5
  z5 := Tryd.sizeOf5
  v5 := Tryd.zeroValue5
  t9 := Tryd.underlying9
  a9 := Tryd.isAgg9
  z9 := Tryd.sizeOf9
  v9 := Tryd.zeroValue9
  t20 := Tryd.underlying20
  a20 := Tryd.isAgg20
  z20 := Tryd.sizeOf20
  v20 := Tryd.zeroValue20
  t37 := Tryd.underlying61
  a37 := Tryd.isAgg61
  z37 := Tryd.sizeOf61
  v37 := Tryd.zeroValue61
  t46 := Tryd.underlying146
  a46 := Tryd.isAgg146
  z46 := Tryd.sizeOf146
  v46 := Tryd.zeroValue146
  t51 := Tryd.underlying143
  a51 := Tryd.isAgg143
  z51 := Tryd.sizeOf143
  v51 := Tryd.zeroValue143
  t53 := Tryd.underlying126
  a53 := Tryd.isAgg126
  z53 := Tryd.sizeOf126
  v53 := Tryd.zeroValue126
  t171 := Tryd.underlying125
  a171 := Tryd.isAgg125
  z171 := Tryd.sizeOf125
  v171 := Tryd.zeroValue125
  t173 := Tryd.underlying129
  a173 := Tryd.isAgg129
  z173 := Tryd.sizeOf129
  v173 := Tryd.zeroValue129
  t212 := Tryd.underlying142
  a212 := Tryd.isAgg142
  z212 := Tryd.sizeOf142
  v212 := Tryd.zeroValue142
  t213 := Tryd.underlying144
  a213 := Tryd.isAgg144
  z213 := Tryd.sizeOf144
  t232 := Tryd.underlying159
  a232 := Tryd.isAgg159
  z232 := Tryd.sizeOf159
  v232 := Tryd.zeroValue159
  t233 := Tryd.underlying160
  a233 := Tryd.isAgg160
  z233 := Tryd.sizeOf160
  v233 := Tryd.zeroValue160
  g17 := by kernel_rfl
  g18 := by kernel_rfl
  g19 := by kernel_rfl
  i0 := by kernel_rfl
  i2 := by kernel_rfl
  i3 := by kernel_rfl
  i4 := by kernel_rfl
  i5 := by kernel_rfl
  i9 := by kernel_rfl
  i20 := by kernel_rfl
  i37 := by kernel_rfl
  i46 := by kernel_rfl
  i51 := by kernel_rfl
  i53 := by kernel_rfl
  i171 := by kernel_rfl
  i173 := by kernel_rfl
  i212 := by kernel_rfl
  i232 := by kernel_rfl
  i233 := by kernel_rfl
  m17 := by kernel_rfl
  m18 := by kernel_rfl
  m19 := by kernel_rfl }
open Go.RowKit Go.Sort Go.Lib in
theorem Tryd.strconv_Itoa (n : Int) (h0 : -9223372036854775808 ≤ n) (h1 : n ≤ 9223372036854775807) (w : World) (htab : Lib.TabIs Tryd.prog w tabName .u64 Lib.pow10Tab) :
    Calls Tryd.prog 65 #[.int .i64 n] w fun e w' => e = .returned (.string ⟨(Lib.itoa n).toArray⟩) ∧ ∃ k os, w' = grow (w.drewN k) os := Any.strconv_Itoa Tryd.laysM171 n h0 h1 w htab
def Tryd.laysC172_ren : Go.Shelf.Ren := ⟨fun | 172 => 93 | 244 => 100 | 245 => 101 | 247 => 113 | 279 => 114 | 280 => 115 | 281 => 116 | 282 => 117 | 287 => 125 | 316 => 126 | 171 => 65 | 205 => 127 | 321 => 130 | 322 => 131 | 243 => 89 | 246 => 97 | 283 => 107 | 284 => 108 | 285 => 109 | 286 => 110 | 129 => 121 | 317 => 120 | 318 => 122 | 319 => 123 | 320 => 124 | 337 => 128 | 338 => 129 | n => n, fun | 9 => 9 | 3 => 3 | 75 => 109 | 76 => 110 | 4 => 4 | 5 => 5 | 167 => 133 | 37 => 61 | 0 => 0 | 85 => 134 | 2 => 2 | 168 => 136 | 53 => 126 | 175 => 148 | 46 => 146 | 210 => 151 | 127 => 119 | 145 => 158 | 143 => 156 | 21 => 21 | 171 => 125 | 173 => 129 | 212 => 142 | 51 => 143 | 20 => 20 | 213 => 144 | 232 => 159 | 233 => 160 | 80 => 38 | n => n, fun | 15 => 2 | 16 => 3 | 17 => 0 | 18 => 4 | 19 => 5 | n => n⟩
theorem Tryd.laysC172 : Go.Proofs.LaysC.n172 Tryd.prog Tryd.laysC172_ren := {
  mixed := by kernel_rfl
  f129 := Tryd.func121.trans (congrArg some (by kernel_rfl))
  f171 := Tryd.func65.trans (congrArg some (by kernel_rfl))
  f172 := Tryd.func93.trans (congrArg some (by kernel_rfl))
  f205 := Tryd.func127.trans (congrArg some (by kernel_rfl))
  f243 := Tryd.func89.trans (congrArg some (by kernel_rfl))
  f244 := Tryd.func100.trans (congrArg some (by kernel_rfl))
  f245 := Tryd.func101.trans (congrArg some (by kernel_rfl))
  f246 := Tryd.func97.trans (congrArg some (by kernel_rfl))
  f247 := Tryd.func113.trans (congrArg some (by kernel_rfl))
  f279 := Tryd.func114.trans (congrArg some (by kernel_rfl))
  f280 := Tryd.func115.trans (congrArg some (by kernel_rfl))
  f281 := Tryd.func116.trans (congrArg some (by kernel_rfl))
  f282 := Tryd.func117.trans (congrArg some (by kernel_rfl))
  f283 := Tryd.func107.trans (congrArg some (by kernel_rfl))
  f284 := Tryd.func108.trans (congrArg some (by kernel_rfl))
  f285 := Tryd.func109.trans (congrArg some (by kernel_rfl))
  f286 := Tryd.func110.trans (congrArg some (by kernel_rfl))
  f287 := Tryd.func125.trans (congrArg some (by kernel_rfl))
  f316 := Tryd.func126.trans (congrArg some (by kernel_rfl))
  f317 := Tryd.func120.trans (congrArg some (by kernel_rfl))
  f318 := Tryd.func122.trans (congrArg some (by kernel_rfl))
  f319 := Tryd.func123.trans (congrArg some (by kernel_rfl))
  f320 := Tryd.func124.trans (congrArg some (by kernel_rfl))
  f321 := Tryd.func130.trans (congrArg some (by kernel_rfl))
  f322 := Tryd.func131.trans (congrArg some (by kernel_rfl))
  f337 := Tryd.func128.trans (congrArg some (by kernel_rfl))
  f338 := Tryd.func129.trans (congrArg some (by kernel_rfl))
  t0 := Tryd.underlying0
  a0 := Tryd.isAgg0
  z0 := Tryd.sizeOf0
  v0 := Tryd.zeroValue0
  t2 := Tryd.underlying2
  a2 := Tryd.isAgg2
  z2 := Tryd.sizeOf2
  v2 := Tryd.zeroValue2
  t3 := Tryd.underlying3
  a3 := Tryd.isAgg3
  z3 := Tryd.sizeOf3
  v3 := Tryd.zeroValue3
  t4 := Tryd.underlying4
  a4 := Tryd.isAgg4
  z4 := Tryd.sizeOf4
  v4 := Tryd.zeroValue4
  t5 := Tryd.underlying5
  a5 := Tryd.isAgg5
  z5 := Tryd.sizeOf5
  v5 := Tryd.zeroValue5
  t9 := Tryd.underlying9
  a9 := Tryd.isAgg9
  z9 := Tryd.sizeOf9
  v9 := Tryd.zeroValue9
  t20 := Tryd.underlying20
  a20 := Tryd.isAgg20
  z20 := Tryd.sizeOf20
  v20 := Tryd.zeroValue20
  t21 := Tryd.underlying21
  a21 := Tryd.isAgg21
  z21 := Tryd.sizeOf21
  v21 := Tryd.zeroValue21
  t37 := Tryd.underlying61
  a37 := Tryd.isAgg61
  z37 := Tryd.sizeOf61
  v37 := Tryd.zeroValue61
  t46 := Tryd.underlying146
  a46 := Tryd.isAgg146
  z46 := Tryd.sizeOf146
  v46 := Tryd.zeroValue146
  t51 := Tryd.underlying143
  a51 := Tryd.isAgg143
  z51 := Tryd.sizeOf143
  v51 := Tryd.zeroValue143
  t53 := Tryd.underlying126
  a53 := Tryd.isAgg126
  z53 := Tryd.sizeOf126
  v53 := Tryd.zeroValue126
  t75 := Tryd.underlying109
  a75 := Tryd.isAgg109
  z75 := Tryd.sizeOf109
  v75 := Tryd.zeroValue109
  t76 := Tryd.underlying110
  a76 := Tryd.isAgg110
  z76 := Tryd.sizeOf110
  v76 := Tryd.zeroValue110
  t85 := Tryd.underlying134
  a85 := Tryd.isAgg134
  z85 := Tryd.sizeOf134
  v85 := Tryd.zeroValue134
  t127 := Tryd.underlying119
  a127 := Tryd.isAgg119
  z127 := Tryd.sizeOf119
  v127 := Tryd.zeroValue119
  t143 := Tryd.underlying156
  a143 := Tryd.isAgg156
  z143 := Tryd.sizeOf156
  v143 := Tryd.zeroValue156
  t145 := Tryd.underlying158
  a145 := Tryd.isAgg158
  z145 := Tryd.sizeOf158
  v145 := Tryd.zeroValue158
  t167 := Tryd.underlying133
  a167 := Tryd.isAgg133
  z167 := Tryd.sizeOf133
  v167 := Tryd.zeroValue133
  t168 := Tryd.underlying136
  a168 := Tryd.isAgg136
  z168 := Tryd.sizeOf136
  v168 := Tryd.zeroValue136
  t171 := Tryd.underlying125
  a171 := Tryd.isAgg125
  z171 := Tryd.sizeOf125
  v171 := Tryd.zeroValue125
  t173 := Tryd.underlying129
  a173 := Tryd.isAgg129
  z173 := Tryd.sizeOf129
  v173 := Tryd.zeroValue129
  t175 := Tryd.underlying148
  a175 := Tryd.isAgg148
  z175 := Tryd.sizeOf148
  v175 := Tryd.zeroValue148
  t210 := Tryd.underlying151
  a210 := Tryd.isAgg151
  z210 := Tryd.sizeOf151
  v210 := Tryd.zeroValue151
  t212 := Tryd.underlying142
  a212 := Tryd.isAgg142
  z212 := Tryd.sizeOf142
  v212 := Tryd.zeroValue142
  t213 := Tryd.underlying144
  a213 := Tryd.isAgg144
  z213 := Tryd.sizeOf144
  t232 := Tryd.underlying159
  a232 := Tryd.isAgg159
  z232 := Tryd.sizeOf159
  v232 := Tryd.zeroValue159
  t233 := Tryd.underlying160
  a233 := Tryd.isAgg160
  z233 := Tryd.sizeOf160
  v233 := Tryd.zeroValue160
  g15 := by kernel_rfl
  g16 := by kernel_rfl
  g17 := by kernel_rfl
  g18 := by kernel_rfl
  g19 := by kernel_rfl
  t80 := Tryd.underlying38
  a80 := Tryd.isAgg38
  z80 := Tryd.sizeOf38
  v80 := Tryd.zeroValue38
  i0 := by kernel_rfl
  i2 := by kernel_rfl
  i3 := by kernel_rfl
  i4 := by kernel_rfl
  i5 := by kernel_rfl
  i9 := by kernel_rfl
  i20 := by kernel_rfl
  i21 := by kernel_rfl
  i37 := by kernel_rfl
  i46 := by kernel_rfl
  i51 := by kernel_rfl
  i53 := by kernel_rfl
  i75 := by kernel_rfl
  i76 := by kernel_rfl
  i80 := by kernel_rfl
  i85 := by kernel_rfl
  i127 := by kernel_rfl
  i143 := by kernel_rfl
  i145 := by kernel_rfl
  i167 := by kernel_rfl
  i168 := by kernel_rfl
  i171 := by kernel_rfl
  i173 := by kernel_rfl
  i175 := by kernel_rfl
  i210 := by kernel_rfl
  i212 := by kernel_rfl
  i232 := by kernel_rfl
  i233 := by kernel_rfl
  m15 := by kernel_rfl
  m16 := by kernel_rfl
  m17 := by kernel_rfl
  m18 := by kernel_rfl
  m19 := by kernel_rfl
  c0 := by kernel_rfl
  c2 := by kernel_rfl
  c3 := by kernel_rfl
  c4 := by kernel_rfl
  c5 := by kernel_rfl
  c9 := by kernel_rfl
  c20 := by kernel_rfl
  c21 := by kernel_rfl
  c37 := by kernel_rfl
  c46 := by kernel_rfl
  c51 := by kernel_rfl
  c53 := by kernel_rfl
  c75 := by kernel_rfl
  c76 := by kernel_rfl
  c80 := by kernel_rfl
  c85 := by kernel_rfl
  c127 := by kernel_rfl
  c143 := by kernel_rfl
  c145 := by kernel_rfl
  c167 := by kernel_rfl
  c168 := by kernel_rfl
  c171 := by kernel_rfl
  c173 := by kernel_rfl
  c175 := by kernel_rfl
  c210 := by kernel_rfl
  c212 := by kernel_rfl
  c213 := by kernel_rfl
  c232 := by kernel_rfl
  c233 := by kernel_rfl }
open Go.RowKit in
theorem Tryd.strconv_Atoi_ok (s : ByteArray) (hmax : s.size ≤ 9223372036854775806) (v : Int) (h : Lib.atoiAll s.data.toList = .ok v) (w : World) :
    Calls Tryd.prog 93 #[.string s] w fun e w' => e = .returned (.tuple #[.int .i64 v, .nilIface]) ∧ (w' = w ∨ ∃ t, w' = Lib.bytesWorld w 5 t) := Any.strconv_Atoi_ok Tryd.laysC172 s hmax v h w
open Go.RowKit in
theorem Tryd.strconv_Atoi_syntax (s : ByteArray) (hlim : s.size ≤ 281474976710656) (h : Lib.atoiAll s.data.toList = .«syntax») (ev : Value) (w : World) (hv : w.cell? ⟨2, 0, none⟩ = some ev) (hev : ev = .nilIface ∨ ∃ te pe, ev = .iface te pe) :
    Calls Tryd.prog 93 #[.string s] w fun e w' => ∃ N, e = .returned (.tuple #[.int .i64 (0), .iface 136 (.pointer (some ⟨N, 0, none⟩))]) ∧ w.heap.size ≤ N ∧ w'.heap[N]? = some (.cells #[.string ⟨#[65, 116, 111, 105]⟩, .string s, ev] 151 (0, 0)) ∧ Below w.heap.size w w' := Any.strconv_Atoi_syntax Tryd.laysC172 s hlim h ev w hv hev
open Go.RowKit in
theorem Tryd.strconv_Atoi_range (s : ByteArray) (hlim : s.size ≤ 281474976710656) (h : Lib.atoiAll s.data.toList = .range) (ev : Value) (w : World) (hv : w.cell? ⟨3, 0, none⟩ = some ev) (hev : ev = .nilIface ∨ ∃ te pe, ev = .iface te pe) :
    Calls Tryd.prog 93 #[.string s] w fun e w' => ∃ N, e = .returned (.tuple #[.int .i64 (Lib.atoiSat s.data.toList), .iface 136 (.pointer (some ⟨N, 0, none⟩))]) ∧ w.heap.size ≤ N ∧ w'.heap[N]? = some (.cells #[.string ⟨#[65, 116, 111, 105]⟩, .string s, ev] 151 (0, 0)) ∧ Below w.heap.size w w' := Any.strconv_Atoi_range Tryd.laysC172 s hlim h ev w hv hev
end Go.Proofs
namespace CodeSpec
open Go.Lib
abbrev Bytes := List UInt8
def InR (n : Int) : Prop := -9223372036854775808 ≤ n ∧ n ≤ 9223372036854775807
def encInt (n : Int) : Bytes := itoa n ++ [59]
def encNum (n : Int) : Bytes := if n < 0 then [] else encInt n
def encText (s : Bytes) : Bytes := itoa s.length ++ 58 :: (s ++ [44])
def encList (l : List Bytes) : Bytes := itoa l.length ++ 91 :: (l.flatten ++ [93])
def encNums (l : List Int) : Bytes := encList (l.map encInt)
def encTexts (l : List Bytes) : Bytes := encList (l.map encText)
def canon (l : Bytes) : Option Int := match atoiAll l with
  | .ok v => if itoa v = l then some v else none
  | _ => none
structure Rd where
  rest : Bytes
  bad : Bool
def failed : Rd := ⟨[], true⟩
def rdNumber (r : Rd) (e : UInt8) (least : Int) : Int × Rd :=
  if ((r.rest.take 21).takeWhile (· != e)).length < (r.rest.take 21).length then
    match canon ((r.rest.take 21).takeWhile (· != e)) with
    | some n => if n < least then (0, failed) else (n, ⟨r.rest.drop (((r.rest.take 21).takeWhile (· != e)).length + 1), r.bad⟩)
    | none => (0, failed)
  else (0, failed)
def rdClose (r : Rd) (c : UInt8) : Rd := match r.rest with
  | [] => failed
  | x :: t => if x = c then ⟨t, r.bad⟩ else failed
def rdNum (r : Rd) : Int × Rd := rdNumber r 59 0
def rdInt (r : Rd) : Int × Rd := rdNumber r 59 (-9223372036854775808)
def rdText (r : Rd) : Bytes × Rd :=
  if ((rdNumber r 58 0).2.rest.length : Int) < (rdNumber r 58 0).1 then ([], failed)
  else if (rdClose ⟨(rdNumber r 58 0).2.rest.drop (rdNumber r 58 0).1.toNat, (rdNumber r 58 0).2.bad⟩ 44).bad then ([], rdClose ⟨(rdNumber r 58 0).2.rest.drop (rdNumber r 58 0).1.toNat, (rdNumber r 58 0).2.bad⟩ 44)
  else ((rdNumber r 58 0).2.rest.take (rdNumber r 58 0).1.toNat, rdClose ⟨(rdNumber r 58 0).2.rest.drop (rdNumber r 58 0).1.toNat, (rdNumber r 58 0).2.bad⟩ 44)
def itemsGo {α : Type} (one : Rd → α × Rd) : Nat → Rd → List α × Rd
  | 0, r => ([], r)
  | n + 1, r => if r.bad then ([], r) else ((one r).1 :: (itemsGo one n (one r).2).1, (itemsGo one n (one r).2).2)
def rdItems {α : Type} (one : Rd → α × Rd) (r : Rd) : List α × Rd :=
  if (rdClose (itemsGo one (rdNumber r 91 0).1.toNat (rdNumber r 91 0).2).2 93).bad then ([], rdClose (itemsGo one (rdNumber r 91 0).1.toNat (rdNumber r 91 0).2).2 93)
  else ((itemsGo one (rdNumber r 91 0).1.toNat (rdNumber r 91 0).2).1, rdClose (itemsGo one (rdNumber r 91 0).1.toNat (rdNumber r 91 0).2).2 93)
def rdNums : Rd → List Int × Rd := rdItems rdInt
def rdTexts : Rd → List Bytes × Rd := rdItems rdText
theorem digit_toNat (d : Nat) (h : d < 10) : (UInt8.ofNat (48 + d)).toNat = 48 + d := by
  rw [UInt8.toNat_ofNat']; omega
theorem decDigits_digit (u : Nat) : ∀ c ∈ decDigits u, 48 ≤ c.toNat ∧ c.toNat ≤ 57 := by
  induction u using Nat.strongRecOn with
  | ind u ih =>
    rw [decDigits]
    split
    · rename_i h
      intro c hc
      simp only [List.mem_singleton] at hc
      subst hc
      rw [digit_toNat u h]; omega
    · rename_i h
      intro c hc
      rcases List.mem_append.1 hc with hc | hc
      · exact ih (u / 10) (by omega) c hc
      · simp only [List.mem_singleton] at hc
        subst hc
        rw [digit_toNat _ (by omega)]; omega
theorem decDigits_ne (u : Nat) : decDigits u ≠ [] := by
  rw [decDigits]
  split <;> simp
theorem decDigits_len (u : Nat) (k : Nat) (hk : 1 ≤ k) (h : u < 10 ^ k) : (decDigits u).length ≤ k := by
  induction k generalizing u with
  | zero => omega
  | succ k ih =>
    rw [decDigits]
    split
    · simp
    · rename_i h10
      have hk1 : 1 ≤ k := by
        rcases Nat.eq_zero_or_pos k with rfl | h0
        · simp at h; omega
        · exact h0
      have := ih (u / 10) hk1 (by rw [Nat.pow_succ] at h; omega)
      simp only [List.length_append, List.length_singleton]
      omega
theorem parse_append (l m : Bytes) (acc : Nat) : parseUint10 acc (l ++ m) = match parseUint10 acc l with | .ok u => parseUint10 u m | .range => .range | .syntax => .syntax := by
  induction l generalizing acc with
  | nil => rfl
  | cons c l ih =>
    simp only [List.cons_append, parseUint10]
    by_cases h1 : 48 ≤ c.toNat ∧ c.toNat ≤ 57
    · by_cases h2 : 1844674407370955162 ≤ acc
      · simp only [if_pos h1, if_pos h2]
      · by_cases h3 : 18446744073709551616 ≤ acc * 10 + (c.toNat - 48)
        · simp only [if_pos h1, if_neg h2, if_pos h3]
        · simp only [if_pos h1, if_neg h2, if_neg h3]
          exact ih _
    · simp only [if_neg h1]
theorem parse_dec (u : Nat) (h : u < 18446744073709551616) : parseUint10 0 (decDigits u) = .ok u := by
  induction u using Nat.strongRecOn with
  | ind u ih =>
    rw [decDigits]
    split
    · rename_i h10
      simp only [parseUint10, digit_toNat u h10]
      rw [if_pos (by omega), if_neg (by omega), if_neg (by omega)]
      congr 1; omega
    · rename_i h10
      rw [parse_append, ih (u / 10) (by omega) (by omega)]
      simp only [parseUint10, digit_toNat (u % 10) (by omega)]
      rw [if_pos (by omega), if_neg (by omega), if_neg (by omega)]
      congr 1; omega
theorem atoi_itoa (n : Int) (h : InR n) : atoiAll (itoa n) = .ok n := by
  obtain ⟨h1, h2⟩ := h
  unfold itoa
  split
  · rename_i hn
    rw [atoiAll_minus]
    have hp : parseMag (decDigits n.natAbs) = .ok n.natAbs := by
      unfold parseMag
      rw [if_neg (decDigits_ne _), parse_dec _ (by omega)]
    rw [hp]
    simp only [signed]
    rw [if_neg (by omega)]
    congr 1; omega
  · rename_i hn
    obtain ⟨c, r, hc⟩ : ∃ c r, decDigits n.toNat = c :: r := by
      cases hd : decDigits n.toNat with
      | nil => exact absurd hd (decDigits_ne _)
      | cons c r => exact ⟨c, r, rfl⟩
    have hcd := decDigits_digit n.toNat c (by rw [hc]; simp)
    rw [hc, atoiAll_plain c r (by omega) (by omega), ← hc]
    have hp : parseMag (decDigits n.toNat) = .ok n.toNat := by
      unfold parseMag
      rw [if_neg (decDigits_ne _), parse_dec _ (by omega)]
    rw [hp]
    simp only [signless]
    rw [if_neg (by omega)]
    congr 1; omega
theorem canon_itoa (n : Int) (h : InR n) : canon (itoa n) = some n := by
  unfold canon
  rw [atoi_itoa n h]
  simp
theorem canon_some (l : Bytes) (n : Int) (h : canon l = some n) : l = itoa n ∧ InR n := by
  unfold canon at h
  split at h
  · rename_i v hv
    split at h
    · rename_i he
      cases h
      exact ⟨he.symm, atoiAll_bounds hv⟩
    · cases h
  · cases h
theorem itoa_len (n : Int) (h : InR n) : (itoa n).length ≤ 20 := by
  obtain ⟨h1, h2⟩ := h
  unfold itoa
  split
  · have := decDigits_len n.natAbs 19 (by omega) (by omega)
    simp; omega
  · have := decDigits_len n.toNat 19 (by omega) (by omega)
    omega
theorem itoa_byte (n : Int) : ∀ c ∈ itoa n, c.toNat = 45 ∨ (48 ≤ c.toNat ∧ c.toNat ≤ 57) := by
  intro c hc
  unfold itoa at hc
  split at hc
  · rcases List.mem_cons.1 hc with rfl | hc
    · left; rfl
    · right; exact decDigits_digit _ c hc
  · right; exact decDigits_digit _ c hc
theorem itoa_ne (n : Int) : itoa n ≠ [] := by
  unfold itoa
  split
  · simp
  · exact decDigits_ne _
theorem takeWhile_num (n : Int) (hn : InR n) (e : UInt8) (he : 58 ≤ e.toNat) (t : Bytes) : ((itoa n ++ e :: t).take 21).takeWhile (· != e) = itoa n ∧ (itoa n).length < ((itoa n ++ e :: t).take 21).length := by
  have hl := itoa_len n hn
  have h1 : (itoa n ++ e :: t).take 21 = itoa n ++ (e :: t).take (21 - (itoa n).length) := by
    rw [List.take_append, List.take_of_length_le (by omega)]
  obtain ⟨k, hk⟩ : ∃ k, 21 - (itoa n).length = k + 1 := ⟨20 - (itoa n).length, by omega⟩
  rw [hk, List.take_succ_cons] at h1
  rw [h1]
  refine ⟨?_, by simp⟩
  rw [List.takeWhile_append_of_pos]
  · simp
  · intro c hc
    have := itoa_byte n c hc
    simp only [bne_iff_ne, ne_eq]
    rintro rfl
    omega
theorem rdNumber_enc (n : Int) (hn : InR n) (e : UInt8) (he : 58 ≤ e.toNat) (least : Int) (hl : least ≤ n) (t : Bytes) (b : Bool) : rdNumber ⟨itoa n ++ e :: t, b⟩ e least = (n, ⟨t, b⟩) := by
  obtain ⟨h1, h2⟩ := takeWhile_num n hn e he t
  unfold rdNumber
  simp only [h1]
  rw [if_pos h2, canon_itoa n hn]
  simp only
  rw [if_neg (by omega)]
  have : (itoa n ++ e :: t).drop ((itoa n).length + 1) = t := by
    rw [← List.drop_drop, List.drop_left]; rfl
  rw [this]
theorem rdNumber_some (r : Rd) (e : UInt8) (least : Int) : rdNumber r e least = (0, failed) ∨ ∃ n t, rdNumber r e least = (n, ⟨t, r.bad⟩) ∧ r.rest = itoa n ++ e :: t ∧ InR n ∧ least ≤ n := by
  unfold rdNumber
  split
  · rename_i hlt
    split
    · rename_i n hc
      split
      · exact .inl rfl
      · rename_i hle
        obtain ⟨h1, h2⟩ := canon_some _ _ hc
        refine .inr ⟨n, _, rfl, ?_, h2, by omega⟩
        generalize hp : (r.rest.take 21).takeWhile (· != e) = p at *
        have hpre : r.rest.take 21 = p ++ (r.rest.take 21).drop p.length := by
          have := List.takeWhile_append_dropWhile (p := (· != e)) (l := r.rest.take 21)
          rw [hp] at this
          conv => lhs; rw [← this]
          congr 1
          conv => rhs; rw [← this]
          rw [List.drop_left]
        have hdw : (r.rest.take 21).dropWhile (· != e) = (r.rest.take 21).drop p.length := by
          have := List.takeWhile_append_dropWhile (p := (· != e)) (l := r.rest.take 21)
          rw [hp] at this
          conv => rhs; rw [← this]
          rw [List.drop_left]
        have hpl : p.length < r.rest.length := by
          have := List.length_take_le 21 r.rest
          rw [List.length_take] at hlt
          omega
        have hhead : ∃ t', (r.rest.take 21).drop p.length = e :: t' := by
          cases hd : (r.rest.take 21).drop p.length with
          | nil => rw [List.drop_eq_nil_iff] at hd; omega
          | cons x t' =>
            rw [hd] at hdw
            have := List.head_dropWhile_not (· != e) (l := r.rest.take 21) (by rw [hdw]; simp)
            simp only [hdw, List.head_cons] at this
            have hx : x = e := by simpa using this
            exact ⟨t', by rw [hx]⟩
        obtain ⟨t', ht'⟩ := hhead
        have hget : r.rest[p.length]? = some e := by
          have h3 : (r.rest.take 21)[p.length]? = some e := by
            have := congrArg (fun l => l[0]?) ht'
            simpa using this
          rw [List.getElem?_take] at h3
          split at h3
          · exact h3
          · cases h3
        have htk : r.rest.take p.length = p := by
          have h4 := congrArg (List.take p.length) hpre
          rw [List.take_left, List.take_take, Nat.min_eq_left (by rw [List.length_take] at hlt; omega)] at h4
          exact h4
        have hsplit : r.rest = r.rest.take p.length ++ r.rest.drop p.length := (List.take_append_drop _ _).symm
        have hdrop : r.rest.drop p.length = e :: r.rest.drop (p.length + 1) := by
          rw [List.drop_eq_getElem_cons hpl]
          congr 1
          rw [List.getElem?_eq_getElem hpl] at hget
          simpa using hget
        rw [htk, hdrop] at hsplit
        rw [← h1]
        exact hsplit
    · exact .inl rfl
  · exact .inl rfl
theorem failed_rest : failed.rest = [] := rfl
theorem failed_bad : failed.bad = true := rfl
def Rd.ok (r : Rd) : Prop := r.bad = true → r.rest = []
theorem Rd.ok_failed : failed.ok := fun _ => rfl
theorem Rd.ok_good {t : Bytes} : Rd.ok ⟨t, false⟩ := fun h => by cases h
theorem Rd.eq_failed {r : Rd} (h : r.ok) (hb : r.bad = true) : r = failed := by
  cases r with
  | mk rest bad =>
    have := h hb
    simp only at hb this
    subst hb; subst this; rfl
theorem rdNumber_failed (e : UInt8) (least : Int) : rdNumber failed e least = (0, failed) := by
  rcases rdNumber_some failed e least with h | ⟨n, t, _, h, _⟩
  · exact h
  · simp [failed] at h
theorem rdNumber_ok (r : Rd) (h : r.ok) (e : UInt8) (least : Int) : (rdNumber r e least).2.ok := by
  rcases rdNumber_some r e least with h1 | ⟨n, t, h1, h2, _⟩
  · rw [h1]; exact Rd.ok_failed
  · rw [h1]
    intro hb
    have := h hb
    rw [this] at h2
    simp at h2
theorem rdClose_some (r : Rd) (c : UInt8) : rdClose r c = failed ∨ ∃ t, r.rest = c :: t ∧ rdClose r c = ⟨t, r.bad⟩ := by
  unfold rdClose
  split
  · exact .inl rfl
  · rename_i x t hx
    split
    · rename_i hc
      subst hc
      exact .inr ⟨t, hx, rfl⟩
    · exact .inl rfl
theorem rdClose_cons (c : UInt8) (t : Bytes) (b : Bool) : rdClose ⟨c :: t, b⟩ c = ⟨t, b⟩ := by simp [rdClose]
theorem rdText_failed : rdText failed = ([], failed) := by
  unfold rdText
  rw [rdNumber_failed]
  simp [failed, rdClose]
theorem rdText_some (r : Rd) (hr : r.ok) : rdText r = ([], failed) ∨ ∃ s t, rdText r = (s, ⟨t, false⟩) ∧ r = ⟨encText s ++ t, false⟩ ∧ (s.length : Int) ≤ 9223372036854775807 := by
  rcases hb : r.bad with _ | _
  · rcases rdNumber_some r 58 0 with h1 | ⟨n, t, h1, h2, h3, h4⟩
    · left
      unfold rdText
      rw [h1]
      simp [failed, rdClose]
    · rw [hb] at h1
      unfold rdText
      rw [h1]
      dsimp only
      split
      · left; rfl
      · rename_i hlt
        rcases rdClose_some ⟨t.drop n.toNat, false⟩ 44 with h5 | ⟨t', h5, h6⟩
        · left; rw [h5]; rfl
        · right
          rw [h6]
          simp only at h5
          refine ⟨t.take n.toNat, t', rfl, ?_, ?_⟩
          · have hl : (t.take n.toNat).length = n.toNat := by rw [List.length_take]; omega
            have hn : ((t.take n.toNat).length : Int) = n := by rw [hl]; omega
            obtain ⟨rest, bad⟩ := r
            simp only at hb h2
            subst hb
            rw [h2]
            unfold encText
            rw [hn]
            congr 1
            conv => lhs; rw [← List.take_append_drop n.toNat t, h5]
            simp
          · have := h3.2
            rw [List.length_take]; omega
  · left
    rw [Rd.eq_failed hr hb]
    exact rdText_failed
theorem rdText_enc (s t : Bytes) (hs : (s.length : Int) ≤ 9223372036854775807) : rdText ⟨encText s ++ t, false⟩ = (s, ⟨t, false⟩) := by
  have h := rdNumber_enc s.length ⟨by omega, hs⟩ 58 (by decide) 0 (by omega) (s ++ 44 :: t) false
  have e : encText s ++ t = itoa s.length ++ 58 :: (s ++ 44 :: t) := by simp [encText]
  unfold rdText
  rw [e, h]
  dsimp only
  rw [if_neg (by simp; omega)]
  have h1 : (s ++ 44 :: t).drop ((s.length : Int)).toNat = 44 :: t := by simp
  have h2 : (s ++ 44 :: t).take ((s.length : Int)).toNat = s := by simp
  rw [h1, h2, rdClose_cons]
  rfl
theorem rdInt_some (r : Rd) (hr : r.ok) : rdInt r = (0, failed) ∨ ∃ n t, rdInt r = (n, ⟨t, false⟩) ∧ r = ⟨encInt n ++ t, false⟩ ∧ InR n := by
  rcases rdNumber_some r 59 (-9223372036854775808) with h1 | ⟨n, t, h1, h2, h3, h4⟩
  · exact .inl h1
  · rcases hb : r.bad with _ | _
    · right
      rw [hb] at h1
      obtain ⟨rest, bad⟩ := r
      simp only at hb h2
      subst hb
      exact ⟨n, t, h1, by rw [h2]; simp [encInt], h3⟩
    · rw [hr hb] at h2; simp at h2
theorem rdInt_enc (n : Int) (hn : InR n) (t : Bytes) : rdInt ⟨encInt n ++ t, false⟩ = (n, ⟨t, false⟩) := by
  have := rdNumber_enc n hn 59 (by decide) (-9223372036854775808) hn.1 t false
  simpa [rdInt, encInt] using this
theorem rdNum_enc (n : Int) (hn : InR n) (h0 : 0 ≤ n) (t : Bytes) : rdNum ⟨encNum n ++ t, false⟩ = (n, ⟨t, false⟩) := by
  have := rdNumber_enc n hn 59 (by decide) 0 h0 t false
  have h1 : ¬ n < 0 := by omega
  simpa [rdNum, encNum, encInt, h1] using this
theorem itemsGo_enc {α : Type} (one : Rd → α × Rd) (enc : α → Bytes) (vs : List α) (t : Bytes) (h : ∀ v ∈ vs, ∀ t, one ⟨enc v ++ t, false⟩ = (v, ⟨t, false⟩)) : itemsGo one vs.length ⟨(vs.map enc).flatten ++ t, false⟩ = (vs, ⟨t, false⟩) := by
  induction vs with
  | nil => rfl
  | cons v vs ih =>
    have h1 := h v (by simp) ((vs.map enc).flatten ++ t)
    have h2 := ih (fun x hx => h x (by simp [hx]))
    have e : ((v :: vs).map enc).flatten ++ t = enc v ++ ((vs.map enc).flatten ++ t) := by simp
    rw [e, List.length_cons]
    unfold itemsGo
    rw [if_neg (by simp), h1]
    dsimp only
    rw [h2]
theorem rdItems_enc {α : Type} (one : Rd → α × Rd) (enc : α → Bytes) (vs : List α) (t : Bytes) (hl : (vs.length : Int) ≤ 9223372036854775807) (h : ∀ v ∈ vs, ∀ t, one ⟨enc v ++ t, false⟩ = (v, ⟨t, false⟩)) : rdItems one ⟨encList (vs.map enc) ++ t, false⟩ = (vs, ⟨t, false⟩) := by
  have h1 := rdNumber_enc vs.length ⟨by omega, hl⟩ 91 (by decide) 0 (by omega) ((vs.map enc).flatten ++ 93 :: t) false
  have e : encList (vs.map enc) ++ t = itoa vs.length ++ 91 :: ((vs.map enc).flatten ++ 93 :: t) := by simp [encList]
  have h2 := itemsGo_enc one enc vs (93 :: t) h
  have h3 : ((vs.length : Int)).toNat = vs.length := by simp
  unfold rdItems
  rw [e, h1]
  dsimp only
  rw [h3, h2]
  dsimp only
  rw [rdClose_cons]
  rfl
theorem rdNums_enc (vs : List Int) (t : Bytes) (hl : (vs.length : Int) ≤ 9223372036854775807) (h : ∀ v ∈ vs, InR v) : rdNums ⟨encNums vs ++ t, false⟩ = (vs, ⟨t, false⟩) :=
  rdItems_enc rdInt encInt vs t hl (fun v hv t => rdInt_enc v (h v hv) t)
theorem rdTexts_enc (vs : List Bytes) (t : Bytes) (hl : (vs.length : Int) ≤ 9223372036854775807) (h : ∀ v ∈ vs, (v.length : Int) ≤ 9223372036854775807) : rdTexts ⟨encTexts vs ++ t, false⟩ = (vs, ⟨t, false⟩) :=
  rdItems_enc rdText encText vs t hl (fun v hv t => rdText_enc v t (h v hv))
end CodeSpec
namespace Go.Proofs.Cd
open Go Go.Sh Go.RowKit Go.Lib CodeSpec
set_option linter.unusedSimpArgs false
set_option maxRecDepth 10000
theorem ba_extract (l : List UInt8) (i j : Nat) : (⟨l.toArray⟩ : ByteArray).extract i j = ⟨((l.take j).drop i).toArray⟩ := by
  apply ByteArray.ext
  rw [← Array.toList_inj, ByteArray.data_extract, Array.toList_extract, List.extract_eq_take_drop]
  simp [List.drop_take]
theorem ba_inj (a b : List UInt8) : ((⟨a.toArray⟩ : ByteArray) = ⟨b.toArray⟩) = (a = b) := by
  simp
theorem ba_of (s : ByteArray) : s = ⟨s.data.toList.toArray⟩ := by
  cases s; rfl
theorem ba_byteAt (l : List UInt8) (k : Nat) : byteAt ⟨l.toArray⟩ k = l.getD k 0 := by
  simp [byteAt]
attribute [go_sem] ba_size ba_append ba_extract ba_byteAt ba_inj
theorem K_eq {K : Value → World → Prop} {w : World} {a b : Value} (h : K a w) (e : b = a) : K b w := by rw [e]; exact h
theorem call_of_calls {f : FuncId} {args : Array Value} {w : World} {v : Value} {Q : World → Prop} {K : Value → World → Prop} (h : Calls Tryd.prog f args w fun e w' => e = .returned v ∧ Q w') (k : ∀ w', Q w' → K v w') : callM Tryd.prog f args K w :=
  Calls.mono h (fun _ w' ⟨he, hq⟩ => ⟨v, he, k w' hq⟩)
structure Laid (w : World) : Prop where
  tab : TabIs Tryd.prog w tabName .u64 pow10Tab
  syn : ∃ te pe, w.cell? ⟨2, 0, none⟩ = some (.iface te pe)
  ran : ∃ te pe, w.cell? ⟨3, 0, none⟩ = some (.iface te pe)
  size : 6 ≤ w.heap.size
theorem gTab : Tryd.prog.globalNamed tabName = some 0 := by kernel_rfl
theorem Laid.keep {w w' : World} (h : Laid w) (hb : ∀ k, k < 6 → w'.heap[k]? = w.heap[k]?) (hs : w.heap.size ≤ w'.heap.size) : Laid w' := by
  have hc : ∀ k, k < 6 → w'.cell? ⟨k, 0, none⟩ = w.cell? ⟨k, 0, none⟩ := fun k hk => World.cell?_of_block (w := w) (hb k hk)
  refine ⟨?_, ?_, ?_, Nat.le_trans h.size hs⟩
  · have h1 := h.tab
    unfold TabIs World.var? at h1 ⊢
    rw [gTab] at h1 ⊢
    simp only [Option.bind_some] at h1 ⊢
    rw [hb _ (by omega)]
    exact h1
  · rw [hc _ (by omega)]; exact h.syn
  · rw [hc _ (by omega)]; exact h.ran
theorem Laid.below {w w' : World} (h : Laid w) {B : Nat} (hb : Below B w w') (hB : 6 ≤ B) : Laid w' := h.keep (fun k hk => hb.block k (by omega)) hb.size
theorem Laid.grown {w w' : World} (h : Laid w) {b : Nat} (hg : w.grownBy w' (some b)) (hb : 6 ≤ b) : Laid w' := h.keep (fun k hk => hg.block k (by have := h.size; omega) (by simp; omega)) hg.size
theorem grown_of_below {w w' : World} (h : Below w.heap.size w w') (b : Option Nat) : w.grownBy w' b := ⟨h.os, h.tape, h.output, h.size, fun k hk _ => h.block k hk⟩
theorem below_of_grown {B : Nat} {w w' : World} {row : Option Nat} (h : w.grownBy w' row) (hB : B ≤ w.heap.size) (hr : ∀ k, row = some k → B ≤ k) : Below B w w' :=
  (Below.refl B w).grown h hB hr
theorem itoa_ok (n : Int) (hn : InR n) {K : Value → World → Prop} {w : World} (hl : Laid w) (k : ∀ w', Below w.heap.size w w' → K (.string ⟨(itoa n).toArray⟩) w') : callM Tryd.prog 65 #[.int .i64 n] K w := by
  refine call_of_calls (Tryd.strconv_Itoa n hn.1 hn.2 w hl.tab) ?_
  rintro w' ⟨d, os, rfl⟩
  exact k _ (below_grow _ _ (Nat.le_refl _) _ _)
theorem below_bytesWorld (w : World) (T : TypeId) (t : ByteArray) : Below w.heap.size w (bytesWorld w T t) :=
  ⟨rfl, rfl, rfl, by rw [bytesWorld_size]; omega, fun k hk => bytesWorld_at_old w T t k hk⟩
theorem atoi_ok (s : List UInt8) (hs : s.length ≤ 281474976710656) {K : Value → World → Prop} {w : World} (hl : Laid w)
    (k1 : ∀ n w', atoiAll s = .ok n → Below w.heap.size w w' → K (.tuple #[.int .i64 n, .nilIface]) w')
    (k2 : ∀ v te pe w', (∀ n, atoiAll s ≠ .ok n) → Below w.heap.size w w' → K (.tuple #[.int .i64 v, .iface te pe]) w') : callM Tryd.prog 93 #[.string ⟨s.toArray⟩] K w := by
  cases h : atoiAll s with
  | ok n =>
    refine call_of_calls (Tryd.strconv_Atoi_ok ⟨s.toArray⟩ (by rw [ba_size]; omega) n (by rw [ba_list]; exact h) w) ?_
    rintro w' (rfl | ⟨t, rfl⟩)
    · exact k1 n _ h (Below.refl _ _)
    · exact k1 n _ h (below_bytesWorld _ _ _)
  | «syntax» =>
    obtain ⟨te, pe, he⟩ := hl.syn
    refine Calls.mono (Tryd.strconv_Atoi_syntax ⟨s.toArray⟩ (by rw [ba_size]; omega) (by rw [ba_list]; exact h) _ w he (.inr ⟨_, _, rfl⟩)) ?_
    rintro e w' ⟨N, rfl, _, _, hb⟩
    exact ⟨_, rfl, k2 _ _ _ _ (fun n e => by rw [h] at e; cases e) hb⟩
  | range =>
    obtain ⟨te, pe, he⟩ := hl.ran
    refine Calls.mono (Tryd.strconv_Atoi_range ⟨s.toArray⟩ (by rw [ba_size]; omega) (by rw [ba_list]; exact h) _ w he (.inr ⟨_, _, rfl⟩)) ?_
    rintro e w' ⟨N, rfl, _, _, hb⟩
    exact ⟨_, rfl, k2 _ _ _ _ (fun n e => by rw [h] at e; cases e) hb⟩
theorem indexByte_ok (s : List UInt8) (c : UInt8) {K : Value → World → Prop} {w : World} (h : K (.int .i64 (indexByte s c)) w) : callM Tryd.prog 92 #[.string ⟨s.toArray⟩, .int .u8 c.toNat] K w := by
  refine call_of_calls (Tryd.strings_IndexByte ⟨s.toArray⟩ c.toNat w) ?_
  rintro w' rfl
  have : ((c.toNat : Int)).toNat.toUInt8 = c := by simp
  rw [ba_list, this]
  exact h
theorem cutPrefix_ok (s p : List UInt8) {K : Value → World → Prop} {w : World} (h : K (.tuple #[.string ⟨(trimPrefix s p).toArray⟩, .bool (hasPrefix s p)]) w) : callM Tryd.prog 94 #[.string ⟨s.toArray⟩, .string ⟨p.toArray⟩] K w := by
  refine call_of_calls (Tryd.strings_CutPrefix ⟨s.toArray⟩ ⟨p.toArray⟩ w) ?_
  rintro w' rfl
  exact h
theorem infoB : Tryd.prog.info? 107 = some Tryd.t107 := by kernel_rfl
theorem sizeB : Tryd.t107.size = 2 := by kernel_rfl
theorem liesB (b : Nat) : liesAt Tryd.prog Tryd.prog.depth 107 (2 / Tryd.prog.cellsOf 107) (⟨b, 0, none⟩ : Addr).off 107 1 = true := by kernel_rfl
theorem runNE (x : Value) (w : World) : (callFunc 111 #[x]).run Tryd.prog w = .ok (.value x) w := by kernel_rfl
theorem extNE {x : Value} {K : Value → World → Prop} {w : World} (k : K x w) : extM Tryd.prog 111 #[x] K w := by
  unfold extM opM
  rw [runNE]
  exact k
theorem copyCheck_nil (B b : Nat) (bs : List Value) (w : World) (h : BuilderAt 107 5 B b (.pointer none) bs w) {K : Value → World → Prop}
    (k : K (.tuple #[]) (w.setCell ⟨b, 0, none⟩ (.pointer (some ⟨b, 0, none⟩)))) : callM Tryd.prog 98 #[.pointer (some ⟨b, 0, none⟩)] K w := by
  apply sh_98_ok
  unfold sh_98
  have hc := h.cell0
  have hf := h.frozen0
  have hv1 : (convert 105 131 (.pointer (some ⟨b, 0, none⟩))).run Tryd.prog w = .ok (.pointer (some ⟨b, 0, none⟩)) w :=
    run_to_unsafe (P := Tryd.prog) (w := w) (a := ⟨b, 0, none⟩) Tryd.underlying105 Tryd.underlying131 (t := 107) (j := Tryd.t107) infoB (by rw [sizeB]; omega) h.shape (by show (0 : Nat) < 2; omega)
  have hv2 : (convert 131 105 (.pointer (some ⟨b, 0, none⟩))).run Tryd.prog w = .ok (.pointer (some ⟨b, 0, none⟩)) w :=
    run_from_unsafe (P := Tryd.prog) (w := w) (a := ⟨b, 0, none⟩) Tryd.underlying131 Tryd.underlying105 (u := 107) (j := Tryd.t107) infoB h.shape (liesB b)
  repeat (any_goals (first
  | (with_reducible refine pureM_in ?_)
  | (with_reducible refine extNE ?_)
  | (with_reducible refine gdtT ?_) | (with_reducible refine gdtF ?_) | (with_reducible refine gdfF ?_) | (with_reducible refine gdfT ?_) | (with_reducible refine gdu ?_ _)
  | (with_reducible refine gdt_pos (by first | assumption | omega) ?_) | (with_reducible refine gdt_neg (by first | assumption | omega) ?_) | (with_reducible refine gdt_split (fun hg => ?_) (fun hg => ?_))
  | (with_reducible refine gdf_pos (by first | assumption | omega) ?_) | (with_reducible refine gdf_neg (by first | assumption | omega) ?_) | (with_reducible refine gdf_split (fun hg => ?_) (fun hg => ?_))
  | (with_reducible refine gdtn_pos (by first | assumption | omega) ?_) | (with_reducible refine gdtn_neg (by first | assumption | omega) ?_) | (with_reducible refine gdtn_split (fun hg => ?_) (fun hg => ?_))
  | (with_reducible refine gdfn_pos (by first | assumption | omega) ?_) | (with_reducible refine gdfn_neg (by first | assumption | omega) ?_) | (with_reducible refine gdfn_split (fun hg => ?_) (fun hg => ?_))
  | (with_reducible refine gdtbn_pos (by assumption) ?_) | (with_reducible refine gdtbn_neg (by assumption) ?_) | (with_reducible refine gdfbn_pos (by assumption) ?_) | (with_reducible refine gdfbn_neg (by assumption) ?_)
  | (with_reducible refine gdtb_pos (by assumption) ?_) | (with_reducible refine gdtb_neg (by assumption) ?_) | (with_reducible refine gdtb_split (fun hg => ?_) (fun hg => ?_))
  | (with_reducible refine gdfb_pos (by assumption) ?_) | (with_reducible refine gdfb_neg (by assumption) ?_) | (with_reducible refine gdfb_split (fun hg => ?_) (fun hg => ?_))
  | (with_reducible refine pickT ?_) | (with_reducible refine pickF ?_)
  | (with_reducible refine pick_pos (by first | assumption | omega) ?_) | (with_reducible refine pick_neg (by first | assumption | omega) ?_)
  | (with_reducible refine pickn_pos (by first | assumption | omega) ?_) | (with_reducible refine pickn_neg (by first | assumption | omega) ?_)
  | (with_reducible refine pickbn_pos (by assumption) ?_) | (with_reducible refine pickbn_neg (by assumption) ?_)
  | (with_reducible refine pickb_pos (by assumption) ?_) | (with_reducible refine pickb_neg (by assumption) ?_)
  | (with_reducible refine condT ?_) | (with_reducible refine condF ?_)
  | (with_reducible refine cond_pos (by first | assumption | omega) ?_) | (with_reducible refine cond_neg (by first | assumption | omega) ?_) | (with_reducible refine condM_dec (fun hg => ?_) (fun hg => ?_))
  | (with_reducible refine condn_pos (by first | assumption | omega) ?_) | (with_reducible refine condn_neg (by first | assumption | omega) ?_) | (with_reducible refine condM_ndec (fun hg => ?_) (fun hg => ?_))
  | (with_reducible refine condbn_pos (by assumption) ?_) | (with_reducible refine condbn_neg (by assumption) ?_) | (with_reducible refine condbn_split (fun hg => ?_) (fun hg => ?_))
  | (with_reducible refine condb_pos (by assumption) ?_) | (with_reducible refine condb_neg (by assumption) ?_) | (with_reducible refine condM_b (fun hg => ?_) (fun hg => ?_))
  | ((with_reducible refine oM_gen (fun Kv hK => ?_)); simp [go_sem, oM_eqc, eqGuard, hc, hf, hv1, hv2]; (try simp (disch := omega) only [wrapI64, wrapU8, wrapU32, wrapU64]); (first | refine hK _ _ ?_ | refine And.intro (by omega) (hK _ _ ?_)); clear hK; clear Kv)))
  exact k
theorem copyCheck_self (B b : Nat) (bs : List Value) (w : World) (h : BuilderAt 107 5 B b (.pointer (some ⟨b, 0, none⟩)) bs w) {K : Value → World → Prop}
    (k : K (.tuple #[]) w) : callM Tryd.prog 98 #[.pointer (some ⟨b, 0, none⟩)] K w := by
  apply sh_98_ok
  unfold sh_98
  have hc := h.cell0
  have hf := h.frozen0
  have hn := run_neq_ptr_same (P := Tryd.prog) (w := w) (tp := 105) (te := 107) (j := Tryd.t107) (a := ⟨b, 0, none⟩) Tryd.underlying105 infoB
  repeat (any_goals (first
  | (with_reducible refine pureM_in ?_)
  | (with_reducible refine gdtT ?_) | (with_reducible refine gdtF ?_) | (with_reducible refine gdfF ?_) | (with_reducible refine gdfT ?_) | (with_reducible refine gdu ?_ _)
  | (with_reducible refine gdt_pos (by first | assumption | omega) ?_) | (with_reducible refine gdt_neg (by first | assumption | omega) ?_) | (with_reducible refine gdt_split (fun hg => ?_) (fun hg => ?_))
  | (with_reducible refine gdf_pos (by first | assumption | omega) ?_) | (with_reducible refine gdf_neg (by first | assumption | omega) ?_) | (with_reducible refine gdf_split (fun hg => ?_) (fun hg => ?_))
  | (with_reducible refine gdtn_pos (by first | assumption | omega) ?_) | (with_reducible refine gdtn_neg (by first | assumption | omega) ?_) | (with_reducible refine gdtn_split (fun hg => ?_) (fun hg => ?_))
  | (with_reducible refine gdfn_pos (by first | assumption | omega) ?_) | (with_reducible refine gdfn_neg (by first | assumption | omega) ?_) | (with_reducible refine gdfn_split (fun hg => ?_) (fun hg => ?_))
  | (with_reducible refine gdtbn_pos (by assumption) ?_) | (with_reducible refine gdtbn_neg (by assumption) ?_) | (with_reducible refine gdfbn_pos (by assumption) ?_) | (with_reducible refine gdfbn_neg (by assumption) ?_)
  | (with_reducible refine gdtb_pos (by assumption) ?_) | (with_reducible refine gdtb_neg (by assumption) ?_) | (with_reducible refine gdtb_split (fun hg => ?_) (fun hg => ?_))
  | (with_reducible refine gdfb_pos (by assumption) ?_) | (with_reducible refine gdfb_neg (by assumption) ?_) | (with_reducible refine gdfb_split (fun hg => ?_) (fun hg => ?_))
  | (with_reducible refine pickT ?_) | (with_reducible refine pickF ?_)
  | (with_reducible refine pick_pos (by first | assumption | omega) ?_) | (with_reducible refine pick_neg (by first | assumption | omega) ?_)
  | (with_reducible refine pickn_pos (by first | assumption | omega) ?_) | (with_reducible refine pickn_neg (by first | assumption | omega) ?_)
  | (with_reducible refine pickbn_pos (by assumption) ?_) | (with_reducible refine pickbn_neg (by assumption) ?_)
  | (with_reducible refine pickb_pos (by assumption) ?_) | (with_reducible refine pickb_neg (by assumption) ?_)
  | (with_reducible refine condT ?_) | (with_reducible refine condF ?_)
  | (with_reducible refine cond_pos (by first | assumption | omega) ?_) | (with_reducible refine cond_neg (by first | assumption | omega) ?_) | (with_reducible refine condM_dec (fun hg => ?_) (fun hg => ?_))
  | (with_reducible refine condn_pos (by first | assumption | omega) ?_) | (with_reducible refine condn_neg (by first | assumption | omega) ?_) | (with_reducible refine condM_ndec (fun hg => ?_) (fun hg => ?_))
  | (with_reducible refine condbn_pos (by assumption) ?_) | (with_reducible refine condbn_neg (by assumption) ?_) | (with_reducible refine condbn_split (fun hg => ?_) (fun hg => ?_))
  | (with_reducible refine condb_pos (by assumption) ?_) | (with_reducible refine condb_neg (by assumption) ?_) | (with_reducible refine condM_b (fun hg => ?_) (fun hg => ?_))
  | ((with_reducible refine oM_gen (fun Kv hK => ?_)); simp [go_sem, oM_eqc, oM_net, eqGuard, hc, hf, hn]; (try simp (disch := omega) only [wrapI64, wrapU8, wrapU32, wrapU64]); (first | refine hK _ _ ?_ | refine And.intro (by omega) (hK _ _ ?_)); clear hK; clear Kv)))
  exact k
theorem copyCheck_ok (B b : Nat) (bs : List Value) (w : World) (h : IsBuilder 107 5 B b bs w) {K : Value → World → Prop}
    (k : ∀ w', BuilderAt 107 5 B b (.pointer (some ⟨b, 0, none⟩)) bs w' → w.grownBy w' (some b) → w'.heap.size = w.heap.size → K (.tuple #[]) w') : callM Tryd.prog 98 #[.pointer (some ⟨b, 0, none⟩)] K w := by
  rcases h with h | h
  · refine copyCheck_nil B b bs w h (k _ (h.used _) ⟨rfl, rfl, rfl, by simp [World.setCell], fun i _ hi => Below.heap_setCell _ _ _ _ (fun e => hi (by simp [e]))⟩ (by simp [World.setCell]))
  · exact copyCheck_self B b bs w h (k _ h ⟨rfl, rfl, rfl, Nat.le_refl _, fun _ _ _ => rfl⟩ rfl)
theorem ownsRow_slice {w : World} {B : Nat} {e : TypeId} {sz : Nat} {v : Value} {n : Nat} {xs : List Value} (h : w.ownsRow B e sz v n xs) : ∃ a m c, v = .slice a m c := by
  rcases h.2 with ⟨h, _⟩ | ⟨g, cap, cur, h, _⟩
  · exact ⟨_, _, _, h⟩
  · exact ⟨_, _, _, h⟩
theorem builderString_ok (B b : Nat) (l : List UInt8) (w : World) (h : IsBuilder 107 5 B b (byteCells l) w) (hBw : B ≤ w.heap.size) {K : Value → World → Prop} (k : ∀ w', Below B w w' → K (.string ⟨l.toArray⟩) w') : callM Tryd.prog 91 #[.pointer (some ⟨b, 0, none⟩)] K w :=
  call_of_calls (Tryd.Builder_String_any B b l w h hBw) k
theorem writeString_ok (B b : Nat) (l s : List UInt8) (w : World) (h : IsBuilder 107 5 B b (byteCells l) w) (hlen : l.length + s.length ≤ 140737488355328) (hBw : B ≤ w.heap.size) {K : Value → World → Prop}
    (k : ∀ w', IsBuilder 107 5 B b (byteCells (l ++ s)) w' → Below B w w' → K (.tuple #[.int .i64 s.length, .nilIface]) w') : callM Tryd.prog 90 #[.pointer (some ⟨b, 0, none⟩), .string ⟨s.toArray⟩] K w := by
  apply sh_90_ok
  unfold sh_90
  refine copyCheck_ok B b _ w h ?_
  intro w1 h1 hg1 hs1
  obtain ⟨hB, v, hb, hown, hne⟩ := h1
  have hc1 : w1.cell? ⟨b, 1, none⟩ = some v := by simp [World.cell?, hb]
  have hbl : Below B w w1 := below_of_grown hg1 hBw (fun k hk => by cases hk; exact hB)
  have hbl5 : (byteCells l).length = l.length := by simp [byteCells]
  repeat (any_goals (first
  | (with_reducible refine pureM_in ?_)
  | (with_reducible refine gdtT ?_) | (with_reducible refine gdtF ?_) | (with_reducible refine gdfF ?_) | (with_reducible refine gdfT ?_) | (with_reducible refine gdu ?_ _)
  | (with_reducible refine gdt_pos (by first | assumption | omega) ?_) | (with_reducible refine gdt_neg (by first | assumption | omega) ?_) | (with_reducible refine gdt_split (fun hg => ?_) (fun hg => ?_))
  | (with_reducible refine gdf_pos (by first | assumption | omega) ?_) | (with_reducible refine gdf_neg (by first | assumption | omega) ?_) | (with_reducible refine gdf_split (fun hg => ?_) (fun hg => ?_))
  | (with_reducible refine gdtn_pos (by first | assumption | omega) ?_) | (with_reducible refine gdtn_neg (by first | assumption | omega) ?_) | (with_reducible refine gdtn_split (fun hg => ?_) (fun hg => ?_))
  | (with_reducible refine gdfn_pos (by first | assumption | omega) ?_) | (with_reducible refine gdfn_neg (by first | assumption | omega) ?_) | (with_reducible refine gdfn_split (fun hg => ?_) (fun hg => ?_))
  | (with_reducible refine gdtbn_pos (by assumption) ?_) | (with_reducible refine gdtbn_neg (by assumption) ?_) | (with_reducible refine gdfbn_pos (by assumption) ?_) | (with_reducible refine gdfbn_neg (by assumption) ?_)
  | (with_reducible refine gdtb_pos (by assumption) ?_) | (with_reducible refine gdtb_neg (by assumption) ?_) | (with_reducible refine gdtb_split (fun hg => ?_) (fun hg => ?_))
  | (with_reducible refine gdfb_pos (by assumption) ?_) | (with_reducible refine gdfb_neg (by assumption) ?_) | (with_reducible refine gdfb_split (fun hg => ?_) (fun hg => ?_))
  | (with_reducible refine pickT ?_) | (with_reducible refine pickF ?_)
  | (with_reducible refine pick_pos (by first | assumption | omega) ?_) | (with_reducible refine pick_neg (by first | assumption | omega) ?_)
  | (with_reducible refine pickn_pos (by first | assumption | omega) ?_) | (with_reducible refine pickn_neg (by first | assumption | omega) ?_)
  | (with_reducible refine pickbn_pos (by assumption) ?_) | (with_reducible refine pickbn_neg (by assumption) ?_)
  | (with_reducible refine pickb_pos (by assumption) ?_) | (with_reducible refine pickb_neg (by assumption) ?_)
  | (with_reducible refine condT ?_) | (with_reducible refine condF ?_)
  | (with_reducible refine cond_pos (by first | assumption | omega) ?_) | (with_reducible refine cond_neg (by first | assumption | omega) ?_) | (with_reducible refine condM_dec (fun hg => ?_) (fun hg => ?_))
  | (with_reducible refine condn_pos (by first | assumption | omega) ?_) | (with_reducible refine condn_neg (by first | assumption | omega) ?_) | (with_reducible refine condM_ndec (fun hg => ?_) (fun hg => ?_))
  | (with_reducible refine condbn_pos (by assumption) ?_) | (with_reducible refine condbn_neg (by assumption) ?_) | (with_reducible refine condbn_split (fun hg => ?_) (fun hg => ?_))
  | (with_reducible refine condb_pos (by assumption) ?_) | (with_reducible refine condb_neg (by assumption) ?_) | (with_reducible refine condM_b (fun hg => ?_) (fun hg => ?_))
  | ((with_reducible refine oM_gen (fun Kv hK => ?_)); simp [go_sem, hc1]; (try simp (disch := omega) only [wrapI64, wrapU8, wrapU32, wrapU64]); (first | refine hK _ _ ?_ | refine And.intro (by omega) (hK _ _ ?_)); clear hK; clear Kv)))
  obtain ⟨v', w2, hrun, ho, hg, _⟩ := run_append_own_string (P := Tryd.prog) w1 B 61 9 61 5 Tryd.t5 Tryd.underlying61 Tryd.underlying9 (by kernel_rfl) (by kernel_rfl) (by kernel_rfl) (by kernel_rfl) v (byteCells l).length (byteCells l) hown ⟨s.toArray⟩ (by unfold maxLen; rw [ba_size]; omega) (by rw [ba_size]; omega) (by omega)
  rw [oM_value (S := Builtin.append_ #[61, 9] 61 #[v, .string ⟨s.toArray⟩]) (by simp [xop, execOp, evalL, evE, resolve, invoke, builtin]), hrun, ok_iff]
  have hb2 : w2.heap[b]? = some (.cells #[.pointer (some ⟨b, 0, none⟩), v] 107 (0, 0)) := by
    rw [hg.block b (by have := (Array.getElem?_eq_some_iff.1 hb).1; exact this) (fun e => hne e.symm)]
    exact hb
  have hc2 : w2.cell? ⟨b, 1, none⟩ = some v := by simp [World.cell?, hb2]
  have hf2 : w2.frozen? ⟨b, 1, none⟩ = false := by simp [World.frozen?, hb2]
  have ho' : w2.ownsRow B 5 1 v' (byteCells (l ++ s)).length (byteCells (l ++ s)) := by
    have e : byteCells l ++ strCells ⟨s.toArray⟩ = byteCells (l ++ s) := by simp [byteCells, strCells]
    have e2 : (byteCells l).length + (⟨s.toArray⟩ : ByteArray).size = (byteCells (l ++ s)).length := by rw [ba_size]; simp [byteCells]
    rw [e, e2] at ho
    exact ho
  have hput := BuilderAt.put (p := .pointer (some ⟨b, 0, none⟩)) hB hb2 ho' (by decide)
  have hbl2 : Below B w w2 := hbl.trans (below_of_grown hg (by omega) (fun k hk => (hown.lt k hk).1))
  obtain ⟨av, nv, cv, rfl⟩ := ownsRow_slice ho
  repeat (any_goals (first
  | (with_reducible refine pureM_in ?_)
  | (with_reducible refine gdtT ?_) | (with_reducible refine gdtF ?_) | (with_reducible refine gdfF ?_) | (with_reducible refine gdfT ?_) | (with_reducible refine gdu ?_ _)
  | (with_reducible refine gdt_pos (by first | assumption | omega) ?_) | (with_reducible refine gdt_neg (by first | assumption | omega) ?_) | (with_reducible refine gdt_split (fun hg => ?_) (fun hg => ?_))
  | (with_reducible refine gdf_pos (by first | assumption | omega) ?_) | (with_reducible refine gdf_neg (by first | assumption | omega) ?_) | (with_reducible refine gdf_split (fun hg => ?_) (fun hg => ?_))
  | (with_reducible refine gdtn_pos (by first | assumption | omega) ?_) | (with_reducible refine gdtn_neg (by first | assumption | omega) ?_) | (with_reducible refine gdtn_split (fun hg => ?_) (fun hg => ?_))
  | (with_reducible refine gdfn_pos (by first | assumption | omega) ?_) | (with_reducible refine gdfn_neg (by first | assumption | omega) ?_) | (with_reducible refine gdfn_split (fun hg => ?_) (fun hg => ?_))
  | (with_reducible refine gdtbn_pos (by assumption) ?_) | (with_reducible refine gdtbn_neg (by assumption) ?_) | (with_reducible refine gdfbn_pos (by assumption) ?_) | (with_reducible refine gdfbn_neg (by assumption) ?_)
  | (with_reducible refine gdtb_pos (by assumption) ?_) | (with_reducible refine gdtb_neg (by assumption) ?_) | (with_reducible refine gdtb_split (fun hg => ?_) (fun hg => ?_))
  | (with_reducible refine gdfb_pos (by assumption) ?_) | (with_reducible refine gdfb_neg (by assumption) ?_) | (with_reducible refine gdfb_split (fun hg => ?_) (fun hg => ?_))
  | (with_reducible refine pickT ?_) | (with_reducible refine pickF ?_)
  | (with_reducible refine pick_pos (by first | assumption | omega) ?_) | (with_reducible refine pick_neg (by first | assumption | omega) ?_)
  | (with_reducible refine pickn_pos (by first | assumption | omega) ?_) | (with_reducible refine pickn_neg (by first | assumption | omega) ?_)
  | (with_reducible refine pickbn_pos (by assumption) ?_) | (with_reducible refine pickbn_neg (by assumption) ?_)
  | (with_reducible refine pickb_pos (by assumption) ?_) | (with_reducible refine pickb_neg (by assumption) ?_)
  | (with_reducible refine condT ?_) | (with_reducible refine condF ?_)
  | (with_reducible refine cond_pos (by first | assumption | omega) ?_) | (with_reducible refine cond_neg (by first | assumption | omega) ?_) | (with_reducible refine condM_dec (fun hg => ?_) (fun hg => ?_))
  | (with_reducible refine condn_pos (by first | assumption | omega) ?_) | (with_reducible refine condn_neg (by first | assumption | omega) ?_) | (with_reducible refine condM_ndec (fun hg => ?_) (fun hg => ?_))
  | (with_reducible refine condbn_pos (by assumption) ?_) | (with_reducible refine condbn_neg (by assumption) ?_) | (with_reducible refine condbn_split (fun hg => ?_) (fun hg => ?_))
  | (with_reducible refine condb_pos (by assumption) ?_) | (with_reducible refine condb_neg (by assumption) ?_) | (with_reducible refine condM_b (fun hg => ?_) (fun hg => ?_))
  | ((with_reducible refine oM_gen (fun Kv hK => ?_)); simp [go_sem, hc2, hf2]; (try simp (disch := omega) only [wrapI64, wrapU8, wrapU32, wrapU64]); (first | refine hK _ _ ?_ | refine And.intro (by omega) (hK _ _ ?_)); clear hK; clear Kv)))
  exact k _ (.inr hput) (hbl2.setCell hB _)
end Go.Proofs.Cd
namespace Go.Proofs.Cd
open Go Go.Sh Go.RowKit Go.Lib CodeSpec
set_option linter.unusedSimpArgs false
set_option maxRecDepth 10000
def intV (n : Int) : Value := .int .i64 n
def strV (s : List UInt8) : Value := .string ⟨s.toArray⟩
def RowOf {α : Type} (mk : α → Value) (w : World) (v : Value) (l : List α) : Prop :=
  ∃ ad c, v = .slice ad l.length c ∧ (l = [] ∨ ∃ b o, ad = some ⟨b, o, none⟩ ∧ b < w.heap.size ∧ ∀ (i : Nat) (h : i < l.length), w.cell? ⟨b, o + i, none⟩ = some (mk l[i]))
theorem RowOf.below {α : Type} {mk : α → Value} {w w' : World} {v : Value} {l : List α} (h : RowOf mk w v l) (hb : Below w.heap.size w w') : RowOf mk w' v l := by
  obtain ⟨ad, c, rfl, h⟩ := h
  refine ⟨ad, c, rfl, h.imp id ?_⟩
  rintro ⟨b, o, rfl, hlt, hc⟩
  exact ⟨b, o, rfl, Nat.lt_of_lt_of_le hlt hb.size, fun i hi => by rw [hb.cell hlt]; exact hc i hi⟩
theorem RowOf.nil {α : Type} (mk : α → Value) (w : World) (ad : Option Addr) (c : Nat) : RowOf mk w (.slice ad 0 c) [] := ⟨ad, c, rfl, .inl rfl⟩
theorem addr_add (b o k : Nat) : (⟨b, o, none⟩ : Addr).add k = ⟨b, o + k, none⟩ := by
  unfold Addr.add
  split
  · rename_i h0; rw [h0]; simp
  · rfl
theorem RowOf.of_owns {α : Type} {mk : α → Value} {w : World} {B : Nat} {e : TypeId} {v : Value} {l : List α} (h : w.ownsRow B e 1 v l.length (l.map mk)) : RowOf mk w v l := by
  rcases h.2 with ⟨rfl, h0⟩ | ⟨g, cap, cur, rfl, hb, hg, hn, hm, hcs, ht⟩
  · obtain rfl : l = [] := List.eq_nil_of_length_eq_zero h0
    exact RowOf.nil _ _ _ _
  · refine ⟨_, cap, rfl, .inr ⟨g, 0, rfl, (Array.getElem?_eq_some_iff.1 hg).1, fun i hi => ?_⟩⟩
    have : (l.map mk)[i]? = some (mk l[i]) := by simp [hi]
    rw [← ht, List.getElem?_take_of_lt (by omega)] at this
    unfold World.cell?
    rw [hg]
    simpa using this
theorem idx22 {b o n c k : Nat} (hk : k < n) (w : World) : (Instr.indexAt 22 (.slice (some ⟨b, o, none⟩) n c) (.int .i64 k)).run Tryd.prog w = .ok (.pointer (some ⟨b, o + k, none⟩)) w := by
  rw [run_indexAt_slice (h := by kernel_rfl), if_pos (by omega)]
  have hs : (sizeOf (Tryd.prog.elem 22)).run Tryd.prog w = .ok 1 w := by kernel_rfl
  rw [hs]
  simp only [Result.andThen, Int.toNat_natCast, addr_add, Nat.mul_one]
theorem idx23 {b o n c k : Nat} (hk : k < n) (w : World) : (Instr.indexAt 23 (.slice (some ⟨b, o, none⟩) n c) (.int .i64 k)).run Tryd.prog w = .ok (.pointer (some ⟨b, o + k, none⟩)) w := by
  rw [run_indexAt_slice (h := by kernel_rfl), if_pos (by omega)]
  have hs : (sizeOf (Tryd.prog.elem 23)).run Tryd.prog w = .ok 1 w := by kernel_rfl
  rw [hs]
  simp only [Result.andThen, Int.toNat_natCast, addr_add, Nat.mul_one]
theorem encInt_len (n : Int) (h : InR n) : (encInt n).length ≤ 21 := by
  have := itoa_len n h
  simp [encInt]; omega
theorem pInt_ok (n : Int) (hn : InR n) {K : Value → World → Prop} {w : World} (hl : Laid w) (k : ∀ w', Below w.heap.size w w' → K (.string ⟨(encInt n).toArray⟩) w') : callM Tryd.prog 15 #[.int .i64 n] K w := by
  apply sh_15_ok
  unfold sh_15
  refine itoa_ok n hn hl ?_
  intro w1 hb
  have := itoa_len n hn
  repeat (any_goals (first
  | (with_reducible refine pureM_in ?_)
  | (with_reducible refine gdtT ?_) | (with_reducible refine gdtF ?_) | (with_reducible refine gdfF ?_) | (with_reducible refine gdfT ?_) | (with_reducible refine gdu ?_ _)
  | (with_reducible refine gdt_pos (by first | assumption | omega) ?_) | (with_reducible refine gdt_neg (by first | assumption | omega) ?_) | (with_reducible refine gdt_split (fun hg => ?_) (fun hg => ?_))
  | (with_reducible refine gdf_pos (by first | assumption | omega) ?_) | (with_reducible refine gdf_neg (by first | assumption | omega) ?_) | (with_reducible refine gdf_split (fun hg => ?_) (fun hg => ?_))
  | (with_reducible refine gdtn_pos (by first | assumption | omega) ?_) | (with_reducible refine gdtn_neg (by first | assumption | omega) ?_) | (with_reducible refine gdtn_split (fun hg => ?_) (fun hg => ?_))
  | (with_reducible refine gdfn_pos (by first | assumption | omega) ?_) | (with_reducible refine gdfn_neg (by first | assumption | omega) ?_) | (with_reducible refine gdfn_split (fun hg => ?_) (fun hg => ?_))
  | (with_reducible refine gdtbn_pos (by assumption) ?_) | (with_reducible refine gdtbn_neg (by assumption) ?_) | (with_reducible refine gdfbn_pos (by assumption) ?_) | (with_reducible refine gdfbn_neg (by assumption) ?_)
  | (with_reducible refine gdtb_pos (by assumption) ?_) | (with_reducible refine gdtb_neg (by assumption) ?_) | (with_reducible refine gdtb_split (fun hg => ?_) (fun hg => ?_))
  | (with_reducible refine gdfb_pos (by assumption) ?_) | (with_reducible refine gdfb_neg (by assumption) ?_) | (with_reducible refine gdfb_split (fun hg => ?_) (fun hg => ?_))
  | (with_reducible refine pickT ?_) | (with_reducible refine pickF ?_)
  | (with_reducible refine pick_pos (by first | assumption | omega) ?_) | (with_reducible refine pick_neg (by first | assumption | omega) ?_)
  | (with_reducible refine pickn_pos (by first | assumption | omega) ?_) | (with_reducible refine pickn_neg (by first | assumption | omega) ?_)
  | (with_reducible refine pickbn_pos (by assumption) ?_) | (with_reducible refine pickbn_neg (by assumption) ?_)
  | (with_reducible refine pickb_pos (by assumption) ?_) | (with_reducible refine pickb_neg (by assumption) ?_)
  | (with_reducible refine condT ?_) | (with_reducible refine condF ?_)
  | (with_reducible refine cond_pos (by first | assumption | omega) ?_) | (with_reducible refine cond_neg (by first | assumption | omega) ?_) | (with_reducible refine condM_dec (fun hg => ?_) (fun hg => ?_))
  | (with_reducible refine condn_pos (by first | assumption | omega) ?_) | (with_reducible refine condn_neg (by first | assumption | omega) ?_) | (with_reducible refine condM_ndec (fun hg => ?_) (fun hg => ?_))
  | (with_reducible refine condbn_pos (by assumption) ?_) | (with_reducible refine condbn_neg (by assumption) ?_) | (with_reducible refine condbn_split (fun hg => ?_) (fun hg => ?_))
  | (with_reducible refine condb_pos (by assumption) ?_) | (with_reducible refine condb_neg (by assumption) ?_) | (with_reducible refine condM_b (fun hg => ?_) (fun hg => ?_))
  | ((with_reducible refine oM_gen (fun Kv hK => ?_)); simp [go_sem]; (try simp (disch := omega) only [wrapI64, wrapU8, wrapU32, wrapU64]); (first | refine hK _ _ ?_ | refine And.intro (by omega) (hK _ _ ?_)); clear hK; clear Kv)))
  exact K_eq (k _ hb) (by simp [encInt])
theorem pNum_ok (n : Int) (hn : InR n) {K : Value → World → Prop} {w : World} (hl : Laid w) (k : ∀ w', Below w.heap.size w w' → K (.string ⟨(encNum n).toArray⟩) w') : callM Tryd.prog 13 #[.int .i64 n] K w := by
  apply sh_13_ok
  unfold sh_13
  repeat (any_goals (first
  | (with_reducible refine pureM_in ?_)
  | (with_reducible refine gdtT ?_) | (with_reducible refine gdtF ?_) | (with_reducible refine gdfF ?_) | (with_reducible refine gdfT ?_) | (with_reducible refine gdu ?_ _)
  | (with_reducible refine gdt_pos (by first | assumption | omega) ?_) | (with_reducible refine gdt_neg (by first | assumption | omega) ?_) | (with_reducible refine gdt_split (fun hg => ?_) (fun hg => ?_))
  | (with_reducible refine gdf_pos (by first | assumption | omega) ?_) | (with_reducible refine gdf_neg (by first | assumption | omega) ?_) | (with_reducible refine gdf_split (fun hg => ?_) (fun hg => ?_))
  | (with_reducible refine gdtn_pos (by first | assumption | omega) ?_) | (with_reducible refine gdtn_neg (by first | assumption | omega) ?_) | (with_reducible refine gdtn_split (fun hg => ?_) (fun hg => ?_))
  | (with_reducible refine gdfn_pos (by first | assumption | omega) ?_) | (with_reducible refine gdfn_neg (by first | assumption | omega) ?_) | (with_reducible refine gdfn_split (fun hg => ?_) (fun hg => ?_))
  | (with_reducible refine gdtbn_pos (by assumption) ?_) | (with_reducible refine gdtbn_neg (by assumption) ?_) | (with_reducible refine gdfbn_pos (by assumption) ?_) | (with_reducible refine gdfbn_neg (by assumption) ?_)
  | (with_reducible refine gdtb_pos (by assumption) ?_) | (with_reducible refine gdtb_neg (by assumption) ?_) | (with_reducible refine gdtb_split (fun hg => ?_) (fun hg => ?_))
  | (with_reducible refine gdfb_pos (by assumption) ?_) | (with_reducible refine gdfb_neg (by assumption) ?_) | (with_reducible refine gdfb_split (fun hg => ?_) (fun hg => ?_))
  | (with_reducible refine pickT ?_) | (with_reducible refine pickF ?_)
  | (with_reducible refine pick_pos (by first | assumption | omega) ?_) | (with_reducible refine pick_neg (by first | assumption | omega) ?_)
  | (with_reducible refine pickn_pos (by first | assumption | omega) ?_) | (with_reducible refine pickn_neg (by first | assumption | omega) ?_)
  | (with_reducible refine pickbn_pos (by assumption) ?_) | (with_reducible refine pickbn_neg (by assumption) ?_)
  | (with_reducible refine pickb_pos (by assumption) ?_) | (with_reducible refine pickb_neg (by assumption) ?_)
  | (with_reducible refine condT ?_) | (with_reducible refine condF ?_)
  | (with_reducible refine cond_pos (by first | assumption | omega) ?_) | (with_reducible refine cond_neg (by first | assumption | omega) ?_) | (with_reducible refine condM_dec (fun hg => ?_) (fun hg => ?_))
  | (with_reducible refine condn_pos (by first | assumption | omega) ?_) | (with_reducible refine condn_neg (by first | assumption | omega) ?_) | (with_reducible refine condM_ndec (fun hg => ?_) (fun hg => ?_))
  | (with_reducible refine condbn_pos (by assumption) ?_) | (with_reducible refine condbn_neg (by assumption) ?_) | (with_reducible refine condbn_split (fun hg => ?_) (fun hg => ?_))
  | (with_reducible refine condb_pos (by assumption) ?_) | (with_reducible refine condb_neg (by assumption) ?_) | (with_reducible refine condM_b (fun hg => ?_) (fun hg => ?_))
  | ((with_reducible refine oM_gen (fun Kv hK => ?_)); simp [go_sem]; (try simp (disch := omega) only [wrapI64, wrapU8, wrapU32, wrapU64]); (first | refine hK _ _ ?_ | refine And.intro (by omega) (hK _ _ ?_)); clear hK; clear Kv)))
  · exact K_eq (k _ (Below.refl _ _)) (by simp [encNum, hg])
  · refine pInt_ok n hn hl ?_
    intro w1 hb
    exact K_eq (k _ hb) (by simp [encNum, hg])
theorem encText_len (s : List UInt8) (hs : (s.length : Int) ≤ 9223372036854775807) : (encText s).length ≤ s.length + 22 := by
  have := itoa_len s.length ⟨by omega, hs⟩
  simp [encText]; omega
theorem pText_ok (s : List UInt8) (hs : s.length < 2^60) {K : Value → World → Prop} {w : World} (hl : Laid w) (k : ∀ w', Below w.heap.size w w' → K (.string ⟨(encText s).toArray⟩) w') : callM Tryd.prog 17 #[.string ⟨s.toArray⟩] K w := by
  apply sh_17_ok
  unfold sh_17
  have hin : InR (s.length : Nat) := ⟨by omega, by omega⟩
  have hi := itoa_len _ hin
  repeat (any_goals (first
  | (with_reducible refine pureM_in ?_)
  | (with_reducible refine gdtT ?_) | (with_reducible refine gdtF ?_) | (with_reducible refine gdfF ?_) | (with_reducible refine gdfT ?_) | (with_reducible refine gdu ?_ _)
  | (with_reducible refine gdt_pos (by first | assumption | omega) ?_) | (with_reducible refine gdt_neg (by first | assumption | omega) ?_) | (with_reducible refine gdt_split (fun hg => ?_) (fun hg => ?_))
  | (with_reducible refine gdf_pos (by first | assumption | omega) ?_) | (with_reducible refine gdf_neg (by first | assumption | omega) ?_) | (with_reducible refine gdf_split (fun hg => ?_) (fun hg => ?_))
  | (with_reducible refine gdtn_pos (by first | assumption | omega) ?_) | (with_reducible refine gdtn_neg (by first | assumption | omega) ?_) | (with_reducible refine gdtn_split (fun hg => ?_) (fun hg => ?_))
  | (with_reducible refine gdfn_pos (by first | assumption | omega) ?_) | (with_reducible refine gdfn_neg (by first | assumption | omega) ?_) | (with_reducible refine gdfn_split (fun hg => ?_) (fun hg => ?_))
  | (with_reducible refine gdtbn_pos (by assumption) ?_) | (with_reducible refine gdtbn_neg (by assumption) ?_) | (with_reducible refine gdfbn_pos (by assumption) ?_) | (with_reducible refine gdfbn_neg (by assumption) ?_)
  | (with_reducible refine gdtb_pos (by assumption) ?_) | (with_reducible refine gdtb_neg (by assumption) ?_) | (with_reducible refine gdtb_split (fun hg => ?_) (fun hg => ?_))
  | (with_reducible refine gdfb_pos (by assumption) ?_) | (with_reducible refine gdfb_neg (by assumption) ?_) | (with_reducible refine gdfb_split (fun hg => ?_) (fun hg => ?_))
  | (with_reducible refine pickT ?_) | (with_reducible refine pickF ?_)
  | (with_reducible refine pick_pos (by first | assumption | omega) ?_) | (with_reducible refine pick_neg (by first | assumption | omega) ?_)
  | (with_reducible refine pickn_pos (by first | assumption | omega) ?_) | (with_reducible refine pickn_neg (by first | assumption | omega) ?_)
  | (with_reducible refine pickbn_pos (by assumption) ?_) | (with_reducible refine pickbn_neg (by assumption) ?_)
  | (with_reducible refine pickb_pos (by assumption) ?_) | (with_reducible refine pickb_neg (by assumption) ?_)
  | (with_reducible refine condT ?_) | (with_reducible refine condF ?_)
  | (with_reducible refine cond_pos (by first | assumption | omega) ?_) | (with_reducible refine cond_neg (by first | assumption | omega) ?_) | (with_reducible refine condM_dec (fun hg => ?_) (fun hg => ?_))
  | (with_reducible refine condn_pos (by first | assumption | omega) ?_) | (with_reducible refine condn_neg (by first | assumption | omega) ?_) | (with_reducible refine condM_ndec (fun hg => ?_) (fun hg => ?_))
  | (with_reducible refine condbn_pos (by assumption) ?_) | (with_reducible refine condbn_neg (by assumption) ?_) | (with_reducible refine condbn_split (fun hg => ?_) (fun hg => ?_))
  | (with_reducible refine condb_pos (by assumption) ?_) | (with_reducible refine condb_neg (by assumption) ?_) | (with_reducible refine condM_b (fun hg => ?_) (fun hg => ?_))
  | ((with_reducible refine oM_gen (fun Kv hK => ?_)); simp [go_sem]; (try simp (disch := omega) only [wrapI64, wrapU8, wrapU32, wrapU64]); (first | refine hK _ _ ?_ | refine And.intro (by omega) (hK _ _ ?_)); clear hK; clear Kv)))
  refine itoa_ok _ hin hl (fun w1 hb1 => ?_)
  repeat (any_goals (first
  | (with_reducible refine pureM_in ?_)
  | (with_reducible refine gdtT ?_) | (with_reducible refine gdtF ?_) | (with_reducible refine gdfF ?_) | (with_reducible refine gdfT ?_) | (with_reducible refine gdu ?_ _)
  | (with_reducible refine gdt_pos (by first | assumption | omega) ?_) | (with_reducible refine gdt_neg (by first | assumption | omega) ?_) | (with_reducible refine gdt_split (fun hg => ?_) (fun hg => ?_))
  | (with_reducible refine gdf_pos (by first | assumption | omega) ?_) | (with_reducible refine gdf_neg (by first | assumption | omega) ?_) | (with_reducible refine gdf_split (fun hg => ?_) (fun hg => ?_))
  | (with_reducible refine gdtn_pos (by first | assumption | omega) ?_) | (with_reducible refine gdtn_neg (by first | assumption | omega) ?_) | (with_reducible refine gdtn_split (fun hg => ?_) (fun hg => ?_))
  | (with_reducible refine gdfn_pos (by first | assumption | omega) ?_) | (with_reducible refine gdfn_neg (by first | assumption | omega) ?_) | (with_reducible refine gdfn_split (fun hg => ?_) (fun hg => ?_))
  | (with_reducible refine gdtbn_pos (by assumption) ?_) | (with_reducible refine gdtbn_neg (by assumption) ?_) | (with_reducible refine gdfbn_pos (by assumption) ?_) | (with_reducible refine gdfbn_neg (by assumption) ?_)
  | (with_reducible refine gdtb_pos (by assumption) ?_) | (with_reducible refine gdtb_neg (by assumption) ?_) | (with_reducible refine gdtb_split (fun hg => ?_) (fun hg => ?_))
  | (with_reducible refine gdfb_pos (by assumption) ?_) | (with_reducible refine gdfb_neg (by assumption) ?_) | (with_reducible refine gdfb_split (fun hg => ?_) (fun hg => ?_))
  | (with_reducible refine pickT ?_) | (with_reducible refine pickF ?_)
  | (with_reducible refine pick_pos (by first | assumption | omega) ?_) | (with_reducible refine pick_neg (by first | assumption | omega) ?_)
  | (with_reducible refine pickn_pos (by first | assumption | omega) ?_) | (with_reducible refine pickn_neg (by first | assumption | omega) ?_)
  | (with_reducible refine pickbn_pos (by assumption) ?_) | (with_reducible refine pickbn_neg (by assumption) ?_)
  | (with_reducible refine pickb_pos (by assumption) ?_) | (with_reducible refine pickb_neg (by assumption) ?_)
  | (with_reducible refine condT ?_) | (with_reducible refine condF ?_)
  | (with_reducible refine cond_pos (by first | assumption | omega) ?_) | (with_reducible refine cond_neg (by first | assumption | omega) ?_) | (with_reducible refine condM_dec (fun hg => ?_) (fun hg => ?_))
  | (with_reducible refine condn_pos (by first | assumption | omega) ?_) | (with_reducible refine condn_neg (by first | assumption | omega) ?_) | (with_reducible refine condM_ndec (fun hg => ?_) (fun hg => ?_))
  | (with_reducible refine condbn_pos (by assumption) ?_) | (with_reducible refine condbn_neg (by assumption) ?_) | (with_reducible refine condbn_split (fun hg => ?_) (fun hg => ?_))
  | (with_reducible refine condb_pos (by assumption) ?_) | (with_reducible refine condb_neg (by assumption) ?_) | (with_reducible refine condM_b (fun hg => ?_) (fun hg => ?_))
  | ((with_reducible refine oM_gen (fun Kv hK => ?_)); simp [go_sem]; (try simp (disch := omega) only [wrapI64, wrapU8, wrapU32, wrapU64]); (first | refine hK _ _ ?_ | refine And.intro (by omega) (hK _ _ ?_)); clear hK; clear Kv)))
  exact K_eq (k _ hb1) (by simp [encText])
theorem flat_snoc {α : Type} (enc : α → List UInt8) (xs : List α) (k : Nat) (h : k < xs.length) : ((xs.take (k + 1)).map enc).flatten = ((xs.take k).map enc).flatten ++ enc xs[k] := by
  rw [List.take_add_one, List.getElem?_eq_getElem h]
  simp only [Option.toList_some, List.map_append, List.map_cons, List.map_nil, List.flatten_append, List.flatten_cons, List.flatten_nil, List.append_nil]
theorem flat_le {α : Type} (enc : α → List UInt8) (xs : List α) (k : Nat) : ((xs.take k).map enc).flatten.length ≤ (xs.map enc).flatten.length := by
  conv => rhs; rw [← List.take_append_drop k xs]
  rw [List.map_append, List.flatten_append, List.length_append]
  omega
theorem IsBuilder.below {T e : TypeId} {B b : Nat} {bs : List Value} {w w' : World} (h : IsBuilder T e B b bs w) (hb : Below w.heap.size w w') : IsBuilder T e B b bs w' := by
  have key : ∀ p, BuilderAt T e B b p bs w → BuilderAt T e B b p bs w' := by
    rintro p ⟨hB, v, hh, hown, hne⟩
    have hlt := (Array.getElem?_eq_some_iff.1 hh).1
    refine ⟨hB, v, by rw [hb.block _ hlt]; exact hh, ?_, hne⟩
    exact hown.kept (grown_of_below hb none) (by
      rcases hown.2 with ⟨rfl, _⟩ | ⟨g, cap, cur, rfl, _⟩
      · left; rfl
      · right; simp [Value.ownBlock])
  exact h.imp (key _) (key _)
theorem encodedNum_ok (xs : List (Int)) (v : Value) {K : Value → World → Prop} {w : World} (hl : Laid w) (hrow : RowOf intV w v xs) (hx : ∀ x ∈ xs, InR x) (hlen : (encList (xs.map encInt)).length < 2^40)
    (k : ∀ w', Below w.heap.size w w' → K (.string ⟨(encList (xs.map encInt)).toArray⟩) w') : callM Tryd.prog 67 #[v, .func (.func 15) #[] #[]] K w := by
  apply sh_67_ok
  unfold sh_67
  have hsz : (encList (xs.map encInt)).length = (itoa (xs.length : Nat)).length + 1 + ((xs.map encInt).flatten).length + 1 := by simp [encList]; omega
  have hxl : xs.length ≤ (xs.map encInt).flatten.length := by
    rw [List.length_flatten]
    clear hrow hlen hsz k
    induction xs with
    | nil => simp
    | cons x xs ih =>
      have := ih (fun y hy => hx y (List.mem_cons_of_mem _ hy))
      have h1 : 1 ≤ (encInt x).length := by simp [encInt]; try omega
      simp only [List.length_cons, List.map_cons, List.sum_cons]
      omega
  have hin : InR (xs.length : Nat) := ⟨by omega, by omega⟩
  have hil := itoa_len _ hin
  obtain ⟨ad, c, rfl, hcell⟩ := hrow
  have hl0 : Laid (w.alloc (.cells #[.pointer none, .slice none 0 0] 107)) := hl.below ((Below.refl _ _).alloc (Nat.le_refl _) _) hl.size
  repeat (any_goals (first
  | (with_reducible refine pureM_in ?_)
  | (with_reducible refine gdtT ?_) | (with_reducible refine gdtF ?_) | (with_reducible refine gdfF ?_) | (with_reducible refine gdfT ?_) | (with_reducible refine gdu ?_ _)
  | (with_reducible refine gdt_pos (by first | assumption | omega) ?_) | (with_reducible refine gdt_neg (by first | assumption | omega) ?_) | (with_reducible refine gdt_split (fun hg => ?_) (fun hg => ?_))
  | (with_reducible refine gdf_pos (by first | assumption | omega) ?_) | (with_reducible refine gdf_neg (by first | assumption | omega) ?_) | (with_reducible refine gdf_split (fun hg => ?_) (fun hg => ?_))
  | (with_reducible refine gdtn_pos (by first | assumption | omega) ?_) | (with_reducible refine gdtn_neg (by first | assumption | omega) ?_) | (with_reducible refine gdtn_split (fun hg => ?_) (fun hg => ?_))
  | (with_reducible refine gdfn_pos (by first | assumption | omega) ?_) | (with_reducible refine gdfn_neg (by first | assumption | omega) ?_) | (with_reducible refine gdfn_split (fun hg => ?_) (fun hg => ?_))
  | (with_reducible refine gdtbn_pos (by assumption) ?_) | (with_reducible refine gdtbn_neg (by assumption) ?_) | (with_reducible refine gdfbn_pos (by assumption) ?_) | (with_reducible refine gdfbn_neg (by assumption) ?_)
  | (with_reducible refine gdtb_pos (by assumption) ?_) | (with_reducible refine gdtb_neg (by assumption) ?_) | (with_reducible refine gdtb_split (fun hg => ?_) (fun hg => ?_))
  | (with_reducible refine gdfb_pos (by assumption) ?_) | (with_reducible refine gdfb_neg (by assumption) ?_) | (with_reducible refine gdfb_split (fun hg => ?_) (fun hg => ?_))
  | (with_reducible refine pickT ?_) | (with_reducible refine pickF ?_)
  | (with_reducible refine pick_pos (by first | assumption | omega) ?_) | (with_reducible refine pick_neg (by first | assumption | omega) ?_)
  | (with_reducible refine pickn_pos (by first | assumption | omega) ?_) | (with_reducible refine pickn_neg (by first | assumption | omega) ?_)
  | (with_reducible refine pickbn_pos (by assumption) ?_) | (with_reducible refine pickbn_neg (by assumption) ?_)
  | (with_reducible refine pickb_pos (by assumption) ?_) | (with_reducible refine pickb_neg (by assumption) ?_)
  | (with_reducible refine condT ?_) | (with_reducible refine condF ?_)
  | (with_reducible refine cond_pos (by first | assumption | omega) ?_) | (with_reducible refine cond_neg (by first | assumption | omega) ?_) | (with_reducible refine condM_dec (fun hg => ?_) (fun hg => ?_))
  | (with_reducible refine condn_pos (by first | assumption | omega) ?_) | (with_reducible refine condn_neg (by first | assumption | omega) ?_) | (with_reducible refine condM_ndec (fun hg => ?_) (fun hg => ?_))
  | (with_reducible refine condbn_pos (by assumption) ?_) | (with_reducible refine condbn_neg (by assumption) ?_) | (with_reducible refine condbn_split (fun hg => ?_) (fun hg => ?_))
  | (with_reducible refine condb_pos (by assumption) ?_) | (with_reducible refine condb_neg (by assumption) ?_) | (with_reducible refine condM_b (fun hg => ?_) (fun hg => ?_))
  | ((with_reducible refine oM_gen (fun Kv hK => ?_)); simp [go_sem]; (try simp (disch := omega) only [wrapI64, wrapU8, wrapU32, wrapU64]); (first | refine hK _ _ ?_ | refine And.intro (by omega) (hK _ _ ?_)); clear hK; clear Kv)))
  refine itoa_ok _ hin hl0 (fun w1 hb1 => ?_)
  have hb1' : Below w.heap.size w w1 := ((Below.refl _ _).alloc (Nat.le_refl _) _).trans (hb1.mono (by simp))
  have hB1 := IsBuilder.below (fresh_isBuilder 107 5 w) hb1
  have hz1 := hb1'.size
  repeat (any_goals (first
  | (with_reducible refine pureM_in ?_)
  | (with_reducible refine gdtT ?_) | (with_reducible refine gdtF ?_) | (with_reducible refine gdfF ?_) | (with_reducible refine gdfT ?_) | (with_reducible refine gdu ?_ _)
  | (with_reducible refine gdt_pos (by first | assumption | omega) ?_) | (with_reducible refine gdt_neg (by first | assumption | omega) ?_) | (with_reducible refine gdt_split (fun hg => ?_) (fun hg => ?_))
  | (with_reducible refine gdf_pos (by first | assumption | omega) ?_) | (with_reducible refine gdf_neg (by first | assumption | omega) ?_) | (with_reducible refine gdf_split (fun hg => ?_) (fun hg => ?_))
  | (with_reducible refine gdtn_pos (by first | assumption | omega) ?_) | (with_reducible refine gdtn_neg (by first | assumption | omega) ?_) | (with_reducible refine gdtn_split (fun hg => ?_) (fun hg => ?_))
  | (with_reducible refine gdfn_pos (by first | assumption | omega) ?_) | (with_reducible refine gdfn_neg (by first | assumption | omega) ?_) | (with_reducible refine gdfn_split (fun hg => ?_) (fun hg => ?_))
  | (with_reducible refine gdtbn_pos (by assumption) ?_) | (with_reducible refine gdtbn_neg (by assumption) ?_) | (with_reducible refine gdfbn_pos (by assumption) ?_) | (with_reducible refine gdfbn_neg (by assumption) ?_)
  | (with_reducible refine gdtb_pos (by assumption) ?_) | (with_reducible refine gdtb_neg (by assumption) ?_) | (with_reducible refine gdtb_split (fun hg => ?_) (fun hg => ?_))
  | (with_reducible refine gdfb_pos (by assumption) ?_) | (with_reducible refine gdfb_neg (by assumption) ?_) | (with_reducible refine gdfb_split (fun hg => ?_) (fun hg => ?_))
  | (with_reducible refine pickT ?_) | (with_reducible refine pickF ?_)
  | (with_reducible refine pick_pos (by first | assumption | omega) ?_) | (with_reducible refine pick_neg (by first | assumption | omega) ?_)
  | (with_reducible refine pickn_pos (by first | assumption | omega) ?_) | (with_reducible refine pickn_neg (by first | assumption | omega) ?_)
  | (with_reducible refine pickbn_pos (by assumption) ?_) | (with_reducible refine pickbn_neg (by assumption) ?_)
  | (with_reducible refine pickb_pos (by assumption) ?_) | (with_reducible refine pickb_neg (by assumption) ?_)
  | (with_reducible refine condT ?_) | (with_reducible refine condF ?_)
  | (with_reducible refine cond_pos (by first | assumption | omega) ?_) | (with_reducible refine cond_neg (by first | assumption | omega) ?_) | (with_reducible refine condM_dec (fun hg => ?_) (fun hg => ?_))
  | (with_reducible refine condn_pos (by first | assumption | omega) ?_) | (with_reducible refine condn_neg (by first | assumption | omega) ?_) | (with_reducible refine condM_ndec (fun hg => ?_) (fun hg => ?_))
  | (with_reducible refine condbn_pos (by assumption) ?_) | (with_reducible refine condbn_neg (by assumption) ?_) | (with_reducible refine condbn_split (fun hg => ?_) (fun hg => ?_))
  | (with_reducible refine condb_pos (by assumption) ?_) | (with_reducible refine condb_neg (by assumption) ?_) | (with_reducible refine condM_b (fun hg => ?_) (fun hg => ?_))
  | ((with_reducible refine oM_gen (fun Kv hK => ?_)); simp [go_sem]; (try simp (disch := omega) only [wrapI64, wrapU8, wrapU32, wrapU64]); (first | refine hK _ _ ?_ | refine And.intro (by omega) (hK _ _ ?_)); clear hK; clear Kv)))
  refine writeString_ok w.heap.size _ [] _ _ hB1 (by simp; omega) (by omega) ?_
  intro w2 hB2 hb2
  have hb2' := hb1'.trans hb2
  repeat (any_goals (first
  | (with_reducible refine pureM_in ?_)
  | (with_reducible refine gdtT ?_) | (with_reducible refine gdtF ?_) | (with_reducible refine gdfF ?_) | (with_reducible refine gdfT ?_) | (with_reducible refine gdu ?_ _)
  | (with_reducible refine gdt_pos (by first | assumption | omega) ?_) | (with_reducible refine gdt_neg (by first | assumption | omega) ?_) | (with_reducible refine gdt_split (fun hg => ?_) (fun hg => ?_))
  | (with_reducible refine gdf_pos (by first | assumption | omega) ?_) | (with_reducible refine gdf_neg (by first | assumption | omega) ?_) | (with_reducible refine gdf_split (fun hg => ?_) (fun hg => ?_))
  | (with_reducible refine gdtn_pos (by first | assumption | omega) ?_) | (with_reducible refine gdtn_neg (by first | assumption | omega) ?_) | (with_reducible refine gdtn_split (fun hg => ?_) (fun hg => ?_))
  | (with_reducible refine gdfn_pos (by first | assumption | omega) ?_) | (with_reducible refine gdfn_neg (by first | assumption | omega) ?_) | (with_reducible refine gdfn_split (fun hg => ?_) (fun hg => ?_))
  | (with_reducible refine gdtbn_pos (by assumption) ?_) | (with_reducible refine gdtbn_neg (by assumption) ?_) | (with_reducible refine gdfbn_pos (by assumption) ?_) | (with_reducible refine gdfbn_neg (by assumption) ?_)
  | (with_reducible refine gdtb_pos (by assumption) ?_) | (with_reducible refine gdtb_neg (by assumption) ?_) | (with_reducible refine gdtb_split (fun hg => ?_) (fun hg => ?_))
  | (with_reducible refine gdfb_pos (by assumption) ?_) | (with_reducible refine gdfb_neg (by assumption) ?_) | (with_reducible refine gdfb_split (fun hg => ?_) (fun hg => ?_))
  | (with_reducible refine pickT ?_) | (with_reducible refine pickF ?_)
  | (with_reducible refine pick_pos (by first | assumption | omega) ?_) | (with_reducible refine pick_neg (by first | assumption | omega) ?_)
  | (with_reducible refine pickn_pos (by first | assumption | omega) ?_) | (with_reducible refine pickn_neg (by first | assumption | omega) ?_)
  | (with_reducible refine pickbn_pos (by assumption) ?_) | (with_reducible refine pickbn_neg (by assumption) ?_)
  | (with_reducible refine pickb_pos (by assumption) ?_) | (with_reducible refine pickb_neg (by assumption) ?_)
  | (with_reducible refine condT ?_) | (with_reducible refine condF ?_)
  | (with_reducible refine cond_pos (by first | assumption | omega) ?_) | (with_reducible refine cond_neg (by first | assumption | omega) ?_) | (with_reducible refine condM_dec (fun hg => ?_) (fun hg => ?_))
  | (with_reducible refine condn_pos (by first | assumption | omega) ?_) | (with_reducible refine condn_neg (by first | assumption | omega) ?_) | (with_reducible refine condM_ndec (fun hg => ?_) (fun hg => ?_))
  | (with_reducible refine condbn_pos (by assumption) ?_) | (with_reducible refine condbn_neg (by assumption) ?_) | (with_reducible refine condbn_split (fun hg => ?_) (fun hg => ?_))
  | (with_reducible refine condb_pos (by assumption) ?_) | (with_reducible refine condb_neg (by assumption) ?_) | (with_reducible refine condM_b (fun hg => ?_) (fun hg => ?_))
  | ((with_reducible refine oM_gen (fun Kv hK => ?_)); simp [go_sem]; (try simp (disch := omega) only [wrapI64, wrapU8, wrapU32, wrapU64]); (first | refine hK _ _ ?_ | refine And.intro (by omega) (hK _ _ ?_)); clear hK; clear Kv)))
  refine ⟨fun l w' => ∃ (x : Value) (k : Nat), l = [x, .int .i64 k] ∧ k ≤ xs.length ∧ IsBuilder 107 5 w.heap.size w.heap.size (byteCells (itoa (xs.length : Nat) ++ 91 :: ((xs.take k).map encInt).flatten)) w' ∧ Below w.heap.size w w', fun l _ => xs.length - (match l with | [_, .int _ n] => n.toNat | _ => 0), ⟨_, 0, rfl, by omega, by simpa using hB2, hb2'⟩, ?_⟩
  rintro _ _ w3 ⟨x, j, rfl, hj, hB3, hb3⟩
  have hz3 := hb3.size
  simp only [List.getD_cons_zero, List.getD_cons_succ]
  have hfl := flat_le encInt xs j
  by_cases hlt : j < xs.length
  · rcases hcell with rfl | ⟨b, o, rfl, hbw, hcells⟩
    · simp at hlt
    have hc := hcells j hlt
    rw [← hb3.cell hbw] at hc
    simp only [intV] at hc
    have hix := idx22 (b := b) (o := o) (c := c) hlt w3
    have hl3 : Laid w3 := hl.below hb3 hl.size
    have hP := hx xs[j] (List.getElem_mem hlt)
    have hfl1 := flat_le encInt xs (j + 1)
    rw [flat_snoc _ _ _ hlt, List.length_append] at hfl1
    repeat (any_goals (first
    | (with_reducible refine pureM_in ?_)
    | (rw [oM_indexAddr, hix, rM_ok])
    | (with_reducible refine gdtT ?_) | (with_reducible refine gdtF ?_) | (with_reducible refine gdfF ?_) | (with_reducible refine gdfT ?_) | (with_reducible refine gdu ?_ _)
    | (with_reducible refine gdt_pos (by first | assumption | omega) ?_) | (with_reducible refine gdt_neg (by first | assumption | omega) ?_) | (with_reducible refine gdt_split (fun hg => ?_) (fun hg => ?_))
    | (with_reducible refine gdf_pos (by first | assumption | omega) ?_) | (with_reducible refine gdf_neg (by first | assumption | omega) ?_) | (with_reducible refine gdf_split (fun hg => ?_) (fun hg => ?_))
    | (with_reducible refine gdtn_pos (by first | assumption | omega) ?_) | (with_reducible refine gdtn_neg (by first | assumption | omega) ?_) | (with_reducible refine gdtn_split (fun hg => ?_) (fun hg => ?_))
    | (with_reducible refine gdfn_pos (by first | assumption | omega) ?_) | (with_reducible refine gdfn_neg (by first | assumption | omega) ?_) | (with_reducible refine gdfn_split (fun hg => ?_) (fun hg => ?_))
    | (with_reducible refine gdtbn_pos (by assumption) ?_) | (with_reducible refine gdtbn_neg (by assumption) ?_) | (with_reducible refine gdfbn_pos (by assumption) ?_) | (with_reducible refine gdfbn_neg (by assumption) ?_)
    | (with_reducible refine gdtb_pos (by assumption) ?_) | (with_reducible refine gdtb_neg (by assumption) ?_) | (with_reducible refine gdtb_split (fun hg => ?_) (fun hg => ?_))
    | (with_reducible refine gdfb_pos (by assumption) ?_) | (with_reducible refine gdfb_neg (by assumption) ?_) | (with_reducible refine gdfb_split (fun hg => ?_) (fun hg => ?_))
    | (with_reducible refine pickT ?_) | (with_reducible refine pickF ?_)
    | (with_reducible refine pick_pos (by first | assumption | omega) ?_) | (with_reducible refine pick_neg (by first | assumption | omega) ?_)
    | (with_reducible refine pickn_pos (by first | assumption | omega) ?_) | (with_reducible refine pickn_neg (by first | assumption | omega) ?_)
    | (with_reducible refine pickbn_pos (by assumption) ?_) | (with_reducible refine pickbn_neg (by assumption) ?_)
    | (with_reducible refine pickb_pos (by assumption) ?_) | (with_reducible refine pickb_neg (by assumption) ?_)
    | (with_reducible refine condT ?_) | (with_reducible refine condF ?_)
    | (with_reducible refine cond_pos (by first | assumption | omega) ?_) | (with_reducible refine cond_neg (by first | assumption | omega) ?_) | (with_reducible refine condM_dec (fun hg => ?_) (fun hg => ?_))
    | (with_reducible refine condn_pos (by first | assumption | omega) ?_) | (with_reducible refine condn_neg (by first | assumption | omega) ?_) | (with_reducible refine condM_ndec (fun hg => ?_) (fun hg => ?_))
    | (with_reducible refine condbn_pos (by assumption) ?_) | (with_reducible refine condbn_neg (by assumption) ?_) | (with_reducible refine condbn_split (fun hg => ?_) (fun hg => ?_))
    | (with_reducible refine condb_pos (by assumption) ?_) | (with_reducible refine condb_neg (by assumption) ?_) | (with_reducible refine condM_b (fun hg => ?_) (fun hg => ?_))
    | ((with_reducible refine oM_gen (fun Kv hK => ?_)); simp [go_sem, hc]; (try simp (disch := omega) only [wrapI64, wrapU8, wrapU32, wrapU64]); (first | refine hK _ _ ?_ | refine And.intro (by omega) (hK _ _ ?_)); clear hK; clear Kv)))
    refine oM_callv1 (by kernel_rfl) ?_
    refine pInt_ok _ hP hl3 ?_
    intro w4 hb4
    have hz4 := hb4.size
    have hB4 : IsBuilder 107 5 w.heap.size w.heap.size (byteCells (itoa (xs.length : Nat) ++ 91 :: ((xs.take j).map encInt).flatten)) w4 := IsBuilder.below hB3 hb4
    refine writeString_ok w.heap.size _ _ _ _ hB4 (by simp only [List.length_append, List.length_cons]; omega) (by omega) ?_
    intro w5 hB5 hb5
    repeat (any_goals (first
    | (with_reducible refine pureM_in ?_)
    | (with_reducible refine gdtT ?_) | (with_reducible refine gdtF ?_) | (with_reducible refine gdfF ?_) | (with_reducible refine gdfT ?_) | (with_reducible refine gdu ?_ _)
    | (with_reducible refine gdt_pos (by first | assumption | omega) ?_) | (with_reducible refine gdt_neg (by first | assumption | omega) ?_) | (with_reducible refine gdt_split (fun hg => ?_) (fun hg => ?_))
    | (with_reducible refine gdf_pos (by first | assumption | omega) ?_) | (with_reducible refine gdf_neg (by first | assumption | omega) ?_) | (with_reducible refine gdf_split (fun hg => ?_) (fun hg => ?_))
    | (with_reducible refine gdtn_pos (by first | assumption | omega) ?_) | (with_reducible refine gdtn_neg (by first | assumption | omega) ?_) | (with_reducible refine gdtn_split (fun hg => ?_) (fun hg => ?_))
    | (with_reducible refine gdfn_pos (by first | assumption | omega) ?_) | (with_reducible refine gdfn_neg (by first | assumption | omega) ?_) | (with_reducible refine gdfn_split (fun hg => ?_) (fun hg => ?_))
    | (with_reducible refine gdtbn_pos (by assumption) ?_) | (with_reducible refine gdtbn_neg (by assumption) ?_) | (with_reducible refine gdfbn_pos (by assumption) ?_) | (with_reducible refine gdfbn_neg (by assumption) ?_)
    | (with_reducible refine gdtb_pos (by assumption) ?_) | (with_reducible refine gdtb_neg (by assumption) ?_) | (with_reducible refine gdtb_split (fun hg => ?_) (fun hg => ?_))
    | (with_reducible refine gdfb_pos (by assumption) ?_) | (with_reducible refine gdfb_neg (by assumption) ?_) | (with_reducible refine gdfb_split (fun hg => ?_) (fun hg => ?_))
    | (with_reducible refine pickT ?_) | (with_reducible refine pickF ?_)
    | (with_reducible refine pick_pos (by first | assumption | omega) ?_) | (with_reducible refine pick_neg (by first | assumption | omega) ?_)
    | (with_reducible refine pickn_pos (by first | assumption | omega) ?_) | (with_reducible refine pickn_neg (by first | assumption | omega) ?_)
    | (with_reducible refine pickbn_pos (by assumption) ?_) | (with_reducible refine pickbn_neg (by assumption) ?_)
    | (with_reducible refine pickb_pos (by assumption) ?_) | (with_reducible refine pickb_neg (by assumption) ?_)
    | (with_reducible refine condT ?_) | (with_reducible refine condF ?_)
    | (with_reducible refine cond_pos (by first | assumption | omega) ?_) | (with_reducible refine cond_neg (by first | assumption | omega) ?_) | (with_reducible refine condM_dec (fun hg => ?_) (fun hg => ?_))
    | (with_reducible refine condn_pos (by first | assumption | omega) ?_) | (with_reducible refine condn_neg (by first | assumption | omega) ?_) | (with_reducible refine condM_ndec (fun hg => ?_) (fun hg => ?_))
    | (with_reducible refine condbn_pos (by assumption) ?_) | (with_reducible refine condbn_neg (by assumption) ?_) | (with_reducible refine condbn_split (fun hg => ?_) (fun hg => ?_))
    | (with_reducible refine condb_pos (by assumption) ?_) | (with_reducible refine condb_neg (by assumption) ?_) | (with_reducible refine condM_b (fun hg => ?_) (fun hg => ?_))
    | ((with_reducible refine oM_gen (fun Kv hK => ?_)); simp [go_sem]; (try simp (disch := omega) only [wrapI64, wrapU8, wrapU32, wrapU64]); (first | refine hK _ _ ?_ | refine And.intro (by omega) (hK _ _ ?_)); clear hK; clear Kv)))
    refine ⟨⟨_, j + 1, rfl, hlt, ?_, (hb3.trans (hb4.mono hz3)).trans hb5⟩, by simp; omega⟩
    rw [flat_snoc _ _ _ hlt]
    simpa using hB5
  · obtain rfl : j = xs.length := by omega
    rw [List.take_length] at hB3 hfl
    obtain ⟨F, hF⟩ : ∃ F, F = (xs.map encInt).flatten := ⟨_, rfl⟩
    rw [← hF] at hB3 hfl hsz
    repeat (any_goals (first
    | (with_reducible refine pureM_in ?_)
    | (with_reducible refine gdtT ?_) | (with_reducible refine gdtF ?_) | (with_reducible refine gdfF ?_) | (with_reducible refine gdfT ?_) | (with_reducible refine gdu ?_ _)
    | (with_reducible refine gdt_pos (by first | assumption | omega) ?_) | (with_reducible refine gdt_neg (by first | assumption | omega) ?_) | (with_reducible refine gdt_split (fun hg => ?_) (fun hg => ?_))
    | (with_reducible refine gdf_pos (by first | assumption | omega) ?_) | (with_reducible refine gdf_neg (by first | assumption | omega) ?_) | (with_reducible refine gdf_split (fun hg => ?_) (fun hg => ?_))
    | (with_reducible refine gdtn_pos (by first | assumption | omega) ?_) | (with_reducible refine gdtn_neg (by first | assumption | omega) ?_) | (with_reducible refine gdtn_split (fun hg => ?_) (fun hg => ?_))
    | (with_reducible refine gdfn_pos (by first | assumption | omega) ?_) | (with_reducible refine gdfn_neg (by first | assumption | omega) ?_) | (with_reducible refine gdfn_split (fun hg => ?_) (fun hg => ?_))
    | (with_reducible refine gdtbn_pos (by assumption) ?_) | (with_reducible refine gdtbn_neg (by assumption) ?_) | (with_reducible refine gdfbn_pos (by assumption) ?_) | (with_reducible refine gdfbn_neg (by assumption) ?_)
    | (with_reducible refine gdtb_pos (by assumption) ?_) | (with_reducible refine gdtb_neg (by assumption) ?_) | (with_reducible refine gdtb_split (fun hg => ?_) (fun hg => ?_))
    | (with_reducible refine gdfb_pos (by assumption) ?_) | (with_reducible refine gdfb_neg (by assumption) ?_) | (with_reducible refine gdfb_split (fun hg => ?_) (fun hg => ?_))
    | (with_reducible refine pickT ?_) | (with_reducible refine pickF ?_)
    | (with_reducible refine pick_pos (by first | assumption | omega) ?_) | (with_reducible refine pick_neg (by first | assumption | omega) ?_)
    | (with_reducible refine pickn_pos (by first | assumption | omega) ?_) | (with_reducible refine pickn_neg (by first | assumption | omega) ?_)
    | (with_reducible refine pickbn_pos (by assumption) ?_) | (with_reducible refine pickbn_neg (by assumption) ?_)
    | (with_reducible refine pickb_pos (by assumption) ?_) | (with_reducible refine pickb_neg (by assumption) ?_)
    | (with_reducible refine condT ?_) | (with_reducible refine condF ?_)
    | (with_reducible refine cond_pos (by first | assumption | omega) ?_) | (with_reducible refine cond_neg (by first | assumption | omega) ?_) | (with_reducible refine condM_dec (fun hg => ?_) (fun hg => ?_))
    | (with_reducible refine condn_pos (by first | assumption | omega) ?_) | (with_reducible refine condn_neg (by first | assumption | omega) ?_) | (with_reducible refine condM_ndec (fun hg => ?_) (fun hg => ?_))
    | (with_reducible refine condbn_pos (by assumption) ?_) | (with_reducible refine condbn_neg (by assumption) ?_) | (with_reducible refine condbn_split (fun hg => ?_) (fun hg => ?_))
    | (with_reducible refine condb_pos (by assumption) ?_) | (with_reducible refine condb_neg (by assumption) ?_) | (with_reducible refine condM_b (fun hg => ?_) (fun hg => ?_))
    | ((with_reducible refine oM_gen (fun Kv hK => ?_)); simp [go_sem]; (try simp (disch := omega) only [wrapI64, wrapU8, wrapU32, wrapU64]); (first | refine hK _ _ ?_ | refine And.intro (by omega) (hK _ _ ?_)); clear hK; clear Kv)))
    refine builderString_ok _ _ _ _ hB3 (by omega) ?_
    intro w4 hb4
    repeat (any_goals (first
    | (with_reducible refine pureM_in ?_)
    | (with_reducible refine gdtT ?_) | (with_reducible refine gdtF ?_) | (with_reducible refine gdfF ?_) | (with_reducible refine gdfT ?_) | (with_reducible refine gdu ?_ _)
    | (with_reducible refine gdt_pos (by first | assumption | omega) ?_) | (with_reducible refine gdt_neg (by first | assumption | omega) ?_) | (with_reducible refine gdt_split (fun hg => ?_) (fun hg => ?_))
    | (with_reducible refine gdf_pos (by first | assumption | omega) ?_) | (with_reducible refine gdf_neg (by first | assumption | omega) ?_) | (with_reducible refine gdf_split (fun hg => ?_) (fun hg => ?_))
    | (with_reducible refine gdtn_pos (by first | assumption | omega) ?_) | (with_reducible refine gdtn_neg (by first | assumption | omega) ?_) | (with_reducible refine gdtn_split (fun hg => ?_) (fun hg => ?_))
    | (with_reducible refine gdfn_pos (by first | assumption | omega) ?_) | (with_reducible refine gdfn_neg (by first | assumption | omega) ?_) | (with_reducible refine gdfn_split (fun hg => ?_) (fun hg => ?_))
    | (with_reducible refine gdtbn_pos (by assumption) ?_) | (with_reducible refine gdtbn_neg (by assumption) ?_) | (with_reducible refine gdfbn_pos (by assumption) ?_) | (with_reducible refine gdfbn_neg (by assumption) ?_)
    | (with_reducible refine gdtb_pos (by assumption) ?_) | (with_reducible refine gdtb_neg (by assumption) ?_) | (with_reducible refine gdtb_split (fun hg => ?_) (fun hg => ?_))
    | (with_reducible refine gdfb_pos (by assumption) ?_) | (with_reducible refine gdfb_neg (by assumption) ?_) | (with_reducible refine gdfb_split (fun hg => ?_) (fun hg => ?_))
    | (with_reducible refine pickT ?_) | (with_reducible refine pickF ?_)
    | (with_reducible refine pick_pos (by first | assumption | omega) ?_) | (with_reducible refine pick_neg (by first | assumption | omega) ?_)
    | (with_reducible refine pickn_pos (by first | assumption | omega) ?_) | (with_reducible refine pickn_neg (by first | assumption | omega) ?_)
    | (with_reducible refine pickbn_pos (by assumption) ?_) | (with_reducible refine pickbn_neg (by assumption) ?_)
    | (with_reducible refine pickb_pos (by assumption) ?_) | (with_reducible refine pickb_neg (by assumption) ?_)
    | (with_reducible refine condT ?_) | (with_reducible refine condF ?_)
    | (with_reducible refine cond_pos (by first | assumption | omega) ?_) | (with_reducible refine cond_neg (by first | assumption | omega) ?_) | (with_reducible refine condM_dec (fun hg => ?_) (fun hg => ?_))
    | (with_reducible refine condn_pos (by first | assumption | omega) ?_) | (with_reducible refine condn_neg (by first | assumption | omega) ?_) | (with_reducible refine condM_ndec (fun hg => ?_) (fun hg => ?_))
    | (with_reducible refine condbn_pos (by assumption) ?_) | (with_reducible refine condbn_neg (by assumption) ?_) | (with_reducible refine condbn_split (fun hg => ?_) (fun hg => ?_))
    | (with_reducible refine condb_pos (by assumption) ?_) | (with_reducible refine condb_neg (by assumption) ?_) | (with_reducible refine condM_b (fun hg => ?_) (fun hg => ?_))
    | ((with_reducible refine oM_gen (fun Kv hK => ?_)); simp [go_sem]; (try simp (disch := omega) only [wrapI64, wrapU8, wrapU32, wrapU64]); (first | refine hK _ _ ?_ | refine And.intro (by omega) (hK _ _ ?_)); clear hK; clear Kv)))
    exact K_eq (k _ (hb3.trans hb4)) (by simp [encList, hF])
theorem pNums_ok (xs : List (Int)) (v : Value) {K : Value → World → Prop} {w : World} (hl : Laid w) (hrow : RowOf intV w v xs) (hx : ∀ x ∈ xs, InR x) (hlen : (encList (xs.map encInt)).length < 2^40)
    (k : ∀ w', Below w.heap.size w w' → K (.string ⟨(encList (xs.map encInt)).toArray⟩) w') : callM Tryd.prog 19 #[v] K w := by
  apply sh_19_ok
  unfold sh_19
  repeat (any_goals (first
  | (with_reducible refine pureM_in ?_)
  | (with_reducible refine gdtT ?_) | (with_reducible refine gdtF ?_) | (with_reducible refine gdfF ?_) | (with_reducible refine gdfT ?_) | (with_reducible refine gdu ?_ _)
  | (with_reducible refine gdt_pos (by first | assumption | omega) ?_) | (with_reducible refine gdt_neg (by first | assumption | omega) ?_) | (with_reducible refine gdt_split (fun hg => ?_) (fun hg => ?_))
  | (with_reducible refine gdf_pos (by first | assumption | omega) ?_) | (with_reducible refine gdf_neg (by first | assumption | omega) ?_) | (with_reducible refine gdf_split (fun hg => ?_) (fun hg => ?_))
  | (with_reducible refine gdtn_pos (by first | assumption | omega) ?_) | (with_reducible refine gdtn_neg (by first | assumption | omega) ?_) | (with_reducible refine gdtn_split (fun hg => ?_) (fun hg => ?_))
  | (with_reducible refine gdfn_pos (by first | assumption | omega) ?_) | (with_reducible refine gdfn_neg (by first | assumption | omega) ?_) | (with_reducible refine gdfn_split (fun hg => ?_) (fun hg => ?_))
  | (with_reducible refine gdtbn_pos (by assumption) ?_) | (with_reducible refine gdtbn_neg (by assumption) ?_) | (with_reducible refine gdfbn_pos (by assumption) ?_) | (with_reducible refine gdfbn_neg (by assumption) ?_)
  | (with_reducible refine gdtb_pos (by assumption) ?_) | (with_reducible refine gdtb_neg (by assumption) ?_) | (with_reducible refine gdtb_split (fun hg => ?_) (fun hg => ?_))
  | (with_reducible refine gdfb_pos (by assumption) ?_) | (with_reducible refine gdfb_neg (by assumption) ?_) | (with_reducible refine gdfb_split (fun hg => ?_) (fun hg => ?_))
  | (with_reducible refine pickT ?_) | (with_reducible refine pickF ?_)
  | (with_reducible refine pick_pos (by first | assumption | omega) ?_) | (with_reducible refine pick_neg (by first | assumption | omega) ?_)
  | (with_reducible refine pickn_pos (by first | assumption | omega) ?_) | (with_reducible refine pickn_neg (by first | assumption | omega) ?_)
  | (with_reducible refine pickbn_pos (by assumption) ?_) | (with_reducible refine pickbn_neg (by assumption) ?_)
  | (with_reducible refine pickb_pos (by assumption) ?_) | (with_reducible refine pickb_neg (by assumption) ?_)
  | (with_reducible refine condT ?_) | (with_reducible refine condF ?_)
  | (with_reducible refine cond_pos (by first | assumption | omega) ?_) | (with_reducible refine cond_neg (by first | assumption | omega) ?_) | (with_reducible refine condM_dec (fun hg => ?_) (fun hg => ?_))
  | (with_reducible refine condn_pos (by first | assumption | omega) ?_) | (with_reducible refine condn_neg (by first | assumption | omega) ?_) | (with_reducible refine condM_ndec (fun hg => ?_) (fun hg => ?_))
  | (with_reducible refine condbn_pos (by assumption) ?_) | (with_reducible refine condbn_neg (by assumption) ?_) | (with_reducible refine condbn_split (fun hg => ?_) (fun hg => ?_))
  | (with_reducible refine condb_pos (by assumption) ?_) | (with_reducible refine condb_neg (by assumption) ?_) | (with_reducible refine condM_b (fun hg => ?_) (fun hg => ?_))
  | ((with_reducible refine oM_gen (fun Kv hK => ?_)); simp [go_sem]; (try simp (disch := omega) only [wrapI64, wrapU8, wrapU32, wrapU64]); (first | refine hK _ _ ?_ | refine And.intro (by omega) (hK _ _ ?_)); clear hK; clear Kv)))
  exact encodedNum_ok xs v hl hrow hx hlen k
theorem encodedText_ok (xs : List (List UInt8)) (v : Value) {K : Value → World → Prop} {w : World} (hl : Laid w) (hrow : RowOf strV w v xs) (hx : ∀ x ∈ xs, x.length < 2^60) (hlen : (encList (xs.map encText)).length < 2^40)
    (k : ∀ w', Below w.heap.size w w' → K (.string ⟨(encList (xs.map encText)).toArray⟩) w') : callM Tryd.prog 68 #[v, .func (.func 17) #[] #[]] K w := by
  apply sh_68_ok
  unfold sh_68
  have hsz : (encList (xs.map encText)).length = (itoa (xs.length : Nat)).length + 1 + ((xs.map encText).flatten).length + 1 := by simp [encList]; omega
  have hxl : xs.length ≤ (xs.map encText).flatten.length := by
    rw [List.length_flatten]
    clear hrow hlen hsz k
    induction xs with
    | nil => simp
    | cons x xs ih =>
      have := ih (fun y hy => hx y (List.mem_cons_of_mem _ hy))
      have h1 : 1 ≤ (encText x).length := by simp [encText]; try omega
      simp only [List.length_cons, List.map_cons, List.sum_cons]
      omega
  have hin : InR (xs.length : Nat) := ⟨by omega, by omega⟩
  have hil := itoa_len _ hin
  obtain ⟨ad, c, rfl, hcell⟩ := hrow
  have hl0 : Laid (w.alloc (.cells #[.pointer none, .slice none 0 0] 107)) := hl.below ((Below.refl _ _).alloc (Nat.le_refl _) _) hl.size
  repeat (any_goals (first
  | (with_reducible refine pureM_in ?_)
  | (with_reducible refine gdtT ?_) | (with_reducible refine gdtF ?_) | (with_reducible refine gdfF ?_) | (with_reducible refine gdfT ?_) | (with_reducible refine gdu ?_ _)
  | (with_reducible refine gdt_pos (by first | assumption | omega) ?_) | (with_reducible refine gdt_neg (by first | assumption | omega) ?_) | (with_reducible refine gdt_split (fun hg => ?_) (fun hg => ?_))
  | (with_reducible refine gdf_pos (by first | assumption | omega) ?_) | (with_reducible refine gdf_neg (by first | assumption | omega) ?_) | (with_reducible refine gdf_split (fun hg => ?_) (fun hg => ?_))
  | (with_reducible refine gdtn_pos (by first | assumption | omega) ?_) | (with_reducible refine gdtn_neg (by first | assumption | omega) ?_) | (with_reducible refine gdtn_split (fun hg => ?_) (fun hg => ?_))
  | (with_reducible refine gdfn_pos (by first | assumption | omega) ?_) | (with_reducible refine gdfn_neg (by first | assumption | omega) ?_) | (with_reducible refine gdfn_split (fun hg => ?_) (fun hg => ?_))
  | (with_reducible refine gdtbn_pos (by assumption) ?_) | (with_reducible refine gdtbn_neg (by assumption) ?_) | (with_reducible refine gdfbn_pos (by assumption) ?_) | (with_reducible refine gdfbn_neg (by assumption) ?_)
  | (with_reducible refine gdtb_pos (by assumption) ?_) | (with_reducible refine gdtb_neg (by assumption) ?_) | (with_reducible refine gdtb_split (fun hg => ?_) (fun hg => ?_))
  | (with_reducible refine gdfb_pos (by assumption) ?_) | (with_reducible refine gdfb_neg (by assumption) ?_) | (with_reducible refine gdfb_split (fun hg => ?_) (fun hg => ?_))
  | (with_reducible refine pickT ?_) | (with_reducible refine pickF ?_)
  | (with_reducible refine pick_pos (by first | assumption | omega) ?_) | (with_reducible refine pick_neg (by first | assumption | omega) ?_)
  | (with_reducible refine pickn_pos (by first | assumption | omega) ?_) | (with_reducible refine pickn_neg (by first | assumption | omega) ?_)
  | (with_reducible refine pickbn_pos (by assumption) ?_) | (with_reducible refine pickbn_neg (by assumption) ?_)
  | (with_reducible refine pickb_pos (by assumption) ?_) | (with_reducible refine pickb_neg (by assumption) ?_)
  | (with_reducible refine condT ?_) | (with_reducible refine condF ?_)
  | (with_reducible refine cond_pos (by first | assumption | omega) ?_) | (with_reducible refine cond_neg (by first | assumption | omega) ?_) | (with_reducible refine condM_dec (fun hg => ?_) (fun hg => ?_))
  | (with_reducible refine condn_pos (by first | assumption | omega) ?_) | (with_reducible refine condn_neg (by first | assumption | omega) ?_) | (with_reducible refine condM_ndec (fun hg => ?_) (fun hg => ?_))
  | (with_reducible refine condbn_pos (by assumption) ?_) | (with_reducible refine condbn_neg (by assumption) ?_) | (with_reducible refine condbn_split (fun hg => ?_) (fun hg => ?_))
  | (with_reducible refine condb_pos (by assumption) ?_) | (with_reducible refine condb_neg (by assumption) ?_) | (with_reducible refine condM_b (fun hg => ?_) (fun hg => ?_))
  | ((with_reducible refine oM_gen (fun Kv hK => ?_)); simp [go_sem]; (try simp (disch := omega) only [wrapI64, wrapU8, wrapU32, wrapU64]); (first | refine hK _ _ ?_ | refine And.intro (by omega) (hK _ _ ?_)); clear hK; clear Kv)))
  refine itoa_ok _ hin hl0 (fun w1 hb1 => ?_)
  have hb1' : Below w.heap.size w w1 := ((Below.refl _ _).alloc (Nat.le_refl _) _).trans (hb1.mono (by simp))
  have hB1 := IsBuilder.below (fresh_isBuilder 107 5 w) hb1
  have hz1 := hb1'.size
  repeat (any_goals (first
  | (with_reducible refine pureM_in ?_)
  | (with_reducible refine gdtT ?_) | (with_reducible refine gdtF ?_) | (with_reducible refine gdfF ?_) | (with_reducible refine gdfT ?_) | (with_reducible refine gdu ?_ _)
  | (with_reducible refine gdt_pos (by first | assumption | omega) ?_) | (with_reducible refine gdt_neg (by first | assumption | omega) ?_) | (with_reducible refine gdt_split (fun hg => ?_) (fun hg => ?_))
  | (with_reducible refine gdf_pos (by first | assumption | omega) ?_) | (with_reducible refine gdf_neg (by first | assumption | omega) ?_) | (with_reducible refine gdf_split (fun hg => ?_) (fun hg => ?_))
  | (with_reducible refine gdtn_pos (by first | assumption | omega) ?_) | (with_reducible refine gdtn_neg (by first | assumption | omega) ?_) | (with_reducible refine gdtn_split (fun hg => ?_) (fun hg => ?_))
  | (with_reducible refine gdfn_pos (by first | assumption | omega) ?_) | (with_reducible refine gdfn_neg (by first | assumption | omega) ?_) | (with_reducible refine gdfn_split (fun hg => ?_) (fun hg => ?_))
  | (with_reducible refine gdtbn_pos (by assumption) ?_) | (with_reducible refine gdtbn_neg (by assumption) ?_) | (with_reducible refine gdfbn_pos (by assumption) ?_) | (with_reducible refine gdfbn_neg (by assumption) ?_)
  | (with_reducible refine gdtb_pos (by assumption) ?_) | (with_reducible refine gdtb_neg (by assumption) ?_) | (with_reducible refine gdtb_split (fun hg => ?_) (fun hg => ?_))
  | (with_reducible refine gdfb_pos (by assumption) ?_) | (with_reducible refine gdfb_neg (by assumption) ?_) | (with_reducible refine gdfb_split (fun hg => ?_) (fun hg => ?_))
  | (with_reducible refine pickT ?_) | (with_reducible refine pickF ?_)
  | (with_reducible refine pick_pos (by first | assumption | omega) ?_) | (with_reducible refine pick_neg (by first | assumption | omega) ?_)
  | (with_reducible refine pickn_pos (by first | assumption | omega) ?_) | (with_reducible refine pickn_neg (by first | assumption | omega) ?_)
  | (with_reducible refine pickbn_pos (by assumption) ?_) | (with_reducible refine pickbn_neg (by assumption) ?_)
  | (with_reducible refine pickb_pos (by assumption) ?_) | (with_reducible refine pickb_neg (by assumption) ?_)
  | (with_reducible refine condT ?_) | (with_reducible refine condF ?_)
  | (with_reducible refine cond_pos (by first | assumption | omega) ?_) | (with_reducible refine cond_neg (by first | assumption | omega) ?_) | (with_reducible refine condM_dec (fun hg => ?_) (fun hg => ?_))
  | (with_reducible refine condn_pos (by first | assumption | omega) ?_) | (with_reducible refine condn_neg (by first | assumption | omega) ?_) | (with_reducible refine condM_ndec (fun hg => ?_) (fun hg => ?_))
  | (with_reducible refine condbn_pos (by assumption) ?_) | (with_reducible refine condbn_neg (by assumption) ?_) | (with_reducible refine condbn_split (fun hg => ?_) (fun hg => ?_))
  | (with_reducible refine condb_pos (by assumption) ?_) | (with_reducible refine condb_neg (by assumption) ?_) | (with_reducible refine condM_b (fun hg => ?_) (fun hg => ?_))
  | ((with_reducible refine oM_gen (fun Kv hK => ?_)); simp [go_sem]; (try simp (disch := omega) only [wrapI64, wrapU8, wrapU32, wrapU64]); (first | refine hK _ _ ?_ | refine And.intro (by omega) (hK _ _ ?_)); clear hK; clear Kv)))
  refine writeString_ok w.heap.size _ [] _ _ hB1 (by simp; omega) (by omega) ?_
  intro w2 hB2 hb2
  have hb2' := hb1'.trans hb2
  repeat (any_goals (first
  | (with_reducible refine pureM_in ?_)
  | (with_reducible refine gdtT ?_) | (with_reducible refine gdtF ?_) | (with_reducible refine gdfF ?_) | (with_reducible refine gdfT ?_) | (with_reducible refine gdu ?_ _)
  | (with_reducible refine gdt_pos (by first | assumption | omega) ?_) | (with_reducible refine gdt_neg (by first | assumption | omega) ?_) | (with_reducible refine gdt_split (fun hg => ?_) (fun hg => ?_))
  | (with_reducible refine gdf_pos (by first | assumption | omega) ?_) | (with_reducible refine gdf_neg (by first | assumption | omega) ?_) | (with_reducible refine gdf_split (fun hg => ?_) (fun hg => ?_))
  | (with_reducible refine gdtn_pos (by first | assumption | omega) ?_) | (with_reducible refine gdtn_neg (by first | assumption | omega) ?_) | (with_reducible refine gdtn_split (fun hg => ?_) (fun hg => ?_))
  | (with_reducible refine gdfn_pos (by first | assumption | omega) ?_) | (with_reducible refine gdfn_neg (by first | assumption | omega) ?_) | (with_reducible refine gdfn_split (fun hg => ?_) (fun hg => ?_))
  | (with_reducible refine gdtbn_pos (by assumption) ?_) | (with_reducible refine gdtbn_neg (by assumption) ?_) | (with_reducible refine gdfbn_pos (by assumption) ?_) | (with_reducible refine gdfbn_neg (by assumption) ?_)
  | (with_reducible refine gdtb_pos (by assumption) ?_) | (with_reducible refine gdtb_neg (by assumption) ?_) | (with_reducible refine gdtb_split (fun hg => ?_) (fun hg => ?_))
  | (with_reducible refine gdfb_pos (by assumption) ?_) | (with_reducible refine gdfb_neg (by assumption) ?_) | (with_reducible refine gdfb_split (fun hg => ?_) (fun hg => ?_))
  | (with_reducible refine pickT ?_) | (with_reducible refine pickF ?_)
  | (with_reducible refine pick_pos (by first | assumption | omega) ?_) | (with_reducible refine pick_neg (by first | assumption | omega) ?_)
  | (with_reducible refine pickn_pos (by first | assumption | omega) ?_) | (with_reducible refine pickn_neg (by first | assumption | omega) ?_)
  | (with_reducible refine pickbn_pos (by assumption) ?_) | (with_reducible refine pickbn_neg (by assumption) ?_)
  | (with_reducible refine pickb_pos (by assumption) ?_) | (with_reducible refine pickb_neg (by assumption) ?_)
  | (with_reducible refine condT ?_) | (with_reducible refine condF ?_)
  | (with_reducible refine cond_pos (by first | assumption | omega) ?_) | (with_reducible refine cond_neg (by first | assumption | omega) ?_) | (with_reducible refine condM_dec (fun hg => ?_) (fun hg => ?_))
  | (with_reducible refine condn_pos (by first | assumption | omega) ?_) | (with_reducible refine condn_neg (by first | assumption | omega) ?_) | (with_reducible refine condM_ndec (fun hg => ?_) (fun hg => ?_))
  | (with_reducible refine condbn_pos (by assumption) ?_) | (with_reducible refine condbn_neg (by assumption) ?_) | (with_reducible refine condbn_split (fun hg => ?_) (fun hg => ?_))
  | (with_reducible refine condb_pos (by assumption) ?_) | (with_reducible refine condb_neg (by assumption) ?_) | (with_reducible refine condM_b (fun hg => ?_) (fun hg => ?_))
  | ((with_reducible refine oM_gen (fun Kv hK => ?_)); simp [go_sem]; (try simp (disch := omega) only [wrapI64, wrapU8, wrapU32, wrapU64]); (first | refine hK _ _ ?_ | refine And.intro (by omega) (hK _ _ ?_)); clear hK; clear Kv)))
  refine ⟨fun l w' => ∃ (x : Value) (k : Nat), l = [x, .int .i64 k] ∧ k ≤ xs.length ∧ IsBuilder 107 5 w.heap.size w.heap.size (byteCells (itoa (xs.length : Nat) ++ 91 :: ((xs.take k).map encText).flatten)) w' ∧ Below w.heap.size w w', fun l _ => xs.length - (match l with | [_, .int _ n] => n.toNat | _ => 0), ⟨_, 0, rfl, by omega, by simpa using hB2, hb2'⟩, ?_⟩
  rintro _ _ w3 ⟨x, j, rfl, hj, hB3, hb3⟩
  have hz3 := hb3.size
  simp only [List.getD_cons_zero, List.getD_cons_succ]
  have hfl := flat_le encText xs j
  by_cases hlt : j < xs.length
  · rcases hcell with rfl | ⟨b, o, rfl, hbw, hcells⟩
    · simp at hlt
    have hc := hcells j hlt
    rw [← hb3.cell hbw] at hc
    simp only [strV] at hc
    have hix := idx23 (b := b) (o := o) (c := c) hlt w3
    have hl3 : Laid w3 := hl.below hb3 hl.size
    have hP := hx xs[j] (List.getElem_mem hlt)
    have hfl1 := flat_le encText xs (j + 1)
    rw [flat_snoc _ _ _ hlt, List.length_append] at hfl1
    repeat (any_goals (first
    | (with_reducible refine pureM_in ?_)
    | (rw [oM_indexAddr, hix, rM_ok])
    | (with_reducible refine gdtT ?_) | (with_reducible refine gdtF ?_) | (with_reducible refine gdfF ?_) | (with_reducible refine gdfT ?_) | (with_reducible refine gdu ?_ _)
    | (with_reducible refine gdt_pos (by first | assumption | omega) ?_) | (with_reducible refine gdt_neg (by first | assumption | omega) ?_) | (with_reducible refine gdt_split (fun hg => ?_) (fun hg => ?_))
    | (with_reducible refine gdf_pos (by first | assumption | omega) ?_) | (with_reducible refine gdf_neg (by first | assumption | omega) ?_) | (with_reducible refine gdf_split (fun hg => ?_) (fun hg => ?_))
    | (with_reducible refine gdtn_pos (by first | assumption | omega) ?_) | (with_reducible refine gdtn_neg (by first | assumption | omega) ?_) | (with_reducible refine gdtn_split (fun hg => ?_) (fun hg => ?_))
    | (with_reducible refine gdfn_pos (by first | assumption | omega) ?_) | (with_reducible refine gdfn_neg (by first | assumption | omega) ?_) | (with_reducible refine gdfn_split (fun hg => ?_) (fun hg => ?_))
    | (with_reducible refine gdtbn_pos (by assumption) ?_) | (with_reducible refine gdtbn_neg (by assumption) ?_) | (with_reducible refine gdfbn_pos (by assumption) ?_) | (with_reducible refine gdfbn_neg (by assumption) ?_)
    | (with_reducible refine gdtb_pos (by assumption) ?_) | (with_reducible refine gdtb_neg (by assumption) ?_) | (with_reducible refine gdtb_split (fun hg => ?_) (fun hg => ?_))
    | (with_reducible refine gdfb_pos (by assumption) ?_) | (with_reducible refine gdfb_neg (by assumption) ?_) | (with_reducible refine gdfb_split (fun hg => ?_) (fun hg => ?_))
    | (with_reducible refine pickT ?_) | (with_reducible refine pickF ?_)
    | (with_reducible refine pick_pos (by first | assumption | omega) ?_) | (with_reducible refine pick_neg (by first | assumption | omega) ?_)
    | (with_reducible refine pickn_pos (by first | assumption | omega) ?_) | (with_reducible refine pickn_neg (by first | assumption | omega) ?_)
    | (with_reducible refine pickbn_pos (by assumption) ?_) | (with_reducible refine pickbn_neg (by assumption) ?_)
    | (with_reducible refine pickb_pos (by assumption) ?_) | (with_reducible refine pickb_neg (by assumption) ?_)
    | (with_reducible refine condT ?_) | (with_reducible refine condF ?_)
    | (with_reducible refine cond_pos (by first | assumption | omega) ?_) | (with_reducible refine cond_neg (by first | assumption | omega) ?_) | (with_reducible refine condM_dec (fun hg => ?_) (fun hg => ?_))
    | (with_reducible refine condn_pos (by first | assumption | omega) ?_) | (with_reducible refine condn_neg (by first | assumption | omega) ?_) | (with_reducible refine condM_ndec (fun hg => ?_) (fun hg => ?_))
    | (with_reducible refine condbn_pos (by assumption) ?_) | (with_reducible refine condbn_neg (by assumption) ?_) | (with_reducible refine condbn_split (fun hg => ?_) (fun hg => ?_))
    | (with_reducible refine condb_pos (by assumption) ?_) | (with_reducible refine condb_neg (by assumption) ?_) | (with_reducible refine condM_b (fun hg => ?_) (fun hg => ?_))
    | ((with_reducible refine oM_gen (fun Kv hK => ?_)); simp [go_sem, hc]; (try simp (disch := omega) only [wrapI64, wrapU8, wrapU32, wrapU64]); (first | refine hK _ _ ?_ | refine And.intro (by omega) (hK _ _ ?_)); clear hK; clear Kv)))
    refine oM_callv1 (by kernel_rfl) ?_
    refine pText_ok _ hP hl3 ?_
    intro w4 hb4
    have hz4 := hb4.size
    have hB4 : IsBuilder 107 5 w.heap.size w.heap.size (byteCells (itoa (xs.length : Nat) ++ 91 :: ((xs.take j).map encText).flatten)) w4 := IsBuilder.below hB3 hb4
    refine writeString_ok w.heap.size _ _ _ _ hB4 (by simp only [List.length_append, List.length_cons]; omega) (by omega) ?_
    intro w5 hB5 hb5
    repeat (any_goals (first
    | (with_reducible refine pureM_in ?_)
    | (with_reducible refine gdtT ?_) | (with_reducible refine gdtF ?_) | (with_reducible refine gdfF ?_) | (with_reducible refine gdfT ?_) | (with_reducible refine gdu ?_ _)
    | (with_reducible refine gdt_pos (by first | assumption | omega) ?_) | (with_reducible refine gdt_neg (by first | assumption | omega) ?_) | (with_reducible refine gdt_split (fun hg => ?_) (fun hg => ?_))
    | (with_reducible refine gdf_pos (by first | assumption | omega) ?_) | (with_reducible refine gdf_neg (by first | assumption | omega) ?_) | (with_reducible refine gdf_split (fun hg => ?_) (fun hg => ?_))
    | (with_reducible refine gdtn_pos (by first | assumption | omega) ?_) | (with_reducible refine gdtn_neg (by first | assumption | omega) ?_) | (with_reducible refine gdtn_split (fun hg => ?_) (fun hg => ?_))
    | (with_reducible refine gdfn_pos (by first | assumption | omega) ?_) | (with_reducible refine gdfn_neg (by first | assumption | omega) ?_) | (with_reducible refine gdfn_split (fun hg => ?_) (fun hg => ?_))
    | (with_reducible refine gdtbn_pos (by assumption) ?_) | (with_reducible refine gdtbn_neg (by assumption) ?_) | (with_reducible refine gdfbn_pos (by assumption) ?_) | (with_reducible refine gdfbn_neg (by assumption) ?_)
    | (with_reducible refine gdtb_pos (by assumption) ?_) | (with_reducible refine gdtb_neg (by assumption) ?_) | (with_reducible refine gdtb_split (fun hg => ?_) (fun hg => ?_))
    | (with_reducible refine gdfb_pos (by assumption) ?_) | (with_reducible refine gdfb_neg (by assumption) ?_) | (with_reducible refine gdfb_split (fun hg => ?_) (fun hg => ?_))
    | (with_reducible refine pickT ?_) | (with_reducible refine pickF ?_)
    | (with_reducible refine pick_pos (by first | assumption | omega) ?_) | (with_reducible refine pick_neg (by first | assumption | omega) ?_)
    | (with_reducible refine pickn_pos (by first | assumption | omega) ?_) | (with_reducible refine pickn_neg (by first | assumption | omega) ?_)
    | (with_reducible refine pickbn_pos (by assumption) ?_) | (with_reducible refine pickbn_neg (by assumption) ?_)
    | (with_reducible refine pickb_pos (by assumption) ?_) | (with_reducible refine pickb_neg (by assumption) ?_)
    | (with_reducible refine condT ?_) | (with_reducible refine condF ?_)
    | (with_reducible refine cond_pos (by first | assumption | omega) ?_) | (with_reducible refine cond_neg (by first | assumption | omega) ?_) | (with_reducible refine condM_dec (fun hg => ?_) (fun hg => ?_))
    | (with_reducible refine condn_pos (by first | assumption | omega) ?_) | (with_reducible refine condn_neg (by first | assumption | omega) ?_) | (with_reducible refine condM_ndec (fun hg => ?_) (fun hg => ?_))
    | (with_reducible refine condbn_pos (by assumption) ?_) | (with_reducible refine condbn_neg (by assumption) ?_) | (with_reducible refine condbn_split (fun hg => ?_) (fun hg => ?_))
    | (with_reducible refine condb_pos (by assumption) ?_) | (with_reducible refine condb_neg (by assumption) ?_) | (with_reducible refine condM_b (fun hg => ?_) (fun hg => ?_))
    | ((with_reducible refine oM_gen (fun Kv hK => ?_)); simp [go_sem]; (try simp (disch := omega) only [wrapI64, wrapU8, wrapU32, wrapU64]); (first | refine hK _ _ ?_ | refine And.intro (by omega) (hK _ _ ?_)); clear hK; clear Kv)))
    refine ⟨⟨_, j + 1, rfl, hlt, ?_, (hb3.trans (hb4.mono hz3)).trans hb5⟩, by simp; omega⟩
    rw [flat_snoc _ _ _ hlt]
    simpa using hB5
  · obtain rfl : j = xs.length := by omega
    rw [List.take_length] at hB3 hfl
    obtain ⟨F, hF⟩ : ∃ F, F = (xs.map encText).flatten := ⟨_, rfl⟩
    rw [← hF] at hB3 hfl hsz
    repeat (any_goals (first
    | (with_reducible refine pureM_in ?_)
    | (with_reducible refine gdtT ?_) | (with_reducible refine gdtF ?_) | (with_reducible refine gdfF ?_) | (with_reducible refine gdfT ?_) | (with_reducible refine gdu ?_ _)
    | (with_reducible refine gdt_pos (by first | assumption | omega) ?_) | (with_reducible refine gdt_neg (by first | assumption | omega) ?_) | (with_reducible refine gdt_split (fun hg => ?_) (fun hg => ?_))
    | (with_reducible refine gdf_pos (by first | assumption | omega) ?_) | (with_reducible refine gdf_neg (by first | assumption | omega) ?_) | (with_reducible refine gdf_split (fun hg => ?_) (fun hg => ?_))
    | (with_reducible refine gdtn_pos (by first | assumption | omega) ?_) | (with_reducible refine gdtn_neg (by first | assumption | omega) ?_) | (with_reducible refine gdtn_split (fun hg => ?_) (fun hg => ?_))
    | (with_reducible refine gdfn_pos (by first | assumption | omega) ?_) | (with_reducible refine gdfn_neg (by first | assumption | omega) ?_) | (with_reducible refine gdfn_split (fun hg => ?_) (fun hg => ?_))
    | (with_reducible refine gdtbn_pos (by assumption) ?_) | (with_reducible refine gdtbn_neg (by assumption) ?_) | (with_reducible refine gdfbn_pos (by assumption) ?_) | (with_reducible refine gdfbn_neg (by assumption) ?_)
    | (with_reducible refine gdtb_pos (by assumption) ?_) | (with_reducible refine gdtb_neg (by assumption) ?_) | (with_reducible refine gdtb_split (fun hg => ?_) (fun hg => ?_))
    | (with_reducible refine gdfb_pos (by assumption) ?_) | (with_reducible refine gdfb_neg (by assumption) ?_) | (with_reducible refine gdfb_split (fun hg => ?_) (fun hg => ?_))
    | (with_reducible refine pickT ?_) | (with_reducible refine pickF ?_)
    | (with_reducible refine pick_pos (by first | assumption | omega) ?_) | (with_reducible refine pick_neg (by first | assumption | omega) ?_)
    | (with_reducible refine pickn_pos (by first | assumption | omega) ?_) | (with_reducible refine pickn_neg (by first | assumption | omega) ?_)
    | (with_reducible refine pickbn_pos (by assumption) ?_) | (with_reducible refine pickbn_neg (by assumption) ?_)
    | (with_reducible refine pickb_pos (by assumption) ?_) | (with_reducible refine pickb_neg (by assumption) ?_)
    | (with_reducible refine condT ?_) | (with_reducible refine condF ?_)
    | (with_reducible refine cond_pos (by first | assumption | omega) ?_) | (with_reducible refine cond_neg (by first | assumption | omega) ?_) | (with_reducible refine condM_dec (fun hg => ?_) (fun hg => ?_))
    | (with_reducible refine condn_pos (by first | assumption | omega) ?_) | (with_reducible refine condn_neg (by first | assumption | omega) ?_) | (with_reducible refine condM_ndec (fun hg => ?_) (fun hg => ?_))
    | (with_reducible refine condbn_pos (by assumption) ?_) | (with_reducible refine condbn_neg (by assumption) ?_) | (with_reducible refine condbn_split (fun hg => ?_) (fun hg => ?_))
    | (with_reducible refine condb_pos (by assumption) ?_) | (with_reducible refine condb_neg (by assumption) ?_) | (with_reducible refine condM_b (fun hg => ?_) (fun hg => ?_))
    | ((with_reducible refine oM_gen (fun Kv hK => ?_)); simp [go_sem]; (try simp (disch := omega) only [wrapI64, wrapU8, wrapU32, wrapU64]); (first | refine hK _ _ ?_ | refine And.intro (by omega) (hK _ _ ?_)); clear hK; clear Kv)))
    refine builderString_ok _ _ _ _ hB3 (by omega) ?_
    intro w4 hb4
    repeat (any_goals (first
    | (with_reducible refine pureM_in ?_)
    | (with_reducible refine gdtT ?_) | (with_reducible refine gdtF ?_) | (with_reducible refine gdfF ?_) | (with_reducible refine gdfT ?_) | (with_reducible refine gdu ?_ _)
    | (with_reducible refine gdt_pos (by first | assumption | omega) ?_) | (with_reducible refine gdt_neg (by first | assumption | omega) ?_) | (with_reducible refine gdt_split (fun hg => ?_) (fun hg => ?_))
    | (with_reducible refine gdf_pos (by first | assumption | omega) ?_) | (with_reducible refine gdf_neg (by first | assumption | omega) ?_) | (with_reducible refine gdf_split (fun hg => ?_) (fun hg => ?_))
    | (with_reducible refine gdtn_pos (by first | assumption | omega) ?_) | (with_reducible refine gdtn_neg (by first | assumption | omega) ?_) | (with_reducible refine gdtn_split (fun hg => ?_) (fun hg => ?_))
    | (with_reducible refine gdfn_pos (by first | assumption | omega) ?_) | (with_reducible refine gdfn_neg (by first | assumption | omega) ?_) | (with_reducible refine gdfn_split (fun hg => ?_) (fun hg => ?_))
    | (with_reducible refine gdtbn_pos (by assumption) ?_) | (with_reducible refine gdtbn_neg (by assumption) ?_) | (with_reducible refine gdfbn_pos (by assumption) ?_) | (with_reducible refine gdfbn_neg (by assumption) ?_)
    | (with_reducible refine gdtb_pos (by assumption) ?_) | (with_reducible refine gdtb_neg (by assumption) ?_) | (with_reducible refine gdtb_split (fun hg => ?_) (fun hg => ?_))
    | (with_reducible refine gdfb_pos (by assumption) ?_) | (with_reducible refine gdfb_neg (by assumption) ?_) | (with_reducible refine gdfb_split (fun hg => ?_) (fun hg => ?_))
    | (with_reducible refine pickT ?_) | (with_reducible refine pickF ?_)
    | (with_reducible refine pick_pos (by first | assumption | omega) ?_) | (with_reducible refine pick_neg (by first | assumption | omega) ?_)
    | (with_reducible refine pickn_pos (by first | assumption | omega) ?_) | (with_reducible refine pickn_neg (by first | assumption | omega) ?_)
    | (with_reducible refine pickbn_pos (by assumption) ?_) | (with_reducible refine pickbn_neg (by assumption) ?_)
    | (with_reducible refine pickb_pos (by assumption) ?_) | (with_reducible refine pickb_neg (by assumption) ?_)
    | (with_reducible refine condT ?_) | (with_reducible refine condF ?_)
    | (with_reducible refine cond_pos (by first | assumption | omega) ?_) | (with_reducible refine cond_neg (by first | assumption | omega) ?_) | (with_reducible refine condM_dec (fun hg => ?_) (fun hg => ?_))
    | (with_reducible refine condn_pos (by first | assumption | omega) ?_) | (with_reducible refine condn_neg (by first | assumption | omega) ?_) | (with_reducible refine condM_ndec (fun hg => ?_) (fun hg => ?_))
    | (with_reducible refine condbn_pos (by assumption) ?_) | (with_reducible refine condbn_neg (by assumption) ?_) | (with_reducible refine condbn_split (fun hg => ?_) (fun hg => ?_))
    | (with_reducible refine condb_pos (by assumption) ?_) | (with_reducible refine condb_neg (by assumption) ?_) | (with_reducible refine condM_b (fun hg => ?_) (fun hg => ?_))
    | ((with_reducible refine oM_gen (fun Kv hK => ?_)); simp [go_sem]; (try simp (disch := omega) only [wrapI64, wrapU8, wrapU32, wrapU64]); (first | refine hK _ _ ?_ | refine And.intro (by omega) (hK _ _ ?_)); clear hK; clear Kv)))
    exact K_eq (k _ (hb3.trans hb4)) (by simp [encList, hF])
theorem pTexts_ok (xs : List (List UInt8)) (v : Value) {K : Value → World → Prop} {w : World} (hl : Laid w) (hrow : RowOf strV w v xs) (hx : ∀ x ∈ xs, x.length < 2^60) (hlen : (encList (xs.map encText)).length < 2^40)
    (k : ∀ w', Below w.heap.size w w' → K (.string ⟨(encList (xs.map encText)).toArray⟩) w') : callM Tryd.prog 21 #[v] K w := by
  apply sh_21_ok
  unfold sh_21
  repeat (any_goals (first
  | (with_reducible refine pureM_in ?_)
  | (with_reducible refine gdtT ?_) | (with_reducible refine gdtF ?_) | (with_reducible refine gdfF ?_) | (with_reducible refine gdfT ?_) | (with_reducible refine gdu ?_ _)
  | (with_reducible refine gdt_pos (by first | assumption | omega) ?_) | (with_reducible refine gdt_neg (by first | assumption | omega) ?_) | (with_reducible refine gdt_split (fun hg => ?_) (fun hg => ?_))
  | (with_reducible refine gdf_pos (by first | assumption | omega) ?_) | (with_reducible refine gdf_neg (by first | assumption | omega) ?_) | (with_reducible refine gdf_split (fun hg => ?_) (fun hg => ?_))
  | (with_reducible refine gdtn_pos (by first | assumption | omega) ?_) | (with_reducible refine gdtn_neg (by first | assumption | omega) ?_) | (with_reducible refine gdtn_split (fun hg => ?_) (fun hg => ?_))
  | (with_reducible refine gdfn_pos (by first | assumption | omega) ?_) | (with_reducible refine gdfn_neg (by first | assumption | omega) ?_) | (with_reducible refine gdfn_split (fun hg => ?_) (fun hg => ?_))
  | (with_reducible refine gdtbn_pos (by assumption) ?_) | (with_reducible refine gdtbn_neg (by assumption) ?_) | (with_reducible refine gdfbn_pos (by assumption) ?_) | (with_reducible refine gdfbn_neg (by assumption) ?_)
  | (with_reducible refine gdtb_pos (by assumption) ?_) | (with_reducible refine gdtb_neg (by assumption) ?_) | (with_reducible refine gdtb_split (fun hg => ?_) (fun hg => ?_))
  | (with_reducible refine gdfb_pos (by assumption) ?_) | (with_reducible refine gdfb_neg (by assumption) ?_) | (with_reducible refine gdfb_split (fun hg => ?_) (fun hg => ?_))
  | (with_reducible refine pickT ?_) | (with_reducible refine pickF ?_)
  | (with_reducible refine pick_pos (by first | assumption | omega) ?_) | (with_reducible refine pick_neg (by first | assumption | omega) ?_)
  | (with_reducible refine pickn_pos (by first | assumption | omega) ?_) | (with_reducible refine pickn_neg (by first | assumption | omega) ?_)
  | (with_reducible refine pickbn_pos (by assumption) ?_) | (with_reducible refine pickbn_neg (by assumption) ?_)
  | (with_reducible refine pickb_pos (by assumption) ?_) | (with_reducible refine pickb_neg (by assumption) ?_)
  | (with_reducible refine condT ?_) | (with_reducible refine condF ?_)
  | (with_reducible refine cond_pos (by first | assumption | omega) ?_) | (with_reducible refine cond_neg (by first | assumption | omega) ?_) | (with_reducible refine condM_dec (fun hg => ?_) (fun hg => ?_))
  | (with_reducible refine condn_pos (by first | assumption | omega) ?_) | (with_reducible refine condn_neg (by first | assumption | omega) ?_) | (with_reducible refine condM_ndec (fun hg => ?_) (fun hg => ?_))
  | (with_reducible refine condbn_pos (by assumption) ?_) | (with_reducible refine condbn_neg (by assumption) ?_) | (with_reducible refine condbn_split (fun hg => ?_) (fun hg => ?_))
  | (with_reducible refine condb_pos (by assumption) ?_) | (with_reducible refine condb_neg (by assumption) ?_) | (with_reducible refine condM_b (fun hg => ?_) (fun hg => ?_))
  | ((with_reducible refine oM_gen (fun Kv hK => ?_)); simp [go_sem]; (try simp (disch := omega) only [wrapI64, wrapU8, wrapU32, wrapU64]); (first | refine hK _ _ ?_ | refine And.intro (by omega) (hK _ _ ?_)); clear hK; clear Kv)))
  exact encodedText_ok xs v hl hrow hx hlen k
end Go.Proofs.Cd
