/- Parts of the proof of the seat's statements (HJd, HJj, HRf, HJr, ShMap5, ShRow, ShRow2, ShBuf, ShBuf2, ShBit, ShBox, ShGo, ShKn, ShKn2, HC, ShelfD, CodeSpec, JcB, JcE, JcR): lemmas about the given translation and plain laws. No condition of their own. -/
import Derived.Test.YtefjibjojkjiiaaGreatDoorJna
import Derived.Test.YtefjibjojkjiiaaGreatDoorProg
import Derived.Lib.BufferWrite
import Derived.Lib.SliceRun
import Derived.Laws.MakeOwn
import Derived.Laws.OwnMore
import Derived.Great.BuildSlice
import Derived.Laws.IdiomStrings
import Derived.Shelf.Small.Strs
import Derived.Shelf.Small.Wraps
import Derived.Shelf.Strconv.Atoi
import Derived.Shelf.Strconv.Itoa0
import Derived.Shelf.Strconv.Itoa1
import Derived.Shelf.LaysM
import Derived.Shelf.Strconv.Itoa2
import Derived.Shelf.Strconv.Itoa3
import Derived.Shelf.Strconv.AtoiErrFast
import Derived.Shelf.Strconv.ParseIntEmpty
import Derived.Shelf.Strconv.AtoiFail
import Derived.Shelf.Strconv.Clone
import Derived.Shelf.Strconv.SyntaxError
import Derived.Shelf.LaysC
import Derived.Shelf.Strconv.ToError
import Derived.Shelf.Strconv.Lower
import Derived.Shelf.Strconv.ParseUint10
import Derived.Shelf.Strconv.ParseUint10Empty
import Derived.Shelf.Strconv.ParseUint10Any
import Derived.Shelf.Strconv.ParseInt10
import Derived.Shelf.Strconv.AtoiLong
import Derived.Shelf.Strconv.AtoiInnerAll
import Derived.Shelf.Strconv.RangeError
import Derived.Shelf.Strconv.ToErrorRange
import Derived.Shelf.Strconv.AtoiAll
import Derived.Shelf.Strings.Search1
import Derived.Shelf.Strings.Prefix
import Derived.Test.YtefjibjojkjiiaaGreatDoorRows
import Derived.Lib.ItoaNum
import Derived.Lib.AtoiAllCases
import Derived.Lib.Builder
import Derived.Lib.AppendStr
import Derived.Lib.AppendIntMem
set_option linter.all false
set_option linter.unusedVariables false
set_option maxRecDepth 100000
namespace Go.Proofs
open Go.Sh
def sh_6 (K : Value → World → Prop) (w : World) : Prop :=
 oM Tryz.prog (.makeMap 56 none) 56 [] (fun v1_1 w =>
 oM Tryz.prog (.makeMap 57 none) 57 [] (fun v2_2 w =>
 oM Tryz.prog (.build 60 #[(0, (.tmp 0)), (2, (.tmp 1))]) 60 [v1_1, v2_2] (fun v3_3 w =>
 oM Tryz.prog (.box 60 (.tmp 0)) 25 [v3_3] (fun v4_4 w =>
 K v4_4 w) w) w) w) w
theorem sh_6_eq (K : Value → World → Prop) (w : World) : sh_6 K w = code Tryz.prog (fun _ => 0) 5 (Tryz.f6.body.getD .skip) (slotsAt []) (retK Tryz.prog [.tmp 0] K) w := by kernel_rfl
theorem sh_6_ok {K : Value → World → Prop} {w : World} (h : sh_6 K w) : callM Tryz.prog 6 #[] K w :=
  calls_of_code (fun _ => 0) (fn := Tryz.f6) (rs := [.tmp 0]) Tryz.func6 rfl rfl (by kernel_rfl) (Nat.le_of_ble_eq_true rfl) ((sh_6_eq K w).mp h)
def sh_27 (a0 : Value) (a1 : Value) (K : Value → World → Prop) (w : World) : Prop :=
 oM Tryz.prog (.nilCheck (.tmp 0)) 0 [a0] (fun v6_1 w =>
 oM Tryz.prog (.fieldAddr 60 (.tmp 0) 0) 0 [v6_1] (fun v7_2 w =>
 oM Tryz.prog (.load 56 (.tmp 0)) 56 [v7_2] (fun v8_3 w =>
 oM Tryz.prog (.lookup 56 (.tmp 0) (.tmp 1) false) 78 [v8_3, a1] (fun v10_4 w =>
 oM Tryz.prog (.field 78 (.tmp 0) 0) 9 [v10_4] (fun v11_5 w =>
 oM Tryz.prog (.call (Go.Call.mk (.builtin .len) #[(.tmp 0)] #[9])) 3 [v11_5] (fun v12_6 w =>
 K v12_6 w) w) w) w) w) w) w
theorem sh_27_eq (a0 : Value) (a1 : Value) (K : Value → World → Prop) (w : World) : sh_27 a0 a1 K w = code Tryz.prog (fun _ => 0) 13 (Tryz.f27.body.getD .skip) (slotsAt [a0, a1]) (retK Tryz.prog [.tmp 4] K) w := by kernel_rfl
theorem sh_27_ok {a0 a1 : Value} {K : Value → World → Prop} {w : World} (h : sh_27 a0 a1 K w) : callM Tryz.prog 27 #[a0, a1] K w :=
  calls_of_code (fun _ => 0) (fn := Tryz.f27) (rs := [.tmp 4]) Tryz.func27 rfl rfl (by kernel_rfl) (Nat.le_of_ble_eq_true rfl) ((sh_27_eq a0 a1 K w).mp h)
def sh_26 (a0 : Value) (a1 : Value) (a2 : Value) (a3 : Value) (K : Value → World → Prop) (w : World) : Prop :=
 callM Tryz.prog 46 #[a0, a1] (fun v14_1 w =>
 oM Tryz.prog (.binOp .neq 30 (.tmp 0) (.const (.int .i64 0)) 30) 4 [v14_1] (fun v16_2 w =>
 condM v16_2
 (K (.tuple #[(.string ⟨#[]⟩), v14_1]) w)
 (oM Tryz.prog (.binOp .lss 3 (.tmp 0) (.tmp 1) 3) 4 [a2, (.int .i64 0)] (fun v19_3 w =>
 gdM (gd v19_3 false) (pureM a3) (fun v21_4 w =>
 gdM (gd v19_3 false) (oM Tryz.prog (.binOp .lss 3 (.tmp 0) (.tmp 1) 3) 4 [v21_4, (.int .i64 0)]) (fun v22_5 w =>
 oM Tryz.prog (.pick (.tmp 0) (.tmp 1) (.tmp 2)) 4 [v19_3, (.bool true), v22_5] (fun v23_6 w =>
 condM v23_6
 (K (.tuple #[(.string ⟨#[]⟩), (.int .i64 1)]) w)
 (oM Tryz.prog (.nilCheck (.tmp 0)) 0 [a0] (fun v25_7 w =>
 oM Tryz.prog (.fieldAddr 60 (.tmp 0) 0) 0 [v25_7] (fun v26_8 w =>
 oM Tryz.prog (.load 56 (.tmp 0)) 56 [v26_8] (fun v27_9 w =>
 oM Tryz.prog (.lookup 56 (.tmp 0) (.tmp 1) false) 78 [v27_9, a1] (fun v29_10 w =>
 oM Tryz.prog (.field 78 (.tmp 0) 0) 9 [v29_10] (fun v30_11 w =>
 oM Tryz.prog (.call (Go.Call.mk (.builtin .len) #[(.tmp 0)] #[9])) 3 [v30_11] (fun v34_12 w =>
 oM Tryz.prog (.call (Go.Call.mk (.builtin .min) #[(.tmp 0), (.tmp 1)] #[3, 3])) 3 [a2, v34_12] (fun v35_13 w =>
 oM Tryz.prog (.slice 9 (.tmp 0) (some (.tmp 1)) none none) 9 [v30_11, v35_13] (fun v36_14 w =>
 oM Tryz.prog (.call (Go.Call.mk (.builtin .len) #[(.tmp 0)] #[9])) 3 [v36_14] (fun v40_15 w =>
 oM Tryz.prog (.call (Go.Call.mk (.builtin .min) #[(.tmp 0), (.tmp 1)] #[3, 3])) 3 [a3, v40_15] (fun v41_16 w =>
 oM Tryz.prog (.slice 9 (.tmp 0) none (some (.tmp 1)) none) 9 [v36_14, v41_16] (fun v42_17 w =>
 K (.tuple #[v42_17, (.int .i64 0)]) w) w) w) w) w) w) w) w) w) w) w) w)) w) w) w) w)) w) w
theorem sh_26_eq (a0 : Value) (a1 : Value) (a2 : Value) (a3 : Value) (K : Value → World → Prop) (w : World) : sh_26 a0 a1 a2 a3 K w = code Tryz.prog (fun _ => 0) 43 (Tryz.f26.body.getD .skip) (slotsAt [a0, a1, a2, a3]) (retK Tryz.prog [.tmp 8, .tmp 9] K) w := by kernel_rfl
theorem sh_26_ok {a0 a1 a2 a3 : Value} {K : Value → World → Prop} {w : World} (h : sh_26 a0 a1 a2 a3 K w) : callM Tryz.prog 26 #[a0, a1, a2, a3] K w :=
  calls_of_code (fun _ => 0) (fn := Tryz.f26) (rs := [.tmp 8, .tmp 9]) Tryz.func26 rfl rfl (by kernel_rfl) (Nat.le_of_ble_eq_true rfl) ((sh_26_eq a0 a1 a2 a3 K w).mp h)
def sh_30 (a0 : Value) (a1 : Value) (a2 : Value) (a3 : Value) (K : Value → World → Prop) (w : World) : Prop :=
 callM Tryz.prog 49 #[a0] (fun v12_1 w =>
 callM Tryz.prog 50 #[a0, a1, a2, a3] (fun v17_2 w =>
 condM v12_1
 (oM Tryz.prog (.nilCheck (.tmp 0)) 0 [a0] (fun v21_3 w =>
 oM Tryz.prog (.fieldAddr 60 (.tmp 0) 6) 0 [v21_3] (fun v22_4 w =>
 oM Tryz.prog (.load 36 (.tmp 0)) 36 [v22_4] (fun v23_5 w =>
 callM Tryz.prog 20 #[a0, v23_5] (fun v24_6 w =>
 K (.int .i64 8) w) w) w) w) w)
 (K v17_2 w)) w) w
theorem sh_30_eq (a0 : Value) (a1 : Value) (a2 : Value) (a3 : Value) (K : Value → World → Prop) (w : World) : sh_30 a0 a1 a2 a3 K w = code Tryz.prog (fun _ => 0) 26 (Tryz.f30.body.getD .skip) (slotsAt [a0, a1, a2, a3]) (retK Tryz.prog [.tmp 8] K) w := by kernel_rfl
theorem sh_30_ok {a0 a1 a2 a3 : Value} {K : Value → World → Prop} {w : World} (h : sh_30 a0 a1 a2 a3 K w) : callM Tryz.prog 30 #[a0, a1, a2, a3] K w :=
  calls_of_code (fun _ => 0) (fn := Tryz.f30) (rs := [.tmp 8]) Tryz.func30 rfl rfl (by kernel_rfl) (Nat.le_of_ble_eq_true rfl) ((sh_30_eq a0 a1 a2 a3 K w).mp h)
def sh_16 (a0 : Value) (a1 : Value) (K : Value → World → Prop) (w : World) : Prop :=
 oM Tryz.prog (.call (Go.Call.mk (.builtin .max) #[(.tmp 0), (.tmp 1)] #[3, 3])) 3 [a1, (.int .i64 0)] (fun v6_1 w =>
 oM Tryz.prog (.nilCheck (.tmp 0)) 0 [a0] (fun v7_2 w =>
 oM Tryz.prog (.fieldAddr 60 (.tmp 0) 3) 0 [v7_2] (fun v8_3 w =>
 oM Tryz.prog (.store 3 (.tmp 0) (.tmp 1)) 0 [v8_3, v6_1] (fun _ w =>
 K (.tuple #[]) w) w) w) w) w
theorem sh_16_eq (a0 : Value) (a1 : Value) (K : Value → World → Prop) (w : World) : sh_16 a0 a1 K w = code Tryz.prog (fun _ => 0) 9 (Tryz.f16.body.getD .skip) (slotsAt [a0, a1]) (retK Tryz.prog [] K) w := by kernel_rfl
theorem sh_16_ok {a0 a1 : Value} {K : Value → World → Prop} {w : World} (h : sh_16 a0 a1 K w) : callM Tryz.prog 16 #[a0, a1] K w :=
  calls_of_code (fun _ => 0) (fn := Tryz.f16) (rs := []) Tryz.func16 rfl rfl (by kernel_rfl) (Nat.le_of_ble_eq_true rfl) ((sh_16_eq a0 a1 K w).mp h)
def sh_18 (a0 : Value) (a1 : Value) (a2 : Value) (K : Value → World → Prop) (w : World) : Prop :=
 oM Tryz.prog (.call (Go.Call.mk (.builtin .max) #[(.tmp 0), (.tmp 1)] #[3, 3])) 3 [a1, (.int .i64 0)] (fun v9_1 w =>
 callM Tryz.prog 43 #[a2] (fun v11_2 w =>
 oM Tryz.prog (.nilCheck (.tmp 0)) 0 [a0] (fun v12_3 w =>
 oM Tryz.prog (.fieldAddr 60 (.tmp 0) 5) 0 [v12_3] (fun v13_4 w =>
 oM Tryz.prog (.store 3 (.tmp 0) (.tmp 1)) 0 [v13_4, v9_1] (fun _ w =>
 oM Tryz.prog (.nilCheck (.tmp 0)) 0 [a0] (fun v14_5 w =>
 oM Tryz.prog (.fieldAddr 60 (.tmp 0) 6) 0 [v14_5] (fun v15_6 w =>
 oM Tryz.prog (.store 36 (.tmp 0) (.tmp 1)) 0 [v15_6, v11_2] (fun _ w =>
 K (.tuple #[]) w) w) w) w) w) w) w) w) w
theorem sh_18_eq (a0 : Value) (a1 : Value) (a2 : Value) (K : Value → World → Prop) (w : World) : sh_18 a0 a1 a2 K w = code Tryz.prog (fun _ => 0) 16 (Tryz.f18.body.getD .skip) (slotsAt [a0, a1, a2]) (retK Tryz.prog [] K) w := by kernel_rfl
theorem sh_18_ok {a0 a1 a2 : Value} {K : Value → World → Prop} {w : World} (h : sh_18 a0 a1 a2 K w) : callM Tryz.prog 18 #[a0, a1, a2] K w :=
  calls_of_code (fun _ => 0) (fn := Tryz.f18) (rs := []) Tryz.func18 rfl rfl (by kernel_rfl) (Nat.le_of_ble_eq_true rfl) ((sh_18_eq a0 a1 a2 K w).mp h)
def sh_20 (a0 : Value) (a1 : Value) (K : Value → World → Prop) (w : World) : Prop :=
 oM Tryz.prog (.nilCheck (.tmp 0)) 0 [a0] (fun v11_1 w =>
 oM Tryz.prog (.fieldAddr 60 (.tmp 0) 4) 0 [v11_1] (fun v12_2 w =>
 oM Tryz.prog (.load 4 (.tmp 0)) 4 [v12_2] (fun v13_3 w =>
 condM v13_3
 (K (.tuple #[]) w)
 (oM Tryz.prog (.nilCheck (.tmp 0)) 0 [a0] (fun v16_4 w =>
 oM Tryz.prog (.fieldAddr 60 (.tmp 0) 4) 0 [v16_4] (fun v17_5 w =>
 oM Tryz.prog (.store 4 (.tmp 0) (.tmp 1)) 0 [v17_5, (.bool true)] (fun _ w =>
 oM Tryz.prog (.nilCheck (.tmp 0)) 0 [a0] (fun v18_6 w =>
 oM Tryz.prog (.fieldAddr 60 (.tmp 0) 5) 0 [v18_6] (fun v19_7 w =>
 oM Tryz.prog (.store 3 (.tmp 0) (.tmp 1)) 0 [v19_7, (.int .i64 0)] (fun _ w =>
 oM Tryz.prog (.nilCheck (.tmp 0)) 0 [a0] (fun v21_8 w =>
 oM Tryz.prog (.fieldAddr 60 (.tmp 0) 1) 0 [v21_8] (fun v22_9 w =>
 oM Tryz.prog (.load 58 (.tmp 0)) 58 [v22_9] (fun v23_10 w =>
 oM Tryz.prog (.call (Go.Call.mk (.builtin .len) #[(.tmp 0)] #[58])) 3 [v23_10] (fun v24_11 w =>
 loopM [undef, undef, (.int .i64 0)] w (fun J_12 m_13 l_14 u_l_14 w0_l_14 => (fun w => (
 oM Tryz.prog (.binOp .lss 3 (.tmp 0) (.tmp 1) 3) 0 [(l_14.getD 2 undef), v24_11] (fun v26_15 w =>
 condM v26_15
 (joinM (fun M_16 => (oM Tryz.prog (.indexAddr 58 (.tmp 0) (.tmp 1)) 0 [v23_10, (l_14.getD 2 undef)] (fun v28_18 w =>
 oM Tryz.prog (.load 76 (.tmp 0)) 76 [v28_18] (fun v29_19 w =>
 oM Tryz.prog (.alloc 76) 0 [] (fun v5_20 w =>
 oM Tryz.prog (.store 76 (.tmp 0) (.tmp 1)) 0 [v5_20, v29_19] (fun _ w =>
 stageM w (fun C_21 w => (pureH a0 (upto C_21 1) (fun v30_22 =>
 oH Tryz.prog (.nilCheck (.tmp 0)) 0 [v30_22] (upto C_21 1) (fun v31_23 =>
 oH Tryz.prog (.fieldAddr 60 (.tmp 0) 0) 0 [v31_23] (upto C_21 1) (fun v32_24 =>
 oH Tryz.prog (.load 56 (.tmp 0)) 56 [v32_24] (upto C_21 1) (fun v33_25 =>
 oH Tryz.prog (.fieldAddr 76 (.tmp 0) 0) 0 [v5_20] (upto C_21 1) (fun v34_26 =>
 oH Tryz.prog (.load 3 (.tmp 0)) 3 [v34_26] (upto C_21 1) (fun v35_27 =>
 oH Tryz.prog (.lookup 56 (.tmp 0) (.tmp 1) false) 78 [v33_25, v35_27] (upto C_21 1) (fun v36_28 =>
 oH Tryz.prog (.fieldAddr 76 (.tmp 0) 1) 0 [v5_20] (upto C_21 2) (fun v37_29 =>
 oH Tryz.prog (.load 3 (.tmp 0)) 3 [v37_29] (upto C_21 2) (fun v38_30 =>
 oH Tryz.prog (.binOp .mul 3 (.tmp 0) (.tmp 1) 3) 3 [v38_30, (.int .i64 64)] (upto C_21 2) (fun v39_31 =>
 oM Tryz.prog (.alloc 78) 0 [] (fun v6_32 w => C_21 1 w ∧ (
 oM Tryz.prog (.store 78 (.tmp 0) (.tmp 1)) 0 [v6_32, v36_28] (fun _ w => C_21 2 w ∧ (
 C_21 3 w ∧ (oM Tryz.prog (.call (Go.Call.mk (.builtin .len) #[(.tmp 0)] #[36])) 3 [a1] (fun v41_34 w =>
 oM Tryz.prog (.binOp .eql 3 (.tmp 0) (.const (.int .i64 0)) 3) 4 [v41_34] (fun v42_35 w =>
 gdM (gd v42_35 false) (pureM a1) (fun v44_36 w =>
 gdM (gd v42_35 false) (pureM (l_14.getD 2 undef)) (fun v45_37 w =>
 gdM (gd v42_35 false) (pureM a1) (fun v46_38 w =>
 gdM (gd v42_35 false) (oM Tryz.prog (.call (Go.Call.mk (.builtin .len) #[(.tmp 0)] #[36])) 3 [v46_38]) (fun v47_39 w =>
 gdM (gd v42_35 false) (oM Tryz.prog (.binOp .rem 3 (.tmp 0) (.tmp 1) 3) 3 [v45_37, v47_39]) (fun v48_40 w =>
 gdM (gd v42_35 false) (oM Tryz.prog (.indexAddr 36 (.tmp 0) (.tmp 1)) 0 [v44_36, v48_40]) (fun v49_41 w =>
 gdM (gd v42_35 false) (oM Tryz.prog (.load 3 (.tmp 0)) 3 [v49_41]) (fun v50_42 w =>
 gdM (gd v42_35 false) (oM Tryz.prog (.binOp .and 3 (.tmp 0) (.tmp 1) 3) 3 [v50_42, (.int .i64 1)]) (fun v51_43 w =>
 gdM (gd v42_35 false) (oM Tryz.prog (.binOp .eql 3 (.tmp 0) (.const (.int .i64 0)) 3) 4 [v51_43]) (fun v52_44 w =>
 oM Tryz.prog (.pick (.tmp 0) (.tmp 1) (.tmp 2)) 4 [v42_35, (.bool true), v52_44] (fun v53_45 w =>
 gdM (gd v53_45 false) (pureM v39_31) (fun v55_46 w =>
 gdM (gd v53_45 false) (oM Tryz.prog (.fieldAddr 78 (.tmp 0) 0) 0 [v6_32]) (fun v56_47 w =>
 gdM (gd v53_45 false) (oM Tryz.prog (.load 9 (.tmp 0)) 9 [v56_47]) (fun v57_48 w =>
 gdM (gd v53_45 false) (oM Tryz.prog (.call (Go.Call.mk (.builtin .len) #[(.tmp 0)] #[9])) 3 [v57_48]) (fun v58_49 w =>
 gdM (gd v53_45 false) (oM Tryz.prog (.binOp .geq 3 (.tmp 0) (.tmp 1) 3) 4 [v55_46, v58_49]) (fun v59_50 w =>
 oM Tryz.prog (.pick (.tmp 0) (.tmp 1) (.tmp 2)) 4 [v53_45, (.bool true), v59_50] (fun v60_51 w =>
 condM v60_51
 (M_16 [(l_14.getD 2 undef), v39_31] w)
 (stageM w (fun C_52 w => (oH Tryz.prog (.fieldAddr 78 (.tmp 0) 1) 0 [v6_32] (upto C_52 0) (fun v61_53 =>
 oH Tryz.prog (.load 9 (.tmp 0)) 9 [v61_53] (upto C_52 0) (fun v62_54 =>
 pureH v39_31 (upto C_52 0) (fun v63_55 =>
 oH Tryz.prog (.fieldAddr 78 (.tmp 0) 0) 0 [v6_32] (upto C_52 0) (fun v64_56 =>
 oH Tryz.prog (.load 9 (.tmp 0)) 9 [v64_56] (upto C_52 0) (fun v65_57 =>
 pureH v39_31 (upto C_52 0) (fun v66_58 =>
 pureH v39_31 (upto C_52 0) (fun v67_59 =>
 oH Tryz.prog (.binOp .add 3 (.tmp 0) (.tmp 1) 3) 3 [v67_59, (.int .i64 64)] (upto C_52 0) (fun v68_60 =>
 oH Tryz.prog (.fieldAddr 78 (.tmp 0) 0) 0 [v6_32] (upto C_52 0) (fun v69_61 =>
 oH Tryz.prog (.load 9 (.tmp 0)) 9 [v69_61] (upto C_52 0) (fun v70_62 =>
 oH Tryz.prog (.call (Go.Call.mk (.builtin .len) #[(.tmp 0)] #[9])) 3 [v70_62] (upto C_52 0) (fun v71_63 =>
 oH Tryz.prog (.call (Go.Call.mk (.builtin .min) #[(.tmp 0), (.tmp 1)] #[3, 3])) 3 [v68_60, v71_63] (upto C_52 0) (fun v72_64 =>
 oH Tryz.prog (.slice 9 (.tmp 0) (some (.tmp 1)) (some (.tmp 2)) none) 9 [v65_57, v66_58, v72_64] (upto C_52 0) (fun v73_65 =>
 callM Tryz.prog 44 #[v62_54, v63_55, v73_65] (fun v74_66 w => C_52 1 w ∧ (
 oM Tryz.prog (.fieldAddr 78 (.tmp 0) 1) 0 [v6_32] (fun v75_67 w => C_52 2 w ∧ (
 oM Tryz.prog (.store 9 (.tmp 0) (.tmp 1)) 0 [v75_67, v74_66] (fun _ w => C_52 3 w ∧ (
 stageM w (fun C_68 w => (pureH a0 (upto C_68 0) (fun v76_69 =>
 oH Tryz.prog (.nilCheck (.tmp 0)) 0 [v76_69] (upto C_68 0) (fun v77_70 =>
 oH Tryz.prog (.fieldAddr 60 (.tmp 0) 0) 0 [v77_70] (upto C_68 0) (fun v78_71 =>
 oH Tryz.prog (.load 56 (.tmp 0)) 56 [v78_71] (upto C_68 0) (fun v79_72 =>
 oH Tryz.prog (.fieldAddr 76 (.tmp 0) 0) 0 [v5_20] (upto C_68 0) (fun v80_73 =>
 oH Tryz.prog (.load 3 (.tmp 0)) 3 [v80_73] (upto C_68 0) (fun v81_74 =>
 oH Tryz.prog (.load 78 (.tmp 0)) 78 [v6_32] (upto C_68 0) (fun v82_75 =>
 oM Tryz.prog (.mapUpdate 56 (.tmp 0) (.tmp 1) (.tmp 2)) 0 [v79_72, v81_74, v82_75] (fun _ w => C_68 1 w ∧ (
 M_16 [(l_14.getD 2 undef), v39_31] w)) w))))))))))) w)) w)) w))))))))))))))))) w) w) w) w) w) w) w) w) w) w) w) w) w) w) w) w) w) w))) w)) w))))))))))))) w) w) w) w))
 (fun l_17 u_l_17 w => (oM Tryz.prog (.binOp .add 3 (.tmp 0) (.tmp 1) 3) 3 [(l_14.getD 2 undef), (.int .i64 1)] (fun v83_76 w =>
 J_12 [(l_17.getD 0 undef), (l_17.getD 1 undef), v83_76] w ∧ m_13 [(l_17.getD 0 undef), (l_17.getD 1 undef), v83_76] w < m_13 l_14 w0_l_14) w)))
 (oM Tryz.prog (.nilCheck (.tmp 0)) 0 [a0] (fun v85_77 w =>
 oM Tryz.prog (.fieldAddr 60 (.tmp 0) 0) 0 [v85_77] (fun v86_78 w =>
 oM Tryz.prog (.load 56 (.tmp 0)) 56 [v86_78] (fun v87_79 w =>
 oM Tryz.prog (.range 56 (.tmp 0)) 0 [v87_79] (fun v88_80 w =>
 loopM [undef] w (fun J_81 m_82 l_83 u_l_83 w0_l_83 => (fun w => (
 oM Tryz.prog (.next (.tmp 0) false) 0 [v88_80] (fun v89_84 w =>
 oM Tryz.prog (.extract (.tmp 0) 0) 4 [v89_84] (fun v90_85 w =>
 condM v90_85
 (oM Tryz.prog (.entry (.tmp 0)) 0 [v88_80] (fun v91_86 w =>
 oM Tryz.prog (.extract (.tmp 0) 0) 3 [v91_86] (fun v92_87 w =>
 oM Tryz.prog (.extract (.tmp 0) 1) 78 [v91_86] (fun v93_88 w =>
 oM Tryz.prog (.alloc 78) 0 [] (fun v9_89 w =>
 oM Tryz.prog (.store 78 (.tmp 0) (.tmp 1)) 0 [v9_89, v93_88] (fun _ w =>
 stageM w (fun C_90 w => (pureH a0 (upto C_90 1) (fun v94_91 =>
 oH Tryz.prog (.nilCheck (.tmp 0)) 0 [v94_91] (upto C_90 1) (fun v95_92 =>
 oH Tryz.prog (.fieldAddr 60 (.tmp 0) 0) 0 [v95_92] (upto C_90 1) (fun v96_93 =>
 oH Tryz.prog (.load 56 (.tmp 0)) 56 [v96_93] (upto C_90 1) (fun v97_94 =>
 pureH v92_87 (upto C_90 1) (fun v98_95 =>
 oH Tryz.prog (.fieldAddr 78 (.tmp 0) 1) 0 [v9_89] (upto C_90 0) (fun v99_96 =>
 oH Tryz.prog (.load 9 (.tmp 0)) 9 [v99_96] (upto C_90 0) (fun v100_97 =>
 oH Tryz.prog (.fieldAddr 78 (.tmp 0) 1) 0 [v9_89] (upto C_90 0) (fun v101_98 =>
 oH Tryz.prog (.load 9 (.tmp 0)) 9 [v101_98] (upto C_90 0) (fun v102_99 =>
 oM Tryz.prog (.build 78 #[(0, (.tmp 0)), (1, (.tmp 1))]) 78 [v100_97, v102_99] (fun v103_100 w => C_90 1 w ∧ (
 oM Tryz.prog (.mapUpdate 56 (.tmp 0) (.tmp 1) (.tmp 2)) 0 [v97_94, v98_95, v103_100] (fun _ w => C_90 2 w ∧ (
 J_81 [v92_87] w ∧ m_82 [v92_87] w < m_82 l_83 w0_l_83)) w)) w)))))))))))) w) w) w) w) w)
 (oM Tryz.prog (.makeMap 57 none) 57 [] (fun v106_101 w =>
 oM Tryz.prog (.nilCheck (.tmp 0)) 0 [a0] (fun v107_102 w =>
 oM Tryz.prog (.fieldAddr 60 (.tmp 0) 1) 0 [v107_102] (fun v108_103 w =>
 oM Tryz.prog (.store 58 (.tmp 0) (.tmp 1)) 0 [v108_103, (.slice none 0 0)] (fun _ w =>
 oM Tryz.prog (.nilCheck (.tmp 0)) 0 [a0] (fun v109_104 w =>
 oM Tryz.prog (.fieldAddr 60 (.tmp 0) 2) 0 [v109_104] (fun v110_105 w =>
 oM Tryz.prog (.store 57 (.tmp 0) (.tmp 1)) 0 [v110_105, v106_101] (fun _ w =>
 K (.tuple #[]) w) w) w) w) w) w) w) w)) w) w)) w0_l_83)) w) w) w) w)) w)) w0_l_14)) w) w) w) w) w) w) w) w) w) w)) w) w) w
theorem sh_20_eq (a0 : Value) (a1 : Value) (K : Value → World → Prop) (w : World) : sh_20 a0 a1 K w = code Tryz.prog (fun _ => 3) 111 (Tryz.f20.body.getD .skip) (slotsAt [a0, a1]) (retK Tryz.prog [] K) w := by kernel_rfl
theorem sh_20_ok {a0 a1 : Value} {K : Value → World → Prop} {w : World} (h : sh_20 a0 a1 K w) : callM Tryz.prog 20 #[a0, a1] K w :=
  calls_of_code (fun _ => 3) (fn := Tryz.f20) (rs := []) Tryz.func20 rfl rfl (by kernel_rfl) (Nat.le_of_ble_eq_true rfl) ((sh_20_eq a0 a1 K w).mp h)
def sh_22 (a0 : Value) (K : Value → World → Prop) (w : World) : Prop :=
 oM Tryz.prog (.nilCheck (.tmp 0)) 0 [a0] (fun v3_1 w =>
 oM Tryz.prog (.fieldAddr 60 (.tmp 0) 4) 0 [v3_1] (fun v4_2 w =>
 oM Tryz.prog (.store 4 (.tmp 0) (.tmp 1)) 0 [v4_2, (.bool false)] (fun _ w =>
 K (.tuple #[]) w) w) w) w
theorem sh_22_eq (a0 : Value) (K : Value → World → Prop) (w : World) : sh_22 a0 K w = code Tryz.prog (fun _ => 0) 5 (Tryz.f22.body.getD .skip) (slotsAt [a0]) (retK Tryz.prog [] K) w := by kernel_rfl
theorem sh_22_ok {a0 : Value} {K : Value → World → Prop} {w : World} (h : sh_22 a0 K w) : callM Tryz.prog 22 #[a0] K w :=
  calls_of_code (fun _ => 0) (fn := Tryz.f22) (rs := []) Tryz.func22 rfl rfl (by kernel_rfl) (Nat.le_of_ble_eq_true rfl) ((sh_22_eq a0 K w).mp h)
def sh_33 (a0 : Value) (a1 : Value) (K : Value → World → Prop) (w : World) : Prop :=
 joinM (fun M_1 => (callM Tryz.prog 49 #[a0] (fun v7_3 w =>
 condM v7_3
 (oM Tryz.prog (.nilCheck (.tmp 0)) 0 [a0] (fun v10_4 w =>
 oM Tryz.prog (.fieldAddr 60 (.tmp 0) 6) 0 [v10_4] (fun v11_5 w =>
 oM Tryz.prog (.load 36 (.tmp 0)) 36 [v11_5] (fun v12_6 w =>
 callM Tryz.prog 20 #[a0, v12_6] (fun v13_7 w =>
 M_1 [] w) w) w) w) w)
 (M_1 [] w)) w))
 (fun l_2 u_l_2 w => (callM Tryz.prog 46 #[a0, a1] (fun v16_8 w =>
 oM Tryz.prog (.binOp .neq 30 (.tmp 0) (.const (.int .i64 0)) 30) 4 [v16_8] (fun v18_9 w =>
 condM v18_9
 (K v16_8 w)
 (oM Tryz.prog (.nilCheck (.tmp 0)) 0 [a0] (fun v21_10 w =>
 oM Tryz.prog (.fieldAddr 60 (.tmp 0) 3) 0 [v21_10] (fun v22_11 w =>
 oM Tryz.prog (.load 3 (.tmp 0)) 3 [v22_11] (fun v23_12 w =>
 oM Tryz.prog (.binOp .gtr 3 (.tmp 0) (.tmp 1) 3) 4 [v23_12, (.int .i64 0)] (fun v24_13 w =>
 condM v24_13
 (oM Tryz.prog (.nilCheck (.tmp 0)) 0 [a0] (fun v26_14 w =>
 oM Tryz.prog (.fieldAddr 60 (.tmp 0) 3) 0 [v26_14] (fun v27_15 w =>
 oM Tryz.prog (.load 3 (.tmp 0)) 3 [v27_15] (fun v28_16 w =>
 oM Tryz.prog (.binOp .sub 3 (.tmp 0) (.tmp 1) 3) 3 [v28_16, (.int .i64 1)] (fun v29_17 w =>
 oM Tryz.prog (.nilCheck (.tmp 0)) 0 [a0] (fun v30_18 w =>
 oM Tryz.prog (.fieldAddr 60 (.tmp 0) 3) 0 [v30_18] (fun v31_19 w =>
 oM Tryz.prog (.store 3 (.tmp 0) (.tmp 1)) 0 [v31_19, v29_17] (fun _ w =>
 K (.int .i64 9) w) w) w) w) w) w) w) w)
 (oM Tryz.prog (.nilCheck (.tmp 0)) 0 [a0] (fun v35_20 w =>
 oM Tryz.prog (.fieldAddr 60 (.tmp 0) 0) 0 [v35_20] (fun v36_21 w =>
 oM Tryz.prog (.load 56 (.tmp 0)) 56 [v36_21] (fun v37_22 w =>
 oM Tryz.prog (.lookup 56 (.tmp 0) (.tmp 1) false) 78 [v37_22, a1] (fun v39_23 w =>
 oM Tryz.prog (.field 78 (.tmp 0) 0) 9 [v39_23] (fun v40_24 w =>
 callM Tryz.prog 51 #[a0, a1, v40_24] (fun v41_25 w =>
 K (.int .i64 0) w) w) w) w) w) w) w)) w) w) w) w)) w) w))
theorem sh_33_eq (a0 : Value) (a1 : Value) (K : Value → World → Prop) (w : World) : sh_33 a0 a1 K w = code Tryz.prog (fun _ => 0) 42 (Tryz.f33.body.getD .skip) (slotsAt [a0, a1]) (retK Tryz.prog [.tmp 4] K) w := by kernel_rfl
theorem sh_33_ok {a0 a1 : Value} {K : Value → World → Prop} {w : World} (h : sh_33 a0 a1 K w) : callM Tryz.prog 33 #[a0, a1] K w :=
  calls_of_code (fun _ => 0) (fn := Tryz.f33) (rs := [.tmp 4]) Tryz.func33 rfl rfl (by kernel_rfl) (Nat.le_of_ble_eq_true rfl) ((sh_33_eq a0 a1 K w).mp h)
def sh_35 (a0 : Value) (a1 : Value) (a2 : Value) (K : Value → World → Prop) (w : World) : Prop :=
 joinM (fun M_1 => (callM Tryz.prog 49 #[a0] (fun v9_3 w =>
 condM v9_3
 (oM Tryz.prog (.nilCheck (.tmp 0)) 0 [a0] (fun v12_4 w =>
 oM Tryz.prog (.fieldAddr 60 (.tmp 0) 6) 0 [v12_4] (fun v13_5 w =>
 oM Tryz.prog (.load 36 (.tmp 0)) 36 [v13_5] (fun v14_6 w =>
 callM Tryz.prog 20 #[a0, v14_6] (fun v15_7 w =>
 M_1 [] w) w) w) w) w)
 (M_1 [] w)) w))
 (fun l_2 u_l_2 w => (callM Tryz.prog 46 #[a0, a1] (fun v18_8 w =>
 oM Tryz.prog (.binOp .neq 30 (.tmp 0) (.const (.int .i64 0)) 30) 4 [v18_8] (fun v20_9 w =>
 condM v20_9
 (K v18_8 w)
 (oM Tryz.prog (.binOp .lss 3 (.tmp 0) (.tmp 1) 3) 4 [a2, (.int .i64 0)] (fun v23_10 w =>
 gdM (gd v23_10 false) (pureM a2) (fun v25_11 w =>
 gdM (gd v23_10 false) (pureM a0) (fun v26_12 w =>
 gdM (gd v23_10 false) (pureM a1) (fun v27_13 w =>
 gdM (gd v23_10 false) (callM Tryz.prog 27 #[v26_12, v27_13]) (fun v28_14 w =>
 gdM (gd v23_10 false) (oM Tryz.prog (.binOp .gtr 3 (.tmp 0) (.tmp 1) 3) 4 [v25_11, v28_14]) (fun v29_15 w =>
 oM Tryz.prog (.pick (.tmp 0) (.tmp 1) (.tmp 2)) 4 [v23_10, (.bool true), v29_15] (fun v30_16 w =>
 condM v30_16
 (K (.int .i64 1) w)
 (oM Tryz.prog (.nilCheck (.tmp 0)) 0 [a0] (fun v34_17 w =>
 oM Tryz.prog (.fieldAddr 60 (.tmp 0) 0) 0 [v34_17] (fun v35_18 w =>
 oM Tryz.prog (.load 56 (.tmp 0)) 56 [v35_18] (fun v36_19 w =>
 oM Tryz.prog (.lookup 56 (.tmp 0) (.tmp 1) false) 78 [v36_19, a1] (fun v38_20 w =>
 oM Tryz.prog (.field 78 (.tmp 0) 0) 9 [v38_20] (fun v39_21 w =>
 oM Tryz.prog (.slice 9 (.tmp 0) none (some (.tmp 1)) none) 9 [v39_21, a2] (fun v41_22 w =>
 callM Tryz.prog 51 #[a0, a1, v41_22] (fun v42_23 w =>
 K (.int .i64 0) w) w) w) w) w) w) w) w)) w) w) w) w) w) w) w)) w) w))
theorem sh_35_eq (a0 : Value) (a1 : Value) (a2 : Value) (K : Value → World → Prop) (w : World) : sh_35 a0 a1 a2 K w = code Tryz.prog (fun _ => 0) 43 (Tryz.f35.body.getD .skip) (slotsAt [a0, a1, a2]) (retK Tryz.prog [.tmp 6] K) w := by kernel_rfl
theorem sh_35_ok {a0 a1 a2 : Value} {K : Value → World → Prop} {w : World} (h : sh_35 a0 a1 a2 K w) : callM Tryz.prog 35 #[a0, a1, a2] K w :=
  calls_of_code (fun _ => 0) (fn := Tryz.f35) (rs := [.tmp 6]) Tryz.func35 rfl rfl (by kernel_rfl) (Nat.le_of_ble_eq_true rfl) ((sh_35_eq a0 a1 a2 K w).mp h)
def sh_46 (a0 : Value) (a1 : Value) (K : Value → World → Prop) (w : World) : Prop :=
 oM Tryz.prog (.nilCheck (.tmp 0)) 0 [a0] (fun v7_1 w =>
 oM Tryz.prog (.fieldAddr 60 (.tmp 0) 4) 0 [v7_1] (fun v8_2 w =>
 oM Tryz.prog (.load 4 (.tmp 0)) 4 [v8_2] (fun v9_3 w =>
 condM v9_3
 (K (.int .i64 8) w)
 (oM Tryz.prog (.binOp .lss 3 (.tmp 0) (.tmp 1) 3) 4 [a1, (.int .i64 0)] (fun v12_4 w =>
 gdM (gd v12_4 false) (pureM a1) (fun v14_5 w =>
 gdM (gd v12_4 false) (oM Tryz.prog (.binOp .geq 3 (.tmp 0) (.tmp 1) 3) 4 [v14_5, (.int .i64 16)]) (fun v15_6 w =>
 oM Tryz.prog (.pick (.tmp 0) (.tmp 1) (.tmp 2)) 4 [v12_4, (.bool true), v15_6] (fun v16_7 w =>
 condM v16_7
 (K (.int .i64 1) w)
 (K (.int .i64 0) w)) w) w) w) w)) w) w) w
theorem sh_46_eq (a0 : Value) (a1 : Value) (K : Value → World → Prop) (w : World) : sh_46 a0 a1 K w = code Tryz.prog (fun _ => 0) 17 (Tryz.f46.body.getD .skip) (slotsAt [a0, a1]) (retK Tryz.prog [.tmp 4] K) w := by kernel_rfl
theorem sh_46_ok {a0 a1 : Value} {K : Value → World → Prop} {w : World} (h : sh_46 a0 a1 K w) : callM Tryz.prog 46 #[a0, a1] K w :=
  calls_of_code (fun _ => 0) (fn := Tryz.f46) (rs := [.tmp 4]) Tryz.func46 rfl rfl (by kernel_rfl) (Nat.le_of_ble_eq_true rfl) ((sh_46_eq a0 a1 K w).mp h)
def sh_49 (a0 : Value) (K : Value → World → Prop) (w : World) : Prop :=
 oM Tryz.prog (.nilCheck (.tmp 0)) 0 [a0] (fun v4_1 w =>
 oM Tryz.prog (.fieldAddr 60 (.tmp 0) 4) 0 [v4_1] (fun v5_2 w =>
 oM Tryz.prog (.load 4 (.tmp 0)) 4 [v5_2] (fun v6_3 w =>
 gdM (gd v6_3 false) (pureM a0) (fun v8_4 w =>
 gdM (gd v6_3 false) (oM Tryz.prog (.nilCheck (.tmp 0)) 0 [v8_4]) (fun v9_5 w =>
 gdM (gd v6_3 false) (oM Tryz.prog (.fieldAddr 60 (.tmp 0) 5) 0 [v9_5]) (fun v10_6 w =>
 gdM (gd v6_3 false) (oM Tryz.prog (.load 3 (.tmp 0)) 3 [v10_6]) (fun v11_7 w =>
 gdM (gd v6_3 false) (oM Tryz.prog (.binOp .eql 3 (.tmp 0) (.const (.int .i64 0)) 3) 4 [v11_7]) (fun v12_8 w =>
 oM Tryz.prog (.pick (.tmp 0) (.tmp 1) (.tmp 2)) 4 [v6_3, (.bool true), v12_8] (fun v13_9 w =>
 condM v13_9
 (K (.bool false) w)
 (oM Tryz.prog (.nilCheck (.tmp 0)) 0 [a0] (fun v15_10 w =>
 oM Tryz.prog (.fieldAddr 60 (.tmp 0) 5) 0 [v15_10] (fun v16_11 w =>
 oM Tryz.prog (.load 3 (.tmp 0)) 3 [v16_11] (fun v17_12 w =>
 oM Tryz.prog (.binOp .sub 3 (.tmp 0) (.tmp 1) 3) 3 [v17_12, (.int .i64 1)] (fun v18_13 w =>
 oM Tryz.prog (.nilCheck (.tmp 0)) 0 [a0] (fun v19_14 w =>
 oM Tryz.prog (.fieldAddr 60 (.tmp 0) 5) 0 [v19_14] (fun v20_15 w =>
 oM Tryz.prog (.store 3 (.tmp 0) (.tmp 1)) 0 [v20_15, v18_13] (fun _ w =>
 oM Tryz.prog (.nilCheck (.tmp 0)) 0 [a0] (fun v22_16 w =>
 oM Tryz.prog (.fieldAddr 60 (.tmp 0) 5) 0 [v22_16] (fun v23_17 w =>
 oM Tryz.prog (.load 3 (.tmp 0)) 3 [v23_17] (fun v24_18 w =>
 oM Tryz.prog (.binOp .eql 3 (.tmp 0) (.const (.int .i64 0)) 3) 4 [v24_18] (fun v25_19 w =>
 K v25_19 w) w) w) w) w) w) w) w) w) w) w) w)) w) w) w) w) w) w) w) w) w
theorem sh_49_eq (a0 : Value) (K : Value → World → Prop) (w : World) : sh_49 a0 K w = code Tryz.prog (fun _ => 0) 26 (Tryz.f49.body.getD .skip) (slotsAt [a0]) (retK Tryz.prog [.tmp 2] K) w := by kernel_rfl
theorem sh_49_ok {a0 : Value} {K : Value → World → Prop} {w : World} (h : sh_49 a0 K w) : callM Tryz.prog 49 #[a0] K w :=
  calls_of_code (fun _ => 0) (fn := Tryz.f49) (rs := [.tmp 2]) Tryz.func49 rfl rfl (by kernel_rfl) (Nat.le_of_ble_eq_true rfl) ((sh_49_eq a0 K w).mp h)
def sh_50 (a0 : Value) (a1 : Value) (a2 : Value) (a3 : Value) (K : Value → World → Prop) (w : World) : Prop :=
 callM Tryz.prog 46 #[a0, a1] (fun v15_1 w =>
 oM Tryz.prog (.binOp .neq 30 (.tmp 0) (.const (.int .i64 0)) 30) 4 [v15_1] (fun v17_2 w =>
 condM v17_2
 (K v15_1 w)
 (oM Tryz.prog (.binOp .lss 3 (.tmp 0) (.tmp 1) 3) 4 [a2, (.int .i64 0)] (fun v21_3 w =>
 condM v21_3
 (K (.int .i64 1) w)
 (oM Tryz.prog (.binOp .gtr 3 (.tmp 0) (.tmp 1) 3) 4 [a2, (.int .i64 16777216)] (fun v24_4 w =>
 gdM (gd v24_4 false) (pureM a3) (fun v26_5 w =>
 gdM (gd v24_4 false) (oM Tryz.prog (.call (Go.Call.mk (.builtin .len) #[(.tmp 0)] #[9])) 3 [v26_5]) (fun v27_6 w =>
 gdM (gd v24_4 false) (pureM a2) (fun v28_7 w =>
 gdM (gd v24_4 false) (oM Tryz.prog (.binOp .sub 3 (.tmp 0) (.tmp 1) 3) 3 [(.int .i64 16777216), v28_7]) (fun v29_8 w =>
 gdM (gd v24_4 false) (oM Tryz.prog (.binOp .gtr 3 (.tmp 0) (.tmp 1) 3) 4 [v27_6, v29_8]) (fun v30_9 w =>
 oM Tryz.prog (.pick (.tmp 0) (.tmp 1) (.tmp 2)) 4 [v24_4, (.bool true), v30_9] (fun v31_10 w =>
 condM v31_10
 (K (.int .i64 6) w)
 (oM Tryz.prog (.binOp .eql 9 (.tmp 0) (.const (.string ⟨#[]⟩)) 9) 4 [a3] (fun v34_11 w =>
 condM v34_11
 (K (.int .i64 0) w)
 (oM Tryz.prog (.nilCheck (.tmp 0)) 0 [a0] (fun v36_12 w =>
 oM Tryz.prog (.fieldAddr 60 (.tmp 0) 0) 0 [v36_12] (fun v37_13 w =>
 oM Tryz.prog (.load 56 (.tmp 0)) 56 [v37_13] (fun v38_14 w =>
 oM Tryz.prog (.lookup 56 (.tmp 0) (.tmp 1) false) 78 [v38_14, a1] (fun v40_15 w =>
 oM Tryz.prog (.alloc 78) 0 [] (fun v10_16 w =>
 oM Tryz.prog (.store 78 (.tmp 0) (.tmp 1)) 0 [v10_16, v40_15] (fun _ w =>
 oM Tryz.prog (.fieldAddr 78 (.tmp 0) 0) 0 [v10_16] (fun v41_17 w =>
 oM Tryz.prog (.load 9 (.tmp 0)) 9 [v41_17] (fun v42_18 w =>
 callM Tryz.prog 44 #[v42_18, a2, a3] (fun v45_19 w =>
 oM Tryz.prog (.fieldAddr 78 (.tmp 0) 0) 0 [v10_16] (fun v46_20 w =>
 oM Tryz.prog (.store 9 (.tmp 0) (.tmp 1)) 0 [v46_20, v45_19] (fun _ w =>
 stageM w (fun C_21 w => (pureH a0 (upto C_21 0) (fun v47_22 =>
 oH Tryz.prog (.nilCheck (.tmp 0)) 0 [v47_22] (upto C_21 0) (fun v48_23 =>
 oH Tryz.prog (.fieldAddr 60 (.tmp 0) 0) 0 [v48_23] (upto C_21 0) (fun v49_24 =>
 oH Tryz.prog (.load 56 (.tmp 0)) 56 [v49_24] (upto C_21 0) (fun v50_25 =>
 pureH a1 (upto C_21 0) (fun v51_26 =>
 oH Tryz.prog (.load 78 (.tmp 0)) 78 [v10_16] (upto C_21 0) (fun v52_27 =>
 oM Tryz.prog (.mapUpdate 56 (.tmp 0) (.tmp 1) (.tmp 2)) 0 [v50_25, v51_26, v52_27] (fun _ w => C_21 1 w ∧ (
 oM Tryz.prog (.binOp .quo 3 (.tmp 0) (.tmp 1) 3) 3 [a2, (.int .i64 64)] (fun v54_28 w =>
 loopM [v54_28] w (fun J_29 m_30 l_31 u_l_31 w0_l_31 => (fun w => (
 oM Tryz.prog (.call (Go.Call.mk (.builtin .len) #[(.tmp 0)] #[9])) 3 [a3] (fun v58_32 w =>
 oM Tryz.prog (.binOp .add 3 (.tmp 0) (.tmp 1) 3) 3 [a2, v58_32] (fun v59_33 w =>
 oM Tryz.prog (.binOp .sub 3 (.tmp 0) (.tmp 1) 3) 3 [v59_33, (.int .i64 1)] (fun v60_34 w =>
 oM Tryz.prog (.binOp .quo 3 (.tmp 0) (.tmp 1) 3) 3 [v60_34, (.int .i64 64)] (fun v61_35 w =>
 oM Tryz.prog (.binOp .leq 3 (.tmp 0) (.tmp 1) 3) 4 [(l_31.getD 0 undef), v61_35] (fun v62_36 w =>
 condM v62_36
 (joinM (fun M_37 => (oM Tryz.prog (.build 76 #[(0, (.tmp 0)), (1, (.tmp 1))]) 76 [a1, (l_31.getD 0 undef)] (fun v67_39 w =>
 oM Tryz.prog (.alloc 76) 0 [] (fun v12_40 w =>
 oM Tryz.prog (.store 76 (.tmp 0) (.tmp 1)) 0 [v12_40, v67_39] (fun _ w =>
 stageM w (fun C_41 w => (pureH a0 (upto C_41 0) (fun v68_42 =>
 oH Tryz.prog (.nilCheck (.tmp 0)) 0 [v68_42] (upto C_41 0) (fun v69_43 =>
 oH Tryz.prog (.fieldAddr 60 (.tmp 0) 2) 0 [v69_43] (upto C_41 0) (fun v70_44 =>
 oH Tryz.prog (.load 57 (.tmp 0)) 57 [v70_44] (upto C_41 0) (fun v71_45 =>
 oH Tryz.prog (.load 76 (.tmp 0)) 76 [v12_40] (upto C_41 0) (fun v72_46 =>
 oH Tryz.prog (.lookup 57 (.tmp 0) (.tmp 1) false) 4 [v71_45, v72_46] (upto C_41 0) (fun v73_47 =>
 oH Tryz.prog (.unOp .not 4 (.tmp 0)) 4 [v73_47] (upto C_41 0) (fun v74_48 =>
 condM v74_48
 (stageM w (fun C_49 w => (pureH a0 (upto C_49 2) (fun v75_50 =>
 pureH a0 (upto C_49 2) (fun v76_51 =>
 oH Tryz.prog (.nilCheck (.tmp 0)) 0 [v76_51] (upto C_49 2) (fun v77_52 =>
 oH Tryz.prog (.fieldAddr 60 (.tmp 0) 2) 0 [v77_52] (upto C_49 2) (fun v78_53 =>
 oH Tryz.prog (.load 57 (.tmp 0)) 57 [v78_53] (upto C_49 2) (fun v79_54 =>
 oH Tryz.prog (.load 76 (.tmp 0)) 76 [v12_40] (upto C_49 5) (fun v80_55 =>
 pureH a0 (upto C_49 1) (fun v81_56 =>
 oH Tryz.prog (.nilCheck (.tmp 0)) 0 [v81_56] (upto C_49 1) (fun v82_57 =>
 oH Tryz.prog (.fieldAddr 60 (.tmp 0) 1) 0 [v82_57] (upto C_49 1) (fun v83_58 =>
 oH Tryz.prog (.load 58 (.tmp 0)) 58 [v83_58] (upto C_49 1) (fun v84_59 =>
 oH Tryz.prog (.load 76 (.tmp 0)) 76 [v12_40] (upto C_49 0) (fun v85_60 =>
 oM Tryz.prog (.buildSlice 58 1 #[(0, (.tmp 0))]) 58 [v85_60] (fun v86_61 w => C_49 1 w ∧ (
 oM Tryz.prog (.call (Go.Call.mk (.builtin .append) #[(.tmp 0), (.tmp 1)] #[58, 58])) 58 [v84_59, v86_61] (fun v87_62 w => C_49 2 w ∧ (
 oM Tryz.prog (.nilCheck (.tmp 0)) 0 [v75_50] (fun v88_63 w => C_49 3 w ∧ (
 oM Tryz.prog (.fieldAddr 60 (.tmp 0) 1) 0 [v88_63] (fun v89_64 w => C_49 4 w ∧ (
 oM Tryz.prog (.store 58 (.tmp 0) (.tmp 1)) 0 [v89_64, v87_62] (fun _ w => C_49 5 w ∧ (
 oM Tryz.prog (.mapEntry 57 (.tmp 0) (.tmp 1)) 0 [v79_54, v80_55] (fun v90_65 w => C_49 6 w ∧ (
 oM Tryz.prog (.extract (.tmp 0) 1) 3 [v90_65] (fun v91_66 w => C_49 7 w ∧ (
 oM Tryz.prog (.entryStore 57 (.tmp 0) (.tmp 1) (.tmp 2)) 0 [v79_54, v91_66, (.bool true)] (fun _ w => C_49 8 w ∧ (
 M_37 [] w)) w)) w)) w)) w)) w)) w)) w)) w))))))))))))))
 (M_37 [] w))))))))))) w) w) w))
 (fun l_38 u_l_38 w => (oM Tryz.prog (.binOp .add 3 (.tmp 0) (.tmp 1) 3) 3 [(l_31.getD 0 undef), (.int .i64 1)] (fun v64_67 w =>
 J_29 [v64_67] w ∧ m_30 [v64_67] w < m_30 l_31 w0_l_31) w)))
 (K (.int .i64 0) w)) w) w) w) w) w)) w0_l_31)) w)) w))))))))) w) w) w) w) w) w) w) w) w) w) w)) w)) w) w) w) w) w) w) w)) w)) w) w
theorem sh_50_eq (a0 : Value) (a1 : Value) (a2 : Value) (a3 : Value) (K : Value → World → Prop) (w : World) : sh_50 a0 a1 a2 a3 K w = code Tryz.prog (fun _ => 3) 92 (Tryz.f50.body.getD .skip) (slotsAt [a0, a1, a2, a3]) (retK Tryz.prog [.tmp 8] K) w := by kernel_rfl
theorem sh_50_ok {a0 a1 a2 a3 : Value} {K : Value → World → Prop} {w : World} (h : sh_50 a0 a1 a2 a3 K w) : callM Tryz.prog 50 #[a0, a1, a2, a3] K w :=
  calls_of_code (fun _ => 3) (fn := Tryz.f50) (rs := [.tmp 8]) Tryz.func50 rfl rfl (by kernel_rfl) (Nat.le_of_ble_eq_true rfl) ((sh_50_eq a0 a1 a2 a3 K w).mp h)
def sh_43 (a0 : Value) (K : Value → World → Prop) (w : World) : Prop :=
 oM Tryz.prog (.binOp .eql 36 (.tmp 0) (.const (.slice none 0 0)) 36) 4 [a0] (fun v4_1 w =>
 condM v4_1
 (K (.slice none 0 0) w)
 (oM Tryz.prog (.buildSlice 36 0 #[]) 36 [] (fun v5_2 w =>
 oM Tryz.prog (.call (Go.Call.mk (.builtin .append) #[(.tmp 0), (.tmp 1)] #[36, 36])) 36 [v5_2, a0] (fun v7_3 w =>
 K v7_3 w) w) w)) w
theorem sh_43_eq (a0 : Value) (K : Value → World → Prop) (w : World) : sh_43 a0 K w = code Tryz.prog (fun _ => 0) 8 (Tryz.f43.body.getD .skip) (slotsAt [a0]) (retK Tryz.prog [.tmp 2] K) w := by kernel_rfl
theorem sh_43_ok {a0 : Value} {K : Value → World → Prop} {w : World} (h : sh_43 a0 K w) : callM Tryz.prog 43 #[a0] K w :=
  calls_of_code (fun _ => 0) (fn := Tryz.f43) (rs := [.tmp 2]) Tryz.func43 rfl rfl (by kernel_rfl) (Nat.le_of_ble_eq_true rfl) ((sh_43_eq a0 K w).mp h)
def sh_44 (a0 : Value) (a1 : Value) (a2 : Value) (K : Value → World → Prop) (w : World) : Prop :=
 oM Tryz.prog (.binOp .eql 9 (.tmp 0) (.const (.string ⟨#[]⟩)) 9) 4 [a2] (fun v9_1 w =>
 condM v9_1
 (K a0 w)
 (oM Tryz.prog (.call (Go.Call.mk (.builtin .len) #[(.tmp 0)] #[9])) 3 [a0] (fun v12_2 w =>
 oM Tryz.prog (.call (Go.Call.mk (.builtin .len) #[(.tmp 0)] #[9])) 3 [a2] (fun v15_3 w =>
 oM Tryz.prog (.binOp .add 3 (.tmp 0) (.tmp 1) 3) 3 [a1, v15_3] (fun v16_4 w =>
 oM Tryz.prog (.call (Go.Call.mk (.builtin .max) #[(.tmp 0), (.tmp 1)] #[3, 3])) 3 [v12_2, v16_4] (fun v17_5 w =>
 oM Tryz.prog (.makeSlice 96 (.tmp 0) (.tmp 1)) 96 [v17_5, v17_5] (fun v18_6 w =>
 oM Tryz.prog (.call (Go.Call.mk (.builtin .copy) #[(.tmp 0), (.tmp 1)] #[96, 9])) 3 [v18_6, a0] (fun v21_7 w =>
 oM Tryz.prog (.slice 96 (.tmp 0) (some (.tmp 1)) none none) 96 [v18_6, a1] (fun v24_8 w =>
 oM Tryz.prog (.call (Go.Call.mk (.builtin .copy) #[(.tmp 0), (.tmp 1)] #[96, 9])) 3 [v24_8, a2] (fun v26_9 w =>
 oM Tryz.prog (.convert 96 9 (.tmp 0)) 9 [v18_6] (fun v28_10 w =>
 K v28_10 w) w) w) w) w) w) w) w) w) w)) w
theorem sh_44_eq (a0 : Value) (a1 : Value) (a2 : Value) (K : Value → World → Prop) (w : World) : sh_44 a0 a1 a2 K w = code Tryz.prog (fun _ => 0) 29 (Tryz.f44.body.getD .skip) (slotsAt [a0, a1, a2]) (retK Tryz.prog [.tmp 6] K) w := by kernel_rfl
theorem sh_44_ok {a0 a1 a2 : Value} {K : Value → World → Prop} {w : World} (h : sh_44 a0 a1 a2 K w) : callM Tryz.prog 44 #[a0, a1, a2] K w :=
  calls_of_code (fun _ => 0) (fn := Tryz.f44) (rs := [.tmp 6]) Tryz.func44 rfl rfl (by kernel_rfl) (Nat.le_of_ble_eq_true rfl) ((sh_44_eq a0 a1 a2 K w).mp h)
def sh_51 (a0 : Value) (a1 : Value) (a2 : Value) (K : Value → World → Prop) (w : World) : Prop :=
 oM Tryz.prog (.box 3 (.tmp 0)) 0 [a1] (fun v4_1 w =>
 stageM w (fun C_2 w => (pureH a0 (upto C_2 1) (fun v6_3 =>
 oH Tryz.prog (.nilCheck (.tmp 0)) 0 [v6_3] (upto C_2 1) (fun v7_4 =>
 oH Tryz.prog (.fieldAddr 60 (.tmp 0) 0) 0 [v7_4] (upto C_2 1) (fun v8_5 =>
 oH Tryz.prog (.load 56 (.tmp 0)) 56 [v8_5] (upto C_2 1) (fun v9_6 =>
 oH Tryz.prog (.load 3 (.tmp 0)) 3 [v4_1] (upto C_2 1) (fun v10_7 =>
 pureH a2 (upto C_2 0) (fun v11_8 =>
 pureH a2 (upto C_2 0) (fun v12_9 =>
 oM Tryz.prog (.build 78 #[(0, (.tmp 0)), (1, (.tmp 1))]) 78 [v11_8, v12_9] (fun v13_10 w => C_2 1 w ∧ (
 oM Tryz.prog (.mapUpdate 56 (.tmp 0) (.tmp 1) (.tmp 2)) 0 [v9_6, v10_7, v13_10] (fun _ w => C_2 2 w ∧ (
 oM Tryz.prog (.nilCheck (.tmp 0)) 0 [a0] (fun v16_11 w =>
 oM Tryz.prog (.fieldAddr 60 (.tmp 0) 1) 0 [v16_11] (fun v17_12 w =>
 oM Tryz.prog (.load 58 (.tmp 0)) 58 [v17_12] (fun v18_13 w =>
 oM Tryz.prog (.makeFunc (Go.Fn.func 70) #[] #[(.tmp 0)]) 99 [v4_1] (fun v19_14 w =>
 callM Tryz.prog 69 #[v18_13, v19_14] (fun v20_15 w =>
 oM Tryz.prog (.nilCheck (.tmp 0)) 0 [a0] (fun v21_16 w =>
 oM Tryz.prog (.fieldAddr 60 (.tmp 0) 1) 0 [v21_16] (fun v22_17 w =>
 oM Tryz.prog (.store 58 (.tmp 0) (.tmp 1)) 0 [v22_17, v20_15] (fun _ w =>
 oM Tryz.prog (.nilCheck (.tmp 0)) 0 [a0] (fun v24_18 w =>
 oM Tryz.prog (.fieldAddr 60 (.tmp 0) 2) 0 [v24_18] (fun v25_19 w =>
 oM Tryz.prog (.load 57 (.tmp 0)) 57 [v25_19] (fun v26_20 w =>
 oM Tryz.prog (.makeFunc (Go.Fn.func 72) #[] #[(.tmp 0)]) 101 [v4_1] (fun v27_21 w =>
 callM Tryz.prog 71 #[v26_20, v27_21] (fun v28_22 w =>
 K (.tuple #[]) w) w) w) w) w) w) w) w) w) w) w) w) w) w)) w)) w)))))))))) w
theorem sh_51_eq (a0 : Value) (a1 : Value) (a2 : Value) (K : Value → World → Prop) (w : World) : sh_51 a0 a1 a2 K w = code Tryz.prog (fun _ => 3) 29 (Tryz.f51.body.getD .skip) (slotsAt [a0, a1, a2]) (retK Tryz.prog [] K) w := by kernel_rfl
theorem sh_51_ok {a0 a1 a2 : Value} {K : Value → World → Prop} {w : World} (h : sh_51 a0 a1 a2 K w) : callM Tryz.prog 51 #[a0, a1, a2] K w :=
  calls_of_code (fun _ => 3) (fn := Tryz.f51) (rs := []) Tryz.func51 rfl rfl (by kernel_rfl) (Nat.le_of_ble_eq_true rfl) ((sh_51_eq a0 a1 a2 K w).mp h)
def sh_69 (a0 : Value) (a1 : Value) (K : Value → World → Prop) (w : World) : Prop :=
 callM Tryz.prog 84 #[a0, a1] (fun v10_1 w =>
 oM Tryz.prog (.binOp .eql 3 (.tmp 0) (.const (.int .i64 (-1))) 3) 4 [v10_1] (fun v12_2 w =>
 condM v12_2
 (K a0 w)
 (oM Tryz.prog (.binOp .add 3 (.tmp 0) (.tmp 1) 3) 3 [v10_1, (.int .i64 1)] (fun v15_3 w =>
 loopM [v10_1, v15_3] w (fun J_4 m_5 l_6 u_l_6 w0_l_6 => (fun w => (
 oM Tryz.prog (.call (Go.Call.mk (.builtin .len) #[(.tmp 0)] #[58])) 3 [a0] (fun v18_7 w =>
 oM Tryz.prog (.binOp .lss 3 (.tmp 0) (.tmp 1) 3) 4 [(l_6.getD 1 undef), v18_7] (fun v19_8 w =>
 condM v19_8
 (joinM (fun M_9 => (oM Tryz.prog (.indexAddr 58 (.tmp 0) (.tmp 1)) 0 [a0, (l_6.getD 1 undef)] (fun v24_11 w =>
 oM Tryz.prog (.load 76 (.tmp 0)) 76 [v24_11] (fun v25_12 w =>
 oM Tryz.prog (.alloc 76) 0 [] (fun v7_13 w =>
 oM Tryz.prog (.store 76 (.tmp 0) (.tmp 1)) 0 [v7_13, v25_12] (fun _ w =>
 oM Tryz.prog (.load 76 (.tmp 0)) 76 [v7_13] (fun v27_14 w =>
 oM Tryz.prog (.call (Go.Call.mk (.value (.tmp 0)) #[(.tmp 1)] #[76])) 4 [a1, v27_14] (fun v28_15 w =>
 oM Tryz.prog (.unOp .not 4 (.tmp 0)) 4 [v28_15] (fun v29_16 w =>
 condM v29_16
 (oM Tryz.prog (.load 76 (.tmp 0)) 76 [v7_13] (fun v32_17 w =>
 oM Tryz.prog (.indexAddr 58 (.tmp 0) (.tmp 1)) 0 [a0, (l_6.getD 0 undef)] (fun v33_18 w =>
 oM Tryz.prog (.store 76 (.tmp 0) (.tmp 1)) 0 [v33_18, v32_17] (fun _ w =>
 oM Tryz.prog (.binOp .add 3 (.tmp 0) (.tmp 1) 3) 3 [(l_6.getD 0 undef), (.int .i64 1)] (fun v35_19 w =>
 M_9 [v35_19] w) w) w) w) w)
 (M_9 [(l_6.getD 0 undef)] w)) w) w) w) w) w) w) w))
 (fun l_10 u_l_10 w => (oM Tryz.prog (.binOp .add 3 (.tmp 0) (.tmp 1) 3) 3 [(l_6.getD 1 undef), (.int .i64 1)] (fun v21_20 w =>
 J_4 [(l_10.getD 0 undef), v21_20] w ∧ m_5 [(l_10.getD 0 undef), v21_20] w < m_5 l_6 w0_l_6) w)))
 (oM Tryz.prog (.slice 58 (.tmp 0) (some (.tmp 1)) none none) 58 [a0, (l_6.getD 0 undef)] (fun v38_21 w =>
 oM Tryz.prog (.call (Go.Call.mk (.builtin .clear) #[(.tmp 0)] #[58])) 0 [v38_21] (fun _ w =>
 oM Tryz.prog (.slice 58 (.tmp 0) none (some (.tmp 1)) none) 58 [a0, (l_6.getD 0 undef)] (fun v41_22 w =>
 K v41_22 w) w) w) w)) w) w)) w0_l_6)) w)) w) w
theorem sh_69_eq (a0 : Value) (a1 : Value) (K : Value → World → Prop) (w : World) : sh_69 a0 a1 K w = code Tryz.prog (fun _ => 0) 42 (Tryz.f69.body.getD .skip) (slotsAt [a0, a1]) (retK Tryz.prog [.tmp 4] K) w := by kernel_rfl
theorem sh_69_ok {a0 a1 : Value} {K : Value → World → Prop} {w : World} (h : sh_69 a0 a1 K w) : callM Tryz.prog 69 #[a0, a1] K w :=
  calls_of_code (fun _ => 0) (fn := Tryz.f69) (rs := [.tmp 4]) Tryz.func69 rfl rfl (by kernel_rfl) (Nat.le_of_ble_eq_true rfl) ((sh_69_eq a0 a1 K w).mp h)
def sh_70 (a0 : Value) (a1 : Value) (K : Value → World → Prop) (w : World) : Prop :=
 oM Tryz.prog (.box 76 (.tmp 0)) 0 [a0] (fun v2_1 w =>
 oM Tryz.prog (.fieldAddr 76 (.tmp 0) 0) 0 [v2_1] (fun v4_2 w =>
 oM Tryz.prog (.load 3 (.tmp 0)) 3 [v4_2] (fun v5_3 w =>
 oM Tryz.prog (.load 3 (.tmp 0)) 3 [a1] (fun v6_4 w =>
 oM Tryz.prog (.binOp .eql 3 (.tmp 0) (.tmp 1) 3) 4 [v5_3, v6_4] (fun v7_5 w =>
 K v7_5 w) w) w) w) w) w
theorem sh_70_eq (a0 : Value) (a1 : Value) (K : Value → World → Prop) (w : World) : sh_70 a0 a1 K w = code Tryz.prog (fun _ => 0) 8 (Tryz.f70.body.getD .skip) (slotsAt [a0, a1]) (retK Tryz.prog [.tmp 3] K) w := by kernel_rfl
theorem sh_70_ok {a0 a1 : Value} {K : Value → World → Prop} {w : World} (h : sh_70 a0 a1 K w) : callM Tryz.prog 70 #[a0, a1] K w :=
  calls_of_code (fun _ => 0) (fn := Tryz.f70) (rs := [.tmp 3]) Tryz.func70 rfl rfl (by kernel_rfl) (Nat.le_of_ble_eq_true rfl) ((sh_70_eq a0 a1 K w).mp h)
def sh_71 (a0 : Value) (a1 : Value) (K : Value → World → Prop) (w : World) : Prop :=
 oM Tryz.prog (.range 57 (.tmp 0)) 0 [a0] (fun v7_1 w =>
 loopM [undef] w (fun J_2 m_3 l_4 u_l_4 w0_l_4 => (fun w => (
 oM Tryz.prog (.next (.tmp 0) false) 0 [v7_1] (fun v8_5 w =>
 oM Tryz.prog (.extract (.tmp 0) 0) 4 [v8_5] (fun v9_6 w =>
 condM v9_6
 (oM Tryz.prog (.entry (.tmp 0)) 0 [v7_1] (fun v10_7 w =>
 oM Tryz.prog (.extract (.tmp 0) 0) 76 [v10_7] (fun v11_8 w =>
 oM Tryz.prog (.extract (.tmp 0) 1) 4 [v10_7] (fun v12_9 w =>
 oM Tryz.prog (.alloc 76) 0 [] (fun v4_10 w =>
 oM Tryz.prog (.store 76 (.tmp 0) (.tmp 1)) 0 [v4_10, v11_8] (fun _ w =>
 oM Tryz.prog (.load 76 (.tmp 0)) 76 [v4_10] (fun v14_11 w =>
 oM Tryz.prog (.call (Go.Call.mk (.value (.tmp 0)) #[(.tmp 1), (.tmp 2)] #[76, 4])) 4 [a1, v14_11, v12_9] (fun v16_12 w =>
 condM v16_12
 (oM Tryz.prog (.load 76 (.tmp 0)) 76 [v4_10] (fun v18_13 w =>
 oM Tryz.prog (.call (Go.Call.mk (.builtin .delete) #[(.tmp 0), (.tmp 1)] #[57, 76])) 0 [a0, v18_13] (fun _ w =>
 J_2 [v12_9] w ∧ m_3 [v12_9] w < m_3 l_4 w0_l_4) w) w)
 (J_2 [v12_9] w ∧ m_3 [v12_9] w < m_3 l_4 w0_l_4)) w) w) w) w) w) w) w)
 (K (.tuple #[]) w)) w) w)) w0_l_4)) w
theorem sh_71_eq (a0 : Value) (a1 : Value) (K : Value → World → Prop) (w : World) : sh_71 a0 a1 K w = code Tryz.prog (fun _ => 0) 19 (Tryz.f71.body.getD .skip) (slotsAt [a0, a1]) (retK Tryz.prog [] K) w := by kernel_rfl
theorem sh_71_ok {a0 a1 : Value} {K : Value → World → Prop} {w : World} (h : sh_71 a0 a1 K w) : callM Tryz.prog 71 #[a0, a1] K w :=
  calls_of_code (fun _ => 0) (fn := Tryz.f71) (rs := []) Tryz.func71 rfl rfl (by kernel_rfl) (Nat.le_of_ble_eq_true rfl) ((sh_71_eq a0 a1 K w).mp h)
def sh_72 (a0 : Value) (a1 : Value) (a2 : Value) (K : Value → World → Prop) (w : World) : Prop :=
 oM Tryz.prog (.box 76 (.tmp 0)) 0 [a0] (fun v3_1 w =>
 oM Tryz.prog (.fieldAddr 76 (.tmp 0) 0) 0 [v3_1] (fun v6_2 w =>
 oM Tryz.prog (.load 3 (.tmp 0)) 3 [v6_2] (fun v7_3 w =>
 oM Tryz.prog (.load 3 (.tmp 0)) 3 [a2] (fun v8_4 w =>
 oM Tryz.prog (.binOp .eql 3 (.tmp 0) (.tmp 1) 3) 4 [v7_3, v8_4] (fun v9_5 w =>
 K v9_5 w) w) w) w) w) w
theorem sh_72_eq (a0 : Value) (a1 : Value) (a2 : Value) (K : Value → World → Prop) (w : World) : sh_72 a0 a1 a2 K w = code Tryz.prog (fun _ => 0) 10 (Tryz.f72.body.getD .skip) (slotsAt [a0, a1, a2]) (retK Tryz.prog [.tmp 5] K) w := by kernel_rfl
theorem sh_72_ok {a0 a1 a2 : Value} {K : Value → World → Prop} {w : World} (h : sh_72 a0 a1 a2 K w) : callM Tryz.prog 72 #[a0, a1, a2] K w :=
  calls_of_code (fun _ => 0) (fn := Tryz.f72) (rs := [.tmp 5]) Tryz.func72 rfl rfl (by kernel_rfl) (Nat.le_of_ble_eq_true rfl) ((sh_72_eq a0 a1 a2 K w).mp h)
def sh_84 (a0 : Value) (a1 : Value) (K : Value → World → Prop) (w : World) : Prop :=
 oM Tryz.prog (.call (Go.Call.mk (.builtin .len) #[(.tmp 0)] #[58])) 3 [a0] (fun v7_1 w =>
 loopM [undef, (.int .i64 0), (.int .i64 0)] w (fun J_2 m_3 l_4 u_l_4 w0_l_4 => (fun w => (
 oM Tryz.prog (.binOp .lss 3 (.tmp 0) (.tmp 1) 3) 0 [(l_4.getD 2 undef), v7_1] (fun v9_5 w =>
 condM v9_5
 (oM Tryz.prog (.indexAddr 58 (.tmp 0) (.tmp 1)) 0 [a0, (l_4.getD 2 undef)] (fun v14_6 w =>
 oM Tryz.prog (.load 76 (.tmp 0)) 76 [v14_6] (fun v15_7 w =>
 oM Tryz.prog (.call (Go.Call.mk (.value (.tmp 0)) #[(.tmp 1)] #[76])) 4 [a1, v15_7] (fun v16_8 w =>
 condM v16_8
 (K (l_4.getD 2 undef) w)
 (oM Tryz.prog (.binOp .add 3 (.tmp 0) (.tmp 1) 3) 3 [(l_4.getD 2 undef), (.int .i64 1)] (fun v18_9 w =>
 J_2 [(l_4.getD 2 undef), (l_4.getD 1 undef), v18_9] w ∧ m_3 [(l_4.getD 2 undef), (l_4.getD 1 undef), v18_9] w < m_3 l_4 w0_l_4) w)) w) w) w)
 (K (.int .i64 (-1)) w)) w)) w0_l_4)) w
theorem sh_84_eq (a0 : Value) (a1 : Value) (K : Value → World → Prop) (w : World) : sh_84 a0 a1 K w = code Tryz.prog (fun _ => 0) 19 (Tryz.f84.body.getD .skip) (slotsAt [a0, a1]) (retK Tryz.prog [.tmp 4] K) w := by kernel_rfl
theorem sh_84_ok {a0 a1 : Value} {K : Value → World → Prop} {w : World} (h : sh_84 a0 a1 K w) : callM Tryz.prog 84 #[a0, a1] K w :=
  calls_of_code (fun _ => 0) (fn := Tryz.f84) (rs := [.tmp 4]) Tryz.func84 rfl rfl (by kernel_rfl) (Nat.le_of_ble_eq_true rfl) ((sh_84_eq a0 a1 K w).mp h)
end Go.Proofs
set_option linter.unusedVariables false
set_option maxRecDepth 100000
namespace Go.Proofs
open Go.Sh
def sh_4 (K : Value → World → Prop) (w : World) : Prop :=
 callM Tryz.prog 6 #[] (fun v12_1 w =>
 oM Tryz.prog (.binOp .eql 25 (.tmp 0) (.const (.pointer none)) 25) 4 [v12_1] (fun v14_2 w =>
 condM v14_2
 (K (.bool false) w)
 (callM Tryz.prog 8 #[v12_1, (.int .i64 3)] (fun v17_3 w =>
 oM Tryz.prog (.extract (.tmp 0) 0) 29 [v17_3] (fun v18_4 w =>
 oM Tryz.prog (.extract (.tmp 0) 1) 30 [v17_3] (fun v19_5 w =>
 oM Tryz.prog (.binOp .eql 29 (.tmp 0) (.const (.pointer none)) 29) 4 [v18_4] (fun v21_6 w =>
 condM v21_6
 (K (.bool false) w)
 (callM Tryz.prog 12 #[v18_4, (.string ⟨#[97, 98]⟩)] (fun v23_7 w =>
 callM Tryz.prog 12 #[v18_4, (.string ⟨#[]⟩)] (fun v25_8 w =>
 callM Tryz.prog 26 #[v12_1, (.int .i64 3), (.int .i64 0), (.int .i64 99)] (fun v28_9 w =>
 oM Tryz.prog (.extract (.tmp 0) 0) 9 [v28_9] (fun v29_10 w =>
 oM Tryz.prog (.extract (.tmp 0) 1) 30 [v28_9] (fun v30_11 w =>
 callM Tryz.prog 30 #[v12_1, (.int .i64 4), (.int .i64 0), (.string ⟨#[50, 58, 97, 98, 44, 50, 57, 51, 59, 49, 58, 97, 44, 57, 56, 59]⟩)] (fun v32_12 w =>
 callM Tryz.prog 8 #[v12_1, (.int .i64 4)] (fun v35_13 w =>
 oM Tryz.prog (.extract (.tmp 0) 0) 29 [v35_13] (fun v36_14 w =>
 oM Tryz.prog (.extract (.tmp 0) 1) 30 [v35_13] (fun v37_15 w =>
 oM Tryz.prog (.binOp .eql 29 (.tmp 0) (.const (.pointer none)) 29) 4 [v36_14] (fun v39_16 w =>
 condM v39_16
 (K (.bool false) w)
 (callM Tryz.prog 10 #[(.string ⟨#[]⟩)] (fun v40_17 w =>
 oM Tryz.prog (.binOp .eql 3 (.tmp 0) (.const (.int .i64 0)) 3) 4 [v40_17] (fun v41_18 w =>
 gdM (gd v41_18 true) (callM Tryz.prog 10 #[(.string ⟨#[97]⟩)]) (fun v43_19 w =>
 gdM (gd v41_18 true) (oM Tryz.prog (.binOp .eql 3 (.tmp 0) (.const (.int .i64 97)) 3) 4 [v43_19]) (fun v44_20 w =>
 oM Tryz.prog (.pick (.tmp 0) (.tmp 1) (.tmp 2)) 4 [v41_18, v44_20, (.bool false)] (fun v45_21 w =>
 gdM (gd v45_21 true) (callM Tryz.prog 10 #[(.string ⟨#[97, 98]⟩)]) (fun v47_22 w =>
 gdM (gd v45_21 true) (oM Tryz.prog (.binOp .eql 3 (.tmp 0) (.const (.int .i64 293)) 3) 4 [v47_22]) (fun v48_23 w =>
 oM Tryz.prog (.pick (.tmp 0) (.tmp 1) (.tmp 2)) 4 [v45_21, v48_23, (.bool false)] (fun v49_24 w =>
 oM Tryz.prog (.binOp .eql 30 (.tmp 0) (.const (.int .i64 0)) 30) 4 [v19_5] (fun v51_25 w =>
 gdM (gd v51_25 true) (pureM v23_7) (fun v53_26 w =>
 gdM (gd v51_25 true) (oM Tryz.prog (.binOp .eql 30 (.tmp 0) (.const (.int .i64 0)) 30) 4 [v53_26]) (fun v54_27 w =>
 oM Tryz.prog (.pick (.tmp 0) (.tmp 1) (.tmp 2)) 4 [v51_25, v54_27, (.bool false)] (fun v55_28 w =>
 gdM (gd v55_28 true) (pureM v25_8) (fun v57_29 w =>
 gdM (gd v55_28 true) (oM Tryz.prog (.binOp .eql 30 (.tmp 0) (.const (.int .i64 0)) 30) 4 [v57_29]) (fun v58_30 w =>
 oM Tryz.prog (.pick (.tmp 0) (.tmp 1) (.tmp 2)) 4 [v55_28, v58_30, (.bool false)] (fun v59_31 w =>
 gdM (gd v59_31 true) (pureM v29_10) (fun v61_32 w =>
 gdM (gd v59_31 true) (oM Tryz.prog (.binOp .eql 9 (.tmp 0) (.const (.string ⟨#[50, 58, 97, 98, 44, 50, 57, 51, 59, 48, 58, 44, 48, 59]⟩)) 9) 4 [v61_32]) (fun v62_33 w =>
 oM Tryz.prog (.pick (.tmp 0) (.tmp 1) (.tmp 2)) 4 [v59_31, v62_33, (.bool false)] (fun v63_34 w =>
 gdM (gd v63_34 true) (pureM v18_4) (fun v65_35 w =>
 gdM (gd v63_34 true) (callM Tryz.prog 31 #[v65_35]) (fun v66_36 w =>
 gdM (gd v63_34 true) (oM Tryz.prog (.binOp .eql 3 (.tmp 0) (.const (.int .i64 2)) 3) 4 [v66_36]) (fun v67_37 w =>
 oM Tryz.prog (.pick (.tmp 0) (.tmp 1) (.tmp 2)) 4 [v63_34, v67_37, (.bool false)] (fun v68_38 w =>
 gdM (gd v68_38 true) (pureM v18_4) (fun v70_39 w =>
 gdM (gd v68_38 true) (callM Tryz.prog 32 #[v70_39, (.int .i64 0)]) (fun v71_40 w =>
 gdM (gd v68_38 true) (oM Tryz.prog (.binOp .eql 9 (.tmp 0) (.const (.string ⟨#[97, 98]⟩)) 9) 4 [v71_40]) (fun v72_41 w =>
 oM Tryz.prog (.pick (.tmp 0) (.tmp 1) (.tmp 2)) 4 [v68_38, v72_41, (.bool false)] (fun v73_42 w =>
 gdM (gd v49_24 true) (pureM v73_42) (fun v76_43 w =>
 oM Tryz.prog (.pick (.tmp 0) (.tmp 1) (.tmp 2)) 4 [v49_24, v76_43, (.bool false)] (fun v77_44 w =>
 gdM (gd v77_44 true) (pureM v37_15) (fun v79_45 w =>
 gdM (gd v77_44 true) (oM Tryz.prog (.binOp .eql 30 (.tmp 0) (.const (.int .i64 0)) 30) 4 [v79_45]) (fun v80_46 w =>
 oM Tryz.prog (.pick (.tmp 0) (.tmp 1) (.tmp 2)) 4 [v77_44, v80_46, (.bool false)] (fun v81_47 w =>
 gdM (gd v81_47 true) (pureM v36_14) (fun v83_48 w =>
 gdM (gd v81_47 true) (callM Tryz.prog 25 #[v83_48]) (fun v84_49 w =>
 gdM (gd v81_47 true) (oM Tryz.prog (.buildSlice 46 1 #[(0, (.tmp 0))]) 46 [(.string ⟨#[97, 98]⟩)]) (fun v85_50 w =>
 gdM (gd v81_47 true) (callM Tryz.prog 24 #[v84_49, v85_50]) (fun v86_51 w =>
 oM Tryz.prog (.pick (.tmp 0) (.tmp 1) (.tmp 2)) 4 [v81_47, v86_51, (.bool false)] (fun v87_52 w =>
 gdM (gd v87_52 true) (pureM v12_1) (fun v89_53 w =>
 gdM (gd v87_52 true) (callM Tryz.prog 27 #[v89_53, (.int .i64 4)]) (fun v90_54 w =>
 gdM (gd v87_52 true) (oM Tryz.prog (.binOp .eql 3 (.tmp 0) (.const (.int .i64 9)) 3) 4 [v90_54]) (fun v91_55 w =>
 oM Tryz.prog (.pick (.tmp 0) (.tmp 1) (.tmp 2)) 4 [v87_52, v91_55, (.bool false)] (fun v92_56 w =>
 K v92_56 w) w) w) w) w) w) w) w) w) w) w) w) w) w) w) w) w) w) w) w) w) w) w) w) w) w) w) w) w) w) w) w) w) w) w) w) w) w) w) w) w)) w) w) w) w) w) w) w) w) w) w)) w) w) w) w)) w) w
theorem sh_4_eq (K : Value → World → Prop) (w : World) : sh_4 K w = code Tryz.prog (fun _ => 0) 93 (Tryz.f4.body.getD .skip) (slotsAt []) (retK Tryz.prog [.tmp 0] K) w := by kernel_rfl
theorem sh_4_ok {K : Value → World → Prop} {w : World} (h : sh_4 K w) : callM Tryz.prog 4 #[] K w :=
  calls_of_code (fun _ => 0) (fn := Tryz.f4) (rs := [.tmp 0]) Tryz.func4 rfl rfl (by kernel_rfl) (Nat.le_of_ble_eq_true rfl) ((sh_4_eq K w).mp h)
def sh_8 (a0 : Value) (a1 : Value) (K : Value → World → Prop) (w : World) : Prop :=
 oM Tryz.prog (.binOp .lss 3 (.tmp 0) (.tmp 1) 3) 4 [a1, (.int .i64 0)] (fun v13_1 w =>
 gdM (gd v13_1 false) (pureM a1) (fun v15_2 w =>
 gdM (gd v13_1 false) (oM Tryz.prog (.binOp .gtr 3 (.tmp 0) (.tmp 1) 3) 4 [v15_2, (.int .i64 15)]) (fun v16_3 w =>
 oM Tryz.prog (.pick (.tmp 0) (.tmp 1) (.tmp 2)) 4 [v13_1, (.bool true), v16_3] (fun v17_4 w =>
 condM v17_4
 (K (.tuple #[(.pointer none), (.int .i64 1)]) w)
 (callM Tryz.prog 33 #[a0, a1] (fun v20_5 w =>
 oM Tryz.prog (.binOp .neq 30 (.tmp 0) (.const (.int .i64 0)) 30) 4 [v20_5] (fun v22_6 w =>
 condM v22_6
 (K (.tuple #[(.pointer none), v20_5]) w)
 (callM Tryz.prog 27 #[a0, a1] (fun v29_7 w =>
 callM Tryz.prog 26 #[a0, a1, (.int .i64 0), v29_7] (fun v30_8 w =>
 oM Tryz.prog (.extract (.tmp 0) 0) 9 [v30_8] (fun v31_9 w =>
 oM Tryz.prog (.extract (.tmp 0) 1) 30 [v30_8] (fun v32_10 w =>
 oM Tryz.prog (.binOp .neq 30 (.tmp 0) (.const (.int .i64 0)) 30) 4 [v32_10] (fun v34_11 w =>
 condM v34_11
 (K (.tuple #[(.pointer none), v32_10]) w)
 (callM Tryz.prog 34 #[v31_9] (fun v38_12 w =>
 oM Tryz.prog (.extract (.tmp 0) 0) 46 [v38_12] (fun v39_13 w =>
 oM Tryz.prog (.extract (.tmp 0) 1) 3 [v38_12] (fun v40_14 w =>
 joinM (fun M_15 => (oM Tryz.prog (.call (Go.Call.mk (.builtin .len) #[(.tmp 0)] #[9])) 3 [v31_9] (fun v43_17 w =>
 oM Tryz.prog (.binOp .lss 3 (.tmp 0) (.tmp 1) 3) 4 [v40_14, v43_17] (fun v44_18 w =>
 condM v44_18
 (callM Tryz.prog 35 #[a0, a1, v40_14] (fun v48_19 w =>
 oM Tryz.prog (.binOp .neq 30 (.tmp 0) (.const (.int .i64 0)) 30) 4 [v48_19] (fun v50_20 w =>
 condM v50_20
 (K (.tuple #[(.pointer none), v48_19]) w)
 (M_15 [v48_19, (.pointer none), (.int .i64 0)] w)) w) w)
 (M_15 [undef, (.pointer none), (.int .i64 0)] w)) w) w))
 (fun l_16 u_l_16 w => (oM Tryz.prog (.build 70 #[(0, (.tmp 0)), (1, (.tmp 1)), (2, (.tmp 2)), (3, (.tmp 3))]) 70 [a0, a1, v39_13, v40_14] (fun v56_21 w =>
 oM Tryz.prog (.box 70 (.tmp 0)) 29 [v56_21] (fun v57_22 w =>
 K (.tuple #[v57_22, (.int .i64 0)]) w) w) w))) w) w) w)) w) w) w) w) w)) w) w)) w) w) w) w
theorem sh_8_eq (a0 : Value) (a1 : Value) (K : Value → World → Prop) (w : World) : sh_8 a0 a1 K w = code Tryz.prog (fun _ => 0) 58 (Tryz.f8.body.getD .skip) (slotsAt [a0, a1]) (retK Tryz.prog [.tmp 4, .tmp 5] K) w := by kernel_rfl
theorem sh_8_ok {a0 a1 : Value} {K : Value → World → Prop} {w : World} (h : sh_8 a0 a1 K w) : callM Tryz.prog 8 #[a0, a1] K w :=
  calls_of_code (fun _ => 0) (fn := Tryz.f8) (rs := [.tmp 4, .tmp 5]) Tryz.func8 rfl rfl (by kernel_rfl) (Nat.le_of_ble_eq_true rfl) ((sh_8_eq a0 a1 K w).mp h)
def sh_12 (a0 : Value) (a1 : Value) (K : Value → World → Prop) (w : World) : Prop :=
 callM Tryz.prog 40 #[a1] (fun v8_1 w =>
 oM Tryz.prog (.nilCheck (.tmp 0)) 0 [a0] (fun v11_2 w =>
 oM Tryz.prog (.fieldAddr 70 (.tmp 0) 4) 0 [v11_2] (fun v12_3 w =>
 oM Tryz.prog (.load 4 (.tmp 0)) 4 [v12_3] (fun v13_4 w =>
 condM v13_4
 (K (.int .i64 7) w)
 (oM Tryz.prog (.call (Go.Call.mk (.builtin .len) #[(.tmp 0)] #[9])) 3 [a1] (fun v16_5 w =>
 oM Tryz.prog (.binOp .gtr 3 (.tmp 0) (.tmp 1) 3) 4 [v16_5, (.int .i64 20000)] (fun v17_6 w =>
 condM v17_6
 (K (.int .i64 3) w)
 (oM Tryz.prog (.nilCheck (.tmp 0)) 0 [a0] (fun v20_7 w =>
 oM Tryz.prog (.fieldAddr 70 (.tmp 0) 3) 0 [v20_7] (fun v21_8 w =>
 oM Tryz.prog (.load 3 (.tmp 0)) 3 [v21_8] (fun v22_9 w =>
 oM Tryz.prog (.call (Go.Call.mk (.builtin .len) #[(.tmp 0)] #[9])) 3 [v8_1] (fun v24_10 w =>
 oM Tryz.prog (.binOp .add 3 (.tmp 0) (.tmp 1) 3) 3 [v22_9, v24_10] (fun v25_11 w =>
 oM Tryz.prog (.binOp .gtr 3 (.tmp 0) (.tmp 1) 3) 4 [v25_11, (.int .i64 1048576)] (fun v26_12 w =>
 condM v26_12
 (K (.int .i64 6) w)
 (heldM w (fun C_13 w => (((true : Bool) = true) ∧ (pureH a0 C_13 (fun v27_14 =>
 oH Tryz.prog (.nilCheck (.tmp 0)) 0 [v27_14] C_13 (fun v28_15 =>
 oH Tryz.prog (.fieldAddr 70 (.tmp 0) 0) 0 [v28_15] C_13 (fun v29_16 =>
 oH Tryz.prog (.load 25 (.tmp 0)) 25 [v29_16] C_13 (fun v30_17 =>
 pureH a0 C_13 (fun v31_18 =>
 oH Tryz.prog (.nilCheck (.tmp 0)) 0 [v31_18] C_13 (fun v32_19 =>
 oH Tryz.prog (.fieldAddr 70 (.tmp 0) 1) 0 [v32_19] C_13 (fun v33_20 =>
 oH Tryz.prog (.load 3 (.tmp 0)) 3 [v33_20] C_13 (fun v34_21 =>
 pureH a0 C_13 (fun v35_22 =>
 oH Tryz.prog (.nilCheck (.tmp 0)) 0 [v35_22] C_13 (fun v36_23 =>
 oH Tryz.prog (.fieldAddr 70 (.tmp 0) 3) 0 [v36_23] C_13 (fun v37_24 =>
 oH Tryz.prog (.load 3 (.tmp 0)) 3 [v37_24] C_13 (fun v38_25 =>
 pureH v8_1 C_13 (fun v39_26 =>
 ∃ S_27 : World → World → Prop, ∀ w, C_13 w → (
 callM Tryz.prog 30 #[v30_17, v34_21, v38_25, v39_26] (fun v40_28 w =>
 oM Tryz.prog (.binOp .neq 30 (.tmp 0) (.const (.int .i64 0)) 30) 4 [v40_28] (fun v42_29 w =>
 condM v42_29
 (oM Tryz.prog (.nilCheck (.tmp 0)) 0 [a0] (fun v44_30 w =>
 oM Tryz.prog (.fieldAddr 70 (.tmp 0) 4) 0 [v44_30] (fun v45_31 w =>
 oM Tryz.prog (.store 4 (.tmp 0) (.tmp 1)) 0 [v45_31, (.bool true)] (fun _ w =>
 K v40_28 w) w) w) w)
 (stageM w (fun C_32 w => (pureH a0 (upto C_32 2) (fun v47_33 =>
 pureH a0 (upto C_32 5) (fun v48_34 =>
 pureH a0 (upto C_32 1) (fun v49_35 =>
 oH Tryz.prog (.nilCheck (.tmp 0)) 0 [v49_35] (upto C_32 1) (fun v50_36 =>
 oH Tryz.prog (.fieldAddr 70 (.tmp 0) 2) 0 [v50_36] (upto C_32 1) (fun v51_37 =>
 oH Tryz.prog (.load 46 (.tmp 0)) 46 [v51_37] (upto C_32 1) (fun v52_38 =>
 pureH a1 (upto C_32 0) (fun v53_39 =>
 pureH a0 (upto C_32 2) (fun v56_40 =>
 oH Tryz.prog (.nilCheck (.tmp 0)) 0 [v56_40] (upto C_32 2) (fun v57_41 =>
 oH Tryz.prog (.fieldAddr 70 (.tmp 0) 3) 0 [v57_41] (upto C_32 2) (fun v58_42 =>
 oH Tryz.prog (.load 3 (.tmp 0)) 3 [v58_42] (upto C_32 2) (fun v59_43 =>
 pureH v8_1 (upto C_32 5) (fun v60_44 =>
 oH Tryz.prog (.call (Go.Call.mk (.builtin .len) #[(.tmp 0)] #[9])) 3 [v60_44] (upto C_32 5) (fun v61_45 =>
 oH Tryz.prog (.binOp .add 3 (.tmp 0) (.tmp 1) 3) 3 [v59_43, v61_45] (upto C_32 5) (fun v62_46 =>
 oM Tryz.prog (.buildSlice 46 1 #[(0, (.tmp 0))]) 46 [v53_39] (fun v54_47 w => C_32 1 w ∧ (
 oM Tryz.prog (.call (Go.Call.mk (.builtin .append) #[(.tmp 0), (.tmp 1)] #[46, 46])) 46 [v52_38, v54_47] (fun v55_48 w => C_32 2 w ∧ (
 oM Tryz.prog (.nilCheck (.tmp 0)) 0 [v47_33] (fun v63_49 w => C_32 3 w ∧ (
 oM Tryz.prog (.fieldAddr 70 (.tmp 0) 2) 0 [v63_49] (fun v64_50 w => C_32 4 w ∧ (
 oM Tryz.prog (.store 46 (.tmp 0) (.tmp 1)) 0 [v64_50, v55_48] (fun _ w => C_32 5 w ∧ (
 oM Tryz.prog (.nilCheck (.tmp 0)) 0 [v48_34] (fun v65_51 w => C_32 6 w ∧ (
 oM Tryz.prog (.fieldAddr 70 (.tmp 0) 3) 0 [v65_51] (fun v66_52 w => C_32 7 w ∧ (
 oM Tryz.prog (.store 3 (.tmp 0) (.tmp 1)) 0 [v66_52, v62_46] (fun _ w => C_32 8 w ∧ (
 K (.int .i64 0) w)) w)) w)) w)) w)) w)) w)) w)) w)))))))))))))))))) w) w))))))))))))))))))) w) w) w) w) w) w)) w) w)) w) w) w) w
theorem sh_12_eq (a0 : Value) (a1 : Value) (K : Value → World → Prop) (w : World) : sh_12 a0 a1 K w = code Tryz.prog (fun i => bif Nat.beq i 8 then .free [0, 1, 2, 3, 4, 5, 6, 7, 8, 9, 10, 11, 12] [] [13, 14] else bif Nat.beq i 12 then 3 else 0) 67 (Tryz.f12.body.getD .skip) (slotsAt [a0, a1]) (retK Tryz.prog [.tmp 4] K) w := by kernel_rfl
theorem sh_12_ok {a0 a1 : Value} {K : Value → World → Prop} {w : World} (h : sh_12 a0 a1 K w) : callM Tryz.prog 12 #[a0, a1] K w :=
  calls_of_code (fun i => bif Nat.beq i 8 then .free [0, 1, 2, 3, 4, 5, 6, 7, 8, 9, 10, 11, 12] [] [13, 14] else bif Nat.beq i 12 then 3 else 0) (fn := Tryz.f12) (rs := [.tmp 4]) Tryz.func12 rfl rfl (by kernel_rfl) (Nat.le_of_ble_eq_true rfl) ((sh_12_eq a0 a1 K w).mp h)
def sh_25 (a0 : Value) (K : Value → World → Prop) (w : World) : Prop :=
 oM Tryz.prog (.nilCheck (.tmp 0)) 0 [a0] (fun v5_1 w =>
 oM Tryz.prog (.fieldAddr 70 (.tmp 0) 2) 0 [v5_1] (fun v6_2 w =>
 oM Tryz.prog (.load 46 (.tmp 0)) 46 [v6_2] (fun v7_3 w =>
 oM Tryz.prog (.call (Go.Call.mk (.builtin .len) #[(.tmp 0)] #[46])) 3 [v7_3] (fun v8_4 w =>
 oM Tryz.prog (.makeSlice 46 (.tmp 0) (.tmp 1)) 46 [v8_4, v8_4] (fun v9_5 w =>
 oM Tryz.prog (.nilCheck (.tmp 0)) 0 [a0] (fun v12_6 w =>
 oM Tryz.prog (.fieldAddr 70 (.tmp 0) 2) 0 [v12_6] (fun v13_7 w =>
 oM Tryz.prog (.load 46 (.tmp 0)) 46 [v13_7] (fun v14_8 w =>
 oM Tryz.prog (.call (Go.Call.mk (.builtin .copy) #[(.tmp 0), (.tmp 1)] #[46, 46])) 3 [v9_5, v14_8] (fun v15_9 w =>
 K v9_5 w) w) w) w) w) w) w) w) w) w
theorem sh_25_eq (a0 : Value) (K : Value → World → Prop) (w : World) : sh_25 a0 K w = code Tryz.prog (fun _ => 0) 17 (Tryz.f25.body.getD .skip) (slotsAt [a0]) (retK Tryz.prog [.tmp 2] K) w := by kernel_rfl
theorem sh_25_ok {a0 : Value} {K : Value → World → Prop} {w : World} (h : sh_25 a0 K w) : callM Tryz.prog 25 #[a0] K w :=
  calls_of_code (fun _ => 0) (fn := Tryz.f25) (rs := [.tmp 2]) Tryz.func25 rfl rfl (by kernel_rfl) (Nat.le_of_ble_eq_true rfl) ((sh_25_eq a0 K w).mp h)
def sh_31 (a0 : Value) (K : Value → World → Prop) (w : World) : Prop :=
 oM Tryz.prog (.nilCheck (.tmp 0)) 0 [a0] (fun v4_1 w =>
 oM Tryz.prog (.fieldAddr 70 (.tmp 0) 2) 0 [v4_1] (fun v5_2 w =>
 oM Tryz.prog (.load 46 (.tmp 0)) 46 [v5_2] (fun v6_3 w =>
 oM Tryz.prog (.call (Go.Call.mk (.builtin .len) #[(.tmp 0)] #[46])) 3 [v6_3] (fun v7_4 w =>
 K v7_4 w) w) w) w) w
theorem sh_31_eq (a0 : Value) (K : Value → World → Prop) (w : World) : sh_31 a0 K w = code Tryz.prog (fun _ => 0) 8 (Tryz.f31.body.getD .skip) (slotsAt [a0]) (retK Tryz.prog [.tmp 2] K) w := by kernel_rfl
theorem sh_31_ok {a0 : Value} {K : Value → World → Prop} {w : World} (h : sh_31 a0 K w) : callM Tryz.prog 31 #[a0] K w :=
  calls_of_code (fun _ => 0) (fn := Tryz.f31) (rs := [.tmp 2]) Tryz.func31 rfl rfl (by kernel_rfl) (Nat.le_of_ble_eq_true rfl) ((sh_31_eq a0 K w).mp h)
def sh_32 (a0 : Value) (a1 : Value) (K : Value → World → Prop) (w : World) : Prop :=
 oM Tryz.prog (.binOp .lss 3 (.tmp 0) (.tmp 1) 3) 4 [a1, (.int .i64 0)] (fun v6_1 w =>
 gdM (gd v6_1 false) (pureM a1) (fun v8_2 w =>
 gdM (gd v6_1 false) (pureM a0) (fun v9_3 w =>
 gdM (gd v6_1 false) (oM Tryz.prog (.nilCheck (.tmp 0)) 0 [v9_3]) (fun v10_4 w =>
 gdM (gd v6_1 false) (oM Tryz.prog (.fieldAddr 70 (.tmp 0) 2) 0 [v10_4]) (fun v11_5 w =>
 gdM (gd v6_1 false) (oM Tryz.prog (.load 46 (.tmp 0)) 46 [v11_5]) (fun v12_6 w =>
 gdM (gd v6_1 false) (oM Tryz.prog (.call (Go.Call.mk (.builtin .len) #[(.tmp 0)] #[46])) 3 [v12_6]) (fun v13_7 w =>
 gdM (gd v6_1 false) (oM Tryz.prog (.binOp .geq 3 (.tmp 0) (.tmp 1) 3) 4 [v8_2, v13_7]) (fun v14_8 w =>
 oM Tryz.prog (.pick (.tmp 0) (.tmp 1) (.tmp 2)) 4 [v6_1, (.bool true), v14_8] (fun v15_9 w =>
 condM v15_9
 (K (.string ⟨#[]⟩) w)
 (oM Tryz.prog (.nilCheck (.tmp 0)) 0 [a0] (fun v17_10 w =>
 oM Tryz.prog (.fieldAddr 70 (.tmp 0) 2) 0 [v17_10] (fun v18_11 w =>
 oM Tryz.prog (.load 46 (.tmp 0)) 46 [v18_11] (fun v19_12 w =>
 oM Tryz.prog (.indexAddr 46 (.tmp 0) (.tmp 1)) 0 [v19_12, a1] (fun v21_13 w =>
 oM Tryz.prog (.load 9 (.tmp 0)) 9 [v21_13] (fun v22_14 w =>
 K v22_14 w) w) w) w) w) w)) w) w) w) w) w) w) w) w) w
theorem sh_32_eq (a0 : Value) (a1 : Value) (K : Value → World → Prop) (w : World) : sh_32 a0 a1 K w = code Tryz.prog (fun _ => 0) 23 (Tryz.f32.body.getD .skip) (slotsAt [a0, a1]) (retK Tryz.prog [.tmp 4] K) w := by kernel_rfl
theorem sh_32_ok {a0 a1 : Value} {K : Value → World → Prop} {w : World} (h : sh_32 a0 a1 K w) : callM Tryz.prog 32 #[a0, a1] K w :=
  calls_of_code (fun _ => 0) (fn := Tryz.f32) (rs := [.tmp 4]) Tryz.func32 rfl rfl (by kernel_rfl) (Nat.le_of_ble_eq_true rfl) ((sh_32_eq a0 a1 K w).mp h)
def sh_5 (a0 : Value) (K : Value → World → Prop) (w : World) : Prop :=
 loopM [(.bool false), (.int .i64 0)] w (fun J_1 m_2 l_3 u_l_3 w0_l_3 => (fun w => (
 oM Tryz.prog (.call (Go.Call.mk (.builtin .len) #[(.tmp 0)] #[22])) 3 [a0] (fun v6_4 w =>
 oM Tryz.prog (.binOp .lss 3 (.tmp 0) (.tmp 1) 3) 4 [(l_3.getD 1 undef), v6_4] (fun v7_5 w =>
 condM v7_5
 (oM Tryz.prog (.indexAddr 22 (.tmp 0) (.tmp 1)) 0 [a0, (l_3.getD 1 undef)] (fun v12_6 w =>
 oM Tryz.prog (.fieldAddr 38 (.tmp 0) 1) 0 [v12_6] (fun v13_7 w =>
 oM Tryz.prog (.load 9 (.tmp 0)) 9 [v13_7] (fun v14_8 w =>
 oM Tryz.prog (.call (Go.Call.mk (.builtin .len) #[(.tmp 0)] #[9])) 3 [v14_8] (fun v15_9 w =>
 oM Tryz.prog (.binOp .gtr 3 (.tmp 0) (.tmp 1) 3) 4 [v15_9, (.int .i64 200)] (fun v16_10 w =>
 gdM (gd v16_10 false) (pureM a0) (fun v18_11 w =>
 gdM (gd v16_10 false) (pureM (l_3.getD 1 undef)) (fun v19_12 w =>
 gdM (gd v16_10 false) (oM Tryz.prog (.indexAddr 22 (.tmp 0) (.tmp 1)) 0 [v18_11, v19_12]) (fun v20_13 w =>
 gdM (gd v16_10 false) (oM Tryz.prog (.fieldAddr 38 (.tmp 0) 3) 0 [v20_13]) (fun v21_14 w =>
 gdM (gd v16_10 false) (oM Tryz.prog (.load 36 (.tmp 0)) 36 [v21_14]) (fun v22_15 w =>
 gdM (gd v16_10 false) (oM Tryz.prog (.call (Go.Call.mk (.builtin .len) #[(.tmp 0)] #[36])) 3 [v22_15]) (fun v23_16 w =>
 gdM (gd v16_10 false) (oM Tryz.prog (.binOp .gtr 3 (.tmp 0) (.tmp 1) 3) 4 [v23_16, (.int .i64 50)]) (fun v24_17 w =>
 oM Tryz.prog (.pick (.tmp 0) (.tmp 1) (.tmp 2)) 4 [v16_10, (.bool true), v24_17] (fun v25_18 w =>
 condM v25_18
 (K (.bool false) w)
 (oM Tryz.prog (.binOp .add 3 (.tmp 0) (.tmp 1) 3) 3 [(l_3.getD 1 undef), (.int .i64 1)] (fun v9_19 w =>
 J_1 [(l_3.getD 0 undef), v9_19] w ∧ m_2 [(l_3.getD 0 undef), v9_19] w < m_2 l_3 w0_l_3) w)) w) w) w) w) w) w) w) w) w) w) w) w) w)
 (oM Tryz.prog (.call (Go.Call.mk (.builtin .len) #[(.tmp 0)] #[22])) 3 [a0] (fun v27_20 w =>
 oM Tryz.prog (.binOp .leq 3 (.tmp 0) (.tmp 1) 3) 4 [v27_20, (.int .i64 25)] (fun v28_21 w =>
 K v28_21 w) w) w)) w) w)) w0_l_3)
theorem sh_5_eq (a0 : Value) (K : Value → World → Prop) (w : World) : sh_5 a0 K w = code Tryz.prog (fun _ => 0) 29 (Tryz.f5.body.getD .skip) (slotsAt [a0]) (retK Tryz.prog [.tmp 2] K) w := by kernel_rfl
theorem sh_5_ok {a0 : Value} {K : Value → World → Prop} {w : World} (h : sh_5 a0 K w) : callM Tryz.prog 5 #[a0] K w :=
  calls_of_code (fun _ => 0) (fn := Tryz.f5) (rs := [.tmp 2]) Tryz.func5 rfl rfl (by kernel_rfl) (Nat.le_of_ble_eq_true rfl) ((sh_5_eq a0 K w).mp h)
def sh_14 (a0 : Value) (K : Value → World → Prop) (w : World) : Prop :=
 oM Tryz.prog (.nilCheck (.tmp 0)) 0 [a0] (fun v5_1 w =>
 oM Tryz.prog (.fieldAddr 70 (.tmp 0) 4) 0 [v5_1] (fun v6_2 w =>
 oM Tryz.prog (.load 4 (.tmp 0)) 4 [v6_2] (fun v7_3 w =>
 condM v7_3
 (K (.int .i64 7) w)
 (heldM w (fun C_4 w => (((true : Bool) = true) ∧ (pureH a0 C_4 (fun v8_5 =>
 oH Tryz.prog (.nilCheck (.tmp 0)) 0 [v8_5] C_4 (fun v9_6 =>
 oH Tryz.prog (.fieldAddr 70 (.tmp 0) 0) 0 [v9_6] C_4 (fun v10_7 =>
 oH Tryz.prog (.load 25 (.tmp 0)) 25 [v10_7] C_4 (fun v11_8 =>
 pureH a0 C_4 (fun v12_9 =>
 oH Tryz.prog (.nilCheck (.tmp 0)) 0 [v12_9] C_4 (fun v13_10 =>
 oH Tryz.prog (.fieldAddr 70 (.tmp 0) 1) 0 [v13_10] C_4 (fun v14_11 =>
 oH Tryz.prog (.load 3 (.tmp 0)) 3 [v14_11] C_4 (fun v15_12 =>
 ∃ S_13 : World → World → Prop, ∀ w, C_4 w → (
 callM Tryz.prog 33 #[v11_8, v15_12] (fun v16_14 w =>
 oM Tryz.prog (.binOp .neq 30 (.tmp 0) (.const (.int .i64 0)) 30) 4 [v16_14] (fun v19_15 w =>
 oM Tryz.prog (.nilCheck (.tmp 0)) 0 [a0] (fun v20_16 w =>
 oM Tryz.prog (.fieldAddr 70 (.tmp 0) 4) 0 [v20_16] (fun v21_17 w =>
 oM Tryz.prog (.store 4 (.tmp 0) (.tmp 1)) 0 [v21_17, v19_15] (fun _ w =>
 K v16_14 w) w) w) w) w) w)))))))))))))) w) w) w
theorem sh_14_eq (a0 : Value) (K : Value → World → Prop) (w : World) : sh_14 a0 K w = code Tryz.prog (fun _ => .free [0, 1, 2, 3, 4, 5, 6, 7] [] [8, 9]) 23 (Tryz.f14.body.getD .skip) (slotsAt [a0]) (retK Tryz.prog [.tmp 2] K) w := by kernel_rfl
theorem sh_14_ok {a0 : Value} {K : Value → World → Prop} {w : World} (h : sh_14 a0 K w) : callM Tryz.prog 14 #[a0] K w :=
  calls_of_code (fun _ => .free [0, 1, 2, 3, 4, 5, 6, 7] [] [8, 9]) (fn := Tryz.f14) (rs := [.tmp 2]) Tryz.func14 rfl rfl (by kernel_rfl) (Nat.le_of_ble_eq_true rfl) ((sh_14_eq a0 K w).mp h)
def sh_10 (a0 : Value) (K : Value → World → Prop) (w : World) : Prop :=
 oM Tryz.prog (.call (Go.Call.mk (.builtin .len) #[(.tmp 0)] #[9])) 3 [a0] (fun v6_1 w =>
 loopM [undef, (.int .i64 0), (.int .i64 0)] w (fun J_2 m_3 l_4 u_l_4 w0_l_4 => (fun w => (
 oM Tryz.prog (.binOp .lss 3 (.tmp 0) (.tmp 1) 3) 4 [(l_4.getD 2 undef), v6_1] (fun v8_5 w =>
 condM v8_5
 (oM Tryz.prog (.index 9 (.tmp 0) (.tmp 1)) 5 [a0, (l_4.getD 2 undef)] (fun v13_6 w =>
 oM Tryz.prog (.convert 5 3 (.tmp 0)) 3 [v13_6] (fun v14_7 w =>
 oM Tryz.prog (.binOp .add 3 (.tmp 0) (.tmp 1) 3) 3 [(l_4.getD 2 undef), (.int .i64 1)] (fun v16_8 w =>
 oM Tryz.prog (.binOp .mul 3 (.tmp 0) (.tmp 1) 3) 3 [v14_7, v16_8] (fun v17_9 w =>
 oM Tryz.prog (.binOp .add 3 (.tmp 0) (.tmp 1) 3) 3 [(l_4.getD 1 undef), v17_9] (fun v18_10 w =>
 oM Tryz.prog (.binOp .add 3 (.tmp 0) (.tmp 1) 3) 3 [(l_4.getD 2 undef), (.int .i64 1)] (fun v19_11 w =>
 J_2 [(l_4.getD 2 undef), v18_10, v19_11] w ∧ m_3 [(l_4.getD 2 undef), v18_10, v19_11] w < m_3 l_4 w0_l_4) w) w) w) w) w) w)
 (K (l_4.getD 1 undef) w)) w)) w0_l_4)) w
theorem sh_10_eq (a0 : Value) (K : Value → World → Prop) (w : World) : sh_10 a0 K w = code Tryz.prog (fun _ => 0) 21 (Tryz.f10.body.getD .skip) (slotsAt [a0]) (retK Tryz.prog [.tmp 2] K) w := by kernel_rfl
theorem sh_10_ok {a0 : Value} {K : Value → World → Prop} {w : World} (h : sh_10 a0 K w) : callM Tryz.prog 10 #[a0] K w :=
  calls_of_code (fun _ => 0) (fn := Tryz.f10) (rs := [.tmp 2]) Tryz.func10 rfl rfl (by kernel_rfl) (Nat.le_of_ble_eq_true rfl) ((sh_10_eq a0 K w).mp h)
def sh_34 (a0 : Value) (K : Value → World → Prop) (w : World) : Prop :=
 joinM (fun M_1 => (loopM [undef, undef, undef, undef, undef, (.slice none 0 0), (.int .i64 0)] w (fun J_3 m_4 l_5 u_l_5 w0_l_5 => (fun w => (
 oM Tryz.prog (.call (Go.Call.mk (.builtin .len) #[(.tmp 0)] #[9])) 3 [a0] (fun v12_6 w =>
 oM Tryz.prog (.binOp .lss 3 (.tmp 0) (.tmp 1) 3) 4 [(l_5.getD 6 undef), v12_6] (fun v13_7 w =>
 condM v13_7
 (oM Tryz.prog (.slice 9 (.tmp 0) (some (.tmp 1)) none none) 9 [a0, (l_5.getD 6 undef)] (fun v16_8 w =>
 callM Tryz.prog 52 #[v16_8] (fun v17_9 w =>
 callM Tryz.prog 53 #[v17_9] (fun v19_10 w =>
 callM Tryz.prog 54 #[v17_9] (fun v21_11 w =>
 callM Tryz.prog 40 #[v19_10] (fun v23_12 w =>
 joinM (fun M_13 => (oM Tryz.prog (.call (Go.Call.mk (.builtin .len) #[(.tmp 0)] #[9])) 3 [v19_10] (fun v26_15 w =>
 oM Tryz.prog (.binOp .gtr 3 (.tmp 0) (.tmp 1) 3) 4 [v26_15, (.int .i64 20000)] (fun v27_16 w =>
 condM v27_16
 (M_13 [v27_16] w)
 (callM Tryz.prog 10 #[v19_10] (fun v30_17 w =>
 oM Tryz.prog (.binOp .neq 3 (.tmp 0) (.tmp 1) 3) 4 [v21_11, v30_17] (fun v31_18 w =>
 condM v31_18
 (M_13 [v31_18] w)
 (oM Tryz.prog (.call (Go.Call.mk (.builtin .len) #[(.tmp 0)] #[9])) 3 [a0] (fun v33_19 w =>
 oM Tryz.prog (.binOp .sub 3 (.tmp 0) (.tmp 1) 3) 3 [v33_19, (l_5.getD 6 undef)] (fun v35_20 w =>
 oM Tryz.prog (.call (Go.Call.mk (.builtin .len) #[(.tmp 0)] #[9])) 3 [v23_12] (fun v37_21 w =>
 oM Tryz.prog (.binOp .lss 3 (.tmp 0) (.tmp 1) 3) 4 [v35_20, v37_21] (fun v38_22 w =>
 condM v38_22
 (M_13 [v38_22] w)
 (oM Tryz.prog (.call (Go.Call.mk (.builtin .len) #[(.tmp 0)] #[9])) 3 [v23_12] (fun v43_23 w =>
 oM Tryz.prog (.binOp .add 3 (.tmp 0) (.tmp 1) 3) 3 [(l_5.getD 6 undef), v43_23] (fun v44_24 w =>
 oM Tryz.prog (.slice 9 (.tmp 0) (some (.tmp 1)) (some (.tmp 2)) none) 9 [a0, (l_5.getD 6 undef), v44_24] (fun v45_25 w =>
 oM Tryz.prog (.binOp .neq 9 (.tmp 0) (.tmp 1) 9) 4 [v45_25, v23_12] (fun v47_26 w =>
 M_13 [v47_26] w) w) w) w) w)) w) w) w) w)) w) w)) w) w))
 (fun l_14 u_l_14 w => (condM (l_14.getD 0 undef)
 (M_1 [v17_9, v19_10, v21_11, v23_12, (l_14.getD 0 undef), (l_5.getD 5 undef), (l_5.getD 6 undef)] w)
 (oM Tryz.prog (.buildSlice 46 1 #[(0, (.tmp 0))]) 46 [v19_10] (fun v50_27 w =>
 oM Tryz.prog (.call (Go.Call.mk (.builtin .append) #[(.tmp 0), (.tmp 1)] #[46, 46])) 46 [(l_5.getD 5 undef), v50_27] (fun v51_28 w =>
 oM Tryz.prog (.call (Go.Call.mk (.builtin .len) #[(.tmp 0)] #[9])) 3 [v23_12] (fun v54_29 w =>
 oM Tryz.prog (.binOp .add 3 (.tmp 0) (.tmp 1) 3) 3 [(l_5.getD 6 undef), v54_29] (fun v55_30 w =>
 J_3 [v17_9, v19_10, v21_11, v23_12, (l_14.getD 0 undef), v51_28, v55_30] w ∧ m_4 [v17_9, v19_10, v21_11, v23_12, (l_14.getD 0 undef), v51_28, v55_30] w < m_4 l_5 w0_l_5) w) w) w) w)))) w) w) w) w) w)
 (M_1 [(l_5.getD 0 undef), (l_5.getD 1 undef), (l_5.getD 2 undef), (l_5.getD 3 undef), (l_5.getD 4 undef), (l_5.getD 5 undef), (l_5.getD 6 undef)] w)) w) w)) w0_l_5)))
 (fun l_2 u_l_2 w => (K (.tuple #[(l_2.getD 5 undef), (l_2.getD 6 undef)]) w))
theorem sh_34_eq (a0 : Value) (K : Value → World → Prop) (w : World) : sh_34 a0 K w = code Tryz.prog (fun _ => 0) 58 (Tryz.f34.body.getD .skip) (slotsAt [a0]) (retK Tryz.prog [.tmp 2, .tmp 3] K) w := by kernel_rfl
theorem sh_34_ok {a0 : Value} {K : Value → World → Prop} {w : World} (h : sh_34 a0 K w) : callM Tryz.prog 34 #[a0] K w :=
  calls_of_code (fun _ => 0) (fn := Tryz.f34) (rs := [.tmp 2, .tmp 3]) Tryz.func34 rfl rfl (by kernel_rfl) (Nat.le_of_ble_eq_true rfl) ((sh_34_eq a0 K w).mp h)
def sh_40 (a0 : Value) (K : Value → World → Prop) (w : World) : Prop :=
 callM Tryz.prog 61 #[a0] (fun v4_1 w =>
 callM Tryz.prog 10 #[a0] (fun v6_2 w =>
 callM Tryz.prog 62 #[v6_2] (fun v7_3 w =>
 oM Tryz.prog (.binOp .add 9 (.tmp 0) (.tmp 1) 9) 9 [v4_1, v7_3] (fun v8_4 w =>
 K v8_4 w) w) w) w) w
theorem sh_40_eq (a0 : Value) (K : Value → World → Prop) (w : World) : sh_40 a0 K w = code Tryz.prog (fun _ => 0) 9 (Tryz.f40.body.getD .skip) (slotsAt [a0]) (retK Tryz.prog [.tmp 2] K) w := by kernel_rfl
theorem sh_40_ok {a0 : Value} {K : Value → World → Prop} {w : World} (h : sh_40 a0 K w) : callM Tryz.prog 40 #[a0] K w :=
  calls_of_code (fun _ => 0) (fn := Tryz.f40) (rs := [.tmp 2]) Tryz.func40 rfl rfl (by kernel_rfl) (Nat.le_of_ble_eq_true rfl) ((sh_40_eq a0 K w).mp h)
end Go.Proofs
set_option linter.unusedVariables false
set_option maxRecDepth 100000
namespace Go.Proofs
open Go.Sh
def rf_7 (K : Value → World → Prop) (w : World) : Prop :=
 oM Tryz.prog (.build 64 #[]) 64 [] (fun v1_1 w =>
 oM Tryz.prog (.box 64 (.tmp 0)) 27 [v1_1] (fun v2_2 w =>
 K v2_2 w) w) w
theorem rf_7_eq (K : Value → World → Prop) (w : World) : rf_7 K w = code Tryz.prog (fun _ => 0) 3 (Tryz.f7.body.getD .skip) (slotsAt []) (retK Tryz.prog [.tmp 0] K) w := by kernel_rfl
theorem rf_7_ok {K : Value → World → Prop} {w : World} (h : rf_7 K w) : callM Tryz.prog 7 #[] K w :=
  calls_of_code (fun _ => 0) (fn := Tryz.f7) (rs := [.tmp 0]) Tryz.func7 rfl rfl (by kernel_rfl) (Nat.le_of_ble_eq_true rfl) ((rf_7_eq K w).mp h)
def rf_29 (a0 : Value) (a1 : Value) (K : Value → World → Prop) (w : World) : Prop :=
 callM Tryz.prog 48 #[a0, a1] (fun v7_1 w =>
 oM Tryz.prog (.field 84 (.tmp 0) 1) 9 [v7_1] (fun v8_2 w =>
 oM Tryz.prog (.call (Go.Call.mk (.builtin .len) #[(.tmp 0)] #[9])) 3 [v8_2] (fun v9_3 w =>
 K v9_3 w) w) w) w
theorem rf_29_eq (a0 : Value) (a1 : Value) (K : Value → World → Prop) (w : World) : rf_29 a0 a1 K w = code Tryz.prog (fun _ => 0) 10 (Tryz.f29.body.getD .skip) (slotsAt [a0, a1]) (retK Tryz.prog [.tmp 4] K) w := by kernel_rfl
theorem rf_29_ok {a0 a1 : Value} {K : Value → World → Prop} {w : World} (h : rf_29 a0 a1 K w) : callM Tryz.prog 29 #[a0, a1] K w :=
  calls_of_code (fun _ => 0) (fn := Tryz.f29) (rs := [.tmp 4]) Tryz.func29 rfl rfl (by kernel_rfl) (Nat.le_of_ble_eq_true rfl) ((rf_29_eq a0 a1 K w).mp h)
def rf_28 (a0 : Value) (a1 : Value) (a2 : Value) (a3 : Value) (K : Value → World → Prop) (w : World) : Prop :=
 callM Tryz.prog 47 #[a0, a1] (fun v14_1 w =>
 oM Tryz.prog (.binOp .neq 30 (.tmp 0) (.const (.int .i64 0)) 30) 4 [v14_1] (fun v16_2 w =>
 condM v16_2
 (K (.tuple #[(.string ⟨#[]⟩), v14_1]) w)
 (oM Tryz.prog (.binOp .lss 3 (.tmp 0) (.tmp 1) 3) 4 [a2, (.int .i64 0)] (fun v19_3 w =>
 gdM (gd v19_3 false) (pureM a3) (fun v21_4 w =>
 gdM (gd v19_3 false) (oM Tryz.prog (.binOp .lss 3 (.tmp 0) (.tmp 1) 3) 4 [v21_4, (.int .i64 0)]) (fun v22_5 w =>
 oM Tryz.prog (.pick (.tmp 0) (.tmp 1) (.tmp 2)) 4 [v19_3, (.bool true), v22_5] (fun v23_6 w =>
 condM v23_6
 (K (.tuple #[(.string ⟨#[]⟩), (.int .i64 1)]) w)
 (callM Tryz.prog 48 #[a0, a1] (fun v26_7 w =>
 oM Tryz.prog (.field 84 (.tmp 0) 1) 9 [v26_7] (fun v27_8 w =>
 oM Tryz.prog (.call (Go.Call.mk (.builtin .len) #[(.tmp 0)] #[9])) 3 [v27_8] (fun v30_9 w =>
 oM Tryz.prog (.binOp .geq 3 (.tmp 0) (.tmp 1) 3) 4 [a2, v30_9] (fun v31_10 w =>
 condM v31_10
 (K (.tuple #[(.string ⟨#[]⟩), (.int .i64 0)]) w)
 (oM Tryz.prog (.call (Go.Call.mk (.builtin .len) #[(.tmp 0)] #[9])) 3 [v27_8] (fun v37_11 w =>
 oM Tryz.prog (.binOp .sub 3 (.tmp 0) (.tmp 1) 3) 3 [v37_11, a2] (fun v39_12 w =>
 oM Tryz.prog (.call (Go.Call.mk (.builtin .min) #[(.tmp 0), (.tmp 1)] #[3, 3])) 3 [a3, v39_12] (fun v40_13 w =>
 oM Tryz.prog (.binOp .add 3 (.tmp 0) (.tmp 1) 3) 3 [a2, v40_13] (fun v41_14 w =>
 oM Tryz.prog (.slice 9 (.tmp 0) (some (.tmp 1)) (some (.tmp 2)) none) 9 [v27_8, a2, v41_14] (fun v42_15 w =>
 K (.tuple #[v42_15, (.int .i64 0)]) w) w) w) w) w) w)) w) w) w) w)) w) w) w) w)) w) w
theorem rf_28_eq (a0 : Value) (a1 : Value) (a2 : Value) (a3 : Value) (K : Value → World → Prop) (w : World) : rf_28 a0 a1 a2 a3 K w = code Tryz.prog (fun _ => 0) 43 (Tryz.f28.body.getD .skip) (slotsAt [a0, a1, a2, a3]) (retK Tryz.prog [.tmp 8, .tmp 9] K) w := by kernel_rfl
theorem rf_28_ok {a0 a1 a2 a3 : Value} {K : Value → World → Prop} {w : World} (h : rf_28 a0 a1 a2 a3 K w) : callM Tryz.prog 28 #[a0, a1, a2, a3] K w :=
  calls_of_code (fun _ => 0) (fn := Tryz.f28) (rs := [.tmp 8, .tmp 9]) Tryz.func28 rfl rfl (by kernel_rfl) (Nat.le_of_ble_eq_true rfl) ((rf_28_eq a0 a1 a2 a3 K w).mp h)
def rf_36 (a0 : Value) (a1 : Value) (K : Value → World → Prop) (w : World) : Prop :=
 callM Tryz.prog 55 #[a0, (.int .i64 0), (.int .i64 0), (.string ⟨#[]⟩)] (fun v7_1 w =>
 callM Tryz.prog 47 #[a0, a1] (fun v10_2 w =>
 oM Tryz.prog (.binOp .neq 30 (.tmp 0) (.const (.int .i64 0)) 30) 4 [v10_2] (fun v12_3 w =>
 condM v12_3
 (K v10_2 w)
 (oM Tryz.prog (.nilCheck (.tmp 0)) 0 [a0] (fun v15_4 w =>
 oM Tryz.prog (.fieldAddr 64 (.tmp 0) 2) 0 [v15_4] (fun v16_5 w =>
 oM Tryz.prog (.load 3 (.tmp 0)) 3 [v16_5] (fun v17_6 w =>
 oM Tryz.prog (.binOp .gtr 3 (.tmp 0) (.tmp 1) 3) 4 [v17_6, (.int .i64 0)] (fun v18_7 w =>
 condM v18_7
 (oM Tryz.prog (.nilCheck (.tmp 0)) 0 [a0] (fun v20_8 w =>
 oM Tryz.prog (.fieldAddr 64 (.tmp 0) 2) 0 [v20_8] (fun v21_9 w =>
 oM Tryz.prog (.load 3 (.tmp 0)) 3 [v21_9] (fun v22_10 w =>
 oM Tryz.prog (.binOp .sub 3 (.tmp 0) (.tmp 1) 3) 3 [v22_10, (.int .i64 1)] (fun v23_11 w =>
 oM Tryz.prog (.nilCheck (.tmp 0)) 0 [a0] (fun v24_12 w =>
 oM Tryz.prog (.fieldAddr 64 (.tmp 0) 2) 0 [v24_12] (fun v25_13 w =>
 oM Tryz.prog (.store 3 (.tmp 0) (.tmp 1)) 0 [v25_13, v23_11] (fun _ w =>
 K (.int .i64 9) w) w) w) w) w) w) w) w)
 (callM Tryz.prog 48 #[a0, a1] (fun v30_14 w =>
 oM Tryz.prog (.field 84 (.tmp 0) 1) 9 [v30_14] (fun v31_15 w =>
 callM Tryz.prog 56 #[a0, a1, v31_15] (fun v32_16 w =>
 K (.int .i64 0) w) w) w) w)) w) w) w) w)) w) w) w
theorem rf_36_eq (a0 : Value) (a1 : Value) (K : Value → World → Prop) (w : World) : rf_36 a0 a1 K w = code Tryz.prog (fun _ => 0) 33 (Tryz.f36.body.getD .skip) (slotsAt [a0, a1]) (retK Tryz.prog [.tmp 4] K) w := by kernel_rfl
theorem rf_36_ok {a0 a1 : Value} {K : Value → World → Prop} {w : World} (h : rf_36 a0 a1 K w) : callM Tryz.prog 36 #[a0, a1] K w :=
  calls_of_code (fun _ => 0) (fn := Tryz.f36) (rs := [.tmp 4]) Tryz.func36 rfl rfl (by kernel_rfl) (Nat.le_of_ble_eq_true rfl) ((rf_36_eq a0 a1 K w).mp h)
def rf_39 (a0 : Value) (a1 : Value) (a2 : Value) (K : Value → World → Prop) (w : World) : Prop :=
 callM Tryz.prog 55 #[a0, (.int .i64 0), (.int .i64 0), (.string ⟨#[]⟩)] (fun v10_1 w =>
 callM Tryz.prog 47 #[a0, a1] (fun v13_2 w =>
 oM Tryz.prog (.binOp .neq 30 (.tmp 0) (.const (.int .i64 0)) 30) 4 [v13_2] (fun v15_3 w =>
 condM v15_3
 (K v13_2 w)
 (callM Tryz.prog 48 #[a0, a1] (fun v19_4 w =>
 oM Tryz.prog (.field 84 (.tmp 0) 1) 9 [v19_4] (fun v20_5 w =>
 oM Tryz.prog (.binOp .lss 3 (.tmp 0) (.tmp 1) 3) 4 [a2, (.int .i64 0)] (fun v22_6 w =>
 gdM (gd v22_6 false) (pureM a2) (fun v24_7 w =>
 gdM (gd v22_6 false) (pureM v20_5) (fun v25_8 w =>
 gdM (gd v22_6 false) (oM Tryz.prog (.call (Go.Call.mk (.builtin .len) #[(.tmp 0)] #[9])) 3 [v25_8]) (fun v26_9 w =>
 gdM (gd v22_6 false) (oM Tryz.prog (.binOp .gtr 3 (.tmp 0) (.tmp 1) 3) 4 [v24_7, v26_9]) (fun v27_10 w =>
 oM Tryz.prog (.pick (.tmp 0) (.tmp 1) (.tmp 2)) 4 [v22_6, (.bool true), v27_10] (fun v28_11 w =>
 condM v28_11
 (K (.int .i64 1) w)
 (oM Tryz.prog (.slice 9 (.tmp 0) none (some (.tmp 1)) none) 9 [v20_5, a2] (fun v33_12 w =>
 callM Tryz.prog 56 #[a0, a1, v33_12] (fun v34_13 w =>
 K (.int .i64 0) w) w) w)) w) w) w) w) w) w) w) w)) w) w) w
theorem rf_39_eq (a0 : Value) (a1 : Value) (a2 : Value) (K : Value → World → Prop) (w : World) : rf_39 a0 a1 a2 K w = code Tryz.prog (fun _ => 0) 35 (Tryz.f39.body.getD .skip) (slotsAt [a0, a1, a2]) (retK Tryz.prog [.tmp 6] K) w := by kernel_rfl
theorem rf_39_ok {a0 a1 a2 : Value} {K : Value → World → Prop} {w : World} (h : rf_39 a0 a1 a2 K w) : callM Tryz.prog 39 #[a0, a1, a2] K w :=
  calls_of_code (fun _ => 0) (fn := Tryz.f39) (rs := [.tmp 6]) Tryz.func39 rfl rfl (by kernel_rfl) (Nat.le_of_ble_eq_true rfl) ((rf_39_eq a0 a1 a2 K w).mp h)
def rf_17 (a0 : Value) (a1 : Value) (K : Value → World → Prop) (w : World) : Prop :=
 oM Tryz.prog (.call (Go.Call.mk (.builtin .max) #[(.tmp 0), (.tmp 1)] #[3, 3])) 3 [a1, (.int .i64 0)] (fun v6_1 w =>
 oM Tryz.prog (.nilCheck (.tmp 0)) 0 [a0] (fun v7_2 w =>
 oM Tryz.prog (.fieldAddr 64 (.tmp 0) 2) 0 [v7_2] (fun v8_3 w =>
 oM Tryz.prog (.store 3 (.tmp 0) (.tmp 1)) 0 [v8_3, v6_1] (fun _ w =>
 K (.tuple #[]) w) w) w) w) w
theorem rf_17_eq (a0 : Value) (a1 : Value) (K : Value → World → Prop) (w : World) : rf_17 a0 a1 K w = code Tryz.prog (fun _ => 0) 9 (Tryz.f17.body.getD .skip) (slotsAt [a0, a1]) (retK Tryz.prog [] K) w := by kernel_rfl
theorem rf_17_ok {a0 a1 : Value} {K : Value → World → Prop} {w : World} (h : rf_17 a0 a1 K w) : callM Tryz.prog 17 #[a0, a1] K w :=
  calls_of_code (fun _ => 0) (fn := Tryz.f17) (rs := []) Tryz.func17 rfl rfl (by kernel_rfl) (Nat.le_of_ble_eq_true rfl) ((rf_17_eq a0 a1 K w).mp h)
def rf_19 (a0 : Value) (a1 : Value) (a2 : Value) (K : Value → World → Prop) (w : World) : Prop :=
 oM Tryz.prog (.call (Go.Call.mk (.builtin .max) #[(.tmp 0), (.tmp 1)] #[3, 3])) 3 [a1, (.int .i64 0)] (fun v8_1 w =>
 oM Tryz.prog (.nilCheck (.tmp 0)) 0 [a0] (fun v9_2 w =>
 oM Tryz.prog (.fieldAddr 64 (.tmp 0) 4) 0 [v9_2] (fun v10_3 w =>
 oM Tryz.prog (.store 3 (.tmp 0) (.tmp 1)) 0 [v10_3, v8_1] (fun _ w =>
 oM Tryz.prog (.buildSlice 36 0 #[]) 36 [] (fun v12_4 w =>
 oM Tryz.prog (.call (Go.Call.mk (.builtin .append) #[(.tmp 0), (.tmp 1)] #[36, 36])) 36 [v12_4, a2] (fun v14_5 w =>
 oM Tryz.prog (.nilCheck (.tmp 0)) 0 [a0] (fun v15_6 w =>
 oM Tryz.prog (.fieldAddr 64 (.tmp 0) 5) 0 [v15_6] (fun v16_7 w =>
 oM Tryz.prog (.store 36 (.tmp 0) (.tmp 1)) 0 [v16_7, v14_5] (fun _ w =>
 K (.tuple #[]) w) w) w) w) w) w) w) w) w) w
theorem rf_19_eq (a0 : Value) (a1 : Value) (a2 : Value) (K : Value → World → Prop) (w : World) : rf_19 a0 a1 a2 K w = code Tryz.prog (fun _ => 0) 17 (Tryz.f19.body.getD .skip) (slotsAt [a0, a1, a2]) (retK Tryz.prog [] K) w := by kernel_rfl
theorem rf_19_ok {a0 a1 a2 : Value} {K : Value → World → Prop} {w : World} (h : rf_19 a0 a1 a2 K w) : callM Tryz.prog 19 #[a0, a1, a2] K w :=
  calls_of_code (fun _ => 0) (fn := Tryz.f19) (rs := []) Tryz.func19 rfl rfl (by kernel_rfl) (Nat.le_of_ble_eq_true rfl) ((rf_19_eq a0 a1 a2 K w).mp h)
def rf_21 (a0 : Value) (a1 : Value) (K : Value → World → Prop) (w : World) : Prop :=
 oM Tryz.prog (.nilCheck (.tmp 0)) 0 [a0] (fun v8_1 w =>
 oM Tryz.prog (.fieldAddr 64 (.tmp 0) 3) 0 [v8_1] (fun v9_2 w =>
 oM Tryz.prog (.load 4 (.tmp 0)) 4 [v9_2] (fun v10_3 w =>
 condM v10_3
 (K (.tuple #[]) w)
 (oM Tryz.prog (.nilCheck (.tmp 0)) 0 [a0] (fun v12_4 w =>
 oM Tryz.prog (.fieldAddr 64 (.tmp 0) 3) 0 [v12_4] (fun v13_5 w =>
 oM Tryz.prog (.store 4 (.tmp 0) (.tmp 1)) 0 [v13_5, (.bool true)] (fun _ w =>
 oM Tryz.prog (.nilCheck (.tmp 0)) 0 [a0] (fun v15_6 w =>
 oM Tryz.prog (.fieldAddr 64 (.tmp 0) 4) 0 [v15_6] (fun v16_7 w =>
 oM Tryz.prog (.store 3 (.tmp 0) (.tmp 1)) 0 [v16_7, (.int .i64 0)] (fun _ w =>
 loopM [(.int .i64 0)] w (fun J_8 m_9 l_10 u_l_10 w0_l_10 => (fun w => (
 oM Tryz.prog (.nilCheck (.tmp 0)) 0 [a0] (fun v19_11 w =>
 oM Tryz.prog (.fieldAddr 64 (.tmp 0) 1) 0 [v19_11] (fun v20_12 w =>
 oM Tryz.prog (.load 62 (.tmp 0)) 62 [v20_12] (fun v21_13 w =>
 oM Tryz.prog (.call (Go.Call.mk (.builtin .len) #[(.tmp 0)] #[62])) 3 [v21_13] (fun v22_14 w =>
 oM Tryz.prog (.binOp .lss 3 (.tmp 0) (.tmp 1) 3) 4 [(l_10.getD 0 undef), v22_14] (fun v23_15 w =>
 gdM (gd v23_15 true) (pureM a1) (fun v25_16 w =>
 gdM (gd v23_15 true) (oM Tryz.prog (.call (Go.Call.mk (.builtin .len) #[(.tmp 0)] #[36])) 3 [v25_16]) (fun v26_17 w =>
 gdM (gd v23_15 true) (oM Tryz.prog (.binOp .gtr 3 (.tmp 0) (.tmp 1) 3) 4 [v26_17, (.int .i64 0)]) (fun v27_18 w =>
 oM Tryz.prog (.pick (.tmp 0) (.tmp 1) (.tmp 2)) 4 [v23_15, v27_18, (.bool false)] (fun v28_19 w =>
 condM v28_19
 (joinM (fun M_20 => (oM Tryz.prog (.call (Go.Call.mk (.builtin .len) #[(.tmp 0)] #[36])) 3 [a1] (fun v34_22 w =>
 oM Tryz.prog (.binOp .rem 3 (.tmp 0) (.tmp 1) 3) 3 [(l_10.getD 0 undef), v34_22] (fun v35_23 w =>
 oM Tryz.prog (.indexAddr 36 (.tmp 0) (.tmp 1)) 0 [a1, v35_23] (fun v36_24 w =>
 oM Tryz.prog (.load 3 (.tmp 0)) 3 [v36_24] (fun v37_25 w =>
 oM Tryz.prog (.binOp .and 3 (.tmp 0) (.tmp 1) 3) 3 [v37_25, (.int .i64 1)] (fun v38_26 w =>
 oM Tryz.prog (.binOp .eql 3 (.tmp 0) (.const (.int .i64 1)) 3) 4 [v38_26] (fun v39_27 w =>
 condM v39_27
 (oM Tryz.prog (.nilCheck (.tmp 0)) 0 [a0] (fun v42_28 w =>
 oM Tryz.prog (.fieldAddr 64 (.tmp 0) 1) 0 [v42_28] (fun v43_29 w =>
 oM Tryz.prog (.load 62 (.tmp 0)) 62 [v43_29] (fun v44_30 w =>
 oM Tryz.prog (.indexAddr 62 (.tmp 0) (.tmp 1)) 0 [v44_30, (l_10.getD 0 undef)] (fun v46_31 w =>
 oM Tryz.prog (.load 82 (.tmp 0)) 82 [v46_31] (fun v47_32 w =>
 callM Tryz.prog 45 #[a0, v47_32] (fun v48_33 w =>
 M_20 [] w) w) w) w) w) w) w)
 (M_20 [] w)) w) w) w) w) w) w))
 (fun l_21 u_l_21 w => (oM Tryz.prog (.binOp .add 3 (.tmp 0) (.tmp 1) 3) 3 [(l_10.getD 0 undef), (.int .i64 1)] (fun v30_34 w =>
 J_8 [v30_34] w ∧ m_9 [v30_34] w < m_9 l_10 w0_l_10) w)))
 (loopM [(.slice none 0 0), (.int .i64 0)] w (fun J_35 m_36 l_37 u_l_37 w0_l_37 => (fun w => (
 oM Tryz.prog (.nilCheck (.tmp 0)) 0 [a0] (fun v51_38 w =>
 oM Tryz.prog (.fieldAddr 64 (.tmp 0) 0) 0 [v51_38] (fun v52_39 w =>
 oM Tryz.prog (.load 61 (.tmp 0)) 61 [v52_39] (fun v53_40 w =>
 oM Tryz.prog (.call (Go.Call.mk (.builtin .len) #[(.tmp 0)] #[61])) 3 [v53_40] (fun v54_41 w =>
 oM Tryz.prog (.binOp .lss 3 (.tmp 0) (.tmp 1) 3) 4 [(l_37.getD 1 undef), v54_41] (fun v55_42 w =>
 condM v55_42
 (stageM w (fun C_43 w => (pureH (l_37.getD 0 undef) (upto C_43 2) (fun v58_44 =>
 pureH a0 (upto C_43 0) (fun v59_45 =>
 oH Tryz.prog (.nilCheck (.tmp 0)) 0 [v59_45] (upto C_43 0) (fun v60_46 =>
 oH Tryz.prog (.fieldAddr 64 (.tmp 0) 0) 0 [v60_46] (upto C_43 0) (fun v61_47 =>
 oH Tryz.prog (.load 61 (.tmp 0)) 61 [v61_47] (upto C_43 0) (fun v62_48 =>
 pureH (l_37.getD 1 undef) (upto C_43 0) (fun v63_49 =>
 oH Tryz.prog (.indexAddr 61 (.tmp 0) (.tmp 1)) 0 [v62_48, v63_49] (upto C_43 0) (fun v64_50 =>
 oH Tryz.prog (.fieldAddr 84 (.tmp 0) 0) 0 [v64_50] (upto C_43 0) (fun v65_51 =>
 oH Tryz.prog (.load 3 (.tmp 0)) 3 [v65_51] (upto C_43 0) (fun v66_52 =>
 pureH a0 (upto C_43 0) (fun v67_53 =>
 oH Tryz.prog (.nilCheck (.tmp 0)) 0 [v67_53] (upto C_43 0) (fun v68_54 =>
 oH Tryz.prog (.fieldAddr 64 (.tmp 0) 0) 0 [v68_54] (upto C_43 0) (fun v69_55 =>
 oH Tryz.prog (.load 61 (.tmp 0)) 61 [v69_55] (upto C_43 0) (fun v70_56 =>
 pureH (l_37.getD 1 undef) (upto C_43 0) (fun v71_57 =>
 oH Tryz.prog (.indexAddr 61 (.tmp 0) (.tmp 1)) 0 [v70_56, v71_57] (upto C_43 0) (fun v72_58 =>
 oH Tryz.prog (.fieldAddr 84 (.tmp 0) 2) 0 [v72_58] (upto C_43 0) (fun v73_59 =>
 oH Tryz.prog (.load 9 (.tmp 0)) 9 [v73_59] (upto C_43 0) (fun v74_60 =>
 pureH a0 (upto C_43 0) (fun v75_61 =>
 oH Tryz.prog (.nilCheck (.tmp 0)) 0 [v75_61] (upto C_43 0) (fun v76_62 =>
 oH Tryz.prog (.fieldAddr 64 (.tmp 0) 0) 0 [v76_62] (upto C_43 0) (fun v77_63 =>
 oH Tryz.prog (.load 61 (.tmp 0)) 61 [v77_63] (upto C_43 0) (fun v78_64 =>
 pureH (l_37.getD 1 undef) (upto C_43 0) (fun v79_65 =>
 oH Tryz.prog (.indexAddr 61 (.tmp 0) (.tmp 1)) 0 [v78_64, v79_65] (upto C_43 0) (fun v80_66 =>
 oH Tryz.prog (.fieldAddr 84 (.tmp 0) 2) 0 [v80_66] (upto C_43 0) (fun v81_67 =>
 oH Tryz.prog (.load 9 (.tmp 0)) 9 [v81_67] (upto C_43 0) (fun v82_68 =>
 oM Tryz.prog (.build 84 #[(0, (.tmp 0)), (1, (.tmp 1)), (2, (.tmp 2))]) 84 [v66_52, v74_60, v82_68] (fun v83_69 w => C_43 1 w ∧ (
 oM Tryz.prog (.buildSlice 61 1 #[(0, (.tmp 0))]) 61 [v83_69] (fun v84_70 w => C_43 2 w ∧ (
 oM Tryz.prog (.call (Go.Call.mk (.builtin .append) #[(.tmp 0), (.tmp 1)] #[61, 61])) 61 [v58_44, v84_70] (fun v85_71 w => C_43 3 w ∧ (
 C_43 4 w ∧ (oM Tryz.prog (.binOp .add 3 (.tmp 0) (.tmp 1) 3) 3 [(l_37.getD 1 undef), (.int .i64 1)] (fun v57_73 w =>
 J_35 [v85_71, v57_73] w ∧ m_36 [v85_71, v57_73] w < m_36 l_37 w0_l_37) w))) w)) w)) w))))))))))))))))))))))))))))
 (oM Tryz.prog (.nilCheck (.tmp 0)) 0 [a0] (fun v88_74 w =>
 oM Tryz.prog (.fieldAddr 64 (.tmp 0) 0) 0 [v88_74] (fun v89_75 w =>
 oM Tryz.prog (.store 61 (.tmp 0) (.tmp 1)) 0 [v89_75, (l_37.getD 0 undef)] (fun _ w =>
 oM Tryz.prog (.nilCheck (.tmp 0)) 0 [a0] (fun v91_76 w =>
 oM Tryz.prog (.fieldAddr 64 (.tmp 0) 1) 0 [v91_76] (fun v92_77 w =>
 oM Tryz.prog (.store 62 (.tmp 0) (.tmp 1)) 0 [v92_77, (.slice none 0 0)] (fun _ w =>
 K (.tuple #[]) w) w) w) w) w) w) w)) w) w) w) w) w)) w0_l_37))) w) w) w) w) w) w) w) w) w)) w0_l_10)) w) w) w) w) w) w)) w) w) w
theorem rf_21_eq (a0 : Value) (a1 : Value) (K : Value → World → Prop) (w : World) : rf_21 a0 a1 K w = code Tryz.prog (fun _ => 3) 93 (Tryz.f21.body.getD .skip) (slotsAt [a0, a1]) (retK Tryz.prog [] K) w := by kernel_rfl
theorem rf_21_ok {a0 a1 : Value} {K : Value → World → Prop} {w : World} (h : rf_21 a0 a1 K w) : callM Tryz.prog 21 #[a0, a1] K w :=
  calls_of_code (fun _ => 3) (fn := Tryz.f21) (rs := []) Tryz.func21 rfl rfl (by kernel_rfl) (Nat.le_of_ble_eq_true rfl) ((rf_21_eq a0 a1 K w).mp h)
def rf_23 (a0 : Value) (K : Value → World → Prop) (w : World) : Prop :=
 oM Tryz.prog (.nilCheck (.tmp 0)) 0 [a0] (fun v3_1 w =>
 oM Tryz.prog (.fieldAddr 64 (.tmp 0) 3) 0 [v3_1] (fun v4_2 w =>
 oM Tryz.prog (.store 4 (.tmp 0) (.tmp 1)) 0 [v4_2, (.bool false)] (fun _ w =>
 K (.tuple #[]) w) w) w) w
theorem rf_23_eq (a0 : Value) (K : Value → World → Prop) (w : World) : rf_23 a0 K w = code Tryz.prog (fun _ => 0) 5 (Tryz.f23.body.getD .skip) (slotsAt [a0]) (retK Tryz.prog [] K) w := by kernel_rfl
theorem rf_23_ok {a0 : Value} {K : Value → World → Prop} {w : World} (h : rf_23 a0 K w) : callM Tryz.prog 23 #[a0] K w :=
  calls_of_code (fun _ => 0) (fn := Tryz.f23) (rs := []) Tryz.func23 rfl rfl (by kernel_rfl) (Nat.le_of_ble_eq_true rfl) ((rf_23_eq a0 K w).mp h)
def rf_42 (a0 : Value) (a1 : Value) (a2 : Value) (a3 : Value) (K : Value → World → Prop) (w : World) : Prop :=
 callM Tryz.prog 55 #[a0, a1, a2, a3] (fun v14_1 w =>
 callM Tryz.prog 47 #[a0, a1] (fun v17_2 w =>
 oM Tryz.prog (.binOp .neq 30 (.tmp 0) (.const (.int .i64 0)) 30) 4 [v17_2] (fun v19_3 w =>
 condM v19_3
 (K v17_2 w)
 (oM Tryz.prog (.binOp .lss 3 (.tmp 0) (.tmp 1) 3) 4 [a2, (.int .i64 0)] (fun v22_4 w =>
 condM v22_4
 (K (.int .i64 1) w)
 (callM Tryz.prog 65 #[a2, a3] (fun v25_5 w =>
 oM Tryz.prog (.unOp .not 4 (.tmp 0)) 4 [v25_5] (fun v26_6 w =>
 condM v26_6
 (K (.int .i64 6) w)
 (callM Tryz.prog 66 #[a0, a1, a2, a3] (fun v31_7 w =>
 K (.int .i64 0) w) w)) w) w)) w)) w) w) w
theorem rf_42_eq (a0 : Value) (a1 : Value) (a2 : Value) (a3 : Value) (K : Value → World → Prop) (w : World) : rf_42 a0 a1 a2 a3 K w = code Tryz.prog (fun _ => 0) 32 (Tryz.f42.body.getD .skip) (slotsAt [a0, a1, a2, a3]) (retK Tryz.prog [.tmp 8] K) w := by kernel_rfl
theorem rf_42_ok {a0 a1 a2 a3 : Value} {K : Value → World → Prop} {w : World} (h : rf_42 a0 a1 a2 a3 K w) : callM Tryz.prog 42 #[a0, a1, a2, a3] K w :=
  calls_of_code (fun _ => 0) (fn := Tryz.f42) (rs := [.tmp 8]) Tryz.func42 rfl rfl (by kernel_rfl) (Nat.le_of_ble_eq_true rfl) ((rf_42_eq a0 a1 a2 a3 K w).mp h)
def rf_48 (a0 : Value) (a1 : Value) (K : Value → World → Prop) (w : World) : Prop :=
 oM Tryz.prog (.alloc 84) 0 [] (fun v4_1 w =>
 loopM [(.int .i64 0)] w (fun J_2 m_3 l_4 u_l_4 w0_l_4 => (fun w => (
 oM Tryz.prog (.nilCheck (.tmp 0)) 0 [a0] (fun v8_5 w =>
 oM Tryz.prog (.fieldAddr 64 (.tmp 0) 0) 0 [v8_5] (fun v9_6 w =>
 oM Tryz.prog (.load 61 (.tmp 0)) 61 [v9_6] (fun v10_7 w =>
 oM Tryz.prog (.call (Go.Call.mk (.builtin .len) #[(.tmp 0)] #[61])) 3 [v10_7] (fun v11_8 w =>
 oM Tryz.prog (.binOp .lss 3 (.tmp 0) (.tmp 1) 3) 4 [(l_4.getD 0 undef), v11_8] (fun v12_9 w =>
 condM v12_9
 (oM Tryz.prog (.nilCheck (.tmp 0)) 0 [a0] (fun v16_10 w =>
 oM Tryz.prog (.fieldAddr 64 (.tmp 0) 0) 0 [v16_10] (fun v17_11 w =>
 oM Tryz.prog (.load 61 (.tmp 0)) 61 [v17_11] (fun v18_12 w =>
 oM Tryz.prog (.indexAddr 61 (.tmp 0) (.tmp 1)) 0 [v18_12, (l_4.getD 0 undef)] (fun v20_13 w =>
 oM Tryz.prog (.fieldAddr 84 (.tmp 0) 0) 0 [v20_13] (fun v21_14 w =>
 oM Tryz.prog (.load 3 (.tmp 0)) 3 [v21_14] (fun v22_15 w =>
 oM Tryz.prog (.binOp .eql 3 (.tmp 0) (.tmp 1) 3) 4 [v22_15, a1] (fun v24_16 w =>
 condM v24_16
 (oM Tryz.prog (.nilCheck (.tmp 0)) 0 [a0] (fun v26_17 w =>
 oM Tryz.prog (.fieldAddr 64 (.tmp 0) 0) 0 [v26_17] (fun v27_18 w =>
 oM Tryz.prog (.load 61 (.tmp 0)) 61 [v27_18] (fun v28_19 w =>
 oM Tryz.prog (.indexAddr 61 (.tmp 0) (.tmp 1)) 0 [v28_19, (l_4.getD 0 undef)] (fun v30_20 w =>
 oM Tryz.prog (.load 84 (.tmp 0)) 84 [v30_20] (fun v31_21 w =>
 oM Tryz.prog (.store 84 (.tmp 0) (.tmp 1)) 0 [v4_1, v31_21] (fun _ w =>
 ∃ r_22, (do loadVar 84 (← asAddr v4_1) : Sem Value).run Tryz.prog w = .ok r_22 w ∧ K r_22 w) w) w) w) w) w) w)
 (oM Tryz.prog (.binOp .add 3 (.tmp 0) (.tmp 1) 3) 3 [(l_4.getD 0 undef), (.int .i64 1)] (fun v14_23 w =>
 J_2 [v14_23] w ∧ m_3 [v14_23] w < m_3 l_4 w0_l_4) w)) w) w) w) w) w) w) w)
 (oM Tryz.prog (.build 84 #[(0, (.tmp 0))]) 84 [a1] (fun v33_24 w =>
 oM Tryz.prog (.store 84 (.tmp 0) (.tmp 1)) 0 [v4_1, v33_24] (fun _ w =>
 ∃ r_25, (do loadVar 84 (← asAddr v4_1) : Sem Value).run Tryz.prog w = .ok r_25 w ∧ K r_25 w) w) w)) w) w) w) w) w)) w0_l_4)) w
theorem rf_48_eq (a0 : Value) (a1 : Value) (K : Value → World → Prop) (w : World) : rf_48 a0 a1 K w = code Tryz.prog (fun _ => 0) 34 (Tryz.f48.body.getD .skip) (slotsAt [a0, a1]) (retK Tryz.prog [.cell 4 84] K) w := by kernel_rfl
theorem rf_48_ok {a0 a1 : Value} {K : Value → World → Prop} {w : World} (h : rf_48 a0 a1 K w) : callM Tryz.prog 48 #[a0, a1] K w :=
  calls_of_code (fun _ => 0) (fn := Tryz.f48) (rs := [.cell 4 84]) Tryz.func48 rfl rfl (by kernel_rfl) (Nat.le_of_ble_eq_true rfl) ((rf_48_eq a0 a1 K w).mp h)
def rf_47 (a0 : Value) (a1 : Value) (K : Value → World → Prop) (w : World) : Prop :=
 oM Tryz.prog (.nilCheck (.tmp 0)) 0 [a0] (fun v6_1 w =>
 oM Tryz.prog (.fieldAddr 64 (.tmp 0) 3) 0 [v6_1] (fun v7_2 w =>
 oM Tryz.prog (.load 4 (.tmp 0)) 4 [v7_2] (fun v8_3 w =>
 condM v8_3
 (K (.int .i64 8) w)
 (oM Tryz.prog (.binOp .lss 3 (.tmp 0) (.tmp 1) 3) 4 [a1, (.int .i64 0)] (fun v10_4 w =>
 gdM (gd v10_4 false) (pureM a1) (fun v12_5 w =>
 gdM (gd v10_4 false) (oM Tryz.prog (.binOp .gtr 3 (.tmp 0) (.tmp 1) 3) 4 [v12_5, (.int .i64 15)]) (fun v13_6 w =>
 oM Tryz.prog (.pick (.tmp 0) (.tmp 1) (.tmp 2)) 4 [v10_4, (.bool true), v13_6] (fun v14_7 w =>
 condM v14_7
 (K (.int .i64 1) w)
 (K (.int .i64 0) w)) w) w) w) w)) w) w) w
theorem rf_47_eq (a0 : Value) (a1 : Value) (K : Value → World → Prop) (w : World) : rf_47 a0 a1 K w = code Tryz.prog (fun _ => 0) 15 (Tryz.f47.body.getD .skip) (slotsAt [a0, a1]) (retK Tryz.prog [.tmp 4] K) w := by kernel_rfl
theorem rf_47_ok {a0 a1 : Value} {K : Value → World → Prop} {w : World} (h : rf_47 a0 a1 K w) : callM Tryz.prog 47 #[a0, a1] K w :=
  calls_of_code (fun _ => 0) (fn := Tryz.f47) (rs := [.tmp 4]) Tryz.func47 rfl rfl (by kernel_rfl) (Nat.le_of_ble_eq_true rfl) ((rf_47_eq a0 a1 K w).mp h)
def rf_55 (a0 : Value) (a1 : Value) (a2 : Value) (a3 : Value) (K : Value → World → Prop) (w : World) : Prop :=
 oM Tryz.prog (.nilCheck (.tmp 0)) 0 [a0] (fun v9_1 w =>
 oM Tryz.prog (.fieldAddr 64 (.tmp 0) 3) 0 [v9_1] (fun v10_2 w =>
 oM Tryz.prog (.load 4 (.tmp 0)) 4 [v10_2] (fun v11_3 w =>
 gdM (gd v11_3 false) (pureM a0) (fun v13_4 w =>
 gdM (gd v11_3 false) (oM Tryz.prog (.nilCheck (.tmp 0)) 0 [v13_4]) (fun v14_5 w =>
 gdM (gd v11_3 false) (oM Tryz.prog (.fieldAddr 64 (.tmp 0) 4) 0 [v14_5]) (fun v15_6 w =>
 gdM (gd v11_3 false) (oM Tryz.prog (.load 3 (.tmp 0)) 3 [v15_6]) (fun v16_7 w =>
 gdM (gd v11_3 false) (oM Tryz.prog (.binOp .eql 3 (.tmp 0) (.const (.int .i64 0)) 3) 4 [v16_7]) (fun v17_8 w =>
 oM Tryz.prog (.pick (.tmp 0) (.tmp 1) (.tmp 2)) 4 [v11_3, (.bool true), v17_8] (fun v18_9 w =>
 condM v18_9
 (K (.tuple #[]) w)
 (oM Tryz.prog (.nilCheck (.tmp 0)) 0 [a0] (fun v20_10 w =>
 oM Tryz.prog (.fieldAddr 64 (.tmp 0) 4) 0 [v20_10] (fun v21_11 w =>
 oM Tryz.prog (.load 3 (.tmp 0)) 3 [v21_11] (fun v22_12 w =>
 oM Tryz.prog (.binOp .sub 3 (.tmp 0) (.tmp 1) 3) 3 [v22_12, (.int .i64 1)] (fun v23_13 w =>
 oM Tryz.prog (.nilCheck (.tmp 0)) 0 [a0] (fun v24_14 w =>
 oM Tryz.prog (.fieldAddr 64 (.tmp 0) 4) 0 [v24_14] (fun v25_15 w =>
 oM Tryz.prog (.store 3 (.tmp 0) (.tmp 1)) 0 [v25_15, v23_13] (fun _ w =>
 oM Tryz.prog (.nilCheck (.tmp 0)) 0 [a0] (fun v27_16 w =>
 oM Tryz.prog (.fieldAddr 64 (.tmp 0) 4) 0 [v27_16] (fun v28_17 w =>
 oM Tryz.prog (.load 3 (.tmp 0)) 3 [v28_17] (fun v29_18 w =>
 oM Tryz.prog (.binOp .gtr 3 (.tmp 0) (.tmp 1) 3) 4 [v29_18, (.int .i64 0)] (fun v30_19 w =>
 condM v30_19
 (K (.tuple #[]) w)
 (joinM (fun M_20 => (oM Tryz.prog (.binOp .geq 3 (.tmp 0) (.tmp 1) 3) 4 [a1, (.int .i64 0)] (fun v32_22 w =>
 gdM (gd v32_22 true) (pureM a1) (fun v34_23 w =>
 gdM (gd v32_22 true) (oM Tryz.prog (.binOp .leq 3 (.tmp 0) (.tmp 1) 3) 4 [v34_23, (.int .i64 15)]) (fun v35_24 w =>
 oM Tryz.prog (.pick (.tmp 0) (.tmp 1) (.tmp 2)) 4 [v32_22, v35_24, (.bool false)] (fun v36_25 w =>
 gdM (gd v36_25 true) (pureM a2) (fun v38_26 w =>
 gdM (gd v36_25 true) (pureM a3) (fun v39_27 w =>
 gdM (gd v36_25 true) (callM Tryz.prog 65 #[v38_26, v39_27]) (fun v40_28 w =>
 oM Tryz.prog (.pick (.tmp 0) (.tmp 1) (.tmp 2)) 4 [v36_25, v40_28, (.bool false)] (fun v41_29 w =>
 condM v41_29
 (callM Tryz.prog 66 #[a0, a1, a2, a3] (fun v46_30 w =>
 M_20 [] w) w)
 (M_20 [] w)) w) w) w) w) w) w) w) w))
 (fun l_21 u_l_21 w => (oM Tryz.prog (.nilCheck (.tmp 0)) 0 [a0] (fun v49_31 w =>
 oM Tryz.prog (.fieldAddr 64 (.tmp 0) 5) 0 [v49_31] (fun v50_32 w =>
 oM Tryz.prog (.load 36 (.tmp 0)) 36 [v50_32] (fun v51_33 w =>
 callM Tryz.prog 21 #[a0, v51_33] (fun v52_34 w =>
 K (.tuple #[]) w) w) w) w) w)))) w) w) w) w) w) w) w) w) w) w) w)) w) w) w) w) w) w) w) w) w
theorem rf_55_eq (a0 : Value) (a1 : Value) (a2 : Value) (a3 : Value) (K : Value → World → Prop) (w : World) : rf_55 a0 a1 a2 a3 K w = code Tryz.prog (fun _ => 0) 53 (Tryz.f55.body.getD .skip) (slotsAt [a0, a1, a2, a3]) (retK Tryz.prog [] K) w := by kernel_rfl
theorem rf_55_ok {a0 a1 a2 a3 : Value} {K : Value → World → Prop} {w : World} (h : rf_55 a0 a1 a2 a3 K w) : callM Tryz.prog 55 #[a0, a1, a2, a3] K w :=
  calls_of_code (fun _ => 0) (fn := Tryz.f55) (rs := []) Tryz.func55 rfl rfl (by kernel_rfl) (Nat.le_of_ble_eq_true rfl) ((rf_55_eq a0 a1 a2 a3 K w).mp h)
def rf_56 (a0 : Value) (a1 : Value) (a2 : Value) (K : Value → World → Prop) (w : World) : Prop :=
 oM Tryz.prog (.build 84 #[(0, (.tmp 0)), (1, (.tmp 1)), (2, (.tmp 2))]) 84 [a1, a2, a2] (fun v12_1 w =>
 callM Tryz.prog 68 #[a0, v12_1] (fun v13_2 w =>
 loopM [(.slice none 0 0), (.int .i64 0)] w (fun J_3 m_4 l_5 u_l_5 w0_l_5 => (fun w => (
 oM Tryz.prog (.nilCheck (.tmp 0)) 0 [a0] (fun v16_6 w =>
 oM Tryz.prog (.fieldAddr 64 (.tmp 0) 1) 0 [v16_6] (fun v17_7 w =>
 oM Tryz.prog (.load 62 (.tmp 0)) 62 [v17_7] (fun v18_8 w =>
 oM Tryz.prog (.call (Go.Call.mk (.builtin .len) #[(.tmp 0)] #[62])) 3 [v18_8] (fun v19_9 w =>
 oM Tryz.prog (.binOp .lss 3 (.tmp 0) (.tmp 1) 3) 4 [(l_5.getD 1 undef), v19_9] (fun v20_10 w =>
 condM v20_10
 (joinM (fun M_11 => (oM Tryz.prog (.nilCheck (.tmp 0)) 0 [a0] (fun v24_13 w =>
 oM Tryz.prog (.fieldAddr 64 (.tmp 0) 1) 0 [v24_13] (fun v25_14 w =>
 oM Tryz.prog (.load 62 (.tmp 0)) 62 [v25_14] (fun v26_15 w =>
 oM Tryz.prog (.indexAddr 62 (.tmp 0) (.tmp 1)) 0 [v26_15, (l_5.getD 1 undef)] (fun v28_16 w =>
 oM Tryz.prog (.fieldAddr 82 (.tmp 0) 0) 0 [v28_16] (fun v29_17 w =>
 oM Tryz.prog (.load 3 (.tmp 0)) 3 [v29_17] (fun v30_18 w =>
 oM Tryz.prog (.binOp .neq 3 (.tmp 0) (.tmp 1) 3) 4 [v30_18, a1] (fun v32_19 w =>
 condM v32_19
 (oM Tryz.prog (.nilCheck (.tmp 0)) 0 [a0] (fun v35_20 w =>
 oM Tryz.prog (.fieldAddr 64 (.tmp 0) 1) 0 [v35_20] (fun v36_21 w =>
 oM Tryz.prog (.load 62 (.tmp 0)) 62 [v36_21] (fun v37_22 w =>
 oM Tryz.prog (.indexAddr 62 (.tmp 0) (.tmp 1)) 0 [v37_22, (l_5.getD 1 undef)] (fun v39_23 w =>
 oM Tryz.prog (.load 82 (.tmp 0)) 82 [v39_23] (fun v40_24 w =>
 oM Tryz.prog (.buildSlice 62 1 #[(0, (.tmp 0))]) 62 [v40_24] (fun v41_25 w =>
 oM Tryz.prog (.call (Go.Call.mk (.builtin .append) #[(.tmp 0), (.tmp 1)] #[62, 62])) 62 [(l_5.getD 0 undef), v41_25] (fun v42_26 w =>
 M_11 [v42_26] w) w) w) w) w) w) w) w)
 (M_11 [(l_5.getD 0 undef)] w)) w) w) w) w) w) w) w))
 (fun l_12 u_l_12 w => (oM Tryz.prog (.binOp .add 3 (.tmp 0) (.tmp 1) 3) 3 [(l_5.getD 1 undef), (.int .i64 1)] (fun v22_27 w =>
 J_3 [(l_12.getD 0 undef), v22_27] w ∧ m_4 [(l_12.getD 0 undef), v22_27] w < m_4 l_5 w0_l_5) w)))
 (oM Tryz.prog (.nilCheck (.tmp 0)) 0 [a0] (fun v45_28 w =>
 oM Tryz.prog (.fieldAddr 64 (.tmp 0) 1) 0 [v45_28] (fun v46_29 w =>
 oM Tryz.prog (.store 62 (.tmp 0) (.tmp 1)) 0 [v46_29, (l_5.getD 0 undef)] (fun _ w =>
 K (.tuple #[]) w) w) w) w)) w) w) w) w) w)) w0_l_5)) w) w
theorem rf_56_eq (a0 : Value) (a1 : Value) (a2 : Value) (K : Value → World → Prop) (w : World) : rf_56 a0 a1 a2 K w = code Tryz.prog (fun _ => 0) 47 (Tryz.f56.body.getD .skip) (slotsAt [a0, a1, a2]) (retK Tryz.prog [] K) w := by kernel_rfl
theorem rf_56_ok {a0 a1 a2 : Value} {K : Value → World → Prop} {w : World} (h : rf_56 a0 a1 a2 K w) : callM Tryz.prog 56 #[a0, a1, a2] K w :=
  calls_of_code (fun _ => 0) (fn := Tryz.f56) (rs := []) Tryz.func56 rfl rfl (by kernel_rfl) (Nat.le_of_ble_eq_true rfl) ((rf_56_eq a0 a1 a2 K w).mp h)
def rf_45 (a0 : Value) (a1 : Value) (K : Value → World → Prop) (w : World) : Prop :=
 oM Tryz.prog (.box 82 (.tmp 0)) 0 [a1] (fun v3_1 w =>
 oM Tryz.prog (.fieldAddr 82 (.tmp 0) 0) 0 [v3_1] (fun v6_2 w =>
 oM Tryz.prog (.load 3 (.tmp 0)) 3 [v6_2] (fun v7_3 w =>
 callM Tryz.prog 48 #[a0, v7_3] (fun v8_4 w =>
 oM Tryz.prog (.alloc 84) 0 [] (fun v4_5 w =>
 oM Tryz.prog (.store 84 (.tmp 0) (.tmp 1)) 0 [v4_5, v8_4] (fun _ w =>
 joinM (fun M_6 => (oM Tryz.prog (.fieldAddr 82 (.tmp 0) 1) 0 [v3_1] (fun v9_8 w =>
 oM Tryz.prog (.load 3 (.tmp 0)) 3 [v9_8] (fun v10_9 w =>
 oM Tryz.prog (.binOp .mul 3 (.tmp 0) (.tmp 1) 3) 3 [(.int .i64 64), v10_9] (fun v11_10 w =>
 oM Tryz.prog (.fieldAddr 84 (.tmp 0) 1) 0 [v4_5] (fun v12_11 w =>
 oM Tryz.prog (.load 9 (.tmp 0)) 9 [v12_11] (fun v13_12 w =>
 oM Tryz.prog (.call (Go.Call.mk (.builtin .len) #[(.tmp 0)] #[9])) 3 [v13_12] (fun v14_13 w =>
 oM Tryz.prog (.binOp .lss 3 (.tmp 0) (.tmp 1) 3) 4 [v11_10, v14_13] (fun v15_14 w =>
 condM v15_14
 (stageM w (fun C_15 w => (oH Tryz.prog (.fieldAddr 84 (.tmp 0) 2) 0 [v4_5] (upto C_15 0) (fun v16_16 =>
 oH Tryz.prog (.load 9 (.tmp 0)) 9 [v16_16] (upto C_15 0) (fun v17_17 =>
 oH Tryz.prog (.fieldAddr 82 (.tmp 0) 1) 0 [v3_1] (upto C_15 0) (fun v18_18 =>
 oH Tryz.prog (.load 3 (.tmp 0)) 3 [v18_18] (upto C_15 0) (fun v19_19 =>
 oH Tryz.prog (.binOp .mul 3 (.tmp 0) (.tmp 1) 3) 3 [(.int .i64 64), v19_19] (upto C_15 0) (fun v20_20 =>
 oH Tryz.prog (.fieldAddr 84 (.tmp 0) 1) 0 [v4_5] (upto C_15 0) (fun v21_21 =>
 oH Tryz.prog (.load 9 (.tmp 0)) 9 [v21_21] (upto C_15 0) (fun v22_22 =>
 oH Tryz.prog (.fieldAddr 82 (.tmp 0) 1) 0 [v3_1] (upto C_15 0) (fun v23_23 =>
 oH Tryz.prog (.load 3 (.tmp 0)) 3 [v23_23] (upto C_15 0) (fun v24_24 =>
 oH Tryz.prog (.binOp .mul 3 (.tmp 0) (.tmp 1) 3) 3 [(.int .i64 64), v24_24] (upto C_15 0) (fun v25_25 =>
 oH Tryz.prog (.fieldAddr 82 (.tmp 0) 1) 0 [v3_1] (upto C_15 0) (fun v26_26 =>
 oH Tryz.prog (.load 3 (.tmp 0)) 3 [v26_26] (upto C_15 0) (fun v27_27 =>
 oH Tryz.prog (.binOp .mul 3 (.tmp 0) (.tmp 1) 3) 3 [(.int .i64 64), v27_27] (upto C_15 0) (fun v28_28 =>
 oH Tryz.prog (.binOp .add 3 (.tmp 0) (.tmp 1) 3) 3 [v28_28, (.int .i64 64)] (upto C_15 0) (fun v29_29 =>
 oH Tryz.prog (.fieldAddr 84 (.tmp 0) 1) 0 [v4_5] (upto C_15 0) (fun v30_30 =>
 oH Tryz.prog (.load 9 (.tmp 0)) 9 [v30_30] (upto C_15 0) (fun v31_31 =>
 oH Tryz.prog (.call (Go.Call.mk (.builtin .len) #[(.tmp 0)] #[9])) 3 [v31_31] (upto C_15 0) (fun v32_32 =>
 oH Tryz.prog (.call (Go.Call.mk (.builtin .min) #[(.tmp 0), (.tmp 1)] #[3, 3])) 3 [v29_29, v32_32] (upto C_15 0) (fun v33_33 =>
 oH Tryz.prog (.slice 9 (.tmp 0) (some (.tmp 1)) (some (.tmp 2)) none) 9 [v22_22, v25_25, v33_33] (upto C_15 0) (fun v34_34 =>
 callM Tryz.prog 67 #[v17_17, v20_20, v34_34] (fun v35_35 w => C_15 1 w ∧ (
 oM Tryz.prog (.fieldAddr 84 (.tmp 0) 2) 0 [v4_5] (fun v36_36 w => C_15 2 w ∧ (
 oM Tryz.prog (.store 9 (.tmp 0) (.tmp 1)) 0 [v36_36, v35_35] (fun _ w => C_15 3 w ∧ (
 M_6 [] w)) w)) w)) w))))))))))))))))))))))
 (M_6 [] w)) w) w) w) w) w) w) w))
 (fun l_7 u_l_7 w => (oM Tryz.prog (.load 84 (.tmp 0)) 84 [v4_5] (fun v38_37 w =>
 callM Tryz.prog 68 #[a0, v38_37] (fun v39_38 w =>
 K (.tuple #[]) w) w) w))) w) w) w) w) w) w
theorem rf_45_eq (a0 : Value) (a1 : Value) (K : Value → World → Prop) (w : World) : rf_45 a0 a1 K w = code Tryz.prog (fun _ => 3) 40 (Tryz.f45.body.getD .skip) (slotsAt [a0, a1]) (retK Tryz.prog [] K) w := by kernel_rfl
theorem rf_45_ok {a0 a1 : Value} {K : Value → World → Prop} {w : World} (h : rf_45 a0 a1 K w) : callM Tryz.prog 45 #[a0, a1] K w :=
  calls_of_code (fun _ => 3) (fn := Tryz.f45) (rs := []) Tryz.func45 rfl rfl (by kernel_rfl) (Nat.le_of_ble_eq_true rfl) ((rf_45_eq a0 a1 K w).mp h)
def rf_65 (a0 : Value) (a1 : Value) (K : Value → World → Prop) (w : World) : Prop :=
 oM Tryz.prog (.binOp .geq 3 (.tmp 0) (.tmp 1) 3) 4 [a0, (.int .i64 0)] (fun v6_1 w =>
 gdM (gd v6_1 true) (pureM a0) (fun v8_2 w =>
 gdM (gd v6_1 true) (oM Tryz.prog (.binOp .leq 3 (.tmp 0) (.tmp 1) 3) 4 [v8_2, (.int .i64 16777216)]) (fun v9_3 w =>
 oM Tryz.prog (.pick (.tmp 0) (.tmp 1) (.tmp 2)) 4 [v6_1, v9_3, (.bool false)] (fun v10_4 w =>
 gdM (gd v10_4 true) (pureM a0) (fun v12_5 w =>
 gdM (gd v10_4 true) (pureM a1) (fun v13_6 w =>
 gdM (gd v10_4 true) (oM Tryz.prog (.call (Go.Call.mk (.builtin .len) #[(.tmp 0)] #[9])) 3 [v13_6]) (fun v14_7 w =>
 gdM (gd v10_4 true) (oM Tryz.prog (.binOp .add 3 (.tmp 0) (.tmp 1) 3) 3 [v12_5, v14_7]) (fun v15_8 w =>
 gdM (gd v10_4 true) (oM Tryz.prog (.binOp .leq 3 (.tmp 0) (.tmp 1) 3) 4 [v15_8, (.int .i64 16777216)]) (fun v16_9 w =>
 oM Tryz.prog (.pick (.tmp 0) (.tmp 1) (.tmp 2)) 4 [v10_4, v16_9, (.bool false)] (fun v17_10 w =>
 K v17_10 w) w) w) w) w) w) w) w) w) w) w
theorem rf_65_eq (a0 : Value) (a1 : Value) (K : Value → World → Prop) (w : World) : rf_65 a0 a1 K w = code Tryz.prog (fun _ => 0) 18 (Tryz.f65.body.getD .skip) (slotsAt [a0, a1]) (retK Tryz.prog [.tmp 4] K) w := by kernel_rfl
theorem rf_65_ok {a0 a1 : Value} {K : Value → World → Prop} {w : World} (h : rf_65 a0 a1 K w) : callM Tryz.prog 65 #[a0, a1] K w :=
  calls_of_code (fun _ => 0) (fn := Tryz.f65) (rs := [.tmp 4]) Tryz.func65 rfl rfl (by kernel_rfl) (Nat.le_of_ble_eq_true rfl) ((rf_65_eq a0 a1 K w).mp h)
def rf_66 (a0 : Value) (a1 : Value) (a2 : Value) (a3 : Value) (K : Value → World → Prop) (w : World) : Prop :=
 oM Tryz.prog (.binOp .eql 9 (.tmp 0) (.const (.string ⟨#[]⟩)) 9) 4 [a3] (fun v11_1 w =>
 condM v11_1
 (K (.tuple #[]) w)
 (callM Tryz.prog 48 #[a0, a1] (fun v14_2 w =>
 oM Tryz.prog (.alloc 84) 0 [] (fun v8_3 w =>
 oM Tryz.prog (.store 84 (.tmp 0) (.tmp 1)) 0 [v8_3, v14_2] (fun _ w =>
 oM Tryz.prog (.fieldAddr 84 (.tmp 0) 1) 0 [v8_3] (fun v15_4 w =>
 oM Tryz.prog (.load 9 (.tmp 0)) 9 [v15_4] (fun v16_5 w =>
 callM Tryz.prog 67 #[v16_5, a2, a3] (fun v19_6 w =>
 oM Tryz.prog (.fieldAddr 84 (.tmp 0) 1) 0 [v8_3] (fun v20_7 w =>
 oM Tryz.prog (.store 9 (.tmp 0) (.tmp 1)) 0 [v20_7, v19_6] (fun _ w =>
 oM Tryz.prog (.load 84 (.tmp 0)) 84 [v8_3] (fun v22_8 w =>
 callM Tryz.prog 68 #[a0, v22_8] (fun v23_9 w =>
 oM Tryz.prog (.binOp .quo 3 (.tmp 0) (.tmp 1) 3) 3 [a2, (.int .i64 64)] (fun v25_10 w =>
 loopM [v25_10] w (fun J_11 m_12 l_13 u_l_13 w0_l_13 => (fun w => (
 oM Tryz.prog (.call (Go.Call.mk (.builtin .len) #[(.tmp 0)] #[9])) 3 [a3] (fun v29_14 w =>
 oM Tryz.prog (.binOp .add 3 (.tmp 0) (.tmp 1) 3) 3 [a2, v29_14] (fun v30_15 w =>
 oM Tryz.prog (.binOp .sub 3 (.tmp 0) (.tmp 1) 3) 3 [v30_15, (.int .i64 1)] (fun v31_16 w =>
 oM Tryz.prog (.binOp .quo 3 (.tmp 0) (.tmp 1) 3) 3 [v31_16, (.int .i64 64)] (fun v32_17 w =>
 oM Tryz.prog (.binOp .leq 3 (.tmp 0) (.tmp 1) 3) 4 [(l_13.getD 0 undef), v32_17] (fun v33_18 w =>
 condM v33_18
 (joinM (fun M_19 => (callM Tryz.prog 83 #[a0, a1, (l_13.getD 0 undef)] (fun v39_21 w =>
 oM Tryz.prog (.unOp .not 4 (.tmp 0)) 4 [v39_21] (fun v40_22 w =>
 condM v40_22
 (oM Tryz.prog (.nilCheck (.tmp 0)) 0 [a0] (fun v43_23 w =>
 oM Tryz.prog (.fieldAddr 64 (.tmp 0) 1) 0 [v43_23] (fun v44_24 w =>
 oM Tryz.prog (.load 62 (.tmp 0)) 62 [v44_24] (fun v45_25 w =>
 oM Tryz.prog (.build 82 #[(0, (.tmp 0)), (1, (.tmp 1))]) 82 [a1, (l_13.getD 0 undef)] (fun v48_26 w =>
 oM Tryz.prog (.buildSlice 62 1 #[(0, (.tmp 0))]) 62 [v48_26] (fun v49_27 w =>
 oM Tryz.prog (.call (Go.Call.mk (.builtin .append) #[(.tmp 0), (.tmp 1)] #[62, 62])) 62 [v45_25, v49_27] (fun v50_28 w =>
 oM Tryz.prog (.nilCheck (.tmp 0)) 0 [a0] (fun v51_29 w =>
 oM Tryz.prog (.fieldAddr 64 (.tmp 0) 1) 0 [v51_29] (fun v52_30 w =>
 oM Tryz.prog (.store 62 (.tmp 0) (.tmp 1)) 0 [v52_30, v50_28] (fun _ w =>
 M_19 [] w) w) w) w) w) w) w) w) w) w)
 (M_19 [] w)) w) w))
 (fun l_20 u_l_20 w => (oM Tryz.prog (.binOp .add 3 (.tmp 0) (.tmp 1) 3) 3 [(l_13.getD 0 undef), (.int .i64 1)] (fun v35_31 w =>
 J_11 [v35_31] w ∧ m_12 [v35_31] w < m_12 l_13 w0_l_13) w)))
 (K (.tuple #[]) w)) w) w) w) w) w)) w0_l_13)) w) w) w) w) w) w) w) w) w) w) w)) w
theorem rf_66_eq (a0 : Value) (a1 : Value) (a2 : Value) (a3 : Value) (K : Value → World → Prop) (w : World) : rf_66 a0 a1 a2 a3 K w = code Tryz.prog (fun _ => 0) 53 (Tryz.f66.body.getD .skip) (slotsAt [a0, a1, a2, a3]) (retK Tryz.prog [] K) w := by kernel_rfl
theorem rf_66_ok {a0 a1 a2 a3 : Value} {K : Value → World → Prop} {w : World} (h : rf_66 a0 a1 a2 a3 K w) : callM Tryz.prog 66 #[a0, a1, a2, a3] K w :=
  calls_of_code (fun _ => 0) (fn := Tryz.f66) (rs := []) Tryz.func66 rfl rfl (by kernel_rfl) (Nat.le_of_ble_eq_true rfl) ((rf_66_eq a0 a1 a2 a3 K w).mp h)
def rf_68 (a0 : Value) (a1 : Value) (K : Value → World → Prop) (w : World) : Prop :=
 oM Tryz.prog (.box 84 (.tmp 0)) 0 [a1] (fun v3_1 w =>
 loopM [(.slice none 0 0), (.int .i64 0)] w (fun J_2 m_3 l_4 u_l_4 w0_l_4 => (fun w => (
 oM Tryz.prog (.nilCheck (.tmp 0)) 0 [a0] (fun v8_5 w =>
 oM Tryz.prog (.fieldAddr 64 (.tmp 0) 0) 0 [v8_5] (fun v9_6 w =>
 oM Tryz.prog (.load 61 (.tmp 0)) 61 [v9_6] (fun v10_7 w =>
 oM Tryz.prog (.call (Go.Call.mk (.builtin .len) #[(.tmp 0)] #[61])) 3 [v10_7] (fun v11_8 w =>
 oM Tryz.prog (.binOp .lss 3 (.tmp 0) (.tmp 1) 3) 4 [(l_4.getD 1 undef), v11_8] (fun v12_9 w =>
 condM v12_9
 (joinM (fun M_10 => (quietM w (fun C_12 => (oQ Tryz.prog (.nilCheck (.tmp 0)) 0 [a0] C_12 (fun v16_13 =>
 oQ Tryz.prog (.fieldAddr 64 (.tmp 0) 0) 0 [v16_13] C_12 (fun v17_14 =>
 oQ Tryz.prog (.load 61 (.tmp 0)) 61 [v17_14] C_12 (fun v18_15 =>
 oQ Tryz.prog (.indexAddr 61 (.tmp 0) (.tmp 1)) 0 [v18_15, (l_4.getD 1 undef)] C_12 (fun v20_16 =>
 oQ Tryz.prog (.fieldAddr 84 (.tmp 0) 0) 0 [v20_16] C_12 (fun v21_17 =>
 oQ Tryz.prog (.load 3 (.tmp 0)) 3 [v21_17] C_12 (fun v22_18 =>
 oQ Tryz.prog (.fieldAddr 84 (.tmp 0) 0) 0 [v3_1] C_12 (fun v23_19 =>
 oQ Tryz.prog (.load 3 (.tmp 0)) 3 [v23_19] C_12 (fun v24_20 =>
 oQ Tryz.prog (.binOp .neq 3 (.tmp 0) (.tmp 1) 3) 4 [v22_18, v24_20] C_12 (fun v25_21 =>
 ∀ w, C_12 w → (condM v25_21
 (oM Tryz.prog (.nilCheck (.tmp 0)) 0 [a0] (fun v28_22 w =>
 oM Tryz.prog (.fieldAddr 64 (.tmp 0) 0) 0 [v28_22] (fun v29_23 w =>
 oM Tryz.prog (.load 61 (.tmp 0)) 61 [v29_23] (fun v30_24 w =>
 oM Tryz.prog (.indexAddr 61 (.tmp 0) (.tmp 1)) 0 [v30_24, (l_4.getD 1 undef)] (fun v32_25 w =>
 oM Tryz.prog (.load 84 (.tmp 0)) 84 [v32_25] (fun v33_26 w =>
 oM Tryz.prog (.buildSlice 61 1 #[(0, (.tmp 0))]) 61 [v33_26] (fun v34_27 w =>
 oM Tryz.prog (.call (Go.Call.mk (.builtin .append) #[(.tmp 0), (.tmp 1)] #[61, 61])) 61 [(l_4.getD 0 undef), v34_27] (fun v35_28 w =>
 M_10 [v35_28] w) w) w) w) w) w) w) w)
 (M_10 [(l_4.getD 0 undef)] w)))))))))))))))
 (fun l_11 u_l_11 w => (oM Tryz.prog (.binOp .add 3 (.tmp 0) (.tmp 1) 3) 3 [(l_4.getD 1 undef), (.int .i64 1)] (fun v14_29 w =>
 J_2 [(l_11.getD 0 undef), v14_29] w ∧ m_3 [(l_11.getD 0 undef), v14_29] w < m_3 l_4 w0_l_4) w)))
 (oM Tryz.prog (.load 84 (.tmp 0)) 84 [v3_1] (fun v38_30 w =>
 oM Tryz.prog (.buildSlice 61 1 #[(0, (.tmp 0))]) 61 [v38_30] (fun v39_31 w =>
 oM Tryz.prog (.call (Go.Call.mk (.builtin .append) #[(.tmp 0), (.tmp 1)] #[61, 61])) 61 [(l_4.getD 0 undef), v39_31] (fun v40_32 w =>
 oM Tryz.prog (.nilCheck (.tmp 0)) 0 [a0] (fun v41_33 w =>
 oM Tryz.prog (.fieldAddr 64 (.tmp 0) 0) 0 [v41_33] (fun v42_34 w =>
 oM Tryz.prog (.store 61 (.tmp 0) (.tmp 1)) 0 [v42_34, v40_32] (fun _ w =>
 K (.tuple #[]) w) w) w) w) w) w) w)) w) w) w) w) w)) w0_l_4)) w
theorem rf_68_eq (a0 : Value) (a1 : Value) (K : Value → World → Prop) (w : World) : rf_68 a0 a1 K w = code Tryz.prog (fun _ => 0) 43 (Tryz.f68.body.getD .skip) (slotsAt [a0, a1]) (retK Tryz.prog [] K) w := by kernel_rfl
theorem rf_68_ok {a0 a1 : Value} {K : Value → World → Prop} {w : World} (h : rf_68 a0 a1 K w) : callM Tryz.prog 68 #[a0, a1] K w :=
  calls_of_code (fun _ => 0) (fn := Tryz.f68) (rs := []) Tryz.func68 rfl rfl (by kernel_rfl) (Nat.le_of_ble_eq_true rfl) ((rf_68_eq a0 a1 K w).mp h)
def rf_67 (a0 : Value) (a1 : Value) (a2 : Value) (K : Value → World → Prop) (w : World) : Prop :=
 oM Tryz.prog (.binOp .eql 9 (.tmp 0) (.const (.string ⟨#[]⟩)) 9) 4 [a2] (fun v10_1 w =>
 condM v10_1
 (K a0 w)
 (oM Tryz.prog (.convert 9 96 (.tmp 0)) 96 [a0] (fun v13_2 w =>
 loopM [v13_2] w (fun J_3 m_4 l_5 u_l_5 w0_l_5 => (fun w => (
 oM Tryz.prog (.call (Go.Call.mk (.builtin .len) #[(.tmp 0)] #[96])) 3 [(l_5.getD 0 undef)] (fun v15_6 w =>
 oM Tryz.prog (.call (Go.Call.mk (.builtin .len) #[(.tmp 0)] #[9])) 3 [a2] (fun v18_7 w =>
 oM Tryz.prog (.binOp .add 3 (.tmp 0) (.tmp 1) 3) 3 [a1, v18_7] (fun v19_8 w =>
 oM Tryz.prog (.binOp .lss 3 (.tmp 0) (.tmp 1) 3) 4 [v15_6, v19_8] (fun v20_9 w =>
 condM v20_9
 (oM Tryz.prog (.buildSlice 96 1 #[(0, (.tmp 0))]) 96 [(.int .u8 0)] (fun v22_10 w =>
 oM Tryz.prog (.call (Go.Call.mk (.builtin .append) #[(.tmp 0), (.tmp 1)] #[96, 96])) 96 [(l_5.getD 0 undef), v22_10] (fun v23_11 w =>
 J_3 [v23_11] w ∧ m_4 [v23_11] w < m_4 l_5 w0_l_5) w) w)
 (loopM [(.int .i64 0)] w (fun J_12 m_13 l_14 u_l_14 w0_l_14 => (fun w => (
 oM Tryz.prog (.call (Go.Call.mk (.builtin .len) #[(.tmp 0)] #[9])) 3 [a2] (fun v26_15 w =>
 oM Tryz.prog (.binOp .lss 3 (.tmp 0) (.tmp 1) 3) 4 [(l_14.getD 0 undef), v26_15] (fun v27_16 w =>
 condM v27_16
 (oM Tryz.prog (.binOp .add 3 (.tmp 0) (.tmp 1) 3) 3 [a1, (l_14.getD 0 undef)] (fun v33_17 w =>
 oM Tryz.prog (.index 9 (.tmp 0) (.tmp 1)) 5 [a2, (l_14.getD 0 undef)] (fun v36_18 w =>
 oM Tryz.prog (.indexAddr 96 (.tmp 0) (.tmp 1)) 0 [(l_5.getD 0 undef), v33_17] (fun v37_19 w =>
 oM Tryz.prog (.store 5 (.tmp 0) (.tmp 1)) 0 [v37_19, v36_18] (fun _ w =>
 oM Tryz.prog (.binOp .add 3 (.tmp 0) (.tmp 1) 3) 3 [(l_14.getD 0 undef), (.int .i64 1)] (fun v29_20 w =>
 J_12 [v29_20] w ∧ m_13 [v29_20] w < m_13 l_14 w0_l_14) w) w) w) w) w)
 (oM Tryz.prog (.convert 96 9 (.tmp 0)) 9 [(l_5.getD 0 undef)] (fun v39_21 w =>
 K v39_21 w) w)) w) w)) w0_l_14))) w) w) w) w)) w0_l_5)) w)) w
theorem rf_67_eq (a0 : Value) (a1 : Value) (a2 : Value) (K : Value → World → Prop) (w : World) : rf_67 a0 a1 a2 K w = code Tryz.prog (fun _ => 0) 40 (Tryz.f67.body.getD .skip) (slotsAt [a0, a1, a2]) (retK Tryz.prog [.tmp 6] K) w := by kernel_rfl
theorem rf_67_ok {a0 a1 a2 : Value} {K : Value → World → Prop} {w : World} (h : rf_67 a0 a1 a2 K w) : callM Tryz.prog 67 #[a0, a1, a2] K w :=
  calls_of_code (fun _ => 0) (fn := Tryz.f67) (rs := [.tmp 6]) Tryz.func67 rfl rfl (by kernel_rfl) (Nat.le_of_ble_eq_true rfl) ((rf_67_eq a0 a1 a2 K w).mp h)
def rf_83 (a0 : Value) (a1 : Value) (a2 : Value) (K : Value → World → Prop) (w : World) : Prop :=
 loopM [(.bool false), (.int .i64 0)] w (fun J_1 m_2 l_3 u_l_3 w0_l_3 => (fun w => (
 oM Tryz.prog (.nilCheck (.tmp 0)) 0 [a0] (fun v10_4 w =>
 oM Tryz.prog (.fieldAddr 64 (.tmp 0) 1) 0 [v10_4] (fun v11_5 w =>
 oM Tryz.prog (.load 62 (.tmp 0)) 62 [v11_5] (fun v12_6 w =>
 oM Tryz.prog (.call (Go.Call.mk (.builtin .len) #[(.tmp 0)] #[62])) 3 [v12_6] (fun v13_7 w =>
 oM Tryz.prog (.binOp .lss 3 (.tmp 0) (.tmp 1) 3) 4 [(l_3.getD 1 undef), v13_7] (fun v14_8 w =>
 condM v14_8
 (oM Tryz.prog (.nilCheck (.tmp 0)) 0 [a0] (fun v18_9 w =>
 oM Tryz.prog (.fieldAddr 64 (.tmp 0) 1) 0 [v18_9] (fun v19_10 w =>
 oM Tryz.prog (.load 62 (.tmp 0)) 62 [v19_10] (fun v20_11 w =>
 oM Tryz.prog (.indexAddr 62 (.tmp 0) (.tmp 1)) 0 [v20_11, (l_3.getD 1 undef)] (fun v22_12 w =>
 oM Tryz.prog (.fieldAddr 82 (.tmp 0) 0) 0 [v22_12] (fun v23_13 w =>
 oM Tryz.prog (.load 3 (.tmp 0)) 3 [v23_13] (fun v24_14 w =>
 oM Tryz.prog (.binOp .eql 3 (.tmp 0) (.tmp 1) 3) 4 [v24_14, a1] (fun v26_15 w =>
 gdM (gd v26_15 true) (pureM a0) (fun v28_16 w =>
 gdM (gd v26_15 true) (oM Tryz.prog (.nilCheck (.tmp 0)) 0 [v28_16]) (fun v29_17 w =>
 gdM (gd v26_15 true) (oM Tryz.prog (.fieldAddr 64 (.tmp 0) 1) 0 [v29_17]) (fun v30_18 w =>
 gdM (gd v26_15 true) (oM Tryz.prog (.load 62 (.tmp 0)) 62 [v30_18]) (fun v31_19 w =>
 gdM (gd v26_15 true) (pureM (l_3.getD 1 undef)) (fun v32_20 w =>
 gdM (gd v26_15 true) (oM Tryz.prog (.indexAddr 62 (.tmp 0) (.tmp 1)) 0 [v31_19, v32_20]) (fun v33_21 w =>
 gdM (gd v26_15 true) (oM Tryz.prog (.fieldAddr 82 (.tmp 0) 1) 0 [v33_21]) (fun v34_22 w =>
 gdM (gd v26_15 true) (oM Tryz.prog (.load 3 (.tmp 0)) 3 [v34_22]) (fun v35_23 w =>
 gdM (gd v26_15 true) (pureM a2) (fun v36_24 w =>
 gdM (gd v26_15 true) (oM Tryz.prog (.binOp .eql 3 (.tmp 0) (.tmp 1) 3) 4 [v35_23, v36_24]) (fun v37_25 w =>
 oM Tryz.prog (.pick (.tmp 0) (.tmp 1) (.tmp 2)) 4 [v26_15, v37_25, (.bool false)] (fun v38_26 w =>
 condM v38_26
 (K (.bool true) w)
 (oM Tryz.prog (.binOp .add 3 (.tmp 0) (.tmp 1) 3) 3 [(l_3.getD 1 undef), (.int .i64 1)] (fun v16_27 w =>
 J_1 [(l_3.getD 0 undef), v16_27] w ∧ m_2 [(l_3.getD 0 undef), v16_27] w < m_2 l_3 w0_l_3) w)) w) w) w) w) w) w) w) w) w) w) w) w) w) w) w) w) w) w)
 (K (.bool false) w)) w) w) w) w) w)) w0_l_3)
theorem rf_83_eq (a0 : Value) (a1 : Value) (a2 : Value) (K : Value → World → Prop) (w : World) : rf_83 a0 a1 a2 K w = code Tryz.prog (fun _ => 0) 39 (Tryz.f83.body.getD .skip) (slotsAt [a0, a1, a2]) (retK Tryz.prog [.tmp 6] K) w := by kernel_rfl
theorem rf_83_ok {a0 a1 a2 : Value} {K : Value → World → Prop} {w : World} (h : rf_83 a0 a1 a2 K w) : callM Tryz.prog 83 #[a0, a1, a2] K w :=
  calls_of_code (fun _ => 0) (fn := Tryz.f83) (rs := [.tmp 6]) Tryz.func83 rfl rfl (by kernel_rfl) (Nat.le_of_ble_eq_true rfl) ((rf_83_eq a0 a1 a2 K w).mp h)
end Go.Proofs
set_option linter.unusedVariables false
set_option maxRecDepth 100000
namespace Go.Proofs
open Go Go.Sh
def sh_9 (a0 : Value) (a1 : Value) (K : Value → World → Prop) (w : World) : Prop :=
 oM Tryz.prog (.binOp .lss 3 (.tmp 0) (.tmp 1) 3) 4 [a1, (.int .i64 0)] (fun v11_1 w =>
 gdM (gd v11_1 false) (pureM a1) (fun v13_2 w =>
 gdM (gd v11_1 false) (oM Tryz.prog (.binOp .gtr 3 (.tmp 0) (.tmp 1) 3) 4 [v13_2, (.int .i64 15)]) (fun v14_3 w =>
 oM Tryz.prog (.pick (.tmp 0) (.tmp 1) (.tmp 2)) 4 [v11_1, (.bool true), v14_3] (fun v15_4 w =>
 condM v15_4
 (K (.tuple #[(.pointer none), (.int .i64 1)]) w)
 (callM Tryz.prog 36 #[a0, a1] (fun v18_5 w =>
 oM Tryz.prog (.binOp .neq 30 (.tmp 0) (.const (.int .i64 0)) 30) 4 [v18_5] (fun v20_6 w =>
 condM v20_6
 (K (.tuple #[(.pointer none), v18_5]) w)
 (callM Tryz.prog 29 #[a0, a1] (fun v27_7 w =>
 callM Tryz.prog 28 #[a0, a1, (.int .i64 0), v27_7] (fun v28_8 w =>
 oM Tryz.prog (.extract (.tmp 0) 0) 9 [v28_8] (fun v29_9 w =>
 oM Tryz.prog (.extract (.tmp 0) 1) 30 [v28_8] (fun v30_10 w =>
 oM Tryz.prog (.binOp .neq 30 (.tmp 0) (.const (.int .i64 0)) 30) 4 [v30_10] (fun v32_11 w =>
 condM v32_11
 (K (.tuple #[(.pointer none), v30_10]) w)
 (callM Tryz.prog 37 #[v29_9] (fun v37_12 w =>
 oM Tryz.prog (.build 49 #[(0, (.tmp 0)), (1, (.tmp 1)), (2, (.tmp 2))]) 49 [a0, a1, v37_12] (fun v38_13 w =>
 oM Tryz.prog (.box 49 (.tmp 0)) 33 [v38_13] (fun v39_14 w =>
 oM Tryz.prog (.nilCheck (.tmp 0)) 0 [v39_14] (fun v41_15 w =>
 oM Tryz.prog (.fieldAddr 49 (.tmp 0) 2) 0 [v41_15] (fun v42_16 w =>
 oM Tryz.prog (.load 46 (.tmp 0)) 46 [v42_16] (fun v43_17 w =>
 callM Tryz.prog 38 #[v43_17] (fun v44_18 w =>
 oM Tryz.prog (.call (Go.Call.mk (.builtin .len) #[(.tmp 0)] #[9])) 3 [v44_18] (fun v45_19 w =>
 joinM (fun M_20 => (oM Tryz.prog (.call (Go.Call.mk (.builtin .len) #[(.tmp 0)] #[9])) 3 [v29_9] (fun v48_22 w =>
 oM Tryz.prog (.binOp .lss 3 (.tmp 0) (.tmp 1) 3) 4 [v45_19, v48_22] (fun v49_23 w =>
 condM v49_23
 (callM Tryz.prog 39 #[a0, a1, v45_19] (fun v53_24 w =>
 M_20 [v53_24] w) w)
 (M_20 [v30_10] w)) w) w))
 (fun l_21 u_l_21 w => (oM Tryz.prog (.binOp .neq 30 (.tmp 0) (.const (.int .i64 0)) 30) 4 [(l_21.getD 0 undef)] (fun v55_25 w =>
 condM v55_25
 (K (.tuple #[(.pointer none), (l_21.getD 0 undef)]) w)
 (K (.tuple #[v39_14, (.int .i64 0)]) w)) w))) w) w) w) w) w) w) w) w)) w) w) w) w) w)) w) w)) w) w) w) w
theorem sh_9_eq (a0 : Value) (a1 : Value) (K : Value → World → Prop) (w : World) : sh_9 a0 a1 K w = code Tryz.prog (fun _ => 0) 58 (Tryz.f9.body.getD .skip) (slotsAt [a0, a1]) (retK Tryz.prog [.tmp 4, .tmp 5] K) w := by kernel_rfl
theorem sh_9_ok {a0 a1 : Value} {K : Value → World → Prop} {w : World} (h : sh_9 a0 a1 K w) : callM Tryz.prog 9 #[a0, a1] K w :=
  calls_of_code (fun _ => 0) (fn := Tryz.f9) (rs := [.tmp 4, .tmp 5]) Tryz.func9 rfl rfl (by kernel_rfl) (Nat.le_of_ble_eq_true rfl) ((sh_9_eq a0 a1 K w).mp h)
def loop_11_1 (J_1 : List Value → World → Prop) (K : Value → World → Prop) (a0 : Value) (l_3 : List Value) (m_2 : List Value → World → Nat) (w0_l_3 : World) : Prop :=
(fun w => (
 oM Tryz.prog (.call (Go.Call.mk (.builtin .len) #[(.tmp 0)] #[9])) 3 [a0] (fun v7_4 w =>
 oM Tryz.prog (.binOp .lss 3 (.tmp 0) (.tmp 1) 3) 4 [(l_3.getD 1 undef), v7_4] (fun v8_5 w =>
 condM v8_5
 (oM Tryz.prog (.index 9 (.tmp 0) (.tmp 1)) 5 [a0, (l_3.getD 1 undef)] (fun v14_6 w =>
 oM Tryz.prog (.convert 5 3 (.tmp 0)) 3 [v14_6] (fun v15_7 w =>
 oM Tryz.prog (.binOp .add 3 (.tmp 0) (.tmp 1) 3) 3 [(l_3.getD 1 undef), (.int .i64 1)] (fun v17_8 w =>
 oM Tryz.prog (.binOp .mul 3 (.tmp 0) (.tmp 1) 3) 3 [v15_7, v17_8] (fun v18_9 w =>
 oM Tryz.prog (.binOp .add 3 (.tmp 0) (.tmp 1) 3) 3 [(l_3.getD 0 undef), v18_9] (fun v19_10 w =>
 oM Tryz.prog (.binOp .add 3 (.tmp 0) (.tmp 1) 3) 3 [(l_3.getD 1 undef), (.int .i64 1)] (fun v10_11 w =>
 J_1 [v19_10, v10_11] w ∧ m_2 [v19_10, v10_11] w < m_2 l_3 w0_l_3) w) w) w) w) w) w)
 (K (l_3.getD 0 undef) w)) w) w)) w0_l_3
def sh_11 (a0 : Value) (K : Value → World → Prop) (w : World) : Prop :=
 loopM [(.int .i64 0), (.int .i64 0)] w (fun J_1 m_2 l_3 u_l_3 w0_l_3 => loop_11_1 J_1 K a0 l_3 m_2 w0_l_3)
theorem sh_11_eq (a0 : Value) (K : Value → World → Prop) (w : World) : sh_11 a0 K w = code Tryz.prog (fun _ => 0) 21 (Tryz.f11.body.getD .skip) (slotsAt [a0]) (retK Tryz.prog [.tmp 2] K) w := by kernel_rfl
theorem sh_11_ok {a0 : Value} {K : Value → World → Prop} {w : World} (h : sh_11 a0 K w) : callM Tryz.prog 11 #[a0] K w :=
  calls_of_code (fun _ => 0) (fn := Tryz.f11) (rs := [.tmp 2]) Tryz.func11 rfl rfl (by kernel_rfl) (Nat.le_of_ble_eq_true rfl) ((sh_11_eq a0 K w).mp h)
def held_13_15 (K : Value → World → Prop) (a0 : Value) (a1 : Value) (v19_10 : Value) (w : World) : Prop :=
 heldM w (fun C_15 w => (((true : Bool) = true) ∧ (pureH a0 C_15 (fun v26_16 =>
 oH Tryz.prog (.nilCheck (.tmp 0)) 0 [v26_16] C_15 (fun v27_17 =>
 oH Tryz.prog (.fieldAddr 49 (.tmp 0) 0) 0 [v27_17] C_15 (fun v28_18 =>
 oH Tryz.prog (.load 27 (.tmp 0)) 27 [v28_18] C_15 (fun v29_19 =>
 pureH a0 C_15 (fun v30_20 =>
 oH Tryz.prog (.nilCheck (.tmp 0)) 0 [v30_20] C_15 (fun v31_21 =>
 oH Tryz.prog (.fieldAddr 49 (.tmp 0) 1) 0 [v31_21] C_15 (fun v32_22 =>
 oH Tryz.prog (.load 3 (.tmp 0)) 3 [v32_22] C_15 (fun v33_23 =>
 pureH v19_10 C_15 (fun v34_24 =>
 pureH a1 C_15 (fun v35_25 =>
 ∃ S_26 : World → World → Prop, ∃ R_27 : Value → World → Prop, (∀ v w w_1, S_26 w w_1 → R_27 v w → R_27 v w_1) ∧
 (∀ w, C_15 w → (callM Tryz.prog 41 #[v35_25] (fun v w_1 => C_15 w_1 ∧ S_26 w w_1 ∧ R_27 v w_1) w)) ∧
 (∀ w, C_15 w → ∀ v36_28, R_27 v36_28 w → (
 callM Tryz.prog 42 #[v29_19, v33_23, v34_24, v36_28] (fun v37_29 w =>
 oM Tryz.prog (.binOp .neq 30 (.tmp 0) (.const (.int .i64 0)) 30) 4 [v37_29] (fun v39_30 w =>
 condM v39_30
 (oM Tryz.prog (.nilCheck (.tmp 0)) 0 [a0] (fun v41_31 w =>
 oM Tryz.prog (.fieldAddr 49 (.tmp 0) 3) 0 [v41_31] (fun v42_32 w =>
 oM Tryz.prog (.store 4 (.tmp 0) (.tmp 1)) 0 [v42_32, (.bool true)] (fun _ w =>
 K v37_29 w) w) w) w)
 (oM Tryz.prog (.buildSlice 46 0 #[]) 46 [] (fun v45_33 w =>
 oM Tryz.prog (.nilCheck (.tmp 0)) 0 [a0] (fun v47_34 w =>
 oM Tryz.prog (.fieldAddr 49 (.tmp 0) 2) 0 [v47_34] (fun v48_35 w =>
 oM Tryz.prog (.load 46 (.tmp 0)) 46 [v48_35] (fun v49_36 w =>
 oM Tryz.prog (.call (Go.Call.mk (.builtin .append) #[(.tmp 0), (.tmp 1)] #[46, 46])) 46 [v45_33, v49_36] (fun v50_37 w =>
 oM Tryz.prog (.buildSlice 46 1 #[(0, (.tmp 0))]) 46 [a1] (fun v52_38 w =>
 oM Tryz.prog (.call (Go.Call.mk (.builtin .append) #[(.tmp 0), (.tmp 1)] #[46, 46])) 46 [v50_37, v52_38] (fun v53_39 w =>
 oM Tryz.prog (.nilCheck (.tmp 0)) 0 [a0] (fun v54_40 w =>
 oM Tryz.prog (.fieldAddr 49 (.tmp 0) 2) 0 [v54_40] (fun v55_41 w =>
 oM Tryz.prog (.store 46 (.tmp 0) (.tmp 1)) 0 [v55_41, v53_39] (fun _ w =>
 K (.int .i64 0) w) w) w) w) w) w) w) w) w) w) w)) w) w)))))))))))))))
def sh_13 (a0 : Value) (a1 : Value) (K : Value → World → Prop) (w : World) : Prop :=
 oM Tryz.prog (.nilCheck (.tmp 0)) 0 [a0] (fun v8_1 w =>
 oM Tryz.prog (.fieldAddr 49 (.tmp 0) 3) 0 [v8_1] (fun v9_2 w =>
 oM Tryz.prog (.load 4 (.tmp 0)) 4 [v9_2] (fun v10_3 w =>
 condM v10_3
 (K (.int .i64 7) w)
 (oM Tryz.prog (.call (Go.Call.mk (.builtin .len) #[(.tmp 0)] #[9])) 3 [a1] (fun v12_4 w =>
 oM Tryz.prog (.binOp .gtr 3 (.tmp 0) (.tmp 1) 3) 4 [v12_4, (.int .i64 20000)] (fun v13_5 w =>
 condM v13_5
 (K (.int .i64 3) w)
 (oM Tryz.prog (.nilCheck (.tmp 0)) 0 [a0] (fun v15_6 w =>
 oM Tryz.prog (.fieldAddr 49 (.tmp 0) 2) 0 [v15_6] (fun v16_7 w =>
 oM Tryz.prog (.load 46 (.tmp 0)) 46 [v16_7] (fun v17_8 w =>
 callM Tryz.prog 38 #[v17_8] (fun v18_9 w =>
 oM Tryz.prog (.call (Go.Call.mk (.builtin .len) #[(.tmp 0)] #[9])) 3 [v18_9] (fun v19_10 w =>
 callM Tryz.prog 41 #[a1] (fun v22_11 w =>
 oM Tryz.prog (.call (Go.Call.mk (.builtin .len) #[(.tmp 0)] #[9])) 3 [v22_11] (fun v23_12 w =>
 oM Tryz.prog (.binOp .add 3 (.tmp 0) (.tmp 1) 3) 3 [v19_10, v23_12] (fun v24_13 w =>
 oM Tryz.prog (.binOp .gtr 3 (.tmp 0) (.tmp 1) 3) 4 [v24_13, (.int .i64 1048576)] (fun v25_14 w =>
 condM v25_14
 (K (.int .i64 6) w)
 (held_13_15 K a0 a1 v19_10 w)) w) w) w) w) w) w) w) w) w)) w) w)) w) w) w
theorem sh_13_eq (a0 : Value) (a1 : Value) (K : Value → World → Prop) (w : World) : sh_13 a0 a1 K w = code Tryz.prog (fun _ => .free [0, 1, 2, 3, 4, 5, 6, 7, 8, 9] [10] [11, 12]) 56 (Tryz.f13.body.getD .skip) (slotsAt [a0, a1]) (retK Tryz.prog [.tmp 4] K) w := by kernel_rfl
theorem sh_13_ok {a0 a1 : Value} {K : Value → World → Prop} {w : World} (h : sh_13 a0 a1 K w) : callM Tryz.prog 13 #[a0, a1] K w :=
  calls_of_code (fun _ => .free [0, 1, 2, 3, 4, 5, 6, 7, 8, 9] [10] [11, 12]) (fn := Tryz.f13) (rs := [.tmp 4]) Tryz.func13 rfl rfl (by kernel_rfl) (Nat.le_of_ble_eq_true rfl) ((sh_13_eq a0 a1 K w).mp h)
def held_15_4 (K : Value → World → Prop) (a0 : Value) (w : World) : Prop :=
 heldM w (fun C_4 w => (((true : Bool) = true) ∧ (pureH a0 C_4 (fun v8_5 =>
 oH Tryz.prog (.nilCheck (.tmp 0)) 0 [v8_5] C_4 (fun v9_6 =>
 oH Tryz.prog (.fieldAddr 49 (.tmp 0) 0) 0 [v9_6] C_4 (fun v10_7 =>
 oH Tryz.prog (.load 27 (.tmp 0)) 27 [v10_7] C_4 (fun v11_8 =>
 pureH a0 C_4 (fun v12_9 =>
 oH Tryz.prog (.nilCheck (.tmp 0)) 0 [v12_9] C_4 (fun v13_10 =>
 oH Tryz.prog (.fieldAddr 49 (.tmp 0) 1) 0 [v13_10] C_4 (fun v14_11 =>
 oH Tryz.prog (.load 3 (.tmp 0)) 3 [v14_11] C_4 (fun v15_12 =>
 ∃ S_13 : World → World → Prop, ∀ w, C_4 w → (
 callM Tryz.prog 36 #[v11_8, v15_12] (fun v16_14 w =>
 oM Tryz.prog (.binOp .neq 30 (.tmp 0) (.const (.int .i64 0)) 30) 4 [v16_14] (fun v19_15 w =>
 oM Tryz.prog (.nilCheck (.tmp 0)) 0 [a0] (fun v20_16 w =>
 oM Tryz.prog (.fieldAddr 49 (.tmp 0) 3) 0 [v20_16] (fun v21_17 w =>
 oM Tryz.prog (.store 4 (.tmp 0) (.tmp 1)) 0 [v21_17, v19_15] (fun _ w =>
 K v16_14 w) w) w) w) w) w))))))))))))
def sh_15 (a0 : Value) (K : Value → World → Prop) (w : World) : Prop :=
 oM Tryz.prog (.nilCheck (.tmp 0)) 0 [a0] (fun v5_1 w =>
 oM Tryz.prog (.fieldAddr 49 (.tmp 0) 3) 0 [v5_1] (fun v6_2 w =>
 oM Tryz.prog (.load 4 (.tmp 0)) 4 [v6_2] (fun v7_3 w =>
 condM v7_3
 (K (.int .i64 7) w)
 (held_15_4 K a0 w)) w) w) w
theorem sh_15_eq (a0 : Value) (K : Value → World → Prop) (w : World) : sh_15 a0 K w = code Tryz.prog (fun _ => .free [0, 1, 2, 3, 4, 5, 6, 7] [] [8, 9]) 23 (Tryz.f15.body.getD .skip) (slotsAt [a0]) (retK Tryz.prog [.tmp 2] K) w := by kernel_rfl
theorem sh_15_ok {a0 : Value} {K : Value → World → Prop} {w : World} (h : sh_15 a0 K w) : callM Tryz.prog 15 #[a0] K w :=
  calls_of_code (fun _ => .free [0, 1, 2, 3, 4, 5, 6, 7] [] [8, 9]) (fn := Tryz.f15) (rs := [.tmp 2]) Tryz.func15 rfl rfl (by kernel_rfl) (Nat.le_of_ble_eq_true rfl) ((sh_15_eq a0 K w).mp h)
def loop_37_2 (J_2 : List Value → World → Prop) (K : Value → World → Prop) (l_4 : List Value) (m_3 : List Value → World → Nat) (v8_1 : Value) (w0_l_4 : World) : Prop :=
(fun w => (
 callM Tryz.prog 58 #[v8_1] (fun v10_5 w =>
 oM Tryz.prog (.binOp .gtr 3 (.tmp 0) (.tmp 1) 3) 4 [v10_5, (.int .i64 0)] (fun v11_6 w =>
 condM v11_6
 (callM Tryz.prog 59 #[v8_1] (fun v13_7 w =>
 callM Tryz.prog 60 #[v8_1] (fun v15_8 w =>
 oM Tryz.prog (.nilCheck (.tmp 0)) 0 [v8_1] (fun v17_9 w =>
 oM Tryz.prog (.fieldAddr 94 (.tmp 0) 1) 0 [v17_9] (fun v18_10 w =>
 oM Tryz.prog (.load 4 (.tmp 0)) 4 [v18_10] (fun v19_11 w =>
 gdM (gd v19_11 false) (pureM v13_7) (fun v21_12 w =>
 gdM (gd v19_11 false) (oM Tryz.prog (.call (Go.Call.mk (.builtin .len) #[(.tmp 0)] #[9])) 3 [v21_12]) (fun v22_13 w =>
 gdM (gd v19_11 false) (oM Tryz.prog (.binOp .gtr 3 (.tmp 0) (.tmp 1) 3) 4 [v22_13, (.int .i64 20000)]) (fun v23_14 w =>
 oM Tryz.prog (.pick (.tmp 0) (.tmp 1) (.tmp 2)) 4 [v19_11, (.bool true), v23_14] (fun v24_15 w =>
 gdM (gd v24_15 false) (pureM v15_8) (fun v26_16 w =>
 gdM (gd v24_15 false) (pureM v13_7) (fun v27_17 w =>
 gdM (gd v24_15 false) (callM Tryz.prog 11 #[v27_17]) (fun v28_18 w =>
 gdM (gd v24_15 false) (oM Tryz.prog (.binOp .neq 3 (.tmp 0) (.tmp 1) 3) 4 [v26_16, v28_18]) (fun v29_19 w =>
 oM Tryz.prog (.pick (.tmp 0) (.tmp 1) (.tmp 2)) 4 [v24_15, (.bool true), v29_19] (fun v30_20 w =>
 condM v30_20
 (K (l_4.getD 3 undef) w)
 (oM Tryz.prog (.buildSlice 46 1 #[(0, (.tmp 0))]) 46 [v13_7] (fun v34_21 w =>
 oM Tryz.prog (.call (Go.Call.mk (.builtin .append) #[(.tmp 0), (.tmp 1)] #[46, 46])) 46 [(l_4.getD 3 undef), v34_21] (fun v35_22 w =>
 J_2 [v13_7, v15_8, (l_4.getD 2 undef), v35_22] w ∧ m_3 [v13_7, v15_8, (l_4.getD 2 undef), v35_22] w < m_3 l_4 w0_l_4) w) w)) w) w) w) w) w) w) w) w) w) w) w) w) w) w)
 (K (l_4.getD 3 undef) w)) w) w)) w0_l_4
def sh_37 (a0 : Value) (K : Value → World → Prop) (w : World) : Prop :=
 callM Tryz.prog 57 #[a0] (fun v8_1 w =>
 loopM [undef, undef, (.slice none 0 0), (.slice none 0 0)] w (fun J_2 m_3 l_4 u_l_4 w0_l_4 => loop_37_2 J_2 K l_4 m_3 v8_1 w0_l_4)) w
theorem sh_37_eq (a0 : Value) (K : Value → World → Prop) (w : World) : sh_37 a0 K w = code Tryz.prog (fun _ => 0) 37 (Tryz.f37.body.getD .skip) (slotsAt [a0]) (retK Tryz.prog [.tmp 2] K) w := by kernel_rfl
theorem sh_37_ok {a0 : Value} {K : Value → World → Prop} {w : World} (h : sh_37 a0 K w) : callM Tryz.prog 37 #[a0] K w :=
  calls_of_code (fun _ => 0) (fn := Tryz.f37) (rs := [.tmp 2]) Tryz.func37 rfl rfl (by kernel_rfl) (Nat.le_of_ble_eq_true rfl) ((sh_37_eq a0 K w).mp h)
def loop_38_1 (J_1 : List Value → World → Prop) (K : Value → World → Prop) (a0 : Value) (l_3 : List Value) (m_2 : List Value → World → Nat) (w0_l_3 : World) : Prop :=
(fun w => (
 oM Tryz.prog (.call (Go.Call.mk (.builtin .len) #[(.tmp 0)] #[46])) 3 [a0] (fun v7_4 w =>
 oM Tryz.prog (.binOp .lss 3 (.tmp 0) (.tmp 1) 3) 4 [(l_3.getD 1 undef), v7_4] (fun v8_5 w =>
 condM v8_5
 (oM Tryz.prog (.indexAddr 46 (.tmp 0) (.tmp 1)) 0 [a0, (l_3.getD 1 undef)] (fun v14_6 w =>
 oM Tryz.prog (.load 9 (.tmp 0)) 9 [v14_6] (fun v15_7 w =>
 callM Tryz.prog 41 #[v15_7] (fun v16_8 w =>
 oM Tryz.prog (.binOp .add 9 (.tmp 0) (.tmp 1) 9) 9 [(l_3.getD 0 undef), v16_8] (fun v17_9 w =>
 oM Tryz.prog (.binOp .add 3 (.tmp 0) (.tmp 1) 3) 3 [(l_3.getD 1 undef), (.int .i64 1)] (fun v10_10 w =>
 J_1 [v17_9, v10_10] w ∧ m_2 [v17_9, v10_10] w < m_2 l_3 w0_l_3) w) w) w) w) w)
 (K (l_3.getD 0 undef) w)) w) w)) w0_l_3
def sh_38 (a0 : Value) (K : Value → World → Prop) (w : World) : Prop :=
 loopM [(.string ⟨#[]⟩), (.int .i64 0)] w (fun J_1 m_2 l_3 u_l_3 w0_l_3 => loop_38_1 J_1 K a0 l_3 m_2 w0_l_3)
theorem sh_38_eq (a0 : Value) (K : Value → World → Prop) (w : World) : sh_38 a0 K w = code Tryz.prog (fun _ => 0) 19 (Tryz.f38.body.getD .skip) (slotsAt [a0]) (retK Tryz.prog [.tmp 2] K) w := by kernel_rfl
theorem sh_38_ok {a0 : Value} {K : Value → World → Prop} {w : World} (h : sh_38 a0 K w) : callM Tryz.prog 38 #[a0] K w :=
  calls_of_code (fun _ => 0) (fn := Tryz.f38) (rs := [.tmp 2]) Tryz.func38 rfl rfl (by kernel_rfl) (Nat.le_of_ble_eq_true rfl) ((sh_38_eq a0 K w).mp h)
def sh_41 (a0 : Value) (K : Value → World → Prop) (w : World) : Prop :=
 callM Tryz.prog 63 #[a0] (fun v4_1 w =>
 callM Tryz.prog 11 #[a0] (fun v6_2 w =>
 callM Tryz.prog 64 #[v6_2] (fun v7_3 w =>
 oM Tryz.prog (.binOp .add 9 (.tmp 0) (.tmp 1) 9) 9 [v4_1, v7_3] (fun v8_4 w =>
 K v8_4 w) w) w) w) w
theorem sh_41_eq (a0 : Value) (K : Value → World → Prop) (w : World) : sh_41 a0 K w = code Tryz.prog (fun _ => 0) 9 (Tryz.f41.body.getD .skip) (slotsAt [a0]) (retK Tryz.prog [.tmp 2] K) w := by kernel_rfl
theorem sh_41_ok {a0 : Value} {K : Value → World → Prop} {w : World} (h : sh_41 a0 K w) : callM Tryz.prog 41 #[a0] K w :=
  calls_of_code (fun _ => 0) (fn := Tryz.f41) (rs := [.tmp 2]) Tryz.func41 rfl rfl (by kernel_rfl) (Nat.le_of_ble_eq_true rfl) ((sh_41_eq a0 K w).mp h)
end Go.Proofs
namespace Go.Sh
open Go Go.RowKit
section
variable {P : Program} {K : Value → World → Prop} {w : World}
@[go_sem] theorem oM_lookup (t T : TypeId) (x i : Value) : oM P (.lookup t (.tmp 0) (.tmp 1) false) T [x, i] K w = rM ((Instr.lookup t x i false).run P w) K := rM_of rfl
@[go_sem] theorem oM_mapUpdate (t T : TypeId) (m k x : Value) : oM P (.mapUpdate t (.tmp 0) (.tmp 1) (.tmp 2)) T [m, k, x] K w = uM ((Instr.mapUpdate t m k x).run P w) K := by
  rw [oM_unit (S := Instr.mapUpdate t m k x) rfl]
@[go_sem] theorem oM_mapEntry (t T : TypeId) (m k : Value) : oM P (.mapEntry t (.tmp 0) (.tmp 1)) T [m, k] K w = rM ((Instr.mapEntry t m k).run P w) K := rM_of rfl
@[go_sem] theorem oM_entryStore (t T : TypeId) (m s x : Value) : oM P (.entryStore t (.tmp 0) (.tmp 1) (.tmp 2)) T [m, s, x] K w = uM ((Instr.entryStore t m s x).run P w) K := by
  rw [oM_unit (S := Instr.entryStore t m s x) rfl]
@[go_sem] theorem oM_makeMap (t T : TypeId) : oM P (.makeMap t none) T [] K w = K (.map (some w.heap.size)) (w.alloc (.map #[] 0)) := by
  rw [rM_of (S := Instr.makeMap t none) rfl, run_makeMap]
  rfl
@[go_sem] theorem oM_range (t T : TypeId) (x : Value) : oM P (.range t (.tmp 0)) T [x] K w = rM ((Instr.range t x).run P w) K := rM_of rfl
@[go_sem] theorem oM_next (T : TypeId) (s : Bool) (x : Value) : oM P (.next (.tmp 0) s) T [x] K w = rM ((Instr.next x s T).run P w) K := rM_of rfl
@[go_sem] theorem oM_entry (T : TypeId) (x : Value) : oM P (.entry (.tmp 0)) T [x] K w = rM ((Instr.entry x).run P w) K := rM_of rfl
@[go_sem] theorem oM_delete (T : TypeId) (ts : Array TypeId) (x y : Value) : oM P (.call { callee := .builtin .delete, args := #[.tmp 0, .tmp 1], argTypes := ts }) T [x, y] K w = rM ((Builtin.delete_ ts T #[x, y]).run P w) K :=
  rM_of (by simp [xop, execOp, evalL, evE, resolve, invoke, builtin])
@[go_sem] theorem oM_clear (T : TypeId) (ts : Array TypeId) (x : Value) : oM P (.call { callee := .builtin .clear, args := #[.tmp 0], argTypes := ts }) T [x] K w = rM ((Builtin.clear_ ts T #[x]).run P w) K :=
  rM_of (by simp [xop, execOp, evalL, evE, resolve, invoke, builtin])
@[go_sem] theorem oM_copy (T : TypeId) (ts : Array TypeId) (x y : Value) : oM P (.call { callee := .builtin .copy, args := #[.tmp 0, .tmp 1], argTypes := ts }) T [x, y] K w = rM ((Builtin.copy_ ts T #[x, y]).run P w) K :=
  rM_of (by simp [xop, execOp, evalL, evE, resolve, invoke, builtin])
theorem oM_append (T : TypeId) (ts : Array TypeId) (x y : Value) : oM P (.call { callee := .builtin .append, args := #[.tmp 0, .tmp 1], argTypes := ts }) T [x, y] K w = rM ((Builtin.append_ ts T #[x, y]).run P w) K :=
  rM_of (by simp [xop, execOp, evalL, evE, resolve, invoke, builtin])
@[go_sem] theorem oM_makeSlice (t T : TypeId) (x y : Value) : oM P (.makeSlice t (.tmp 0) (.tmp 1)) T [x, y] K w = rM ((Instr.makeSlice t x y).run P w) K := rM_of rfl
@[go_sem] theorem oM_typeAssert (t u T : TypeId) (x : Value) : oM P (.typeAssert (.tmp 0) t u false) T [x] K w = rM ((Instr.typeAssert x t u false).run P w) K := rM_of rfl
@[go_sem] theorem oM_makeInterface (t T : TypeId) (x : Value) : oM P (.makeInterface t (.tmp 0)) T [x] K w = rM ((Instr.makeInterface t x).run P w) K := rM_of rfl
@[go_sem] theorem oM_buildSlice0 (T t : Nat) (n : Nat) : oM P (.buildSlice t n #[]) T [] K w = rM ((Instr.buildSlice t n #[]).run P w) K := rM_of (by simp [xop, execOp, evalL, evE])
theorem oM_sliceFrom (t T : TypeId) (x i : Value) : oM P (.slice t (.tmp 0) (some (.tmp 1)) none none) T [x, i] K w = rM ((Instr.sliceAt t x (some i) none none).run P w) K := rM_of rfl
theorem oM_sliceTo (t T : TypeId) (x i : Value) : oM P (.slice t (.tmp 0) none (some (.tmp 1)) none) T [x, i] K w = rM ((Instr.sliceAt t x none (some i) none).run P w) K := rM_of rfl
theorem low_bits (n : Nat) (hn : n < 60) (x : Int) : IntKind.i64.wrap ((BitVec.ofInt 64 x &&& BitVec.ofInt 64 (2 ^ n - 1)).toNat : Int) = x % 2 ^ n := by
  have hp : (0 : Int) < 2 ^ n := Int.pow_pos (by omega)
  have hp' : (2 : Nat) ^ n ≤ 2 ^ 59 := Nat.pow_le_pow_right (by omega) (by omega)
  have hpc : ((2 : Int) ^ n) = ((2 ^ n : Nat) : Int) := by simp
  have hb : (BitVec.ofInt 64 (2 ^ n - 1)).toNat = 2 ^ n - 1 := by
    rw [BitVec.toNat_ofInt, hpc]
    omega
  have ha : (BitVec.ofInt 64 x).toNat = (x % 2 ^ 64).toNat := by rw [BitVec.toNat_ofInt]; rfl
  rw [BitVec.toNat_and, hb, ha, Nat.and_two_pow_sub_one_eq_mod]
  have hdv : ((2 : Int) ^ n) ∣ 2 ^ 64 := ⟨2 ^ (64 - n), by rw [← Int.pow_add]; congr 1; omega⟩
  have h1 : (((x % 2 ^ 64).toNat % 2 ^ n : Nat) : Int) = x % 2 ^ n := by
    rw [Int.natCast_emod, Int.toNat_of_nonneg (Int.emod_nonneg _ (by omega)), ← hpc, Int.emod_emod_of_dvd _ hdv]
  rw [h1]
  have h2 := Int.emod_nonneg x (b := 2 ^ n) (by omega)
  have h3 := Int.emod_lt_of_pos x hp
  exact wrapI64 _ (by omega) (by omega)
theorem oM_low (n : Nat) (hn : n < 60) (t t' T : TypeId) (x m : Int) (hm : m = 2 ^ n - 1) : oM P (.binOp .and t (.tmp 0) (.tmp 1) t') T [.int .i64 x, .int .i64 m] K w = K (.int .i64 (x % 2 ^ n)) w := by
  subst hm
  rw [← low_bits n hn x]
  exact oM_of_run rfl
@[go_sem] theorem oM_and1 (t t' T : TypeId) (x : Int) : oM P (.binOp .and t (.tmp 0) (.tmp 1) t') T [.int .i64 x, .int .i64 1] K w = K (.int .i64 (x % 2)) w := oM_low 1 (by omega) t t' T x 1 rfl
@[go_sem] theorem oM_and3 (t t' T : TypeId) (x : Int) : oM P (.binOp .and t (.tmp 0) (.tmp 1) t') T [.int .i64 x, .int .i64 3] K w = K (.int .i64 (x % 4)) w := oM_low 2 (by omega) t t' T x 3 rfl
@[go_sem] theorem oM_and7 (t t' T : TypeId) (x : Int) : oM P (.binOp .and t (.tmp 0) (.tmp 1) t') T [.int .i64 x, .int .i64 7] K w = K (.int .i64 (x % 8)) w := oM_low 3 (by omega) t t' T x 7 rfl
end
end Go.Sh
namespace Go.Sh
open Go Go.RowKit
section
variable {w : World} {B : Nat} {e : TypeId} {sz : Nat} {v : Value} {n : Nat} {xs : List Value}
theorem owns_cells (h : w.ownsRow B e sz v n xs) (hn : 0 < n) : ∃ g cap cur, v = .slice (some ⟨g, 0, none⟩) n cap ∧ g < w.heap.size ∧ B ≤ g ∧ w.heap[g]? = some (.cells cur e (0, 0)) ∧ cur.size = cap * sz ∧ n ≤ cap ∧ ∀ (k : Nat) (x : Value), xs[k]? = some x → w.cell? ⟨g, k, none⟩ = some x := by
  rcases h.2 with ⟨_, h0⟩ | ⟨g, cap, cur, hv, hb, hg, hc, hm, hs, ht⟩
  · omega
  · refine ⟨g, cap, cur, hv, (Array.getElem?_eq_some_iff.1 hg).1, hb, hg, hs, hc, fun k x hk => ?_⟩
    have hlt : k < n * sz := by have := (List.getElem?_eq_some_iff.1 hk).1; rw [h.1] at this; exact this
    rw [← ht, List.getElem?_take_of_lt hlt] at hk
    unfold World.cell?
    rw [hg]
    simpa using hk
theorem owns_own (h : w.ownsRow B e sz v n xs) {i : Nat} (hi : v.ownBlock = some i) : i < w.heap.size ∧ B ≤ i ∧ ∃ cur, w.heap[i]? = some (.cells cur e (0, 0)) := by
  rcases h.2 with ⟨rfl, h0⟩ | ⟨g, cap, cur, rfl, hb, hg, hc, hm, hs, ht⟩
  · cases hi
  · cases hi
    exact ⟨(Array.getElem?_eq_some_iff.1 hg).1, hb, cur, hg⟩
theorem owns_keep {w' : World} (h : w.ownsRow B e sz v n xs) (hk : ∀ i, v.ownBlock = some i → w'.heap[i]? = w.heap[i]?) : w'.ownsRow B e sz v n xs := by
  refine ⟨h.1, ?_⟩
  rcases h.2 with h0 | ⟨g, cap, cur, rfl, hb, hg, hr⟩
  · exact .inl h0
  · exact .inr ⟨g, cap, cur, rfl, hb, by rw [hk g rfl]; exact hg, hr⟩
theorem owns_len (h : w.ownsRow B e sz v n xs) : ∃ a c, v = .slice a n c := by
  rcases h.2 with ⟨rfl, rfl⟩ | ⟨g, cap, cur, rfl, _⟩
  · exact ⟨none, 0, rfl⟩
  · exact ⟨_, cap, rfl⟩
end
def flat {α : Type} (mk : α → List Value) (l : List α) : List Value := l.flatMap mk
section
variable {α : Type} {mk : α → List Value} {sz : Nat}
theorem flat_cons (x : α) (l : List α) : flat mk (x :: l) = mk x ++ flat mk l := rfl
theorem flat_append (l m : List α) : flat mk (l ++ m) = flat mk l ++ flat mk m := by simp [flat]
theorem flat_snoc (l : List α) (x : α) : flat mk (l ++ [x]) = flat mk l ++ mk x := by simp [flat]
theorem flat_length (hm : ∀ x, (mk x).length = sz) (l : List α) : (flat mk l).length = l.length * sz := by
  induction l with
  | nil => simp [flat]
  | cons x l ih => rw [flat_cons, List.length_append, hm, ih, List.length_cons, Nat.succ_mul, Nat.add_comm]
theorem flat_at (hm : ∀ x, (mk x).length = sz) (l : List α) (i j : Nat) {x : α} (hi : l[i]? = some x) (hj : j < sz) : (flat mk l)[i * sz + j]? = (mk x)[j]? := by
  induction l generalizing i with
  | nil => simp at hi
  | cons y l ih =>
    rw [flat_cons]
    cases i with
    | zero =>
      simp only [List.getElem?_cons_zero, Option.some.injEq] at hi
      subst hi
      rw [Nat.zero_mul, Nat.zero_add, List.getElem?_append_left (by rw [hm]; exact hj)]
    | succ i =>
      simp only [List.getElem?_cons_succ] at hi
      rw [Nat.succ_mul, List.getElem?_append_right (by rw [hm]; omega), hm, ← ih i hi]
      congr 1
      omega
end
structure Fr (S : Nat → Prop) (w w' : World) : Prop where
  os : w'.os = w.os
  tape : w'.tape = w.tape
  output : w'.output = w.output
  size : w.heap.size ≤ w'.heap.size
  block : ∀ i, i < w.heap.size → ¬ S i → w'.heap[i]? = w.heap[i]?
section
variable {S S' : Nat → Prop} {w w1 w2 : World}
theorem Fr.refl (S : Nat → Prop) (w : World) : Fr S w w := ⟨rfl, rfl, rfl, Nat.le_refl _, fun _ _ _ => rfl⟩
theorem Fr.trans (h : Fr S w w1) (k : Fr S' w1 w2) (hs : ∀ i, S' i → S i ∨ w.heap.size ≤ i) : Fr S w w2 :=
  ⟨k.os.trans h.os, k.tape.trans h.tape, k.output.trans h.output, Nat.le_trans h.size k.size, fun i hi hn => (k.block i (Nat.lt_of_lt_of_le hi h.size) (fun hx => (hs i hx).elim hn (by omega))).trans (h.block i hi hn)⟩
theorem Fr.by (h : Fr S w w1) {b : Option Nat} (k : w1.grownBy w2 b) (hs : ∀ i, b = some i → S i ∨ w.heap.size ≤ i) : Fr S w w2 :=
  ⟨k.os.trans h.os, k.tape.trans h.tape, k.output.trans h.output, Nat.le_trans h.size k.size, fun i hi hn => (k.block i (Nat.lt_of_lt_of_le hi h.size) (fun hx => (hs i hx.symm).elim hn (by omega))).trans (h.block i hi hn)⟩
theorem Fr.none_by (h : Fr S w w1) (k : w1.grownBy w2 none) : Fr S w w2 := h.by k (fun _ h => by cases h)
theorem Fr.alloc (h : Fr S w w1) (o : Obj) : Fr S w (w1.alloc o) := h.none_by (World.grownBy_alloc w1 o none)
theorem Fr.drew (h : Fr S w w1) : Fr S w { w1 with drawn := w1.drawn + 1 } := ⟨h.os, h.tape, h.output, h.size, h.block⟩
theorem Fr.mono (h : Fr S w w1) (hs : ∀ i, i < w.heap.size → S i → S' i) : Fr S' w w1 := ⟨h.os, h.tape, h.output, h.size, fun i hi hn => h.block i hi (fun hx => hn (hs i hi hx))⟩
theorem setCell_heap_ne (w : World) (a : Addr) (u : Value) (i : Nat) (h : i ≠ a.block) : (w.setCell a u).heap[i]? = w.heap[i]? := by
  simp only [World.setCell, Array.getElem?_modify]
  rw [if_neg (Ne.symm h)]
theorem grown_setCell (w : World) (a : Addr) (u : Value) : w.grownBy (w.setCell a u) (some a.block) :=
  ⟨rfl, rfl, rfl, by simp [World.setCell], fun i _ hi => setCell_heap_ne w a u i (fun e => hi (by rw [e]))⟩
theorem Fr.set (h : Fr S w w1) (a : Addr) (u : Value) (hs : S a.block ∨ w.heap.size ≤ a.block) : Fr S w (w1.setCell a u) := h.by (grown_setCell w1 a u) (fun i e => by cases e; exact hs)
end
theorem cell_of_block {w : World} {b : Nat} {cs : Array Value} {T : TypeId} {f : Nat × Nat} (h : w.heap[b]? = some (.cells cs T f)) (i : Nat) : w.cell? ⟨b, i, none⟩ = cs[i]? := by
  simp [World.cell?, h]
theorem frozen_of_block {w : World} {b : Nat} {cs : Array Value} {T : TypeId} (h : w.heap[b]? = some (.cells cs T (0, 0))) (i : Nat) : w.frozen? ⟨b, i, none⟩ = false := by
  simp [World.frozen?, h]
theorem block_set {w : World} {b i : Nat} {cs : Array Value} {T : TypeId} {f : Nat × Nat} (h : w.heap[b]? = some (.cells cs T f)) (u : Value) : (w.setCell ⟨b, i, none⟩ u).heap[b]? = some (.cells (cs.setIfInBounds i u) T f) := by
  simp [World.setCell, Array.getElem?_modify, h]
end Go.Sh
namespace Go.Sh
open Go Go.RowKit
section
variable {P : Program} {w : World} {K : Value → World → Prop}
theorem owns_base {B C : Nat} {e : TypeId} {sz : Nat} {v : Value} {n : Nat} {xs : List Value} (h : w.ownsRow B e sz v n xs) (hc : C ≤ B) : w.ownsRow C e sz v n xs :=
  ⟨h.1, h.2.imp id (fun ⟨g, cap, cur, a, b, r⟩ => ⟨g, cap, cur, a, Nat.le_trans hc b, r⟩)⟩
theorem run_append_more (t ty e : TypeId) (i : TypeInfo) (z : Value) (size bytes : Nat) (ht : P.underlying t = some (.slice e)) (hi : P.info? e = some i) (hz : i.zero = some z)
    (hsize : i.size = size) (hby : i.bytes = bytes) (hzs : z.cells.size = size) (hsz : 0 < size)
    (v : Value) (n : Nat) (xs : List Value) (hown : w.ownsRow 0 e size v n xs)
    (a : Addr) (m c : Nat) (news : List Value) (hl : news.length = m * size) (hnews : ∀ j u, news[j]? = some u → w.cell? (a.add j) = some u) (h1 : ∀ u ∈ news, u.oneCell' = true)
    (h63 : n + m ≤ maxLen) (hbytes : (n + m) * bytes ≤ 140737488355328) :
    ∃ v' w', (Builtin.append_ #[t, t] ty #[v, .slice (some a) m c]).run P w = .ok v' w' ∧ w'.ownsRow 0 e size v' (n + m) (xs ++ news) ∧ w.grownBy w' v.ownBlock ∧
      (∀ i, v'.ownBlock = some i → v.ownBlock = some i ∨ w.heap.size ≤ i) := by
  rcases hown.2 with ⟨hv, hn⟩ | ⟨g, cap, cur, hv, hb, hg, hnc, hm, hcs, htk⟩
  · have h' : w.ownsRow w.heap.size e size v n xs := ⟨hown.1, .inl ⟨hv, hn⟩⟩
    obtain ⟨v', w', hr, ho, hgr, _⟩ := run_append_own (P := P) (w := w) w.heap.size t ty e i z size bytes ht hi hz hsize hby hzs hsz v n xs h' a m c news hl hnews h1 h63 hbytes (Nat.le_refl _)
    exact ⟨v', w', hr, owns_base ho (Nat.zero_le _), hgr, fun j hj => .inr (owns_own ho hj).2.1⟩
  · by_cases hroom : n + m ≤ cap
    · subst hv
      obtain ⟨w', hr, ho, hgr⟩ := run_append_fits (P := P) (w := w) 0 t ty e i size ht hi hsize g n cap xs hown a m c news hl hnews h1 hroom
      exact ⟨_, w', hr, ho, hgr, fun j hj => .inl hj⟩
    · obtain ⟨v', w', hr, ho, hgr, _⟩ := run_append_own (P := P) (w := w) 0 t ty e i z size bytes ht hi hz hsize hby hzs hsz v n xs hown a m c news hl hnews h1 h63 hbytes (Nat.zero_le _)
      subst hsize
      subst hv
      have holds : ∀ j u, xs[j]? = some u → w.cell? ((⟨g, 0, none⟩ : Addr).add j) = some u := hown.cells (g := g) rfl
      have hr2 := run_append_grow (P := P) (w := w) t ty e i z ht hi hz ⟨g, 0, none⟩ n cap xs hown.1 holds a m c news hl hnews (by omega) (by simp only [maxLen] at h63; omega) (growslice_fits (by omega) (by rw [hby]; exact hbytes))
      rw [hr] at hr2
      cases hr2
      exact ⟨_, _, hr, ho, hgr, fun j hj => by cases hj; exact .inr (Nat.le_refl _)⟩
theorem append_at (t T e : TypeId) (i : TypeInfo) (z : Value) (size bytes : Nat) (ht : P.underlying t = some (.slice e)) (hi : P.info? e = some i) (hz : i.zero = some z)
    (hsize : i.size = size) (hby : i.bytes = bytes) (hzs : z.cells.size = size) (hsz : 0 < size)
    {v : Value} {n : Nat} {xs : List Value} (hown : w.ownsRow 0 e size v n xs)
    {ad : Option Addr} {m c : Nat} (news : List Value) (hl : news.length = m * size) (had : ad = none → m = 0 ∧ c = 0) (hnews : ∀ a, ad = some a → ∀ j u, news[j]? = some u → w.cell? (a.add j) = some u) (h1 : ∀ u ∈ news, u.oneCell' = true)
    (h63 : n + m ≤ maxLen) (hbytes : (n + m) * bytes ≤ 140737488355328)
    (k : ∀ v' w', w'.ownsRow 0 e size v' (n + m) (xs ++ news) → w.grownBy w' v.ownBlock → (∀ i, v'.ownBlock = some i → v.ownBlock = some i ∨ w.heap.size ≤ i) → K v' w') :
    oM P (.call { callee := .builtin .append, args := #[.tmp 0, .tmp 1], argTypes := #[t, t] }) T [v, .slice ad m c] K w := by
  rw [oM_append]
  cases ad with
  | some a =>
    obtain ⟨v', w', hr, h2, h3, h4⟩ := run_append_more (P := P) (w := w) t T e i z size bytes ht hi hz hsize hby hzs hsz v n xs hown a m c news hl (hnews a rfl) h1 h63 hbytes
    rw [hr]
    exact k v' w' h2 h3 h4
  | none =>
    obtain ⟨rfl, rfl⟩ := had rfl
    have hn : news = [] := List.eq_nil_of_length_eq_zero (by simpa using hl)
    subst hn
    rw [run_append_owned_none (P := P) (w := w) 0 t T e i size ht hi v n xs hown]
    refine k v w ?_ ⟨rfl, rfl, rfl, Nat.le_refl _, fun _ _ _ => rfl⟩ (fun i h => .inl h)
    simpa using hown
end
def RowR {α : Type} (mk : α → List Value) (sz : Nat) (w : World) (v : Value) (l : List α) : Prop :=
  ∃ ad c, v = .slice ad l.length c ∧ (ad = none → l.length = 0 ∧ c = 0) ∧ (l = [] ∨ ∃ b o, ad = some ⟨b, o, none⟩ ∧ b < w.heap.size ∧ ∀ (k : Nat) (x : Value), (flat mk l)[k]? = some x → w.cell? ⟨b, o + k, none⟩ = some x)
section
variable {α : Type} {mk : α → List Value} {sz : Nat} {w w' : World} {v : Value} {l : List α}
theorem RowR.of_owns {B : Nat} {e : TypeId} (h : w.ownsRow B e sz v l.length (flat mk l)) : RowR mk sz w v l := by
  rcases h.2 with ⟨rfl, h0⟩ | ⟨g, cap, cur, rfl, hb, hg, hn, hm, hcs, ht⟩
  · exact ⟨none, 0, by rw [h0], fun _ => ⟨h0, rfl⟩, .inl (List.eq_nil_of_length_eq_zero h0)⟩
  · refine ⟨_, cap, rfl, by simp, ?_⟩
    by_cases h0 : l = []
    · exact .inl h0
    · obtain ⟨g', cap', cur', hv, hlt, _, _, _, _, hc⟩ := owns_cells h (List.length_pos_iff.2 h0)
      cases hv
      exact .inr ⟨g, 0, rfl, hlt, fun k x hk => by rw [Nat.zero_add]; exact hc k x hk⟩
def Value.inBlock : Value → Option Nat
  | .slice (some a) _ _ => some a.block
  | _ => none
theorem RowR.keep (h : RowR mk sz w v l) (hs : w.heap.size ≤ w'.heap.size) (hk : ∀ i, Value.inBlock v = some i → i < w.heap.size → w'.heap[i]? = w.heap[i]?) : RowR mk sz w' v l := by
  obtain ⟨ad, c, rfl, h0, h⟩ := h
  refine ⟨ad, c, rfl, h0, h.imp id ?_⟩
  rintro ⟨b, o, rfl, hlt, hc⟩
  refine ⟨b, o, rfl, Nat.lt_of_lt_of_le hlt hs, fun k x hx => ?_⟩
  have := hc k x hx
  unfold World.cell? at this ⊢
  rw [hk b rfl hlt]
  exact this
end
theorem add_none (b o k : Nat) : (⟨b, o, none⟩ : Addr).add k = ⟨b, o + k, none⟩ := by
  unfold Addr.add
  split
  · rename_i h0; rw [h0]; simp
  · rfl
theorem clone_at {P : Program} {α : Type} {mk : α → List Value} {w : World} {K : Value → World → Prop} (t T e : TypeId) (i : TypeInfo) (z : Value) (size bytes : Nat) (ht : P.underlying t = some (.slice e)) (hi : P.info? e = some i) (hz : i.zero = some z)
    (hsize : i.size = size) (hby : i.bytes = bytes) (hzs : z.cells.size = size) (hsz : 0 < size) (hm : ∀ x, (mk x).length = size) (h1 : ∀ x, ∀ u ∈ mk x, u.oneCell' = true)
    {v u : Value} {l : List α} (hr : RowR mk size w v l) (hu : w.ownsRow 0 e size u 0 []) {B : Nat} (hB : B ≤ w.heap.size) (hf : ∀ i, u.ownBlock = some i → B ≤ i) (hll : l.length ≤ 4611686018427387904) (hb : l.length * bytes ≤ 140737488355328)
    (k : ∀ v' w', w'.ownsRow 0 e size v' l.length (flat mk l) → w.grownBy w' u.ownBlock → (∀ i, v'.ownBlock = some i → B ≤ i) → K v' w') :
    oM P (.call { callee := .builtin .append, args := #[.tmp 0, .tmp 1], argTypes := #[t, t] }) T [u, v] K w := by
  obtain ⟨ad, c, rfl, h0, hc⟩ := hr
  refine append_at t T e i z size bytes ht hi hz hsize hby hzs hsz hu (flat mk l) (flat_length hm l) h0 ?_ ?_ (by simp only [maxLen]; omega) (by rw [Nat.zero_add]; exact hb) ?_
  · rintro a rfl j x hj
    rcases hc with rfl | ⟨b, o, hbo, hlt, hc⟩
    · simp [flat] at hj
    · cases hbo
      rw [add_none]; exact hc j x hj
  · intro x hx
    unfold flat at hx
    obtain ⟨y, _, hy⟩ := List.mem_flatMap.1 hx
    exact h1 y x hy
  · intro v' w' ho hg hv
    rw [Nat.zero_add] at ho
    exact k v' w' ho hg (fun i hi => (hv i hi).elim (hf i) (Nat.le_trans hB))
end Go.Sh
namespace Go.Sh
open Go Go.RowKit
def BufIs (w : World) (g : Nat) (e : TypeId) (l : List UInt8) : Prop := w.heap[g]? = some (.cells (Lib.byteCells l).toArray e (0, 0))
theorem alloc_size (w : World) (o : Obj) : (w.alloc o).heap.size = w.heap.size + 1 := by
  show (w.heap.push o).size = _
  simp
theorem grown_setRow (w : World) (g : Nat) (cs : Array Value) : w.grownBy (w.setRow g cs) (some g) :=
  ⟨rfl, rfl, rfl, by simp [World.setRow], fun i _ hi => setRow_other w g i cs (fun e => hi (by rw [e]))⟩
section
variable {P : Program} {w : World} {K : Value → World → Prop}
theorem makeBytes_at {t T e : TypeId} {i : TypeInfo} (ht : P.underlying t = some (.slice e)) (hi : P.info? e = some i) (hz : i.zero = some (.int .u8 0)) (hs : i.size = 1) (hb : i.bytes = 1) (n : Nat) (hn : n ≤ 1099511627776)
    (k : BufIs (w.alloc (.cells (Lib.byteCells (List.replicate n 0)).toArray e)) w.heap.size e (List.replicate n 0) → K (.slice (some ⟨w.heap.size, 0, none⟩) n n) (w.alloc (.cells (Lib.byteCells (List.replicate n 0)).toArray e))) :
    oM P (.makeSlice t (.tmp 0) (.tmp 1)) T [.int .i64 n, .int .i64 n] K w := by
  rw [oM_makeSlice, run_make w t e i (.int .u8 0) ht hi hz .i64 .i64 n n (by omega) (Int.le_refl _) (by rw [hb]; omega) (by omega), hs]
  have e1 : madeCells (Value.int .u8 0).cells ((n : Int).toNat * 1) = (Lib.byteCells (List.replicate n 0)).toArray := by
    unfold madeCells Lib.byteCells
    apply Array.ext'
    simp only [Int.toNat_natCast, Nat.mul_one, Array.toList_map, Array.toList_range, List.map_replicate]
    apply List.ext_getElem
    · simp
    · intro j h1 h2
      simp [Value.cells, Nat.mod_one]
  rw [e1, Int.toNat_natCast]
  exact k (heap_alloc_new w _)
theorem copyStr_at {t t' T e : TypeId} {g o n c : Nat} {l : List UInt8} (ht : P.underlying t = some (.slice e)) (hs : (P.info? e).map (·.size) = some 1) (hg : BufIs w g e l) (s : List UInt8) (hn : s.length ≤ n) (hfit : o + s.length ≤ l.length)
    (k : ∀ w', BufIs w' g e (l.take o ++ s ++ l.drop (o + s.length)) → w.grownBy w' (some g) → K (.int .i64 s.length) w') :
    oM P (.call { callee := .builtin .copy, args := #[.tmp 0, .tmp 1], argTypes := #[t, t'] }) T [.slice (some ⟨g, o, none⟩) n c, .string ⟨s.toArray⟩] K w := by
  rw [oM_copy, Lib.run_copy_row_string w t t' T e g o n c ⟨s.toArray⟩ _ e ht hs hg hn (by simp [Lib.byteCells]; exact hfit)]
  refine k _ ?_ (grown_setRow _ _ _)
  have := setRow_heap w g _ ((Lib.byteCells l).toArray.toList.take o ++ Lib.byteCells (⟨s.toArray⟩ : ByteArray).data.toList ++ (Lib.byteCells l).toArray.toList.drop (o + (⟨s.toArray⟩ : ByteArray).size)).toArray e (0, 0) hg
  unfold BufIs
  rw [this]
  have e2 : (⟨s.toArray⟩ : ByteArray).size = s.length := rfl
  simp [Lib.byteCells, List.map_take, List.map_drop, e2]
theorem toStr_at {t d T e : TypeId} {g n c : Nat} {l : List UInt8} (hs : P.underlying t = some (.slice e)) (he : P.underlying e = some (.int .u8)) (hd : P.underlying d = some .string) (hg : BufIs w g e l) (hn : n = l.length) (k : K (.string ⟨l.toArray⟩) w) :
    oM P (.convert t d (.tmp 0)) T [.slice (some ⟨g, 0, none⟩) n c] K w := by
  subst hn
  have := run_convert_bytes_back (P := P) w t d e ⟨g, 0, none⟩ c l hs he hd (fun j hj => by
    rw [add_none, Nat.zero_add, cell_of_block hg]
    simp [Lib.byteCells, hj])
  rw [rM_of (S := convert t d (.slice (some ⟨g, 0, none⟩) l.length c)) rfl, this]
  exact k
theorem sliceFrom_at {t T : TypeId} {g o n c : Nat} {sz : Nat} (ht : P.underlying t = some (.slice (P.elem t))) (hs : ∀ w, (sizeOf (P.elem t)).run P w = .ok sz w) (i : Nat) (hi : i ≤ n) (hc : i < c) (k : K (.slice (some ⟨g, o + i * sz, none⟩) (n - i) (c - i)) w) :
    oM P (.slice t (.tmp 0) (some (.tmp 1)) none none) T [.slice (some ⟨g, o, none⟩) n c, .int .i64 i] K w := by
  rw [oM_sliceFrom, run_sliceAt_slice w t _ _ _ _ ht, run_slice_l w t _ n c ht .i64 i (by omega) (by omega), hs]
  have : ¬ c = i := by omega
  simp only [Result.andThen_ok, sliced, Int.toNat_natCast, if_neg this, Option.map_some, add_none]
  exact k
theorem sliceTo_at {t T : TypeId} {a : Option Addr} {n c : Nat} {sz : Nat} (ht : P.underlying t = some (.slice (P.elem t))) (hs : ∀ w, (sizeOf (P.elem t)).run P w = .ok sz w) (i : Nat) (hi : i ≤ c) (k : K (.slice a i c) w) :
    oM P (.slice t (.tmp 0) none (some (.tmp 1)) none) T [.slice a n c, .int .i64 i] K w := by
  rw [oM_sliceTo, run_sliceAt_slice w t _ _ _ _ ht, run_slice_h w t _ n c ht .i64 i (by omega) (by omega), hs]
  have e : a.map (fun x => x.add (0 * sz)) = a := by
    cases a with
    | none => rfl
    | some a => simp [Addr.add]
  simp only [Result.andThen_ok, sliced, Int.toNat_natCast, Nat.sub_zero, e, ite_self]
  exact k
end
end Go.Sh
namespace Go.Sh
open Go Go.RowKit
def BufM (w : World) (e : TypeId) (v : Value) (l : List UInt8) : Prop :=
  ∃ g cap cur fz, v = .slice (some ⟨g, 0, none⟩) l.length cap ∧ w.heap[g]? = some (.cells cur e fz) ∧ (∀ i, i < cur.size → ¬ (fz.1 ≤ i ∧ i < fz.2)) ∧ cur.size = cap ∧ l.length ≤ cap ∧ ∀ j (h : j < l.length), cur[j]? = some (.int .u8 (l[j].toNat : Int))
section
variable {P : Program} {w w' : World} {e : TypeId} {v : Value} {l : List UInt8} {K : Value → World → Prop}
theorem BufM.shape (h : BufM w e v l) : ∃ g c, v = .slice (some ⟨g, 0, none⟩) l.length c ∧ g < w.heap.size := by
  obtain ⟨g, cap, cur, fz, rfl, hg, _⟩ := h
  exact ⟨g, cap, rfl, (Array.getElem?_eq_some_iff.1 hg).1⟩
theorem BufM.keep (h : BufM w e v l) (hk : ∀ i, v.ownBlock = some i → w'.heap[i]? = w.heap[i]?) : BufM w' e v l := by
  obtain ⟨g, cap, cur, fz, rfl, hg, r⟩ := h
  exact ⟨g, cap, cur, fz, rfl, by rw [hk g rfl]; exact hg, r⟩
theorem ofStr_at {s d T : TypeId} (hs : P.underlying s = some .string) (hd : P.underlying d = some (.slice e)) (he : P.underlying e = some (.int .u8)) (l : List UInt8)
    (k : ∀ v w', BufM w' e v l → w.grownBy w' none → v.ownBlock = some w.heap.size → w.heap.size < w'.heap.size → K v w') : oM P (.convert s d (.tmp 0)) T [.string ⟨l.toArray⟩] K w := by
  have hr := run_bytes_of_string (P := P) w s d e ⟨l.toArray⟩ hs hd he
  rw [rM_of (S := convert s d (.string ⟨l.toArray⟩)) rfl, hr]
  have hge : l.length ≤ grownCap w (⟨l.toArray⟩ : ByteArray).size 0 e := grownCap_ge w l.length 0 e
  generalize grownCap w (⟨l.toArray⟩ : ByteArray).size 0 e = C at *
  have hsz : (bytesRow ⟨l.toArray⟩ C).size = C := by
    simp only [bytesRow, Array.size_append, Array.size_map, List.size_toArray, Array.size_replicate, ByteArray.size]
    omega
  rw [hsz]
  refine k _ _ ⟨w.heap.size, C, bytesRow ⟨l.toArray⟩ C, (C, C + 1), rfl, heap_alloc_new w.drew _, fun i hi => by rw [hsz] at hi; simp only; omega, hsz, hge, fun j hj => ?_⟩ ⟨rfl, rfl, rfl, by simp, fun i hi _ => heap_alloc_old w.drew _ hi⟩ rfl (by simp)
  unfold bytesRow
  rw [Array.getElem?_append_left (by simpa using hj)]
  simp [hj]
theorem pushB_at {t T : TypeId} {i : TypeInfo} {x : UInt8} {a : Addr} {c : Nat} (ht : P.underlying t = some (.slice e)) (hi : P.info? e = some i) (hz : i.zero = some (.int .u8 0)) (hs : i.size = 1) (hb : i.bytes = 1) (h : BufM w e v l) (ha : w.cell? a = some (.int .u8 (x.toNat : Int))) (hl : l.length + 1 ≤ 1099511627776)
    (k : ∀ v' w', BufM w' e v' (l ++ [x]) → w.grownBy w' v.ownBlock → (v'.ownBlock = v.ownBlock ∨ ∃ g, v'.ownBlock = some g ∧ w.heap.size ≤ g) → K v' w') :
    oM P (.call { callee := .builtin .append, args := #[.tmp 0, .tmp 1], argTypes := #[t, t] }) T [v, .slice (some a) 1 c] K w := by
  obtain ⟨g, cap, cur, fz, rfl, hg, hfz, hcs, hlc, hcell⟩ := h
  rw [oM_append]
  have hnews : ∀ j u, ([Value.int .u8 (x.toNat : Int)] : List Value)[j]? = some u → w.cell? (a.add j) = some u := by
    intro j u hj
    match j, hj with
    | 0, hj =>
      simp only [List.getElem?_cons_zero, Option.some.injEq] at hj
      subst hj
      have : a.add 0 = a := by simp [Addr.add]
      rw [this]; exact ha
  by_cases hroom : l.length + 1 ≤ cap
  · have hr := run_append_room_cells (P := P) (w := w) t T e i ht hi g 0 l.length cap a 1 c [.int .u8 (x.toNat : Int)] (by rw [hs]; rfl) hnews (by simp [Value.oneCell']) hroom (by
      intro j hj
      simp only [List.length_cons, List.length_nil] at hj
      rw [cell_of_block hg]
      simp [hs]
      omega) (by
      intro j hj
      simp only [List.length_cons, List.length_nil] at hj
      unfold World.frozen?
      rw [hg]
      have := hfz (0 + l.length * i.size + j) (by rw [hs]; omega)
      simp only [Bool.and_eq_false_iff, decide_eq_false_iff_not]
      omega)
    rw [hr, hs, Nat.zero_add, Nat.mul_one]
    refine k _ (w.setCell ⟨g, l.length, none⟩ (.int .u8 (x.toNat : Int))) ⟨g, cap, cur.setIfInBounds l.length (.int .u8 (x.toNat : Int)), fz, by rw [List.length_append]; rfl, block_set hg _, by simpa using hfz, by simpa using hcs, by simpa using hroom, fun j hj => ?_⟩ (grown_setCell w ⟨g, l.length, none⟩ _) (.inl rfl)
    rw [List.length_append, List.length_cons, List.length_nil] at hj
    by_cases hjl : j < l.length
    · rw [Array.getElem?_setIfInBounds_ne (by omega), hcell j hjl, List.getElem_append_left hjl]
    · obtain rfl : j = l.length := by omega
      rw [Array.getElem?_setIfInBounds_self_of_lt (by omega)]
      simp
  · have hholds : ∀ j u, (Lib.byteCells l)[j]? = some u → w.cell? ((⟨g, 0, none⟩ : Addr).add j) = some u := by
      intro j u hj
      rw [add_none, Nat.zero_add, cell_of_block hg]
      have hjl : j < l.length := by have := (List.getElem?_eq_some_iff.1 hj).1; simpa [Lib.byteCells] using this
      rw [hcell j hjl, ← hj]
      simp [Lib.byteCells, hjl]
    obtain ⟨v', w', hr, ho, hgr⟩ := run_append_arg_grows (P := P) (w := w) t T e i (.int .u8 0) 1 1 ht hi hz hs hb rfl (by omega) ⟨g, 0, none⟩ l.length cap (Lib.byteCells l) (by simp [Lib.byteCells]) hholds a 1 c [.int .u8 (x.toNat : Int)] rfl hnews (by omega) (by simp only [maxLen]; omega) (by omega)
    rw [hr]
    rcases ho.2 with ⟨_, h0⟩ | ⟨g', cap', cur', rfl, hb', hg', hnc, hcm, hcs', htk⟩
    · omega
    · refine k _ w' ⟨g', cap', cur', (0, 0), by rw [List.length_append]; rfl, hg', fun i _ => by omega, by omega, by rw [List.length_append]; exact hnc, fun j hj => ?_⟩ ⟨hgr.os, hgr.tape, hgr.output, hgr.size, fun i hi _ => hgr.block i hi (by simp)⟩ (.inr ⟨g', rfl, hb'⟩)
      have e1 : cur'.toList.take (l.length + 1) = Lib.byteCells (l ++ [x]) := by
        rw [Nat.mul_one] at htk
        rw [htk]
        simp [Lib.byteCells]
      have e2 := congrArg (fun q => q[j]?) e1
      rw [List.length_append, List.length_cons, List.length_nil] at hj
      simp only [List.getElem?_take_of_lt hj, Array.getElem?_toList] at e2
      rw [e2]
      have hj' : j < (l ++ [x]).length := by simpa using hj
      simp only [Lib.byteCells, List.getElem?_map, List.getElem?_eq_getElem hj', Option.map_some]
theorem BufM.set (h : BufM w e v l) {j : Nat} (hj : j < l.length) (x : UInt8) : ∃ g c, v = .slice (some ⟨g, 0, none⟩) l.length c ∧ w.frozen? ⟨g, j, none⟩ = false ∧ (w.cell? ⟨g, j, none⟩).isSome = true ∧ BufM (w.setCell ⟨g, j, none⟩ (.int .u8 (x.toNat : Int))) e v (l.set j x) := by
  obtain ⟨g, cap, cur, fz, rfl, hg, hfz, hcs, hlc, hcell⟩ := h
  refine ⟨g, cap, rfl, ?_, ?_, ⟨g, cap, cur.setIfInBounds j (.int .u8 (x.toNat : Int)), fz, by rw [List.length_set], block_set hg _, by simpa using hfz, by simpa using hcs, by simpa using hlc, fun k hk => ?_⟩⟩
  · unfold World.frozen?
    rw [hg]
    have := hfz j (by omega)
    simp only [Bool.and_eq_false_iff, decide_eq_false_iff_not]
    omega
  · rw [cell_of_block hg, hcell j hj]; rfl
  · rw [List.length_set] at hk
    by_cases hkj : k = j
    · subst hkj
      rw [Array.getElem?_setIfInBounds_self_of_lt (by omega)]
      simp
    · rw [Array.getElem?_setIfInBounds_ne (Ne.symm hkj), hcell k hk, List.getElem_set_ne (Ne.symm hkj)]
theorem BufM.cell (h : BufM w e v l) {j : Nat} (hj : j < l.length) : ∃ g c, v = .slice (some ⟨g, 0, none⟩) l.length c ∧ w.cell? ⟨g, j, none⟩ = some (.int .u8 (l[j].toNat : Int)) := by
  obtain ⟨g, cap, cur, fz, rfl, hg, hfz, hcs, hlc, hcell⟩ := h
  exact ⟨g, cap, rfl, by rw [cell_of_block hg]; exact hcell j hj⟩
theorem toStrM_at {t d T : TypeId} (hs : P.underlying t = some (.slice e)) (he : P.underlying e = some (.int .u8)) (hd : P.underlying d = some .string) (h : BufM w e v l) (k : K (.string ⟨l.toArray⟩) w) :
    oM P (.convert t d (.tmp 0)) T [v] K w := by
  obtain ⟨g, cap, cur, fz, rfl, hg, hfz, hcs, hlc, hcell⟩ := h
  have := run_convert_bytes_back (P := P) w t d e ⟨g, 0, none⟩ cap l hs he hd (fun j hj => by
    rw [add_none, Nat.zero_add, cell_of_block hg]
    exact hcell j hj)
  rw [rM_of (S := convert t d (.slice (some ⟨g, 0, none⟩) l.length cap)) rfl, this]
  exact k
end
end Go.Sh
namespace Go.Sh
open Go Go.RowKit
section
variable {P : Program} {K : Value → World → Prop} {w : World}
@[go_sem] theorem oM_shr64 (t t' T : TypeId) (yk : IntKind) (x y : Int) (h0 : 0 ≤ y) (h1 : y ≤ 64) : oM P (.binOp .shr t (.tmp 0) (.tmp 1) t') T [.int .u64 x, .int yk y] = pureM (.int .u64 (x / 2 ^ y.toNat)) := by
  funext K w
  simp [oM, opM, xop, execOp, evalL, evE, binOp]
  rfl
@[go_sem] theorem oM_shl64 (t t' T : TypeId) (yk : IntKind) (x y : Int) (h0 : 0 ≤ y) (h1 : y ≤ 64) : oM P (.binOp .shl t (.tmp 0) (.tmp 1) t') T [.int .u64 x, .int yk y] = pureM (.int .u64 (x * 2 ^ y.toNat % 18446744073709551616)) := by
  funext K w
  simp [oM, opM, xop, execOp, evalL, evE, binOp]
  rfl
@[go_sem] theorem oM_shr32 (t t' T : TypeId) (yk : IntKind) (x y : Int) (h0 : 0 ≤ y) (h1 : y ≤ 32) : oM P (.binOp .shr t (.tmp 0) (.tmp 1) t') T [.int .u32 x, .int yk y] = pureM (.int .u32 (x / 2 ^ y.toNat)) := by
  funext K w
  simp [oM, opM, xop, execOp, evalL, evE, binOp]
  rfl
@[go_sem] theorem oM_shl32 (t t' T : TypeId) (yk : IntKind) (x y : Int) (h0 : 0 ≤ y) (h1 : y ≤ 32) : oM P (.binOp .shl t (.tmp 0) (.tmp 1) t') T [.int .u32 x, .int yk y] = pureM (.int .u32 (x * 2 ^ y.toNat % 4294967296)) := by
  funext K w
  simp [oM, opM, xop, execOp, evalL, evE, binOp]
  rfl
@[go_sem] theorem oM_and64 (t t' T : TypeId) (x y : Int) : oM P (.binOp .and t (.tmp 0) (.tmp 1) t') T [.int .u64 x, .int .u64 y] = pureM (.int .u64 (bits .and .u64 x y)) := by
  funext K w
  simp [oM, opM, xop, execOp, evalL, evE, binOp, go_sem]
@[go_sem] theorem oM_or64 (t t' T : TypeId) (x y : Int) : oM P (.binOp .or t (.tmp 0) (.tmp 1) t') T [.int .u64 x, .int .u64 y] = pureM (.int .u64 (bits .or .u64 x y)) := by
  funext K w
  simp [oM, opM, xop, execOp, evalL, evE, binOp, go_sem]
end
end Go.Sh
namespace Go.Sh
open Go Go.RowKit
abbrev Next (w w' : World) : Prop := Below w.heap.size w w'
theorem _root_.Go.RowKit.Below.on {a b c : World} (h : Below a.heap.size a b) (k : Below b.heap.size b c) : Below a.heap.size a c := h.trans (k.mono h.size)
theorem _root_.Go.RowKit.Below.drawn {B : Nat} {w : World} : Below B w { w with drawn := w.drawn + 1 } := ⟨rfl, rfl, rfl, Nat.le_refl _, fun _ _ => rfl⟩
def BoxIs (w : World) (g : Nat) (cs : List Value) : Prop := ∀ w', Below w.heap.size w w' → ∀ (i : Nat) (v : Value), cs[i]? = some v → w'.cell? ⟨g, i, none⟩ = some v
theorem BoxIs.next {w w' : World} {g : Nat} {cs : List Value} (h : BoxIs w g cs) (hb : Below w.heap.size w w') : BoxIs w' g cs :=
  fun w2 h2 => h w2 (Below.on hb h2)
def I64 (n : Int) : Prop := -9223372036854775808 ≤ n ∧ n < 9223372036854775808
def intC (n : Int) : List Value := [.int .i64 n]
structure Ints (w : World) (v : Value) (l : List Int) : Prop where
  row : RowR intC 1 w v l
  rng : ∀ n ∈ l, I64 n
  len : l.length ≤ 9223372036854775807
theorem Ints.next {w w' : World} {v : Value} {l : List Int} (h : Ints w v l) (hb : Below w.heap.size w w') : Ints w' v l :=
  ⟨h.row.keep hb.size (fun i _ hi => hb.block i hi), h.rng, h.len⟩
theorem Ints.nil (w : World) : Ints w (.slice none 0 0) [] := ⟨⟨none, 0, rfl, fun _ => ⟨rfl, rfl⟩, .inl rfl⟩, by simp, by simp⟩
theorem flat_int (l : List Int) : flat intC l = l.map (fun n => Value.int .i64 n) := by
  induction l with
  | nil => rfl
  | cons a l ih => rw [flat_cons, ih]; rfl
theorem Ints.at {w : World} {ad : Option Addr} {n c : Nat} {l : List Int} (h : Ints w (.slice ad n c) l) {i : Nat} (hi : i < l.length) :
    ∃ b o, ad = some ⟨b, o, none⟩ ∧ b < w.heap.size ∧ (∀ w', Below w.heap.size w w' → w'.cell? ⟨b, o + i, none⟩ = some (.int .i64 l[i])) ∧ I64 l[i] ∧ n = l.length := by
  obtain ⟨⟨ad', c', hv, h0, hc⟩, hr, _⟩ := h
  cases hv
  rcases hc with rfl | ⟨b, o, rfl, hlt, hc⟩
  · simp at hi
  · refine ⟨b, o, rfl, hlt, fun w' hb => ?_, hr _ (List.getElem_mem hi), rfl⟩
    rw [hb.cell hlt]
    exact hc i _ (by rw [flat_int]; simp [hi])
theorem Ints.of_owns {w : World} {B : Nat} {e : TypeId} {v : Value} {l : List Int} (h : w.ownsRow B e 1 v l.length (flat intC l)) (hr : ∀ n ∈ l, I64 n) (hl : l.length ≤ 9223372036854775807) : Ints w v l :=
  ⟨RowR.of_owns h, hr, hl⟩
@[go_sem] theorem oM_makeFunc2 {P : Program} {K : Value → World → Prop} {w : World} (fn : Fn) (T : TypeId) (x y : Value) : oM P (.makeFunc fn #[] #[.tmp 0, .tmp 1]) T [x, y] K w = K (.func fn #[] #[x, y]) w := oM_of_run (by simp [xop, execOp, evalL, evE, Instr.makeFunc])
@[go_sem] theorem oM_makeFunc01 {P : Program} {K : Value → World → Prop} {w : World} (fn : Fn) (T : TypeId) (x : Value) : oM P (.makeFunc fn #[] #[.tmp 0]) T [x] K w = K (.func fn #[] #[x]) w := oM_of_run (by simp [xop, execOp, evalL, evE, Instr.makeFunc])
end Go.Sh
namespace Go.Sh
open Go
section
variable {P : Program} {K : Value → World → Prop} {w : World} {A B : Prop} {p : Prop} [Decidable p] {b c : Bool} {m : (Value → World → Prop) → World → Prop} {T : TypeId} {x y v : Value} {C : World → Prop} {KQ : Value → Prop}
theorem idGd {g : Bool} (h : gdM g m K w) : gdM g m K w := h
theorem idGdD {q : Prop} {d : Decidable q} (h : gdM (gd (.bool (@decide q d)) c) m K w) : gdM (gd (.bool (@decide q d)) c) m K w := h
theorem idGdN {q : Prop} {d : Decidable q} (h : gdM (gd (.bool (!@decide q d)) c) m K w) : gdM (gd (.bool (!@decide q d)) c) m K w := h
theorem idPick (h : oM P (.pick (.tmp 0) (.tmp 1) (.tmp 2)) T [v, x, y] K w) : oM P (.pick (.tmp 0) (.tmp 1) (.tmp 2)) T [v, x, y] K w := h
theorem idCond (h : condM v A B) : condM v A B := h
theorem idO {o : Op} {l : List Value} (h : oM P o T l K w) : oM P o T l K w := h
theorem idOQ {o : Op} {l : List Value} (h : oQ P o T l C KQ) : oQ P o T l C KQ := h
theorem idGdQ {g : Bool} {n : (World → Prop) → (Value → Prop) → Prop} (h : gdQ g n C KQ) : gdQ g n C KQ := h
theorem zF (k : m K w) (h : p := by first|assumption|omega) : gdM (gd (.bool (decide p)) true) m K w := gdt_pos h k
theorem zG (k : K undef w) (h : ¬p := by first|assumption|omega) : gdM (gd (.bool (decide p)) true) m K w := gdt_neg h k
theorem zI (k : m K w) (h : ¬p := by first|assumption|omega) : gdM (gd (.bool (decide p)) false) m K w := gdf_pos h k
theorem zJ (k : K undef w) (h : p := by first|assumption|omega) : gdM (gd (.bool (decide p)) false) m K w := gdf_neg h k
theorem zO (k : m K w) (h : p := by first|assumption|omega) : gdM (gd (.bool (!decide p)) false) m K w := gdfn_pos h k
theorem zP (k : K undef w) (h : ¬p := by first|assumption|omega) : gdM (gd (.bool (!decide p)) false) m K w := gdfn_neg h k
theorem zY (k : m K w) (h : b = false := by assumption) : gdM (gd (.bool b) false) m K w := gdfb_pos h k
theorem zZ (k : K undef w) (h : b = true := by assumption) : gdM (gd (.bool b) false) m K w := gdfb_neg h k
theorem zA (k : m K w) : gdM (gd (.bool true) true) m K w := gdtT k
theorem zB (k : K undef w) : gdM (gd (.bool false) true) m K w := gdtF k
theorem zC (k : m K w) : gdM (gd (.bool false) false) m K w := gdfF k
theorem zD (k : K undef w) : gdM (gd (.bool true) false) m K w := gdfT k
theorem zH (h1 : p → m K w) (h2 : ¬p → K undef w) : gdM (gd (.bool (decide p)) true) m K w := gdt_split h1 h2
theorem zK (h1 : p → K undef w) (h2 : ¬p → m K w) : gdM (gd (.bool (decide p)) false) m K w := gdf_split h1 h2
theorem zQ (h1 : p → m K w) (h2 : ¬p → K undef w) : gdM (gd (.bool (!decide p)) false) m K w := gdfn_split h1 h2
theorem yA (h1 : b = true → K undef w) (h2 : b = false → m K w) : gdM (gd (.bool b) false) m K w := gdfb_split h1 h2
theorem yB (k : K x w) : oM P (.pick (.tmp 0) (.tmp 1) (.tmp 2)) T [.bool true, x, y] K w := pickT k
theorem yC (k : K y w) : oM P (.pick (.tmp 0) (.tmp 1) (.tmp 2)) T [.bool false, x, y] K w := pickF k
theorem yD (k : K x w) (h : p := by first|assumption|omega) : oM P (.pick (.tmp 0) (.tmp 1) (.tmp 2)) T [.bool (decide p), x, y] K w := pick_pos h k
theorem yE (k : K y w) (h : ¬p := by first|assumption|omega) : oM P (.pick (.tmp 0) (.tmp 1) (.tmp 2)) T [.bool (decide p), x, y] K w := pick_neg h k
theorem yJ (k : K x w) (h : b = true := by assumption) : oM P (.pick (.tmp 0) (.tmp 1) (.tmp 2)) T [.bool b, x, y] K w := pickb_pos h k
theorem yK (k : K y w) (h : b = false := by assumption) : oM P (.pick (.tmp 0) (.tmp 1) (.tmp 2)) T [.bool b, x, y] K w := pickb_neg h k
theorem yL (k : A) : condM (.bool true) A B := condT k
theorem yM (k : B) : condM (.bool false) A B := condF k
theorem yN (k : A) (h : p := by first|assumption|omega) : condM (.bool (decide p)) A B := cond_pos h k
theorem yO (k : B) (h : ¬p := by first|assumption|omega) : condM (.bool (decide p)) A B := cond_neg h k
theorem yQ (k : A) (h : ¬p := by first|assumption|omega) : condM (.bool (!decide p)) A B := condn_pos h k
theorem yR (k : B) (h : p := by first|assumption|omega) : condM (.bool (!decide p)) A B := condn_neg h k
theorem yP (h1 : p → A) (h2 : ¬p → B) : condM (.bool (decide p)) A B := condM_dec h1 h2
theorem yS (h1 : p → B) (h2 : ¬p → A) : condM (.bool (!decide p)) A B := condM_ndec h1 h2
theorem yV (h1 : b = true → B) (h2 : b = false → A) : condM (.bool (!b)) A B := condbn_split h1 h2
theorem yY (h1 : b = true → A) (h2 : b = false → B) : condM (.bool b) A B := condM_b h1 h2
theorem wA (k : KQ x) : oQ P (.pick (.tmp 0) (.tmp 1) (.tmp 2)) T [.bool true, x, y] C KQ := pickQT k
theorem wB (k : KQ y) : oQ P (.pick (.tmp 0) (.tmp 1) (.tmp 2)) T [.bool false, x, y] C KQ := pickQF k
theorem wE (k : KQ x) (h : ¬p := by first|assumption|omega) : oQ P (.pick (.tmp 0) (.tmp 1) (.tmp 2)) T [.bool (!decide p), x, y] C KQ := pickQn_pos h k
theorem wF (k : KQ y) (h : p := by first|assumption|omega) : oQ P (.pick (.tmp 0) (.tmp 1) (.tmp 2)) T [.bool (!decide p), x, y] C KQ := pickQn_neg h k
end
end Go.Sh
namespace Go.Sh
open Go Go.RowKit
@[reducible] def cellsAre (w : World) : List (Addr × Value) → Prop
  | [] => True
  | p :: l => w.cell? p.1 = some p.2 ∧ cellsAre w l
theorem cellsAre_keep {w w' : World} : ∀ {L : List (Addr × Value)}, cellsAre w L → (∀ (a : Addr), a.block < w.heap.size → w'.cell? a = w.cell? a) → cellsAre w' L
  | [], _, _ => trivial
  | p :: l, h, k => by
    refine ⟨?_, cellsAre_keep h.2 k⟩
    have hlt : p.1.block < w.heap.size := by
      have h1 := h.1
      by_cases hc : p.1.block < w.heap.size
      · exact hc
      · unfold World.cell? at h1
        rw [Array.getElem?_eq_none (by omega)] at h1
        simp at h1
    rw [k _ hlt]; exact h.1
theorem cellsAre_append {w : World} : ∀ {A B : List (Addr × Value)}, cellsAre w A → cellsAre w B → cellsAre w (A ++ B)
  | [], _, _, hb => hb
  | _ :: _, _, ha, hb => ⟨ha.1, cellsAre_append ha.2 hb⟩
structure Kn (w0 : World) (L : List (Addr × Value)) (w' : World) : Prop where
  below : Below w0.heap.size w0 w'
  cells : cellsAre w' L
namespace Kn
variable {w0 w w' : World} {L : List (Addr × Value)}
theorem next (h : Kn w0 L w) (hb : Below w.heap.size w w') : Kn w0 L w' := ⟨h.below.on hb, cellsAre_keep h.cells fun a ha => hb.cell ha⟩
theorem drew (h : Kn w0 L w) : Kn w0 L { w with drawn := w.drawn + 1 } := h.next .drawn
theorem more {A : List (Addr × Value)} (h : Kn w0 L w) (ha : cellsAre w A) : Kn w0 (A ++ L) w := ⟨h.below, cellsAre_append ha h.cells⟩
end Kn
@[reducible] def cellsOf (L : List (Addr × Value)) (b : Nat) : Nat → List Value → List (Addr × Value)
  | _, [] => L
  | i, v :: l => (⟨b, i, none⟩, v) :: cellsOf L b (i + 1) l
def Mine (w : World) (g : Nat) (n : Nat) : Prop := ∃ cur T, w.heap[g]? = some (.cells cur T (0, 0)) ∧ cur.size = n
theorem Mine.next {w w' : World} {g n : Nat} (h : Mine w g n) (hb : Below w.heap.size w w') : Mine w' g n := by
  obtain ⟨cur, T, h1, h2⟩ := h
  refine ⟨cur, T, ?_, h2⟩
  rw [hb.block g (Array.getElem?_eq_some_iff.1 h1).1]; exact h1
section
variable {P : Program} {w0 w : World} {K : Value → World → Prop} {T T' : TypeId} {L : List (Addr × Value)}
end
end Go.Sh
namespace Go.Sh
open Go Go.RowKit
structure KnM (w0 : World) (L : List (Addr × Value)) (g n : Nat) (w' : World) : Prop where
  kn : Kn w0 L w'
  mine : Mine w' g n
  base : w0.heap.size ≤ g
  off : ∀ p ∈ L, p.1.block ≠ g
namespace KnM
variable {w0 w w' : World} {L : List (Addr × Value)} {g n : Nat}
theorem next (h : KnM w0 L g n w) (hb : Below w.heap.size w w') : KnM w0 L g n w' := ⟨h.kn.next hb, h.mine.next hb, h.base, h.off⟩
theorem drew (h : KnM w0 L g n w) : KnM w0 L g n { w with drawn := w.drawn + 1 } := h.next .drawn
theorem cells (h : KnM w0 L g n w) : cellsAre w L := h.kn.cells
theorem below (h : KnM w0 L g n w) : Below w0.heap.size w0 w := h.kn.below
end KnM
section
variable {P : Program} {w0 w : World} {K : Value → World → Prop} {T T' : TypeId} {L : List (Addr × Value)} {g n : Nat}
variable {C : World → Prop} {KQ : Value → Prop} {x y v : Value} {p : Prop} [Decidable p]
theorem pickH {b : Bool} (k : KQ (bif b then x else y)) : oH P (.pick (.tmp 0) (.tmp 1) (.tmp 2)) T [.bool b, x, y] C KQ := by
  refine ⟨_, fun w _ => ?_, k⟩
  simp [xop, execOp, evalL, evE, asBool]
end
end Go.Sh
set_option linter.unusedVariables false
set_option maxRecDepth 100000
namespace Go.Proofs
open Go.Sh
def sh_62 (a0 : Value) (K : Value → World → Prop) (w : World) : Prop :=
 oM Tryz.prog (.binOp .lss 3 (.tmp 0) (.tmp 1) 3) 4 [a0, (.int .i64 0)] (fun v4_1 w =>
 condM v4_1
 (K (.string ⟨#[]⟩) w)
 (callM Tryz.prog 80 #[a0] (fun v6_2 w =>
 K v6_2 w) w)) w
theorem sh_62_eq (a0 : Value) (K : Value → World → Prop) (w : World) : sh_62 a0 K w = code Tryz.prog (fun _ => 0) 7 (Tryz.f62.body.getD .skip) (slotsAt [a0]) (retK Tryz.prog [.tmp 2] K) w := by kernel_rfl
theorem sh_62_ok {a0 : Value} {K : Value → World → Prop} {w : World} (h : sh_62 a0 K w) : callM Tryz.prog 62 #[a0] K w :=
  calls_of_code (fun _ => 0) (fn := Tryz.f62) (rs := [.tmp 2]) Tryz.func62 rfl rfl (by kernel_rfl) (Nat.le_of_ble_eq_true rfl) ((sh_62_eq a0 K w).mp h)
def sh_64 (a0 : Value) (K : Value → World → Prop) (w : World) : Prop :=
 oM Tryz.prog (.binOp .lss 3 (.tmp 0) (.tmp 1) 3) 4 [a0, (.int .i64 0)] (fun v4_1 w =>
 condM v4_1
 (K (.string ⟨#[]⟩) w)
 (callM Tryz.prog 82 #[a0] (fun v6_2 w =>
 K v6_2 w) w)) w
theorem sh_64_eq (a0 : Value) (K : Value → World → Prop) (w : World) : sh_64 a0 K w = code Tryz.prog (fun _ => 0) 7 (Tryz.f64.body.getD .skip) (slotsAt [a0]) (retK Tryz.prog [.tmp 2] K) w := by kernel_rfl
theorem sh_64_ok {a0 : Value} {K : Value → World → Prop} {w : World} (h : sh_64 a0 K w) : callM Tryz.prog 64 #[a0] K w :=
  calls_of_code (fun _ => 0) (fn := Tryz.f64) (rs := [.tmp 2]) Tryz.func64 rfl rfl (by kernel_rfl) (Nat.le_of_ble_eq_true rfl) ((sh_64_eq a0 K w).mp h)
def sh_80 (a0 : Value) (K : Value → World → Prop) (w : World) : Prop :=
 callM Tryz.prog 79 #[a0] (fun v4_1 w =>
 oM Tryz.prog (.binOp .add 9 (.tmp 0) (.tmp 1) 9) 9 [v4_1, (.string ⟨#[59]⟩)] (fun v5_2 w =>
 K v5_2 w) w) w
theorem sh_80_eq (a0 : Value) (K : Value → World → Prop) (w : World) : sh_80 a0 K w = code Tryz.prog (fun _ => 0) 6 (Tryz.f80.body.getD .skip) (slotsAt [a0]) (retK Tryz.prog [.tmp 2] K) w := by kernel_rfl
theorem sh_80_ok {a0 : Value} {K : Value → World → Prop} {w : World} (h : sh_80 a0 K w) : callM Tryz.prog 80 #[a0] K w :=
  calls_of_code (fun _ => 0) (fn := Tryz.f80) (rs := [.tmp 2]) Tryz.func80 rfl rfl (by kernel_rfl) (Nat.le_of_ble_eq_true rfl) ((sh_80_eq a0 K w).mp h)
def sh_82 (a0 : Value) (K : Value → World → Prop) (w : World) : Prop :=
 oM Tryz.prog (.binOp .lss 3 (.tmp 0) (.tmp 1) 3) 4 [a0, (.int .i64 0)] (fun v4_1 w =>
 condM v4_1
 (callM Tryz.prog 81 #[a0] (fun v6_2 w =>
 oM Tryz.prog (.binOp .add 9 (.tmp 0) (.tmp 1) 9) 9 [(.string ⟨#[45]⟩), v6_2] (fun v7_3 w =>
 oM Tryz.prog (.binOp .add 9 (.tmp 0) (.tmp 1) 9) 9 [v7_3, (.string ⟨#[59]⟩)] (fun v8_4 w =>
 K v8_4 w) w) w) w)
 (oM Tryz.prog (.unOp .neg 3 (.tmp 0)) 3 [a0] (fun v10_5 w =>
 callM Tryz.prog 81 #[v10_5] (fun v11_6 w =>
 oM Tryz.prog (.binOp .add 9 (.tmp 0) (.tmp 1) 9) 9 [v11_6, (.string ⟨#[59]⟩)] (fun v12_7 w =>
 K v12_7 w) w) w) w)) w
theorem sh_82_eq (a0 : Value) (K : Value → World → Prop) (w : World) : sh_82 a0 K w = code Tryz.prog (fun _ => 0) 13 (Tryz.f82.body.getD .skip) (slotsAt [a0]) (retK Tryz.prog [.tmp 2] K) w := by kernel_rfl
theorem sh_82_ok {a0 : Value} {K : Value → World → Prop} {w : World} (h : sh_82 a0 K w) : callM Tryz.prog 82 #[a0] K w :=
  calls_of_code (fun _ => 0) (fn := Tryz.f82) (rs := [.tmp 2]) Tryz.func82 rfl rfl (by kernel_rfl) (Nat.le_of_ble_eq_true rfl) ((sh_82_eq a0 K w).mp h)
def sh_61 (a0 : Value) (K : Value → World → Prop) (w : World) : Prop :=
 oM Tryz.prog (.call (Go.Call.mk (.builtin .len) #[(.tmp 0)] #[9])) 3 [a0] (fun v4_1 w =>
 callM Tryz.prog 79 #[v4_1] (fun v5_2 w =>
 oM Tryz.prog (.binOp .add 9 (.tmp 0) (.tmp 1) 9) 9 [v5_2, (.string ⟨#[58]⟩)] (fun v6_3 w =>
 oM Tryz.prog (.binOp .add 9 (.tmp 0) (.tmp 1) 9) 9 [v6_3, a0] (fun v8_4 w =>
 oM Tryz.prog (.binOp .add 9 (.tmp 0) (.tmp 1) 9) 9 [v8_4, (.string ⟨#[44]⟩)] (fun v9_5 w =>
 K v9_5 w) w) w) w) w) w
theorem sh_61_eq (a0 : Value) (K : Value → World → Prop) (w : World) : sh_61 a0 K w = code Tryz.prog (fun _ => 0) 10 (Tryz.f61.body.getD .skip) (slotsAt [a0]) (retK Tryz.prog [.tmp 2] K) w := by kernel_rfl
theorem sh_61_ok {a0 : Value} {K : Value → World → Prop} {w : World} (h : sh_61 a0 K w) : callM Tryz.prog 61 #[a0] K w :=
  calls_of_code (fun _ => 0) (fn := Tryz.f61) (rs := [.tmp 2]) Tryz.func61 rfl rfl (by kernel_rfl) (Nat.le_of_ble_eq_true rfl) ((sh_61_eq a0 K w).mp h)
def sh_63 (a0 : Value) (K : Value → World → Prop) (w : World) : Prop :=
 oM Tryz.prog (.call (Go.Call.mk (.builtin .len) #[(.tmp 0)] #[9])) 3 [a0] (fun v4_1 w =>
 oM Tryz.prog (.unOp .neg 3 (.tmp 0)) 3 [v4_1] (fun v5_2 w =>
 callM Tryz.prog 81 #[v5_2] (fun v6_3 w =>
 oM Tryz.prog (.binOp .add 9 (.tmp 0) (.tmp 1) 9) 9 [v6_3, (.string ⟨#[58]⟩)] (fun v7_4 w =>
 oM Tryz.prog (.binOp .add 9 (.tmp 0) (.tmp 1) 9) 9 [v7_4, a0] (fun v9_5 w =>
 oM Tryz.prog (.binOp .add 9 (.tmp 0) (.tmp 1) 9) 9 [v9_5, (.string ⟨#[44]⟩)] (fun v10_6 w =>
 K v10_6 w) w) w) w) w) w) w
theorem sh_63_eq (a0 : Value) (K : Value → World → Prop) (w : World) : sh_63 a0 K w = code Tryz.prog (fun _ => 0) 11 (Tryz.f63.body.getD .skip) (slotsAt [a0]) (retK Tryz.prog [.tmp 2] K) w := by kernel_rfl
theorem sh_63_ok {a0 : Value} {K : Value → World → Prop} {w : World} (h : sh_63 a0 K w) : callM Tryz.prog 63 #[a0] K w :=
  calls_of_code (fun _ => 0) (fn := Tryz.f63) (rs := [.tmp 2]) Tryz.func63 rfl rfl (by kernel_rfl) (Nat.le_of_ble_eq_true rfl) ((sh_63_eq a0 K w).mp h)
def sh_52 (a0 : Value) (K : Value → World → Prop) (w : World) : Prop :=
 oM Tryz.prog (.build 103 #[(0, (.tmp 0))]) 103 [a0] (fun v4_1 w =>
 oM Tryz.prog (.box 103 (.tmp 0)) 87 [v4_1] (fun v5_2 w =>
 K v5_2 w) w) w
theorem sh_52_eq (a0 : Value) (K : Value → World → Prop) (w : World) : sh_52 a0 K w = code Tryz.prog (fun _ => 0) 6 (Tryz.f52.body.getD .skip) (slotsAt [a0]) (retK Tryz.prog [.tmp 2] K) w := by kernel_rfl
theorem sh_52_ok {a0 : Value} {K : Value → World → Prop} {w : World} (h : sh_52 a0 K w) : callM Tryz.prog 52 #[a0] K w :=
  calls_of_code (fun _ => 0) (fn := Tryz.f52) (rs := [.tmp 2]) Tryz.func52 rfl rfl (by kernel_rfl) (Nat.le_of_ble_eq_true rfl) ((sh_52_eq a0 K w).mp h)
def sh_54 (a0 : Value) (K : Value → World → Prop) (w : World) : Prop :=
 callM Tryz.prog 73 #[a0, (.int .u8 59), (.int .i64 0)] (fun v4_1 w =>
 K v4_1 w) w
theorem sh_54_eq (a0 : Value) (K : Value → World → Prop) (w : World) : sh_54 a0 K w = code Tryz.prog (fun _ => 0) 5 (Tryz.f54.body.getD .skip) (slotsAt [a0]) (retK Tryz.prog [.tmp 2] K) w := by kernel_rfl
theorem sh_54_ok {a0 : Value} {K : Value → World → Prop} {w : World} (h : sh_54 a0 K w) : callM Tryz.prog 54 #[a0] K w :=
  calls_of_code (fun _ => 0) (fn := Tryz.f54) (rs := [.tmp 2]) Tryz.func54 rfl rfl (by kernel_rfl) (Nat.le_of_ble_eq_true rfl) ((sh_54_eq a0 K w).mp h)
def sh_53 (a0 : Value) (K : Value → World → Prop) (w : World) : Prop :=
 callM Tryz.prog 73 #[a0, (.int .u8 58), (.int .i64 0)] (fun v6_1 w =>
 oM Tryz.prog (.nilCheck (.tmp 0)) 0 [a0] (fun v9_2 w =>
 oM Tryz.prog (.fieldAddr 103 (.tmp 0) 0) 0 [v9_2] (fun v10_3 w =>
 oM Tryz.prog (.load 9 (.tmp 0)) 9 [v10_3] (fun v11_4 w =>
 oM Tryz.prog (.call (Go.Call.mk (.builtin .len) #[(.tmp 0)] #[9])) 3 [v11_4] (fun v12_5 w =>
 oM Tryz.prog (.binOp .gtr 3 (.tmp 0) (.tmp 1) 3) 4 [v6_1, v12_5] (fun v13_6 w =>
 condM v13_6
 (callM Tryz.prog 74 #[a0] (fun v15_7 w =>
 K (.string ⟨#[]⟩) w) w)
 (oM Tryz.prog (.nilCheck (.tmp 0)) 0 [a0] (fun v17_8 w =>
 oM Tryz.prog (.fieldAddr 103 (.tmp 0) 0) 0 [v17_8] (fun v18_9 w =>
 oM Tryz.prog (.load 9 (.tmp 0)) 9 [v18_9] (fun v19_10 w =>
 oM Tryz.prog (.slice 9 (.tmp 0) none (some (.tmp 1)) none) 9 [v19_10, v6_1] (fun v21_11 w =>
 oM Tryz.prog (.nilCheck (.tmp 0)) 0 [a0] (fun v24_12 w =>
 oM Tryz.prog (.fieldAddr 103 (.tmp 0) 0) 0 [v24_12] (fun v25_13 w =>
 oM Tryz.prog (.load 9 (.tmp 0)) 9 [v25_13] (fun v26_14 w =>
 oM Tryz.prog (.slice 9 (.tmp 0) (some (.tmp 1)) none none) 9 [v26_14, v6_1] (fun v28_15 w =>
 oM Tryz.prog (.nilCheck (.tmp 0)) 0 [a0] (fun v29_16 w =>
 oM Tryz.prog (.fieldAddr 103 (.tmp 0) 0) 0 [v29_16] (fun v30_17 w =>
 oM Tryz.prog (.store 9 (.tmp 0) (.tmp 1)) 0 [v30_17, v28_15] (fun _ w =>
 callM Tryz.prog 75 #[a0, (.string ⟨#[44]⟩)] (fun v32_18 w =>
 oM Tryz.prog (.nilCheck (.tmp 0)) 0 [a0] (fun v34_19 w =>
 oM Tryz.prog (.fieldAddr 103 (.tmp 0) 1) 0 [v34_19] (fun v35_20 w =>
 oM Tryz.prog (.load 4 (.tmp 0)) 4 [v35_20] (fun v36_21 w =>
 condM v36_21
 (K (.string ⟨#[]⟩) w)
 (K v21_11 w)) w) w) w) w) w) w) w) w) w) w) w) w) w) w) w)) w) w) w) w) w) w
theorem sh_53_eq (a0 : Value) (K : Value → World → Prop) (w : World) : sh_53 a0 K w = code Tryz.prog (fun _ => 0) 38 (Tryz.f53.body.getD .skip) (slotsAt [a0]) (retK Tryz.prog [.tmp 2] K) w := by kernel_rfl
theorem sh_53_ok {a0 : Value} {K : Value → World → Prop} {w : World} (h : sh_53 a0 K w) : callM Tryz.prog 53 #[a0] K w :=
  calls_of_code (fun _ => 0) (fn := Tryz.f53) (rs := [.tmp 2]) Tryz.func53 rfl rfl (by kernel_rfl) (Nat.le_of_ble_eq_true rfl) ((sh_53_eq a0 K w).mp h)
def sh_57 (a0 : Value) (K : Value → World → Prop) (w : World) : Prop :=
 oM Tryz.prog (.build 94 #[(0, (.tmp 0))]) 94 [a0] (fun v4_1 w =>
 oM Tryz.prog (.box 94 (.tmp 0)) 91 [v4_1] (fun v5_2 w =>
 K v5_2 w) w) w
theorem sh_57_eq (a0 : Value) (K : Value → World → Prop) (w : World) : sh_57 a0 K w = code Tryz.prog (fun _ => 0) 6 (Tryz.f57.body.getD .skip) (slotsAt [a0]) (retK Tryz.prog [.tmp 2] K) w := by kernel_rfl
theorem sh_57_ok {a0 : Value} {K : Value → World → Prop} {w : World} (h : sh_57 a0 K w) : callM Tryz.prog 57 #[a0] K w :=
  calls_of_code (fun _ => 0) (fn := Tryz.f57) (rs := [.tmp 2]) Tryz.func57 rfl rfl (by kernel_rfl) (Nat.le_of_ble_eq_true rfl) ((sh_57_eq a0 K w).mp h)
def sh_60 (a0 : Value) (K : Value → World → Prop) (w : World) : Prop :=
 callM Tryz.prog 76 #[a0, (.int .u8 59)] (fun v4_1 w =>
 K v4_1 w) w
theorem sh_60_eq (a0 : Value) (K : Value → World → Prop) (w : World) : sh_60 a0 K w = code Tryz.prog (fun _ => 0) 5 (Tryz.f60.body.getD .skip) (slotsAt [a0]) (retK Tryz.prog [.tmp 2] K) w := by kernel_rfl
theorem sh_60_ok {a0 : Value} {K : Value → World → Prop} {w : World} (h : sh_60 a0 K w) : callM Tryz.prog 60 #[a0] K w :=
  calls_of_code (fun _ => 0) (fn := Tryz.f60) (rs := [.tmp 2]) Tryz.func60 rfl rfl (by kernel_rfl) (Nat.le_of_ble_eq_true rfl) ((sh_60_eq a0 K w).mp h)
def sh_59 (a0 : Value) (K : Value → World → Prop) (w : World) : Prop :=
 callM Tryz.prog 76 #[a0, (.int .u8 58)] (fun v6_1 w =>
 oM Tryz.prog (.nilCheck (.tmp 0)) 0 [a0] (fun v8_2 w =>
 oM Tryz.prog (.fieldAddr 94 (.tmp 0) 1) 0 [v8_2] (fun v9_3 w =>
 oM Tryz.prog (.load 4 (.tmp 0)) 4 [v9_3] (fun v10_4 w =>
 gdM (gd v10_4 false) (pureM v6_1) (fun v12_5 w =>
 gdM (gd v10_4 false) (pureM a0) (fun v13_6 w =>
 gdM (gd v10_4 false) (oM Tryz.prog (.nilCheck (.tmp 0)) 0 [v13_6]) (fun v14_7 w =>
 gdM (gd v10_4 false) (oM Tryz.prog (.fieldAddr 94 (.tmp 0) 0) 0 [v14_7]) (fun v15_8 w =>
 gdM (gd v10_4 false) (oM Tryz.prog (.load 9 (.tmp 0)) 9 [v15_8]) (fun v16_9 w =>
 gdM (gd v10_4 false) (oM Tryz.prog (.call (Go.Call.mk (.builtin .len) #[(.tmp 0)] #[9])) 3 [v16_9]) (fun v17_10 w =>
 gdM (gd v10_4 false) (oM Tryz.prog (.binOp .geq 3 (.tmp 0) (.tmp 1) 3) 4 [v12_5, v17_10]) (fun v18_11 w =>
 oM Tryz.prog (.pick (.tmp 0) (.tmp 1) (.tmp 2)) 4 [v10_4, (.bool true), v18_11] (fun v19_12 w =>
 condM v19_12
 (callM Tryz.prog 77 #[a0] (fun v21_13 w =>
 K (.string ⟨#[]⟩) w) w)
 (oM Tryz.prog (.nilCheck (.tmp 0)) 0 [a0] (fun v23_14 w =>
 oM Tryz.prog (.fieldAddr 94 (.tmp 0) 0) 0 [v23_14] (fun v24_15 w =>
 oM Tryz.prog (.load 9 (.tmp 0)) 9 [v24_15] (fun v25_16 w =>
 oM Tryz.prog (.slice 9 (.tmp 0) none (some (.tmp 1)) none) 9 [v25_16, v6_1] (fun v27_17 w =>
 oM Tryz.prog (.nilCheck (.tmp 0)) 0 [a0] (fun v30_18 w =>
 oM Tryz.prog (.fieldAddr 94 (.tmp 0) 0) 0 [v30_18] (fun v31_19 w =>
 oM Tryz.prog (.load 9 (.tmp 0)) 9 [v31_19] (fun v32_20 w =>
 oM Tryz.prog (.slice 9 (.tmp 0) (some (.tmp 1)) none none) 9 [v32_20, v6_1] (fun v34_21 w =>
 oM Tryz.prog (.nilCheck (.tmp 0)) 0 [a0] (fun v35_22 w =>
 oM Tryz.prog (.fieldAddr 94 (.tmp 0) 0) 0 [v35_22] (fun v36_23 w =>
 oM Tryz.prog (.store 9 (.tmp 0) (.tmp 1)) 0 [v36_23, v34_21] (fun _ w =>
 callM Tryz.prog 78 #[a0, (.int .u8 44)] (fun v38_24 w =>
 oM Tryz.prog (.unOp .not 4 (.tmp 0)) 4 [v38_24] (fun v39_25 w =>
 condM v39_25
 (K (.string ⟨#[]⟩) w)
 (K v27_17 w)) w) w) w) w) w) w) w) w) w) w) w) w) w)) w) w) w) w) w) w) w) w) w) w) w) w
theorem sh_59_eq (a0 : Value) (K : Value → World → Prop) (w : World) : sh_59 a0 K w = code Tryz.prog (fun _ => 0) 41 (Tryz.f59.body.getD .skip) (slotsAt [a0]) (retK Tryz.prog [.tmp 2] K) w := by kernel_rfl
theorem sh_59_ok {a0 : Value} {K : Value → World → Prop} {w : World} (h : sh_59 a0 K w) : callM Tryz.prog 59 #[a0] K w :=
  calls_of_code (fun _ => 0) (fn := Tryz.f59) (rs := [.tmp 2]) Tryz.func59 rfl rfl (by kernel_rfl) (Nat.le_of_ble_eq_true rfl) ((sh_59_eq a0 K w).mp h)
def sh_24 (a0 : Value) (a1 : Value) (K : Value → World → Prop) (w : World) : Prop :=
 oM Tryz.prog (.call (Go.Call.mk (.builtin .len) #[(.tmp 0)] #[46])) 3 [a0] (fun v7_1 w =>
 oM Tryz.prog (.call (Go.Call.mk (.builtin .len) #[(.tmp 0)] #[46])) 3 [a1] (fun v9_2 w =>
 oM Tryz.prog (.binOp .neq 3 (.tmp 0) (.tmp 1) 3) 4 [v7_1, v9_2] (fun v10_3 w =>
 condM v10_3
 (K (.bool false) w)
 (loopM [(.bool false), (.int .i64 0)] w (fun J_4 m_5 l_6 u_l_6 w0_l_6 => (fun w => (
 oM Tryz.prog (.call (Go.Call.mk (.builtin .len) #[(.tmp 0)] #[46])) 3 [a0] (fun v13_7 w =>
 oM Tryz.prog (.binOp .lss 3 (.tmp 0) (.tmp 1) 3) 4 [(l_6.getD 1 undef), v13_7] (fun v14_8 w =>
 condM v14_8
 (quietM w (fun C_9 => (oQ Tryz.prog (.indexAddr 46 (.tmp 0) (.tmp 1)) 0 [a0, (l_6.getD 1 undef)] C_9 (fun v19_10 =>
 oQ Tryz.prog (.load 9 (.tmp 0)) 9 [v19_10] C_9 (fun v20_11 =>
 oQ Tryz.prog (.indexAddr 46 (.tmp 0) (.tmp 1)) 0 [a1, (l_6.getD 1 undef)] C_9 (fun v23_12 =>
 oQ Tryz.prog (.load 9 (.tmp 0)) 9 [v23_12] C_9 (fun v24_13 =>
 oQ Tryz.prog (.binOp .neq 9 (.tmp 0) (.tmp 1) 9) 4 [v20_11, v24_13] C_9 (fun v25_14 =>
 ∀ w, C_9 w → (condM v25_14
 (K (.bool false) w)
 (oM Tryz.prog (.binOp .add 3 (.tmp 0) (.tmp 1) 3) 3 [(l_6.getD 1 undef), (.int .i64 1)] (fun v16_15 w =>
 J_4 [(l_6.getD 0 undef), v16_15] w ∧ m_5 [(l_6.getD 0 undef), v16_15] w < m_5 l_6 w0_l_6) w))))))))))
 (K (.bool true) w)) w) w)) w0_l_6))) w) w) w
theorem sh_24_eq (a0 : Value) (a1 : Value) (K : Value → World → Prop) (w : World) : sh_24 a0 a1 K w = code Tryz.prog (fun _ => 0) 26 (Tryz.f24.body.getD .skip) (slotsAt [a0, a1]) (retK Tryz.prog [.tmp 4] K) w := by kernel_rfl
theorem sh_24_ok {a0 a1 : Value} {K : Value → World → Prop} {w : World} (h : sh_24 a0 a1 K w) : callM Tryz.prog 24 #[a0, a1] K w :=
  calls_of_code (fun _ => 0) (fn := Tryz.f24) (rs := [.tmp 4]) Tryz.func24 rfl rfl (by kernel_rfl) (Nat.le_of_ble_eq_true rfl) ((sh_24_eq a0 a1 K w).mp h)
def sh_58 (a0 : Value) (K : Value → World → Prop) (w : World) : Prop :=
 oM Tryz.prog (.nilCheck (.tmp 0)) 0 [a0] (fun v4_1 w =>
 oM Tryz.prog (.fieldAddr 94 (.tmp 0) 0) 0 [v4_1] (fun v5_2 w =>
 oM Tryz.prog (.load 9 (.tmp 0)) 9 [v5_2] (fun v6_3 w =>
 oM Tryz.prog (.call (Go.Call.mk (.builtin .len) #[(.tmp 0)] #[9])) 3 [v6_3] (fun v7_4 w =>
 K v7_4 w) w) w) w) w
theorem sh_58_eq (a0 : Value) (K : Value → World → Prop) (w : World) : sh_58 a0 K w = code Tryz.prog (fun _ => 0) 8 (Tryz.f58.body.getD .skip) (slotsAt [a0]) (retK Tryz.prog [.tmp 2] K) w := by kernel_rfl
theorem sh_58_ok {a0 : Value} {K : Value → World → Prop} {w : World} (h : sh_58 a0 K w) : callM Tryz.prog 58 #[a0] K w :=
  calls_of_code (fun _ => 0) (fn := Tryz.f58) (rs := [.tmp 2]) Tryz.func58 rfl rfl (by kernel_rfl) (Nat.le_of_ble_eq_true rfl) ((sh_58_eq a0 K w).mp h)
def sh_81 (a0 : Value) (K : Value → World → Prop) (w : World) : Prop :=
 oM Tryz.prog (.binOp .rem 3 (.tmp 0) (.tmp 1) 3) 3 [a0, (.int .i64 10)] (fun v5_1 w =>
 oM Tryz.prog (.binOp .sub 3 (.tmp 0) (.tmp 1) 3) 3 [(.int .i64 48), v5_1] (fun v6_2 w =>
 oM Tryz.prog (.convert 3 5 (.tmp 0)) 5 [v6_2] (fun v7_3 w =>
 oM Tryz.prog (.buildSlice 96 1 #[(0, (.tmp 0))]) 96 [v7_3] (fun v8_4 w =>
 oM Tryz.prog (.convert 96 9 (.tmp 0)) 9 [v8_4] (fun v9_5 w =>
 oM Tryz.prog (.binOp .gtr 3 (.tmp 0) (.tmp 1) 3) 4 [a0, (.int .i64 (-10))] (fun v11_6 w =>
 condM v11_6
 (K v9_5 w)
 (oM Tryz.prog (.binOp .quo 3 (.tmp 0) (.tmp 1) 3) 3 [a0, (.int .i64 10)] (fun v14_7 w =>
 callM Tryz.prog 81 #[v14_7] (fun v15_8 w =>
 oM Tryz.prog (.binOp .add 9 (.tmp 0) (.tmp 1) 9) 9 [v15_8, v9_5] (fun v17_9 w =>
 K v17_9 w) w) w) w)) w) w) w) w) w) w
theorem sh_81_eq (a0 : Value) (K : Value → World → Prop) (w : World) : sh_81 a0 K w = code Tryz.prog (fun _ => 0) 18 (Tryz.f81.body.getD .skip) (slotsAt [a0]) (retK Tryz.prog [.tmp 2] K) w := by kernel_rfl
theorem sh_81_ok {a0 : Value} {K : Value → World → Prop} {w : World} (h : sh_81 a0 K w) : callM Tryz.prog 81 #[a0] K w :=
  calls_of_code (fun _ => 0) (fn := Tryz.f81) (rs := [.tmp 2]) Tryz.func81 rfl rfl (by kernel_rfl) (Nat.le_of_ble_eq_true rfl) ((sh_81_eq a0 K w).mp h)
def sh_73 (a0 : Value) (a1 : Value) (a2 : Value) (K : Value → World → Prop) (w : World) : Prop :=
 quietM w (fun C_1 => (oQ Tryz.prog (.nilCheck (.tmp 0)) 0 [a0] C_1 (fun v12_2 =>
 oQ Tryz.prog (.fieldAddr 103 (.tmp 0) 0) 0 [v12_2] C_1 (fun v13_3 =>
 oQ Tryz.prog (.load 9 (.tmp 0)) 9 [v13_3] C_1 (fun v14_4 =>
 oQ Tryz.prog (.nilCheck (.tmp 0)) 0 [a0] C_1 (fun v16_5 =>
 oQ Tryz.prog (.fieldAddr 103 (.tmp 0) 0) 0 [v16_5] C_1 (fun v17_6 =>
 oQ Tryz.prog (.load 9 (.tmp 0)) 9 [v17_6] C_1 (fun v18_7 =>
 oQ Tryz.prog (.call (Go.Call.mk (.builtin .len) #[(.tmp 0)] #[9])) 3 [v18_7] C_1 (fun v19_8 =>
 oQ Tryz.prog (.call (Go.Call.mk (.builtin .min) #[(.tmp 0), (.tmp 1)] #[3, 3])) 3 [v19_8, (.int .i64 21)] C_1 (fun v20_9 =>
 oQ Tryz.prog (.slice 9 (.tmp 0) none (some (.tmp 1)) none) 9 [v14_4, v20_9] C_1 (fun v21_10 =>
 ∀ w, C_1 w → (callM Tryz.prog 85 #[v21_10, a1] (fun v24_11 w =>
 oM Tryz.prog (.binOp .lss 3 (.tmp 0) (.tmp 1) 3) 4 [v24_11, (.int .i64 0)] (fun v26_12 w =>
 condM v26_12
 (callM Tryz.prog 74 #[a0] (fun v28_13 w =>
 K (.int .i64 0) w) w)
 (oM Tryz.prog (.slice 9 (.tmp 0) none (some (.tmp 1)) none) 9 [v21_10, v24_11] (fun v32_14 w =>
 callM Tryz.prog 86 #[v32_14] (fun v33_15 w =>
 oM Tryz.prog (.extract (.tmp 0) 0) 3 [v33_15] (fun v34_16 w =>
 oM Tryz.prog (.extract (.tmp 0) 1) 112 [v33_15] (fun v35_17 w =>
 quietM w (fun C_18 => (oQ Tryz.prog (.binOp .neq 112 (.tmp 0) (.const .nilIface) 112) 4 [v35_17] C_18 (fun v37_19 =>
 gdQ (gd v37_19 false) (pureQ v34_16) C_18 (fun v39_20 =>
 gdQ (gd v37_19 false) (callQ Tryz.prog 79 #[v39_20]) C_18 (fun v40_21 =>
 gdQ (gd v37_19 false) (pureQ v21_10) C_18 (fun v41_22 =>
 gdQ (gd v37_19 false) (pureQ v24_11) C_18 (fun v42_23 =>
 gdQ (gd v37_19 false) (oQ Tryz.prog (.slice 9 (.tmp 0) none (some (.tmp 1)) none) 9 [v41_22, v42_23]) C_18 (fun v43_24 =>
 gdQ (gd v37_19 false) (oQ Tryz.prog (.binOp .neq 9 (.tmp 0) (.tmp 1) 9) 4 [v40_21, v43_24]) C_18 (fun v44_25 =>
 oQ Tryz.prog (.pick (.tmp 0) (.tmp 1) (.tmp 2)) 4 [v37_19, (.bool true), v44_25] C_18 (fun v45_26 =>
 gdQ (gd v45_26 false) (pureQ v34_16) C_18 (fun v47_27 =>
 gdQ (gd v45_26 false) (pureQ a2) C_18 (fun v48_28 =>
 gdQ (gd v45_26 false) (oQ Tryz.prog (.binOp .lss 3 (.tmp 0) (.tmp 1) 3) 4 [v47_27, v48_28]) C_18 (fun v49_29 =>
 oQ Tryz.prog (.pick (.tmp 0) (.tmp 1) (.tmp 2)) 4 [v45_26, (.bool true), v49_29] C_18 (fun v50_30 =>
 ∀ w, C_18 w → (condM v50_30
 (callM Tryz.prog 74 #[a0] (fun v52_31 w =>
 K (.int .i64 0) w) w)
 (oM Tryz.prog (.nilCheck (.tmp 0)) 0 [a0] (fun v55_32 w =>
 oM Tryz.prog (.fieldAddr 103 (.tmp 0) 0) 0 [v55_32] (fun v56_33 w =>
 oM Tryz.prog (.load 9 (.tmp 0)) 9 [v56_33] (fun v57_34 w =>
 oM Tryz.prog (.binOp .add 3 (.tmp 0) (.tmp 1) 3) 3 [v24_11, (.int .i64 1)] (fun v59_35 w =>
 oM Tryz.prog (.slice 9 (.tmp 0) (some (.tmp 1)) none none) 9 [v57_34, v59_35] (fun v60_36 w =>
 oM Tryz.prog (.nilCheck (.tmp 0)) 0 [a0] (fun v61_37 w =>
 oM Tryz.prog (.fieldAddr 103 (.tmp 0) 0) 0 [v61_37] (fun v62_38 w =>
 oM Tryz.prog (.store 9 (.tmp 0) (.tmp 1)) 0 [v62_38, v60_36] (fun _ w =>
 K v34_16 w) w) w) w) w) w) w) w) w))))))))))))))))) w) w) w) w)) w) w))))))))))))
theorem sh_73_eq (a0 : Value) (a1 : Value) (a2 : Value) (K : Value → World → Prop) (w : World) : sh_73 a0 a1 a2 K w = code Tryz.prog (fun _ => 0) 64 (Tryz.f73.body.getD .skip) (slotsAt [a0, a1, a2]) (retK Tryz.prog [.tmp 6] K) w := by kernel_rfl
theorem sh_73_ok {a0 a1 a2 : Value} {K : Value → World → Prop} {w : World} (h : sh_73 a0 a1 a2 K w) : callM Tryz.prog 73 #[a0, a1, a2] K w :=
  calls_of_code (fun _ => 0) (fn := Tryz.f73) (rs := [.tmp 6]) Tryz.func73 rfl rfl (by kernel_rfl) (Nat.le_of_ble_eq_true rfl) ((sh_73_eq a0 a1 a2 K w).mp h)
def sh_74 (a0 : Value) (K : Value → World → Prop) (w : World) : Prop :=
 oM Tryz.prog (.nilCheck (.tmp 0)) 0 [a0] (fun v4_1 w =>
 oM Tryz.prog (.fieldAddr 103 (.tmp 0) 0) 0 [v4_1] (fun v5_2 w =>
 oM Tryz.prog (.store 9 (.tmp 0) (.tmp 1)) 0 [v5_2, (.string ⟨#[]⟩)] (fun _ w =>
 oM Tryz.prog (.nilCheck (.tmp 0)) 0 [a0] (fun v6_3 w =>
 oM Tryz.prog (.fieldAddr 103 (.tmp 0) 1) 0 [v6_3] (fun v7_4 w =>
 oM Tryz.prog (.store 4 (.tmp 0) (.tmp 1)) 0 [v7_4, (.bool true)] (fun _ w =>
 K (.tuple #[]) w) w) w) w) w) w) w
theorem sh_74_eq (a0 : Value) (K : Value → World → Prop) (w : World) : sh_74 a0 K w = code Tryz.prog (fun _ => 0) 8 (Tryz.f74.body.getD .skip) (slotsAt [a0]) (retK Tryz.prog [] K) w := by kernel_rfl
theorem sh_74_ok {a0 : Value} {K : Value → World → Prop} {w : World} (h : sh_74 a0 K w) : callM Tryz.prog 74 #[a0] K w :=
  calls_of_code (fun _ => 0) (fn := Tryz.f74) (rs := []) Tryz.func74 rfl rfl (by kernel_rfl) (Nat.le_of_ble_eq_true rfl) ((sh_74_eq a0 K w).mp h)
def sh_75 (a0 : Value) (a1 : Value) (K : Value → World → Prop) (w : World) : Prop :=
 oM Tryz.prog (.nilCheck (.tmp 0)) 0 [a0] (fun v8_1 w =>
 oM Tryz.prog (.fieldAddr 103 (.tmp 0) 0) 0 [v8_1] (fun v9_2 w =>
 oM Tryz.prog (.load 9 (.tmp 0)) 9 [v9_2] (fun v10_3 w =>
 callM Tryz.prog 87 #[v10_3, a1] (fun v12_4 w =>
 oM Tryz.prog (.extract (.tmp 0) 0) 9 [v12_4] (fun v13_5 w =>
 oM Tryz.prog (.extract (.tmp 0) 1) 4 [v12_4] (fun v14_6 w =>
 oM Tryz.prog (.nilCheck (.tmp 0)) 0 [a0] (fun v17_7 w =>
 oM Tryz.prog (.fieldAddr 103 (.tmp 0) 0) 0 [v17_7] (fun v18_8 w =>
 oM Tryz.prog (.store 9 (.tmp 0) (.tmp 1)) 0 [v18_8, v13_5] (fun _ w =>
 oM Tryz.prog (.unOp .not 4 (.tmp 0)) 4 [v14_6] (fun v20_9 w =>
 condM v20_9
 (callM Tryz.prog 74 #[a0] (fun v22_10 w =>
 K (.tuple #[]) w) w)
 (K (.tuple #[]) w)) w) w) w) w) w) w) w) w) w) w
theorem sh_75_eq (a0 : Value) (a1 : Value) (K : Value → World → Prop) (w : World) : sh_75 a0 a1 K w = code Tryz.prog (fun _ => 0) 23 (Tryz.f75.body.getD .skip) (slotsAt [a0, a1]) (retK Tryz.prog [] K) w := by kernel_rfl
theorem sh_75_ok {a0 a1 : Value} {K : Value → World → Prop} {w : World} (h : sh_75 a0 a1 K w) : callM Tryz.prog 75 #[a0, a1] K w :=
  calls_of_code (fun _ => 0) (fn := Tryz.f75) (rs := []) Tryz.func75 rfl rfl (by kernel_rfl) (Nat.le_of_ble_eq_true rfl) ((sh_75_eq a0 a1 K w).mp h)
def sh_76 (a0 : Value) (a1 : Value) (K : Value → World → Prop) (w : World) : Prop :=
 callM Tryz.prog 88 #[a0, a1] (fun v8_1 w =>
 oM Tryz.prog (.binOp .lss 3 (.tmp 0) (.tmp 1) 3) 4 [v8_1, (.int .i64 0)] (fun v10_2 w =>
 condM v10_2
 (callM Tryz.prog 77 #[a0] (fun v12_3 w =>
 K v12_3 w) w)
 (K v8_1 w)) w) w
theorem sh_76_eq (a0 : Value) (a1 : Value) (K : Value → World → Prop) (w : World) : sh_76 a0 a1 K w = code Tryz.prog (fun _ => 0) 14 (Tryz.f76.body.getD .skip) (slotsAt [a0, a1]) (retK Tryz.prog [.tmp 4] K) w := by kernel_rfl
theorem sh_76_ok {a0 a1 : Value} {K : Value → World → Prop} {w : World} (h : sh_76 a0 a1 K w) : callM Tryz.prog 76 #[a0, a1] K w :=
  calls_of_code (fun _ => 0) (fn := Tryz.f76) (rs := [.tmp 4]) Tryz.func76 rfl rfl (by kernel_rfl) (Nat.le_of_ble_eq_true rfl) ((sh_76_eq a0 a1 K w).mp h)
def sh_88 (a0 : Value) (a1 : Value) (K : Value → World → Prop) (w : World) : Prop :=
 loopM [(.int .i64 0)] w (fun J_1 m_2 l_3 u_l_3 w0_l_3 => (fun w => (
 oM Tryz.prog (.nilCheck (.tmp 0)) 0 [a0] (fun v10_4 w =>
 oM Tryz.prog (.fieldAddr 94 (.tmp 0) 0) 0 [v10_4] (fun v11_5 w =>
 oM Tryz.prog (.load 9 (.tmp 0)) 9 [v11_5] (fun v12_6 w =>
 oM Tryz.prog (.call (Go.Call.mk (.builtin .len) #[(.tmp 0)] #[9])) 3 [v12_6] (fun v13_7 w =>
 oM Tryz.prog (.binOp .lss 3 (.tmp 0) (.tmp 1) 3) 4 [(l_3.getD 0 undef), v13_7] (fun v14_8 w =>
 gdM (gd v14_8 true) (pureM (l_3.getD 0 undef)) (fun v16_9 w =>
 gdM (gd v14_8 true) (oM Tryz.prog (.binOp .lss 3 (.tmp 0) (.tmp 1) 3) 4 [v16_9, (.int .i64 21)]) (fun v17_10 w =>
 oM Tryz.prog (.pick (.tmp 0) (.tmp 1) (.tmp 2)) 4 [v14_8, v17_10, (.bool false)] (fun v18_11 w =>
 gdM (gd v18_11 true) (pureM a0) (fun v20_12 w =>
 gdM (gd v18_11 true) (oM Tryz.prog (.nilCheck (.tmp 0)) 0 [v20_12]) (fun v21_13 w =>
 gdM (gd v18_11 true) (oM Tryz.prog (.fieldAddr 94 (.tmp 0) 0) 0 [v21_13]) (fun v22_14 w =>
 gdM (gd v18_11 true) (oM Tryz.prog (.load 9 (.tmp 0)) 9 [v22_14]) (fun v23_15 w =>
 gdM (gd v18_11 true) (pureM (l_3.getD 0 undef)) (fun v24_16 w =>
 gdM (gd v18_11 true) (oM Tryz.prog (.index 9 (.tmp 0) (.tmp 1)) 5 [v23_15, v24_16]) (fun v25_17 w =>
 gdM (gd v18_11 true) (pureM a1) (fun v26_18 w =>
 gdM (gd v18_11 true) (oM Tryz.prog (.binOp .neq 5 (.tmp 0) (.tmp 1) 5) 4 [v25_17, v26_18]) (fun v27_19 w =>
 oM Tryz.prog (.pick (.tmp 0) (.tmp 1) (.tmp 2)) 4 [v18_11, v27_19, (.bool false)] (fun v28_20 w =>
 condM v28_20
 (oM Tryz.prog (.binOp .add 3 (.tmp 0) (.tmp 1) 3) 3 [(l_3.getD 0 undef), (.int .i64 1)] (fun v30_21 w =>
 J_1 [v30_21] w ∧ m_2 [v30_21] w < m_2 l_3 w0_l_3) w)
 (oM Tryz.prog (.nilCheck (.tmp 0)) 0 [a0] (fun v33_22 w =>
 oM Tryz.prog (.fieldAddr 94 (.tmp 0) 0) 0 [v33_22] (fun v34_23 w =>
 oM Tryz.prog (.load 9 (.tmp 0)) 9 [v34_23] (fun v35_24 w =>
 oM Tryz.prog (.call (Go.Call.mk (.builtin .len) #[(.tmp 0)] #[9])) 3 [v35_24] (fun v36_25 w =>
 oM Tryz.prog (.binOp .geq 3 (.tmp 0) (.tmp 1) 3) 4 [(l_3.getD 0 undef), v36_25] (fun v37_26 w =>
 condM v37_26
 (callM Tryz.prog 77 #[a0] (fun v39_27 w =>
 K v39_27 w) w)
 (oM Tryz.prog (.nilCheck (.tmp 0)) 0 [a0] (fun v41_28 w =>
 oM Tryz.prog (.fieldAddr 94 (.tmp 0) 0) 0 [v41_28] (fun v42_29 w =>
 oM Tryz.prog (.load 9 (.tmp 0)) 9 [v42_29] (fun v43_30 w =>
 oM Tryz.prog (.index 9 (.tmp 0) (.tmp 1)) 5 [v43_30, (l_3.getD 0 undef)] (fun v45_31 w =>
 oM Tryz.prog (.binOp .neq 5 (.tmp 0) (.tmp 1) 5) 4 [v45_31, a1] (fun v47_32 w =>
 condM v47_32
 (callM Tryz.prog 77 #[a0] (fun v49_33 w =>
 K v49_33 w) w)
 (oM Tryz.prog (.nilCheck (.tmp 0)) 0 [a0] (fun v52_34 w =>
 oM Tryz.prog (.fieldAddr 94 (.tmp 0) 0) 0 [v52_34] (fun v53_35 w =>
 oM Tryz.prog (.load 9 (.tmp 0)) 9 [v53_35] (fun v54_36 w =>
 oM Tryz.prog (.slice 9 (.tmp 0) none (some (.tmp 1)) none) 9 [v54_36, (l_3.getD 0 undef)] (fun v56_37 w =>
 callM Tryz.prog 94 #[v56_37] (fun v57_38 w =>
 oM Tryz.prog (.extract (.tmp 0) 0) 3 [v57_38] (fun v58_39 w =>
 oM Tryz.prog (.extract (.tmp 0) 1) 4 [v57_38] (fun v59_40 w =>
 oM Tryz.prog (.unOp .not 4 (.tmp 0)) 4 [v59_40] (fun v61_41 w =>
 condM v61_41
 (callM Tryz.prog 77 #[a0] (fun v63_42 w =>
 K v63_42 w) w)
 (oM Tryz.prog (.nilCheck (.tmp 0)) 0 [a0] (fun v66_43 w =>
 oM Tryz.prog (.fieldAddr 94 (.tmp 0) 0) 0 [v66_43] (fun v67_44 w =>
 oM Tryz.prog (.load 9 (.tmp 0)) 9 [v67_44] (fun v68_45 w =>
 oM Tryz.prog (.binOp .add 3 (.tmp 0) (.tmp 1) 3) 3 [(l_3.getD 0 undef), (.int .i64 1)] (fun v70_46 w =>
 oM Tryz.prog (.slice 9 (.tmp 0) (some (.tmp 1)) none none) 9 [v68_45, v70_46] (fun v71_47 w =>
 oM Tryz.prog (.nilCheck (.tmp 0)) 0 [a0] (fun v72_48 w =>
 oM Tryz.prog (.fieldAddr 94 (.tmp 0) 0) 0 [v72_48] (fun v73_49 w =>
 oM Tryz.prog (.store 9 (.tmp 0) (.tmp 1)) 0 [v73_49, v71_47] (fun _ w =>
 K v58_39 w) w) w) w) w) w) w) w) w)) w) w) w) w) w) w) w) w)) w) w) w) w) w)) w) w) w) w) w)) w) w) w) w) w) w) w) w) w) w) w) w) w) w) w) w) w)) w0_l_3)
theorem sh_88_eq (a0 : Value) (a1 : Value) (K : Value → World → Prop) (w : World) : sh_88 a0 a1 K w = code Tryz.prog (fun _ => 0) 75 (Tryz.f88.body.getD .skip) (slotsAt [a0, a1]) (retK Tryz.prog [.tmp 4] K) w := by kernel_rfl
theorem sh_88_ok {a0 a1 : Value} {K : Value → World → Prop} {w : World} (h : sh_88 a0 a1 K w) : callM Tryz.prog 88 #[a0, a1] K w :=
  calls_of_code (fun _ => 0) (fn := Tryz.f88) (rs := [.tmp 4]) Tryz.func88 rfl rfl (by kernel_rfl) (Nat.le_of_ble_eq_true rfl) ((sh_88_eq a0 a1 K w).mp h)
def sh_77 (a0 : Value) (K : Value → World → Prop) (w : World) : Prop :=
 oM Tryz.prog (.nilCheck (.tmp 0)) 0 [a0] (fun v4_1 w =>
 oM Tryz.prog (.fieldAddr 94 (.tmp 0) 0) 0 [v4_1] (fun v5_2 w =>
 oM Tryz.prog (.store 9 (.tmp 0) (.tmp 1)) 0 [v5_2, (.string ⟨#[]⟩)] (fun _ w =>
 oM Tryz.prog (.nilCheck (.tmp 0)) 0 [a0] (fun v7_3 w =>
 oM Tryz.prog (.fieldAddr 94 (.tmp 0) 1) 0 [v7_3] (fun v8_4 w =>
 oM Tryz.prog (.store 4 (.tmp 0) (.tmp 1)) 0 [v8_4, (.bool true)] (fun _ w =>
 K (.int .i64 0) w) w) w) w) w) w) w
theorem sh_77_eq (a0 : Value) (K : Value → World → Prop) (w : World) : sh_77 a0 K w = code Tryz.prog (fun _ => 0) 9 (Tryz.f77.body.getD .skip) (slotsAt [a0]) (retK Tryz.prog [.tmp 2] K) w := by kernel_rfl
theorem sh_77_ok {a0 : Value} {K : Value → World → Prop} {w : World} (h : sh_77 a0 K w) : callM Tryz.prog 77 #[a0] K w :=
  calls_of_code (fun _ => 0) (fn := Tryz.f77) (rs := [.tmp 2]) Tryz.func77 rfl rfl (by kernel_rfl) (Nat.le_of_ble_eq_true rfl) ((sh_77_eq a0 K w).mp h)
def sh_78 (a0 : Value) (a1 : Value) (K : Value → World → Prop) (w : World) : Prop :=
 oM Tryz.prog (.nilCheck (.tmp 0)) 0 [a0] (fun v6_1 w =>
 oM Tryz.prog (.fieldAddr 94 (.tmp 0) 0) 0 [v6_1] (fun v7_2 w =>
 oM Tryz.prog (.load 9 (.tmp 0)) 9 [v7_2] (fun v8_3 w =>
 oM Tryz.prog (.call (Go.Call.mk (.builtin .len) #[(.tmp 0)] #[9])) 3 [v8_3] (fun v9_4 w =>
 oM Tryz.prog (.binOp .eql 3 (.tmp 0) (.const (.int .i64 0)) 3) 4 [v9_4] (fun v10_5 w =>
 condM v10_5
 (callM Tryz.prog 77 #[a0] (fun v12_6 w =>
 K (.bool false) w) w)
 (oM Tryz.prog (.nilCheck (.tmp 0)) 0 [a0] (fun v14_7 w =>
 oM Tryz.prog (.fieldAddr 94 (.tmp 0) 0) 0 [v14_7] (fun v15_8 w =>
 oM Tryz.prog (.load 9 (.tmp 0)) 9 [v15_8] (fun v16_9 w =>
 oM Tryz.prog (.index 9 (.tmp 0) (.tmp 1)) 5 [v16_9, (.int .i64 0)] (fun v17_10 w =>
 oM Tryz.prog (.binOp .neq 5 (.tmp 0) (.tmp 1) 5) 4 [v17_10, a1] (fun v19_11 w =>
 condM v19_11
 (callM Tryz.prog 77 #[a0] (fun v21_12 w =>
 K (.bool false) w) w)
 (oM Tryz.prog (.nilCheck (.tmp 0)) 0 [a0] (fun v24_13 w =>
 oM Tryz.prog (.fieldAddr 94 (.tmp 0) 0) 0 [v24_13] (fun v25_14 w =>
 oM Tryz.prog (.load 9 (.tmp 0)) 9 [v25_14] (fun v26_15 w =>
 oM Tryz.prog (.slice 9 (.tmp 0) (some (.tmp 1)) none none) 9 [v26_15, (.int .i64 1)] (fun v27_16 w =>
 oM Tryz.prog (.nilCheck (.tmp 0)) 0 [a0] (fun v28_17 w =>
 oM Tryz.prog (.fieldAddr 94 (.tmp 0) 0) 0 [v28_17] (fun v29_18 w =>
 oM Tryz.prog (.store 9 (.tmp 0) (.tmp 1)) 0 [v29_18, v27_16] (fun _ w =>
 K (.bool true) w) w) w) w) w) w) w) w)) w) w) w) w) w)) w) w) w) w) w
theorem sh_78_eq (a0 : Value) (a1 : Value) (K : Value → World → Prop) (w : World) : sh_78 a0 a1 K w = code Tryz.prog (fun _ => 0) 30 (Tryz.f78.body.getD .skip) (slotsAt [a0, a1]) (retK Tryz.prog [.tmp 4] K) w := by kernel_rfl
theorem sh_78_ok {a0 a1 : Value} {K : Value → World → Prop} {w : World} (h : sh_78 a0 a1 K w) : callM Tryz.prog 78 #[a0, a1] K w :=
  calls_of_code (fun _ => 0) (fn := Tryz.f78) (rs := [.tmp 4]) Tryz.func78 rfl rfl (by kernel_rfl) (Nat.le_of_ble_eq_true rfl) ((sh_78_eq a0 a1 K w).mp h)
def sh_94 (a0 : Value) (K : Value → World → Prop) (w : World) : Prop :=
 joinM (fun M_1 => (oM Tryz.prog (.call (Go.Call.mk (.builtin .len) #[(.tmp 0)] #[9])) 3 [a0] (fun v8_3 w =>
 oM Tryz.prog (.binOp .gtr 3 (.tmp 0) (.tmp 1) 3) 4 [v8_3, (.int .i64 0)] (fun v9_4 w =>
 gdM (gd v9_4 true) (pureM a0) (fun v11_5 w =>
 gdM (gd v9_4 true) (oM Tryz.prog (.index 9 (.tmp 0) (.tmp 1)) 5 [v11_5, (.int .i64 0)]) (fun v12_6 w =>
 gdM (gd v9_4 true) (oM Tryz.prog (.binOp .eql 5 (.tmp 0) (.const (.int .u8 45)) 5) 4 [v12_6]) (fun v13_7 w =>
 oM Tryz.prog (.pick (.tmp 0) (.tmp 1) (.tmp 2)) 4 [v9_4, v13_7, (.bool false)] (fun v14_8 w =>
 condM v14_8
 (M_1 [(.int .i64 1)] w)
 (M_1 [(.int .i64 0)] w)) w) w) w) w) w) w))
 (fun l_2 u_l_2 w => (loopM [(.int .i64 0), (.bool false), (.int .i64 0), (l_2.getD 0 undef)] w (fun J_9 m_10 l_11 u_l_11 w0_l_11 => (fun w => (
 oM Tryz.prog (.call (Go.Call.mk (.builtin .len) #[(.tmp 0)] #[9])) 3 [a0] (fun v18_12 w =>
 oM Tryz.prog (.binOp .lss 3 (.tmp 0) (.tmp 1) 3) 4 [(l_11.getD 3 undef), v18_12] (fun v19_13 w =>
 condM v19_13
 (oM Tryz.prog (.index 9 (.tmp 0) (.tmp 1)) 5 [a0, (l_11.getD 3 undef)] (fun v24_14 w =>
 oM Tryz.prog (.binOp .lss 5 (.tmp 0) (.tmp 1) 5) 4 [v24_14, (.int .u8 48)] (fun v25_15 w =>
 gdM (gd v25_15 false) (pureM a0) (fun v27_16 w =>
 gdM (gd v25_15 false) (pureM (l_11.getD 3 undef)) (fun v28_17 w =>
 gdM (gd v25_15 false) (oM Tryz.prog (.index 9 (.tmp 0) (.tmp 1)) 5 [v27_16, v28_17]) (fun v29_18 w =>
 gdM (gd v25_15 false) (oM Tryz.prog (.binOp .gtr 5 (.tmp 0) (.tmp 1) 5) 4 [v29_18, (.int .u8 57)]) (fun v30_19 w =>
 oM Tryz.prog (.pick (.tmp 0) (.tmp 1) (.tmp 2)) 4 [v25_15, (.bool true), v30_19] (fun v31_20 w =>
 gdM (gd v31_20 false) (pureM (l_11.getD 3 undef)) (fun v33_21 w =>
 gdM (gd v31_20 false) (oM Tryz.prog (.binOp .gtr 3 (.tmp 0) (.tmp 1) 3) 4 [v33_21, (.int .i64 20)]) (fun v34_22 w =>
 oM Tryz.prog (.pick (.tmp 0) (.tmp 1) (.tmp 2)) 4 [v31_20, (.bool true), v34_22] (fun v35_23 w =>
 condM v35_23
 (K (.tuple #[(.int .i64 0), (.bool false)]) w)
 (oM Tryz.prog (.binOp .mul 3 (.tmp 0) (.tmp 1) 3) 3 [(.int .i64 10), (l_11.getD 2 undef)] (fun v37_24 w =>
 oM Tryz.prog (.index 9 (.tmp 0) (.tmp 1)) 5 [a0, (l_11.getD 3 undef)] (fun v40_25 w =>
 oM Tryz.prog (.binOp .sub 5 (.tmp 0) (.tmp 1) 5) 5 [v40_25, (.int .u8 48)] (fun v41_26 w =>
 oM Tryz.prog (.convert 5 3 (.tmp 0)) 3 [v41_26] (fun v42_27 w =>
 oM Tryz.prog (.binOp .sub 3 (.tmp 0) (.tmp 1) 3) 3 [v37_24, v42_27] (fun v43_28 w =>
 oM Tryz.prog (.binOp .add 3 (.tmp 0) (.tmp 1) 3) 3 [(l_11.getD 3 undef), (.int .i64 1)] (fun v21_29 w =>
 J_9 [(l_11.getD 0 undef), (l_11.getD 1 undef), v43_28, v21_29] w ∧ m_10 [(l_11.getD 0 undef), (l_11.getD 1 undef), v43_28, v21_29] w < m_10 l_11 w0_l_11) w) w) w) w) w) w)) w) w) w) w) w) w) w) w) w) w)
 (joinM (fun M_30 => (oM Tryz.prog (.binOp .eql 3 (.tmp 0) (.const (.int .i64 0)) 3) 4 [(l_2.getD 0 undef)] (fun v45_32 w =>
 condM v45_32
 (oM Tryz.prog (.unOp .neg 3 (.tmp 0)) 3 [(l_11.getD 2 undef)] (fun v47_33 w =>
 M_30 [v47_33] w) w)
 (M_30 [(l_11.getD 2 undef)] w)) w))
 (fun l_31 u_l_31 w => (callM Tryz.prog 82 #[(l_31.getD 0 undef)] (fun v50_34 w =>
 oM Tryz.prog (.binOp .add 9 (.tmp 0) (.tmp 1) 9) 9 [a0, (.string ⟨#[59]⟩)] (fun v52_35 w =>
 oM Tryz.prog (.binOp .eql 9 (.tmp 0) (.tmp 1) 9) 4 [v50_34, v52_35] (fun v53_36 w =>
 K (.tuple #[(l_31.getD 0 undef), v53_36]) w) w) w) w)))) w) w)) w0_l_11)))
theorem sh_94_eq (a0 : Value) (K : Value → World → Prop) (w : World) : sh_94 a0 K w = code Tryz.prog (fun _ => 0) 54 (Tryz.f94.body.getD .skip) (slotsAt [a0]) (retK Tryz.prog [.tmp 2, .tmp 3] K) w := by kernel_rfl
theorem sh_94_ok {a0 : Value} {K : Value → World → Prop} {w : World} (h : sh_94 a0 K w) : callM Tryz.prog 94 #[a0] K w :=
  calls_of_code (fun _ => 0) (fn := Tryz.f94) (rs := [.tmp 2, .tmp 3]) Tryz.func94 rfl rfl (by kernel_rfl) (Nat.le_of_ble_eq_true rfl) ((sh_94_eq a0 K w).mp h)
end Go.Proofs
namespace Go.Proofs
abbrev tabName : String := (YtefjibjojkjiiaaGreatDoor.Rows.baseJournalRow.laid.map (fun x => x.1)).getD 2 default
open Go.Shelf
def Tryz.lays137_ren : Go.Shelf.Ren := ⟨fun | 137 => 85 | 217 => 90 | 266 => 96 | n => n, fun | 9 => 9 | 5 => 5 | 3 => 3 | n => n, fun | n => n⟩
theorem Tryz.lays137 : Go.Proofs.Lays.n137 Tryz.prog Tryz.lays137_ren := {
  mixed := by kernel_rfl
  f137 := Tryz.func85.trans (congrArg some (by kernel_rfl))
  f217 := Tryz.func90.trans (congrArg some (by kernel_rfl))
  f266 := Tryz.func96.trans (congrArg some (by kernel_rfl))
  t3 := Tryz.underlying3
  a3 := Tryz.isAgg3
  z3 := Tryz.sizeOf3
  v3 := Tryz.zeroValue3
  t5 := Tryz.underlying5
  a5 := Tryz.isAgg5
  z5 := Tryz.sizeOf5
  v5 := Tryz.zeroValue5
  t9 := Tryz.underlying9
  a9 := Tryz.isAgg9
  z9 := Tryz.sizeOf9
  v9 := Tryz.zeroValue9 }
open Go.RowKit in
theorem Tryz.strings_IndexByte (s : ByteArray) (c : Int) (w : World) :
    Calls Tryz.prog 85 #[.string s, .int .u8 c] w fun e w' => e = .returned (.int .i64 (Lib.indexByte s.data.toList c.toNat.toUInt8)) ∧ w' = w := Any.strings_IndexByte Tryz.lays137 s c w
def Tryz.lays103_ren : Go.Shelf.Ren := ⟨fun | 103 => 87 | 210 => 93 | 206 => 102 | n => n, fun | 9 => 9 | 4 => 4 | 24 => 115 | 3 => 3 | n => n, fun | n => n⟩
theorem Tryz.lays103 : Go.Proofs.Lays.n103 Tryz.prog Tryz.lays103_ren := {
  mixed := by kernel_rfl
  f103 := Tryz.func87.trans (congrArg some (by kernel_rfl))
  f206 := Tryz.func102.trans (congrArg some (by kernel_rfl))
  f210 := Tryz.func93.trans (congrArg some (by kernel_rfl))
  t3 := Tryz.underlying3
  a3 := Tryz.isAgg3
  z3 := Tryz.sizeOf3
  v3 := Tryz.zeroValue3
  t4 := Tryz.underlying4
  a4 := Tryz.isAgg4
  z4 := Tryz.sizeOf4
  v4 := Tryz.zeroValue4
  t9 := Tryz.underlying9
  a9 := Tryz.isAgg9
  z9 := Tryz.sizeOf9
  v9 := Tryz.zeroValue9
  t24 := Tryz.underlying115
  a24 := Tryz.isAgg115
  z24 := Tryz.sizeOf115
  v24 := Tryz.zeroValue115 }
open Go.RowKit in
theorem Tryz.strings_CutPrefix (s p : ByteArray) (w : World) :
    Calls Tryz.prog 87 #[.string s, .string p] w fun e w' => e = .returned (.tuple #[.string ⟨(Lib.trimPrefix s.data.toList p.data.toList).toArray⟩, .bool (Lib.hasPrefix s.data.toList p.data.toList)]) ∧ w' = w := Any.strings_CutPrefix Tryz.lays103 s p w
def Tryz.laysM171_ren : Go.Shelf.Ren := ⟨fun | 171 => 79 | 243 => 89 | 246 => 95 | 283 => 103 | 284 => 104 | 285 => 105 | 286 => 106 | 129 => 111 | 317 => 110 | 318 => 112 | 319 => 113 | 320 => 114 | 337 => 117 | 338 => 118 | n => n, fun | 3 => 3 | 9 => 9 | 2 => 2 | 4 => 4 | 171 => 128 | 0 => 0 | 53 => 129 | 37 => 96 | 5 => 5 | 173 => 132 | 212 => 141 | 51 => 142 | 20 => 20 | 213 => 143 | 46 => 136 | 232 => 153 | 233 => 154 | n => n, fun | 17 => 3 | 18 => 4 | 19 => 5 | n => n⟩
theorem Tryz.laysM171 : Go.Proofs.LaysM.n171 Tryz.prog Tryz.laysM171_ren := {
  mixed := by kernel_rfl
  f129 := Tryz.func111.trans (congrArg some (by kernel_rfl))
  f171 := Tryz.func79.trans (congrArg some (by kernel_rfl))
  f243 := Tryz.func89.trans (congrArg some (by kernel_rfl))
  f246 := Tryz.func95.trans (congrArg some (by kernel_rfl))
  f283 := Tryz.func103.trans (congrArg some (by kernel_rfl))
  f284 := Tryz.func104.trans (congrArg some (by kernel_rfl))
  f285 := Tryz.func105.trans (congrArg some (by kernel_rfl))
  f286 := Tryz.func106.trans (congrArg some (by kernel_rfl))
  f317 := Tryz.func110.trans (congrArg some (by kernel_rfl))
  f318 := Tryz.func112.trans (congrArg some (by kernel_rfl))
  f319 := Tryz.func113.trans (congrArg some (by kernel_rfl))
  f320 := Tryz.func114.trans (congrArg some (by kernel_rfl))
  f337 := Tryz.func117.trans (congrArg some (by kernel_rfl))
  f338 := Tryz.func118.trans (congrArg some (by kernel_rfl))
  t0 := Tryz.underlying0
  a0 := Tryz.isAgg0
  z0 := Tryz.sizeOf0
  v0 := Tryz.zeroValue0
  t2 := Tryz.underlying2
  a2 := Tryz.isAgg2
  z2 := Tryz.sizeOf2
  v2 := Tryz.zeroValue2
  t3 := Tryz.underlying3
  a3 := Tryz.isAgg3
  z3 := Tryz.sizeOf3
  v3 := Tryz.zeroValue3
  t4 := Tryz.underlying4
  a4 := Tryz.isAgg4
  z4 := Tryz.sizeOf4
  v4 := Tryz.zeroValue4
  t5 := Tryz.underlying5
  a5 := Tryz.isAgg5
  z5 := Tryz.sizeOf5
  v5 := Tryz.zeroValue5
  t9 := Tryz.underlying9
  a9 := Tryz.isAgg9
  z9 := Tryz.sizeOf9
  v9 := Tryz.zeroValue9
  t20 := Tryz.underlying20
  a20 := Tryz.isAgg20
  z20 := Tryz.sizeOf20
  v20 := Tryz.zeroValue20
  t37 := Tryz.underlying96
  a37 := Tryz.isAgg96
  z37 := Tryz.sizeOf96
  v37 := Tryz.zeroValue96
  t46 := Tryz.underlying136
  a46 := Tryz.isAgg136
  z46 := Tryz.sizeOf136
  v46 := Tryz.zeroValue136
  t51 := Tryz.underlying142
  a51 := Tryz.isAgg142
  z51 := Tryz.sizeOf142
  v51 := Tryz.zeroValue142
  t53 := Tryz.underlying129
  a53 := Tryz.isAgg129
  z53 := Tryz.sizeOf129
  v53 := Tryz.zeroValue129
  t171 := Tryz.underlying128
  a171 := Tryz.isAgg128
  z171 := Tryz.sizeOf128
  v171 := Tryz.zeroValue128
  t173 := Tryz.underlying132
  a173 := Tryz.isAgg132
  z173 := Tryz.sizeOf132
  v173 := Tryz.zeroValue132
  t212 := Tryz.underlying141
  a212 := Tryz.isAgg141
  z212 := Tryz.sizeOf141
  v212 := Tryz.zeroValue141
  t213 := Tryz.underlying143
  a213 := Tryz.isAgg143
  z213 := Tryz.sizeOf143
  t232 := Tryz.underlying153
  a232 := Tryz.isAgg153
  z232 := Tryz.sizeOf153
  v232 := Tryz.zeroValue153
  t233 := Tryz.underlying154
  a233 := Tryz.isAgg154
  z233 := Tryz.sizeOf154
  v233 := Tryz.zeroValue154
  g17 := by kernel_rfl
  g18 := by kernel_rfl
  g19 := by kernel_rfl
  i0 := by kernel_rfl
  i2 := by kernel_rfl
  i3 := by kernel_rfl
  i4 := by kernel_rfl
  i5 := by kernel_rfl
  i9 := by kernel_rfl
  i20 := by kernel_rfl
  i37 := by kernel_rfl
  i46 := by kernel_rfl
  i51 := by kernel_rfl
  i53 := by kernel_rfl
  i171 := by kernel_rfl
  i173 := by kernel_rfl
  i212 := by kernel_rfl
  i232 := by kernel_rfl
  i233 := by kernel_rfl
  m17 := by kernel_rfl
  m18 := by kernel_rfl
  m19 := by kernel_rfl }
open Go.RowKit Go.Sort Go.Lib in
theorem Tryz.strconv_Itoa (n : Int) (h0 : -9223372036854775808 ≤ n) (h1 : n ≤ 9223372036854775807) (w : World) (htab : Lib.TabIs Tryz.prog w tabName .u64 Lib.pow10Tab) :
    Calls Tryz.prog 79 #[.int .i64 n] w fun e w' => e = .returned (.string ⟨(Lib.itoa n).toArray⟩) ∧ ∃ k os, w' = grow (w.drewN k) os := Any.strconv_Itoa Tryz.laysM171 n h0 h1 w htab
def Tryz.laysC172_ren : Go.Shelf.Ren := ⟨fun | 172 => 86 | 244 => 91 | 245 => 92 | 247 => 97 | 279 => 98 | 280 => 99 | 281 => 100 | 282 => 101 | 287 => 107 | 316 => 108 | 171 => 79 | 205 => 109 | 321 => 115 | 322 => 116 | 243 => 89 | 246 => 95 | 283 => 103 | 284 => 104 | 285 => 105 | 286 => 106 | 129 => 111 | 317 => 110 | 318 => 112 | 319 => 113 | 320 => 114 | 337 => 117 | 338 => 118 | n => n, fun | 9 => 9 | 3 => 3 | 75 => 112 | 76 => 113 | 4 => 4 | 5 => 5 | 167 => 121 | 37 => 96 | 0 => 0 | 85 => 122 | 2 => 2 | 168 => 124 | 53 => 129 | 175 => 134 | 46 => 136 | 210 => 138 | 127 => 148 | 145 => 151 | 143 => 149 | 21 => 21 | 171 => 128 | 173 => 132 | 212 => 141 | 51 => 142 | 20 => 20 | 213 => 143 | 232 => 153 | 233 => 154 | 80 => 89 | n => n, fun | 15 => 1 | 16 => 2 | 17 => 3 | 18 => 4 | 19 => 5 | n => n⟩
theorem Tryz.laysC172 : Go.Proofs.LaysC.n172 Tryz.prog Tryz.laysC172_ren := {
  mixed := by kernel_rfl
  f129 := Tryz.func111.trans (congrArg some (by kernel_rfl))
  f171 := Tryz.func79.trans (congrArg some (by kernel_rfl))
  f172 := Tryz.func86.trans (congrArg some (by kernel_rfl))
  f205 := Tryz.func109.trans (congrArg some (by kernel_rfl))
  f243 := Tryz.func89.trans (congrArg some (by kernel_rfl))
  f244 := Tryz.func91.trans (congrArg some (by kernel_rfl))
  f245 := Tryz.func92.trans (congrArg some (by kernel_rfl))
  f246 := Tryz.func95.trans (congrArg some (by kernel_rfl))
  f247 := Tryz.func97.trans (congrArg some (by kernel_rfl))
  f279 := Tryz.func98.trans (congrArg some (by kernel_rfl))
  f280 := Tryz.func99.trans (congrArg some (by kernel_rfl))
  f281 := Tryz.func100.trans (congrArg some (by kernel_rfl))
  f282 := Tryz.func101.trans (congrArg some (by kernel_rfl))
  f283 := Tryz.func103.trans (congrArg some (by kernel_rfl))
  f284 := Tryz.func104.trans (congrArg some (by kernel_rfl))
  f285 := Tryz.func105.trans (congrArg some (by kernel_rfl))
  f286 := Tryz.func106.trans (congrArg some (by kernel_rfl))
  f287 := Tryz.func107.trans (congrArg some (by kernel_rfl))
  f316 := Tryz.func108.trans (congrArg some (by kernel_rfl))
  f317 := Tryz.func110.trans (congrArg some (by kernel_rfl))
  f318 := Tryz.func112.trans (congrArg some (by kernel_rfl))
  f319 := Tryz.func113.trans (congrArg some (by kernel_rfl))
  f320 := Tryz.func114.trans (congrArg some (by kernel_rfl))
  f321 := Tryz.func115.trans (congrArg some (by kernel_rfl))
  f322 := Tryz.func116.trans (congrArg some (by kernel_rfl))
  f337 := Tryz.func117.trans (congrArg some (by kernel_rfl))
  f338 := Tryz.func118.trans (congrArg some (by kernel_rfl))
  t0 := Tryz.underlying0
  a0 := Tryz.isAgg0
  z0 := Tryz.sizeOf0
  v0 := Tryz.zeroValue0
  t2 := Tryz.underlying2
  a2 := Tryz.isAgg2
  z2 := Tryz.sizeOf2
  v2 := Tryz.zeroValue2
  t3 := Tryz.underlying3
  a3 := Tryz.isAgg3
  z3 := Tryz.sizeOf3
  v3 := Tryz.zeroValue3
  t4 := Tryz.underlying4
  a4 := Tryz.isAgg4
  z4 := Tryz.sizeOf4
  v4 := Tryz.zeroValue4
  t5 := Tryz.underlying5
  a5 := Tryz.isAgg5
  z5 := Tryz.sizeOf5
  v5 := Tryz.zeroValue5
  t9 := Tryz.underlying9
  a9 := Tryz.isAgg9
  z9 := Tryz.sizeOf9
  v9 := Tryz.zeroValue9
  t20 := Tryz.underlying20
  a20 := Tryz.isAgg20
  z20 := Tryz.sizeOf20
  v20 := Tryz.zeroValue20
  t21 := Tryz.underlying21
  a21 := Tryz.isAgg21
  z21 := Tryz.sizeOf21
  v21 := Tryz.zeroValue21
  t37 := Tryz.underlying96
  a37 := Tryz.isAgg96
  z37 := Tryz.sizeOf96
  v37 := Tryz.zeroValue96
  t46 := Tryz.underlying136
  a46 := Tryz.isAgg136
  z46 := Tryz.sizeOf136
  v46 := Tryz.zeroValue136
  t51 := Tryz.underlying142
  a51 := Tryz.isAgg142
  z51 := Tryz.sizeOf142
  v51 := Tryz.zeroValue142
  t53 := Tryz.underlying129
  a53 := Tryz.isAgg129
  z53 := Tryz.sizeOf129
  v53 := Tryz.zeroValue129
  t75 := Tryz.underlying112
  a75 := Tryz.isAgg112
  z75 := Tryz.sizeOf112
  v75 := Tryz.zeroValue112
  t76 := Tryz.underlying113
  a76 := Tryz.isAgg113
  z76 := Tryz.sizeOf113
  v76 := Tryz.zeroValue113
  t85 := Tryz.underlying122
  a85 := Tryz.isAgg122
  z85 := Tryz.sizeOf122
  v85 := Tryz.zeroValue122
  t127 := Tryz.underlying148
  a127 := Tryz.isAgg148
  z127 := Tryz.sizeOf148
  v127 := Tryz.zeroValue148
  t143 := Tryz.underlying149
  a143 := Tryz.isAgg149
  z143 := Tryz.sizeOf149
  v143 := Tryz.zeroValue149
  t145 := Tryz.underlying151
  a145 := Tryz.isAgg151
  z145 := Tryz.sizeOf151
  v145 := Tryz.zeroValue151
  t167 := Tryz.underlying121
  a167 := Tryz.isAgg121
  z167 := Tryz.sizeOf121
  v167 := Tryz.zeroValue121
  t168 := Tryz.underlying124
  a168 := Tryz.isAgg124
  z168 := Tryz.sizeOf124
  v168 := Tryz.zeroValue124
  t171 := Tryz.underlying128
  a171 := Tryz.isAgg128
  z171 := Tryz.sizeOf128
  v171 := Tryz.zeroValue128
  t173 := Tryz.underlying132
  a173 := Tryz.isAgg132
  z173 := Tryz.sizeOf132
  v173 := Tryz.zeroValue132
  t175 := Tryz.underlying134
  a175 := Tryz.isAgg134
  z175 := Tryz.sizeOf134
  v175 := Tryz.zeroValue134
  t210 := Tryz.underlying138
  a210 := Tryz.isAgg138
  z210 := Tryz.sizeOf138
  v210 := Tryz.zeroValue138
  t212 := Tryz.underlying141
  a212 := Tryz.isAgg141
  z212 := Tryz.sizeOf141
  v212 := Tryz.zeroValue141
  t213 := Tryz.underlying143
  a213 := Tryz.isAgg143
  z213 := Tryz.sizeOf143
  t232 := Tryz.underlying153
  a232 := Tryz.isAgg153
  z232 := Tryz.sizeOf153
  v232 := Tryz.zeroValue153
  t233 := Tryz.underlying154
  a233 := Tryz.isAgg154
  z233 := Tryz.sizeOf154
  v233 := Tryz.zeroValue154
  g15 := by kernel_rfl
  g16 := by kernel_rfl
  g17 := by kernel_rfl
  g18 := by kernel_rfl
  g19 := by kernel_rfl
  t80 := Tryz.underlying89
  a80 := Tryz.isAgg89
  z80 := Tryz.sizeOf89
  v80 := Tryz.zeroValue89
  i0 := by kernel_rfl
  i2 := by kernel_rfl
  i3 := by kernel_rfl
  i4 := by kernel_rfl
  i5 := by kernel_rfl
  i9 := by kernel_rfl
  i20 := by kernel_rfl
  i21 := by kernel_rfl
  i37 := by kernel_rfl
  i46 := by kernel_rfl
  i51 := by kernel_rfl
  i53 := by kernel_rfl
  i75 := by kernel_rfl
  i76 := by kernel_rfl
  i80 := by kernel_rfl
  i85 := by kernel_rfl
  i127 := by kernel_rfl
  i143 := by kernel_rfl
  i145 := by kernel_rfl
  i167 := by kernel_rfl
  i168 := by kernel_rfl
  i171 := by kernel_rfl
  i173 := by kernel_rfl
  i175 := by kernel_rfl
  i210 := by kernel_rfl
  i212 := by kernel_rfl
  i232 := by kernel_rfl
  i233 := by kernel_rfl
  m15 := by kernel_rfl
  m16 := by kernel_rfl
  m17 := by kernel_rfl
  m18 := by kernel_rfl
  m19 := by kernel_rfl
  c0 := by kernel_rfl
  c2 := by kernel_rfl
  c3 := by kernel_rfl
  c4 := by kernel_rfl
  c5 := by kernel_rfl
  c9 := by kernel_rfl
  c20 := by kernel_rfl
  c21 := by kernel_rfl
  c37 := by kernel_rfl
  c46 := by kernel_rfl
  c51 := by kernel_rfl
  c53 := by kernel_rfl
  c75 := by kernel_rfl
  c76 := by kernel_rfl
  c80 := by kernel_rfl
  c85 := by kernel_rfl
  c127 := by kernel_rfl
  c143 := by kernel_rfl
  c145 := by kernel_rfl
  c167 := by kernel_rfl
  c168 := by kernel_rfl
  c171 := by kernel_rfl
  c173 := by kernel_rfl
  c175 := by kernel_rfl
  c210 := by kernel_rfl
  c212 := by kernel_rfl
  c213 := by kernel_rfl
  c232 := by kernel_rfl
  c233 := by kernel_rfl }
open Go.RowKit in
theorem Tryz.strconv_Atoi_ok (s : ByteArray) (hmax : s.size ≤ 9223372036854775806) (v : Int) (h : Lib.atoiAll s.data.toList = .ok v) (w : World) :
    Calls Tryz.prog 86 #[.string s] w fun e w' => e = .returned (.tuple #[.int .i64 v, .nilIface]) ∧ (w' = w ∨ ∃ t, w' = Lib.bytesWorld w 5 t) := Any.strconv_Atoi_ok Tryz.laysC172 s hmax v h w
open Go.RowKit in
theorem Tryz.strconv_Atoi_syntax (s : ByteArray) (hlim : s.size ≤ 281474976710656) (h : Lib.atoiAll s.data.toList = .«syntax») (ev : Value) (w : World) (hv : w.cell? ⟨1, 0, none⟩ = some ev) (hev : ev = .nilIface ∨ ∃ te pe, ev = .iface te pe) :
    Calls Tryz.prog 86 #[.string s] w fun e w' => ∃ N, e = .returned (.tuple #[.int .i64 (0), .iface 124 (.pointer (some ⟨N, 0, none⟩))]) ∧ w.heap.size ≤ N ∧ w'.heap[N]? = some (.cells #[.string ⟨#[65, 116, 111, 105]⟩, .string s, ev] 138 (0, 0)) ∧ Below w.heap.size w w' := Any.strconv_Atoi_syntax Tryz.laysC172 s hlim h ev w hv hev
open Go.RowKit in
theorem Tryz.strconv_Atoi_range (s : ByteArray) (hlim : s.size ≤ 281474976710656) (h : Lib.atoiAll s.data.toList = .range) (ev : Value) (w : World) (hv : w.cell? ⟨2, 0, none⟩ = some ev) (hev : ev = .nilIface ∨ ∃ te pe, ev = .iface te pe) :
    Calls Tryz.prog 86 #[.string s] w fun e w' => ∃ N, e = .returned (.tuple #[.int .i64 (Lib.atoiSat s.data.toList), .iface 124 (.pointer (some ⟨N, 0, none⟩))]) ∧ w.heap.size ≤ N ∧ w'.heap[N]? = some (.cells #[.string ⟨#[65, 116, 111, 105]⟩, .string s, ev] 138 (0, 0)) ∧ Below w.heap.size w w' := Any.strconv_Atoi_range Tryz.laysC172 s hlim h ev w hv hev
end Go.Proofs
namespace CodeSpec
open Go.Lib
abbrev Bytes := List UInt8
def InR (n : Int) : Prop := -9223372036854775808 ≤ n ∧ n ≤ 9223372036854775807
def encInt (n : Int) : Bytes := itoa n ++ [59]
def encNum (n : Int) : Bytes := if n < 0 then [] else encInt n
def encText (s : Bytes) : Bytes := itoa s.length ++ 58 :: (s ++ [44])
def canon (l : Bytes) : Option Int := match atoiAll l with
  | .ok v => if itoa v = l then some v else none
  | _ => none
structure Rd where
  rest : Bytes
  bad : Bool
def failed : Rd := ⟨[], true⟩
def rdNumber (r : Rd) (e : UInt8) (least : Int) : Int × Rd :=
  if ((r.rest.take 21).takeWhile (· != e)).length < (r.rest.take 21).length then
    match canon ((r.rest.take 21).takeWhile (· != e)) with
    | some n => if n < least then (0, failed) else (n, ⟨r.rest.drop (((r.rest.take 21).takeWhile (· != e)).length + 1), r.bad⟩)
    | none => (0, failed)
  else (0, failed)
def rdClose (r : Rd) (c : UInt8) : Rd := match r.rest with
  | [] => failed
  | x :: t => if x = c then ⟨t, r.bad⟩ else failed
def rdNum (r : Rd) : Int × Rd := rdNumber r 59 0
def rdText (r : Rd) : Bytes × Rd :=
  if ((rdNumber r 58 0).2.rest.length : Int) < (rdNumber r 58 0).1 then ([], failed)
  else if (rdClose ⟨(rdNumber r 58 0).2.rest.drop (rdNumber r 58 0).1.toNat, (rdNumber r 58 0).2.bad⟩ 44).bad then ([], rdClose ⟨(rdNumber r 58 0).2.rest.drop (rdNumber r 58 0).1.toNat, (rdNumber r 58 0).2.bad⟩ 44)
  else ((rdNumber r 58 0).2.rest.take (rdNumber r 58 0).1.toNat, rdClose ⟨(rdNumber r 58 0).2.rest.drop (rdNumber r 58 0).1.toNat, (rdNumber r 58 0).2.bad⟩ 44)
theorem digit_toNat (d : Nat) (h : d < 10) : (UInt8.ofNat (48 + d)).toNat = 48 + d := by
  rw [UInt8.toNat_ofNat']; omega
theorem decDigits_digit (u : Nat) : ∀ c ∈ decDigits u, 48 ≤ c.toNat ∧ c.toNat ≤ 57 := by
  induction u using Nat.strongRecOn with
  | ind u ih =>
    rw [decDigits]
    split
    · rename_i h
      intro c hc
      simp only [List.mem_singleton] at hc
      subst hc
      rw [digit_toNat u h]; omega
    · rename_i h
      intro c hc
      rcases List.mem_append.1 hc with hc | hc
      · exact ih (u / 10) (by omega) c hc
      · simp only [List.mem_singleton] at hc
        subst hc
        rw [digit_toNat _ (by omega)]; omega
theorem decDigits_ne (u : Nat) : decDigits u ≠ [] := by
  rw [decDigits]
  split <;> simp
theorem decDigits_len (u : Nat) (k : Nat) (hk : 1 ≤ k) (h : u < 10 ^ k) : (decDigits u).length ≤ k := by
  induction k generalizing u with
  | zero => omega
  | succ k ih =>
    rw [decDigits]
    split
    · simp
    · rename_i h10
      have hk1 : 1 ≤ k := by
        rcases Nat.eq_zero_or_pos k with rfl | h0
        · simp at h; omega
        · exact h0
      have := ih (u / 10) hk1 (by rw [Nat.pow_succ] at h; omega)
      simp only [List.length_append, List.length_singleton]
      omega
theorem parse_append (l m : Bytes) (acc : Nat) : parseUint10 acc (l ++ m) = match parseUint10 acc l with | .ok u => parseUint10 u m | .range => .range | .syntax => .syntax := by
  induction l generalizing acc with
  | nil => rfl
  | cons c l ih =>
    simp only [List.cons_append, parseUint10]
    by_cases h1 : 48 ≤ c.toNat ∧ c.toNat ≤ 57
    · by_cases h2 : 1844674407370955162 ≤ acc
      · simp only [if_pos h1, if_pos h2]
      · by_cases h3 : 18446744073709551616 ≤ acc * 10 + (c.toNat - 48)
        · simp only [if_pos h1, if_neg h2, if_pos h3]
        · simp only [if_pos h1, if_neg h2, if_neg h3]
          exact ih _
    · simp only [if_neg h1]
theorem parse_dec (u : Nat) (h : u < 18446744073709551616) : parseUint10 0 (decDigits u) = .ok u := by
  induction u using Nat.strongRecOn with
  | ind u ih =>
    rw [decDigits]
    split
    · rename_i h10
      simp only [parseUint10, digit_toNat u h10]
      rw [if_pos (by omega), if_neg (by omega), if_neg (by omega)]
      congr 1; omega
    · rename_i h10
      rw [parse_append, ih (u / 10) (by omega) (by omega)]
      simp only [parseUint10, digit_toNat (u % 10) (by omega)]
      rw [if_pos (by omega), if_neg (by omega), if_neg (by omega)]
      congr 1; omega
theorem atoi_itoa (n : Int) (h : InR n) : atoiAll (itoa n) = .ok n := by
  obtain ⟨h1, h2⟩ := h
  unfold itoa
  split
  · rename_i hn
    rw [atoiAll_minus]
    have hp : parseMag (decDigits n.natAbs) = .ok n.natAbs := by
      unfold parseMag
      rw [if_neg (decDigits_ne _), parse_dec _ (by omega)]
    rw [hp]
    simp only [signed]
    rw [if_neg (by omega)]
    congr 1; omega
  · rename_i hn
    obtain ⟨c, r, hc⟩ : ∃ c r, decDigits n.toNat = c :: r := by
      cases hd : decDigits n.toNat with
      | nil => exact absurd hd (decDigits_ne _)
      | cons c r => exact ⟨c, r, rfl⟩
    have hcd := decDigits_digit n.toNat c (by rw [hc]; simp)
    rw [hc, atoiAll_plain c r (by omega) (by omega), ← hc]
    have hp : parseMag (decDigits n.toNat) = .ok n.toNat := by
      unfold parseMag
      rw [if_neg (decDigits_ne _), parse_dec _ (by omega)]
    rw [hp]
    simp only [signless]
    rw [if_neg (by omega)]
    congr 1; omega
theorem canon_itoa (n : Int) (h : InR n) : canon (itoa n) = some n := by
  unfold canon
  rw [atoi_itoa n h]
  simp
theorem canon_some (l : Bytes) (n : Int) (h : canon l = some n) : l = itoa n ∧ InR n := by
  unfold canon at h
  split at h
  · rename_i v hv
    split at h
    · rename_i he
      cases h
      exact ⟨he.symm, atoiAll_bounds hv⟩
    · cases h
  · cases h
theorem itoa_len (n : Int) (h : InR n) : (itoa n).length ≤ 20 := by
  obtain ⟨h1, h2⟩ := h
  unfold itoa
  split
  · have := decDigits_len n.natAbs 19 (by omega) (by omega)
    simp; omega
  · have := decDigits_len n.toNat 19 (by omega) (by omega)
    omega
theorem itoa_byte (n : Int) : ∀ c ∈ itoa n, c.toNat = 45 ∨ (48 ≤ c.toNat ∧ c.toNat ≤ 57) := by
  intro c hc
  unfold itoa at hc
  split at hc
  · rcases List.mem_cons.1 hc with rfl | hc
    · left; rfl
    · right; exact decDigits_digit _ c hc
  · right; exact decDigits_digit _ c hc
theorem itoa_ne (n : Int) : itoa n ≠ [] := by
  unfold itoa
  split
  · simp
  · exact decDigits_ne _
theorem takeWhile_num (n : Int) (hn : InR n) (e : UInt8) (he : 58 ≤ e.toNat) (t : Bytes) : ((itoa n ++ e :: t).take 21).takeWhile (· != e) = itoa n ∧ (itoa n).length < ((itoa n ++ e :: t).take 21).length := by
  have hl := itoa_len n hn
  have h1 : (itoa n ++ e :: t).take 21 = itoa n ++ (e :: t).take (21 - (itoa n).length) := by
    rw [List.take_append, List.take_of_length_le (by omega)]
  obtain ⟨k, hk⟩ : ∃ k, 21 - (itoa n).length = k + 1 := ⟨20 - (itoa n).length, by omega⟩
  rw [hk, List.take_succ_cons] at h1
  rw [h1]
  refine ⟨?_, by simp⟩
  rw [List.takeWhile_append_of_pos]
  · simp
  · intro c hc
    have := itoa_byte n c hc
    simp only [bne_iff_ne, ne_eq]
    rintro rfl
    omega
theorem rdNumber_enc (n : Int) (hn : InR n) (e : UInt8) (he : 58 ≤ e.toNat) (least : Int) (hl : least ≤ n) (t : Bytes) (b : Bool) : rdNumber ⟨itoa n ++ e :: t, b⟩ e least = (n, ⟨t, b⟩) := by
  obtain ⟨h1, h2⟩ := takeWhile_num n hn e he t
  unfold rdNumber
  simp only [h1]
  rw [if_pos h2, canon_itoa n hn]
  simp only
  rw [if_neg (by omega)]
  have : (itoa n ++ e :: t).drop ((itoa n).length + 1) = t := by
    rw [← List.drop_drop, List.drop_left]; rfl
  rw [this]
theorem rdNumber_some (r : Rd) (e : UInt8) (least : Int) : rdNumber r e least = (0, failed) ∨ ∃ n t, rdNumber r e least = (n, ⟨t, r.bad⟩) ∧ r.rest = itoa n ++ e :: t ∧ InR n ∧ least ≤ n := by
  unfold rdNumber
  split
  · rename_i hlt
    split
    · rename_i n hc
      split
      · exact .inl rfl
      · rename_i hle
        obtain ⟨h1, h2⟩ := canon_some _ _ hc
        refine .inr ⟨n, _, rfl, ?_, h2, by omega⟩
        generalize hp : (r.rest.take 21).takeWhile (· != e) = p at *
        have hpre : r.rest.take 21 = p ++ (r.rest.take 21).drop p.length := by
          have := List.takeWhile_append_dropWhile (p := (· != e)) (l := r.rest.take 21)
          rw [hp] at this
          conv => lhs; rw [← this]
          congr 1
          conv => rhs; rw [← this]
          rw [List.drop_left]
        have hdw : (r.rest.take 21).dropWhile (· != e) = (r.rest.take 21).drop p.length := by
          have := List.takeWhile_append_dropWhile (p := (· != e)) (l := r.rest.take 21)
          rw [hp] at this
          conv => rhs; rw [← this]
          rw [List.drop_left]
        have hpl : p.length < r.rest.length := by
          have := List.length_take_le 21 r.rest
          rw [List.length_take] at hlt
          omega
        have hhead : ∃ t', (r.rest.take 21).drop p.length = e :: t' := by
          cases hd : (r.rest.take 21).drop p.length with
          | nil => rw [List.drop_eq_nil_iff] at hd; omega
          | cons x t' =>
            rw [hd] at hdw
            have := List.head_dropWhile_not (· != e) (l := r.rest.take 21) (by rw [hdw]; simp)
            simp only [hdw, List.head_cons] at this
            have hx : x = e := by simpa using this
            exact ⟨t', by rw [hx]⟩
        obtain ⟨t', ht'⟩ := hhead
        have hget : r.rest[p.length]? = some e := by
          have h3 : (r.rest.take 21)[p.length]? = some e := by
            have := congrArg (fun l => l[0]?) ht'
            simpa using this
          rw [List.getElem?_take] at h3
          split at h3
          · exact h3
          · cases h3
        have htk : r.rest.take p.length = p := by
          have h4 := congrArg (List.take p.length) hpre
          rw [List.take_left, List.take_take, Nat.min_eq_left (by rw [List.length_take] at hlt; omega)] at h4
          exact h4
        have hsplit : r.rest = r.rest.take p.length ++ r.rest.drop p.length := (List.take_append_drop _ _).symm
        have hdrop : r.rest.drop p.length = e :: r.rest.drop (p.length + 1) := by
          rw [List.drop_eq_getElem_cons hpl]
          congr 1
          rw [List.getElem?_eq_getElem hpl] at hget
          simpa using hget
        rw [htk, hdrop] at hsplit
        rw [← h1]
        exact hsplit
    · exact .inl rfl
  · exact .inl rfl
theorem failed_bad : failed.bad = true := rfl
def Rd.ok (r : Rd) : Prop := r.bad = true → r.rest = []
theorem Rd.ok_failed : failed.ok := fun _ => rfl
theorem Rd.ok_good {t : Bytes} : Rd.ok ⟨t, false⟩ := fun h => by cases h
theorem Rd.eq_failed {r : Rd} (h : r.ok) (hb : r.bad = true) : r = failed := by
  cases r with
  | mk rest bad =>
    have := h hb
    simp only at hb this
    subst hb; subst this; rfl
theorem rdNumber_failed (e : UInt8) (least : Int) : rdNumber failed e least = (0, failed) := by
  rcases rdNumber_some failed e least with h | ⟨n, t, _, h, _⟩
  · exact h
  · simp [failed] at h
theorem rdNumber_ok (r : Rd) (h : r.ok) (e : UInt8) (least : Int) : (rdNumber r e least).2.ok := by
  rcases rdNumber_some r e least with h1 | ⟨n, t, h1, h2, _⟩
  · rw [h1]; exact Rd.ok_failed
  · rw [h1]
    intro hb
    have := h hb
    rw [this] at h2
    simp at h2
theorem rdClose_some (r : Rd) (c : UInt8) : rdClose r c = failed ∨ ∃ t, r.rest = c :: t ∧ rdClose r c = ⟨t, r.bad⟩ := by
  unfold rdClose
  split
  · exact .inl rfl
  · rename_i x t hx
    split
    · rename_i hc
      subst hc
      exact .inr ⟨t, hx, rfl⟩
    · exact .inl rfl
theorem rdClose_cons (c : UInt8) (t : Bytes) (b : Bool) : rdClose ⟨c :: t, b⟩ c = ⟨t, b⟩ := by simp [rdClose]
theorem rdText_failed : rdText failed = ([], failed) := by
  unfold rdText
  rw [rdNumber_failed]
  simp [failed, rdClose]
theorem rdText_some (r : Rd) (hr : r.ok) : rdText r = ([], failed) ∨ ∃ s t, rdText r = (s, ⟨t, false⟩) ∧ r = ⟨encText s ++ t, false⟩ ∧ (s.length : Int) ≤ 9223372036854775807 := by
  rcases hb : r.bad with _ | _
  · rcases rdNumber_some r 58 0 with h1 | ⟨n, t, h1, h2, h3, h4⟩
    · left
      unfold rdText
      rw [h1]
      simp [failed, rdClose]
    · rw [hb] at h1
      unfold rdText
      rw [h1]
      dsimp only
      split
      · left; rfl
      · rename_i hlt
        rcases rdClose_some ⟨t.drop n.toNat, false⟩ 44 with h5 | ⟨t', h5, h6⟩
        · left; rw [h5]; rfl
        · right
          rw [h6]
          simp only at h5
          refine ⟨t.take n.toNat, t', rfl, ?_, ?_⟩
          · have hl : (t.take n.toNat).length = n.toNat := by rw [List.length_take]; omega
            have hn : ((t.take n.toNat).length : Int) = n := by rw [hl]; omega
            obtain ⟨rest, bad⟩ := r
            simp only at hb h2
            subst hb
            rw [h2]
            unfold encText
            rw [hn]
            congr 1
            conv => lhs; rw [← List.take_append_drop n.toNat t, h5]
            simp
          · have := h3.2
            rw [List.length_take]; omega
  · left
    rw [Rd.eq_failed hr hb]
    exact rdText_failed
theorem rdText_enc (s t : Bytes) (hs : (s.length : Int) ≤ 9223372036854775807) : rdText ⟨encText s ++ t, false⟩ = (s, ⟨t, false⟩) := by
  have h := rdNumber_enc s.length ⟨by omega, hs⟩ 58 (by decide) 0 (by omega) (s ++ 44 :: t) false
  have e : encText s ++ t = itoa s.length ++ 58 :: (s ++ 44 :: t) := by simp [encText]
  unfold rdText
  rw [e, h]
  dsimp only
  rw [if_neg (by simp; omega)]
  have h1 : (s ++ 44 :: t).drop ((s.length : Int)).toNat = 44 :: t := by simp
  have h2 : (s ++ 44 :: t).take ((s.length : Int)).toNat = s := by simp
  rw [h1, h2, rdClose_cons]
  rfl
theorem rdNum_some (r : Rd) (hr : r.ok) : rdNum r = (0, failed) ∨ ∃ n t, rdNum r = (n, ⟨t, false⟩) ∧ r = ⟨encInt n ++ t, false⟩ ∧ InR n ∧ 0 ≤ n := by
  rcases rdNumber_some r 59 0 with h1 | ⟨n, t, h1, h2, h3, h4⟩
  · exact .inl h1
  · rcases hb : r.bad with _ | _
    · right
      rw [hb] at h1
      obtain ⟨rest, bad⟩ := r
      simp only at hb h2
      subst hb
      exact ⟨n, t, h1, by rw [h2]; simp [encInt], h3, h4⟩
    · rw [hr hb] at h2; simp at h2
theorem rdNum_enc (n : Int) (hn : InR n) (h0 : 0 ≤ n) (t : Bytes) : rdNum ⟨encNum n ++ t, false⟩ = (n, ⟨t, false⟩) := by
  have := rdNumber_enc n hn 59 (by decide) 0 h0 t false
  have h1 : ¬ n < 0 := by omega
  simpa [rdNum, encNum, encInt, h1] using this
end CodeSpec
namespace Go.Proofs.Cd
open Go Go.Sh Go.RowKit Go.Lib CodeSpec
set_option linter.unusedSimpArgs false
set_option maxRecDepth 10000
theorem ba_extract (l : List UInt8) (i j : Nat) : (⟨l.toArray⟩ : ByteArray).extract i j = ⟨((l.take j).drop i).toArray⟩ := by
  apply ByteArray.ext
  rw [← Array.toList_inj, ByteArray.data_extract, Array.toList_extract, List.extract_eq_take_drop]
  simp [List.drop_take]
theorem ba_inj (a b : List UInt8) : ((⟨a.toArray⟩ : ByteArray) = ⟨b.toArray⟩) = (a = b) := by
  simp
theorem ba_byteAt (l : List UInt8) (k : Nat) : byteAt ⟨l.toArray⟩ k = l.getD k 0 := by
  simp [byteAt]
attribute [go_sem] ba_size ba_append ba_extract ba_byteAt ba_inj
theorem K_eq {K : Value → World → Prop} {w : World} {a b : Value} (h : K a w) (e : b = a) : K b w := by rw [e]; exact h
theorem call_of_calls {f : FuncId} {args : Array Value} {w : World} {v : Value} {Q : World → Prop} {K : Value → World → Prop} (h : Calls Tryz.prog f args w fun e w' => e = .returned v ∧ Q w') (k : ∀ w', Q w' → K v w') : callM Tryz.prog f args K w :=
  Calls.mono h (fun _ w' ⟨he, hq⟩ => ⟨v, he, k w' hq⟩)
structure Laid (w : World) : Prop where
  tab : TabIs Tryz.prog w tabName .u64 pow10Tab
  syn : ∃ te pe, w.cell? ⟨1, 0, none⟩ = some (.iface te pe)
  ran : ∃ te pe, w.cell? ⟨2, 0, none⟩ = some (.iface te pe)
  size : 6 ≤ w.heap.size
theorem gTab : Tryz.prog.globalNamed tabName = some 3 := by kernel_rfl
theorem Laid.keep {w w' : World} (h : Laid w) (hb : ∀ k, k < 6 → w'.heap[k]? = w.heap[k]?) (hs : w.heap.size ≤ w'.heap.size) : Laid w' := by
  have hc : ∀ k, k < 6 → w'.cell? ⟨k, 0, none⟩ = w.cell? ⟨k, 0, none⟩ := fun k hk => World.cell?_of_block (w := w) (hb k hk)
  refine ⟨?_, ?_, ?_, Nat.le_trans h.size hs⟩
  · have h1 := h.tab
    unfold TabIs World.var? at h1 ⊢
    rw [gTab] at h1 ⊢
    simp only [Option.bind_some] at h1 ⊢
    rw [hb _ (by omega)]
    exact h1
  · rw [hc _ (by omega)]; exact h.syn
  · rw [hc _ (by omega)]; exact h.ran
theorem Laid.below {w w' : World} (h : Laid w) {B : Nat} (hb : Below B w w') (hB : 6 ≤ B) : Laid w' := h.keep (fun k hk => hb.block k (by omega)) hb.size
theorem Laid.grown {w w' : World} (h : Laid w) {b : Nat} (hg : w.grownBy w' (some b)) (hb : 6 ≤ b) : Laid w' := h.keep (fun k hk => hg.block k (by have := h.size; omega) (by simp; omega)) hg.size
theorem grown_of_below {w w' : World} (h : Below w.heap.size w w') (b : Option Nat) : w.grownBy w' b := ⟨h.os, h.tape, h.output, h.size, fun k hk _ => h.block k hk⟩
theorem below_of_grown {B : Nat} {w w' : World} {row : Option Nat} (h : w.grownBy w' row) (hB : B ≤ w.heap.size) (hr : ∀ k, row = some k → B ≤ k) : Below B w w' :=
  (Below.refl B w).grown h hB hr
theorem itoa_ok (n : Int) (hn : InR n) {K : Value → World → Prop} {w : World} (hl : Laid w) (k : ∀ w', Below w.heap.size w w' → K (.string ⟨(itoa n).toArray⟩) w') : callM Tryz.prog 79 #[.int .i64 n] K w := by
  refine call_of_calls (Tryz.strconv_Itoa n hn.1 hn.2 w hl.tab) ?_
  rintro w' ⟨d, os, rfl⟩
  exact k _ (below_grow _ _ (Nat.le_refl _) _ _)
theorem below_bytesWorld (w : World) (T : TypeId) (t : ByteArray) : Below w.heap.size w (bytesWorld w T t) :=
  ⟨rfl, rfl, rfl, by rw [bytesWorld_size]; omega, fun k hk => bytesWorld_at_old w T t k hk⟩
theorem atoi_ok (s : List UInt8) (hs : s.length ≤ 281474976710656) {K : Value → World → Prop} {w : World} (hl : Laid w)
    (k1 : ∀ n w', atoiAll s = .ok n → Below w.heap.size w w' → K (.tuple #[.int .i64 n, .nilIface]) w')
    (k2 : ∀ v te pe w', (∀ n, atoiAll s ≠ .ok n) → Below w.heap.size w w' → K (.tuple #[.int .i64 v, .iface te pe]) w') : callM Tryz.prog 86 #[.string ⟨s.toArray⟩] K w := by
  cases h : atoiAll s with
  | ok n =>
    refine call_of_calls (Tryz.strconv_Atoi_ok ⟨s.toArray⟩ (by rw [ba_size]; omega) n (by rw [ba_list]; exact h) w) ?_
    rintro w' (rfl | ⟨t, rfl⟩)
    · exact k1 n _ h (Below.refl _ _)
    · exact k1 n _ h (below_bytesWorld _ _ _)
  | «syntax» =>
    obtain ⟨te, pe, he⟩ := hl.syn
    refine Calls.mono (Tryz.strconv_Atoi_syntax ⟨s.toArray⟩ (by rw [ba_size]; omega) (by rw [ba_list]; exact h) _ w he (.inr ⟨_, _, rfl⟩)) ?_
    rintro e w' ⟨N, rfl, _, _, hb⟩
    exact ⟨_, rfl, k2 _ _ _ _ (fun n e => by rw [h] at e; cases e) hb⟩
  | range =>
    obtain ⟨te, pe, he⟩ := hl.ran
    refine Calls.mono (Tryz.strconv_Atoi_range ⟨s.toArray⟩ (by rw [ba_size]; omega) (by rw [ba_list]; exact h) _ w he (.inr ⟨_, _, rfl⟩)) ?_
    rintro e w' ⟨N, rfl, _, _, hb⟩
    exact ⟨_, rfl, k2 _ _ _ _ (fun n e => by rw [h] at e; cases e) hb⟩
theorem indexByte_ok (s : List UInt8) (c : UInt8) {K : Value → World → Prop} {w : World} (h : K (.int .i64 (indexByte s c)) w) : callM Tryz.prog 85 #[.string ⟨s.toArray⟩, .int .u8 c.toNat] K w := by
  refine call_of_calls (Tryz.strings_IndexByte ⟨s.toArray⟩ c.toNat w) ?_
  rintro w' rfl
  have : ((c.toNat : Int)).toNat.toUInt8 = c := by simp
  rw [ba_list, this]
  exact h
theorem cutPrefix_ok (s p : List UInt8) {K : Value → World → Prop} {w : World} (h : K (.tuple #[.string ⟨(trimPrefix s p).toArray⟩, .bool (hasPrefix s p)]) w) : callM Tryz.prog 87 #[.string ⟨s.toArray⟩, .string ⟨p.toArray⟩] K w := by
  refine call_of_calls (Tryz.strings_CutPrefix ⟨s.toArray⟩ ⟨p.toArray⟩ w) ?_
  rintro w' rfl
  exact h
end Go.Proofs.Cd
namespace Go.Proofs.Cd
open Go Go.Sh Go.RowKit Go.Lib CodeSpec
set_option linter.unusedSimpArgs false
set_option maxRecDepth 10000
def strV (s : List UInt8) : Value := .string ⟨s.toArray⟩
def RowOf {α : Type} (mk : α → Value) (w : World) (v : Value) (l : List α) : Prop :=
  ∃ ad c, v = .slice ad l.length c ∧ (l = [] ∨ ∃ b o, ad = some ⟨b, o, none⟩ ∧ b < w.heap.size ∧ ∀ (i : Nat) (h : i < l.length), w.cell? ⟨b, o + i, none⟩ = some (mk l[i]))
theorem RowOf.below {α : Type} {mk : α → Value} {w w' : World} {v : Value} {l : List α} (h : RowOf mk w v l) (hb : Below w.heap.size w w') : RowOf mk w' v l := by
  obtain ⟨ad, c, rfl, h⟩ := h
  refine ⟨ad, c, rfl, h.imp id ?_⟩
  rintro ⟨b, o, rfl, hlt, hc⟩
  exact ⟨b, o, rfl, Nat.lt_of_lt_of_le hlt hb.size, fun i hi => by rw [hb.cell hlt]; exact hc i hi⟩
theorem RowOf.nil {α : Type} (mk : α → Value) (w : World) (ad : Option Addr) (c : Nat) : RowOf mk w (.slice ad 0 c) [] := ⟨ad, c, rfl, .inl rfl⟩
theorem addr_add (b o k : Nat) : (⟨b, o, none⟩ : Addr).add k = ⟨b, o + k, none⟩ := by
  unfold Addr.add
  split
  · rename_i h0; rw [h0]; simp
  · rfl
theorem RowOf.of_owns {α : Type} {mk : α → Value} {w : World} {B : Nat} {e : TypeId} {v : Value} {l : List α} (h : w.ownsRow B e 1 v l.length (l.map mk)) : RowOf mk w v l := by
  rcases h.2 with ⟨rfl, h0⟩ | ⟨g, cap, cur, rfl, hb, hg, hn, hm, hcs, ht⟩
  · obtain rfl : l = [] := List.eq_nil_of_length_eq_zero h0
    exact RowOf.nil _ _ _ _
  · refine ⟨_, cap, rfl, .inr ⟨g, 0, rfl, (Array.getElem?_eq_some_iff.1 hg).1, fun i hi => ?_⟩⟩
    have : (l.map mk)[i]? = some (mk l[i]) := by simp [hi]
    rw [← ht, List.getElem?_take_of_lt (by omega)] at this
    unfold World.cell?
    rw [hg]
    simpa using this
theorem idx23 {b o n c k : Nat} (hk : k < n) (w : World) : (Instr.indexAt 46 (.slice (some ⟨b, o, none⟩) n c) (.int .i64 k)).run Tryz.prog w = .ok (.pointer (some ⟨b, o + k, none⟩)) w := by
  rw [run_indexAt_slice (h := by kernel_rfl), if_pos (by omega)]
  have hs : (sizeOf (Tryz.prog.elem 46)).run Tryz.prog w = .ok 1 w := by kernel_rfl
  rw [hs]
  simp only [Result.andThen, Int.toNat_natCast, addr_add, Nat.mul_one]
theorem pInt_ok (n : Int) (hn : InR n) {K : Value → World → Prop} {w : World} (hl : Laid w) (k : ∀ w', Below w.heap.size w w' → K (.string ⟨(encInt n).toArray⟩) w') : callM Tryz.prog 80 #[.int .i64 n] K w := by
  apply sh_80_ok
  unfold sh_80
  refine itoa_ok n hn hl ?_
  intro w1 hb
  have := itoa_len n hn
  repeat (any_goals ((with_reducible refine idO ?_); (with_reducible refine oM_gen fun Kv hK=>?_); simp [go_sem]; refine And.intro (by omega) (hK _ _ ?_); clear hK; clear Kv))
  exact K_eq (k _ hb) (by simp [encInt])
theorem pNum_ok (n : Int) (hn : InR n) {K : Value → World → Prop} {w : World} (hl : Laid w) (k : ∀ w', Below w.heap.size w w' → K (.string ⟨(encNum n).toArray⟩) w') : callM Tryz.prog 62 #[.int .i64 n] K w := by
  apply sh_62_ok
  unfold sh_62
  repeat (any_goals (first
  | (with_reducible ((refine idCond ?_); refine yP (fun hg=>?_) fun hg=>?_))
  | ((with_reducible refine idO ?_); (with_reducible refine oM_gen fun Kv hK=>?_); simp [go_sem]; refine hK _ _ ?_; clear hK; clear Kv)))
  · exact K_eq (k _ (Below.refl _ _)) (by simp [encNum, hg])
  · refine pInt_ok n hn hl ?_
    intro w1 hb
    exact K_eq (k _ hb) (by simp [encNum, hg])
theorem encText_len (s : List UInt8) (hs : (s.length : Int) ≤ 9223372036854775807) : (encText s).length ≤ s.length + 22 := by
  have := itoa_len s.length ⟨by omega, hs⟩
  simp [encText]; omega
theorem pText_ok (s : List UInt8) (hs : s.length < 2^60) {K : Value → World → Prop} {w : World} (hl : Laid w) (k : ∀ w', Below w.heap.size w w' → K (.string ⟨(encText s).toArray⟩) w') : callM Tryz.prog 61 #[.string ⟨s.toArray⟩] K w := by
  apply sh_61_ok
  unfold sh_61
  have hin : InR (s.length : Nat) := ⟨by omega, by omega⟩
  have hi := itoa_len _ hin
  repeat (any_goals ((with_reducible refine idO ?_); (with_reducible refine oM_gen fun Kv hK=>?_); simp [go_sem]; refine hK _ _ ?_; clear hK; clear Kv))
  refine itoa_ok _ hin hl (fun w1 hb1 => ?_)
  repeat (any_goals ((with_reducible refine idO ?_); (with_reducible refine oM_gen fun Kv hK=>?_); simp [go_sem]; refine And.intro (by omega) (hK _ _ ?_); clear hK; clear Kv))
  exact K_eq (k _ hb1) (by simp [encText])
theorem flat_snoc {α : Type} (enc : α → List UInt8) (xs : List α) (k : Nat) (h : k < xs.length) : ((xs.take (k + 1)).map enc).flatten = ((xs.take k).map enc).flatten ++ enc xs[k] := by
  rw [List.take_add_one, List.getElem?_eq_getElem h]
  simp only [Option.toList_some, List.map_append, List.map_cons, List.map_nil, List.flatten_append, List.flatten_cons, List.flatten_nil, List.append_nil]
theorem IsBuilder.below {T e : TypeId} {B b : Nat} {bs : List Value} {w w' : World} (h : IsBuilder T e B b bs w) (hb : Below w.heap.size w w') : IsBuilder T e B b bs w' := by
  have key : ∀ p, BuilderAt T e B b p bs w → BuilderAt T e B b p bs w' := by
    rintro p ⟨hB, v, hh, hown, hne⟩
    have hlt := (Array.getElem?_eq_some_iff.1 hh).1
    refine ⟨hB, v, by rw [hb.block _ hlt]; exact hh, ?_, hne⟩
    exact hown.kept (grown_of_below hb none) (by
      rcases hown.2 with ⟨rfl, _⟩ | ⟨g, cap, cur, rfl, _⟩
      · left; rfl
      · right; simp [Value.ownBlock])
  exact h.imp (key _) (key _)
end Go.Proofs.Cd
namespace Go.Proofs.Cd
open Go Go.Sh Go.RowKit Go.Lib CodeSpec
set_option linter.unusedSimpArgs false
set_option maxRecDepth 10000
def IsRd (w : World) (b : Nat) (r : Rd) : Prop := w.heap[b]? = some (.cells #[.string ⟨r.rest.toArray⟩, .bool r.bad] 103 (0, 0))
theorem IsRd.c0 {w : World} {b : Nat} {r : Rd} (h : IsRd w b r) : w.cell? ⟨b, 0, none⟩ = some (.string ⟨r.rest.toArray⟩) := by
  unfold IsRd at h; simp [World.cell?, h]
theorem IsRd.c1 {w : World} {b : Nat} {r : Rd} (h : IsRd w b r) : w.cell? ⟨b, 1, none⟩ = some (.bool r.bad) := by
  unfold IsRd at h; simp [World.cell?, h]
theorem IsRd.fz {w : World} {b : Nat} {r : Rd} (h : IsRd w b r) (i : Nat) : w.frozen? ⟨b, i, none⟩ = false := by
  unfold IsRd at h; simp [World.frozen?, h]
theorem IsRd.lt {w : World} {b : Nat} {r : Rd} (h : IsRd w b r) : b < w.heap.size := (Array.getElem?_eq_some_iff.1 h).1
theorem heap_set {w : World} {b i : Nat} {cs : Array Value} {T : TypeId} {f : Nat × Nat} (h : w.heap[b]? = some (.cells cs T f)) (u : Value) : (w.setCell ⟨b, i, none⟩ u).heap[b]? = some (.cells (cs.setIfInBounds i u) T f) := by
  simp [World.setCell, Array.getElem?_modify, h]
theorem IsRd.set0 {w : World} {b : Nat} {r : Rd} (h : IsRd w b r) (l : List UInt8) : IsRd (w.setCell ⟨b, 0, none⟩ (.string ⟨l.toArray⟩)) b ⟨l, r.bad⟩ := by
  unfold IsRd at h ⊢
  rw [heap_set h]; rfl
theorem IsRd.set1 {w : World} {b : Nat} {r : Rd} (h : IsRd w b r) (t : Bool) : IsRd (w.setCell ⟨b, 1, none⟩ (.bool t)) b ⟨r.rest, t⟩ := by
  unfold IsRd at h ⊢
  rw [heap_set h]; rfl
theorem IsRd.below {w w' : World} {b : Nat} {r : Rd} (h : IsRd w b r) {B : Nat} (hb : Below B w w') (hB : b < B) : IsRd w' b r := by
  unfold IsRd at h ⊢
  rw [hb.block _ hB]; exact h
theorem IsRd.drew {w : World} {b : Nat} {r : Rd} (h : IsRd w b r) : IsRd w.drew b r := h
theorem grown_set (w : World) (b i : Nat) (u : Value) : w.grownBy (w.setCell ⟨b, i, none⟩ u) (some b) :=
  ⟨rfl, rfl, rfl, by simp [World.setCell], fun k _ hk => Below.heap_setCell _ _ _ _ (fun e => hk (by simp [e]))⟩
theorem grown_drew (w : World) (b : Option Nat) : w.grownBy w.drew b := ⟨rfl, rfl, rfl, Nat.le_refl _, fun _ _ _ => rfl⟩
theorem fail_ok (b : Nat) (r : Rd) {K : Value → World → Prop} {w : World} (hr : IsRd w b r) (k : ∀ w', IsRd w' b failed → w.grownBy w' (some b) → K (.tuple #[]) w') : callM Tryz.prog 74 #[.pointer (some ⟨b, 0, none⟩)] K w := by
  apply sh_74_ok
  unfold sh_74
  have h0 := hr.c0
  have f0 := hr.fz 0
  have hr1 := hr.set0 []
  have f1 := hr1.fz 1
  have h1 := hr1.c1
  repeat (any_goals ((with_reducible refine idO ?_); (with_reducible refine oM_gen fun Kv hK=>?_); simp [go_sem, h0, f0, h1, f1]; refine hK _ _ ?_; clear hK; clear Kv))
  exact k _ (hr1.set1 true) (grownBy_trans (grown_set _ _ _ _) (grown_set _ _ _ _))
theorem close_ok (b : Nat) (r : Rd) (c : UInt8) {K : Value → World → Prop} {w : World} (hr : IsRd w b r) (k : ∀ w', IsRd w' b (rdClose r c) → w.grownBy w' (some b) → K (.tuple #[]) w') : callM Tryz.prog 75 #[.pointer (some ⟨b, 0, none⟩), .string ⟨#[c]⟩] K w := by
  apply sh_75_ok
  unfold sh_75
  have h0 := hr.c0
  have f0 := hr.fz 0
  repeat (any_goals (first
  | (with_reducible refine cutPrefix_ok r.rest [c] ?_)
  | (with_reducible ((refine idCond ?_); refine yV (fun hg=>?_) fun hg=>?_))
  | ((with_reducible refine idO ?_); (with_reducible refine oM_gen fun Kv hK=>?_); simp [go_sem, h0, f0]; refine hK _ _ ?_; clear hK; clear Kv)))
  · skip
    obtain ⟨t, ht⟩ : ∃ t, r.rest = c :: t := by
      unfold hasPrefix at hg
      rw [List.isPrefixOf_iff_prefix] at hg
      obtain ⟨t, ht⟩ := hg
      exact ⟨t, by rw [← ht]; rfl⟩
    have e : trimPrefix r.rest [c] = t := by simp [trimPrefix, hasPrefix, ht]
    refine k _ ?_ (grown_set _ _ _ _)
    have := hr.set0 t
    rw [e]
    have e2 : rdClose r c = ⟨t, r.bad⟩ := by simp [rdClose, ht]
    rw [e2]
    exact this
  · skip
    refine fail_ok b _ (hr.set0 _) ?_
    intro w1 hr1 hg1
    refine k w1 ?_ (grownBy_trans (grown_set _ _ _ _) hg1)
    have e2 : rdClose r c = failed := by
      rcases rdClose_some r c with h | ⟨t, h, _⟩
      · exact h
      · rw [h] at hg; simp [hasPrefix] at hg
    rw [e2]
    exact hr1
theorem indexByte_take (l : List UInt8) (c : UInt8) : indexByte l c = if (l.takeWhile (· != c)).length < l.length then ((l.takeWhile (· != c)).length : Int) else -1 := by
  induction l with
  | nil => rfl
  | cons x l ih =>
    unfold indexByte
    by_cases hx : x = c
    · subst hx; simp
    · have h1 : (x == c) = false := by simp [hx]
      have tw : (x :: l).takeWhile (· != c) = x :: l.takeWhile (· != c) := by simp [hx]
      rw [tw, List.length_cons, List.length_cons, h1, if_neg (by simp)]
      by_cases hlt : (l.takeWhile (· != c)).length < l.length
      · rw [if_pos hlt] at ih
        have e : (indexByte l c == -1) = false := by
          rw [ih, beq_eq_false_iff_ne]
          omega
        rw [e, if_neg (by simp), ih, if_pos (by omega)]
        omega
      · rw [if_neg hlt] at ih
        rw [ih, if_pos (by simp), if_neg (by omega)]
theorem take_twl (l : List UInt8) (c : UInt8) : l.take (l.takeWhile (· != c)).length = l.takeWhile (· != c) := by
  exact (List.prefix_iff_eq_take.1 (List.takeWhile_prefix _)).symm
set_option maxHeartbeats 1600000 in
theorem number_ok (b : Nat) (r : Rd) (e : UInt8) (least : Int) {K : Value → World → Prop} {w : World} (hl : Laid w) (hlen : r.rest.length < 2^60) (hr : IsRd w b r) (k : ∀ w', IsRd w' b (rdNumber r e least).2 → w.grownBy w' (some b) → K (.int .i64 (rdNumber r e least).1) w') : callM Tryz.prog 73 #[.pointer (some ⟨b, 0, none⟩), .int .u8 e.toNat, .int .i64 least] K w := by
  apply sh_73_ok
  unfold sh_73
  refine quietM_one ?_
  have hr1 : IsRd { w with drawn := w.drawn + 1 } b r := hr
  have hl1 : Laid { w with drawn := w.drawn + 1 } := hl.keep (fun _ _ => rfl) (Nat.le_refl _)
  have hg1 : w.grownBy { w with drawn := w.drawn + 1 } (some b) := grown_drew _ _
  generalize { w with drawn := w.drawn + 1 } = w1 at *
  have h0 := hr1.c0
  have hmin : (min (r.rest.length : Int) 21).toNat = min r.rest.length 21 := by omega
  obtain ⟨q, hq⟩ : ∃ q, q = r.rest.take 21 := ⟨_, rfl⟩
  obtain ⟨p, hp⟩ : ∃ p, p = q.takeWhile (· != e) := ⟨_, rfl⟩
  have htk : r.rest.take (min r.rest.length 21) = q := by
    rw [hq, List.take_eq_take_iff]; omega
  have hix := indexByte_take q e
  rw [← hp] at hix
  have hple : p.length ≤ q.length := by rw [hp]; exact (List.takeWhile_prefix _).length_le
  have hpl21 : q.length ≤ 21 := by rw [hq]; exact List.length_take_le ..
  have hpr : q.length ≤ r.rest.length := by rw [hq, List.length_take]; omega
  have hnum : rdNumber r e least = if p.length < q.length then (match canon p with | some n => if n < least then (0, failed) else (n, ⟨r.rest.drop (p.length + 1), r.bad⟩) | none => (0, failed)) else (0, failed) := by rw [hp, hq]; rfl
  have hsl : q.take p.length = p := by rw [hp]; exact take_twl _ _
  have fin : ∀ w2, Below w1.heap.size w1 w2 → rdNumber r e least = (0, failed) → callM Tryz.prog 74 #[.pointer (some ⟨b, 0, none⟩)] (fun _ w => K (.int .i64 0) w) w2 := by
    intro w2 hb2 hn
    refine fail_ok b _ (hr1.below hb2 hr1.lt) ?_
    intro w3 hr3 hg3
    have := k w3 (by rw [hn]; exact hr3) (grownBy_trans hg1 (grownBy_trans (grown_of_below hb2 _) hg3))
    rw [hn] at this
    exact this
  clear hp hq
  repeat (any_goals (first
  | (with_reducible first|refine And.intro (Eq.refl (α := World) _) ?_|refine forall_one ?_)
  | ((with_reducible refine idOQ ?_); first|(with_reducible refine oQ_nil ?_)|((with_reducible refine oQ_one ?_ ?_); exact ⟨_, rfl⟩))
  | ((with_reducible refine idO ?_); (with_reducible refine oM_gen fun Kv hK=>?_); simp [go_sem, h0, hmin, htk]; (first|refine hK _ _ ?_|refine And.intro (by omega) (hK _ _ ?_)); clear hK; clear Kv)))
  refine indexByte_ok _ e ?_
  rw [hix]
  by_cases hlt : p.length < q.length
  · rw [if_pos hlt] at hnum ⊢
    repeat (any_goals (first
    | (with_reducible ((refine idCond ?_); refine yO ?_))
    | ((with_reducible refine idO ?_); (with_reducible refine oM_gen fun Kv hK=>?_); simp [go_sem, hsl]; (first|refine hK _ _ ?_|refine And.intro (by omega) (hK _ _ ?_)); clear hK; clear Kv)))
    refine atoi_ok p (by omega) hl1 (fun n w2 hn hb2 => ?_) (fun v te pe w2 hn hb2 => ?_)
    · have hinr := atoiAll_bounds hn
      have hcan : canon p = if itoa n = p then some n else none := by unfold canon; rw [hn]
      repeat (any_goals ((with_reducible refine idO ?_); (with_reducible refine oM_gen fun Kv hK=>?_); simp [go_sem]; refine hK _ _ ?_; clear hK; clear Kv))
      refine ⟨fun w' => Below w2.heap.size w2 w', ⟨rfl, rfl, rfl, Nat.le_refl _, fun _ _ => rfl⟩, ?_⟩
      repeat (any_goals (first
      | (with_reducible first|refine pureQ_in ?_|((refine idGdQ ?_); refine gdQ_conv fun _=>?_)|((refine idGd ?_); refine zC ?_))
      | ((with_reducible refine idOQ ?_); (with_reducible refine oQ_of ⟨_, rfl⟩ (fun W0 hW0 => by (refine oM_gen (fun Kv hK => ?_)); simp [go_sem, oM_nec, eqGuard]; (first | exact hK _ _ ⟨rfl, rfl⟩ | exact ⟨by omega, hK _ _ ⟨rfl, rfl⟩⟩)) ?_))))
      refine callQ_of (C := fun w0 => Below w2.heap.size w2 w0) (v := .string ⟨(itoa n).toArray⟩) (fun w3 hw3 => itoa_ok n hinr (hl1.below (hb2.trans (hw3.mono hb2.size)) hl1.size) (fun w4 hb4 => ⟨rfl, hw3.trans (hb4.mono hw3.size)⟩)) ?_
      repeat (any_goals (first
      | (with_reducible first|refine pureQ_in ?_|((refine idGdQ ?_); refine gdQ_conv fun _=>?_)|((refine idGd ?_); first|refine zC ?_|((refine idGdN ?_); first|refine zO ?_|refine zP ?_|refine zQ (fun hg=>?_) fun hg=>?_)))
      | ((with_reducible refine idOQ ?_); first|(with_reducible first|refine wB ?_|refine wE ?_|refine wF ?_)|(with_reducible refine oQ_of ⟨_, rfl⟩ (fun W0 hW0 => by (refine oM_gen (fun Kv hK => ?_)); simp [go_sem, hsl]; (first | exact hK _ _ ⟨rfl, rfl⟩ | exact ⟨by omega, hK _ _ ⟨rfl, rfl⟩⟩)) ?_))))
      · rw [hcan, if_pos hg] at hnum
        intro w3 hw3
        have hb3 : Below w1.heap.size w1 w3 := hb2.trans (hw3.mono hb2.size)
        have hr3 := hr1.below hb3 hr1.lt
        have h3 := hr3.c0
        have f3 := hr3.fz 0
        simp only at hnum
        by_cases hle : n < least
        · rw [if_pos hle] at hnum
          repeat (any_goals (first
          | (with_reducible refine fin _ hb3 hnum)
          | (with_reducible ((refine idCond ?_); refine yN ?_))))
        · rw [if_neg hle] at hnum
          repeat (any_goals (first
          | (with_reducible ((refine idCond ?_); refine yO ?_))
          | ((with_reducible refine idO ?_); (with_reducible refine oM_gen fun Kv hK=>?_); simp [go_sem, h3, f3]; (try simp (disch := omega) only [wrapI64, wrapU8, wrapU32, wrapU64]); (first|refine hK _ _ ?_|refine And.intro (by omega) (hK _ _ ?_)); clear hK; clear Kv)))
          have := k _ (by rw [hnum]; exact hr3.set0 _) (grownBy_trans hg1 (grownBy_trans (grown_of_below hb3 _) (grown_set _ _ _ _)))
          rw [hnum] at this
          exact this
      · rw [hcan, if_neg hg] at hnum
        simp only at hnum
        intro w3 hw3
        repeat (any_goals (first
        | (with_reducible refine fin _ (hb2.trans (hw3.mono hb2.size)) hnum)
        | (with_reducible ((refine idCond ?_); refine yL ?_))))
    · have hcan : canon p = none := by
        unfold canon
        cases hc : atoiAll p with
        | ok n => exact absurd hc (hn n)
        | «syntax» => rfl
        | range => rfl
      rw [hcan] at hnum
      simp only at hnum
      repeat (any_goals ((with_reducible refine idO ?_); (with_reducible refine oM_gen fun Kv hK=>?_); simp [go_sem]; refine hK _ _ ?_; clear hK; clear Kv))
      refine quietM_one ?_
      repeat (any_goals (first
      | (with_reducible first|((refine idGdQ ?_); refine gdQ_conv fun _=>?_)|refine And.intro (Eq.refl (α := World) _) ?_|refine forall_one ?_|((refine idGd ?_); refine zD ?_)|((refine idCond ?_); refine yL ?_))
      | ((with_reducible refine idOQ ?_); first|(with_reducible refine wA ?_)|((with_reducible refine oQ_one ?_ ?_); exact ⟨_, rfl⟩))
      | ((with_reducible refine idO ?_); (with_reducible refine oM_gen fun Kv hK=>?_); simp [go_sem, oM_nec, eqGuard]; refine hK _ _ ?_; clear hK; clear Kv)))
      exact fin _ hb2.drew hnum
  · rw [if_neg hlt] at hnum ⊢
    repeat (any_goals (first
    | (with_reducible refine fin _ (Below.refl _ _) hnum)
    | (with_reducible ((refine idCond ?_); refine yL ?_))
    | ((with_reducible refine idO ?_); (with_reducible refine oM_gen fun Kv hK=>?_); simp [go_sem]; refine hK _ _ ?_; clear hK; clear Kv)))
end Go.Proofs.Cd
