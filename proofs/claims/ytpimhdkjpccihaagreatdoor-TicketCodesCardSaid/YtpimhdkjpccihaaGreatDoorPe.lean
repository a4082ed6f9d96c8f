/- Parts of the proof of the seat's statements (HTc, ShelfT, CodeSpec, TcB, TcE, TcR, TcR2, TcI, TkO, TkP0, TkP, TkQ): lemmas about the given translation and plain laws. No condition of their own. -/
import Derived.Test.YtpimhdkjpccihaaGreatDoorPd
import Derived.Test.YtpimhdkjpccihaaGreatDoorProg
import Derived.Shelf.Strings.Builder1
import Derived.Shelf.Small.Strs
import Derived.Shelf.Small.Wraps
import Derived.Shelf.Strings.BuilderF
import Derived.Shelf.Strings.BuilderK
import Derived.Shelf.Strconv.Atoi
import Derived.Shelf.Strconv.Itoa0
import Derived.Shelf.Strconv.Itoa1
import Derived.Shelf.LaysM
import Derived.Shelf.Strconv.Itoa2
import Derived.Shelf.Strconv.Itoa3
import Derived.Shelf.Strconv.AtoiErrFast
import Derived.Shelf.Strconv.ParseIntEmpty
import Derived.Shelf.Strconv.AtoiFail
import Derived.Shelf.Strconv.Clone
import Derived.Shelf.Strconv.SyntaxError
import Derived.Shelf.LaysC
import Derived.Shelf.Strconv.ToError
import Derived.Shelf.Strconv.Lower
import Derived.Shelf.Strconv.ParseUint10
import Derived.Shelf.Strconv.ParseUint10Empty
import Derived.Shelf.Strconv.ParseUint10Any
import Derived.Shelf.Strconv.ParseInt10
import Derived.Shelf.Strconv.AtoiLong
import Derived.Shelf.Strconv.AtoiInnerAll
import Derived.Shelf.Strconv.RangeError
import Derived.Shelf.Strconv.ToErrorRange
import Derived.Shelf.Strconv.AtoiAll
import Derived.Shelf.Strings.Search1
import Derived.Shelf.Strings.Prefix
import Derived.Test.YtpimhdkjpccihaaGreatDoorRows
import Derived.Lib.ItoaNum
import Derived.Lib.AtoiAllCases
import Derived.Lib.Builder
import Derived.Lib.AppendStr
import Derived.Lib.AppendIntMem
import Derived.Laws.StructEq
set_option linter.all false
set_option linter.unusedVariables false
set_option maxRecDepth 100000
namespace Go.Proofs
open Go.Sh
/-- cloak/base.OpenReader -/
def sh_116 (a0 : Value) (K : Value → World → Prop) (w : World) : Prop :=
 oM Tryz.prog (Go.Op.build 180 #[(0, (.tmp 0))]) 180 [a0] (fun v4_1 w =>
 oM Tryz.prog (Go.Op.box 180 (.tmp 0)) 150 [v4_1] (fun v5_2 w =>
 K v5_2 w) w) w
theorem sh_116_eq (a0 : Value) (K : Value → World → Prop) (w : World) : sh_116 a0 K w = code Tryz.prog (fun _ => 0) 6 (Tryz.f116.body.getD .skip) (slotsAt [a0]) (retK Tryz.prog [.tmp 2] K) w := by kernel_rfl
theorem sh_116_ok {a0 : Value} {K : Value → World → Prop} {w : World} (h : sh_116 a0 K w) : callM Tryz.prog 116 #[a0] K w :=
  calls_of_code (fun _ => 0) (fn := Tryz.f116) (rs := [.tmp 2]) Tryz.func116 rfl rfl (by kernel_rfl) (Nat.le_of_ble_eq_true rfl) ((sh_116_eq a0 K w).mp h)

/-- (*cloak/base.Reader).Nums -/
def sh_117 (a0 : Value) (K : Value → World → Prop) (w : World) : Prop :=
 oM Tryz.prog (Go.Op.makeFunc (Go.Fn.func 162) #[(.tmp 0)] #[]) 182 [a0] (fun v5_1 w =>
 callM Tryz.prog 161 #[a0, v5_1] (fun v6_2 w =>
 K v6_2 w) w) w
theorem sh_117_eq (a0 : Value) (K : Value → World → Prop) (w : World) : sh_117 a0 K w = code Tryz.prog (fun _ => 0) 7 (Tryz.f117.body.getD .skip) (slotsAt [a0]) (retK Tryz.prog [.tmp 2] K) w := by kernel_rfl
theorem sh_117_ok {a0 : Value} {K : Value → World → Prop} {w : World} (h : sh_117 a0 K w) : callM Tryz.prog 117 #[a0] K w :=
  calls_of_code (fun _ => 0) (fn := Tryz.f117) (rs := [.tmp 2]) Tryz.func117 rfl rfl (by kernel_rfl) (Nat.le_of_ble_eq_true rfl) ((sh_117_eq a0 K w).mp h)

/-- (*cloak/base.Reader).Done -/
def sh_118 (a0 : Value) (K : Value → World → Prop) (w : World) : Prop :=
 oM Tryz.prog (Go.Op.nilCheck (.tmp 0)) 0 [a0] (fun v4_1 w =>
 oM Tryz.prog (Go.Op.fieldAddr 180 (.tmp 0) 1) 0 [v4_1] (fun v5_2 w =>
 oM Tryz.prog (Go.Op.load 4 (.tmp 0)) 4 [v5_2] (fun v6_3 w =>
 oM Tryz.prog (Go.Op.unOp Go.UnOp.not 4 (.tmp 0)) 4 [v6_3] (fun v7_4 w =>
 gdM (gd v7_4 true) (pureM a0) (fun v9_5 w =>
 gdM (gd v7_4 true) (oM Tryz.prog (Go.Op.nilCheck (.tmp 0)) 0 [v9_5]) (fun v10_6 w =>
 gdM (gd v7_4 true) (oM Tryz.prog (Go.Op.fieldAddr 180 (.tmp 0) 0) 0 [v10_6]) (fun v11_7 w =>
 gdM (gd v7_4 true) (oM Tryz.prog (Go.Op.load 9 (.tmp 0)) 9 [v11_7]) (fun v12_8 w =>
 gdM (gd v7_4 true) (oM Tryz.prog (Go.Op.binOp Go.BinOp.eql 9 (.tmp 0) (.const (.string ⟨#[]⟩)) 9) 4 [v12_8]) (fun v13_9 w =>
 oM Tryz.prog (Go.Op.pick (.tmp 0) (.tmp 1) (.tmp 2)) 4 [v7_4, v13_9, (.bool false)] (fun v14_10 w =>
 K v14_10 w) w) w) w) w) w) w) w) w) w) w
theorem sh_118_eq (a0 : Value) (K : Value → World → Prop) (w : World) : sh_118 a0 K w = code Tryz.prog (fun _ => 0) 15 (Tryz.f118.body.getD .skip) (slotsAt [a0]) (retK Tryz.prog [.tmp 2] K) w := by kernel_rfl
theorem sh_118_ok {a0 : Value} {K : Value → World → Prop} {w : World} (h : sh_118 a0 K w) : callM Tryz.prog 118 #[a0] K w :=
  calls_of_code (fun _ => 0) (fn := Tryz.f118) (rs := [.tmp 2]) Tryz.func118 rfl rfl (by kernel_rfl) (Nat.le_of_ble_eq_true rfl) ((sh_118_eq a0 K w).mp h)

/-- cloak/base.Nums -/
def sh_119 (a0 : Value) (K : Value → World → Prop) (w : World) : Prop :=
 callM Tryz.prog 163 #[a0, (.func (.func 164) #[] #[])] (fun v4_1 w =>
 K v4_1 w) w
theorem sh_119_eq (a0 : Value) (K : Value → World → Prop) (w : World) : sh_119 a0 K w = code Tryz.prog (fun _ => 0) 5 (Tryz.f119.body.getD .skip) (slotsAt [a0]) (retK Tryz.prog [.tmp 2] K) w := by kernel_rfl
theorem sh_119_ok {a0 : Value} {K : Value → World → Prop} {w : World} (h : sh_119 a0 K w) : callM Tryz.prog 119 #[a0] K w :=
  calls_of_code (fun _ => 0) (fn := Tryz.f119) (rs := [.tmp 2]) Tryz.func119 rfl rfl (by kernel_rfl) (Nat.le_of_ble_eq_true rfl) ((sh_119_eq a0 K w).mp h)

/-- cloak/base.items[int] -/
def sh_161 (a0 : Value) (a1 : Value) (K : Value → World → Prop) (w : World) : Prop :=
 callM Tryz.prog 189 #[a0, (.int .u8 91), (.int .i64 0)] (fun v8_1 w =>
 loopM [(.slice none 0 0), v8_1] w (fun J_2 m_3 l_4 u_l_4 w0_l_4 => (fun w => (
 oM Tryz.prog (Go.Op.binOp Go.BinOp.gtr 3 (.tmp 0) (.tmp 1) 3) 4 [(l_4.getD 1 undef), (.int .i64 0)] (fun v10_5 w =>
 gdM (gd v10_5 true) (pureM a0) (fun v12_6 w =>
 gdM (gd v10_5 true) (oM Tryz.prog (Go.Op.nilCheck (.tmp 0)) 0 [v12_6]) (fun v13_7 w =>
 gdM (gd v10_5 true) (oM Tryz.prog (Go.Op.fieldAddr 180 (.tmp 0) 1) 0 [v13_7]) (fun v14_8 w =>
 gdM (gd v10_5 true) (oM Tryz.prog (Go.Op.load 4 (.tmp 0)) 4 [v14_8]) (fun v15_9 w =>
 gdM (gd v10_5 true) (oM Tryz.prog (Go.Op.unOp Go.UnOp.not 4 (.tmp 0)) 4 [v15_9]) (fun v16_10 w =>
 oM Tryz.prog (Go.Op.pick (.tmp 0) (.tmp 1) (.tmp 2)) 4 [v10_5, v16_10, (.bool false)] (fun v17_11 w =>
 condM v17_11
 (oM Tryz.prog (Go.Op.call (Go.Call.mk (Go.Callee.value (.tmp 0)) #[] #[])) 3 [a1] (fun v22_12 w =>
 oM Tryz.prog (Go.Op.buildSlice 22 1 #[(0, (.tmp 0))]) 22 [v22_12] (fun v23_13 w =>
 oM Tryz.prog (Go.Op.call (Go.Call.mk (Go.Callee.builtin Go.Builtin.append) #[(.tmp 0), (.tmp 1)] #[22, 22])) 22 [(l_4.getD 0 undef), v23_13] (fun v24_14 w =>
 oM Tryz.prog (Go.Op.binOp Go.BinOp.sub 3 (.tmp 0) (.tmp 1) 3) 3 [(l_4.getD 1 undef), (.int .i64 1)] (fun v19_15 w =>
 J_2 [v24_14, v19_15] w ∧ m_3 [v24_14, v19_15] w < m_3 l_4 w0_l_4) w) w) w) w)
 (callM Tryz.prog 190 #[a0, (.string ⟨#[93]⟩)] (fun v26_16 w =>
 oM Tryz.prog (Go.Op.nilCheck (.tmp 0)) 0 [a0] (fun v28_17 w =>
 oM Tryz.prog (Go.Op.fieldAddr 180 (.tmp 0) 1) 0 [v28_17] (fun v29_18 w =>
 oM Tryz.prog (Go.Op.load 4 (.tmp 0)) 4 [v29_18] (fun v30_19 w =>
 condM v30_19
 (K (.slice none 0 0) w)
 (K (l_4.getD 0 undef) w)) w) w) w) w)) w) w) w) w) w) w) w)) w0_l_4)) w
theorem sh_161_eq (a0 : Value) (a1 : Value) (K : Value → World → Prop) (w : World) : sh_161 a0 a1 K w = code Tryz.prog (fun _ => 0) 32 (Tryz.f161.body.getD .skip) (slotsAt [a0, a1]) (retK Tryz.prog [.tmp 4] K) w := by kernel_rfl
theorem sh_161_ok {a0 a1 : Value} {K : Value → World → Prop} {w : World} (h : sh_161 a0 a1 K w) : callM Tryz.prog 161 #[a0, a1] K w :=
  calls_of_code (fun _ => 0) (fn := Tryz.f161) (rs := [.tmp 4]) Tryz.func161 rfl rfl (by kernel_rfl) (Nat.le_of_ble_eq_true rfl) ((sh_161_eq a0 a1 K w).mp h)

/-- (*cloak/base.Reader).Int -/
def sh_162 (a0 : Value) (K : Value → World → Prop) (w : World) : Prop :=
 callM Tryz.prog 189 #[a0, (.int .u8 59), (.int .i64 (-9223372036854775808))] (fun v4_1 w =>
 K v4_1 w) w
theorem sh_162_eq (a0 : Value) (K : Value → World → Prop) (w : World) : sh_162 a0 K w = code Tryz.prog (fun _ => 0) 5 (Tryz.f162.body.getD .skip) (slotsAt [a0]) (retK Tryz.prog [.tmp 2] K) w := by kernel_rfl
theorem sh_162_ok {a0 : Value} {K : Value → World → Prop} {w : World} (h : sh_162 a0 K w) : callM Tryz.prog 162 #[a0] K w :=
  calls_of_code (fun _ => 0) (fn := Tryz.f162) (rs := [.tmp 2]) Tryz.func162 rfl rfl (by kernel_rfl) (Nat.le_of_ble_eq_true rfl) ((sh_162_eq a0 K w).mp h)

/-- cloak/base.encoded[int] -/
def sh_163 (a0 : Value) (a1 : Value) (K : Value → World → Prop) (w : World) : Prop :=
 oM Tryz.prog (Go.Op.alloc 199) 0 [] (fun v5_1 w =>
 oM Tryz.prog (Go.Op.call (Go.Call.mk (Go.Callee.builtin Go.Builtin.len) #[(.tmp 0)] #[22])) 3 [a0] (fun v9_2 w =>
 callM Tryz.prog 172 #[v9_2] (fun v10_3 w =>
 oM Tryz.prog (Go.Op.binOp Go.BinOp.add 9 (.tmp 0) (.tmp 1) 9) 9 [v10_3, (.string ⟨#[91]⟩)] (fun v11_4 w =>
 callM Tryz.prog 191 #[v5_1, v11_4] (fun v12_5 w =>
 oM Tryz.prog (Go.Op.call (Go.Call.mk (Go.Callee.builtin Go.Builtin.len) #[(.tmp 0)] #[22])) 3 [a0] (fun v14_6 w =>
 loopM [undef, (.int .i64 0)] w (fun J_7 m_8 l_9 u_l_9 w0_l_9 => (fun w => (
 oM Tryz.prog (Go.Op.binOp Go.BinOp.lss 3 (.tmp 0) (.tmp 1) 3) 0 [(l_9.getD 1 undef), v14_6] (fun v16_10 w =>
 condM v16_10
 (oM Tryz.prog (Go.Op.indexAddr 22 (.tmp 0) (.tmp 1)) 0 [a0, (l_9.getD 1 undef)] (fun v17_11 w =>
 oM Tryz.prog (Go.Op.load 3 (.tmp 0)) 3 [v17_11] (fun v18_12 w =>
 oM Tryz.prog (Go.Op.call (Go.Call.mk (Go.Callee.value (.tmp 0)) #[(.tmp 1)] #[3])) 9 [a1, v18_12] (fun v21_13 w =>
 callM Tryz.prog 191 #[v5_1, v21_13] (fun v22_14 w =>
 oM Tryz.prog (Go.Op.binOp Go.BinOp.add 3 (.tmp 0) (.tmp 1) 3) 3 [(l_9.getD 1 undef), (.int .i64 1)] (fun v23_15 w =>
 J_7 [v18_12, v23_15] w ∧ m_8 [v18_12, v23_15] w < m_8 l_9 w0_l_9) w) w) w) w) w)
 (callM Tryz.prog 192 #[v5_1] (fun v24_16 w =>
 oM Tryz.prog (Go.Op.binOp Go.BinOp.add 9 (.tmp 0) (.tmp 1) 9) 9 [v24_16, (.string ⟨#[93]⟩)] (fun v25_17 w =>
 K v25_17 w) w) w)) w)) w0_l_9)) w) w) w) w) w) w
theorem sh_163_eq (a0 : Value) (a1 : Value) (K : Value → World → Prop) (w : World) : sh_163 a0 a1 K w = code Tryz.prog (fun _ => 0) 26 (Tryz.f163.body.getD .skip) (slotsAt [a0, a1]) (retK Tryz.prog [.tmp 4] K) w := by kernel_rfl
theorem sh_163_ok {a0 a1 : Value} {K : Value → World → Prop} {w : World} (h : sh_163 a0 a1 K w) : callM Tryz.prog 163 #[a0, a1] K w :=
  calls_of_code (fun _ => 0) (fn := Tryz.f163) (rs := [.tmp 4]) Tryz.func163 rfl rfl (by kernel_rfl) (Nat.le_of_ble_eq_true rfl) ((sh_163_eq a0 a1 K w).mp h)

/-- cloak/base.Int -/
def sh_164 (a0 : Value) (K : Value → World → Prop) (w : World) : Prop :=
 callM Tryz.prog 172 #[a0] (fun v4_1 w =>
 oM Tryz.prog (Go.Op.binOp Go.BinOp.add 9 (.tmp 0) (.tmp 1) 9) 9 [v4_1, (.string ⟨#[59]⟩)] (fun v5_2 w =>
 K v5_2 w) w) w
theorem sh_164_eq (a0 : Value) (K : Value → World → Prop) (w : World) : sh_164 a0 K w = code Tryz.prog (fun _ => 0) 6 (Tryz.f164.body.getD .skip) (slotsAt [a0]) (retK Tryz.prog [.tmp 2] K) w := by kernel_rfl
theorem sh_164_ok {a0 : Value} {K : Value → World → Prop} {w : World} (h : sh_164 a0 K w) : callM Tryz.prog 164 #[a0] K w :=
  calls_of_code (fun _ => 0) (fn := Tryz.f164) (rs := [.tmp 2]) Tryz.func164 rfl rfl (by kernel_rfl) (Nat.le_of_ble_eq_true rfl) ((sh_164_eq a0 K w).mp h)

/-- (*cloak/base.Reader).number -/
def sh_189 (a0 : Value) (a1 : Value) (a2 : Value) (K : Value → World → Prop) (w : World) : Prop :=
 quietM w (fun C_1 => (oQ Tryz.prog (Go.Op.nilCheck (.tmp 0)) 0 [a0] C_1 (fun v12_2 =>
 oQ Tryz.prog (Go.Op.fieldAddr 180 (.tmp 0) 0) 0 [v12_2] C_1 (fun v13_3 =>
 oQ Tryz.prog (Go.Op.load 9 (.tmp 0)) 9 [v13_3] C_1 (fun v14_4 =>
 oQ Tryz.prog (Go.Op.nilCheck (.tmp 0)) 0 [a0] C_1 (fun v16_5 =>
 oQ Tryz.prog (Go.Op.fieldAddr 180 (.tmp 0) 0) 0 [v16_5] C_1 (fun v17_6 =>
 oQ Tryz.prog (Go.Op.load 9 (.tmp 0)) 9 [v17_6] C_1 (fun v18_7 =>
 oQ Tryz.prog (Go.Op.call (Go.Call.mk (Go.Callee.builtin Go.Builtin.len) #[(.tmp 0)] #[9])) 3 [v18_7] C_1 (fun v19_8 =>
 oQ Tryz.prog (Go.Op.call (Go.Call.mk (Go.Callee.builtin Go.Builtin.min) #[(.tmp 0), (.tmp 1)] #[3, 3])) 3 [v19_8, (.int .i64 21)] C_1 (fun v20_9 =>
 oQ Tryz.prog (Go.Op.slice 9 (.tmp 0) none (some (.tmp 1)) none) 9 [v14_4, v20_9] C_1 (fun v21_10 =>
 ∀ w, C_1 w → (callM Tryz.prog 209 #[v21_10, a1] (fun v24_11 w =>
 oM Tryz.prog (Go.Op.binOp Go.BinOp.lss 3 (.tmp 0) (.tmp 1) 3) 4 [v24_11, (.int .i64 0)] (fun v26_12 w =>
 condM v26_12
 (callM Tryz.prog 210 #[a0] (fun v28_13 w =>
 K (.int .i64 0) w) w)
 (oM Tryz.prog (Go.Op.slice 9 (.tmp 0) none (some (.tmp 1)) none) 9 [v21_10, v24_11] (fun v32_14 w =>
 callM Tryz.prog 211 #[v32_14] (fun v33_15 w =>
 oM Tryz.prog (Go.Op.extract (.tmp 0) 0) 3 [v33_15] (fun v34_16 w =>
 oM Tryz.prog (Go.Op.extract (.tmp 0) 1) 201 [v33_15] (fun v35_17 w =>
 quietM w (fun C_18 => (oQ Tryz.prog (Go.Op.binOp Go.BinOp.neq 201 (.tmp 0) (.const .nilIface) 201) 4 [v35_17] C_18 (fun v37_19 =>
 gdQ (gd v37_19 false) (pureQ v34_16) C_18 (fun v39_20 =>
 gdQ (gd v37_19 false) (callQ Tryz.prog 172 #[v39_20]) C_18 (fun v40_21 =>
 gdQ (gd v37_19 false) (pureQ v21_10) C_18 (fun v41_22 =>
 gdQ (gd v37_19 false) (pureQ v24_11) C_18 (fun v42_23 =>
 gdQ (gd v37_19 false) (oQ Tryz.prog (Go.Op.slice 9 (.tmp 0) none (some (.tmp 1)) none) 9 [v41_22, v42_23]) C_18 (fun v43_24 =>
 gdQ (gd v37_19 false) (oQ Tryz.prog (Go.Op.binOp Go.BinOp.neq 9 (.tmp 0) (.tmp 1) 9) 4 [v40_21, v43_24]) C_18 (fun v44_25 =>
 oQ Tryz.prog (Go.Op.pick (.tmp 0) (.tmp 1) (.tmp 2)) 4 [v37_19, (.bool true), v44_25] C_18 (fun v45_26 =>
 gdQ (gd v45_26 false) (pureQ v34_16) C_18 (fun v47_27 =>
 gdQ (gd v45_26 false) (pureQ a2) C_18 (fun v48_28 =>
 gdQ (gd v45_26 false) (oQ Tryz.prog (Go.Op.binOp Go.BinOp.lss 3 (.tmp 0) (.tmp 1) 3) 4 [v47_27, v48_28]) C_18 (fun v49_29 =>
 oQ Tryz.prog (Go.Op.pick (.tmp 0) (.tmp 1) (.tmp 2)) 4 [v45_26, (.bool true), v49_29] C_18 (fun v50_30 =>
 ∀ w, C_18 w → (condM v50_30
 (callM Tryz.prog 210 #[a0] (fun v52_31 w =>
 K (.int .i64 0) w) w)
 (oM Tryz.prog (Go.Op.nilCheck (.tmp 0)) 0 [a0] (fun v55_32 w =>
 oM Tryz.prog (Go.Op.fieldAddr 180 (.tmp 0) 0) 0 [v55_32] (fun v56_33 w =>
 oM Tryz.prog (Go.Op.load 9 (.tmp 0)) 9 [v56_33] (fun v57_34 w =>
 oM Tryz.prog (Go.Op.binOp Go.BinOp.add 3 (.tmp 0) (.tmp 1) 3) 3 [v24_11, (.int .i64 1)] (fun v59_35 w =>
 oM Tryz.prog (Go.Op.slice 9 (.tmp 0) (some (.tmp 1)) none none) 9 [v57_34, v59_35] (fun v60_36 w =>
 oM Tryz.prog (Go.Op.nilCheck (.tmp 0)) 0 [a0] (fun v61_37 w =>
 oM Tryz.prog (Go.Op.fieldAddr 180 (.tmp 0) 0) 0 [v61_37] (fun v62_38 w =>
 oM Tryz.prog (Go.Op.store 9 (.tmp 0) (.tmp 1)) 0 [v62_38, v60_36] (fun _ w =>
 K v34_16 w) w) w) w) w) w) w) w) w))))))))))))))))) w) w) w) w)) w) w))))))))))))
theorem sh_189_eq (a0 : Value) (a1 : Value) (a2 : Value) (K : Value → World → Prop) (w : World) : sh_189 a0 a1 a2 K w = code Tryz.prog (fun _ => 0) 64 (Tryz.f189.body.getD .skip) (slotsAt [a0, a1, a2]) (retK Tryz.prog [.tmp 6] K) w := by kernel_rfl
theorem sh_189_ok {a0 a1 a2 : Value} {K : Value → World → Prop} {w : World} (h : sh_189 a0 a1 a2 K w) : callM Tryz.prog 189 #[a0, a1, a2] K w :=
  calls_of_code (fun _ => 0) (fn := Tryz.f189) (rs := [.tmp 6]) Tryz.func189 rfl rfl (by kernel_rfl) (Nat.le_of_ble_eq_true rfl) ((sh_189_eq a0 a1 a2 K w).mp h)

/-- (*cloak/base.Reader).close -/
def sh_190 (a0 : Value) (a1 : Value) (K : Value → World → Prop) (w : World) : Prop :=
 oM Tryz.prog (Go.Op.nilCheck (.tmp 0)) 0 [a0] (fun v8_1 w =>
 oM Tryz.prog (Go.Op.fieldAddr 180 (.tmp 0) 0) 0 [v8_1] (fun v9_2 w =>
 oM Tryz.prog (Go.Op.load 9 (.tmp 0)) 9 [v9_2] (fun v10_3 w =>
 callM Tryz.prog 212 #[v10_3, a1] (fun v12_4 w =>
 oM Tryz.prog (Go.Op.extract (.tmp 0) 0) 9 [v12_4] (fun v13_5 w =>
 oM Tryz.prog (Go.Op.extract (.tmp 0) 1) 4 [v12_4] (fun v14_6 w =>
 oM Tryz.prog (Go.Op.nilCheck (.tmp 0)) 0 [a0] (fun v17_7 w =>
 oM Tryz.prog (Go.Op.fieldAddr 180 (.tmp 0) 0) 0 [v17_7] (fun v18_8 w =>
 oM Tryz.prog (Go.Op.store 9 (.tmp 0) (.tmp 1)) 0 [v18_8, v13_5] (fun _ w =>
 oM Tryz.prog (Go.Op.unOp Go.UnOp.not 4 (.tmp 0)) 4 [v14_6] (fun v20_9 w =>
 condM v20_9
 (callM Tryz.prog 210 #[a0] (fun v22_10 w =>
 K (.tuple #[]) w) w)
 (K (.tuple #[]) w)) w) w) w) w) w) w) w) w) w) w
theorem sh_190_eq (a0 : Value) (a1 : Value) (K : Value → World → Prop) (w : World) : sh_190 a0 a1 K w = code Tryz.prog (fun _ => 0) 23 (Tryz.f190.body.getD .skip) (slotsAt [a0, a1]) (retK Tryz.prog [] K) w := by kernel_rfl
theorem sh_190_ok {a0 a1 : Value} {K : Value → World → Prop} {w : World} (h : sh_190 a0 a1 K w) : callM Tryz.prog 190 #[a0, a1] K w :=
  calls_of_code (fun _ => 0) (fn := Tryz.f190) (rs := []) Tryz.func190 rfl rfl (by kernel_rfl) (Nat.le_of_ble_eq_true rfl) ((sh_190_eq a0 a1 K w).mp h)

/-- (*strings.Builder).WriteString -/
def sh_191 (a0 : Value) (a1 : Value) (K : Value → World → Prop) (w : World) : Prop :=
 callM Tryz.prog 213 #[a0] (fun v7_1 w =>
 oM Tryz.prog (Go.Op.nilCheck (.tmp 0)) 0 [a0] (fun v10_2 w =>
 oM Tryz.prog (Go.Op.fieldAddr 199 (.tmp 0) 1) 0 [v10_2] (fun v11_3 w =>
 oM Tryz.prog (Go.Op.load 189 (.tmp 0)) 189 [v11_3] (fun v12_4 w =>
 oM Tryz.prog (Go.Op.call (Go.Call.mk (Go.Callee.builtin Go.Builtin.append) #[(.tmp 0), (.tmp 1)] #[189, 9])) 189 [v12_4, a1] (fun v14_5 w =>
 oM Tryz.prog (Go.Op.nilCheck (.tmp 0)) 0 [a0] (fun v15_6 w =>
 oM Tryz.prog (Go.Op.fieldAddr 199 (.tmp 0) 1) 0 [v15_6] (fun v16_7 w =>
 oM Tryz.prog (Go.Op.store 189 (.tmp 0) (.tmp 1)) 0 [v16_7, v14_5] (fun _ w =>
 oM Tryz.prog (Go.Op.call (Go.Call.mk (Go.Callee.builtin Go.Builtin.len) #[(.tmp 0)] #[9])) 3 [a1] (fun v18_8 w =>
 K (.tuple #[v18_8, .nilIface]) w) w) w) w) w) w) w) w) w) w
theorem sh_191_eq (a0 : Value) (a1 : Value) (K : Value → World → Prop) (w : World) : sh_191 a0 a1 K w = code Tryz.prog (fun _ => 0) 19 (Tryz.f191.body.getD .skip) (slotsAt [a0, a1]) (retK Tryz.prog [.tmp 4, .tmp 5] K) w := by kernel_rfl
theorem sh_191_ok {a0 a1 : Value} {K : Value → World → Prop} {w : World} (h : sh_191 a0 a1 K w) : callM Tryz.prog 191 #[a0, a1] K w :=
  calls_of_code (fun _ => 0) (fn := Tryz.f191) (rs := [.tmp 4, .tmp 5]) Tryz.func191 rfl rfl (by kernel_rfl) (Nat.le_of_ble_eq_true rfl) ((sh_191_eq a0 a1 K w).mp h)

/-- (*cloak/base.Reader).fail -/
def sh_210 (a0 : Value) (K : Value → World → Prop) (w : World) : Prop :=
 oM Tryz.prog (Go.Op.nilCheck (.tmp 0)) 0 [a0] (fun v4_1 w =>
 oM Tryz.prog (Go.Op.fieldAddr 180 (.tmp 0) 0) 0 [v4_1] (fun v5_2 w =>
 oM Tryz.prog (Go.Op.store 9 (.tmp 0) (.tmp 1)) 0 [v5_2, (.string ⟨#[]⟩)] (fun _ w =>
 oM Tryz.prog (Go.Op.nilCheck (.tmp 0)) 0 [a0] (fun v6_3 w =>
 oM Tryz.prog (Go.Op.fieldAddr 180 (.tmp 0) 1) 0 [v6_3] (fun v7_4 w =>
 oM Tryz.prog (Go.Op.store 4 (.tmp 0) (.tmp 1)) 0 [v7_4, (.bool true)] (fun _ w =>
 K (.tuple #[]) w) w) w) w) w) w) w
theorem sh_210_eq (a0 : Value) (K : Value → World → Prop) (w : World) : sh_210 a0 K w = code Tryz.prog (fun _ => 0) 8 (Tryz.f210.body.getD .skip) (slotsAt [a0]) (retK Tryz.prog [] K) w := by kernel_rfl
theorem sh_210_ok {a0 : Value} {K : Value → World → Prop} {w : World} (h : sh_210 a0 K w) : callM Tryz.prog 210 #[a0] K w :=
  calls_of_code (fun _ => 0) (fn := Tryz.f210) (rs := []) Tryz.func210 rfl rfl (by kernel_rfl) (Nat.le_of_ble_eq_true rfl) ((sh_210_eq a0 K w).mp h)

/-- (*strings.Builder).copyCheck -/
def sh_213 (a0 : Value) (K : Value → World → Prop) (w : World) : Prop :=
 oM Tryz.prog (Go.Op.nilCheck (.tmp 0)) 0 [a0] (fun v3_1 w =>
 oM Tryz.prog (Go.Op.fieldAddr 199 (.tmp 0) 0) 0 [v3_1] (fun v4_2 w =>
 oM Tryz.prog (Go.Op.load 197 (.tmp 0)) 197 [v4_2] (fun v5_3 w =>
 oM Tryz.prog (Go.Op.binOp Go.BinOp.eql 197 (.tmp 0) (.const (.pointer none)) 197) 4 [v5_3] (fun v6_4 w =>
 condM v6_4
 (oM Tryz.prog (Go.Op.convert 197 232 (.tmp 0)) 232 [a0] (fun v9_5 w =>
 extM Tryz.prog 229 #[v9_5] (fun v10_6 w =>
 oM Tryz.prog (Go.Op.convert 232 197 (.tmp 0)) 197 [v10_6] (fun v11_7 w =>
 oM Tryz.prog (Go.Op.nilCheck (.tmp 0)) 0 [a0] (fun v12_8 w =>
 oM Tryz.prog (Go.Op.fieldAddr 199 (.tmp 0) 0) 0 [v12_8] (fun v13_9 w =>
 oM Tryz.prog (Go.Op.store 197 (.tmp 0) (.tmp 1)) 0 [v13_9, v11_7] (fun _ w =>
 K (.tuple #[]) w) w) w) w) w) w) w)
 (oM Tryz.prog (Go.Op.nilCheck (.tmp 0)) 0 [a0] (fun v15_10 w =>
 oM Tryz.prog (Go.Op.fieldAddr 199 (.tmp 0) 0) 0 [v15_10] (fun v16_11 w =>
 oM Tryz.prog (Go.Op.load 197 (.tmp 0)) 197 [v16_11] (fun v17_12 w =>
 oM Tryz.prog (Go.Op.binOp Go.BinOp.neq 197 (.tmp 0) (.tmp 1) 197) 4 [v17_12, a0] (fun v19_13 w =>
 condM v19_13
 (False)
 (K (.tuple #[]) w)) w) w) w) w)) w) w) w) w
theorem sh_213_eq (a0 : Value) (K : Value → World → Prop) (w : World) : sh_213 a0 K w = code Tryz.prog (fun _ => 0) 20 (Tryz.f213.body.getD .skip) (slotsAt [a0]) (retK Tryz.prog [] K) w := by kernel_rfl
theorem sh_213_ok {a0 : Value} {K : Value → World → Prop} {w : World} (h : sh_213 a0 K w) : callM Tryz.prog 213 #[a0] K w :=
  calls_of_code (fun _ => 0) (fn := Tryz.f213) (rs := []) Tryz.func213 rfl rfl (by kernel_rfl) (Nat.le_of_ble_eq_true rfl) ((sh_213_eq a0 K w).mp h)

end Go.Proofs
/-
  DERIVED: THE SHELF's CONTRACTS AT THIS DUMP, IN PLAIN WORDS (tools/lay-plain.mjs out of 'TryzShelf.lean', which tools/lay-shelf.mjs wrote): THE SAME DECLARATIONS UNDER THE SAME NAMES: 'import', 'namespace', 'open', 'def', 'theorem' AND NOTHING ELSE: no command of the shelf's: FOR A HAND-IN. Each laying: the table of numbers ('.._ren') and one theorem, a field a fact of the dump's own or the kernel's comparison; each contract: ONE APPLICATION.
-/
namespace Go.Proofs
abbrev tabName : String := (YtpimhdkjpccihaaGreatDoor.Rows.ticketCodesRow.laid.map (fun x => x.1)).getD 2 default
open Go.Shelf
def Tryz.lays169_ren : Go.Shelf.Ren := ⟨fun | 169 => 192 | n => n, fun | 70 => 197 | 9 => 9 | 0 => 0 | 72 => 199 | 37 => 189 | 127 => 222 | 3 => 3 | 5 => 5 | n => n, fun | n => n⟩
theorem Tryz.lays169 : Go.Proofs.Lays.n169 Tryz.prog Tryz.lays169_ren := {
  mixed := by kernel_rfl
  f169 := Tryz.func192.trans (congrArg some (by kernel_rfl))
  t0 := Tryz.underlying0
  a0 := Tryz.isAgg0
  z0 := Tryz.sizeOf0
  v0 := Tryz.zeroValue0
  t3 := Tryz.underlying3
  a3 := Tryz.isAgg3
  z3 := Tryz.sizeOf3
  v3 := Tryz.zeroValue3
  t9 := Tryz.underlying9
  a9 := Tryz.isAgg9
  z9 := Tryz.sizeOf9
  v9 := Tryz.zeroValue9
  t37 := Tryz.underlying189
  a37 := Tryz.isAgg189
  z37 := Tryz.sizeOf189
  v37 := Tryz.zeroValue189
  t70 := Tryz.underlying197
  a70 := Tryz.isAgg197
  z70 := Tryz.sizeOf197
  v70 := Tryz.zeroValue197
  t72 := Tryz.underlying199
  a72 := Tryz.isAgg199
  z72 := Tryz.sizeOf199
  v72 := Tryz.zeroValue199
  t127 := Tryz.underlying222
  a127 := Tryz.isAgg222
  z127 := Tryz.sizeOf222
  v127 := Tryz.zeroValue222 }
theorem Tryz.Builder_Extra_169 : Builder.Extra Tryz.prog Tryz.lays169_ren := {
  sizeBuilder := by kernel_rfl
  liesBuilder := by kernel_rfl
  t5 := Tryz.underlying5
  a5 := Tryz.isAgg5
  z5 := Tryz.sizeOf5
  v5 := Tryz.zeroValue5
  infoByte := by kernel_rfl
  cellsByte := by kernel_rfl
  sizeByte := by kernel_rfl
  neB5 := by decide }
open Go.RowKit in
theorem Tryz.Builder_String_any (B b : Nat) (l : List UInt8) (w : World) (h : Lib.IsBuilder 199 5 B b (Lib.byteCells l) w) (hBw : B ≤ w.heap.size) :
    Calls Tryz.prog 192 #[.pointer (some ⟨b, 0, none⟩)] w fun e w' => e = .returned (.string ⟨l.toArray⟩) ∧ Below B w w' := Any.Builder_String_any Tryz.lays169 Tryz.Builder_Extra_169 B b l w h hBw
def Tryz.lays137_ren : Go.Shelf.Ren := ⟨fun | 137 => 209 | 217 => 225 | 266 => 234 | n => n, fun | 9 => 9 | 5 => 5 | 3 => 3 | n => n, fun | n => n⟩
theorem Tryz.lays137 : Go.Proofs.Lays.n137 Tryz.prog Tryz.lays137_ren := {
  mixed := by kernel_rfl
  f137 := Tryz.func209.trans (congrArg some (by kernel_rfl))
  f217 := Tryz.func225.trans (congrArg some (by kernel_rfl))
  f266 := Tryz.func234.trans (congrArg some (by kernel_rfl))
  t3 := Tryz.underlying3
  a3 := Tryz.isAgg3
  z3 := Tryz.sizeOf3
  v3 := Tryz.zeroValue3
  t5 := Tryz.underlying5
  a5 := Tryz.isAgg5
  z5 := Tryz.sizeOf5
  v5 := Tryz.zeroValue5
  t9 := Tryz.underlying9
  a9 := Tryz.isAgg9
  z9 := Tryz.sizeOf9
  v9 := Tryz.zeroValue9 }
open Go.RowKit in
theorem Tryz.strings_IndexByte (s : ByteArray) (c : Int) (w : World) :
    Calls Tryz.prog 209 #[.string s, .int .u8 c] w fun e w' => e = .returned (.int .i64 (Lib.indexByte s.data.toList c.toNat.toUInt8)) ∧ w' = w := Any.strings_IndexByte Tryz.lays137 s c w
def Tryz.lays103_ren : Go.Shelf.Ren := ⟨fun | 103 => 212 | 210 => 228 | 206 => 240 | n => n, fun | 9 => 9 | 4 => 4 | 24 => 220 | 3 => 3 | n => n, fun | n => n⟩
theorem Tryz.lays103 : Go.Proofs.Lays.n103 Tryz.prog Tryz.lays103_ren := {
  mixed := by kernel_rfl
  f103 := Tryz.func212.trans (congrArg some (by kernel_rfl))
  f206 := Tryz.func240.trans (congrArg some (by kernel_rfl))
  f210 := Tryz.func228.trans (congrArg some (by kernel_rfl))
  t3 := Tryz.underlying3
  a3 := Tryz.isAgg3
  z3 := Tryz.sizeOf3
  v3 := Tryz.zeroValue3
  t4 := Tryz.underlying4
  a4 := Tryz.isAgg4
  z4 := Tryz.sizeOf4
  v4 := Tryz.zeroValue4
  t9 := Tryz.underlying9
  a9 := Tryz.isAgg9
  z9 := Tryz.sizeOf9
  v9 := Tryz.zeroValue9
  t24 := Tryz.underlying220
  a24 := Tryz.isAgg220
  z24 := Tryz.sizeOf220
  v24 := Tryz.zeroValue220 }
open Go.RowKit in
theorem Tryz.strings_CutPrefix (s p : ByteArray) (w : World) :
    Calls Tryz.prog 212 #[.string s, .string p] w fun e w' => e = .returned (.tuple #[.string ⟨(Lib.trimPrefix s.data.toList p.data.toList).toArray⟩, .bool (Lib.hasPrefix s.data.toList p.data.toList)]) ∧ w' = w := Any.strings_CutPrefix Tryz.lays103 s p w
open Go.RowKit in
theorem Tryz.Builder_String_any_k (B b : Nat) (l : List UInt8) (w : World) (h : Lib.IsBuilderF 199 5 B b (Lib.byteCells l) w) (hBw : B ≤ w.heap.size) :
    Calls Tryz.prog 192 #[.pointer (some ⟨b, 0, none⟩)] w fun e w' => e = .returned (.string ⟨l.toArray⟩) ∧ (Lib.IsBuilderF 199 5 B b (Lib.byteCells l) w' ∧ Below B w w' ∧ Lib.OthersKept 5 (some b) w w') := Any.Builder_String_any_k Tryz.lays169 Tryz.Builder_Extra_169 B b l w h hBw
def Tryz.laysM171_ren : Go.Shelf.Ren := ⟨fun | 171 => 172 | 243 => 197 | 246 => 218 | 283 => 230 | 284 => 231 | 285 => 232 | 286 => 233 | 129 => 224 | 317 => 241 | 318 => 242 | 319 => 243 | 320 => 244 | 337 => 248 | 338 => 222 | n => n, fun | 3 => 3 | 9 => 9 | 2 => 2 | 4 => 4 | 171 => 234 | 0 => 0 | 53 => 123 | 37 => 189 | 5 => 5 | 173 => 236 | 212 => 247 | 51 => 205 | 20 => 20 | 213 => 248 | 46 => 176 | 232 => 261 | 233 => 238 | n => n, fun | 17 => 3 | 18 => 7 | 19 => 2 | n => n⟩
theorem Tryz.laysM171 : Go.Proofs.LaysM.n171 Tryz.prog Tryz.laysM171_ren := {
  mixed := by kernel_rfl
  f129 := Tryz.func224.trans (congrArg some (by kernel_rfl))
  f171 := Tryz.func172.trans (congrArg some (by kernel_rfl))
  f243 := Tryz.func197.trans (congrArg some (by kernel_rfl))
  f246 := Tryz.func218.trans (congrArg some (by kernel_rfl))
  f283 := Tryz.func230.trans (congrArg some (by kernel_rfl))
  f284 := Tryz.func231.trans (congrArg some (by kernel_rfl))
  f285 := Tryz.func232.trans (congrArg some (by kernel_rfl))
  f286 := Tryz.func233.trans (congrArg some (by kernel_rfl))
  f317 := Tryz.func241.trans (congrArg some (by kernel_rfl))
  f318 := Tryz.func242.trans (congrArg some (by kernel_rfl))
  f319 := Tryz.func243.trans (congrArg some (by kernel_rfl))
  f320 := Tryz.func244.trans (congrArg some (by kernel_rfl))
  f337 := Tryz.func248.trans (congrArg some (by kernel_rfl))
  f338 := Tryz.func222.trans (congrArg some (by kernel_rfl))
  t0 := Tryz.underlying0
  a0 := Tryz.isAgg0
  z0 := Tryz.sizeOf0
  v0 := Tryz.zeroValue0
  t2 := Tryz.underlying2
  a2 := Tryz.isAgg2
  z2 := Tryz.sizeOf2
  v2 := Tryz.zeroValue2
  t3 := Tryz.underlying3
  a3 := Tryz.isAgg3
  z3 := Tryz.sizeOf3
  v3 := Tryz.zeroValue3
  t4 := Tryz.underlying4
  a4 := Tryz.isAgg4
  z4 := Tryz.sizeOf4
  v4 := Tryz.zeroValue4
  t5 := Tryz.underlying5
  a5 := Tryz.isAgg5
  z5 := Tryz.sizeOf5
  v5 := Tryz.zeroValue5
  t9 := Tryz.underlying9
  a9 := Tryz.isAgg9
  z9 := Tryz.sizeOf9
  v9 := Tryz.zeroValue9
  t20 := Tryz.underlying20
  a20 := Tryz.isAgg20
  z20 := Tryz.sizeOf20
  v20 := Tryz.zeroValue20
  t37 := Tryz.underlying189
  a37 := Tryz.isAgg189
  z37 := Tryz.sizeOf189
  v37 := Tryz.zeroValue189
  t46 := Tryz.underlying176
  a46 := Tryz.isAgg176
  z46 := Tryz.sizeOf176
  v46 := Tryz.zeroValue176
  t51 := Tryz.underlying205
  a51 := Tryz.isAgg205
  z51 := Tryz.sizeOf205
  v51 := Tryz.zeroValue205
  t53 := Tryz.underlying123
  a53 := Tryz.isAgg123
  z53 := Tryz.sizeOf123
  v53 := Tryz.zeroValue123
  t171 := Tryz.underlying234
  a171 := Tryz.isAgg234
  z171 := Tryz.sizeOf234
  v171 := Tryz.zeroValue234
  t173 := Tryz.underlying236
  a173 := Tryz.isAgg236
  z173 := Tryz.sizeOf236
  v173 := Tryz.zeroValue236
  t212 := Tryz.underlying247
  a212 := Tryz.isAgg247
  z212 := Tryz.sizeOf247
  v212 := Tryz.zeroValue247
  t213 := Tryz.underlying248
  a213 := Tryz.isAgg248
  z213 := Tryz.sizeOf248
  t232 := Tryz.underlying261
  a232 := Tryz.isAgg261
  z232 := Tryz.sizeOf261
  v232 := Tryz.zeroValue261
  t233 := Tryz.underlying238
  a233 := Tryz.isAgg238
  z233 := Tryz.sizeOf238
  v233 := Tryz.zeroValue238
  g17 := by kernel_rfl
  g18 := by kernel_rfl
  g19 := by kernel_rfl
  i0 := by kernel_rfl
  i2 := by kernel_rfl
  i3 := by kernel_rfl
  i4 := by kernel_rfl
  i5 := by kernel_rfl
  i9 := by kernel_rfl
  i20 := by kernel_rfl
  i37 := by kernel_rfl
  i46 := by kernel_rfl
  i51 := by kernel_rfl
  i53 := by kernel_rfl
  i171 := by kernel_rfl
  i173 := by kernel_rfl
  i212 := by kernel_rfl
  i232 := by kernel_rfl
  i233 := by kernel_rfl
  m17 := by kernel_rfl
  m18 := by kernel_rfl
  m19 := by kernel_rfl }
open Go.RowKit Go.Sort Go.Lib in
theorem Tryz.strconv_Itoa (n : Int) (h0 : -9223372036854775808 ≤ n) (h1 : n ≤ 9223372036854775807) (w : World) (htab : Lib.TabIs Tryz.prog w tabName .u64 Lib.pow10Tab) :
    Calls Tryz.prog 172 #[.int .i64 n] w fun e w' => e = .returned (.string ⟨(Lib.itoa n).toArray⟩) ∧ ∃ k os, w' = grow (w.drewN k) os := Any.strconv_Itoa Tryz.laysM171 n h0 h1 w htab
def Tryz.laysC172_ren : Go.Shelf.Ren := ⟨fun | 172 => 211 | 244 => 226 | 245 => 227 | 247 => 235 | 279 => 236 | 280 => 237 | 281 => 238 | 282 => 239 | 287 => 245 | 316 => 246 | 171 => 172 | 205 => 247 | 321 => 249 | 322 => 250 | 243 => 197 | 246 => 218 | 283 => 230 | 284 => 231 | 285 => 232 | 286 => 233 | 129 => 224 | 317 => 241 | 318 => 242 | 319 => 243 | 320 => 244 | 337 => 248 | 338 => 222 | n => n, fun | 9 => 9 | 3 => 3 | 75 => 201 | 76 => 202 | 4 => 4 | 5 => 5 | 167 => 239 | 37 => 189 | 0 => 0 | 85 => 240 | 2 => 2 | 168 => 242 | 53 => 123 | 175 => 250 | 46 => 176 | 210 => 253 | 127 => 222 | 145 => 260 | 143 => 258 | 21 => 21 | 171 => 234 | 173 => 236 | 212 => 247 | 51 => 205 | 20 => 20 | 213 => 248 | 232 => 261 | 233 => 238 | 80 => 204 | n => n, fun | 15 => 5 | 16 => 6 | 17 => 3 | 18 => 7 | 19 => 2 | n => n⟩
theorem Tryz.laysC172 : Go.Proofs.LaysC.n172 Tryz.prog Tryz.laysC172_ren := {
  mixed := by kernel_rfl
  f129 := Tryz.func224.trans (congrArg some (by kernel_rfl))
  f171 := Tryz.func172.trans (congrArg some (by kernel_rfl))
  f172 := Tryz.func211.trans (congrArg some (by kernel_rfl))
  f205 := Tryz.func247.trans (congrArg some (by kernel_rfl))
  f243 := Tryz.func197.trans (congrArg some (by kernel_rfl))
  f244 := Tryz.func226.trans (congrArg some (by kernel_rfl))
  f245 := Tryz.func227.trans (congrArg some (by kernel_rfl))
  f246 := Tryz.func218.trans (congrArg some (by kernel_rfl))
  f247 := Tryz.func235.trans (congrArg some (by kernel_rfl))
  f279 := Tryz.func236.trans (congrArg some (by kernel_rfl))
  f280 := Tryz.func237.trans (congrArg some (by kernel_rfl))
  f281 := Tryz.func238.trans (congrArg some (by kernel_rfl))
  f282 := Tryz.func239.trans (congrArg some (by kernel_rfl))
  f283 := Tryz.func230.trans (congrArg some (by kernel_rfl))
  f284 := Tryz.func231.trans (congrArg some (by kernel_rfl))
  f285 := Tryz.func232.trans (congrArg some (by kernel_rfl))
  f286 := Tryz.func233.trans (congrArg some (by kernel_rfl))
  f287 := Tryz.func245.trans (congrArg some (by kernel_rfl))
  f316 := Tryz.func246.trans (congrArg some (by kernel_rfl))
  f317 := Tryz.func241.trans (congrArg some (by kernel_rfl))
  f318 := Tryz.func242.trans (congrArg some (by kernel_rfl))
  f319 := Tryz.func243.trans (congrArg some (by kernel_rfl))
  f320 := Tryz.func244.trans (congrArg some (by kernel_rfl))
  f321 := Tryz.func249.trans (congrArg some (by kernel_rfl))
  f322 := Tryz.func250.trans (congrArg some (by kernel_rfl))
  f337 := Tryz.func248.trans (congrArg some (by kernel_rfl))
  f338 := Tryz.func222.trans (congrArg some (by kernel_rfl))
  t0 := Tryz.underlying0
  a0 := Tryz.isAgg0
  z0 := Tryz.sizeOf0
  v0 := Tryz.zeroValue0
  t2 := Tryz.underlying2
  a2 := Tryz.isAgg2
  z2 := Tryz.sizeOf2
  v2 := Tryz.zeroValue2
  t3 := Tryz.underlying3
  a3 := Tryz.isAgg3
  z3 := Tryz.sizeOf3
  v3 := Tryz.zeroValue3
  t4 := Tryz.underlying4
  a4 := Tryz.isAgg4
  z4 := Tryz.sizeOf4
  v4 := Tryz.zeroValue4
  t5 := Tryz.underlying5
  a5 := Tryz.isAgg5
  z5 := Tryz.sizeOf5
  v5 := Tryz.zeroValue5
  t9 := Tryz.underlying9
  a9 := Tryz.isAgg9
  z9 := Tryz.sizeOf9
  v9 := Tryz.zeroValue9
  t20 := Tryz.underlying20
  a20 := Tryz.isAgg20
  z20 := Tryz.sizeOf20
  v20 := Tryz.zeroValue20
  t21 := Tryz.underlying21
  a21 := Tryz.isAgg21
  z21 := Tryz.sizeOf21
  v21 := Tryz.zeroValue21
  t37 := Tryz.underlying189
  a37 := Tryz.isAgg189
  z37 := Tryz.sizeOf189
  v37 := Tryz.zeroValue189
  t46 := Tryz.underlying176
  a46 := Tryz.isAgg176
  z46 := Tryz.sizeOf176
  v46 := Tryz.zeroValue176
  t51 := Tryz.underlying205
  a51 := Tryz.isAgg205
  z51 := Tryz.sizeOf205
  v51 := Tryz.zeroValue205
  t53 := Tryz.underlying123
  a53 := Tryz.isAgg123
  z53 := Tryz.sizeOf123
  v53 := Tryz.zeroValue123
  t75 := Tryz.underlying201
  a75 := Tryz.isAgg201
  z75 := Tryz.sizeOf201
  v75 := Tryz.zeroValue201
  t76 := Tryz.underlying202
  a76 := Tryz.isAgg202
  z76 := Tryz.sizeOf202
  v76 := Tryz.zeroValue202
  t85 := Tryz.underlying240
  a85 := Tryz.isAgg240
  z85 := Tryz.sizeOf240
  v85 := Tryz.zeroValue240
  t127 := Tryz.underlying222
  a127 := Tryz.isAgg222
  z127 := Tryz.sizeOf222
  v127 := Tryz.zeroValue222
  t143 := Tryz.underlying258
  a143 := Tryz.isAgg258
  z143 := Tryz.sizeOf258
  v143 := Tryz.zeroValue258
  t145 := Tryz.underlying260
  a145 := Tryz.isAgg260
  z145 := Tryz.sizeOf260
  v145 := Tryz.zeroValue260
  t167 := Tryz.underlying239
  a167 := Tryz.isAgg239
  z167 := Tryz.sizeOf239
  v167 := Tryz.zeroValue239
  t168 := Tryz.underlying242
  a168 := Tryz.isAgg242
  z168 := Tryz.sizeOf242
  v168 := Tryz.zeroValue242
  t171 := Tryz.underlying234
  a171 := Tryz.isAgg234
  z171 := Tryz.sizeOf234
  v171 := Tryz.zeroValue234
  t173 := Tryz.underlying236
  a173 := Tryz.isAgg236
  z173 := Tryz.sizeOf236
  v173 := Tryz.zeroValue236
  t175 := Tryz.underlying250
  a175 := Tryz.isAgg250
  z175 := Tryz.sizeOf250
  v175 := Tryz.zeroValue250
  t210 := Tryz.underlying253
  a210 := Tryz.isAgg253
  z210 := Tryz.sizeOf253
  v210 := Tryz.zeroValue253
  t212 := Tryz.underlying247
  a212 := Tryz.isAgg247
  z212 := Tryz.sizeOf247
  v212 := Tryz.zeroValue247
  t213 := Tryz.underlying248
  a213 := Tryz.isAgg248
  z213 := Tryz.sizeOf248
  t232 := Tryz.underlying261
  a232 := Tryz.isAgg261
  z232 := Tryz.sizeOf261
  v232 := Tryz.zeroValue261
  t233 := Tryz.underlying238
  a233 := Tryz.isAgg238
  z233 := Tryz.sizeOf238
  v233 := Tryz.zeroValue238
  g15 := by kernel_rfl
  g16 := by kernel_rfl
  g17 := by kernel_rfl
  g18 := by kernel_rfl
  g19 := by kernel_rfl
  t80 := Tryz.underlying204
  a80 := Tryz.isAgg204
  z80 := Tryz.sizeOf204
  v80 := Tryz.zeroValue204
  i0 := by kernel_rfl
  i2 := by kernel_rfl
  i3 := by kernel_rfl
  i4 := by kernel_rfl
  i5 := by kernel_rfl
  i9 := by kernel_rfl
  i20 := by kernel_rfl
  i21 := by kernel_rfl
  i37 := by kernel_rfl
  i46 := by kernel_rfl
  i51 := by kernel_rfl
  i53 := by kernel_rfl
  i75 := by kernel_rfl
  i76 := by kernel_rfl
  i80 := by kernel_rfl
  i85 := by kernel_rfl
  i127 := by kernel_rfl
  i143 := by kernel_rfl
  i145 := by kernel_rfl
  i167 := by kernel_rfl
  i168 := by kernel_rfl
  i171 := by kernel_rfl
  i173 := by kernel_rfl
  i175 := by kernel_rfl
  i210 := by kernel_rfl
  i212 := by kernel_rfl
  i232 := by kernel_rfl
  i233 := by kernel_rfl
  m15 := by kernel_rfl
  m16 := by kernel_rfl
  m17 := by kernel_rfl
  m18 := by kernel_rfl
  m19 := by kernel_rfl
  c0 := by kernel_rfl
  c2 := by kernel_rfl
  c3 := by kernel_rfl
  c4 := by kernel_rfl
  c5 := by kernel_rfl
  c9 := by kernel_rfl
  c20 := by kernel_rfl
  c21 := by kernel_rfl
  c37 := by kernel_rfl
  c46 := by kernel_rfl
  c51 := by kernel_rfl
  c53 := by kernel_rfl
  c75 := by kernel_rfl
  c76 := by kernel_rfl
  c80 := by kernel_rfl
  c85 := by kernel_rfl
  c127 := by kernel_rfl
  c143 := by kernel_rfl
  c145 := by kernel_rfl
  c167 := by kernel_rfl
  c168 := by kernel_rfl
  c171 := by kernel_rfl
  c173 := by kernel_rfl
  c175 := by kernel_rfl
  c210 := by kernel_rfl
  c212 := by kernel_rfl
  c213 := by kernel_rfl
  c232 := by kernel_rfl
  c233 := by kernel_rfl }
open Go.RowKit in
theorem Tryz.strconv_Atoi_ok (s : ByteArray) (hmax : s.size ≤ 9223372036854775806) (v : Int) (h : Lib.atoiAll s.data.toList = .ok v) (w : World) :
    Calls Tryz.prog 211 #[.string s] w fun e w' => e = .returned (.tuple #[.int .i64 v, .nilIface]) ∧ (w' = w ∨ ∃ t, w' = Lib.bytesWorld w 5 t) := Any.strconv_Atoi_ok Tryz.laysC172 s hmax v h w
open Go.RowKit in
theorem Tryz.strconv_Atoi_syntax (s : ByteArray) (hlim : s.size ≤ 281474976710656) (h : Lib.atoiAll s.data.toList = .«syntax») (ev : Value) (w : World) (hv : w.cell? ⟨5, 0, none⟩ = some ev) (hev : ev = .nilIface ∨ ∃ te pe, ev = .iface te pe) :
    Calls Tryz.prog 211 #[.string s] w fun e w' => ∃ N, e = .returned (.tuple #[.int .i64 (0), .iface 242 (.pointer (some ⟨N, 0, none⟩))]) ∧ w.heap.size ≤ N ∧ w'.heap[N]? = some (.cells #[.string ⟨#[65, 116, 111, 105]⟩, .string s, ev] 253 (0, 0)) ∧ Below w.heap.size w w' := Any.strconv_Atoi_syntax Tryz.laysC172 s hlim h ev w hv hev
open Go.RowKit in
theorem Tryz.strconv_Atoi_range (s : ByteArray) (hlim : s.size ≤ 281474976710656) (h : Lib.atoiAll s.data.toList = .range) (ev : Value) (w : World) (hv : w.cell? ⟨6, 0, none⟩ = some ev) (hev : ev = .nilIface ∨ ∃ te pe, ev = .iface te pe) :
    Calls Tryz.prog 211 #[.string s] w fun e w' => ∃ N, e = .returned (.tuple #[.int .i64 (Lib.atoiSat s.data.toList), .iface 242 (.pointer (some ⟨N, 0, none⟩))]) ∧ w.heap.size ≤ N ∧ w'.heap[N]? = some (.cells #[.string ⟨#[65, 116, 111, 105]⟩, .string s, ev] 253 (0, 0)) ∧ Below w.heap.size w w' := Any.strconv_Atoi_range Tryz.laysC172 s hlim h ev w hv hev
end Go.Proofs
/- The document's encodings and its reader, over lists of bytes: plain functions, and that reading gives back what was written. -/
namespace CodeSpec
open Go.Lib
abbrev Bytes := List UInt8
def InR (n : Int) : Prop := -9223372036854775808 ≤ n ∧ n ≤ 9223372036854775807
def encInt (n : Int) : Bytes := itoa n ++ [59]
def encNum (n : Int) : Bytes := if n < 0 then [] else encInt n
def encText (s : Bytes) : Bytes := itoa s.length ++ 58 :: (s ++ [44])
def encList (l : List Bytes) : Bytes := itoa l.length ++ 91 :: (l.flatten ++ [93])
def encNums (l : List Int) : Bytes := encList (l.map encInt)
def encTexts (l : List Bytes) : Bytes := encList (l.map encText)
/-- the int whose decimal form a string is -/
def canon (l : Bytes) : Option Int := match atoiAll l with
  | .ok v => if itoa v = l then some v else none
  | _ => none
structure Rd where
  rest : Bytes
  bad : Bool
def failed : Rd := ⟨[], true⟩
def rdNumber (r : Rd) (e : UInt8) (least : Int) : Int × Rd :=
  if ((r.rest.take 21).takeWhile (· != e)).length < (r.rest.take 21).length then
    match canon ((r.rest.take 21).takeWhile (· != e)) with
    | some n => if n < least then (0, failed) else (n, ⟨r.rest.drop (((r.rest.take 21).takeWhile (· != e)).length + 1), r.bad⟩)
    | none => (0, failed)
  else (0, failed)
def rdClose (r : Rd) (c : UInt8) : Rd := match r.rest with
  | [] => failed
  | x :: t => if x = c then ⟨t, r.bad⟩ else failed
def rdNum (r : Rd) : Int × Rd := rdNumber r 59 0
def rdInt (r : Rd) : Int × Rd := rdNumber r 59 (-9223372036854775808)
def rdText (r : Rd) : Bytes × Rd :=
  if ((rdNumber r 58 0).2.rest.length : Int) < (rdNumber r 58 0).1 then ([], failed)
  else if (rdClose ⟨(rdNumber r 58 0).2.rest.drop (rdNumber r 58 0).1.toNat, (rdNumber r 58 0).2.bad⟩ 44).bad then ([], rdClose ⟨(rdNumber r 58 0).2.rest.drop (rdNumber r 58 0).1.toNat, (rdNumber r 58 0).2.bad⟩ 44)
  else ((rdNumber r 58 0).2.rest.take (rdNumber r 58 0).1.toNat, rdClose ⟨(rdNumber r 58 0).2.rest.drop (rdNumber r 58 0).1.toNat, (rdNumber r 58 0).2.bad⟩ 44)
def itemsGo {α : Type} (one : Rd → α × Rd) : Nat → Rd → List α × Rd
  | 0, r => ([], r)
  | n + 1, r => if r.bad then ([], r) else ((one r).1 :: (itemsGo one n (one r).2).1, (itemsGo one n (one r).2).2)
def rdItems {α : Type} (one : Rd → α × Rd) (r : Rd) : List α × Rd :=
  if (rdClose (itemsGo one (rdNumber r 91 0).1.toNat (rdNumber r 91 0).2).2 93).bad then ([], rdClose (itemsGo one (rdNumber r 91 0).1.toNat (rdNumber r 91 0).2).2 93)
  else ((itemsGo one (rdNumber r 91 0).1.toNat (rdNumber r 91 0).2).1, rdClose (itemsGo one (rdNumber r 91 0).1.toNat (rdNumber r 91 0).2).2 93)
def rdNums : Rd → List Int × Rd := rdItems rdInt
def rdTexts : Rd → List Bytes × Rd := rdItems rdText

/-! ### numerals -/
theorem digit_toNat (d : Nat) (h : d < 10) : (UInt8.ofNat (48 + d)).toNat = 48 + d := by
  rw [UInt8.toNat_ofNat']; omega
theorem decDigits_digit (u : Nat) : ∀ c ∈ decDigits u, 48 ≤ c.toNat ∧ c.toNat ≤ 57 := by
  induction u using Nat.strongRecOn with
  | ind u ih =>
    rw [decDigits]
    split
    · rename_i h
      intro c hc
      simp only [List.mem_singleton] at hc
      subst hc
      rw [digit_toNat u h]; omega
    · rename_i h
      intro c hc
      rcases List.mem_append.1 hc with hc | hc
      · exact ih (u / 10) (by omega) c hc
      · simp only [List.mem_singleton] at hc
        subst hc
        rw [digit_toNat _ (by omega)]; omega
theorem decDigits_ne (u : Nat) : decDigits u ≠ [] := by
  rw [decDigits]
  split <;> simp
theorem decDigits_len (u : Nat) (k : Nat) (hk : 1 ≤ k) (h : u < 10 ^ k) : (decDigits u).length ≤ k := by
  induction k generalizing u with
  | zero => omega
  | succ k ih =>
    rw [decDigits]
    split
    · simp
    · rename_i h10
      have hk1 : 1 ≤ k := by
        rcases Nat.eq_zero_or_pos k with rfl | h0
        · simp at h; omega
        · exact h0
      have := ih (u / 10) hk1 (by rw [Nat.pow_succ] at h; omega)
      simp only [List.length_append, List.length_singleton]
      omega
theorem parse_append (l m : Bytes) (acc : Nat) : parseUint10 acc (l ++ m) = match parseUint10 acc l with | .ok u => parseUint10 u m | .range => .range | .syntax => .syntax := by
  induction l generalizing acc with
  | nil => rfl
  | cons c l ih =>
    simp only [List.cons_append, parseUint10]
    by_cases h1 : 48 ≤ c.toNat ∧ c.toNat ≤ 57
    · by_cases h2 : 1844674407370955162 ≤ acc
      · simp only [if_pos h1, if_pos h2]
      · by_cases h3 : 18446744073709551616 ≤ acc * 10 + (c.toNat - 48)
        · simp only [if_pos h1, if_neg h2, if_pos h3]
        · simp only [if_pos h1, if_neg h2, if_neg h3]
          exact ih _
    · simp only [if_neg h1]
theorem parse_dec (u : Nat) (h : u < 18446744073709551616) : parseUint10 0 (decDigits u) = .ok u := by
  induction u using Nat.strongRecOn with
  | ind u ih =>
    rw [decDigits]
    split
    · rename_i h10
      simp only [parseUint10, digit_toNat u h10]
      rw [if_pos (by omega), if_neg (by omega), if_neg (by omega)]
      congr 1; omega
    · rename_i h10
      rw [parse_append, ih (u / 10) (by omega) (by omega)]
      simp only [parseUint10, digit_toNat (u % 10) (by omega)]
      rw [if_pos (by omega), if_neg (by omega), if_neg (by omega)]
      congr 1; omega
theorem atoi_itoa (n : Int) (h : InR n) : atoiAll (itoa n) = .ok n := by
  obtain ⟨h1, h2⟩ := h
  unfold itoa
  split
  · rename_i hn
    rw [atoiAll_minus]
    have hp : parseMag (decDigits n.natAbs) = .ok n.natAbs := by
      unfold parseMag
      rw [if_neg (decDigits_ne _), parse_dec _ (by omega)]
    rw [hp]
    simp only [signed]
    rw [if_neg (by omega)]
    congr 1; omega
  · rename_i hn
    obtain ⟨c, r, hc⟩ : ∃ c r, decDigits n.toNat = c :: r := by
      cases hd : decDigits n.toNat with
      | nil => exact absurd hd (decDigits_ne _)
      | cons c r => exact ⟨c, r, rfl⟩
    have hcd := decDigits_digit n.toNat c (by rw [hc]; simp)
    rw [hc, atoiAll_plain c r (by omega) (by omega), ← hc]
    have hp : parseMag (decDigits n.toNat) = .ok n.toNat := by
      unfold parseMag
      rw [if_neg (decDigits_ne _), parse_dec _ (by omega)]
    rw [hp]
    simp only [signless]
    rw [if_neg (by omega)]
    congr 1; omega
theorem canon_itoa (n : Int) (h : InR n) : canon (itoa n) = some n := by
  unfold canon
  rw [atoi_itoa n h]
  simp
theorem canon_some (l : Bytes) (n : Int) (h : canon l = some n) : l = itoa n ∧ InR n := by
  unfold canon at h
  split at h
  · rename_i v hv
    split at h
    · rename_i he
      cases h
      exact ⟨he.symm, atoiAll_bounds hv⟩
    · cases h
  · cases h
theorem canon_iff (l : Bytes) (n : Int) : canon l = some n ↔ l = itoa n ∧ InR n :=
  ⟨canon_some l n, fun ⟨h1, h2⟩ => by rw [h1]; exact canon_itoa n h2⟩
theorem itoa_len (n : Int) (h : InR n) : (itoa n).length ≤ 20 := by
  obtain ⟨h1, h2⟩ := h
  unfold itoa
  split
  · have := decDigits_len n.natAbs 19 (by omega) (by omega)
    simp; omega
  · have := decDigits_len n.toNat 19 (by omega) (by omega)
    omega
theorem itoa_byte (n : Int) : ∀ c ∈ itoa n, c.toNat = 45 ∨ (48 ≤ c.toNat ∧ c.toNat ≤ 57) := by
  intro c hc
  unfold itoa at hc
  split at hc
  · rcases List.mem_cons.1 hc with rfl | hc
    · left; rfl
    · right; exact decDigits_digit _ c hc
  · right; exact decDigits_digit _ c hc
theorem itoa_ne (n : Int) : itoa n ≠ [] := by
  unfold itoa
  split
  · simp
  · exact decDigits_ne _
/-! ### reading what was written -/
theorem takeWhile_num (n : Int) (hn : InR n) (e : UInt8) (he : 58 ≤ e.toNat) (t : Bytes) : ((itoa n ++ e :: t).take 21).takeWhile (· != e) = itoa n ∧ (itoa n).length < ((itoa n ++ e :: t).take 21).length := by
  have hl := itoa_len n hn
  have h1 : (itoa n ++ e :: t).take 21 = itoa n ++ (e :: t).take (21 - (itoa n).length) := by
    rw [List.take_append, List.take_of_length_le (by omega)]
  obtain ⟨k, hk⟩ : ∃ k, 21 - (itoa n).length = k + 1 := ⟨20 - (itoa n).length, by omega⟩
  rw [hk, List.take_succ_cons] at h1
  rw [h1]
  refine ⟨?_, by simp⟩
  rw [List.takeWhile_append_of_pos]
  · simp
  · intro c hc
    have := itoa_byte n c hc
    simp only [bne_iff_ne, ne_eq]
    rintro rfl
    omega
theorem rdNumber_enc (n : Int) (hn : InR n) (e : UInt8) (he : 58 ≤ e.toNat) (least : Int) (hl : least ≤ n) (t : Bytes) (b : Bool) : rdNumber ⟨itoa n ++ e :: t, b⟩ e least = (n, ⟨t, b⟩) := by
  obtain ⟨h1, h2⟩ := takeWhile_num n hn e he t
  unfold rdNumber
  simp only [h1]
  rw [if_pos h2, canon_itoa n hn]
  simp only
  rw [if_neg (by omega)]
  have : (itoa n ++ e :: t).drop ((itoa n).length + 1) = t := by
    rw [← List.drop_drop, List.drop_left]; rfl
  rw [this]
/-- what a number that was read consisted of -/
theorem rdNumber_some (r : Rd) (e : UInt8) (least : Int) : rdNumber r e least = (0, failed) ∨ ∃ n t, rdNumber r e least = (n, ⟨t, r.bad⟩) ∧ r.rest = itoa n ++ e :: t ∧ InR n ∧ least ≤ n := by
  unfold rdNumber
  split
  · rename_i hlt
    split
    · rename_i n hc
      split
      · exact .inl rfl
      · rename_i hle
        obtain ⟨h1, h2⟩ := canon_some _ _ hc
        refine .inr ⟨n, _, rfl, ?_, h2, by omega⟩
        generalize hp : (r.rest.take 21).takeWhile (· != e) = p at *
        have hpre : r.rest.take 21 = p ++ (r.rest.take 21).drop p.length := by
          have := List.takeWhile_append_dropWhile (p := (· != e)) (l := r.rest.take 21)
          rw [hp] at this
          conv => lhs; rw [← this]
          congr 1
          conv => rhs; rw [← this]
          rw [List.drop_left]
        have hdw : (r.rest.take 21).dropWhile (· != e) = (r.rest.take 21).drop p.length := by
          have := List.takeWhile_append_dropWhile (p := (· != e)) (l := r.rest.take 21)
          rw [hp] at this
          conv => rhs; rw [← this]
          rw [List.drop_left]
        have hpl : p.length < r.rest.length := by
          have := List.length_take_le 21 r.rest
          rw [List.length_take] at hlt
          omega
        have hhead : ∃ t', (r.rest.take 21).drop p.length = e :: t' := by
          cases hd : (r.rest.take 21).drop p.length with
          | nil => rw [List.drop_eq_nil_iff] at hd; omega
          | cons x t' =>
            rw [hd] at hdw
            have := List.head_dropWhile_not (· != e) (l := r.rest.take 21) (by rw [hdw]; simp)
            simp only [hdw, List.head_cons] at this
            have hx : x = e := by simpa using this
            exact ⟨t', by rw [hx]⟩
        obtain ⟨t', ht'⟩ := hhead
        have hget : r.rest[p.length]? = some e := by
          have h3 : (r.rest.take 21)[p.length]? = some e := by
            have := congrArg (fun l => l[0]?) ht'
            simpa using this
          rw [List.getElem?_take] at h3
          split at h3
          · exact h3
          · cases h3
        have htk : r.rest.take p.length = p := by
          have h4 := congrArg (List.take p.length) hpre
          rw [List.take_left, List.take_take, Nat.min_eq_left (by rw [List.length_take] at hlt; omega)] at h4
          exact h4
        have hsplit : r.rest = r.rest.take p.length ++ r.rest.drop p.length := (List.take_append_drop _ _).symm
        have hdrop : r.rest.drop p.length = e :: r.rest.drop (p.length + 1) := by
          rw [List.drop_eq_getElem_cons hpl]
          congr 1
          rw [List.getElem?_eq_getElem hpl] at hget
          simpa using hget
        rw [htk, hdrop] at hsplit
        rw [← h1]
        exact hsplit
    · exact .inl rfl
  · exact .inl rfl
theorem failed_rest : failed.rest = [] := rfl
theorem failed_bad : failed.bad = true := rfl
/-- a failed reader has nothing left -/
def Rd.ok (r : Rd) : Prop := r.bad = true → r.rest = []
theorem Rd.ok_failed : failed.ok := fun _ => rfl
theorem Rd.ok_good {t : Bytes} : Rd.ok ⟨t, false⟩ := fun h => by cases h
theorem Rd.eq_failed {r : Rd} (h : r.ok) (hb : r.bad = true) : r = failed := by
  cases r with
  | mk rest bad =>
    have := h hb
    simp only at hb this
    subst hb; subst this; rfl
theorem rdNumber_failed (e : UInt8) (least : Int) : rdNumber failed e least = (0, failed) := by
  rcases rdNumber_some failed e least with h | ⟨n, t, _, h, _⟩
  · exact h
  · simp [failed] at h
theorem rdNumber_ok (r : Rd) (h : r.ok) (e : UInt8) (least : Int) : (rdNumber r e least).2.ok := by
  rcases rdNumber_some r e least with h1 | ⟨n, t, h1, h2, _⟩
  · rw [h1]; exact Rd.ok_failed
  · rw [h1]
    intro hb
    have := h hb
    rw [this] at h2
    simp at h2
theorem rdClose_some (r : Rd) (c : UInt8) : rdClose r c = failed ∨ ∃ t, r.rest = c :: t ∧ rdClose r c = ⟨t, r.bad⟩ := by
  unfold rdClose
  split
  · exact .inl rfl
  · rename_i x t hx
    split
    · rename_i hc
      subst hc
      exact .inr ⟨t, hx, rfl⟩
    · exact .inl rfl
theorem rdClose_cons (c : UInt8) (t : Bytes) (b : Bool) : rdClose ⟨c :: t, b⟩ c = ⟨t, b⟩ := by simp [rdClose]
theorem rdClose_failed (c : UInt8) : rdClose failed c = failed := rfl
theorem rdText_failed : rdText failed = ([], failed) := by
  unfold rdText
  rw [rdNumber_failed]
  simp [failed, rdClose]
theorem rdText_some (r : Rd) (hr : r.ok) : rdText r = ([], failed) ∨ ∃ s t, rdText r = (s, ⟨t, false⟩) ∧ r = ⟨encText s ++ t, false⟩ ∧ (s.length : Int) ≤ 9223372036854775807 := by
  rcases hb : r.bad with _ | _
  · rcases rdNumber_some r 58 0 with h1 | ⟨n, t, h1, h2, h3, h4⟩
    · left
      unfold rdText
      rw [h1]
      simp [failed, rdClose]
    · rw [hb] at h1
      unfold rdText
      rw [h1]
      dsimp only
      split
      · left; rfl
      · rename_i hlt
        rcases rdClose_some ⟨t.drop n.toNat, false⟩ 44 with h5 | ⟨t', h5, h6⟩
        · left; rw [h5]; rfl
        · right
          rw [h6]
          simp only at h5
          refine ⟨t.take n.toNat, t', rfl, ?_, ?_⟩
          · have hl : (t.take n.toNat).length = n.toNat := by rw [List.length_take]; omega
            have hn : ((t.take n.toNat).length : Int) = n := by rw [hl]; omega
            obtain ⟨rest, bad⟩ := r
            simp only at hb h2
            subst hb
            rw [h2]
            unfold encText
            rw [hn]
            congr 1
            conv => lhs; rw [← List.take_append_drop n.toNat t, h5]
            simp
          · have := h3.2
            rw [List.length_take]; omega
  · left
    rw [Rd.eq_failed hr hb]
    exact rdText_failed
theorem rdText_enc (s t : Bytes) (hs : (s.length : Int) ≤ 9223372036854775807) : rdText ⟨encText s ++ t, false⟩ = (s, ⟨t, false⟩) := by
  have h := rdNumber_enc s.length ⟨by omega, hs⟩ 58 (by decide) 0 (by omega) (s ++ 44 :: t) false
  have e : encText s ++ t = itoa s.length ++ 58 :: (s ++ 44 :: t) := by simp [encText]
  unfold rdText
  rw [e, h]
  dsimp only
  rw [if_neg (by simp; omega)]
  have h1 : (s ++ 44 :: t).drop ((s.length : Int)).toNat = 44 :: t := by simp
  have h2 : (s ++ 44 :: t).take ((s.length : Int)).toNat = s := by simp
  rw [h1, h2, rdClose_cons]
  rfl
theorem rdNum_some (r : Rd) (hr : r.ok) : rdNum r = (0, failed) ∨ ∃ n t, rdNum r = (n, ⟨t, false⟩) ∧ r = ⟨encInt n ++ t, false⟩ ∧ InR n ∧ 0 ≤ n := by
  rcases rdNumber_some r 59 0 with h1 | ⟨n, t, h1, h2, h3, h4⟩
  · exact .inl h1
  · rcases hb : r.bad with _ | _
    · right
      rw [hb] at h1
      obtain ⟨rest, bad⟩ := r
      simp only at hb h2
      subst hb
      exact ⟨n, t, h1, by rw [h2]; simp [encInt], h3, h4⟩
    · rw [hr hb] at h2; simp at h2
theorem rdInt_some (r : Rd) (hr : r.ok) : rdInt r = (0, failed) ∨ ∃ n t, rdInt r = (n, ⟨t, false⟩) ∧ r = ⟨encInt n ++ t, false⟩ ∧ InR n := by
  rcases rdNumber_some r 59 (-9223372036854775808) with h1 | ⟨n, t, h1, h2, h3, h4⟩
  · exact .inl h1
  · rcases hb : r.bad with _ | _
    · right
      rw [hb] at h1
      obtain ⟨rest, bad⟩ := r
      simp only at hb h2
      subst hb
      exact ⟨n, t, h1, by rw [h2]; simp [encInt], h3⟩
    · rw [hr hb] at h2; simp at h2
theorem rdInt_enc (n : Int) (hn : InR n) (t : Bytes) : rdInt ⟨encInt n ++ t, false⟩ = (n, ⟨t, false⟩) := by
  have := rdNumber_enc n hn 59 (by decide) (-9223372036854775808) hn.1 t false
  simpa [rdInt, encInt] using this
theorem rdNum_enc (n : Int) (hn : InR n) (h0 : 0 ≤ n) (t : Bytes) : rdNum ⟨encNum n ++ t, false⟩ = (n, ⟨t, false⟩) := by
  have := rdNumber_enc n hn 59 (by decide) 0 h0 t false
  have h1 : ¬ n < 0 := by omega
  simpa [rdNum, encNum, encInt, h1] using this
/-! ### lists -/
theorem itemsGo_some {α : Type} (one : Rd → α × Rd) (enc : α → Bytes) (P : α → Prop) (hone : ∀ r : Rd, r.ok → (one r).2 = failed ∨ ∃ v t, one r = (v, ⟨t, false⟩) ∧ r = ⟨enc v ++ t, false⟩ ∧ P v) : ∀ (n : Nat) (r : Rd), r.ok →
    (itemsGo one n r).2 = failed ∨ ∃ vs t, itemsGo one n r = (vs, ⟨t, r.bad⟩) ∧ vs.length = n ∧ r.rest = (vs.map enc).flatten ++ t ∧ ∀ v ∈ vs, P v
  | 0, r, _ => .inr ⟨[], r.rest, rfl, rfl, by simp, by simp⟩
  | n + 1, r, hr => by
    unfold itemsGo
    split
    · rename_i hb
      left
      exact Rd.eq_failed hr hb
    · rename_i hb
      have hb : r.bad = false := by simpa using hb
      rcases hone r hr with h1 | ⟨v, t, h1, h2, h3⟩
      · left
        rw [h1]
        have : ∀ n, (itemsGo one n failed).2 = failed := by
          intro n
          cases n with
          | zero => rfl
          | succ n => rfl
        exact this n
      · rw [h1]
        have hok : Rd.ok ⟨t, false⟩ := Rd.ok_good
        rcases itemsGo_some one enc P hone n _ hok with h4 | ⟨vs, t', h4, h5, h6, h7⟩
        · left; exact h4
        · right
          rw [h4]
          refine ⟨v :: vs, t', by rw [hb], by simp [h5], ?_, ?_⟩
          · rw [h2]
            simp only at h6
            simp [h6]
          · intro x hx
            rcases List.mem_cons.1 hx with rfl | hx
            · exact h3
            · exact h7 x hx
theorem rdItems_some {α : Type} (one : Rd → α × Rd) (enc : α → Bytes) (P : α → Prop) (hone : ∀ r : Rd, r.ok → (one r).2 = failed ∨ ∃ v t, one r = (v, ⟨t, false⟩) ∧ r = ⟨enc v ++ t, false⟩ ∧ P v) (r : Rd) (hr : r.ok) :
    rdItems one r = ([], failed) ∨ ∃ vs t, rdItems one r = (vs, ⟨t, false⟩) ∧ r = ⟨encList (vs.map enc) ++ t, false⟩ ∧ (vs.length : Int) ≤ 9223372036854775807 ∧ ∀ v ∈ vs, P v := by
  have hf : ∀ {q : Rd}, q = failed → (if (rdClose q 93).bad = true then (([] : List α), rdClose q 93) else ((itemsGo one (rdNumber r 91 0).1.toNat (rdNumber r 91 0).2).1, rdClose q 93)) = ([], failed) := by
    rintro q rfl
    rw [rdClose_failed]; rfl
  rcases rdNumber_some r 91 0 with h1 | ⟨n, t, h1, h2, h3, h4⟩
  · left
    unfold rdItems
    exact hf (by rw [h1]; rfl)
  · rcases hb : r.bad with _ | _
    · rw [hb] at h1
      rcases itemsGo_some one enc P hone n.toNat ⟨t, false⟩ Rd.ok_good with h5 | ⟨vs, t', h5, h6, h7, h8⟩
      · left
        unfold rdItems
        exact hf (by rw [h1]; exact h5)
      · unfold rdItems
        rw [h1]
        dsimp only
        rw [h5]
        dsimp only
        rcases rdClose_some ⟨t', false⟩ 93 with h9 | ⟨t'', h9, h10⟩
        · left; rw [h9]; rfl
        · right
          rw [h10]
          refine ⟨vs, t'', rfl, ?_, by have := h3.2; omega, h8⟩
          have hn : (vs.length : Int) = n := by omega
          obtain ⟨rest, bad⟩ := r
          simp only at hb h2 h7 h9
          subst hb
          rw [h2, h7, h9]
          simp [encList, hn]
    · rw [hr hb] at h2; simp at h2
theorem itemsGo_enc {α : Type} (one : Rd → α × Rd) (enc : α → Bytes) (vs : List α) (t : Bytes) (h : ∀ v ∈ vs, ∀ t, one ⟨enc v ++ t, false⟩ = (v, ⟨t, false⟩)) : itemsGo one vs.length ⟨(vs.map enc).flatten ++ t, false⟩ = (vs, ⟨t, false⟩) := by
  induction vs with
  | nil => rfl
  | cons v vs ih =>
    have h1 := h v (by simp) ((vs.map enc).flatten ++ t)
    have h2 := ih (fun x hx => h x (by simp [hx]))
    have e : ((v :: vs).map enc).flatten ++ t = enc v ++ ((vs.map enc).flatten ++ t) := by simp
    rw [e, List.length_cons]
    unfold itemsGo
    rw [if_neg (by simp), h1]
    dsimp only
    rw [h2]
theorem rdItems_enc {α : Type} (one : Rd → α × Rd) (enc : α → Bytes) (vs : List α) (t : Bytes) (hl : (vs.length : Int) ≤ 9223372036854775807) (h : ∀ v ∈ vs, ∀ t, one ⟨enc v ++ t, false⟩ = (v, ⟨t, false⟩)) : rdItems one ⟨encList (vs.map enc) ++ t, false⟩ = (vs, ⟨t, false⟩) := by
  have h1 := rdNumber_enc vs.length ⟨by omega, hl⟩ 91 (by decide) 0 (by omega) ((vs.map enc).flatten ++ 93 :: t) false
  have e : encList (vs.map enc) ++ t = itoa vs.length ++ 91 :: ((vs.map enc).flatten ++ 93 :: t) := by simp [encList]
  have h2 := itemsGo_enc one enc vs (93 :: t) h
  have h3 : ((vs.length : Int)).toNat = vs.length := by simp
  unfold rdItems
  rw [e, h1]
  dsimp only
  rw [h3, h2]
  dsimp only
  rw [rdClose_cons]
  rfl
theorem rdNums_enc (vs : List Int) (t : Bytes) (hl : (vs.length : Int) ≤ 9223372036854775807) (h : ∀ v ∈ vs, InR v) : rdNums ⟨encNums vs ++ t, false⟩ = (vs, ⟨t, false⟩) :=
  rdItems_enc rdInt encInt vs t hl (fun v hv t => rdInt_enc v (h v hv) t)
theorem rdTexts_enc (vs : List Bytes) (t : Bytes) (hl : (vs.length : Int) ≤ 9223372036854775807) (h : ∀ v ∈ vs, (v.length : Int) ≤ 9223372036854775807) : rdTexts ⟨encTexts vs ++ t, false⟩ = (vs, ⟨t, false⟩) :=
  rdItems_enc rdText encText vs t hl (fun v hv t => rdText_enc v t (h v hv))
theorem rdNums_some (r : Rd) (hr : r.ok) : rdNums r = ([], failed) ∨ ∃ vs t, rdNums r = (vs, ⟨t, false⟩) ∧ r = ⟨encNums vs ++ t, false⟩ ∧ (vs.length : Int) ≤ 9223372036854775807 ∧ ∀ v ∈ vs, InR v :=
  rdItems_some rdInt encInt InR (fun r hr => by
    rcases rdInt_some r hr with h | ⟨n, t, h1, h2, h3⟩
    · left; rw [h]
    · right; exact ⟨n, t, h1, h2, h3⟩) r hr
theorem rdTexts_some (r : Rd) (hr : r.ok) : rdTexts r = ([], failed) ∨ ∃ vs t, rdTexts r = (vs, ⟨t, false⟩) ∧ r = ⟨encTexts vs ++ t, false⟩ ∧ (vs.length : Int) ≤ 9223372036854775807 ∧ ∀ v ∈ vs, (v.length : Int) ≤ 9223372036854775807 :=
  rdItems_some rdText encText _ (fun r hr => by
    rcases rdText_some r hr with h | ⟨n, t, h1, h2, h3⟩
    · left; rw [h]
    · right; exact ⟨n, t, h1, h2, h3⟩) r hr
end CodeSpec
--G
namespace Go.Proofs.Cd
open Go Go.Sh Go.RowKit Go.Lib CodeSpec
set_option linter.unusedSimpArgs false
set_option maxRecDepth 10000
/-! strings as lists of bytes -/
theorem ba_extract (l : List UInt8) (i j : Nat) : (⟨l.toArray⟩ : ByteArray).extract i j = ⟨((l.take j).drop i).toArray⟩ := by
  apply ByteArray.ext
  rw [← Array.toList_inj, ByteArray.data_extract, Array.toList_extract, List.extract_eq_take_drop]
  simp [List.drop_take]
theorem ba_inj (a b : List UInt8) : ((⟨a.toArray⟩ : ByteArray) = ⟨b.toArray⟩) = (a = b) := by
  simp
theorem ba_of (s : ByteArray) : s = ⟨s.data.toList.toArray⟩ := by
  cases s; rfl
theorem ba_byteAt (l : List UInt8) (k : Nat) : byteAt ⟨l.toArray⟩ k = l.getD k 0 := by
  simp [byteAt]
attribute [go_sem] ba_size ba_append ba_extract ba_byteAt ba_inj
theorem K_eq {K : Value → World → Prop} {w : World} {a b : Value} (h : K a w) (e : b = a) : K b w := by rw [e]; exact h
theorem call_of_calls {f : FuncId} {args : Array Value} {w : World} {v : Value} {Q : World → Prop} {K : Value → World → Prop} (h : Calls Tryz.prog f args w fun e w' => e = .returned v ∧ Q w') (k : ∀ w', Q w' → K v w') : callM Tryz.prog f args K w :=
  Calls.mono h (fun _ w' ⟨he, hq⟩ => ⟨v, he, k w' hq⟩)
/-! what is laid -/
structure Laid (w : World) : Prop where
  tab : TabIs Tryz.prog w tabName .u64 pow10Tab
  syn : ∃ te pe, w.cell? ⟨5, 0, none⟩ = some (.iface te pe)
  ran : ∃ te pe, w.cell? ⟨6, 0, none⟩ = some (.iface te pe)
  size : 8 ≤ w.heap.size
theorem gTab : Tryz.prog.globalNamed tabName = some 3 := by kernel_rfl
theorem Laid.keep {w w' : World} (h : Laid w) (hb : ∀ k, k < 8 → w'.heap[k]? = w.heap[k]?) (hs : w.heap.size ≤ w'.heap.size) : Laid w' := by
  have hc : ∀ k, k < 8 → w'.cell? ⟨k, 0, none⟩ = w.cell? ⟨k, 0, none⟩ := fun k hk => World.cell?_of_block (w := w) (hb k hk)
  refine ⟨?_, ?_, ?_, Nat.le_trans h.size hs⟩
  · have h1 := h.tab
    unfold TabIs World.var? at h1 ⊢
    rw [gTab] at h1 ⊢
    simp only [Option.bind_some] at h1 ⊢
    rw [hb _ (by omega)]
    exact h1
  · rw [hc _ (by omega)]; exact h.syn
  · rw [hc _ (by omega)]; exact h.ran
theorem Laid.below {w w' : World} (h : Laid w) {B : Nat} (hb : Below B w w') (hB : 8 ≤ B) : Laid w' := h.keep (fun k hk => hb.block k (by omega)) hb.size
theorem Laid.grown {w w' : World} (h : Laid w) {b : Nat} (hg : w.grownBy w' (some b)) (hb : 8 ≤ b) : Laid w' := h.keep (fun k hk => hg.block k (by have := h.size; omega) (by simp; omega)) hg.size
theorem grown_of_below {w w' : World} (h : Below w.heap.size w w') (b : Option Nat) : w.grownBy w' b := ⟨h.os, h.tape, h.output, h.size, fun k hk _ => h.block k hk⟩
theorem below_of_grown {B : Nat} {w w' : World} {row : Option Nat} (h : w.grownBy w' row) (hB : B ≤ w.heap.size) (hr : ∀ k, row = some k → B ≤ k) : Below B w w' :=
  (Below.refl B w).grown h hB hr
theorem grown_refl (w : World) (b : Option Nat) : w.grownBy w b := ⟨rfl, rfl, rfl, Nat.le_refl _, fun _ _ _ => rfl⟩
/-! the library -/
theorem itoa_ok (n : Int) (hn : InR n) {K : Value → World → Prop} {w : World} (hl : Laid w) (k : ∀ w', Below w.heap.size w w' → K (.string ⟨(itoa n).toArray⟩) w') : callM Tryz.prog 172 #[.int .i64 n] K w := by
  refine call_of_calls (Tryz.strconv_Itoa n hn.1 hn.2 w hl.tab) ?_
  rintro w' ⟨d, os, rfl⟩
  exact k _ (below_grow _ _ (Nat.le_refl _) _ _)
theorem below_bytesWorld (w : World) (T : TypeId) (t : ByteArray) : Below w.heap.size w (bytesWorld w T t) :=
  ⟨rfl, rfl, rfl, by rw [bytesWorld_size]; omega, fun k hk => bytesWorld_at_old w T t k hk⟩
theorem atoi_ok (s : List UInt8) (hs : s.length ≤ 281474976710656) {K : Value → World → Prop} {w : World} (hl : Laid w)
    (k1 : ∀ n w', atoiAll s = .ok n → Below w.heap.size w w' → K (.tuple #[.int .i64 n, .nilIface]) w')
    (k2 : ∀ v te pe w', (∀ n, atoiAll s ≠ .ok n) → Below w.heap.size w w' → K (.tuple #[.int .i64 v, .iface te pe]) w') : callM Tryz.prog 211 #[.string ⟨s.toArray⟩] K w := by
  cases h : atoiAll s with
  | ok n =>
    refine call_of_calls (Tryz.strconv_Atoi_ok ⟨s.toArray⟩ (by rw [ba_size]; omega) n (by rw [ba_list]; exact h) w) ?_
    rintro w' (rfl | ⟨t, rfl⟩)
    · exact k1 n _ h (Below.refl _ _)
    · exact k1 n _ h (below_bytesWorld _ _ _)
  | «syntax» =>
    obtain ⟨te, pe, he⟩ := hl.syn
    refine Calls.mono (Tryz.strconv_Atoi_syntax ⟨s.toArray⟩ (by rw [ba_size]; omega) (by rw [ba_list]; exact h) _ w he (.inr ⟨_, _, rfl⟩)) ?_
    rintro e w' ⟨N, rfl, _, _, hb⟩
    exact ⟨_, rfl, k2 _ _ _ _ (fun n e => by rw [h] at e; cases e) hb⟩
  | range =>
    obtain ⟨te, pe, he⟩ := hl.ran
    refine Calls.mono (Tryz.strconv_Atoi_range ⟨s.toArray⟩ (by rw [ba_size]; omega) (by rw [ba_list]; exact h) _ w he (.inr ⟨_, _, rfl⟩)) ?_
    rintro e w' ⟨N, rfl, _, _, hb⟩
    exact ⟨_, rfl, k2 _ _ _ _ (fun n e => by rw [h] at e; cases e) hb⟩
theorem indexByte_ok (s : List UInt8) (c : UInt8) {K : Value → World → Prop} {w : World} (h : K (.int .i64 (indexByte s c)) w) : callM Tryz.prog 209 #[.string ⟨s.toArray⟩, .int .u8 c.toNat] K w := by
  refine call_of_calls (Tryz.strings_IndexByte ⟨s.toArray⟩ c.toNat w) ?_
  rintro w' rfl
  have : ((c.toNat : Int)).toNat.toUInt8 = c := by simp
  rw [ba_list, this]
  exact h
theorem cutPrefix_ok (s p : List UInt8) {K : Value → World → Prop} {w : World} (h : K (.tuple #[.string ⟨(trimPrefix s p).toArray⟩, .bool (hasPrefix s p)]) w) : callM Tryz.prog 212 #[.string ⟨s.toArray⟩, .string ⟨p.toArray⟩] K w := by
  refine call_of_calls (Tryz.strings_CutPrefix ⟨s.toArray⟩ ⟨p.toArray⟩ w) ?_
  rintro w' rfl
  exact h
/-! the builder -/
theorem infoB : Tryz.prog.info? 199 = some Tryz.t199 := by kernel_rfl
theorem sizeB : Tryz.t199.size = 2 := by kernel_rfl
theorem liesB (b : Nat) : liesAt Tryz.prog Tryz.prog.depth 199 (2 / Tryz.prog.cellsOf 199) (⟨b, 0, none⟩ : Addr).off 199 1 = true := by kernel_rfl
theorem runNE (x : Value) (w : World) : (callFunc 229 #[x]).run Tryz.prog w = .ok (.value x) w := by kernel_rfl
theorem extNE {x : Value} {K : Value → World → Prop} {w : World} (k : K x w) : extM Tryz.prog 229 #[x] K w := by
  unfold extM opM
  rw [runNE]
  exact k
theorem copyCheck_nil (B b : Nat) (bs : List Value) (w : World) (h : BuilderAt 199 5 B b (.pointer none) bs w) {K : Value → World → Prop}
    (k : K (.tuple #[]) (w.setCell ⟨b, 0, none⟩ (.pointer (some ⟨b, 0, none⟩)))) : callM Tryz.prog 213 #[.pointer (some ⟨b, 0, none⟩)] K w := by
  apply sh_213_ok
  unfold sh_213
  have hc := h.cell0
  have hf := h.frozen0
  have hv1 : (convert 197 232 (.pointer (some ⟨b, 0, none⟩))).run Tryz.prog w = .ok (.pointer (some ⟨b, 0, none⟩)) w :=
    run_to_unsafe (P := Tryz.prog) (w := w) (a := ⟨b, 0, none⟩) Tryz.underlying197 Tryz.underlying232 (t := 199) (j := Tryz.t199) infoB (by rw [sizeB]; omega) h.shape (by show (0 : Nat) < 2; omega)
  have hv2 : (convert 232 197 (.pointer (some ⟨b, 0, none⟩))).run Tryz.prog w = .ok (.pointer (some ⟨b, 0, none⟩)) w :=
    run_from_unsafe (P := Tryz.prog) (w := w) (a := ⟨b, 0, none⟩) Tryz.underlying232 Tryz.underlying197 (u := 199) (j := Tryz.t199) infoB h.shape (liesB b)
  repeat (any_goals (first
  | (with_reducible refine extNE ?_)
  | (with_reducible first|refine pureM_in ?_|((refine idGd ?_); first|refine zA ?_|refine zB ?_|refine zC ?_|refine zD ?_|refine zE ?_|((refine idGdD ?_); first|refine zF ?_|refine zG ?_|refine zH (fun hg=>?_) fun hg=>?_|refine zI ?_|refine zJ ?_|refine zK (fun hg=>?_) fun hg=>?_)|((refine idGdN ?_); first|refine zL ?_|refine zM ?_|refine zN (fun hg=>?_) fun hg=>?_|refine zO ?_|refine zP ?_|refine zQ (fun hg=>?_) fun hg=>?_)|refine zR ?_|refine zS ?_|refine zT ?_|refine zU ?_|refine zV ?_|refine zW ?_|refine zX (fun hg=>?_) fun hg=>?_|refine zY ?_|refine zZ ?_|refine yA (fun hg=>?_) fun hg=>?_)|((refine idPick ?_); first|refine yB ?_|refine yC ?_|refine yD ?_|refine yE ?_|refine yF ?_|refine yG ?_|refine yH ?_|refine yI ?_|refine yJ ?_|refine yK ?_)|((refine idCond ?_); first|refine yL ?_|refine yM ?_|refine yN ?_|refine yO ?_|refine yP (fun hg=>?_) fun hg=>?_|refine yQ ?_|refine yR ?_|refine yS (fun hg=>?_) fun hg=>?_|refine yT ?_|refine yU ?_|refine yV (fun hg=>?_) fun hg=>?_|refine yW ?_|refine yX ?_|refine yY (fun hg=>?_) fun hg=>?_))
  | ((with_reducible refine idO ?_); (with_reducible refine oM_gen fun Kv hK=>?_); simp [go_sem, oM_eqc, eqGuard, hc, hf, hv1, hv2]; (try simp (disch := omega) only [wrapI64, wrapU8, wrapU32, wrapU64]); (first|refine hK _ _ ?_|refine And.intro (by omega) (hK _ _ ?_)); clear hK; clear Kv)))
  exact k
theorem copyCheck_self (B b : Nat) (bs : List Value) (w : World) (h : BuilderAt 199 5 B b (.pointer (some ⟨b, 0, none⟩)) bs w) {K : Value → World → Prop}
    (k : K (.tuple #[]) w) : callM Tryz.prog 213 #[.pointer (some ⟨b, 0, none⟩)] K w := by
  apply sh_213_ok
  unfold sh_213
  have hc := h.cell0
  have hf := h.frozen0
  have hn := run_neq_ptr_same (P := Tryz.prog) (w := w) (tp := 197) (te := 199) (j := Tryz.t199) (a := ⟨b, 0, none⟩) Tryz.underlying197 infoB
  repeat (any_goals (first
  | (with_reducible first|refine pureM_in ?_|((refine idGd ?_); first|refine zA ?_|refine zB ?_|refine zC ?_|refine zD ?_|refine zE ?_|((refine idGdD ?_); first|refine zF ?_|refine zG ?_|refine zH (fun hg=>?_) fun hg=>?_|refine zI ?_|refine zJ ?_|refine zK (fun hg=>?_) fun hg=>?_)|((refine idGdN ?_); first|refine zL ?_|refine zM ?_|refine zN (fun hg=>?_) fun hg=>?_|refine zO ?_|refine zP ?_|refine zQ (fun hg=>?_) fun hg=>?_)|refine zR ?_|refine zS ?_|refine zT ?_|refine zU ?_|refine zV ?_|refine zW ?_|refine zX (fun hg=>?_) fun hg=>?_|refine zY ?_|refine zZ ?_|refine yA (fun hg=>?_) fun hg=>?_)|((refine idPick ?_); first|refine yB ?_|refine yC ?_|refine yD ?_|refine yE ?_|refine yF ?_|refine yG ?_|refine yH ?_|refine yI ?_|refine yJ ?_|refine yK ?_)|((refine idCond ?_); first|refine yL ?_|refine yM ?_|refine yN ?_|refine yO ?_|refine yP (fun hg=>?_) fun hg=>?_|refine yQ ?_|refine yR ?_|refine yS (fun hg=>?_) fun hg=>?_|refine yT ?_|refine yU ?_|refine yV (fun hg=>?_) fun hg=>?_|refine yW ?_|refine yX ?_|refine yY (fun hg=>?_) fun hg=>?_))
  | ((with_reducible refine idO ?_); (with_reducible refine oM_gen fun Kv hK=>?_); simp [go_sem, oM_eqc, oM_net, eqGuard, hc, hf, hn]; (try simp (disch := omega) only [wrapI64, wrapU8, wrapU32, wrapU64]); (first|refine hK _ _ ?_|refine And.intro (by omega) (hK _ _ ?_)); clear hK; clear Kv)))
  exact k
theorem copyCheck_ok (B b : Nat) (bs : List Value) (w : World) (h : IsBuilder 199 5 B b bs w) {K : Value → World → Prop}
    (k : ∀ w', BuilderAt 199 5 B b (.pointer (some ⟨b, 0, none⟩)) bs w' → w.grownBy w' (some b) → w'.heap.size = w.heap.size → K (.tuple #[]) w') : callM Tryz.prog 213 #[.pointer (some ⟨b, 0, none⟩)] K w := by
  rcases h with h | h
  · refine copyCheck_nil B b bs w h (k _ (h.used _) ⟨rfl, rfl, rfl, by simp [World.setCell], fun i _ hi => Below.heap_setCell _ _ _ _ (fun e => hi (by simp [e]))⟩ (by simp [World.setCell]))
  · exact copyCheck_self B b bs w h (k _ h ⟨rfl, rfl, rfl, Nat.le_refl _, fun _ _ _ => rfl⟩ rfl)
theorem ownsRow_slice {w : World} {B : Nat} {e : TypeId} {sz : Nat} {v : Value} {n : Nat} {xs : List Value} (h : w.ownsRow B e sz v n xs) : ∃ a m c, v = .slice a m c := by
  rcases h.2 with ⟨h, _⟩ | ⟨g, cap, cur, h, _⟩
  · exact ⟨_, _, _, h⟩
  · exact ⟨_, _, _, h⟩
theorem builderString_ok (B b : Nat) (l : List UInt8) (w : World) (h : IsBuilder 199 5 B b (Lib.byteCells l) w) (hBw : B ≤ w.heap.size) {K : Value → World → Prop} (k : ∀ w', Below B w w' → K (.string ⟨l.toArray⟩) w') : callM Tryz.prog 192 #[.pointer (some ⟨b, 0, none⟩)] K w :=
  call_of_calls (Tryz.Builder_String_any B b l w h hBw) k
theorem writeString_ok (B b : Nat) (l s : List UInt8) (w : World) (h : IsBuilder 199 5 B b (Lib.byteCells l) w) (hlen : l.length + s.length ≤ 140737488355328) (hBw : B ≤ w.heap.size) {K : Value → World → Prop}
    (k : ∀ w', IsBuilder 199 5 B b (Lib.byteCells (l ++ s)) w' → Below B w w' → K (.tuple #[.int .i64 s.length, .nilIface]) w') : callM Tryz.prog 191 #[.pointer (some ⟨b, 0, none⟩), .string ⟨s.toArray⟩] K w := by
  apply sh_191_ok
  unfold sh_191
  refine copyCheck_ok B b _ w h ?_
  intro w1 h1 hg1 hs1
  obtain ⟨hB, v, hb, hown, hne⟩ := h1
  have hc1 : w1.cell? ⟨b, 1, none⟩ = some v := by simp [World.cell?, hb]
  have hbl : Below B w w1 := below_of_grown hg1 hBw (fun k hk => by cases hk; exact hB)
  have hbl5 : (Lib.byteCells l).length = l.length := by simp [Lib.byteCells]
  repeat (any_goals (first
  | (with_reducible first|refine pureM_in ?_|((refine idGd ?_); first|refine zA ?_|refine zB ?_|refine zC ?_|refine zD ?_|refine zE ?_|((refine idGdD ?_); first|refine zF ?_|refine zG ?_|refine zH (fun hg=>?_) fun hg=>?_|refine zI ?_|refine zJ ?_|refine zK (fun hg=>?_) fun hg=>?_)|((refine idGdN ?_); first|refine zL ?_|refine zM ?_|refine zN (fun hg=>?_) fun hg=>?_|refine zO ?_|refine zP ?_|refine zQ (fun hg=>?_) fun hg=>?_)|refine zR ?_|refine zS ?_|refine zT ?_|refine zU ?_|refine zV ?_|refine zW ?_|refine zX (fun hg=>?_) fun hg=>?_|refine zY ?_|refine zZ ?_|refine yA (fun hg=>?_) fun hg=>?_)|((refine idPick ?_); first|refine yB ?_|refine yC ?_|refine yD ?_|refine yE ?_|refine yF ?_|refine yG ?_|refine yH ?_|refine yI ?_|refine yJ ?_|refine yK ?_)|((refine idCond ?_); first|refine yL ?_|refine yM ?_|refine yN ?_|refine yO ?_|refine yP (fun hg=>?_) fun hg=>?_|refine yQ ?_|refine yR ?_|refine yS (fun hg=>?_) fun hg=>?_|refine yT ?_|refine yU ?_|refine yV (fun hg=>?_) fun hg=>?_|refine yW ?_|refine yX ?_|refine yY (fun hg=>?_) fun hg=>?_))
  | ((with_reducible refine idO ?_); (with_reducible refine oM_gen fun Kv hK=>?_); simp [go_sem, hc1]; (try simp (disch := omega) only [wrapI64, wrapU8, wrapU32, wrapU64]); (first|refine hK _ _ ?_|refine And.intro (by omega) (hK _ _ ?_)); clear hK; clear Kv)))
  obtain ⟨v', w2, hrun, ho, hg, _⟩ := run_append_own_string (P := Tryz.prog) w1 B 189 9 189 5 Tryz.t5 Tryz.underlying189 Tryz.underlying9 (by kernel_rfl) (by kernel_rfl) (by kernel_rfl) (by kernel_rfl) v (Lib.byteCells l).length (Lib.byteCells l) hown ⟨s.toArray⟩ (by unfold maxLen; rw [ba_size]; omega) (by rw [ba_size]; omega) (by omega)
  rw [oM_value (S := Builtin.append_ #[189, 9] 189 #[v, .string ⟨s.toArray⟩]) (by simp [xop, execOp, evalL, evE, resolve, invoke, builtin]), hrun, ok_iff]
  have hb2 : w2.heap[b]? = some (.cells #[.pointer (some ⟨b, 0, none⟩), v] 199 (0, 0)) := by
    rw [hg.block b (by have := (Array.getElem?_eq_some_iff.1 hb).1; exact this) (fun e => hne e.symm)]
    exact hb
  have hc2 : w2.cell? ⟨b, 1, none⟩ = some v := by simp [World.cell?, hb2]
  have hf2 : w2.frozen? ⟨b, 1, none⟩ = false := by simp [World.frozen?, hb2]
  have ho' : w2.ownsRow B 5 1 v' (Lib.byteCells (l ++ s)).length (Lib.byteCells (l ++ s)) := by
    have e : Lib.byteCells l ++ strCells ⟨s.toArray⟩ = Lib.byteCells (l ++ s) := by simp [Lib.byteCells, strCells]
    have e2 : (Lib.byteCells l).length + (⟨s.toArray⟩ : ByteArray).size = (Lib.byteCells (l ++ s)).length := by rw [ba_size]; simp [Lib.byteCells]
    rw [e, e2] at ho
    exact ho
  have hput := BuilderAt.put (p := .pointer (some ⟨b, 0, none⟩)) hB hb2 ho' (by decide)
  have hbl2 : Below B w w2 := hbl.trans (below_of_grown hg (by omega) (fun k hk => (hown.lt k hk).1))
  obtain ⟨av, nv, cv, rfl⟩ := ownsRow_slice ho
  repeat (any_goals (first
  | (with_reducible first|refine pureM_in ?_|((refine idGd ?_); first|refine zA ?_|refine zB ?_|refine zC ?_|refine zD ?_|refine zE ?_|((refine idGdD ?_); first|refine zF ?_|refine zG ?_|refine zH (fun hg=>?_) fun hg=>?_|refine zI ?_|refine zJ ?_|refine zK (fun hg=>?_) fun hg=>?_)|((refine idGdN ?_); first|refine zL ?_|refine zM ?_|refine zN (fun hg=>?_) fun hg=>?_|refine zO ?_|refine zP ?_|refine zQ (fun hg=>?_) fun hg=>?_)|refine zR ?_|refine zS ?_|refine zT ?_|refine zU ?_|refine zV ?_|refine zW ?_|refine zX (fun hg=>?_) fun hg=>?_|refine zY ?_|refine zZ ?_|refine yA (fun hg=>?_) fun hg=>?_)|((refine idPick ?_); first|refine yB ?_|refine yC ?_|refine yD ?_|refine yE ?_|refine yF ?_|refine yG ?_|refine yH ?_|refine yI ?_|refine yJ ?_|refine yK ?_)|((refine idCond ?_); first|refine yL ?_|refine yM ?_|refine yN ?_|refine yO ?_|refine yP (fun hg=>?_) fun hg=>?_|refine yQ ?_|refine yR ?_|refine yS (fun hg=>?_) fun hg=>?_|refine yT ?_|refine yU ?_|refine yV (fun hg=>?_) fun hg=>?_|refine yW ?_|refine yX ?_|refine yY (fun hg=>?_) fun hg=>?_))
  | ((with_reducible refine idO ?_); (with_reducible refine oM_gen fun Kv hK=>?_); simp [go_sem, hc2, hf2]; (try simp (disch := omega) only [wrapI64, wrapU8, wrapU32, wrapU64]); (first|refine hK _ _ ?_|refine And.intro (by omega) (hK _ _ ?_)); clear hK; clear Kv)))
  exact k _ (.inr hput) (hbl2.setCell hB _)
end Go.Proofs.Cd
--G
namespace Go.Proofs.Cd
open Go Go.Sh Go.RowKit Go.Lib CodeSpec
set_option linter.unusedSimpArgs false
set_option maxRecDepth 10000
def intV (n : Int) : Value := .int .i64 n
def strV (s : List UInt8) : Value := .string ⟨s.toArray⟩
/-- a slice whose elements take one cell each -/
def RowOf {α : Type} (mk : α → Value) (w : World) (v : Value) (l : List α) : Prop :=
  ∃ ad c, v = .slice ad l.length c ∧ (l = [] ∨ ∃ b o, ad = some ⟨b, o, none⟩ ∧ b < w.heap.size ∧ ∀ (i : Nat) (h : i < l.length), w.cell? ⟨b, o + i, none⟩ = some (mk l[i]))
theorem RowOf.below {α : Type} {mk : α → Value} {w w' : World} {v : Value} {l : List α} (h : RowOf mk w v l) (hb : Below w.heap.size w w') : RowOf mk w' v l := by
  obtain ⟨ad, c, rfl, h⟩ := h
  refine ⟨ad, c, rfl, h.imp id ?_⟩
  rintro ⟨b, o, rfl, hlt, hc⟩
  exact ⟨b, o, rfl, Nat.lt_of_lt_of_le hlt hb.size, fun i hi => by rw [hb.cell hlt]; exact hc i hi⟩
theorem RowOf.nil {α : Type} (mk : α → Value) (w : World) (ad : Option Addr) (c : Nat) : RowOf mk w (.slice ad 0 c) [] := ⟨ad, c, rfl, .inl rfl⟩
theorem addr_add (b o k : Nat) : (⟨b, o, none⟩ : Addr).add k = ⟨b, o + k, none⟩ := by
  unfold Addr.add
  split
  · rename_i h0; rw [h0]; simp
  · rfl
theorem RowOf.of_owns {α : Type} {mk : α → Value} {w : World} {B : Nat} {e : TypeId} {v : Value} {l : List α} (h : w.ownsRow B e 1 v l.length (l.map mk)) : RowOf mk w v l := by
  rcases h.2 with ⟨rfl, h0⟩ | ⟨g, cap, cur, rfl, hb, hg, hn, hm, hcs, ht⟩
  · obtain rfl : l = [] := List.eq_nil_of_length_eq_zero h0
    exact RowOf.nil _ _ _ _
  · refine ⟨_, cap, rfl, .inr ⟨g, 0, rfl, (Array.getElem?_eq_some_iff.1 hg).1, fun i hi => ?_⟩⟩
    have : (l.map mk)[i]? = some (mk l[i]) := by simp [hi]
    rw [← ht, List.getElem?_take_of_lt (by omega)] at this
    unfold World.cell?
    rw [hg]
    simpa using this
theorem idx22 {b o n c k : Nat} (hk : k < n) (w : World) : (Instr.indexAt 22 (.slice (some ⟨b, o, none⟩) n c) (.int .i64 k)).run Tryz.prog w = .ok (.pointer (some ⟨b, o + k, none⟩)) w := by
  rw [run_indexAt_slice (h := by kernel_rfl), if_pos (by omega)]
  have hs : (sizeOf (Tryz.prog.elem 22)).run Tryz.prog w = .ok 1 w := by kernel_rfl
  rw [hs]
  simp only [Result.andThen, Int.toNat_natCast, addr_add, Nat.mul_one]
theorem encInt_len (n : Int) (h : InR n) : (encInt n).length ≤ 21 := by
  have := itoa_len n h
  simp [encInt]; omega
theorem pInt_ok (n : Int) (hn : InR n) {K : Value → World → Prop} {w : World} (hl : Laid w) (k : ∀ w', Below w.heap.size w w' → K (.string ⟨(encInt n).toArray⟩) w') : callM Tryz.prog 164 #[.int .i64 n] K w := by
  apply sh_164_ok
  unfold sh_164
  refine itoa_ok n hn hl ?_
  intro w1 hb
  have := itoa_len n hn
  repeat (any_goals (first
  | (with_reducible first|refine pureM_in ?_|((refine idGd ?_); first|refine zA ?_|refine zB ?_|refine zC ?_|refine zD ?_|refine zE ?_|((refine idGdD ?_); first|refine zF ?_|refine zG ?_|refine zH (fun hg=>?_) fun hg=>?_|refine zI ?_|refine zJ ?_|refine zK (fun hg=>?_) fun hg=>?_)|((refine idGdN ?_); first|refine zL ?_|refine zM ?_|refine zN (fun hg=>?_) fun hg=>?_|refine zO ?_|refine zP ?_|refine zQ (fun hg=>?_) fun hg=>?_)|refine zR ?_|refine zS ?_|refine zT ?_|refine zU ?_|refine zV ?_|refine zW ?_|refine zX (fun hg=>?_) fun hg=>?_|refine zY ?_|refine zZ ?_|refine yA (fun hg=>?_) fun hg=>?_)|((refine idPick ?_); first|refine yB ?_|refine yC ?_|refine yD ?_|refine yE ?_|refine yF ?_|refine yG ?_|refine yH ?_|refine yI ?_|refine yJ ?_|refine yK ?_)|((refine idCond ?_); first|refine yL ?_|refine yM ?_|refine yN ?_|refine yO ?_|refine yP (fun hg=>?_) fun hg=>?_|refine yQ ?_|refine yR ?_|refine yS (fun hg=>?_) fun hg=>?_|refine yT ?_|refine yU ?_|refine yV (fun hg=>?_) fun hg=>?_|refine yW ?_|refine yX ?_|refine yY (fun hg=>?_) fun hg=>?_))
  | ((with_reducible refine idO ?_); (with_reducible refine oM_gen fun Kv hK=>?_); simp [go_sem]; (try simp (disch := omega) only [wrapI64, wrapU8, wrapU32, wrapU64]); (first|refine hK _ _ ?_|refine And.intro (by omega) (hK _ _ ?_)); clear hK; clear Kv)))
  exact K_eq (k _ hb) (by simp [encInt])
theorem encText_len (s : List UInt8) (hs : (s.length : Int) ≤ 9223372036854775807) : (encText s).length ≤ s.length + 22 := by
  have := itoa_len s.length ⟨by omega, hs⟩
  simp [encText]; omega
theorem flat_snoc {α : Type} (enc : α → List UInt8) (xs : List α) (k : Nat) (h : k < xs.length) : ((xs.take (k + 1)).map enc).flatten = ((xs.take k).map enc).flatten ++ enc xs[k] := by
  rw [List.take_add_one, List.getElem?_eq_getElem h]
  simp only [Option.toList_some, List.map_append, List.map_cons, List.map_nil, List.flatten_append, List.flatten_cons, List.flatten_nil, List.append_nil]
theorem flat_le {α : Type} (enc : α → List UInt8) (xs : List α) (k : Nat) : ((xs.take k).map enc).flatten.length ≤ (xs.map enc).flatten.length := by
  conv => rhs; rw [← List.take_append_drop k xs]
  rw [List.map_append, List.flatten_append, List.length_append]
  omega
theorem IsBuilder.below {T e : TypeId} {B b : Nat} {bs : List Value} {w w' : World} (h : IsBuilder T e B b bs w) (hb : Below w.heap.size w w') : IsBuilder T e B b bs w' := by
  have key : ∀ p, BuilderAt T e B b p bs w → BuilderAt T e B b p bs w' := by
    rintro p ⟨hB, v, hh, hown, hne⟩
    have hlt := (Array.getElem?_eq_some_iff.1 hh).1
    refine ⟨hB, v, by rw [hb.block _ hlt]; exact hh, ?_, hne⟩
    exact hown.kept (grown_of_below hb none) (by
      rcases hown.2 with ⟨rfl, _⟩ | ⟨g, cap, cur, rfl, _⟩
      · left; rfl
      · right; simp [Value.ownBlock])
  exact h.imp (key _) (key _)
theorem encodedNum_ok (xs : List (Int)) (v : Value) {K : Value → World → Prop} {w : World} (hl : Laid w) (hrow : RowOf intV w v xs) (hx : ∀ x ∈ xs, InR x) (hlen : (encList (xs.map encInt)).length < 2^40)
    (k : ∀ w', Below w.heap.size w w' → K (.string ⟨(encList (xs.map encInt)).toArray⟩) w') : callM Tryz.prog 163 #[v, .func (.func 164) #[] #[]] K w := by
  apply sh_163_ok
  unfold sh_163
  have hsz : (encList (xs.map encInt)).length = (itoa (xs.length : Nat)).length + 1 + ((xs.map encInt).flatten).length + 1 := by simp [encList]; omega
  have hxl : xs.length ≤ (xs.map encInt).flatten.length := by
    rw [List.length_flatten]
    clear hrow hlen hsz k
    induction xs with
    | nil => simp
    | cons x xs ih =>
      have := ih (fun y hy => hx y (List.mem_cons_of_mem _ hy))
      have h1 : 1 ≤ (encInt x).length := by simp [encInt]; try omega
      simp only [List.length_cons, List.map_cons, List.sum_cons]
      omega
  have hin : InR (xs.length : Nat) := ⟨by omega, by omega⟩
  have hil := itoa_len _ hin
  obtain ⟨ad, c, rfl, hcell⟩ := hrow
  have hl0 : Laid (w.alloc (.cells #[.pointer none, .slice none 0 0] 199)) := hl.below ((Below.refl _ _).alloc (Nat.le_refl _) _) hl.size
  repeat (any_goals (first
  | (with_reducible first|refine pureM_in ?_|((refine idGd ?_); first|refine zA ?_|refine zB ?_|refine zC ?_|refine zD ?_|refine zE ?_|((refine idGdD ?_); first|refine zF ?_|refine zG ?_|refine zH (fun hg=>?_) fun hg=>?_|refine zI ?_|refine zJ ?_|refine zK (fun hg=>?_) fun hg=>?_)|((refine idGdN ?_); first|refine zL ?_|refine zM ?_|refine zN (fun hg=>?_) fun hg=>?_|refine zO ?_|refine zP ?_|refine zQ (fun hg=>?_) fun hg=>?_)|refine zR ?_|refine zS ?_|refine zT ?_|refine zU ?_|refine zV ?_|refine zW ?_|refine zX (fun hg=>?_) fun hg=>?_|refine zY ?_|refine zZ ?_|refine yA (fun hg=>?_) fun hg=>?_)|((refine idPick ?_); first|refine yB ?_|refine yC ?_|refine yD ?_|refine yE ?_|refine yF ?_|refine yG ?_|refine yH ?_|refine yI ?_|refine yJ ?_|refine yK ?_)|((refine idCond ?_); first|refine yL ?_|refine yM ?_|refine yN ?_|refine yO ?_|refine yP (fun hg=>?_) fun hg=>?_|refine yQ ?_|refine yR ?_|refine yS (fun hg=>?_) fun hg=>?_|refine yT ?_|refine yU ?_|refine yV (fun hg=>?_) fun hg=>?_|refine yW ?_|refine yX ?_|refine yY (fun hg=>?_) fun hg=>?_))
  | ((with_reducible refine idO ?_); (with_reducible refine oM_gen fun Kv hK=>?_); simp [go_sem]; (try simp (disch := omega) only [wrapI64, wrapU8, wrapU32, wrapU64]); (first|refine hK _ _ ?_|refine And.intro (by omega) (hK _ _ ?_)); clear hK; clear Kv)))
  refine itoa_ok _ hin hl0 (fun w1 hb1 => ?_)
  have hb1' : Below w.heap.size w w1 := ((Below.refl _ _).alloc (Nat.le_refl _) _).trans (hb1.mono (by simp))
  have hB1 := IsBuilder.below (fresh_isBuilder 199 5 w) hb1
  have hz1 := hb1'.size
  repeat (any_goals (first
  | (with_reducible first|refine pureM_in ?_|((refine idGd ?_); first|refine zA ?_|refine zB ?_|refine zC ?_|refine zD ?_|refine zE ?_|((refine idGdD ?_); first|refine zF ?_|refine zG ?_|refine zH (fun hg=>?_) fun hg=>?_|refine zI ?_|refine zJ ?_|refine zK (fun hg=>?_) fun hg=>?_)|((refine idGdN ?_); first|refine zL ?_|refine zM ?_|refine zN (fun hg=>?_) fun hg=>?_|refine zO ?_|refine zP ?_|refine zQ (fun hg=>?_) fun hg=>?_)|refine zR ?_|refine zS ?_|refine zT ?_|refine zU ?_|refine zV ?_|refine zW ?_|refine zX (fun hg=>?_) fun hg=>?_|refine zY ?_|refine zZ ?_|refine yA (fun hg=>?_) fun hg=>?_)|((refine idPick ?_); first|refine yB ?_|refine yC ?_|refine yD ?_|refine yE ?_|refine yF ?_|refine yG ?_|refine yH ?_|refine yI ?_|refine yJ ?_|refine yK ?_)|((refine idCond ?_); first|refine yL ?_|refine yM ?_|refine yN ?_|refine yO ?_|refine yP (fun hg=>?_) fun hg=>?_|refine yQ ?_|refine yR ?_|refine yS (fun hg=>?_) fun hg=>?_|refine yT ?_|refine yU ?_|refine yV (fun hg=>?_) fun hg=>?_|refine yW ?_|refine yX ?_|refine yY (fun hg=>?_) fun hg=>?_))
  | ((with_reducible refine idO ?_); (with_reducible refine oM_gen fun Kv hK=>?_); simp [go_sem]; (try simp (disch := omega) only [wrapI64, wrapU8, wrapU32, wrapU64]); (first|refine hK _ _ ?_|refine And.intro (by omega) (hK _ _ ?_)); clear hK; clear Kv)))
  refine writeString_ok w.heap.size _ [] _ _ hB1 (by simp; omega) (by omega) ?_
  intro w2 hB2 hb2
  have hb2' := hb1'.trans hb2
  repeat (any_goals (first
  | (with_reducible first|refine pureM_in ?_|((refine idGd ?_); first|refine zA ?_|refine zB ?_|refine zC ?_|refine zD ?_|refine zE ?_|((refine idGdD ?_); first|refine zF ?_|refine zG ?_|refine zH (fun hg=>?_) fun hg=>?_|refine zI ?_|refine zJ ?_|refine zK (fun hg=>?_) fun hg=>?_)|((refine idGdN ?_); first|refine zL ?_|refine zM ?_|refine zN (fun hg=>?_) fun hg=>?_|refine zO ?_|refine zP ?_|refine zQ (fun hg=>?_) fun hg=>?_)|refine zR ?_|refine zS ?_|refine zT ?_|refine zU ?_|refine zV ?_|refine zW ?_|refine zX (fun hg=>?_) fun hg=>?_|refine zY ?_|refine zZ ?_|refine yA (fun hg=>?_) fun hg=>?_)|((refine idPick ?_); first|refine yB ?_|refine yC ?_|refine yD ?_|refine yE ?_|refine yF ?_|refine yG ?_|refine yH ?_|refine yI ?_|refine yJ ?_|refine yK ?_)|((refine idCond ?_); first|refine yL ?_|refine yM ?_|refine yN ?_|refine yO ?_|refine yP (fun hg=>?_) fun hg=>?_|refine yQ ?_|refine yR ?_|refine yS (fun hg=>?_) fun hg=>?_|refine yT ?_|refine yU ?_|refine yV (fun hg=>?_) fun hg=>?_|refine yW ?_|refine yX ?_|refine yY (fun hg=>?_) fun hg=>?_))
  | ((with_reducible refine idO ?_); (with_reducible refine oM_gen fun Kv hK=>?_); simp [go_sem]; (try simp (disch := omega) only [wrapI64, wrapU8, wrapU32, wrapU64]); (first|refine hK _ _ ?_|refine And.intro (by omega) (hK _ _ ?_)); clear hK; clear Kv)))
  refine ⟨fun l w' => ∃ (x : Value) (k : Nat), l = [x, .int .i64 k] ∧ k ≤ xs.length ∧ IsBuilder 199 5 w.heap.size w.heap.size (Lib.byteCells (itoa (xs.length : Nat) ++ 91 :: ((xs.take k).map encInt).flatten)) w' ∧ Below w.heap.size w w', fun l _ => xs.length - (match l with | [_, .int _ n] => n.toNat | _ => 0), ⟨_, 0, rfl, by omega, by simpa using hB2, hb2'⟩, ?_⟩
  rintro _ _ w3 ⟨x, j, rfl, hj, hB3, hb3⟩
  have hz3 := hb3.size
  simp only [List.getD_cons_zero, List.getD_cons_succ]
  have hfl := flat_le encInt xs j
  by_cases hlt : j < xs.length
  · rcases hcell with rfl | ⟨b, o, rfl, hbw, hcells⟩
    · simp at hlt
    have hc := hcells j hlt
    rw [← hb3.cell hbw] at hc
    simp only [intV] at hc
    have hix := idx22 (b := b) (o := o) (c := c) hlt w3
    have hl3 : Laid w3 := hl.below hb3 hl.size
    have hP := hx xs[j] (List.getElem_mem hlt)
    have hfl1 := flat_le encInt xs (j + 1)
    rw [flat_snoc _ _ _ hlt, List.length_append] at hfl1
    repeat (any_goals (first
    | (rw [oM_indexAddr, hix, rM_ok])
    | (with_reducible first|refine pureM_in ?_|((refine idGd ?_); first|refine zA ?_|refine zB ?_|refine zC ?_|refine zD ?_|refine zE ?_|((refine idGdD ?_); first|refine zF ?_|refine zG ?_|refine zH (fun hg=>?_) fun hg=>?_|refine zI ?_|refine zJ ?_|refine zK (fun hg=>?_) fun hg=>?_)|((refine idGdN ?_); first|refine zL ?_|refine zM ?_|refine zN (fun hg=>?_) fun hg=>?_|refine zO ?_|refine zP ?_|refine zQ (fun hg=>?_) fun hg=>?_)|refine zR ?_|refine zS ?_|refine zT ?_|refine zU ?_|refine zV ?_|refine zW ?_|refine zX (fun hg=>?_) fun hg=>?_|refine zY ?_|refine zZ ?_|refine yA (fun hg=>?_) fun hg=>?_)|((refine idPick ?_); first|refine yB ?_|refine yC ?_|refine yD ?_|refine yE ?_|refine yF ?_|refine yG ?_|refine yH ?_|refine yI ?_|refine yJ ?_|refine yK ?_)|((refine idCond ?_); first|refine yL ?_|refine yM ?_|refine yN ?_|refine yO ?_|refine yP (fun hg=>?_) fun hg=>?_|refine yQ ?_|refine yR ?_|refine yS (fun hg=>?_) fun hg=>?_|refine yT ?_|refine yU ?_|refine yV (fun hg=>?_) fun hg=>?_|refine yW ?_|refine yX ?_|refine yY (fun hg=>?_) fun hg=>?_))
    | ((with_reducible refine idO ?_); (with_reducible refine oM_gen fun Kv hK=>?_); simp [go_sem, hc]; (try simp (disch := omega) only [wrapI64, wrapU8, wrapU32, wrapU64]); (first|refine hK _ _ ?_|refine And.intro (by omega) (hK _ _ ?_)); clear hK; clear Kv)))
    refine oM_callv1 (by kernel_rfl) ?_
    refine pInt_ok _ hP hl3 ?_
    intro w4 hb4
    have hz4 := hb4.size
    have hB4 : IsBuilder 199 5 w.heap.size w.heap.size (Lib.byteCells (itoa (xs.length : Nat) ++ 91 :: ((xs.take j).map encInt).flatten)) w4 := IsBuilder.below hB3 hb4
    refine writeString_ok w.heap.size _ _ _ _ hB4 (by simp only [List.length_append, List.length_cons]; omega) (by omega) ?_
    intro w5 hB5 hb5
    repeat (any_goals (first
    | (with_reducible first|refine pureM_in ?_|((refine idGd ?_); first|refine zA ?_|refine zB ?_|refine zC ?_|refine zD ?_|refine zE ?_|((refine idGdD ?_); first|refine zF ?_|refine zG ?_|refine zH (fun hg=>?_) fun hg=>?_|refine zI ?_|refine zJ ?_|refine zK (fun hg=>?_) fun hg=>?_)|((refine idGdN ?_); first|refine zL ?_|refine zM ?_|refine zN (fun hg=>?_) fun hg=>?_|refine zO ?_|refine zP ?_|refine zQ (fun hg=>?_) fun hg=>?_)|refine zR ?_|refine zS ?_|refine zT ?_|refine zU ?_|refine zV ?_|refine zW ?_|refine zX (fun hg=>?_) fun hg=>?_|refine zY ?_|refine zZ ?_|refine yA (fun hg=>?_) fun hg=>?_)|((refine idPick ?_); first|refine yB ?_|refine yC ?_|refine yD ?_|refine yE ?_|refine yF ?_|refine yG ?_|refine yH ?_|refine yI ?_|refine yJ ?_|refine yK ?_)|((refine idCond ?_); first|refine yL ?_|refine yM ?_|refine yN ?_|refine yO ?_|refine yP (fun hg=>?_) fun hg=>?_|refine yQ ?_|refine yR ?_|refine yS (fun hg=>?_) fun hg=>?_|refine yT ?_|refine yU ?_|refine yV (fun hg=>?_) fun hg=>?_|refine yW ?_|refine yX ?_|refine yY (fun hg=>?_) fun hg=>?_))
    | ((with_reducible refine idO ?_); (with_reducible refine oM_gen fun Kv hK=>?_); simp [go_sem]; (try simp (disch := omega) only [wrapI64, wrapU8, wrapU32, wrapU64]); (first|refine hK _ _ ?_|refine And.intro (by omega) (hK _ _ ?_)); clear hK; clear Kv)))
    refine ⟨⟨_, j + 1, rfl, hlt, ?_, (hb3.trans (hb4.mono hz3)).trans hb5⟩, by simp; omega⟩
    rw [flat_snoc _ _ _ hlt]
    simpa using hB5
  · obtain rfl : j = xs.length := by omega
    rw [List.take_length] at hB3 hfl
    obtain ⟨F, hF⟩ : ∃ F, F = (xs.map encInt).flatten := ⟨_, rfl⟩
    rw [← hF] at hB3 hfl hsz
    repeat (any_goals (first
    | (with_reducible first|refine pureM_in ?_|((refine idGd ?_); first|refine zA ?_|refine zB ?_|refine zC ?_|refine zD ?_|refine zE ?_|((refine idGdD ?_); first|refine zF ?_|refine zG ?_|refine zH (fun hg=>?_) fun hg=>?_|refine zI ?_|refine zJ ?_|refine zK (fun hg=>?_) fun hg=>?_)|((refine idGdN ?_); first|refine zL ?_|refine zM ?_|refine zN (fun hg=>?_) fun hg=>?_|refine zO ?_|refine zP ?_|refine zQ (fun hg=>?_) fun hg=>?_)|refine zR ?_|refine zS ?_|refine zT ?_|refine zU ?_|refine zV ?_|refine zW ?_|refine zX (fun hg=>?_) fun hg=>?_|refine zY ?_|refine zZ ?_|refine yA (fun hg=>?_) fun hg=>?_)|((refine idPick ?_); first|refine yB ?_|refine yC ?_|refine yD ?_|refine yE ?_|refine yF ?_|refine yG ?_|refine yH ?_|refine yI ?_|refine yJ ?_|refine yK ?_)|((refine idCond ?_); first|refine yL ?_|refine yM ?_|refine yN ?_|refine yO ?_|refine yP (fun hg=>?_) fun hg=>?_|refine yQ ?_|refine yR ?_|refine yS (fun hg=>?_) fun hg=>?_|refine yT ?_|refine yU ?_|refine yV (fun hg=>?_) fun hg=>?_|refine yW ?_|refine yX ?_|refine yY (fun hg=>?_) fun hg=>?_))
    | ((with_reducible refine idO ?_); (with_reducible refine oM_gen fun Kv hK=>?_); simp [go_sem]; (try simp (disch := omega) only [wrapI64, wrapU8, wrapU32, wrapU64]); (first|refine hK _ _ ?_|refine And.intro (by omega) (hK _ _ ?_)); clear hK; clear Kv)))
    refine builderString_ok _ _ _ _ hB3 (by omega) ?_
    intro w4 hb4
    repeat (any_goals (first
    | (with_reducible first|refine pureM_in ?_|((refine idGd ?_); first|refine zA ?_|refine zB ?_|refine zC ?_|refine zD ?_|refine zE ?_|((refine idGdD ?_); first|refine zF ?_|refine zG ?_|refine zH (fun hg=>?_) fun hg=>?_|refine zI ?_|refine zJ ?_|refine zK (fun hg=>?_) fun hg=>?_)|((refine idGdN ?_); first|refine zL ?_|refine zM ?_|refine zN (fun hg=>?_) fun hg=>?_|refine zO ?_|refine zP ?_|refine zQ (fun hg=>?_) fun hg=>?_)|refine zR ?_|refine zS ?_|refine zT ?_|refine zU ?_|refine zV ?_|refine zW ?_|refine zX (fun hg=>?_) fun hg=>?_|refine zY ?_|refine zZ ?_|refine yA (fun hg=>?_) fun hg=>?_)|((refine idPick ?_); first|refine yB ?_|refine yC ?_|refine yD ?_|refine yE ?_|refine yF ?_|refine yG ?_|refine yH ?_|refine yI ?_|refine yJ ?_|refine yK ?_)|((refine idCond ?_); first|refine yL ?_|refine yM ?_|refine yN ?_|refine yO ?_|refine yP (fun hg=>?_) fun hg=>?_|refine yQ ?_|refine yR ?_|refine yS (fun hg=>?_) fun hg=>?_|refine yT ?_|refine yU ?_|refine yV (fun hg=>?_) fun hg=>?_|refine yW ?_|refine yX ?_|refine yY (fun hg=>?_) fun hg=>?_))
    | ((with_reducible refine idO ?_); (with_reducible refine oM_gen fun Kv hK=>?_); simp [go_sem]; (try simp (disch := omega) only [wrapI64, wrapU8, wrapU32, wrapU64]); (first|refine hK _ _ ?_|refine And.intro (by omega) (hK _ _ ?_)); clear hK; clear Kv)))
    exact K_eq (k _ (hb3.trans hb4)) (by simp [encList, hF])
theorem pNums_ok (xs : List (Int)) (v : Value) {K : Value → World → Prop} {w : World} (hl : Laid w) (hrow : RowOf intV w v xs) (hx : ∀ x ∈ xs, InR x) (hlen : (encList (xs.map encInt)).length < 2^40)
    (k : ∀ w', Below w.heap.size w w' → K (.string ⟨(encList (xs.map encInt)).toArray⟩) w') : callM Tryz.prog 119 #[v] K w := by
  apply sh_119_ok
  unfold sh_119
  repeat (any_goals (first
  | (with_reducible first|refine pureM_in ?_|((refine idGd ?_); first|refine zA ?_|refine zB ?_|refine zC ?_|refine zD ?_|refine zE ?_|((refine idGdD ?_); first|refine zF ?_|refine zG ?_|refine zH (fun hg=>?_) fun hg=>?_|refine zI ?_|refine zJ ?_|refine zK (fun hg=>?_) fun hg=>?_)|((refine idGdN ?_); first|refine zL ?_|refine zM ?_|refine zN (fun hg=>?_) fun hg=>?_|refine zO ?_|refine zP ?_|refine zQ (fun hg=>?_) fun hg=>?_)|refine zR ?_|refine zS ?_|refine zT ?_|refine zU ?_|refine zV ?_|refine zW ?_|refine zX (fun hg=>?_) fun hg=>?_|refine zY ?_|refine zZ ?_|refine yA (fun hg=>?_) fun hg=>?_)|((refine idPick ?_); first|refine yB ?_|refine yC ?_|refine yD ?_|refine yE ?_|refine yF ?_|refine yG ?_|refine yH ?_|refine yI ?_|refine yJ ?_|refine yK ?_)|((refine idCond ?_); first|refine yL ?_|refine yM ?_|refine yN ?_|refine yO ?_|refine yP (fun hg=>?_) fun hg=>?_|refine yQ ?_|refine yR ?_|refine yS (fun hg=>?_) fun hg=>?_|refine yT ?_|refine yU ?_|refine yV (fun hg=>?_) fun hg=>?_|refine yW ?_|refine yX ?_|refine yY (fun hg=>?_) fun hg=>?_))
  | ((with_reducible refine idO ?_); (with_reducible refine oM_gen fun Kv hK=>?_); simp [go_sem]; (try simp (disch := omega) only [wrapI64, wrapU8, wrapU32, wrapU64]); (first|refine hK _ _ ?_|refine And.intro (by omega) (hK _ _ ?_)); clear hK; clear Kv)))
  exact encodedNum_ok xs v hl hrow hx hlen k
end Go.Proofs.Cd
--G
namespace Go.Proofs.Cd
open Go Go.Sh Go.RowKit Go.Lib CodeSpec
set_option linter.unusedSimpArgs false
set_option maxRecDepth 10000
def IsRd (w : World) (b : Nat) (r : Rd) : Prop := w.heap[b]? = some (.cells #[.string ⟨r.rest.toArray⟩, .bool r.bad] 180 (0, 0))
theorem IsRd.c0 {w : World} {b : Nat} {r : Rd} (h : IsRd w b r) : w.cell? ⟨b, 0, none⟩ = some (.string ⟨r.rest.toArray⟩) := by
  unfold IsRd at h; simp [World.cell?, h]
theorem IsRd.c1 {w : World} {b : Nat} {r : Rd} (h : IsRd w b r) : w.cell? ⟨b, 1, none⟩ = some (.bool r.bad) := by
  unfold IsRd at h; simp [World.cell?, h]
theorem IsRd.fz {w : World} {b : Nat} {r : Rd} (h : IsRd w b r) (i : Nat) : w.frozen? ⟨b, i, none⟩ = false := by
  unfold IsRd at h; simp [World.frozen?, h]
theorem IsRd.lt {w : World} {b : Nat} {r : Rd} (h : IsRd w b r) : b < w.heap.size := (Array.getElem?_eq_some_iff.1 h).1
theorem heap_set {w : World} {b i : Nat} {cs : Array Value} {T : TypeId} {f : Nat × Nat} (h : w.heap[b]? = some (.cells cs T f)) (u : Value) : (w.setCell ⟨b, i, none⟩ u).heap[b]? = some (.cells (cs.setIfInBounds i u) T f) := by
  simp [World.setCell, Array.getElem?_modify, h]
theorem IsRd.set0 {w : World} {b : Nat} {r : Rd} (h : IsRd w b r) (l : List UInt8) : IsRd (w.setCell ⟨b, 0, none⟩ (.string ⟨l.toArray⟩)) b ⟨l, r.bad⟩ := by
  unfold IsRd at h ⊢
  rw [heap_set h]; rfl
theorem IsRd.set1 {w : World} {b : Nat} {r : Rd} (h : IsRd w b r) (t : Bool) : IsRd (w.setCell ⟨b, 1, none⟩ (.bool t)) b ⟨r.rest, t⟩ := by
  unfold IsRd at h ⊢
  rw [heap_set h]; rfl
theorem IsRd.below {w w' : World} {b : Nat} {r : Rd} (h : IsRd w b r) {B : Nat} (hb : Below B w w') (hB : b < B) : IsRd w' b r := by
  unfold IsRd at h ⊢
  rw [hb.block _ hB]; exact h
theorem IsRd.drew {w : World} {b : Nat} {r : Rd} (h : IsRd w b r) : IsRd w.drew b r := h
theorem grown_set (w : World) (b i : Nat) (u : Value) : w.grownBy (w.setCell ⟨b, i, none⟩ u) (some b) :=
  ⟨rfl, rfl, rfl, by simp [World.setCell], fun k _ hk => Below.heap_setCell _ _ _ _ (fun e => hk (by simp [e]))⟩
theorem size_set (w : World) (a : Addr) (u : Value) : (w.setCell a u).heap.size = w.heap.size := by simp [World.setCell]
theorem grown_drew (w : World) (b : Option Nat) : w.grownBy w.drew b := ⟨rfl, rfl, rfl, Nat.le_refl _, fun _ _ _ => rfl⟩
theorem fail_ok (b : Nat) (r : Rd) {K : Value → World → Prop} {w : World} (hr : IsRd w b r) (k : ∀ w', IsRd w' b failed → w.grownBy w' (some b) → K (.tuple #[]) w') : callM Tryz.prog 210 #[.pointer (some ⟨b, 0, none⟩)] K w := by
  apply sh_210_ok
  unfold sh_210
  have h0 := hr.c0
  have f0 := hr.fz 0
  have hr1 := hr.set0 []
  have f1 := hr1.fz 1
  have h1 := hr1.c1
  repeat (any_goals (first
  | (with_reducible first|refine pureM_in ?_|refine pureQ_in ?_|refine pureH_in ?_|((refine idGdQ ?_); refine gdQ_conv fun _=>?_)|((refine idGdH ?_); refine gdH_conv fun _=>?_)|refine And.intro (Eq.refl (α := World) _) ?_|refine forall_one ?_|((refine idGd ?_); first|refine zA ?_|refine zB ?_|refine zC ?_|refine zD ?_|refine zE ?_|((refine idGdD ?_); first|refine zF ?_|refine zG ?_|refine zH (fun hg=>?_) fun hg=>?_|refine zI ?_|refine zJ ?_|refine zK (fun hg=>?_) fun hg=>?_)|((refine idGdN ?_); first|refine zL ?_|refine zM ?_|refine zN (fun hg=>?_) fun hg=>?_|refine zO ?_|refine zP ?_|refine zQ (fun hg=>?_) fun hg=>?_)|refine zR ?_|refine zS ?_|refine zT ?_|refine zU ?_|refine zV ?_|refine zW ?_|refine zX (fun hg=>?_) fun hg=>?_|refine zY ?_|refine zZ ?_|refine yA (fun hg=>?_) fun hg=>?_)|((refine idPick ?_); first|refine yB ?_|refine yC ?_|refine yD ?_|refine yE ?_|refine yF ?_|refine yG ?_|refine yH ?_|refine yI ?_|refine yJ ?_|refine yK ?_)|((refine idCond ?_); first|refine yL ?_|refine yM ?_|refine yN ?_|refine yO ?_|refine yP (fun hg=>?_) fun hg=>?_|refine yQ ?_|refine yR ?_|refine yS (fun hg=>?_) fun hg=>?_|refine yT ?_|refine yU ?_|refine yV (fun hg=>?_) fun hg=>?_|refine yW ?_|refine yX ?_|refine yY (fun hg=>?_) fun hg=>?_))
  | ((with_reducible refine idOQ ?_); first|(with_reducible first|refine wA ?_|refine wB ?_|refine wC ?_|refine wD ?_|refine wE ?_|refine wF ?_|refine oQ_nil ?_)|((with_reducible refine oQ_one ?_ ?_); exact ⟨_, rfl⟩)|(with_reducible refine oQ_of ⟨_, rfl⟩ (fun W0 hW0 => by (refine oM_gen (fun Kv hK => ?_)); simp [go_sem]; (first | exact hK _ _ ⟨rfl, rfl⟩ | exact ⟨by omega, hK _ _ ⟨rfl, rfl⟩⟩)) ?_))
  | ((with_reducible refine idOH ?_); first|(with_reducible first|refine vA ?_|refine vB ?_|refine vC ?_|refine vD ?_|refine vE ?_|refine vF ?_|refine oH_nil ?_)|(with_reducible refine oH_of ⟨_, rfl⟩ (fun W0 hW0 => by (refine oM_gen (fun Kv hK => ?_)); simp [go_sem]; (first | exact hK _ _ ⟨rfl, rfl⟩ | exact ⟨by omega, hK _ _ ⟨rfl, rfl⟩⟩)) ?_))
  | ((with_reducible refine idO ?_); (with_reducible refine oM_gen fun Kv hK=>?_); simp [go_sem, h0, f0, h1, f1]; (try simp (disch := omega) only [wrapI64, wrapU8, wrapU32, wrapU64]); (first|refine hK _ _ ?_|refine And.intro (by omega) (hK _ _ ?_)); clear hK; clear Kv)))
  exact k _ (hr1.set1 true) (grownBy_trans (grown_set _ _ _ _) (grown_set _ _ _ _))
theorem close_ok (b : Nat) (r : Rd) (c : UInt8) {K : Value → World → Prop} {w : World} (hr : IsRd w b r) (k : ∀ w', IsRd w' b (rdClose r c) → w.grownBy w' (some b) → K (.tuple #[]) w') : callM Tryz.prog 190 #[.pointer (some ⟨b, 0, none⟩), .string ⟨#[c]⟩] K w := by
  apply sh_190_ok
  unfold sh_190
  have h0 := hr.c0
  have f0 := hr.fz 0
  repeat (any_goals (first
  | (with_reducible refine cutPrefix_ok r.rest [c] ?_)
  | (with_reducible first|refine pureM_in ?_|refine pureQ_in ?_|refine pureH_in ?_|((refine idGdQ ?_); refine gdQ_conv fun _=>?_)|((refine idGdH ?_); refine gdH_conv fun _=>?_)|refine And.intro (Eq.refl (α := World) _) ?_|refine forall_one ?_|((refine idGd ?_); first|refine zA ?_|refine zB ?_|refine zC ?_|refine zD ?_|refine zE ?_|((refine idGdD ?_); first|refine zF ?_|refine zG ?_|refine zH (fun hg=>?_) fun hg=>?_|refine zI ?_|refine zJ ?_|refine zK (fun hg=>?_) fun hg=>?_)|((refine idGdN ?_); first|refine zL ?_|refine zM ?_|refine zN (fun hg=>?_) fun hg=>?_|refine zO ?_|refine zP ?_|refine zQ (fun hg=>?_) fun hg=>?_)|refine zR ?_|refine zS ?_|refine zT ?_|refine zU ?_|refine zV ?_|refine zW ?_|refine zX (fun hg=>?_) fun hg=>?_|refine zY ?_|refine zZ ?_|refine yA (fun hg=>?_) fun hg=>?_)|((refine idPick ?_); first|refine yB ?_|refine yC ?_|refine yD ?_|refine yE ?_|refine yF ?_|refine yG ?_|refine yH ?_|refine yI ?_|refine yJ ?_|refine yK ?_)|((refine idCond ?_); first|refine yL ?_|refine yM ?_|refine yN ?_|refine yO ?_|refine yP (fun hg=>?_) fun hg=>?_|refine yQ ?_|refine yR ?_|refine yS (fun hg=>?_) fun hg=>?_|refine yT ?_|refine yU ?_|refine yV (fun hg=>?_) fun hg=>?_|refine yW ?_|refine yX ?_|refine yY (fun hg=>?_) fun hg=>?_))
  | ((with_reducible refine idOQ ?_); first|(with_reducible first|refine wA ?_|refine wB ?_|refine wC ?_|refine wD ?_|refine wE ?_|refine wF ?_|refine oQ_nil ?_)|((with_reducible refine oQ_one ?_ ?_); exact ⟨_, rfl⟩)|(with_reducible refine oQ_of ⟨_, rfl⟩ (fun W0 hW0 => by (refine oM_gen (fun Kv hK => ?_)); simp [go_sem]; (first | exact hK _ _ ⟨rfl, rfl⟩ | exact ⟨by omega, hK _ _ ⟨rfl, rfl⟩⟩)) ?_))
  | ((with_reducible refine idOH ?_); first|(with_reducible first|refine vA ?_|refine vB ?_|refine vC ?_|refine vD ?_|refine vE ?_|refine vF ?_|refine oH_nil ?_)|(with_reducible refine oH_of ⟨_, rfl⟩ (fun W0 hW0 => by (refine oM_gen (fun Kv hK => ?_)); simp [go_sem]; (first | exact hK _ _ ⟨rfl, rfl⟩ | exact ⟨by omega, hK _ _ ⟨rfl, rfl⟩⟩)) ?_))
  | ((with_reducible refine idO ?_); (with_reducible refine oM_gen fun Kv hK=>?_); simp [go_sem, h0, f0]; (try simp (disch := omega) only [wrapI64, wrapU8, wrapU32, wrapU64]); (first|refine hK _ _ ?_|refine And.intro (by omega) (hK _ _ ?_)); clear hK; clear Kv)))
  · skip
    obtain ⟨t, ht⟩ : ∃ t, r.rest = c :: t := by
      unfold hasPrefix at hg
      rw [List.isPrefixOf_iff_prefix] at hg
      obtain ⟨t, ht⟩ := hg
      exact ⟨t, by rw [← ht]; rfl⟩
    have e : trimPrefix r.rest [c] = t := by simp [trimPrefix, hasPrefix, ht]
    refine k _ ?_ (grown_set _ _ _ _)
    have := hr.set0 t
    rw [e]
    have e2 : rdClose r c = ⟨t, r.bad⟩ := by simp [rdClose, ht]
    rw [e2]
    exact this
  · skip
    refine fail_ok b _ (hr.set0 _) ?_
    intro w1 hr1 hg1
    refine k w1 ?_ (grownBy_trans (grown_set _ _ _ _) hg1)
    have e2 : rdClose r c = failed := by
      rcases rdClose_some r c with h | ⟨t, h, _⟩
      · exact h
      · rw [h] at hg; simp [hasPrefix] at hg
    rw [e2]
    exact hr1
theorem indexByte_take (l : List UInt8) (c : UInt8) : indexByte l c = if (l.takeWhile (· != c)).length < l.length then ((l.takeWhile (· != c)).length : Int) else -1 := by
  induction l with
  | nil => rfl
  | cons x l ih =>
    unfold indexByte
    by_cases hx : x = c
    · subst hx; simp
    · have h1 : (x == c) = false := by simp [hx]
      have tw : (x :: l).takeWhile (· != c) = x :: l.takeWhile (· != c) := by simp [hx]
      rw [tw, List.length_cons, List.length_cons, h1, if_neg (by simp)]
      by_cases hlt : (l.takeWhile (· != c)).length < l.length
      · rw [if_pos hlt] at ih
        have e : (indexByte l c == -1) = false := by
          rw [ih, beq_eq_false_iff_ne]
          omega
        rw [e, if_neg (by simp), ih, if_pos (by omega)]
        omega
      · rw [if_neg hlt] at ih
        rw [ih, if_pos (by simp), if_neg (by omega)]
/-- the string's own end -/
theorem take_twl (l : List UInt8) (c : UInt8) : l.take (l.takeWhile (· != c)).length = l.takeWhile (· != c) := by
  exact (List.prefix_iff_eq_take.1 (List.takeWhile_prefix _)).symm
set_option maxHeartbeats 1600000 in
theorem number_ok (b : Nat) (r : Rd) (e : UInt8) (least : Int) {K : Value → World → Prop} {w : World} (hl : Laid w) (hlen : r.rest.length < 2^60) (hr : IsRd w b r) (k : ∀ w', IsRd w' b (rdNumber r e least).2 → w.grownBy w' (some b) → K (.int .i64 (rdNumber r e least).1) w') : callM Tryz.prog 189 #[.pointer (some ⟨b, 0, none⟩), .int .u8 e.toNat, .int .i64 least] K w := by
  apply sh_189_ok
  unfold sh_189
  refine quietM_one ?_
  have hr1 : IsRd { w with drawn := w.drawn + 1 } b r := hr
  have hl1 : Laid { w with drawn := w.drawn + 1 } := hl.keep (fun _ _ => rfl) (Nat.le_refl _)
  have hg1 : w.grownBy { w with drawn := w.drawn + 1 } (some b) := grown_drew _ _
  generalize { w with drawn := w.drawn + 1 } = w1 at *
  have h0 := hr1.c0
  have hmin : (min (r.rest.length : Int) 21).toNat = min r.rest.length 21 := by omega
  obtain ⟨q, hq⟩ : ∃ q, q = r.rest.take 21 := ⟨_, rfl⟩
  obtain ⟨p, hp⟩ : ∃ p, p = q.takeWhile (· != e) := ⟨_, rfl⟩
  have htk : r.rest.take (min r.rest.length 21) = q := by
    rw [hq, List.take_eq_take_iff]; omega
  have hix := indexByte_take q e
  rw [← hp] at hix
  have hple : p.length ≤ q.length := by rw [hp]; exact (List.takeWhile_prefix _).length_le
  have hpl21 : q.length ≤ 21 := by rw [hq]; exact List.length_take_le ..
  have hpr : q.length ≤ r.rest.length := by rw [hq, List.length_take]; omega
  have hnum : rdNumber r e least = if p.length < q.length then (match canon p with | some n => if n < least then (0, failed) else (n, ⟨r.rest.drop (p.length + 1), r.bad⟩) | none => (0, failed)) else (0, failed) := by rw [hp, hq]; rfl
  have hsl : q.take p.length = p := by rw [hp]; exact take_twl _ _
  have fin : ∀ w2, Below w1.heap.size w1 w2 → rdNumber r e least = (0, failed) → callM Tryz.prog 210 #[.pointer (some ⟨b, 0, none⟩)] (fun _ w => K (.int .i64 0) w) w2 := by
    intro w2 hb2 hn
    refine fail_ok b _ (hr1.below hb2 hr1.lt) ?_
    intro w3 hr3 hg3
    have := k w3 (by rw [hn]; exact hr3) (grownBy_trans hg1 (grownBy_trans (grown_of_below hb2 _) hg3))
    rw [hn] at this
    exact this
  clear hp hq
  repeat (any_goals (first
  | (with_reducible first|refine pureM_in ?_|refine pureQ_in ?_|refine pureH_in ?_|((refine idGdQ ?_); refine gdQ_conv fun _=>?_)|((refine idGdH ?_); refine gdH_conv fun _=>?_)|refine And.intro (Eq.refl (α := World) _) ?_|refine forall_one ?_|((refine idGd ?_); first|refine zA ?_|refine zB ?_|refine zC ?_|refine zD ?_|refine zE ?_|((refine idGdD ?_); first|refine zF ?_|refine zG ?_|refine zH (fun hg=>?_) fun hg=>?_|refine zI ?_|refine zJ ?_|refine zK (fun hg=>?_) fun hg=>?_)|((refine idGdN ?_); first|refine zL ?_|refine zM ?_|refine zN (fun hg=>?_) fun hg=>?_|refine zO ?_|refine zP ?_|refine zQ (fun hg=>?_) fun hg=>?_)|refine zR ?_|refine zS ?_|refine zT ?_|refine zU ?_|refine zV ?_|refine zW ?_|refine zX (fun hg=>?_) fun hg=>?_|refine zY ?_|refine zZ ?_|refine yA (fun hg=>?_) fun hg=>?_)|((refine idPick ?_); first|refine yB ?_|refine yC ?_|refine yD ?_|refine yE ?_|refine yF ?_|refine yG ?_|refine yH ?_|refine yI ?_|refine yJ ?_|refine yK ?_)|((refine idCond ?_); first|refine yL ?_|refine yM ?_|refine yN ?_|refine yO ?_|refine yP (fun hg=>?_) fun hg=>?_|refine yQ ?_|refine yR ?_|refine yS (fun hg=>?_) fun hg=>?_|refine yT ?_|refine yU ?_|refine yV (fun hg=>?_) fun hg=>?_|refine yW ?_|refine yX ?_|refine yY (fun hg=>?_) fun hg=>?_))
  | ((with_reducible refine idOQ ?_); first|(with_reducible first|refine wA ?_|refine wB ?_|refine wC ?_|refine wD ?_|refine wE ?_|refine wF ?_|refine oQ_nil ?_)|((with_reducible refine oQ_one ?_ ?_); exact ⟨_, rfl⟩)|(with_reducible refine oQ_of ⟨_, rfl⟩ (fun W0 hW0 => by (refine oM_gen (fun Kv hK => ?_)); simp [go_sem]; (first | exact hK _ _ ⟨rfl, rfl⟩ | exact ⟨by omega, hK _ _ ⟨rfl, rfl⟩⟩)) ?_))
  | ((with_reducible refine idOH ?_); first|(with_reducible first|refine vA ?_|refine vB ?_|refine vC ?_|refine vD ?_|refine vE ?_|refine vF ?_|refine oH_nil ?_)|(with_reducible refine oH_of ⟨_, rfl⟩ (fun W0 hW0 => by (refine oM_gen (fun Kv hK => ?_)); simp [go_sem]; (first | exact hK _ _ ⟨rfl, rfl⟩ | exact ⟨by omega, hK _ _ ⟨rfl, rfl⟩⟩)) ?_))
  | ((with_reducible refine idO ?_); (with_reducible refine oM_gen fun Kv hK=>?_); simp [go_sem, h0, hmin, htk]; (try simp (disch := omega) only [wrapI64, wrapU8, wrapU32, wrapU64]); (first|refine hK _ _ ?_|refine And.intro (by omega) (hK _ _ ?_)); clear hK; clear Kv)))
  refine indexByte_ok _ e ?_
  rw [hix]
  by_cases hlt : p.length < q.length
  · rw [if_pos hlt] at hnum ⊢
    repeat (any_goals (first
    | (with_reducible first|refine pureM_in ?_|refine pureQ_in ?_|refine pureH_in ?_|((refine idGdQ ?_); refine gdQ_conv fun _=>?_)|((refine idGdH ?_); refine gdH_conv fun _=>?_)|refine And.intro (Eq.refl (α := World) _) ?_|refine forall_one ?_|((refine idGd ?_); first|refine zA ?_|refine zB ?_|refine zC ?_|refine zD ?_|refine zE ?_|((refine idGdD ?_); first|refine zF ?_|refine zG ?_|refine zH (fun hg=>?_) fun hg=>?_|refine zI ?_|refine zJ ?_|refine zK (fun hg=>?_) fun hg=>?_)|((refine idGdN ?_); first|refine zL ?_|refine zM ?_|refine zN (fun hg=>?_) fun hg=>?_|refine zO ?_|refine zP ?_|refine zQ (fun hg=>?_) fun hg=>?_)|refine zR ?_|refine zS ?_|refine zT ?_|refine zU ?_|refine zV ?_|refine zW ?_|refine zX (fun hg=>?_) fun hg=>?_|refine zY ?_|refine zZ ?_|refine yA (fun hg=>?_) fun hg=>?_)|((refine idPick ?_); first|refine yB ?_|refine yC ?_|refine yD ?_|refine yE ?_|refine yF ?_|refine yG ?_|refine yH ?_|refine yI ?_|refine yJ ?_|refine yK ?_)|((refine idCond ?_); first|refine yL ?_|refine yM ?_|refine yN ?_|refine yO ?_|refine yP (fun hg=>?_) fun hg=>?_|refine yQ ?_|refine yR ?_|refine yS (fun hg=>?_) fun hg=>?_|refine yT ?_|refine yU ?_|refine yV (fun hg=>?_) fun hg=>?_|refine yW ?_|refine yX ?_|refine yY (fun hg=>?_) fun hg=>?_))
    | ((with_reducible refine idOQ ?_); first|(with_reducible first|refine wA ?_|refine wB ?_|refine wC ?_|refine wD ?_|refine wE ?_|refine wF ?_|refine oQ_nil ?_)|((with_reducible refine oQ_one ?_ ?_); exact ⟨_, rfl⟩)|(with_reducible refine oQ_of ⟨_, rfl⟩ (fun W0 hW0 => by (refine oM_gen (fun Kv hK => ?_)); simp [go_sem]; (first | exact hK _ _ ⟨rfl, rfl⟩ | exact ⟨by omega, hK _ _ ⟨rfl, rfl⟩⟩)) ?_))
    | ((with_reducible refine idOH ?_); first|(with_reducible first|refine vA ?_|refine vB ?_|refine vC ?_|refine vD ?_|refine vE ?_|refine vF ?_|refine oH_nil ?_)|(with_reducible refine oH_of ⟨_, rfl⟩ (fun W0 hW0 => by (refine oM_gen (fun Kv hK => ?_)); simp [go_sem]; (first | exact hK _ _ ⟨rfl, rfl⟩ | exact ⟨by omega, hK _ _ ⟨rfl, rfl⟩⟩)) ?_))
    | ((with_reducible refine idO ?_); (with_reducible refine oM_gen fun Kv hK=>?_); simp [go_sem, hsl]; (try simp (disch := omega) only [wrapI64, wrapU8, wrapU32, wrapU64]); (first|refine hK _ _ ?_|refine And.intro (by omega) (hK _ _ ?_)); clear hK; clear Kv)))
    refine atoi_ok p (by omega) hl1 (fun n w2 hn hb2 => ?_) (fun v te pe w2 hn hb2 => ?_)
    · have hinr := atoiAll_bounds hn
      have hcan : canon p = if itoa n = p then some n else none := by unfold canon; rw [hn]
      repeat (any_goals (first
      | (with_reducible first|refine pureM_in ?_|refine pureQ_in ?_|refine pureH_in ?_|((refine idGdQ ?_); refine gdQ_conv fun _=>?_)|((refine idGdH ?_); refine gdH_conv fun _=>?_)|refine And.intro (Eq.refl (α := World) _) ?_|refine forall_one ?_|((refine idGd ?_); first|refine zA ?_|refine zB ?_|refine zC ?_|refine zD ?_|refine zE ?_|((refine idGdD ?_); first|refine zF ?_|refine zG ?_|refine zH (fun hg=>?_) fun hg=>?_|refine zI ?_|refine zJ ?_|refine zK (fun hg=>?_) fun hg=>?_)|((refine idGdN ?_); first|refine zL ?_|refine zM ?_|refine zN (fun hg=>?_) fun hg=>?_|refine zO ?_|refine zP ?_|refine zQ (fun hg=>?_) fun hg=>?_)|refine zR ?_|refine zS ?_|refine zT ?_|refine zU ?_|refine zV ?_|refine zW ?_|refine zX (fun hg=>?_) fun hg=>?_|refine zY ?_|refine zZ ?_|refine yA (fun hg=>?_) fun hg=>?_)|((refine idPick ?_); first|refine yB ?_|refine yC ?_|refine yD ?_|refine yE ?_|refine yF ?_|refine yG ?_|refine yH ?_|refine yI ?_|refine yJ ?_|refine yK ?_)|((refine idCond ?_); first|refine yL ?_|refine yM ?_|refine yN ?_|refine yO ?_|refine yP (fun hg=>?_) fun hg=>?_|refine yQ ?_|refine yR ?_|refine yS (fun hg=>?_) fun hg=>?_|refine yT ?_|refine yU ?_|refine yV (fun hg=>?_) fun hg=>?_|refine yW ?_|refine yX ?_|refine yY (fun hg=>?_) fun hg=>?_))
      | ((with_reducible refine idOQ ?_); first|(with_reducible first|refine wA ?_|refine wB ?_|refine wC ?_|refine wD ?_|refine wE ?_|refine wF ?_|refine oQ_nil ?_)|((with_reducible refine oQ_one ?_ ?_); exact ⟨_, rfl⟩)|(with_reducible refine oQ_of ⟨_, rfl⟩ (fun W0 hW0 => by (refine oM_gen (fun Kv hK => ?_)); simp [go_sem]; (first | exact hK _ _ ⟨rfl, rfl⟩ | exact ⟨by omega, hK _ _ ⟨rfl, rfl⟩⟩)) ?_))
      | ((with_reducible refine idOH ?_); first|(with_reducible first|refine vA ?_|refine vB ?_|refine vC ?_|refine vD ?_|refine vE ?_|refine vF ?_|refine oH_nil ?_)|(with_reducible refine oH_of ⟨_, rfl⟩ (fun W0 hW0 => by (refine oM_gen (fun Kv hK => ?_)); simp [go_sem]; (first | exact hK _ _ ⟨rfl, rfl⟩ | exact ⟨by omega, hK _ _ ⟨rfl, rfl⟩⟩)) ?_))
      | ((with_reducible refine idO ?_); (with_reducible refine oM_gen fun Kv hK=>?_); simp [go_sem]; (try simp (disch := omega) only [wrapI64, wrapU8, wrapU32, wrapU64]); (first|refine hK _ _ ?_|refine And.intro (by omega) (hK _ _ ?_)); clear hK; clear Kv)))
      refine ⟨fun w' => Below w2.heap.size w2 w', ⟨rfl, rfl, rfl, Nat.le_refl _, fun _ _ => rfl⟩, ?_⟩
      repeat (any_goals (first
      | (with_reducible first|refine pureM_in ?_|refine pureQ_in ?_|refine pureH_in ?_|((refine idGdQ ?_); refine gdQ_conv fun _=>?_)|((refine idGdH ?_); refine gdH_conv fun _=>?_)|refine And.intro (Eq.refl (α := World) _) ?_|refine forall_one ?_|((refine idGd ?_); first|refine zA ?_|refine zB ?_|refine zC ?_|refine zD ?_|refine zE ?_|((refine idGdD ?_); first|refine zF ?_|refine zG ?_|refine zH (fun hg=>?_) fun hg=>?_|refine zI ?_|refine zJ ?_|refine zK (fun hg=>?_) fun hg=>?_)|((refine idGdN ?_); first|refine zL ?_|refine zM ?_|refine zN (fun hg=>?_) fun hg=>?_|refine zO ?_|refine zP ?_|refine zQ (fun hg=>?_) fun hg=>?_)|refine zR ?_|refine zS ?_|refine zT ?_|refine zU ?_|refine zV ?_|refine zW ?_|refine zX (fun hg=>?_) fun hg=>?_|refine zY ?_|refine zZ ?_|refine yA (fun hg=>?_) fun hg=>?_)|((refine idPick ?_); first|refine yB ?_|refine yC ?_|refine yD ?_|refine yE ?_|refine yF ?_|refine yG ?_|refine yH ?_|refine yI ?_|refine yJ ?_|refine yK ?_)|((refine idCond ?_); first|refine yL ?_|refine yM ?_|refine yN ?_|refine yO ?_|refine yP (fun hg=>?_) fun hg=>?_|refine yQ ?_|refine yR ?_|refine yS (fun hg=>?_) fun hg=>?_|refine yT ?_|refine yU ?_|refine yV (fun hg=>?_) fun hg=>?_|refine yW ?_|refine yX ?_|refine yY (fun hg=>?_) fun hg=>?_))
      | ((with_reducible refine idOQ ?_); first|(with_reducible first|refine wA ?_|refine wB ?_|refine wC ?_|refine wD ?_|refine wE ?_|refine wF ?_|refine oQ_nil ?_)|((with_reducible refine oQ_one ?_ ?_); exact ⟨_, rfl⟩)|(with_reducible refine oQ_of ⟨_, rfl⟩ (fun W0 hW0 => by (refine oM_gen (fun Kv hK => ?_)); simp [go_sem, oM_nec, eqGuard]; (first | exact hK _ _ ⟨rfl, rfl⟩ | exact ⟨by omega, hK _ _ ⟨rfl, rfl⟩⟩)) ?_))
      | ((with_reducible refine idOH ?_); first|(with_reducible first|refine vA ?_|refine vB ?_|refine vC ?_|refine vD ?_|refine vE ?_|refine vF ?_|refine oH_nil ?_)|(with_reducible refine oH_of ⟨_, rfl⟩ (fun W0 hW0 => by (refine oM_gen (fun Kv hK => ?_)); simp [go_sem, oM_nec, eqGuard]; (first | exact hK _ _ ⟨rfl, rfl⟩ | exact ⟨by omega, hK _ _ ⟨rfl, rfl⟩⟩)) ?_))
      | ((with_reducible refine idO ?_); (with_reducible refine oM_gen fun Kv hK=>?_); simp [go_sem, oM_nec, eqGuard]; (try simp (disch := omega) only [wrapI64, wrapU8, wrapU32, wrapU64]); (first|refine hK _ _ ?_|refine And.intro (by omega) (hK _ _ ?_)); clear hK; clear Kv)))
      refine callQ_of (C := fun w0 => Below w2.heap.size w2 w0) (v := .string ⟨(itoa n).toArray⟩) (fun w3 hw3 => itoa_ok n hinr (hl1.below (hb2.trans (hw3.mono hb2.size)) hl1.size) (fun w4 hb4 => ⟨rfl, hw3.trans (hb4.mono hw3.size)⟩)) ?_
      repeat (any_goals (first
      | (with_reducible first|refine pureM_in ?_|refine pureQ_in ?_|refine pureH_in ?_|((refine idGdQ ?_); refine gdQ_conv fun _=>?_)|((refine idGdH ?_); refine gdH_conv fun _=>?_)|refine And.intro (Eq.refl (α := World) _) ?_|refine forall_one ?_|((refine idGd ?_); first|refine zA ?_|refine zB ?_|refine zC ?_|refine zD ?_|refine zE ?_|((refine idGdD ?_); first|refine zF ?_|refine zG ?_|refine zH (fun hg=>?_) fun hg=>?_|refine zI ?_|refine zJ ?_|refine zK (fun hg=>?_) fun hg=>?_)|((refine idGdN ?_); first|refine zL ?_|refine zM ?_|refine zN (fun hg=>?_) fun hg=>?_|refine zO ?_|refine zP ?_|refine zQ (fun hg=>?_) fun hg=>?_)|refine zR ?_|refine zS ?_|refine zT ?_|refine zU ?_|refine zV ?_|refine zW ?_|refine zX (fun hg=>?_) fun hg=>?_|refine zY ?_|refine zZ ?_|refine yA (fun hg=>?_) fun hg=>?_)|((refine idPick ?_); first|refine yB ?_|refine yC ?_|refine yD ?_|refine yE ?_|refine yF ?_|refine yG ?_|refine yH ?_|refine yI ?_|refine yJ ?_|refine yK ?_)|((refine idCond ?_); first|refine yL ?_|refine yM ?_|refine yN ?_|refine yO ?_|refine yP (fun hg=>?_) fun hg=>?_|refine yQ ?_|refine yR ?_|refine yS (fun hg=>?_) fun hg=>?_|refine yT ?_|refine yU ?_|refine yV (fun hg=>?_) fun hg=>?_|refine yW ?_|refine yX ?_|refine yY (fun hg=>?_) fun hg=>?_))
      | ((with_reducible refine idOQ ?_); first|(with_reducible first|refine wA ?_|refine wB ?_|refine wC ?_|refine wD ?_|refine wE ?_|refine wF ?_|refine oQ_nil ?_)|((with_reducible refine oQ_one ?_ ?_); exact ⟨_, rfl⟩)|(with_reducible refine oQ_of ⟨_, rfl⟩ (fun W0 hW0 => by (refine oM_gen (fun Kv hK => ?_)); simp [go_sem, hsl]; (first | exact hK _ _ ⟨rfl, rfl⟩ | exact ⟨by omega, hK _ _ ⟨rfl, rfl⟩⟩)) ?_))
      | ((with_reducible refine idOH ?_); first|(with_reducible first|refine vA ?_|refine vB ?_|refine vC ?_|refine vD ?_|refine vE ?_|refine vF ?_|refine oH_nil ?_)|(with_reducible refine oH_of ⟨_, rfl⟩ (fun W0 hW0 => by (refine oM_gen (fun Kv hK => ?_)); simp [go_sem, hsl]; (first | exact hK _ _ ⟨rfl, rfl⟩ | exact ⟨by omega, hK _ _ ⟨rfl, rfl⟩⟩)) ?_))
      | ((with_reducible refine idO ?_); (with_reducible refine oM_gen fun Kv hK=>?_); simp [go_sem, hsl]; (try simp (disch := omega) only [wrapI64, wrapU8, wrapU32, wrapU64]); (first|refine hK _ _ ?_|refine And.intro (by omega) (hK _ _ ?_)); clear hK; clear Kv)))
      · rw [hcan, if_pos hg] at hnum
        intro w3 hw3
        have hb3 : Below w1.heap.size w1 w3 := hb2.trans (hw3.mono hb2.size)
        have hr3 := hr1.below hb3 hr1.lt
        have h3 := hr3.c0
        have f3 := hr3.fz 0
        simp only at hnum
        by_cases hle : n < least
        · rw [if_pos hle] at hnum
          repeat (any_goals (first
          | (with_reducible refine fin _ hb3 hnum)
          | (with_reducible first|refine pureM_in ?_|refine pureQ_in ?_|refine pureH_in ?_|((refine idGdQ ?_); refine gdQ_conv fun _=>?_)|((refine idGdH ?_); refine gdH_conv fun _=>?_)|refine And.intro (Eq.refl (α := World) _) ?_|refine forall_one ?_|((refine idGd ?_); first|refine zA ?_|refine zB ?_|refine zC ?_|refine zD ?_|refine zE ?_|((refine idGdD ?_); first|refine zF ?_|refine zG ?_|refine zH (fun hg=>?_) fun hg=>?_|refine zI ?_|refine zJ ?_|refine zK (fun hg=>?_) fun hg=>?_)|((refine idGdN ?_); first|refine zL ?_|refine zM ?_|refine zN (fun hg=>?_) fun hg=>?_|refine zO ?_|refine zP ?_|refine zQ (fun hg=>?_) fun hg=>?_)|refine zR ?_|refine zS ?_|refine zT ?_|refine zU ?_|refine zV ?_|refine zW ?_|refine zX (fun hg=>?_) fun hg=>?_|refine zY ?_|refine zZ ?_|refine yA (fun hg=>?_) fun hg=>?_)|((refine idPick ?_); first|refine yB ?_|refine yC ?_|refine yD ?_|refine yE ?_|refine yF ?_|refine yG ?_|refine yH ?_|refine yI ?_|refine yJ ?_|refine yK ?_)|((refine idCond ?_); first|refine yL ?_|refine yM ?_|refine yN ?_|refine yO ?_|refine yP (fun hg=>?_) fun hg=>?_|refine yQ ?_|refine yR ?_|refine yS (fun hg=>?_) fun hg=>?_|refine yT ?_|refine yU ?_|refine yV (fun hg=>?_) fun hg=>?_|refine yW ?_|refine yX ?_|refine yY (fun hg=>?_) fun hg=>?_))
          | ((with_reducible refine idOQ ?_); first|(with_reducible first|refine wA ?_|refine wB ?_|refine wC ?_|refine wD ?_|refine wE ?_|refine wF ?_|refine oQ_nil ?_)|((with_reducible refine oQ_one ?_ ?_); exact ⟨_, rfl⟩)|(with_reducible refine oQ_of ⟨_, rfl⟩ (fun W0 hW0 => by (refine oM_gen (fun Kv hK => ?_)); simp [go_sem]; (first | exact hK _ _ ⟨rfl, rfl⟩ | exact ⟨by omega, hK _ _ ⟨rfl, rfl⟩⟩)) ?_))
          | ((with_reducible refine idOH ?_); first|(with_reducible first|refine vA ?_|refine vB ?_|refine vC ?_|refine vD ?_|refine vE ?_|refine vF ?_|refine oH_nil ?_)|(with_reducible refine oH_of ⟨_, rfl⟩ (fun W0 hW0 => by (refine oM_gen (fun Kv hK => ?_)); simp [go_sem]; (first | exact hK _ _ ⟨rfl, rfl⟩ | exact ⟨by omega, hK _ _ ⟨rfl, rfl⟩⟩)) ?_))
          | ((with_reducible refine idO ?_); (with_reducible refine oM_gen fun Kv hK=>?_); simp [go_sem]; (try simp (disch := omega) only [wrapI64, wrapU8, wrapU32, wrapU64]); (first|refine hK _ _ ?_|refine And.intro (by omega) (hK _ _ ?_)); clear hK; clear Kv)))
        · rw [if_neg hle] at hnum
          repeat (any_goals (first
          | (with_reducible first|refine pureM_in ?_|refine pureQ_in ?_|refine pureH_in ?_|((refine idGdQ ?_); refine gdQ_conv fun _=>?_)|((refine idGdH ?_); refine gdH_conv fun _=>?_)|refine And.intro (Eq.refl (α := World) _) ?_|refine forall_one ?_|((refine idGd ?_); first|refine zA ?_|refine zB ?_|refine zC ?_|refine zD ?_|refine zE ?_|((refine idGdD ?_); first|refine zF ?_|refine zG ?_|refine zH (fun hg=>?_) fun hg=>?_|refine zI ?_|refine zJ ?_|refine zK (fun hg=>?_) fun hg=>?_)|((refine idGdN ?_); first|refine zL ?_|refine zM ?_|refine zN (fun hg=>?_) fun hg=>?_|refine zO ?_|refine zP ?_|refine zQ (fun hg=>?_) fun hg=>?_)|refine zR ?_|refine zS ?_|refine zT ?_|refine zU ?_|refine zV ?_|refine zW ?_|refine zX (fun hg=>?_) fun hg=>?_|refine zY ?_|refine zZ ?_|refine yA (fun hg=>?_) fun hg=>?_)|((refine idPick ?_); first|refine yB ?_|refine yC ?_|refine yD ?_|refine yE ?_|refine yF ?_|refine yG ?_|refine yH ?_|refine yI ?_|refine yJ ?_|refine yK ?_)|((refine idCond ?_); first|refine yL ?_|refine yM ?_|refine yN ?_|refine yO ?_|refine yP (fun hg=>?_) fun hg=>?_|refine yQ ?_|refine yR ?_|refine yS (fun hg=>?_) fun hg=>?_|refine yT ?_|refine yU ?_|refine yV (fun hg=>?_) fun hg=>?_|refine yW ?_|refine yX ?_|refine yY (fun hg=>?_) fun hg=>?_))
          | ((with_reducible refine idOQ ?_); first|(with_reducible first|refine wA ?_|refine wB ?_|refine wC ?_|refine wD ?_|refine wE ?_|refine wF ?_|refine oQ_nil ?_)|((with_reducible refine oQ_one ?_ ?_); exact ⟨_, rfl⟩)|(with_reducible refine oQ_of ⟨_, rfl⟩ (fun W0 hW0 => by (refine oM_gen (fun Kv hK => ?_)); simp [go_sem]; (first | exact hK _ _ ⟨rfl, rfl⟩ | exact ⟨by omega, hK _ _ ⟨rfl, rfl⟩⟩)) ?_))
          | ((with_reducible refine idOH ?_); first|(with_reducible first|refine vA ?_|refine vB ?_|refine vC ?_|refine vD ?_|refine vE ?_|refine vF ?_|refine oH_nil ?_)|(with_reducible refine oH_of ⟨_, rfl⟩ (fun W0 hW0 => by (refine oM_gen (fun Kv hK => ?_)); simp [go_sem]; (first | exact hK _ _ ⟨rfl, rfl⟩ | exact ⟨by omega, hK _ _ ⟨rfl, rfl⟩⟩)) ?_))
          | ((with_reducible refine idO ?_); (with_reducible refine oM_gen fun Kv hK=>?_); simp [go_sem, h3, f3]; (try simp (disch := omega) only [wrapI64, wrapU8, wrapU32, wrapU64]); (first|refine hK _ _ ?_|refine And.intro (by omega) (hK _ _ ?_)); clear hK; clear Kv)))
          have := k _ (by rw [hnum]; exact hr3.set0 _) (grownBy_trans hg1 (grownBy_trans (grown_of_below hb3 _) (grown_set _ _ _ _)))
          rw [hnum] at this
          exact this
      · rw [hcan, if_neg hg] at hnum
        simp only at hnum
        intro w3 hw3
        repeat (any_goals (first
        | (with_reducible refine fin _ (hb2.trans (hw3.mono hb2.size)) hnum)
        | (with_reducible first|refine pureM_in ?_|refine pureQ_in ?_|refine pureH_in ?_|((refine idGdQ ?_); refine gdQ_conv fun _=>?_)|((refine idGdH ?_); refine gdH_conv fun _=>?_)|refine And.intro (Eq.refl (α := World) _) ?_|refine forall_one ?_|((refine idGd ?_); first|refine zA ?_|refine zB ?_|refine zC ?_|refine zD ?_|refine zE ?_|((refine idGdD ?_); first|refine zF ?_|refine zG ?_|refine zH (fun hg=>?_) fun hg=>?_|refine zI ?_|refine zJ ?_|refine zK (fun hg=>?_) fun hg=>?_)|((refine idGdN ?_); first|refine zL ?_|refine zM ?_|refine zN (fun hg=>?_) fun hg=>?_|refine zO ?_|refine zP ?_|refine zQ (fun hg=>?_) fun hg=>?_)|refine zR ?_|refine zS ?_|refine zT ?_|refine zU ?_|refine zV ?_|refine zW ?_|refine zX (fun hg=>?_) fun hg=>?_|refine zY ?_|refine zZ ?_|refine yA (fun hg=>?_) fun hg=>?_)|((refine idPick ?_); first|refine yB ?_|refine yC ?_|refine yD ?_|refine yE ?_|refine yF ?_|refine yG ?_|refine yH ?_|refine yI ?_|refine yJ ?_|refine yK ?_)|((refine idCond ?_); first|refine yL ?_|refine yM ?_|refine yN ?_|refine yO ?_|refine yP (fun hg=>?_) fun hg=>?_|refine yQ ?_|refine yR ?_|refine yS (fun hg=>?_) fun hg=>?_|refine yT ?_|refine yU ?_|refine yV (fun hg=>?_) fun hg=>?_|refine yW ?_|refine yX ?_|refine yY (fun hg=>?_) fun hg=>?_))
        | ((with_reducible refine idOQ ?_); first|(with_reducible first|refine wA ?_|refine wB ?_|refine wC ?_|refine wD ?_|refine wE ?_|refine wF ?_|refine oQ_nil ?_)|((with_reducible refine oQ_one ?_ ?_); exact ⟨_, rfl⟩)|(with_reducible refine oQ_of ⟨_, rfl⟩ (fun W0 hW0 => by (refine oM_gen (fun Kv hK => ?_)); simp [go_sem]; (first | exact hK _ _ ⟨rfl, rfl⟩ | exact ⟨by omega, hK _ _ ⟨rfl, rfl⟩⟩)) ?_))
        | ((with_reducible refine idOH ?_); first|(with_reducible first|refine vA ?_|refine vB ?_|refine vC ?_|refine vD ?_|refine vE ?_|refine vF ?_|refine oH_nil ?_)|(with_reducible refine oH_of ⟨_, rfl⟩ (fun W0 hW0 => by (refine oM_gen (fun Kv hK => ?_)); simp [go_sem]; (first | exact hK _ _ ⟨rfl, rfl⟩ | exact ⟨by omega, hK _ _ ⟨rfl, rfl⟩⟩)) ?_))
        | ((with_reducible refine idO ?_); (with_reducible refine oM_gen fun Kv hK=>?_); simp [go_sem]; (try simp (disch := omega) only [wrapI64, wrapU8, wrapU32, wrapU64]); (first|refine hK _ _ ?_|refine And.intro (by omega) (hK _ _ ?_)); clear hK; clear Kv)))
    · have hcan : canon p = none := by
        unfold canon
        cases hc : atoiAll p with
        | ok n => exact absurd hc (hn n)
        | «syntax» => rfl
        | range => rfl
      rw [hcan] at hnum
      simp only at hnum
      repeat (any_goals (first
      | (with_reducible first|refine pureM_in ?_|refine pureQ_in ?_|refine pureH_in ?_|((refine idGdQ ?_); refine gdQ_conv fun _=>?_)|((refine idGdH ?_); refine gdH_conv fun _=>?_)|refine And.intro (Eq.refl (α := World) _) ?_|refine forall_one ?_|((refine idGd ?_); first|refine zA ?_|refine zB ?_|refine zC ?_|refine zD ?_|refine zE ?_|((refine idGdD ?_); first|refine zF ?_|refine zG ?_|refine zH (fun hg=>?_) fun hg=>?_|refine zI ?_|refine zJ ?_|refine zK (fun hg=>?_) fun hg=>?_)|((refine idGdN ?_); first|refine zL ?_|refine zM ?_|refine zN (fun hg=>?_) fun hg=>?_|refine zO ?_|refine zP ?_|refine zQ (fun hg=>?_) fun hg=>?_)|refine zR ?_|refine zS ?_|refine zT ?_|refine zU ?_|refine zV ?_|refine zW ?_|refine zX (fun hg=>?_) fun hg=>?_|refine zY ?_|refine zZ ?_|refine yA (fun hg=>?_) fun hg=>?_)|((refine idPick ?_); first|refine yB ?_|refine yC ?_|refine yD ?_|refine yE ?_|refine yF ?_|refine yG ?_|refine yH ?_|refine yI ?_|refine yJ ?_|refine yK ?_)|((refine idCond ?_); first|refine yL ?_|refine yM ?_|refine yN ?_|refine yO ?_|refine yP (fun hg=>?_) fun hg=>?_|refine yQ ?_|refine yR ?_|refine yS (fun hg=>?_) fun hg=>?_|refine yT ?_|refine yU ?_|refine yV (fun hg=>?_) fun hg=>?_|refine yW ?_|refine yX ?_|refine yY (fun hg=>?_) fun hg=>?_))
      | ((with_reducible refine idOQ ?_); first|(with_reducible first|refine wA ?_|refine wB ?_|refine wC ?_|refine wD ?_|refine wE ?_|refine wF ?_|refine oQ_nil ?_)|((with_reducible refine oQ_one ?_ ?_); exact ⟨_, rfl⟩)|(with_reducible refine oQ_of ⟨_, rfl⟩ (fun W0 hW0 => by (refine oM_gen (fun Kv hK => ?_)); simp [go_sem]; (first | exact hK _ _ ⟨rfl, rfl⟩ | exact ⟨by omega, hK _ _ ⟨rfl, rfl⟩⟩)) ?_))
      | ((with_reducible refine idOH ?_); first|(with_reducible first|refine vA ?_|refine vB ?_|refine vC ?_|refine vD ?_|refine vE ?_|refine vF ?_|refine oH_nil ?_)|(with_reducible refine oH_of ⟨_, rfl⟩ (fun W0 hW0 => by (refine oM_gen (fun Kv hK => ?_)); simp [go_sem]; (first | exact hK _ _ ⟨rfl, rfl⟩ | exact ⟨by omega, hK _ _ ⟨rfl, rfl⟩⟩)) ?_))
      | ((with_reducible refine idO ?_); (with_reducible refine oM_gen fun Kv hK=>?_); simp [go_sem]; (try simp (disch := omega) only [wrapI64, wrapU8, wrapU32, wrapU64]); (first|refine hK _ _ ?_|refine And.intro (by omega) (hK _ _ ?_)); clear hK; clear Kv)))
      refine quietM_one ?_
      repeat (any_goals (first
      | (with_reducible first|refine pureM_in ?_|refine pureQ_in ?_|refine pureH_in ?_|((refine idGdQ ?_); refine gdQ_conv fun _=>?_)|((refine idGdH ?_); refine gdH_conv fun _=>?_)|refine And.intro (Eq.refl (α := World) _) ?_|refine forall_one ?_|((refine idGd ?_); first|refine zA ?_|refine zB ?_|refine zC ?_|refine zD ?_|refine zE ?_|((refine idGdD ?_); first|refine zF ?_|refine zG ?_|refine zH (fun hg=>?_) fun hg=>?_|refine zI ?_|refine zJ ?_|refine zK (fun hg=>?_) fun hg=>?_)|((refine idGdN ?_); first|refine zL ?_|refine zM ?_|refine zN (fun hg=>?_) fun hg=>?_|refine zO ?_|refine zP ?_|refine zQ (fun hg=>?_) fun hg=>?_)|refine zR ?_|refine zS ?_|refine zT ?_|refine zU ?_|refine zV ?_|refine zW ?_|refine zX (fun hg=>?_) fun hg=>?_|refine zY ?_|refine zZ ?_|refine yA (fun hg=>?_) fun hg=>?_)|((refine idPick ?_); first|refine yB ?_|refine yC ?_|refine yD ?_|refine yE ?_|refine yF ?_|refine yG ?_|refine yH ?_|refine yI ?_|refine yJ ?_|refine yK ?_)|((refine idCond ?_); first|refine yL ?_|refine yM ?_|refine yN ?_|refine yO ?_|refine yP (fun hg=>?_) fun hg=>?_|refine yQ ?_|refine yR ?_|refine yS (fun hg=>?_) fun hg=>?_|refine yT ?_|refine yU ?_|refine yV (fun hg=>?_) fun hg=>?_|refine yW ?_|refine yX ?_|refine yY (fun hg=>?_) fun hg=>?_))
      | ((with_reducible refine idOQ ?_); first|(with_reducible first|refine wA ?_|refine wB ?_|refine wC ?_|refine wD ?_|refine wE ?_|refine wF ?_|refine oQ_nil ?_)|((with_reducible refine oQ_one ?_ ?_); exact ⟨_, rfl⟩)|(with_reducible refine oQ_of ⟨_, rfl⟩ (fun W0 hW0 => by (refine oM_gen (fun Kv hK => ?_)); simp [go_sem, oM_nec, eqGuard]; (first | exact hK _ _ ⟨rfl, rfl⟩ | exact ⟨by omega, hK _ _ ⟨rfl, rfl⟩⟩)) ?_))
      | ((with_reducible refine idOH ?_); first|(with_reducible first|refine vA ?_|refine vB ?_|refine vC ?_|refine vD ?_|refine vE ?_|refine vF ?_|refine oH_nil ?_)|(with_reducible refine oH_of ⟨_, rfl⟩ (fun W0 hW0 => by (refine oM_gen (fun Kv hK => ?_)); simp [go_sem, oM_nec, eqGuard]; (first | exact hK _ _ ⟨rfl, rfl⟩ | exact ⟨by omega, hK _ _ ⟨rfl, rfl⟩⟩)) ?_))
      | ((with_reducible refine idO ?_); (with_reducible refine oM_gen fun Kv hK=>?_); simp [go_sem, oM_nec, eqGuard]; (try simp (disch := omega) only [wrapI64, wrapU8, wrapU32, wrapU64]); (first|refine hK _ _ ?_|refine And.intro (by omega) (hK _ _ ?_)); clear hK; clear Kv)))
      exact fin _ hb2.drew hnum
  · rw [if_neg hlt] at hnum ⊢
    repeat (any_goals (first
    | (with_reducible refine fin _ (Below.refl _ _) hnum)
    | (with_reducible first|refine pureM_in ?_|refine pureQ_in ?_|refine pureH_in ?_|((refine idGdQ ?_); refine gdQ_conv fun _=>?_)|((refine idGdH ?_); refine gdH_conv fun _=>?_)|refine And.intro (Eq.refl (α := World) _) ?_|refine forall_one ?_|((refine idGd ?_); first|refine zA ?_|refine zB ?_|refine zC ?_|refine zD ?_|refine zE ?_|((refine idGdD ?_); first|refine zF ?_|refine zG ?_|refine zH (fun hg=>?_) fun hg=>?_|refine zI ?_|refine zJ ?_|refine zK (fun hg=>?_) fun hg=>?_)|((refine idGdN ?_); first|refine zL ?_|refine zM ?_|refine zN (fun hg=>?_) fun hg=>?_|refine zO ?_|refine zP ?_|refine zQ (fun hg=>?_) fun hg=>?_)|refine zR ?_|refine zS ?_|refine zT ?_|refine zU ?_|refine zV ?_|refine zW ?_|refine zX (fun hg=>?_) fun hg=>?_|refine zY ?_|refine zZ ?_|refine yA (fun hg=>?_) fun hg=>?_)|((refine idPick ?_); first|refine yB ?_|refine yC ?_|refine yD ?_|refine yE ?_|refine yF ?_|refine yG ?_|refine yH ?_|refine yI ?_|refine yJ ?_|refine yK ?_)|((refine idCond ?_); first|refine yL ?_|refine yM ?_|refine yN ?_|refine yO ?_|refine yP (fun hg=>?_) fun hg=>?_|refine yQ ?_|refine yR ?_|refine yS (fun hg=>?_) fun hg=>?_|refine yT ?_|refine yU ?_|refine yV (fun hg=>?_) fun hg=>?_|refine yW ?_|refine yX ?_|refine yY (fun hg=>?_) fun hg=>?_))
    | ((with_reducible refine idOQ ?_); first|(with_reducible first|refine wA ?_|refine wB ?_|refine wC ?_|refine wD ?_|refine wE ?_|refine wF ?_|refine oQ_nil ?_)|((with_reducible refine oQ_one ?_ ?_); exact ⟨_, rfl⟩)|(with_reducible refine oQ_of ⟨_, rfl⟩ (fun W0 hW0 => by (refine oM_gen (fun Kv hK => ?_)); simp [go_sem]; (first | exact hK _ _ ⟨rfl, rfl⟩ | exact ⟨by omega, hK _ _ ⟨rfl, rfl⟩⟩)) ?_))
    | ((with_reducible refine idOH ?_); first|(with_reducible first|refine vA ?_|refine vB ?_|refine vC ?_|refine vD ?_|refine vE ?_|refine vF ?_|refine oH_nil ?_)|(with_reducible refine oH_of ⟨_, rfl⟩ (fun W0 hW0 => by (refine oM_gen (fun Kv hK => ?_)); simp [go_sem]; (first | exact hK _ _ ⟨rfl, rfl⟩ | exact ⟨by omega, hK _ _ ⟨rfl, rfl⟩⟩)) ?_))
    | ((with_reducible refine idO ?_); (with_reducible refine oM_gen fun Kv hK=>?_); simp [go_sem]; (try simp (disch := omega) only [wrapI64, wrapU8, wrapU32, wrapU64]); (first|refine hK _ _ ?_|refine And.intro (by omega) (hK _ _ ?_)); clear hK; clear Kv)))
end Go.Proofs.Cd
--G
namespace Go.Proofs.Cd
open Go Go.Sh Go.RowKit Go.Lib CodeSpec
set_option linter.unusedSimpArgs false
set_option maxRecDepth 10000
theorem rest_le (r : Rd) (e : UInt8) (least : Int) : (rdNumber r e least).2.rest.length ≤ r.rest.length := by
  rcases rdNumber_some r e least with h | ⟨n, t, h, h2, _⟩
  · rw [h]; simp [failed]
  · rw [h, h2]; simp; omega
theorem rest_lt (r : Rd) (e : UInt8) (least : Int) : (rdNumber r e least).2 = failed ∨ (rdNumber r e least).2.rest.length < r.rest.length := by
  rcases rdNumber_some r e least with h | ⟨n, t, h, h2, _⟩
  · rw [h]; simp [failed]
  · rw [h, h2]; simp; right; omega
theorem rint_ok (b : Nat) (r : Rd) {K : Value → World → Prop} {w : World} (hl : Laid w) (hlen : r.rest.length < 2^60) (hr : IsRd w b r) (k : ∀ w', IsRd w' b (rdInt r).2 → w.grownBy w' (some b) → K (.int .i64 (rdInt r).1) w') : callM Tryz.prog 162 #[.pointer (some ⟨b, 0, none⟩)] K w := by
  apply sh_162_ok
  unfold sh_162
  exact number_ok b r 59 (-9223372036854775808) hl hlen hr k
theorem open_ok (s : List UInt8) {K : Value → World → Prop} {w : World} (k : ∀ w', IsRd w' w.heap.size ⟨s, false⟩ → Below w.heap.size w w' → K (.pointer (some ⟨w.heap.size, 0, none⟩)) w') : callM Tryz.prog 116 #[.string ⟨s.toArray⟩] K w := by
  apply sh_116_ok
  unfold sh_116
  repeat (any_goals (first
  | (with_reducible first|refine pureM_in ?_|((refine idGd ?_); first|refine zA ?_|refine zB ?_|refine zC ?_|refine zD ?_|refine zE ?_|((refine idGdD ?_); first|refine zF ?_|refine zG ?_|refine zH (fun hg=>?_) fun hg=>?_|refine zI ?_|refine zJ ?_|refine zK (fun hg=>?_) fun hg=>?_)|((refine idGdN ?_); first|refine zL ?_|refine zM ?_|refine zN (fun hg=>?_) fun hg=>?_|refine zO ?_|refine zP ?_|refine zQ (fun hg=>?_) fun hg=>?_)|refine zR ?_|refine zS ?_|refine zT ?_|refine zU ?_|refine zV ?_|refine zW ?_|refine zX (fun hg=>?_) fun hg=>?_|refine zY ?_|refine zZ ?_|refine yA (fun hg=>?_) fun hg=>?_)|((refine idPick ?_); first|refine yB ?_|refine yC ?_|refine yD ?_|refine yE ?_|refine yF ?_|refine yG ?_|refine yH ?_|refine yI ?_|refine yJ ?_|refine yK ?_)|((refine idCond ?_); first|refine yL ?_|refine yM ?_|refine yN ?_|refine yO ?_|refine yP (fun hg=>?_) fun hg=>?_|refine yQ ?_|refine yR ?_|refine yS (fun hg=>?_) fun hg=>?_|refine yT ?_|refine yU ?_|refine yV (fun hg=>?_) fun hg=>?_|refine yW ?_|refine yX ?_|refine yY (fun hg=>?_) fun hg=>?_))
  | ((with_reducible refine idO ?_); (with_reducible refine oM_gen fun Kv hK=>?_); simp [go_sem]; (try simp (disch := omega) only [wrapI64, wrapU8, wrapU32, wrapU64]); (first|refine hK _ _ ?_|refine And.intro (by omega) (hK _ _ ?_)); clear hK; clear Kv)))
  exact k _ (by unfold IsRd; exact heap_alloc_new _ _) ((Below.refl _ _).alloc (Nat.le_refl _) _)
def rdDone (r : Rd) : Bool := !r.bad && decide (r.rest = [])
theorem done_ok (b : Nat) (r : Rd) {K : Value → World → Prop} {w : World} (hr : IsRd w b r) (k : K (.bool (rdDone r)) w) : callM Tryz.prog 118 #[.pointer (some ⟨b, 0, none⟩)] K w := by
  apply sh_118_ok
  unfold sh_118
  have h0 := hr.c0
  have h1 := hr.c1
  repeat (any_goals (first
  | (with_reducible first|refine pureM_in ?_|((refine idGd ?_); first|refine zA ?_|refine zB ?_|refine zC ?_|refine zD ?_|refine zE ?_|((refine idGdD ?_); first|refine zF ?_|refine zG ?_|refine zH (fun hg=>?_) fun hg=>?_|refine zI ?_|refine zJ ?_|refine zK (fun hg=>?_) fun hg=>?_)|((refine idGdN ?_); first|refine zL ?_|refine zM ?_|refine zN (fun hg=>?_) fun hg=>?_|refine zO ?_|refine zP ?_|refine zQ (fun hg=>?_) fun hg=>?_)|refine zR ?_|refine zS ?_|refine zT ?_|refine zU ?_|refine zV ?_|refine zW ?_|refine zX (fun hg=>?_) fun hg=>?_|refine zY ?_|refine zZ ?_|refine yA (fun hg=>?_) fun hg=>?_)|((refine idPick ?_); first|refine yB ?_|refine yC ?_|refine yD ?_|refine yE ?_|refine yF ?_|refine yG ?_|refine yH ?_|refine yI ?_|refine yJ ?_|refine yK ?_)|((refine idCond ?_); first|refine yL ?_|refine yM ?_|refine yN ?_|refine yO ?_|refine yP (fun hg=>?_) fun hg=>?_|refine yQ ?_|refine yR ?_|refine yS (fun hg=>?_) fun hg=>?_|refine yT ?_|refine yU ?_|refine yV (fun hg=>?_) fun hg=>?_|refine yW ?_|refine yX ?_|refine yY (fun hg=>?_) fun hg=>?_))
  | ((with_reducible refine idO ?_); (with_reducible refine oM_gen fun Kv hK=>?_); simp [go_sem, h0, h1]; (try simp (disch := omega) only [wrapI64, wrapU8, wrapU32, wrapU64]); (first|refine hK _ _ ?_|refine And.intro (by omega) (hK _ _ ?_)); clear hK; clear Kv)))
  · exact K_eq k (by unfold rdDone; rw [hg]; simp)
  · exact K_eq k (by unfold rdDone; rw [hg]; simp)
end Go.Proofs.Cd
--G
namespace Go.Proofs.Cd
open Go Go.Sh Go.RowKit Go.Lib CodeSpec
set_option linter.unusedSimpArgs false
set_option maxRecDepth 10000
theorem grown_own {w w2 w3 : World} {b B : Nat} {e : TypeId} {sz n : Nat} {v : Value} {xs : List Value} (h : w.grownBy w2 (some b)) (hown : w2.ownsRow B e sz v n xs) (hB : w.heap.size ≤ B) (hg : w2.grownBy w3 v.ownBlock) : w.grownBy w3 (some b) :=
  ⟨hg.os.trans h.os, hg.tape.trans h.tape, hg.output.trans h.output, Nat.le_trans h.size hg.size, fun i hi hne =>
    (hg.block i (Nat.lt_of_lt_of_le hi h.size) (fun e => by have := (hown.lt i e.symm).1; omega)).trans (h.block i hi hne)⟩
theorem IsRd.own {w2 w3 : World} {b B : Nat} {e : TypeId} {sz n : Nat} {v : Value} {xs : List Value} {r : Rd} (h : IsRd w2 b r) (hown : w2.ownsRow B e sz v n xs) (hB : b < B) (hg : w2.grownBy w3 v.ownBlock) : IsRd w3 b r := by
  have hlt := h.lt
  unfold IsRd at h ⊢
  rw [hg.block b hlt (fun e => by have := (hown.lt b e.symm).1; omega)]
  exact h
theorem owns_rd {w2 w3 : World} {b B : Nat} {e : TypeId} {sz n : Nat} {v : Value} {xs : List Value} (hown : w2.ownsRow B e sz v n xs) (hB : b < B) (hg : w2.grownBy w3 (some b)) : w3.ownsRow B e sz v n xs :=
  hown.kept hg (by
    cases ho : v.ownBlock with
    | none => left; rfl
    | some g => right; intro e; cases e; have := (hown.lt b ho).1; omega)
theorem itemsGo_stop {α : Type} (one : Rd → α × Rd) (n : Nat) (r : Rd) (h : n = 0 ∨ r.bad = true) : itemsGo one n r = ([], r) := by
  rcases h with rfl | h
  · rfl
  · cases n with
    | zero => rfl
    | succ n => unfold itemsGo; rw [if_pos h]
theorem itemsGo_step {α : Type} (one : Rd → α × Rd) (n : Nat) (r : Rd) (h : r.bad = false) : itemsGo one (n + 1) r = ((one r).1 :: (itemsGo one n (one r).2).1, (itemsGo one n (one r).2).2) := by
  conv => lhs; unfold itemsGo
  rw [if_neg (by simp [h])]
/-- how much a value takes -/
theorem rdNum_less (r : Rd) (hr : r.ok) (_hb : r.bad = false) : (rdInt r).2 = failed ∨ (rdInt r).2.rest.length < r.rest.length ∧ (rdInt r).2.bad = false := by
  rcases rdInt_some r hr with h | ⟨v, t, h, h2, _⟩
  · left; rw [h]
  · right
    rw [h, h2]
    simp [encInt]
    try omega
set_option maxHeartbeats 1600000 in
theorem itemsNum_ok (b : Nat) (r : Rd) {K : Value → World → Prop} {w : World} (hl : Laid w) (hb6 : 8 ≤ b) (hlen : r.rest.length < 2^40) (hok : r.ok) (hr : IsRd w b r)
    (k : ∀ v w', IsRd w' b (rdNums r).2 → w.grownBy w' (some b) → w'.ownsRow w.heap.size 3 1 v (rdNums r).1.length ((rdNums r).1.map intV) → K v w') : callM Tryz.prog 117 #[.pointer (some ⟨b, 0, none⟩)] K w := by
  apply sh_117_ok
  unfold sh_117
  repeat (any_goals (first
  | (with_reducible first|refine pureM_in ?_|((refine idGd ?_); first|refine zA ?_|refine zB ?_|refine zC ?_|refine zD ?_|refine zE ?_|((refine idGdD ?_); first|refine zF ?_|refine zG ?_|refine zH (fun hg=>?_) fun hg=>?_|refine zI ?_|refine zJ ?_|refine zK (fun hg=>?_) fun hg=>?_)|((refine idGdN ?_); first|refine zL ?_|refine zM ?_|refine zN (fun hg=>?_) fun hg=>?_|refine zO ?_|refine zP ?_|refine zQ (fun hg=>?_) fun hg=>?_)|refine zR ?_|refine zS ?_|refine zT ?_|refine zU ?_|refine zV ?_|refine zW ?_|refine zX (fun hg=>?_) fun hg=>?_|refine zY ?_|refine zZ ?_|refine yA (fun hg=>?_) fun hg=>?_)|((refine idPick ?_); first|refine yB ?_|refine yC ?_|refine yD ?_|refine yE ?_|refine yF ?_|refine yG ?_|refine yH ?_|refine yI ?_|refine yJ ?_|refine yK ?_)|((refine idCond ?_); first|refine yL ?_|refine yM ?_|refine yN ?_|refine yO ?_|refine yP (fun hg=>?_) fun hg=>?_|refine yQ ?_|refine yR ?_|refine yS (fun hg=>?_) fun hg=>?_|refine yT ?_|refine yU ?_|refine yV (fun hg=>?_) fun hg=>?_|refine yW ?_|refine yX ?_|refine yY (fun hg=>?_) fun hg=>?_))
  | ((with_reducible refine idO ?_); (with_reducible refine oM_gen fun Kv hK=>?_); simp [go_sem]; (try simp (disch := omega) only [wrapI64, wrapU8, wrapU32, wrapU64]); (first|refine hK _ _ ?_|refine And.intro (by omega) (hK _ _ ?_)); clear hK; clear Kv)))
  apply sh_161_ok
  unfold sh_161
  refine number_ok b r 91 0 hl (by omega) hr ?_
  intro w1 hr1 hg1
  have hle := rest_le r 91 0
  have hok1 := rdNumber_ok r hok 91 0
  have hnum : rdNums r = if (rdClose (itemsGo rdInt (rdNumber r 91 0).1.toNat (rdNumber r 91 0).2).2 93).bad then ([], rdClose (itemsGo rdInt (rdNumber r 91 0).1.toNat (rdNumber r 91 0).2).2 93)
    else ((itemsGo rdInt (rdNumber r 91 0).1.toNat (rdNumber r 91 0).2).1, rdClose (itemsGo rdInt (rdNumber r 91 0).1.toNat (rdNumber r 91 0).2).2 93) := rfl
  have hnr : InR (rdNumber r 91 0).1 := by
    rcases rdNumber_some r 91 0 with h | ⟨n, t, h, _, h3, _⟩
    · rw [h]; exact ⟨by simp, by simp⟩
    · rw [h]; exact h3
  generalize (rdNumber r 91 0).2 = r1 at *
  generalize (rdNumber r 91 0).1 = n at *
  have hbw := hr.lt
  obtain ⟨hn1, hn2⟩ := hnr
  refine ⟨fun l w' => ∃ (v : Value) (j : Int) (r' : Rd) (xs : List (Int)), l = [v, .int .i64 j] ∧ -9223372036854775808 ≤ j ∧ j ≤ 9223372036854775807 ∧ IsRd w' b r' ∧ r'.ok ∧ w.grownBy w' (some b) ∧ w'.ownsRow w.heap.size 3 1 v xs.length (xs.map intV) ∧
    itemsGo rdInt n.toNat r1 = (xs ++ (itemsGo rdInt j.toNat r').1, (itemsGo rdInt j.toNat r').2) ∧ (xs.length + r'.rest.length ≤ r1.rest.length + 1) ∧ (r'.bad = false → xs.length + r'.rest.length ≤ r1.rest.length), fun l _ => (match l with | [_, .int _ n] => n.toNat | _ => 0),
    ⟨_, n, r1, [], rfl, hn1, hn2, hr1, hok1, hg1, World.ownsRow_nil _ _ _ _, by simp, (by simp only [List.length_nil]; omega), by simp⟩, ?_⟩
  rintro _ _ w2 ⟨v, j, r', xs, rfl, hj1, hj2, hr2, hok2, hg2, hown, hgo, hlx, hlx2⟩
  simp only [List.getD_cons_zero, List.getD_cons_succ]
  have h2 := hr2.c1
  have hl2 := hl.grown hg2 hb6
  by_cases hrun : 0 < j ∧ r'.bad = false
  · obtain ⟨hj, hbad⟩ := hrun
    rw [hbad] at h2
    have hlx2 := hlx2 hbad
    repeat (any_goals (first
    | (with_reducible first|refine pureM_in ?_|((refine idGd ?_); first|refine zA ?_|refine zB ?_|refine zC ?_|refine zD ?_|refine zE ?_|((refine idGdD ?_); first|refine zF ?_|refine zG ?_|refine zH (fun hg=>?_) fun hg=>?_|refine zI ?_|refine zJ ?_|refine zK (fun hg=>?_) fun hg=>?_)|((refine idGdN ?_); first|refine zL ?_|refine zM ?_|refine zN (fun hg=>?_) fun hg=>?_|refine zO ?_|refine zP ?_|refine zQ (fun hg=>?_) fun hg=>?_)|refine zR ?_|refine zS ?_|refine zT ?_|refine zU ?_|refine zV ?_|refine zW ?_|refine zX (fun hg=>?_) fun hg=>?_|refine zY ?_|refine zZ ?_|refine yA (fun hg=>?_) fun hg=>?_)|((refine idPick ?_); first|refine yB ?_|refine yC ?_|refine yD ?_|refine yE ?_|refine yF ?_|refine yG ?_|refine yH ?_|refine yI ?_|refine yJ ?_|refine yK ?_)|((refine idCond ?_); first|refine yL ?_|refine yM ?_|refine yN ?_|refine yO ?_|refine yP (fun hg=>?_) fun hg=>?_|refine yQ ?_|refine yR ?_|refine yS (fun hg=>?_) fun hg=>?_|refine yT ?_|refine yU ?_|refine yV (fun hg=>?_) fun hg=>?_|refine yW ?_|refine yX ?_|refine yY (fun hg=>?_) fun hg=>?_))
    | ((with_reducible refine idO ?_); (with_reducible refine oM_gen fun Kv hK=>?_); simp [go_sem, h2]; (try simp (disch := omega) only [wrapI64, wrapU8, wrapU32, wrapU64]); (first|refine hK _ _ ?_|refine And.intro (by omega) (hK _ _ ?_)); clear hK; clear Kv)))
    refine oM_callv0 (by kernel_rfl) ?_
    refine rint_ok b r' hl2 (by omega) hr2 ?_
    intro w3 hr3 hg3
    have hown3 := owns_rd hown hbw hg3
    have hg03 := grownBy_trans hg2 hg3
    have hz3 := hg03.size
    have hless := rdNum_less r' hok2 hbad
    obtain ⟨j', hj'⟩ : ∃ j' : Nat, j.toNat = j' + 1 := ⟨j.toNat - 1, by omega⟩
    have hjj : (j - 1).toNat = j' := by omega
    rw [hj', itemsGo_step _ _ _ hbad] at hgo
    have hok3 : (rdInt r').2.ok := by
      rcases hless with h | ⟨_, h⟩
      · rw [h]; exact Rd.ok_failed
      · intro e; rw [h] at e; cases e
    have hby : (xs.length + 1) * Tryz.t3.bytes ≤ 140737488355328 := by
      have : Tryz.t3.bytes = 8 := by kernel_rfl
      rw [this]
      omega
    repeat (any_goals (first
    | (with_reducible first|refine pureM_in ?_|((refine idGd ?_); first|refine zA ?_|refine zB ?_|refine zC ?_|refine zD ?_|refine zE ?_|((refine idGdD ?_); first|refine zF ?_|refine zG ?_|refine zH (fun hg=>?_) fun hg=>?_|refine zI ?_|refine zJ ?_|refine zK (fun hg=>?_) fun hg=>?_)|((refine idGdN ?_); first|refine zL ?_|refine zM ?_|refine zN (fun hg=>?_) fun hg=>?_|refine zO ?_|refine zP ?_|refine zQ (fun hg=>?_) fun hg=>?_)|refine zR ?_|refine zS ?_|refine zT ?_|refine zU ?_|refine zV ?_|refine zW ?_|refine zX (fun hg=>?_) fun hg=>?_|refine zY ?_|refine zZ ?_|refine yA (fun hg=>?_) fun hg=>?_)|((refine idPick ?_); first|refine yB ?_|refine yC ?_|refine yD ?_|refine yE ?_|refine yF ?_|refine yG ?_|refine yH ?_|refine yI ?_|refine yJ ?_|refine yK ?_)|((refine idCond ?_); first|refine yL ?_|refine yM ?_|refine yN ?_|refine yO ?_|refine yP (fun hg=>?_) fun hg=>?_|refine yQ ?_|refine yR ?_|refine yS (fun hg=>?_) fun hg=>?_|refine yT ?_|refine yU ?_|refine yV (fun hg=>?_) fun hg=>?_|refine yW ?_|refine yX ?_|refine yY (fun hg=>?_) fun hg=>?_))
    | ((with_reducible refine idO ?_); (with_reducible refine oM_gen fun Kv hK=>?_); simp [go_sem]; (try simp (disch := omega) only [wrapI64, wrapU8, wrapU32, wrapU64]); (first|refine hK _ _ ?_|refine And.intro (by omega) (hK _ _ ?_)); clear hK; clear Kv)))
    refine oM_append_new (base := w.heap.size) (n := xs.length) (xs := xs.map intV) (i := Tryz.t3) (z := .int .i64 0) (cs := #[intV (rdInt r').1]) Tryz.underlying22 (by kernel_rfl) (by kernel_rfl) rfl rfl (by simp) (by simp [Value.oneCell', intV]) hown3 (by omega) (by unfold maxLen; omega) hby ?_
    intro v' w4 ho4 hg4
    repeat (any_goals (first
    | (with_reducible first|refine pureM_in ?_|((refine idGd ?_); first|refine zA ?_|refine zB ?_|refine zC ?_|refine zD ?_|refine zE ?_|((refine idGdD ?_); first|refine zF ?_|refine zG ?_|refine zH (fun hg=>?_) fun hg=>?_|refine zI ?_|refine zJ ?_|refine zK (fun hg=>?_) fun hg=>?_)|((refine idGdN ?_); first|refine zL ?_|refine zM ?_|refine zN (fun hg=>?_) fun hg=>?_|refine zO ?_|refine zP ?_|refine zQ (fun hg=>?_) fun hg=>?_)|refine zR ?_|refine zS ?_|refine zT ?_|refine zU ?_|refine zV ?_|refine zW ?_|refine zX (fun hg=>?_) fun hg=>?_|refine zY ?_|refine zZ ?_|refine yA (fun hg=>?_) fun hg=>?_)|((refine idPick ?_); first|refine yB ?_|refine yC ?_|refine yD ?_|refine yE ?_|refine yF ?_|refine yG ?_|refine yH ?_|refine yI ?_|refine yJ ?_|refine yK ?_)|((refine idCond ?_); first|refine yL ?_|refine yM ?_|refine yN ?_|refine yO ?_|refine yP (fun hg=>?_) fun hg=>?_|refine yQ ?_|refine yR ?_|refine yS (fun hg=>?_) fun hg=>?_|refine yT ?_|refine yU ?_|refine yV (fun hg=>?_) fun hg=>?_|refine yW ?_|refine yX ?_|refine yY (fun hg=>?_) fun hg=>?_))
    | ((with_reducible refine idO ?_); (with_reducible refine oM_gen fun Kv hK=>?_); simp [go_sem]; (try simp (disch := omega) only [wrapI64, wrapU8, wrapU32, wrapU64]); (first|refine hK _ _ ?_|refine And.intro (by omega) (hK _ _ ?_)); clear hK; clear Kv)))
    refine ⟨⟨v', j - 1, (rdInt r').2, xs ++ [(rdInt r').1], rfl, by omega, by omega, hr3.own hown3 hbw hg4, hok3, grown_own hg03 hown3 (Nat.le_refl _) hg4, by simpa using ho4, ?_, ?_, ?_⟩, by simp; omega⟩
    · rw [hjj, hgo]; simp
    · rcases hless with h | ⟨h, _⟩
      · rw [h, List.length_append]; simp [failed]; omega
      · rw [List.length_append]; simp; omega
    · intro hb
      rcases hless with h | ⟨h, _⟩
      · rw [h] at hb; cases hb
      · rw [List.length_append]; simp; omega
  · have hstop := itemsGo_stop rdInt j.toNat r' (by
      cases hb : r'.bad with
      | true => right; rfl
      | false => left; have : ¬ 0 < j := fun h => hrun ⟨h, hb⟩; omega)
    rw [hstop, List.append_nil] at hgo
    rw [hgo] at hnum
    have rest : callM Tryz.prog 190 #[.pointer (some ⟨b, 0, none⟩), .string ⟨#[93]⟩] (fun v26_16 w =>
        oM Tryz.prog (Go.Op.nilCheck (.tmp 0)) 0 [.pointer (some ⟨b, 0, none⟩)] (fun v28_17 w =>
        oM Tryz.prog (Go.Op.fieldAddr 180 (.tmp 0) 1) 0 [v28_17] (fun v29_18 w =>
        oM Tryz.prog (Go.Op.load 4 (.tmp 0)) 4 [v29_18] (fun v30_19 w =>
        condM v30_19 (K (.slice none 0 0) w) (K v w)) w) w) w) w2 := by
      refine close_ok b r' 93 hr2 ?_
      intro w3 hr3 hg3
      have h3 := hr3.c1
      have hg03 := grownBy_trans hg2 hg3
      cases hbad : (rdClose r' 93).bad with
      | true =>
        rw [hbad] at hnum h3
        rw [if_pos rfl] at hnum
        repeat (any_goals (first
        | (with_reducible first|refine pureM_in ?_|((refine idGd ?_); first|refine zA ?_|refine zB ?_|refine zC ?_|refine zD ?_|refine zE ?_|((refine idGdD ?_); first|refine zF ?_|refine zG ?_|refine zH (fun hg=>?_) fun hg=>?_|refine zI ?_|refine zJ ?_|refine zK (fun hg=>?_) fun hg=>?_)|((refine idGdN ?_); first|refine zL ?_|refine zM ?_|refine zN (fun hg=>?_) fun hg=>?_|refine zO ?_|refine zP ?_|refine zQ (fun hg=>?_) fun hg=>?_)|refine zR ?_|refine zS ?_|refine zT ?_|refine zU ?_|refine zV ?_|refine zW ?_|refine zX (fun hg=>?_) fun hg=>?_|refine zY ?_|refine zZ ?_|refine yA (fun hg=>?_) fun hg=>?_)|((refine idPick ?_); first|refine yB ?_|refine yC ?_|refine yD ?_|refine yE ?_|refine yF ?_|refine yG ?_|refine yH ?_|refine yI ?_|refine yJ ?_|refine yK ?_)|((refine idCond ?_); first|refine yL ?_|refine yM ?_|refine yN ?_|refine yO ?_|refine yP (fun hg=>?_) fun hg=>?_|refine yQ ?_|refine yR ?_|refine yS (fun hg=>?_) fun hg=>?_|refine yT ?_|refine yU ?_|refine yV (fun hg=>?_) fun hg=>?_|refine yW ?_|refine yX ?_|refine yY (fun hg=>?_) fun hg=>?_))
        | ((with_reducible refine idO ?_); (with_reducible refine oM_gen fun Kv hK=>?_); simp [go_sem, h3]; (try simp (disch := omega) only [wrapI64, wrapU8, wrapU32, wrapU64]); (first|refine hK _ _ ?_|refine And.intro (by omega) (hK _ _ ?_)); clear hK; clear Kv)))
        exact k _ w3 (by rw [hnum]; exact hr3) hg03 (by rw [hnum]; exact World.ownsRow_nil _ _ _ _)
      | false =>
        rw [hbad] at hnum h3
        rw [if_neg (by simp)] at hnum
        repeat (any_goals (first
        | (with_reducible first|refine pureM_in ?_|((refine idGd ?_); first|refine zA ?_|refine zB ?_|refine zC ?_|refine zD ?_|refine zE ?_|((refine idGdD ?_); first|refine zF ?_|refine zG ?_|refine zH (fun hg=>?_) fun hg=>?_|refine zI ?_|refine zJ ?_|refine zK (fun hg=>?_) fun hg=>?_)|((refine idGdN ?_); first|refine zL ?_|refine zM ?_|refine zN (fun hg=>?_) fun hg=>?_|refine zO ?_|refine zP ?_|refine zQ (fun hg=>?_) fun hg=>?_)|refine zR ?_|refine zS ?_|refine zT ?_|refine zU ?_|refine zV ?_|refine zW ?_|refine zX (fun hg=>?_) fun hg=>?_|refine zY ?_|refine zZ ?_|refine yA (fun hg=>?_) fun hg=>?_)|((refine idPick ?_); first|refine yB ?_|refine yC ?_|refine yD ?_|refine yE ?_|refine yF ?_|refine yG ?_|refine yH ?_|refine yI ?_|refine yJ ?_|refine yK ?_)|((refine idCond ?_); first|refine yL ?_|refine yM ?_|refine yN ?_|refine yO ?_|refine yP (fun hg=>?_) fun hg=>?_|refine yQ ?_|refine yR ?_|refine yS (fun hg=>?_) fun hg=>?_|refine yT ?_|refine yU ?_|refine yV (fun hg=>?_) fun hg=>?_|refine yW ?_|refine yX ?_|refine yY (fun hg=>?_) fun hg=>?_))
        | ((with_reducible refine idO ?_); (with_reducible refine oM_gen fun Kv hK=>?_); simp [go_sem, h3]; (try simp (disch := omega) only [wrapI64, wrapU8, wrapU32, wrapU64]); (first|refine hK _ _ ?_|refine And.intro (by omega) (hK _ _ ?_)); clear hK; clear Kv)))
        exact k _ w3 (by rw [hnum]; exact hr3) hg03 (by rw [hnum]; exact owns_rd hown hbw hg3)
    by_cases hj : 0 < j
    · have hbad : r'.bad = true := by
        cases hb : r'.bad with
        | true => rfl
        | false => exact absurd ⟨hj, hb⟩ hrun
      rw [hbad] at h2
      repeat (any_goals (first
      | (with_reducible exact rest)
      | (with_reducible first|refine pureM_in ?_|((refine idGd ?_); first|refine zA ?_|refine zB ?_|refine zC ?_|refine zD ?_|refine zE ?_|((refine idGdD ?_); first|refine zF ?_|refine zG ?_|refine zH (fun hg=>?_) fun hg=>?_|refine zI ?_|refine zJ ?_|refine zK (fun hg=>?_) fun hg=>?_)|((refine idGdN ?_); first|refine zL ?_|refine zM ?_|refine zN (fun hg=>?_) fun hg=>?_|refine zO ?_|refine zP ?_|refine zQ (fun hg=>?_) fun hg=>?_)|refine zR ?_|refine zS ?_|refine zT ?_|refine zU ?_|refine zV ?_|refine zW ?_|refine zX (fun hg=>?_) fun hg=>?_|refine zY ?_|refine zZ ?_|refine yA (fun hg=>?_) fun hg=>?_)|((refine idPick ?_); first|refine yB ?_|refine yC ?_|refine yD ?_|refine yE ?_|refine yF ?_|refine yG ?_|refine yH ?_|refine yI ?_|refine yJ ?_|refine yK ?_)|((refine idCond ?_); first|refine yL ?_|refine yM ?_|refine yN ?_|refine yO ?_|refine yP (fun hg=>?_) fun hg=>?_|refine yQ ?_|refine yR ?_|refine yS (fun hg=>?_) fun hg=>?_|refine yT ?_|refine yU ?_|refine yV (fun hg=>?_) fun hg=>?_|refine yW ?_|refine yX ?_|refine yY (fun hg=>?_) fun hg=>?_))
      | ((with_reducible refine idO ?_); (with_reducible refine oM_gen fun Kv hK=>?_); simp [go_sem, h2]; (try simp (disch := omega) only [wrapI64, wrapU8, wrapU32, wrapU64]); (first|refine hK _ _ ?_|refine And.intro (by omega) (hK _ _ ?_)); clear hK; clear Kv)))
    · repeat (any_goals (first
      | (with_reducible exact rest)
      | (with_reducible first|refine pureM_in ?_|((refine idGd ?_); first|refine zA ?_|refine zB ?_|refine zC ?_|refine zD ?_|refine zE ?_|((refine idGdD ?_); first|refine zF ?_|refine zG ?_|refine zH (fun hg=>?_) fun hg=>?_|refine zI ?_|refine zJ ?_|refine zK (fun hg=>?_) fun hg=>?_)|((refine idGdN ?_); first|refine zL ?_|refine zM ?_|refine zN (fun hg=>?_) fun hg=>?_|refine zO ?_|refine zP ?_|refine zQ (fun hg=>?_) fun hg=>?_)|refine zR ?_|refine zS ?_|refine zT ?_|refine zU ?_|refine zV ?_|refine zW ?_|refine zX (fun hg=>?_) fun hg=>?_|refine zY ?_|refine zZ ?_|refine yA (fun hg=>?_) fun hg=>?_)|((refine idPick ?_); first|refine yB ?_|refine yC ?_|refine yD ?_|refine yE ?_|refine yF ?_|refine yG ?_|refine yH ?_|refine yI ?_|refine yJ ?_|refine yK ?_)|((refine idCond ?_); first|refine yL ?_|refine yM ?_|refine yN ?_|refine yO ?_|refine yP (fun hg=>?_) fun hg=>?_|refine yQ ?_|refine yR ?_|refine yS (fun hg=>?_) fun hg=>?_|refine yT ?_|refine yU ?_|refine yV (fun hg=>?_) fun hg=>?_|refine yW ?_|refine yX ?_|refine yY (fun hg=>?_) fun hg=>?_))
      | ((with_reducible refine idO ?_); (with_reducible refine oM_gen fun Kv hK=>?_); simp [go_sem]; (try simp (disch := omega) only [wrapI64, wrapU8, wrapU32, wrapU64]); (first|refine hK _ _ ?_|refine And.intro (by omega) (hK _ _ ?_)); clear hK; clear Kv)))
end Go.Proofs.Cd
--G
namespace Go.Proofs
open Go Go.Sh Go.RowKit FdSpec TkSpec CodeSpec
set_option linter.unusedSimpArgs false
set_option linter.unusedVariables false
set_option maxRecDepth 10000
def tktL (t : Tkt) : List Int := [t.mark, t.first, t.z, t.a, t.b, t.r]
def encM (t : Tkt) : Bytes := encNums (tktL t)
def zTkt : Tkt := ⟨0, 0, 0, 0, 0, 0⟩
def ofL : List Int → Tkt
  | [a, b, c, d, e, f] => ⟨a, b, c, d, e, f⟩
  | _ => zTkt
def decM (s : Bytes) : Tkt × Bool :=
  if (rdNums ⟨s, false⟩).1.length = 6 ∧ Cd.rdDone (rdNums ⟨s, false⟩).2 = true then (ofL (rdNums ⟨s, false⟩).1, true) else (zTkt, false)
theorem InR_iff (n : Int) : InR n ↔ I64 n := by unfold InR I64; omega
theorem TktR.all {t : Tkt} (h : TktR t) : ∀ n ∈ tktL t, I64 n := by
  intro n hn
  simp only [tktL, List.mem_cons, List.not_mem_nil, or_false] at hn
  rcases hn with rfl | rfl | rfl | rfl | rfl | rfl
  · exact h.mark
  · exact h.first
  · exact h.z
  · exact h.a
  · exact h.b
  · exact h.r
theorem encM_len {t : Tkt} (h : TktR t) : (encM t).length ≤ 200 := by
  have hi := fun n (hn : n ∈ tktL t) => Cd.encInt_len n ((InR_iff n).2 (h.all n hn))
  have h6 := itoa_len 6 (by unfold InR; omega)
  simp only [encM, encNums, encList, tktL, List.map_cons, List.map_nil, List.length_cons, List.length_nil, List.flatten_cons, List.flatten_nil, List.length_append, List.append_nil] at *
  have a1 := hi t.mark (by simp)
  have a2 := hi t.first (by simp)
  have a3 := hi t.z (by simp)
  have a4 := hi t.a (by simp)
  have a5 := hi t.b (by simp)
  have a6 := hi t.r (by simp)
  have h6' : (Lib.itoa ((0 + 1 + 1 + 1 + 1 + 1 + 1 : Nat) : Int)).length ≤ 20 := h6
  omega
theorem dec_enc {t : Tkt} (h : TktR t) : decM (encM t) = (t, true) := by
  have e := rdNums_enc (tktL t) [] (by simp [tktL]) (fun v hv => (InR_iff v).2 (h.all v hv))
  rw [List.append_nil] at e
  unfold decM encM
  rw [e, if_pos ⟨rfl, rfl⟩]
  rfl
theorem enc_dec {s : Bytes} (h : (decM s).2 = true) : encM (decM s).1 = s ∧ TktR (decM s).1 := by
  unfold decM at h ⊢
  split at h
  · rename_i hc
    rw [if_pos hc]
    rcases rdNums_some ⟨s, false⟩ Rd.ok_good with he | ⟨vs, t, he, hr, hl, hin⟩
    · rw [he] at hc
      simp at hc
    · rw [he] at hc ⊢
      obtain ⟨h6, hd⟩ := hc
      simp only [Cd.rdDone, Bool.not_false, Bool.true_and, decide_eq_true_eq] at hd
      subst hd
      simp only [Rd.mk.injEq, and_true, List.append_nil] at hr
      simp only at h6
      have hh := fun v hv => (InR_iff v).1 (hin v hv)
      clear hin he hl
      rcases vs with _ | ⟨a, _ | ⟨b, _ | ⟨c, _ | ⟨d, _ | ⟨e, _ | ⟨f, _ | ⟨g, vs⟩⟩⟩⟩⟩⟩⟩
      all_goals try (simp only [List.length_cons, List.length_nil] at h6; omega)
      refine ⟨hr.symm, ?_⟩
      exact ⟨hh a (by simp), hh b (by simp), hh c (by simp), hh d (by simp), hh e (by simp), hh f (by simp)⟩
  · cases h
theorem dec_no {s : Bytes} (h : (decM s).2 = false) : decM s = (zTkt, false) := by
  unfold decM at h ⊢
  split at h
  · cases h
  · rename_i hc
    rw [if_neg hc]
section
variable {K : Value → World → Prop} {w w0 w1 : World} {L : List (Addr × Value)}
theorem sz_tkt (w : World) : (sizeOf 43).run Tryz.prog w = .ok 6 w := by kernel_rfl
theorem al_tkt (w : World) : (Instr.alloc 43 true (.tuple #[])).run Tryz.prog w = .ok (.pointer (some ⟨w.heap.size, 0, none⟩)) (w.alloc (.cells [.int .i64 0, .int .i64 0, .int .i64 0, .int .i64 0, .int .i64 0, .int .i64 0].toArray 43)) := by kernel_rfl
theorem tkt_one (t : Tkt) : ∀ u ∈ tktC t, u.oneCell' = true := by
  intro u hu
  simp only [tktC, List.mem_cons, List.not_mem_nil, or_false] at hu
  rcases hu with rfl | rfl | rfl | rfl | rfl | rfl <;> rfl
theorem store_tkt {K : Value → World → Prop} {T' : TypeId} {g : Nat} (t : Tkt) (hk : KnM w0 L g 6 w)
    (k : ∀ W, KnM w0 L g 6 W → cellsAre W (cellsOf [] g 0 (tktC t)) → K undef W) : oM Tryz.prog (.store 43 (.tmp 0) (.tmp 1)) T' [.pointer (some ⟨g, 0, none⟩), tktV t] K w :=
  store_mine sz_tkt rfl rfl (tkt_one t) hk k
theorem local_tkt {K : Value → World → Prop} {T' T2 : TypeId} (t : Tkt) (hk : Kn w0 L w)
    (k : ∀ b W, Kn w0 (cellsOf L b 0 (tktC t)) W → Below w.heap.size w W → w.heap.size ≤ b → K (.pointer (some ⟨b, 0, none⟩)) W) :
    oM Tryz.prog (.alloc 43) T' [] (fun v w => oM Tryz.prog (.store 43 (.tmp 0) (.tmp 1)) T2 [v, tktV t] (fun _ w => K v w) w) w :=
  local_kn al_tkt rfl sz_tkt rfl rfl (tkt_one t) hk k
theorem mk6 {T : TypeId} (t : Tkt) (ht : TktR t) (k : ∀ v W, Below w.heap.size w W → Ints W v (tktL t) → K v W) : oM Tryz.prog (.buildSlice 22 6 #[(0, .tmp 0), (1, .tmp 1), (2, .tmp 2), (3, .tmp 3), (4, .tmp 4), (5, .tmp 5)]) T [.int .i64 t.mark, .int .i64 t.first, .int .i64 t.z, .int .i64 t.a, .int .i64 t.b, .int .i64 t.r] K w := by
  rw [rM_of (S := Instr.buildSlice 22 6 #[(0, .int .i64 t.mark), (1, .int .i64 t.first), (2, .int .i64 t.z), (3, .int .i64 t.a), (4, .int .i64 t.b), (5, .int .i64 t.r)]) (by simp [xop, execOp, evalL, evE])]
  have e : (Instr.buildSlice 22 6 #[(0, .int .i64 t.mark), (1, .int .i64 t.first), (2, .int .i64 t.z), (3, .int .i64 t.a), (4, .int .i64 t.b), (5, .int .i64 t.r)]).run Tryz.prog w = .ok (.slice (some ⟨w.heap.size, 0, none⟩) 6 6) (w.alloc (.cells #[.int .i64 t.mark, .int .i64 t.first, .int .i64 t.z, .int .i64 t.a, .int .i64 t.b, .int .i64 t.r] 3)) := by kernel_rfl
  rw [e]
  exact k _ _ ((Below.refl _ w).alloc (Nat.le_refl _) _) (ints_alloc w (tktL t) _ 6 ht.all (by simp [tktL]))
theorem Ints.rowOf {v : Value} {l : List Int} (h : Ints w v l) : Cd.RowOf Cd.intV w v l := by
  obtain ⟨⟨ad, c, rfl, h0, hc⟩, hr, hl⟩ := h
  refine ⟨ad, c, rfl, hc.imp id ?_⟩
  rintro ⟨b, o, rfl, hlt, hcell⟩
  exact ⟨b, o, rfl, hlt, fun i hi => hcell i _ (by rw [flat_int]; simp [hi, Cd.intV])⟩
theorem Encode_ok (t : Tkt) (ht : TktR t) (hl : Cd.Laid w) (k : ∀ w', Below w.heap.size w w' → K (.string ⟨(encM t).toArray⟩) w') : callM Tryz.prog 46 #[tktV t] K w := by
  apply sh_46_ok
  unfold sh_46
  refine box_kn (cs := tktC t) rfl (.start w) fun b W hk hb1 hb => ?_
  repeat (any_goals (first
  | ((with_reducible refine mk6 t ht ?_); intro v8 W8 hb8 hi)
  | (with_reducible first|refine pureM_in ?_|((refine idGd ?_); first|refine zA ?_|refine zB ?_|refine zC ?_|refine zD ?_|refine zE ?_|((refine idGdD ?_); first|refine zF ?_|refine zG ?_|refine zH (fun hg=>?_) fun hg=>?_|refine zI ?_|refine zJ ?_|refine zK (fun hg=>?_) fun hg=>?_)|((refine idGdN ?_); first|refine zL ?_|refine zM ?_|refine zN (fun hg=>?_) fun hg=>?_|refine zO ?_|refine zP ?_|refine zQ (fun hg=>?_) fun hg=>?_)|refine zR ?_|refine zS ?_|refine zT ?_|refine zU ?_|refine zV ?_|refine zW ?_|refine zX (fun hg=>?_) fun hg=>?_|refine zY ?_|refine zZ ?_|refine yA (fun hg=>?_) fun hg=>?_)|((refine idPick ?_); first|refine yB ?_|refine yC ?_|refine yD ?_|refine yE ?_|refine yF ?_|refine yG ?_|refine yH ?_|refine yI ?_|refine yJ ?_|refine yK ?_)|((refine idCond ?_); first|refine yL ?_|refine yM ?_|refine yN ?_|refine yO ?_|refine yP (fun hg=>?_) fun hg=>?_|refine yQ ?_|refine yR ?_|refine yS (fun hg=>?_) fun hg=>?_|refine yT ?_|refine yU ?_|refine yV (fun hg=>?_) fun hg=>?_|refine yW ?_|refine yX ?_|refine yY (fun hg=>?_) fun hg=>?_))
  | ((with_reducible refine idO ?_); (with_reducible refine oM_gen fun Kv hK=>?_); simp [go_sem, hk.cells]; (try simp (disch := omega) only [wrapI64, wrapU8, wrapU32, wrapU64]); (first|refine hK _ _ ?_|refine And.intro (by omega) (hK _ _ ?_)); clear hK; clear Kv)))
  have hk := hk.next hb8
  refine Cd.pNums_ok (tktL t) v8 (hl.below hk.below hl.size) (Ints.rowOf hi) (fun x hx => (InR_iff x).2 (ht.all x hx)) (by have := encM_len ht; unfold encM encNums at this; omega) (fun w' hb' => ?_)
  exact k _ (hk.next hb').below
theorem Decode_ok (s : Bytes) (hs : s.length < 1099511627776) (hl : Cd.Laid w) (k : ∀ w', Below w.heap.size w w' → K (.tuple #[tktV (decM s).1, .bool (decM s).2]) w') : callM Tryz.prog 45 #[.string ⟨s.toArray⟩] K w := by
  apply sh_45_ok
  unfold sh_45
  have k2 : ∀ w' r, decM s = r → Below w.heap.size w w' → K (.tuple #[tktV r.1, .bool r.2]) w' := fun w' r e hb => by rw [← e]; exact k w' hb
  clear k
  refine alloc_mine (n := 6) al_tkt rfl (.start w) fun g W2 hk hb2 hg => ?_
  have hgW := mine_lt hk.mine
  refine Cd.open_ok s (fun w1 hr1 hb1 => ?_)
  have hk1 := hk.next hb1
  have hl1 := hl.below hk1.below hl.size
  have h8 : 8 ≤ W2.heap.size := Nat.le_trans hl.size hb2.size
  refine Cd.itemsNum_ok W2.heap.size _ hl1 h8 (by simpa using hs) Rd.ok_good hr1 (fun v w2 hr2 hg2 ho2 => ?_)
  have hfr : FrG W2.heap.size w1 w2 := (Fr.refl _ _).by hg2 (fun i e => .inl (Option.some.inj e).symm)
  have hk2 := hk1.fr hfr (by simp) (by omega) hb2.size
  have hdec : decM s = if (rdNums ⟨s, false⟩).1.length = 6 ∧ Cd.rdDone (rdNums ⟨s, false⟩).2 = true then (ofL (rdNums ⟨s, false⟩).1, true) else (zTkt, false) := rfl
  obtain ⟨⟨vs, r2⟩, hrd⟩ : ∃ p, rdNums ⟨s, false⟩ = p := ⟨_, rfl⟩
  rw [hrd] at hdec hr2 ho2
  simp only at hdec hr2 ho2
  obtain ⟨vad, vc, rfl⟩ := owns_len ho2
  by_cases h6 : vs.length = 6
  · have h6' : (vs.length : Int) = 6 := by omega
    repeat (any_goals (first
    | (with_reducible first|refine pureM_in ?_|((refine idGd ?_); first|refine zA ?_|refine zB ?_|refine zC ?_|refine zD ?_|refine zE ?_|((refine idGdD ?_); first|refine zF ?_|refine zG ?_|refine zH (fun hg=>?_) fun hg=>?_|refine zI ?_|refine zJ ?_|refine zK (fun hg=>?_) fun hg=>?_)|((refine idGdN ?_); first|refine zL ?_|refine zM ?_|refine zN (fun hg=>?_) fun hg=>?_|refine zO ?_|refine zP ?_|refine zQ (fun hg=>?_) fun hg=>?_)|refine zR ?_|refine zS ?_|refine zT ?_|refine zU ?_|refine zV ?_|refine zW ?_|refine zX (fun hg=>?_) fun hg=>?_|refine zY ?_|refine zZ ?_|refine yA (fun hg=>?_) fun hg=>?_)|((refine idPick ?_); first|refine yB ?_|refine yC ?_|refine yD ?_|refine yE ?_|refine yF ?_|refine yG ?_|refine yH ?_|refine yI ?_|refine yJ ?_|refine yK ?_)|((refine idCond ?_); first|refine yL ?_|refine yM ?_|refine yN ?_|refine yO ?_|refine yP (fun hg=>?_) fun hg=>?_|refine yQ ?_|refine yR ?_|refine yS (fun hg=>?_) fun hg=>?_|refine yT ?_|refine yU ?_|refine yV (fun hg=>?_) fun hg=>?_|refine yW ?_|refine yX ?_|refine yY (fun hg=>?_) fun hg=>?_))
    | ((with_reducible refine idO ?_); (with_reducible refine oM_gen fun Kv hK=>?_); simp [go_sem, h6']; (try simp (disch := omega) only [wrapI64, wrapU8, wrapU32, wrapU64]); (first|refine hK _ _ ?_|refine And.intro (by omega) (hK _ _ ?_)); clear hK; clear Kv)))
    refine Cd.done_ok _ r2 hr2 ?_
    cases hd : Cd.rdDone r2 with
    | false =>
      rw [if_neg (by simp [hd])] at hdec
      repeat (any_goals (first
      | (with_reducible first|refine pureM_in ?_|((refine idGd ?_); first|refine zA ?_|refine zB ?_|refine zC ?_|refine zD ?_|refine zE ?_|((refine idGdD ?_); first|refine zF ?_|refine zG ?_|refine zH (fun hg=>?_) fun hg=>?_|refine zI ?_|refine zJ ?_|refine zK (fun hg=>?_) fun hg=>?_)|((refine idGdN ?_); first|refine zL ?_|refine zM ?_|refine zN (fun hg=>?_) fun hg=>?_|refine zO ?_|refine zP ?_|refine zQ (fun hg=>?_) fun hg=>?_)|refine zR ?_|refine zS ?_|refine zT ?_|refine zU ?_|refine zV ?_|refine zW ?_|refine zX (fun hg=>?_) fun hg=>?_|refine zY ?_|refine zZ ?_|refine yA (fun hg=>?_) fun hg=>?_)|((refine idPick ?_); first|refine yB ?_|refine yC ?_|refine yD ?_|refine yE ?_|refine yF ?_|refine yG ?_|refine yH ?_|refine yI ?_|refine yJ ?_|refine yK ?_)|((refine idCond ?_); first|refine yL ?_|refine yM ?_|refine yN ?_|refine yO ?_|refine yP (fun hg=>?_) fun hg=>?_|refine yQ ?_|refine yR ?_|refine yS (fun hg=>?_) fun hg=>?_|refine yT ?_|refine yU ?_|refine yV (fun hg=>?_) fun hg=>?_|refine yW ?_|refine yX ?_|refine yY (fun hg=>?_) fun hg=>?_))
      | ((with_reducible refine idO ?_); (with_reducible refine oM_gen fun Kv hK=>?_); simp [go_sem]; (try simp (disch := omega) only [wrapI64, wrapU8, wrapU32, wrapU64]); (first|refine hK _ _ ?_|refine And.intro (by omega) (hK _ _ ?_)); clear hK; clear Kv)))
      exact store_tkt zTkt hk2 (fun W3 hk hc => ⟨_, by simp [go_sem, hc], k2 _ _ hdec hk.below⟩)
    | true =>
      rw [if_pos ⟨h6, hd⟩] at hdec
      obtain ⟨g', cap, cur, hve, hlt, hB, _, _, _, hcell⟩ := owns_cells ho2 (by omega)
      cases hve
      match vs, h6, hcell, hdec with
      | [a, b, c, d, e, f], _, hcell, hdec =>
        have hdec : decM s = (⟨a, b, c, d, e, f⟩, true) := hdec
        have q0 := hcell 0 _ rfl
        have q1 := hcell 1 _ rfl
        have q2 := hcell 2 _ rfl
        have q3 := hcell 3 _ rfl
        have q4 := hcell 4 _ rfl
        have q5 := hcell 5 _ rfl
        have s1 := hb1.size
        have hne : g' ≠ g := by omega
        have hk := (((((hk2.add1 q5 hne).add1 q4 hne).add1 q3 hne).add1 q2 hne).add1 q1 hne).add1 q0 hne
        simp only [Cd.intV] at hk
        repeat (any_goals (first
        | (with_reducible first|refine pureM_in ?_|((refine idGd ?_); first|refine zA ?_|refine zB ?_|refine zC ?_|refine zD ?_|refine zE ?_|((refine idGdD ?_); first|refine zF ?_|refine zG ?_|refine zH (fun hg=>?_) fun hg=>?_|refine zI ?_|refine zJ ?_|refine zK (fun hg=>?_) fun hg=>?_)|((refine idGdN ?_); first|refine zL ?_|refine zM ?_|refine zN (fun hg=>?_) fun hg=>?_|refine zO ?_|refine zP ?_|refine zQ (fun hg=>?_) fun hg=>?_)|refine zR ?_|refine zS ?_|refine zT ?_|refine zU ?_|refine zV ?_|refine zW ?_|refine zX (fun hg=>?_) fun hg=>?_|refine zY ?_|refine zZ ?_|refine yA (fun hg=>?_) fun hg=>?_)|((refine idPick ?_); first|refine yB ?_|refine yC ?_|refine yD ?_|refine yE ?_|refine yF ?_|refine yG ?_|refine yH ?_|refine yI ?_|refine yJ ?_|refine yK ?_)|((refine idCond ?_); first|refine yL ?_|refine yM ?_|refine yN ?_|refine yO ?_|refine yP (fun hg=>?_) fun hg=>?_|refine yQ ?_|refine yR ?_|refine yS (fun hg=>?_) fun hg=>?_|refine yT ?_|refine yU ?_|refine yV (fun hg=>?_) fun hg=>?_|refine yW ?_|refine yX ?_|refine yY (fun hg=>?_) fun hg=>?_))
        | ((with_reducible refine idO ?_); (with_reducible refine oM_gen fun Kv hK=>?_); simp [go_sem]; (try simp (disch := omega) only [wrapI64, wrapU8, wrapU32, wrapU64]); (first|refine hK _ _ ?_|refine And.intro (by omega) (hK _ _ ?_)); clear hK; clear Kv)))
        refine ⟨KnM w _ g 6, hk.drew, ?_⟩
        have hk := hk.drew
        repeat (any_goals (first
        | (with_reducible first|refine pureM_in ?_|refine pureQ_in ?_|refine pureH_in ?_|((refine idGdQ ?_); refine gdQ_conv fun _=>?_)|((refine idGdH ?_); refine gdH_conv fun _=>?_)|refine And.intro (Eq.refl (α := World) _) ?_|refine forall_one ?_|((refine idGd ?_); first|refine zA ?_|refine zB ?_|refine zC ?_|refine zD ?_|refine zE ?_|((refine idGdD ?_); first|refine zF ?_|refine zG ?_|refine zH (fun hg=>?_) fun hg=>?_|refine zI ?_|refine zJ ?_|refine zK (fun hg=>?_) fun hg=>?_)|((refine idGdN ?_); first|refine zL ?_|refine zM ?_|refine zN (fun hg=>?_) fun hg=>?_|refine zO ?_|refine zP ?_|refine zQ (fun hg=>?_) fun hg=>?_)|refine zR ?_|refine zS ?_|refine zT ?_|refine zU ?_|refine zV ?_|refine zW ?_|refine zX (fun hg=>?_) fun hg=>?_|refine zY ?_|refine zZ ?_|refine yA (fun hg=>?_) fun hg=>?_)|((refine idPick ?_); first|refine yB ?_|refine yC ?_|refine yD ?_|refine yE ?_|refine yF ?_|refine yG ?_|refine yH ?_|refine yI ?_|refine yJ ?_|refine yK ?_)|((refine idCond ?_); first|refine yL ?_|refine yM ?_|refine yN ?_|refine yO ?_|refine yP (fun hg=>?_) fun hg=>?_|refine yQ ?_|refine yR ?_|refine yS (fun hg=>?_) fun hg=>?_|refine yT ?_|refine yU ?_|refine yV (fun hg=>?_) fun hg=>?_|refine yW ?_|refine yX ?_|refine yY (fun hg=>?_) fun hg=>?_))
        | ((with_reducible refine idOQ ?_); first|(with_reducible first|refine wA ?_|refine wB ?_|refine wC ?_|refine wD ?_|refine wE ?_|refine wF ?_|refine oQ_nil ?_)|((with_reducible refine oQ_one ?_ ?_); exact ⟨_, rfl⟩)|(with_reducible refine oQ_of ⟨_, rfl⟩ (fun W0 hW0 => by (refine oM_gen (fun Kv hK => ?_)); simp [go_sem, hW0.cells]; (first | exact hK _ _ ⟨rfl, rfl⟩ | exact ⟨by omega, hK _ _ ⟨rfl, rfl⟩⟩)) ?_))
        | ((with_reducible refine idOH ?_); first|(with_reducible first|refine vA ?_|refine vB ?_|refine vC ?_|refine vD ?_|refine vE ?_|refine vF ?_|refine oH_nil ?_)|(with_reducible refine oH_of ⟨_, rfl⟩ (fun W0 hW0 => by (refine oM_gen (fun Kv hK => ?_)); simp [go_sem, hW0.cells]; (first | exact hK _ _ ⟨rfl, rfl⟩ | exact ⟨by omega, hK _ _ ⟨rfl, rfl⟩⟩)) ?_))
        | ((with_reducible refine idO ?_); (with_reducible refine oM_gen fun Kv hK=>?_); simp [go_sem]; (try simp (disch := omega) only [wrapI64, wrapU8, wrapU32, wrapU64]); (first|refine hK _ _ ?_|refine And.intro (by omega) (hK _ _ ?_)); clear hK; clear Kv)))
        refine ⟨hk, ?_⟩
        exact store_tkt ⟨a, b, c, d, e, f⟩ hk (fun W3 hk hc => ⟨hk, hk, _, by simp [go_sem, hc], k2 _ _ hdec hk.below⟩)
  · have h6' : ¬ (vs.length : Int) = 6 := by omega
    rw [if_neg (by simp [h6])] at hdec
    repeat (any_goals (first
    | (with_reducible first|refine pureM_in ?_|((refine idGd ?_); first|refine zA ?_|refine zB ?_|refine zC ?_|refine zD ?_|refine zE ?_|((refine idGdD ?_); first|refine zF ?_|refine zG ?_|refine zH (fun hg=>?_) fun hg=>?_|refine zI ?_|refine zJ ?_|refine zK (fun hg=>?_) fun hg=>?_)|((refine idGdN ?_); first|refine zL ?_|refine zM ?_|refine zN (fun hg=>?_) fun hg=>?_|refine zO ?_|refine zP ?_|refine zQ (fun hg=>?_) fun hg=>?_)|refine zR ?_|refine zS ?_|refine zT ?_|refine zU ?_|refine zV ?_|refine zW ?_|refine zX (fun hg=>?_) fun hg=>?_|refine zY ?_|refine zZ ?_|refine yA (fun hg=>?_) fun hg=>?_)|((refine idPick ?_); first|refine yB ?_|refine yC ?_|refine yD ?_|refine yE ?_|refine yF ?_|refine yG ?_|refine yH ?_|refine yI ?_|refine yJ ?_|refine yK ?_)|((refine idCond ?_); first|refine yL ?_|refine yM ?_|refine yN ?_|refine yO ?_|refine yP (fun hg=>?_) fun hg=>?_|refine yQ ?_|refine yR ?_|refine yS (fun hg=>?_) fun hg=>?_|refine yT ?_|refine yU ?_|refine yV (fun hg=>?_) fun hg=>?_|refine yW ?_|refine yX ?_|refine yY (fun hg=>?_) fun hg=>?_))
    | ((with_reducible refine idO ?_); (with_reducible refine oM_gen fun Kv hK=>?_); simp [go_sem, h6']; (try simp (disch := omega) only [wrapI64, wrapU8, wrapU32, wrapU64]); (first|refine hK _ _ ?_|refine And.intro (by omega) (hK _ _ ?_)); clear hK; clear Kv)))
    exact store_tkt zTkt hk2 (fun W3 hk hc => ⟨_, by simp [go_sem, hc], k2 _ _ hdec hk.below⟩)
end
end Go.Proofs
--G
namespace Go.Proofs
open Go Go.Sh Go.RowKit FdSpec TkSpec CodeSpec
set_option linter.unusedSimpArgs false
set_option linter.unusedVariables false
set_option maxRecDepth 10000
section
@[go_sem] theorem eql_tkt (T : TypeId) (a b : Tkt) : oM Tryz.prog (.binOp .eql 43 (.tmp 0) (.tmp 1) 43) T [tktV a, tktV b] = pureM (.bool (decide (a = b))) := by
  funext K w
  have h1 : (eqGuard .eql 43 (.tmp 0) (.tmp 1) (tktV a) (tktV b)).run Tryz.prog w = .ok () w := run_eqGuard_agg w _ _ _ _ _ _ (by kernel_rfl)
  have h2 : (binOp .eql 43 (tktV a) (tktV b)).run Tryz.prog w = .ok (.bool (decide (a = b))) w := by
    rw [run_eql_struct, run_equalIn_agg w 9999 43 _ _ (by kernel_rfl) (by kernel_rfl)]
    have u3 := Tryz.underlying3
    have e : decide (a = b) = ((a.mark == b.mark) && (a.first == b.first) && (a.z == b.z) && (a.a == b.a) && (a.b == b.b) && (a.r == b.r)) := by
      obtain ⟨a1, a2, a3, a4, a5, a6⟩ := a
      obtain ⟨b1, b2, b3, b4, b5, b6⟩ := b
      simp [Tkt.mk.injEq, and_assoc, Bool.and_assoc]
      rfl
    rw [e]
    simp [go_sem, Program.fieldsOf, Tryz.underlying43, Op.eqFields, part, u3]
    repeat' split
    all_goals simp_all
  unfold oM opM
  simp [xop, execOp, evalL, evE, h1, h2]
  exact Iff.rfl
@[go_sem] theorem eql_off (T : TypeId) (a b : Off) : oM Tryz.prog (.binOp .eql 39 (.tmp 0) (.tmp 1) 39) T [offV a, offV b] = pureM (.bool (decide (a = b))) := by
  funext K w
  have h1 : (eqGuard .eql 39 (.tmp 0) (.tmp 1) (offV a) (offV b)).run Tryz.prog w = .ok () w := run_eqGuard_agg w _ _ _ _ _ _ (by kernel_rfl)
  have h2 : (binOp .eql 39 (offV a) (offV b)).run Tryz.prog w = .ok (.bool (decide (a = b))) w := by
    rw [run_eql_struct, run_equalIn_agg w 9999 39 _ _ (by kernel_rfl) (by kernel_rfl)]
    have u3 := Tryz.underlying3
    have e : decide (a = b) = ((a.z == b.z) && (a.a == b.a) && (a.b == b.b)) := by
      obtain ⟨a1, a2, a3⟩ := a
      obtain ⟨b1, b2, b3⟩ := b
      simp [Off.mk.injEq, and_assoc, Bool.and_assoc]
      rfl
    rw [e]
    simp [go_sem, Program.fieldsOf, Tryz.underlying39, Op.eqFields, part, u3]
    repeat' split
    all_goals simp_all
  unfold oM opM
  simp [xop, execOp, evalL, evE, h1, h2]
  exact Iff.rfl
end
end Go.Proofs
--G
namespace Go.Proofs
open Go Go.Sh Go.RowKit FdSpec TkSpec CodeSpec
set_option linter.unusedSimpArgs false
set_option linter.unusedVariables false
set_option maxRecDepth 10000
theorem dig1 {u : Nat} (h : u < 10) : Lib.decDigits u = [UInt8.ofNat (48 + u)] := by rw [Lib.decDigits]; simp [h]
theorem dig2 {u : Nat} (h : 10 ≤ u) (h2 : u < 100) : Lib.decDigits u = [UInt8.ofNat (48 + u / 10), UInt8.ofNat (48 + u % 10)] := by
  rw [Lib.decDigits, dif_neg (by omega), dig1 (by omega)]; rfl
theorem enc_t0 : encM t0 = [54, 91, 56, 59, 49, 56, 59, 57, 59, 49, 54, 59, 49, 51, 59, 48, 59, 93] := by
  have e0 : Lib.itoa (0 : Int) = [48] := by rw [Lib.itoa, if_neg (by omega)]; simp [dig1]
  have e6 : Lib.itoa (6 : Int) = [54] := by rw [Lib.itoa, if_neg (by omega)]; simp [dig1]
  have e8 : Lib.itoa (8 : Int) = [56] := by rw [Lib.itoa, if_neg (by omega)]; simp [dig1]
  have e9 : Lib.itoa (9 : Int) = [57] := by rw [Lib.itoa, if_neg (by omega)]; simp [dig1]
  have e18 : Lib.itoa (18 : Int) = [49, 56] := by rw [Lib.itoa, if_neg (by omega)]; simp [dig2]
  have e16 : Lib.itoa (16 : Int) = [49, 54] := by rw [Lib.itoa, if_neg (by omega)]; simp [dig2]
  have e13 : Lib.itoa (13 : Int) = [49, 51] := by rw [Lib.itoa, if_neg (by omega)]; simp [dig2]
  simp [encM, encNums, encList, tktL, t0, encInt, e0, e6, e8, e9, e18, e16, e13]
section
variable {K : Value → World → Prop} {w w0 w1 : World} {L : List (Addr × Value)}
theorem mk3 {T : TypeId} (x y z : Int) (hx : I64 x) (hy : I64 y) (hz : I64 z) (k : ∀ ad c W, Below w.heap.size w W → Ints W (.slice ad 3 c) [x, y, z] → K (.slice ad 3 c) W) : oM Tryz.prog (.buildSlice 22 3 #[(0, .tmp 0), (1, .tmp 1), (2, .tmp 2)]) T [.int .i64 x, .int .i64 y, .int .i64 z] K w := by
  rw [oM_buildSlice3]
  have e : (Instr.buildSlice 22 3 #[(0, .int .i64 x), (1, .int .i64 y), (2, .int .i64 z)]).run Tryz.prog w = .ok (.slice (some ⟨w.heap.size, 0, none⟩) 3 3) (w.alloc (.cells #[.int .i64 x, .int .i64 y, .int .i64 z] 3)) := by kernel_rfl
  rw [e]
  exact k _ _ _ ((Below.refl _ w).alloc (Nat.le_refl _) _) (ints_alloc w [x, y, z] _ 3 (by simp; exact ⟨hx, hy, hz⟩) (by simp))
theorem sz_stp (w : World) : (sizeOf 35).run Tryz.prog w = .ok 5 w := by kernel_rfl
theorem al_stp (w : World) : (Instr.alloc 35 true (.tuple #[])).run Tryz.prog w = .ok (.pointer (some ⟨w.heap.size, 0, none⟩)) (w.alloc (.cells [.int .i64 0, .int .i64 0, .int .i64 0, .slice none 0 0, .int .i64 0].toArray 35)) := by kernel_rfl
theorem sz_bld (w : World) : (sizeOf 28).run Tryz.prog w = .ok 4 w := by kernel_rfl
theorem al_bld (w : World) : (Instr.alloc 28 true (.tuple #[])).run Tryz.prog w = .ok (.pointer (some ⟨w.heap.size, 0, none⟩)) (w.alloc (.cells [.int .i64 0, .int .i64 0, .int .i64 0, .slice none 0 0].toArray 28)) := by kernel_rfl
theorem bld_one (b : Bld) (ad : Option Addr) (n c : Nat) : ∀ u ∈ bldC b (.slice ad n c), u.oneCell' = true := by
  intro u hu
  simp only [bldC, List.mem_cons, List.not_mem_nil, or_false] at hu
  rcases hu with rfl | rfl | rfl | rfl <;> rfl
theorem local_stp {K : Value → World → Prop} {T' T2 : TypeId} (s : Stp) (ad : Option Addr) (m c : Nat) (hk : Kn w0 L w)
    (k : ∀ b W, Kn w0 (cellsOf L b 0 (stpC s (.slice ad m c))) W → Below w.heap.size w W → w.heap.size ≤ b → K (.pointer (some ⟨b, 0, none⟩)) W) :
    oM Tryz.prog (.alloc 35) T' [] (fun v w => oM Tryz.prog (.store 35 (.tmp 0) (.tmp 1)) T2 [v, stpV s (.slice ad m c)] (fun _ w => K v w) w) w :=
  local_kn al_stp rfl sz_stp rfl rfl (stp_one s ad m c) hk k
theorem local_bld {K : Value → World → Prop} {T' T2 : TypeId} (b : Bld) (ad : Option Addr) (m c : Nat) (hk : Kn w0 L w)
    (k : ∀ g W, Kn w0 (cellsOf L g 0 (bldC b (.slice ad m c))) W → Below w.heap.size w W → w.heap.size ≤ g → K (.pointer (some ⟨g, 0, none⟩)) W) :
    oM Tryz.prog (.alloc 28) T' [] (fun v w => oM Tryz.prog (.store 28 (.tmp 0) (.tmp 1)) T2 [v, bldV b (.slice ad m c)] (fun _ w => K v w) w) w :=
  local_kn al_bld rfl sz_bld rfl rfl (bld_one b ad m c) hk k
theorem local_off {K : Value → World → Prop} {T' T2 : TypeId} (o : Off) (hk : Kn w0 L w)
    (k : ∀ g W, Kn w0 (cellsOf L g 0 [.int .i64 o.z, .int .i64 o.a, .int .i64 o.b]) W → Below w.heap.size w W → w.heap.size ≤ g → K (.pointer (some ⟨g, 0, none⟩)) W) :
    oM Tryz.prog (.alloc 39) T' [] (fun v w => oM Tryz.prog (.store 39 (.tmp 0) (.tmp 1)) T2 [v, offV o] (fun _ w => K v w) w) w :=
  local_kn al_off rfl sz_off rfl rfl (off_one o) hk k
theorem local_spe {K : Value → World → Prop} {T' T2 : TypeId} (x : Spd) (ad : Option Addr) (m c : Nat) (hk : Kn w0 L w)
    (k : ∀ g W, Kn w0 (cellsOf L g 0 (spdC x (.slice ad m c))) W → Below w.heap.size w W → w.heap.size ≤ g → K (.pointer (some ⟨g, 0, none⟩)) W) :
    oM Tryz.prog (.alloc 47) T' [] (fun v w => oM Tryz.prog (.store 47 (.tmp 0) (.tmp 1)) T2 [v, spdV x (.slice ad m c)] (fun _ w => K v w) w) w :=
  local_kn al_spd rfl sz_spd rfl rfl (spd_one x ad m c) hk k
theorem i64lit {n : Int} (h : -9223372036854775808 ≤ n ∧ n < 9223372036854775808 := by decide) : I64 n := h
structure SE (sv av yv : Value) (w' : World) : Prop where
  setup : SetR w' s0 sv
  at' : Ints w' av [5, 7]
  bl : BldR w' b0 yv
  ld : Cd.Laid w'
theorem SE.next {sv av yv : Value} {w w' : World} (h : SE sv av yv w) (hb : Below w.heap.size w w') : SE sv av yv w' :=
  ⟨h.setup.next hb, h.at'.next hb, h.bl.next hb, h.ld.below hb h.ld.size⟩
theorem t0_R : TktR t0 := ⟨i64lit, i64lit, i64lit, i64lit, i64lit, i64lit⟩
@[reducible] def x0 : Spd := ⟨2, [9, 9, 4]⟩
@[reducible] def y0 : Spd := ⟨5, [10, 3, 0]⟩
@[reducible] def z0 : Spd := ⟨3, [9, 9, 4]⟩
theorem sane_ok (hT : DbT w) (hL : Cd.Laid w) (k : ∀ w', Below w.heap.size w w' → K (.bool true) w') : callM Tryz.prog 22 #[] K w := by
  apply sh_22_ok
  unfold sh_22
  obtain ⟨f1, f2, f3, f4, f5, f6, f7, f8, f9, f10, f11, f12, f13, f14, f15⟩ := sane_facts
  have hk : Kn w [] w := .start w
  iterate 1 (any_goals (first
  | (with_reducible first|refine pureM_in ?_|refine pureQ_in ?_|refine pureH_in ?_|((refine idGdQ ?_); refine gdQ_conv fun _=>?_)|((refine idGdH ?_); refine gdH_conv fun _=>?_)|refine And.intro (Eq.refl (α := World) _) ?_|refine forall_one ?_|((refine idGd ?_); first|refine zA ?_|refine zB ?_|refine zC ?_|refine zD ?_|refine zE ?_|((refine idGdD ?_); first|refine zF ?_|refine zG ?_|refine zH (fun hg=>?_) fun hg=>?_|refine zI ?_|refine zJ ?_|refine zK (fun hg=>?_) fun hg=>?_)|((refine idGdN ?_); first|refine zL ?_|refine zM ?_|refine zN (fun hg=>?_) fun hg=>?_|refine zO ?_|refine zP ?_|refine zQ (fun hg=>?_) fun hg=>?_)|refine zR ?_|refine zS ?_|refine zT ?_|refine zU ?_|refine zV ?_|refine zW ?_|refine zX (fun hg=>?_) fun hg=>?_|refine zY ?_|refine zZ ?_|refine yA (fun hg=>?_) fun hg=>?_)|((refine idPick ?_); first|refine yB ?_|refine yC ?_|refine yD ?_|refine yE ?_|refine yF ?_|refine yG ?_|refine yH ?_|refine yI ?_|refine yJ ?_|refine yK ?_)|((refine idCond ?_); first|refine yL ?_|refine yM ?_|refine yN ?_|refine yO ?_|refine yP (fun hg=>?_) fun hg=>?_|refine yQ ?_|refine yR ?_|refine yS (fun hg=>?_) fun hg=>?_|refine yT ?_|refine yU ?_|refine yV (fun hg=>?_) fun hg=>?_|refine yW ?_|refine yX ?_|refine yY (fun hg=>?_) fun hg=>?_))
  | ((with_reducible refine idOQ ?_); first|(with_reducible first|refine wA ?_|refine wB ?_|refine wC ?_|refine wD ?_|refine wE ?_|refine wF ?_|refine oQ_nil ?_)|((with_reducible refine oQ_one ?_ ?_); exact ⟨_, rfl⟩)|(with_reducible refine oQ_of ⟨_, rfl⟩ (fun W0 hW0 => by (refine oM_gen (fun Kv hK => ?_)); simp [go_sem]; (first | exact hK _ _ ⟨rfl, rfl⟩ | exact ⟨by omega, hK _ _ ⟨rfl, rfl⟩⟩)) ?_))
  | ((with_reducible refine idOH ?_); first|(with_reducible first|refine vA ?_|refine vB ?_|refine vC ?_|refine vD ?_|refine vE ?_|refine vF ?_|refine oH_nil ?_)|(with_reducible refine oH_of ⟨_, rfl⟩ (fun W0 hW0 => by (refine oM_gen (fun Kv hK => ?_)); simp [go_sem]; (first | exact hK _ _ ⟨rfl, rfl⟩ | exact ⟨by omega, hK _ _ ⟨rfl, rfl⟩⟩)) ?_))
  | ((with_reducible refine idO ?_); (with_reducible refine oM_gen fun Kv hK=>?_); simp [go_sem]; (try simp (disch := omega) only [wrapI64, wrapU8, wrapU32, wrapU64]); (first|refine hK _ _ ?_|refine And.intro (by omega) (hK _ _ ?_)); clear hK; clear Kv)))
  refine mk3 4 16 18 i64lit i64lit i64lit (fun ad c W1 hb1 hbs => ?_)
  have hk := hk.next hb1
  have hs : SetR W1 s0 (.slice ad 3 c) := ⟨⟨i64lit, i64lit, i64lit⟩, hbs, i64lit, hT.next hb1⟩
  iterate 1 (any_goals (first
  | (with_reducible first|refine pureM_in ?_|refine pureQ_in ?_|refine pureH_in ?_|((refine idGdQ ?_); refine gdQ_conv fun _=>?_)|((refine idGdH ?_); refine gdH_conv fun _=>?_)|refine And.intro (Eq.refl (α := World) _) ?_|refine forall_one ?_|((refine idGd ?_); first|refine zA ?_|refine zB ?_|refine zC ?_|refine zD ?_|refine zE ?_|((refine idGdD ?_); first|refine zF ?_|refine zG ?_|refine zH (fun hg=>?_) fun hg=>?_|refine zI ?_|refine zJ ?_|refine zK (fun hg=>?_) fun hg=>?_)|((refine idGdN ?_); first|refine zL ?_|refine zM ?_|refine zN (fun hg=>?_) fun hg=>?_|refine zO ?_|refine zP ?_|refine zQ (fun hg=>?_) fun hg=>?_)|refine zR ?_|refine zS ?_|refine zT ?_|refine zU ?_|refine zV ?_|refine zW ?_|refine zX (fun hg=>?_) fun hg=>?_|refine zY ?_|refine zZ ?_|refine yA (fun hg=>?_) fun hg=>?_)|((refine idPick ?_); first|refine yB ?_|refine yC ?_|refine yD ?_|refine yE ?_|refine yF ?_|refine yG ?_|refine yH ?_|refine yI ?_|refine yJ ?_|refine yK ?_)|((refine idCond ?_); first|refine yL ?_|refine yM ?_|refine yN ?_|refine yO ?_|refine yP (fun hg=>?_) fun hg=>?_|refine yQ ?_|refine yR ?_|refine yS (fun hg=>?_) fun hg=>?_|refine yT ?_|refine yU ?_|refine yV (fun hg=>?_) fun hg=>?_|refine yW ?_|refine yX ?_|refine yY (fun hg=>?_) fun hg=>?_))
  | ((with_reducible refine idOQ ?_); first|(with_reducible first|refine wA ?_|refine wB ?_|refine wC ?_|refine wD ?_|refine wE ?_|refine wF ?_|refine oQ_nil ?_)|((with_reducible refine oQ_one ?_ ?_); exact ⟨_, rfl⟩)|(with_reducible refine oQ_of ⟨_, rfl⟩ (fun W0 hW0 => by (refine oM_gen (fun Kv hK => ?_)); simp [go_sem]; (first | exact hK _ _ ⟨rfl, rfl⟩ | exact ⟨by omega, hK _ _ ⟨rfl, rfl⟩⟩)) ?_))
  | ((with_reducible refine idOH ?_); first|(with_reducible first|refine vA ?_|refine vB ?_|refine vC ?_|refine vD ?_|refine vE ?_|refine vF ?_|refine oH_nil ?_)|(with_reducible refine oH_of ⟨_, rfl⟩ (fun W0 hW0 => by (refine oM_gen (fun Kv hK => ?_)); simp [go_sem]; (first | exact hK _ _ ⟨rfl, rfl⟩ | exact ⟨by omega, hK _ _ ⟨rfl, rfl⟩⟩)) ?_))
  | ((with_reducible refine idO ?_); (with_reducible refine oM_gen fun Kv hK=>?_); simp [go_sem]; (try simp (disch := omega) only [wrapI64, wrapU8, wrapU32, wrapU64]); (first|refine hK _ _ ?_|refine And.intro (by omega) (hK _ _ ?_)); clear hK; clear Kv)))
  refine local_stp s0 ad 3 c hk (fun gs W2 hk hb2 hg2 => ?_)
  refine mk2 5 7 i64lit i64lit (fun v3 W3 hb3 hat => ?_)
  have hk := hk.next hb3
  refine mk3 1 2 3 i64lit i64lit i64lit (fun yad yc W4 hb4 hys => ?_)
  have hk := hk.next hb4
  iterate 1 (any_goals (first
  | (with_reducible first|refine pureM_in ?_|refine pureQ_in ?_|refine pureH_in ?_|((refine idGdQ ?_); refine gdQ_conv fun _=>?_)|((refine idGdH ?_); refine gdH_conv fun _=>?_)|refine And.intro (Eq.refl (α := World) _) ?_|refine forall_one ?_|((refine idGd ?_); first|refine zA ?_|refine zB ?_|refine zC ?_|refine zD ?_|refine zE ?_|((refine idGdD ?_); first|refine zF ?_|refine zG ?_|refine zH (fun hg=>?_) fun hg=>?_|refine zI ?_|refine zJ ?_|refine zK (fun hg=>?_) fun hg=>?_)|((refine idGdN ?_); first|refine zL ?_|refine zM ?_|refine zN (fun hg=>?_) fun hg=>?_|refine zO ?_|refine zP ?_|refine zQ (fun hg=>?_) fun hg=>?_)|refine zR ?_|refine zS ?_|refine zT ?_|refine zU ?_|refine zV ?_|refine zW ?_|refine zX (fun hg=>?_) fun hg=>?_|refine zY ?_|refine zZ ?_|refine yA (fun hg=>?_) fun hg=>?_)|((refine idPick ?_); first|refine yB ?_|refine yC ?_|refine yD ?_|refine yE ?_|refine yF ?_|refine yG ?_|refine yH ?_|refine yI ?_|refine yJ ?_|refine yK ?_)|((refine idCond ?_); first|refine yL ?_|refine yM ?_|refine yN ?_|refine yO ?_|refine yP (fun hg=>?_) fun hg=>?_|refine yQ ?_|refine yR ?_|refine yS (fun hg=>?_) fun hg=>?_|refine yT ?_|refine yU ?_|refine yV (fun hg=>?_) fun hg=>?_|refine yW ?_|refine yX ?_|refine yY (fun hg=>?_) fun hg=>?_))
  | ((with_reducible refine idOQ ?_); first|(with_reducible first|refine wA ?_|refine wB ?_|refine wC ?_|refine wD ?_|refine wE ?_|refine wF ?_|refine oQ_nil ?_)|((with_reducible refine oQ_one ?_ ?_); exact ⟨_, rfl⟩)|(with_reducible refine oQ_of ⟨_, rfl⟩ (fun W0 hW0 => by (refine oM_gen (fun Kv hK => ?_)); simp [go_sem]; (first | exact hK _ _ ⟨rfl, rfl⟩ | exact ⟨by omega, hK _ _ ⟨rfl, rfl⟩⟩)) ?_))
  | ((with_reducible refine idOH ?_); first|(with_reducible first|refine vA ?_|refine vB ?_|refine vC ?_|refine vD ?_|refine vE ?_|refine vF ?_|refine oH_nil ?_)|(with_reducible refine oH_of ⟨_, rfl⟩ (fun W0 hW0 => by (refine oM_gen (fun Kv hK => ?_)); simp [go_sem]; (first | exact hK _ _ ⟨rfl, rfl⟩ | exact ⟨by omega, hK _ _ ⟨rfl, rfl⟩⟩)) ?_))
  | ((with_reducible refine idO ?_); (with_reducible refine oM_gen fun Kv hK=>?_); simp [go_sem]; (try simp (disch := omega) only [wrapI64, wrapU8, wrapU32, wrapU64]); (first|refine hK _ _ ?_|refine And.intro (by omega) (hK _ _ ?_)); clear hK; clear Kv)))
  refine local_bld b0 yad 3 yc hk (fun gb W5 hk hb5 hg5 => ?_)
  have hW1 := (hb2.on hb3).on (hb4.on hb5)
  have E : SE (.slice ad 3 c) v3 (.slice yad 3 yc) W5 := ⟨hs.next hW1, hat.next (hb4.on hb5), ⟨i64lit, i64lit, i64lit, hys.next hb5⟩, hL.below hk.below hL.size⟩
  repeat (any_goals (first
  | (with_reducible first|refine pureM_in ?_|((refine idGd ?_); first|refine zA ?_|refine zB ?_|refine zC ?_|refine zD ?_|refine zE ?_|((refine idGdD ?_); first|refine zF ?_|refine zG ?_|refine zH (fun hg=>?_) fun hg=>?_|refine zI ?_|refine zJ ?_|refine zK (fun hg=>?_) fun hg=>?_)|((refine idGdN ?_); first|refine zL ?_|refine zM ?_|refine zN (fun hg=>?_) fun hg=>?_|refine zO ?_|refine zP ?_|refine zQ (fun hg=>?_) fun hg=>?_)|refine zR ?_|refine zS ?_|refine zT ?_|refine zU ?_|refine zV ?_|refine zW ?_|refine zX (fun hg=>?_) fun hg=>?_|refine zY ?_|refine zZ ?_|refine yA (fun hg=>?_) fun hg=>?_)|((refine idPick ?_); first|refine yB ?_|refine yC ?_|refine yD ?_|refine yE ?_|refine yF ?_|refine yG ?_|refine yH ?_|refine yI ?_|refine yJ ?_|refine yK ?_)|((refine idCond ?_); first|refine yL ?_|refine yM ?_|refine yN ?_|refine yO ?_|refine yP (fun hg=>?_) fun hg=>?_|refine yQ ?_|refine yR ?_|refine yS (fun hg=>?_) fun hg=>?_|refine yT ?_|refine yU ?_|refine yV (fun hg=>?_) fun hg=>?_|refine yW ?_|refine yX ?_|refine yY (fun hg=>?_) fun hg=>?_))
  | ((with_reducible refine idO ?_); (with_reducible refine oM_gen fun Kv hK=>?_); simp [go_sem, hk.cells]; (try simp (disch := omega) only [wrapI64, wrapU8, wrapU32, wrapU64]); (first|refine hK _ _ ?_|refine And.intro (by omega) (hK _ _ ?_)); clear hK; clear Kv)))
  refine Propose_ok s0 3 2 i64lit i64lit E.setup E.at' (fun w1 h1 => ?_)
  rw [f1]
  have hk := hk.next h1
  have E := E.next h1
  iterate 2 (any_goals (first
  | (with_reducible first|refine pureM_in ?_|refine pureQ_in ?_|refine pureH_in ?_|((refine idGdQ ?_); refine gdQ_conv fun _=>?_)|((refine idGdH ?_); refine gdH_conv fun _=>?_)|refine And.intro (Eq.refl (α := World) _) ?_|refine forall_one ?_|((refine idGd ?_); first|refine zA ?_|refine zB ?_|refine zC ?_|refine zD ?_|refine zE ?_|((refine idGdD ?_); first|refine zF ?_|refine zG ?_|refine zH (fun hg=>?_) fun hg=>?_|refine zI ?_|refine zJ ?_|refine zK (fun hg=>?_) fun hg=>?_)|((refine idGdN ?_); first|refine zL ?_|refine zM ?_|refine zN (fun hg=>?_) fun hg=>?_|refine zO ?_|refine zP ?_|refine zQ (fun hg=>?_) fun hg=>?_)|refine zR ?_|refine zS ?_|refine zT ?_|refine zU ?_|refine zV ?_|refine zW ?_|refine zX (fun hg=>?_) fun hg=>?_|refine zY ?_|refine zZ ?_|refine yA (fun hg=>?_) fun hg=>?_)|((refine idPick ?_); first|refine yB ?_|refine yC ?_|refine yD ?_|refine yE ?_|refine yF ?_|refine yG ?_|refine yH ?_|refine yI ?_|refine yJ ?_|refine yK ?_)|((refine idCond ?_); first|refine yL ?_|refine yM ?_|refine yN ?_|refine yO ?_|refine yP (fun hg=>?_) fun hg=>?_|refine yQ ?_|refine yR ?_|refine yS (fun hg=>?_) fun hg=>?_|refine yT ?_|refine yU ?_|refine yV (fun hg=>?_) fun hg=>?_|refine yW ?_|refine yX ?_|refine yY (fun hg=>?_) fun hg=>?_))
  | ((with_reducible refine idOQ ?_); first|(with_reducible first|refine wA ?_|refine wB ?_|refine wC ?_|refine wD ?_|refine wE ?_|refine wF ?_|refine oQ_nil ?_)|((with_reducible refine oQ_one ?_ ?_); exact ⟨_, rfl⟩)|(with_reducible refine oQ_of ⟨_, rfl⟩ (fun W0 hW0 => by (refine oM_gen (fun Kv hK => ?_)); simp [go_sem]; (first | exact hK _ _ ⟨rfl, rfl⟩ | exact ⟨by omega, hK _ _ ⟨rfl, rfl⟩⟩)) ?_))
  | ((with_reducible refine idOH ?_); first|(with_reducible first|refine vA ?_|refine vB ?_|refine vC ?_|refine vD ?_|refine vE ?_|refine vF ?_|refine oH_nil ?_)|(with_reducible refine oH_of ⟨_, rfl⟩ (fun W0 hW0 => by (refine oM_gen (fun Kv hK => ?_)); simp [go_sem]; (first | exact hK _ _ ⟨rfl, rfl⟩ | exact ⟨by omega, hK _ _ ⟨rfl, rfl⟩⟩)) ?_))
  | ((with_reducible refine idO ?_); (with_reducible refine oM_gen fun Kv hK=>?_); simp [go_sem]; (try simp (disch := omega) only [wrapI64, wrapU8, wrapU32, wrapU64]); (first|refine hK _ _ ?_|refine And.intro (by omega) (hK _ _ ?_)); clear hK; clear Kv)))
  refine local_off ⟨9, 16, 13⟩ hk (fun go W6 hk hb6 hg6 => ?_)
  have E := E.next hb6
  repeat (any_goals (first
  | (with_reducible first|refine pureM_in ?_|((refine idGd ?_); first|refine zA ?_|refine zB ?_|refine zC ?_|refine zD ?_|refine zE ?_|((refine idGdD ?_); first|refine zF ?_|refine zG ?_|refine zH (fun hg=>?_) fun hg=>?_|refine zI ?_|refine zJ ?_|refine zK (fun hg=>?_) fun hg=>?_)|((refine idGdN ?_); first|refine zL ?_|refine zM ?_|refine zN (fun hg=>?_) fun hg=>?_|refine zO ?_|refine zP ?_|refine zQ (fun hg=>?_) fun hg=>?_)|refine zR ?_|refine zS ?_|refine zT ?_|refine zU ?_|refine zV ?_|refine zW ?_|refine zX (fun hg=>?_) fun hg=>?_|refine zY ?_|refine zZ ?_|refine yA (fun hg=>?_) fun hg=>?_)|((refine idPick ?_); first|refine yB ?_|refine yC ?_|refine yD ?_|refine yE ?_|refine yF ?_|refine yG ?_|refine yH ?_|refine yI ?_|refine yJ ?_|refine yK ?_)|((refine idCond ?_); first|refine yL ?_|refine yM ?_|refine yN ?_|refine yO ?_|refine yP (fun hg=>?_) fun hg=>?_|refine yQ ?_|refine yR ?_|refine yS (fun hg=>?_) fun hg=>?_|refine yT ?_|refine yU ?_|refine yV (fun hg=>?_) fun hg=>?_|refine yW ?_|refine yX ?_|refine yY (fun hg=>?_) fun hg=>?_))
  | ((with_reducible refine idO ?_); (with_reducible refine oM_gen fun Kv hK=>?_); simp [go_sem, hk.cells]; (try simp (disch := omega) only [wrapI64, wrapU8, wrapU32, wrapU64]); (first|refine hK _ _ ?_|refine And.intro (by omega) (hK _ _ ?_)); clear hK; clear Kv)))
  refine Use_ok s0 b0 2 i64lit E.setup E.at' E.bl (fun w2 ov2 h2 hi2 => ?_)
  rw [f2] at hi2 ⊢
  obtain ⟨ad2, c2, rfl⟩ := hi2.isSlice
  have hk := hk.next h2
  have E := E.next h2
  iterate 2 (any_goals (first
  | (with_reducible first|refine pureM_in ?_|refine pureQ_in ?_|refine pureH_in ?_|((refine idGdQ ?_); refine gdQ_conv fun _=>?_)|((refine idGdH ?_); refine gdH_conv fun _=>?_)|refine And.intro (Eq.refl (α := World) _) ?_|refine forall_one ?_|((refine idGd ?_); first|refine zA ?_|refine zB ?_|refine zC ?_|refine zD ?_|refine zE ?_|((refine idGdD ?_); first|refine zF ?_|refine zG ?_|refine zH (fun hg=>?_) fun hg=>?_|refine zI ?_|refine zJ ?_|refine zK (fun hg=>?_) fun hg=>?_)|((refine idGdN ?_); first|refine zL ?_|refine zM ?_|refine zN (fun hg=>?_) fun hg=>?_|refine zO ?_|refine zP ?_|refine zQ (fun hg=>?_) fun hg=>?_)|refine zR ?_|refine zS ?_|refine zT ?_|refine zU ?_|refine zV ?_|refine zW ?_|refine zX (fun hg=>?_) fun hg=>?_|refine zY ?_|refine zZ ?_|refine yA (fun hg=>?_) fun hg=>?_)|((refine idPick ?_); first|refine yB ?_|refine yC ?_|refine yD ?_|refine yE ?_|refine yF ?_|refine yG ?_|refine yH ?_|refine yI ?_|refine yJ ?_|refine yK ?_)|((refine idCond ?_); first|refine yL ?_|refine yM ?_|refine yN ?_|refine yO ?_|refine yP (fun hg=>?_) fun hg=>?_|refine yQ ?_|refine yR ?_|refine yS (fun hg=>?_) fun hg=>?_|refine yT ?_|refine yU ?_|refine yV (fun hg=>?_) fun hg=>?_|refine yW ?_|refine yX ?_|refine yY (fun hg=>?_) fun hg=>?_))
  | ((with_reducible refine idOQ ?_); first|(with_reducible first|refine wA ?_|refine wB ?_|refine wC ?_|refine wD ?_|refine wE ?_|refine wF ?_|refine oQ_nil ?_)|((with_reducible refine oQ_one ?_ ?_); exact ⟨_, rfl⟩)|(with_reducible refine oQ_of ⟨_, rfl⟩ (fun W0 hW0 => by (refine oM_gen (fun Kv hK => ?_)); simp [go_sem]; (first | exact hK _ _ ⟨rfl, rfl⟩ | exact ⟨by omega, hK _ _ ⟨rfl, rfl⟩⟩)) ?_))
  | ((with_reducible refine idOH ?_); first|(with_reducible first|refine vA ?_|refine vB ?_|refine vC ?_|refine vD ?_|refine vE ?_|refine vF ?_|refine oH_nil ?_)|(with_reducible refine oH_of ⟨_, rfl⟩ (fun W0 hW0 => by (refine oM_gen (fun Kv hK => ?_)); simp [go_sem]; (first | exact hK _ _ ⟨rfl, rfl⟩ | exact ⟨by omega, hK _ _ ⟨rfl, rfl⟩⟩)) ?_))
  | ((with_reducible refine idO ?_); (with_reducible refine oM_gen fun Kv hK=>?_); simp [go_sem]; (try simp (disch := omega) only [wrapI64, wrapU8, wrapU32, wrapU64]); (first|refine hK _ _ ?_|refine And.intro (by omega) (hK _ _ ?_)); clear hK; clear Kv)))
  refine local_spe x0 ad2 3 c2 hk (fun gx W7 hk hb7 hg7 => ?_)
  have E := E.next hb7
  have X : SpdR W7 x0 (.slice ad2 3 c2) := ⟨i64lit, hi2.next hb7⟩
  repeat (any_goals (first
  | (with_reducible first|refine pureM_in ?_|((refine idGd ?_); first|refine zA ?_|refine zB ?_|refine zC ?_|refine zD ?_|refine zE ?_|((refine idGdD ?_); first|refine zF ?_|refine zG ?_|refine zH (fun hg=>?_) fun hg=>?_|refine zI ?_|refine zJ ?_|refine zK (fun hg=>?_) fun hg=>?_)|((refine idGdN ?_); first|refine zL ?_|refine zM ?_|refine zN (fun hg=>?_) fun hg=>?_|refine zO ?_|refine zP ?_|refine zQ (fun hg=>?_) fun hg=>?_)|refine zR ?_|refine zS ?_|refine zT ?_|refine zU ?_|refine zV ?_|refine zW ?_|refine zX (fun hg=>?_) fun hg=>?_|refine zY ?_|refine zZ ?_|refine yA (fun hg=>?_) fun hg=>?_)|((refine idPick ?_); first|refine yB ?_|refine yC ?_|refine yD ?_|refine yE ?_|refine yF ?_|refine yG ?_|refine yH ?_|refine yI ?_|refine yJ ?_|refine yK ?_)|((refine idCond ?_); first|refine yL ?_|refine yM ?_|refine yN ?_|refine yO ?_|refine yP (fun hg=>?_) fun hg=>?_|refine yQ ?_|refine yR ?_|refine yS (fun hg=>?_) fun hg=>?_|refine yT ?_|refine yU ?_|refine yV (fun hg=>?_) fun hg=>?_|refine yW ?_|refine yX ?_|refine yY (fun hg=>?_) fun hg=>?_))
  | ((with_reducible refine idO ?_); (with_reducible refine oM_gen fun Kv hK=>?_); simp [go_sem, hk.cells]; (try simp (disch := omega) only [wrapI64, wrapU8, wrapU32, wrapU64]); (first|refine hK _ _ ?_|refine And.intro (by omega) (hK _ _ ?_)); clear hK; clear Kv)))
  refine Use_ok s0 b0 5 i64lit E.setup E.at' E.bl (fun w3 ov3 h3 hi3 => ?_)
  rw [f3] at hi3 ⊢
  obtain ⟨ad3, c3, rfl⟩ := hi3.isSlice
  have hk := hk.next h3
  have E := E.next h3
  have X := X.next h3
  iterate 2 (any_goals (first
  | (with_reducible first|refine pureM_in ?_|refine pureQ_in ?_|refine pureH_in ?_|((refine idGdQ ?_); refine gdQ_conv fun _=>?_)|((refine idGdH ?_); refine gdH_conv fun _=>?_)|refine And.intro (Eq.refl (α := World) _) ?_|refine forall_one ?_|((refine idGd ?_); first|refine zA ?_|refine zB ?_|refine zC ?_|refine zD ?_|refine zE ?_|((refine idGdD ?_); first|refine zF ?_|refine zG ?_|refine zH (fun hg=>?_) fun hg=>?_|refine zI ?_|refine zJ ?_|refine zK (fun hg=>?_) fun hg=>?_)|((refine idGdN ?_); first|refine zL ?_|refine zM ?_|refine zN (fun hg=>?_) fun hg=>?_|refine zO ?_|refine zP ?_|refine zQ (fun hg=>?_) fun hg=>?_)|refine zR ?_|refine zS ?_|refine zT ?_|refine zU ?_|refine zV ?_|refine zW ?_|refine zX (fun hg=>?_) fun hg=>?_|refine zY ?_|refine zZ ?_|refine yA (fun hg=>?_) fun hg=>?_)|((refine idPick ?_); first|refine yB ?_|refine yC ?_|refine yD ?_|refine yE ?_|refine yF ?_|refine yG ?_|refine yH ?_|refine yI ?_|refine yJ ?_|refine yK ?_)|((refine idCond ?_); first|refine yL ?_|refine yM ?_|refine yN ?_|refine yO ?_|refine yP (fun hg=>?_) fun hg=>?_|refine yQ ?_|refine yR ?_|refine yS (fun hg=>?_) fun hg=>?_|refine yT ?_|refine yU ?_|refine yV (fun hg=>?_) fun hg=>?_|refine yW ?_|refine yX ?_|refine yY (fun hg=>?_) fun hg=>?_))
  | ((with_reducible refine idOQ ?_); first|(with_reducible first|refine wA ?_|refine wB ?_|refine wC ?_|refine wD ?_|refine wE ?_|refine wF ?_|refine oQ_nil ?_)|((with_reducible refine oQ_one ?_ ?_); exact ⟨_, rfl⟩)|(with_reducible refine oQ_of ⟨_, rfl⟩ (fun W0 hW0 => by (refine oM_gen (fun Kv hK => ?_)); simp [go_sem]; (first | exact hK _ _ ⟨rfl, rfl⟩ | exact ⟨by omega, hK _ _ ⟨rfl, rfl⟩⟩)) ?_))
  | ((with_reducible refine idOH ?_); first|(with_reducible first|refine vA ?_|refine vB ?_|refine vC ?_|refine vD ?_|refine vE ?_|refine vF ?_|refine oH_nil ?_)|(with_reducible refine oH_of ⟨_, rfl⟩ (fun W0 hW0 => by (refine oM_gen (fun Kv hK => ?_)); simp [go_sem]; (first | exact hK _ _ ⟨rfl, rfl⟩ | exact ⟨by omega, hK _ _ ⟨rfl, rfl⟩⟩)) ?_))
  | ((with_reducible refine idO ?_); (with_reducible refine oM_gen fun Kv hK=>?_); simp [go_sem]; (try simp (disch := omega) only [wrapI64, wrapU8, wrapU32, wrapU64]); (first|refine hK _ _ ?_|refine And.intro (by omega) (hK _ _ ?_)); clear hK; clear Kv)))
  refine local_spe y0 ad3 3 c3 hk (fun gy W8 hk hb8 hg8 => ?_)
  have E := E.next hb8
  have X := X.next hb8
  have Y : SpdR W8 y0 (.slice ad3 3 c3) := ⟨i64lit, hi3.next hb8⟩
  iterate 1 (any_goals (first
  | (with_reducible first|refine pureM_in ?_|refine pureQ_in ?_|refine pureH_in ?_|((refine idGdQ ?_); refine gdQ_conv fun _=>?_)|((refine idGdH ?_); refine gdH_conv fun _=>?_)|refine And.intro (Eq.refl (α := World) _) ?_|refine forall_one ?_|((refine idGd ?_); first|refine zA ?_|refine zB ?_|refine zC ?_|refine zD ?_|refine zE ?_|((refine idGdD ?_); first|refine zF ?_|refine zG ?_|refine zH (fun hg=>?_) fun hg=>?_|refine zI ?_|refine zJ ?_|refine zK (fun hg=>?_) fun hg=>?_)|((refine idGdN ?_); first|refine zL ?_|refine zM ?_|refine zN (fun hg=>?_) fun hg=>?_|refine zO ?_|refine zP ?_|refine zQ (fun hg=>?_) fun hg=>?_)|refine zR ?_|refine zS ?_|refine zT ?_|refine zU ?_|refine zV ?_|refine zW ?_|refine zX (fun hg=>?_) fun hg=>?_|refine zY ?_|refine zZ ?_|refine yA (fun hg=>?_) fun hg=>?_)|((refine idPick ?_); first|refine yB ?_|refine yC ?_|refine yD ?_|refine yE ?_|refine yF ?_|refine yG ?_|refine yH ?_|refine yI ?_|refine yJ ?_|refine yK ?_)|((refine idCond ?_); first|refine yL ?_|refine yM ?_|refine yN ?_|refine yO ?_|refine yP (fun hg=>?_) fun hg=>?_|refine yQ ?_|refine yR ?_|refine yS (fun hg=>?_) fun hg=>?_|refine yT ?_|refine yU ?_|refine yV (fun hg=>?_) fun hg=>?_|refine yW ?_|refine yX ?_|refine yY (fun hg=>?_) fun hg=>?_))
  | ((with_reducible refine idOQ ?_); first|(with_reducible first|refine wA ?_|refine wB ?_|refine wC ?_|refine wD ?_|refine wE ?_|refine wF ?_|refine oQ_nil ?_)|((with_reducible refine oQ_one ?_ ?_); exact ⟨_, rfl⟩)|(with_reducible refine oQ_of ⟨_, rfl⟩ (fun W0 hW0 => by (refine oM_gen (fun Kv hK => ?_)); simp [go_sem]; (first | exact hK _ _ ⟨rfl, rfl⟩ | exact ⟨by omega, hK _ _ ⟨rfl, rfl⟩⟩)) ?_))
  | ((with_reducible refine idOH ?_); first|(with_reducible first|refine vA ?_|refine vB ?_|refine vC ?_|refine vD ?_|refine vE ?_|refine vF ?_|refine oH_nil ?_)|(with_reducible refine oH_of ⟨_, rfl⟩ (fun W0 hW0 => by (refine oM_gen (fun Kv hK => ?_)); simp [go_sem]; (first | exact hK _ _ ⟨rfl, rfl⟩ | exact ⟨by omega, hK _ _ ⟨rfl, rfl⟩⟩)) ?_))
  | ((with_reducible refine idO ?_); (with_reducible refine oM_gen fun Kv hK=>?_); simp [go_sem]; (try simp (disch := omega) only [wrapI64, wrapU8, wrapU32, wrapU64]); (first|refine hK _ _ ?_|refine And.intro (by omega) (hK _ _ ?_)); clear hK; clear Kv)))
  refine local_tkt t0 hk (fun gt W9 hk hb9 hg9 => ?_)
  have E := E.next hb9
  have X := X.next hb9
  have Y := Y.next hb9
  repeat (any_goals (first
  | (with_reducible first|refine pureM_in ?_|((refine idGd ?_); first|refine zA ?_|refine zB ?_|refine zC ?_|refine zD ?_|refine zE ?_|((refine idGdD ?_); first|refine zF ?_|refine zG ?_|refine zH (fun hg=>?_) fun hg=>?_|refine zI ?_|refine zJ ?_|refine zK (fun hg=>?_) fun hg=>?_)|((refine idGdN ?_); first|refine zL ?_|refine zM ?_|refine zN (fun hg=>?_) fun hg=>?_|refine zO ?_|refine zP ?_|refine zQ (fun hg=>?_) fun hg=>?_)|refine zR ?_|refine zS ?_|refine zT ?_|refine zU ?_|refine zV ?_|refine zW ?_|refine zX (fun hg=>?_) fun hg=>?_|refine zY ?_|refine zZ ?_|refine yA (fun hg=>?_) fun hg=>?_)|((refine idPick ?_); first|refine yB ?_|refine yC ?_|refine yD ?_|refine yE ?_|refine yF ?_|refine yG ?_|refine yH ?_|refine yI ?_|refine yJ ?_|refine yK ?_)|((refine idCond ?_); first|refine yL ?_|refine yM ?_|refine yN ?_|refine yO ?_|refine yP (fun hg=>?_) fun hg=>?_|refine yQ ?_|refine yR ?_|refine yS (fun hg=>?_) fun hg=>?_|refine yT ?_|refine yU ?_|refine yV (fun hg=>?_) fun hg=>?_|refine yW ?_|refine yX ?_|refine yY (fun hg=>?_) fun hg=>?_))
  | ((with_reducible refine idO ?_); (with_reducible refine oM_gen fun Kv hK=>?_); simp [go_sem, hk.cells]; (try simp (disch := omega) only [wrapI64, wrapU8, wrapU32, wrapU64]); (first|refine hK _ _ ?_|refine And.intro (by omega) (hK _ _ ?_)); clear hK; clear Kv)))
  refine Trace_ok s0 t0 x0 y0 t0_R E.setup X Y (fun w4 ov4 h4 hi4 => ?_)
  rw [f4] at hi4 ⊢
  have hk := hk.next h4
  have E := E.next h4
  have X := X.next h4
  have Y := Y.next h4
  repeat (any_goals (first
  | (with_reducible first|refine pureM_in ?_|((refine idGd ?_); first|refine zA ?_|refine zB ?_|refine zC ?_|refine zD ?_|refine zE ?_|((refine idGdD ?_); first|refine zF ?_|refine zG ?_|refine zH (fun hg=>?_) fun hg=>?_|refine zI ?_|refine zJ ?_|refine zK (fun hg=>?_) fun hg=>?_)|((refine idGdN ?_); first|refine zL ?_|refine zM ?_|refine zN (fun hg=>?_) fun hg=>?_|refine zO ?_|refine zP ?_|refine zQ (fun hg=>?_) fun hg=>?_)|refine zR ?_|refine zS ?_|refine zT ?_|refine zU ?_|refine zV ?_|refine zW ?_|refine zX (fun hg=>?_) fun hg=>?_|refine zY ?_|refine zZ ?_|refine yA (fun hg=>?_) fun hg=>?_)|((refine idPick ?_); first|refine yB ?_|refine yC ?_|refine yD ?_|refine yE ?_|refine yF ?_|refine yG ?_|refine yH ?_|refine yI ?_|refine yJ ?_|refine yK ?_)|((refine idCond ?_); first|refine yL ?_|refine yM ?_|refine yN ?_|refine yO ?_|refine yP (fun hg=>?_) fun hg=>?_|refine yQ ?_|refine yR ?_|refine yS (fun hg=>?_) fun hg=>?_|refine yT ?_|refine yU ?_|refine yV (fun hg=>?_) fun hg=>?_|refine yW ?_|refine yX ?_|refine yY (fun hg=>?_) fun hg=>?_))
  | ((with_reducible refine idO ?_); (with_reducible refine oM_gen fun Kv hK=>?_); simp [go_sem, hk.cells]; (try simp (disch := omega) only [wrapI64, wrapU8, wrapU32, wrapU64]); (first|refine hK _ _ ?_|refine And.intro (by omega) (hK _ _ ?_)); clear hK; clear Kv)))
  refine Trace_ok s0 t0 x0 x0 t0_R E.setup X X (fun w5 ov5 h5 hi5 => ?_)
  rw [f5]
  have hk := hk.next h5
  have E := E.next h5
  have X := X.next h5
  have Y := Y.next h5
  have hi4 := hi4.next h5
  repeat (any_goals (first
  | ((with_reducible refine mk3 9 9 4 i64lit i64lit i64lit ?_); intro ad6 c6 w6 h6 hi6)
  | (with_reducible first|refine pureM_in ?_|((refine idGd ?_); first|refine zA ?_|refine zB ?_|refine zC ?_|refine zD ?_|refine zE ?_|((refine idGdD ?_); first|refine zF ?_|refine zG ?_|refine zH (fun hg=>?_) fun hg=>?_|refine zI ?_|refine zJ ?_|refine zK (fun hg=>?_) fun hg=>?_)|((refine idGdN ?_); first|refine zL ?_|refine zM ?_|refine zN (fun hg=>?_) fun hg=>?_|refine zO ?_|refine zP ?_|refine zQ (fun hg=>?_) fun hg=>?_)|refine zR ?_|refine zS ?_|refine zT ?_|refine zU ?_|refine zV ?_|refine zW ?_|refine zX (fun hg=>?_) fun hg=>?_|refine zY ?_|refine zZ ?_|refine yA (fun hg=>?_) fun hg=>?_)|((refine idPick ?_); first|refine yB ?_|refine yC ?_|refine yD ?_|refine yE ?_|refine yF ?_|refine yG ?_|refine yH ?_|refine yI ?_|refine yJ ?_|refine yK ?_)|((refine idCond ?_); first|refine yL ?_|refine yM ?_|refine yN ?_|refine yO ?_|refine yP (fun hg=>?_) fun hg=>?_|refine yQ ?_|refine yR ?_|refine yS (fun hg=>?_) fun hg=>?_|refine yT ?_|refine yU ?_|refine yV (fun hg=>?_) fun hg=>?_|refine yW ?_|refine yX ?_|refine yY (fun hg=>?_) fun hg=>?_))
  | ((with_reducible refine idO ?_); (with_reducible refine oM_gen fun Kv hK=>?_); simp [go_sem, hk.cells]; (try simp (disch := omega) only [wrapI64, wrapU8, wrapU32, wrapU64]); (first|refine hK _ _ ?_|refine And.intro (by omega) (hK _ _ ?_)); clear hK; clear Kv)))
  have hk := hk.next h6
  have E := E.next h6
  have X := X.next h6
  have Y := Y.next h6
  have hi4 := hi4.next h6
  refine Same_ok X.answers hi6 (fun w7 h7 => ?_)
  rw [decide_eq_true rfl]
  have hk := hk.next h7
  have E := E.next h7
  have X := X.next h7
  have Y := Y.next h7
  have hi4 := hi4.next h7
  repeat (any_goals (first
  | ((with_reducible refine mk3 10 3 0 i64lit i64lit i64lit ?_); intro ad8 c8 w8 h8 hi8)
  | (with_reducible first|refine pureM_in ?_|((refine idGd ?_); first|refine zA ?_|refine zB ?_|refine zC ?_|refine zD ?_|refine zE ?_|((refine idGdD ?_); first|refine zF ?_|refine zG ?_|refine zH (fun hg=>?_) fun hg=>?_|refine zI ?_|refine zJ ?_|refine zK (fun hg=>?_) fun hg=>?_)|((refine idGdN ?_); first|refine zL ?_|refine zM ?_|refine zN (fun hg=>?_) fun hg=>?_|refine zO ?_|refine zP ?_|refine zQ (fun hg=>?_) fun hg=>?_)|refine zR ?_|refine zS ?_|refine zT ?_|refine zU ?_|refine zV ?_|refine zW ?_|refine zX (fun hg=>?_) fun hg=>?_|refine zY ?_|refine zZ ?_|refine yA (fun hg=>?_) fun hg=>?_)|((refine idPick ?_); first|refine yB ?_|refine yC ?_|refine yD ?_|refine yE ?_|refine yF ?_|refine yG ?_|refine yH ?_|refine yI ?_|refine yJ ?_|refine yK ?_)|((refine idCond ?_); first|refine yL ?_|refine yM ?_|refine yN ?_|refine yO ?_|refine yP (fun hg=>?_) fun hg=>?_|refine yQ ?_|refine yR ?_|refine yS (fun hg=>?_) fun hg=>?_|refine yT ?_|refine yU ?_|refine yV (fun hg=>?_) fun hg=>?_|refine yW ?_|refine yX ?_|refine yY (fun hg=>?_) fun hg=>?_))
  | ((with_reducible refine idO ?_); (with_reducible refine oM_gen fun Kv hK=>?_); simp [go_sem, hk.cells]; (try simp (disch := omega) only [wrapI64, wrapU8, wrapU32, wrapU64]); (first|refine hK _ _ ?_|refine And.intro (by omega) (hK _ _ ?_)); clear hK; clear Kv)))
  have hk := hk.next h8
  have E := E.next h8
  have X := X.next h8
  have Y := Y.next h8
  have hi4 := hi4.next h8
  refine Same_ok Y.answers hi8 (fun w9 h9 => ?_)
  rw [decide_eq_true rfl]
  have hk := hk.next h9
  have E := E.next h9
  have X := X.next h9
  have Y := Y.next h9
  have hi4 := hi4.next h9
  repeat (any_goals (first
  | (with_reducible first|refine pureM_in ?_|((refine idGd ?_); first|refine zA ?_|refine zB ?_|refine zC ?_|refine zD ?_|refine zE ?_|((refine idGdD ?_); first|refine zF ?_|refine zG ?_|refine zH (fun hg=>?_) fun hg=>?_|refine zI ?_|refine zJ ?_|refine zK (fun hg=>?_) fun hg=>?_)|((refine idGdN ?_); first|refine zL ?_|refine zM ?_|refine zN (fun hg=>?_) fun hg=>?_|refine zO ?_|refine zP ?_|refine zQ (fun hg=>?_) fun hg=>?_)|refine zR ?_|refine zS ?_|refine zT ?_|refine zU ?_|refine zV ?_|refine zW ?_|refine zX (fun hg=>?_) fun hg=>?_|refine zY ?_|refine zZ ?_|refine yA (fun hg=>?_) fun hg=>?_)|((refine idPick ?_); first|refine yB ?_|refine yC ?_|refine yD ?_|refine yE ?_|refine yF ?_|refine yG ?_|refine yH ?_|refine yI ?_|refine yJ ?_|refine yK ?_)|((refine idCond ?_); first|refine yL ?_|refine yM ?_|refine yN ?_|refine yO ?_|refine yP (fun hg=>?_) fun hg=>?_|refine yQ ?_|refine yR ?_|refine yS (fun hg=>?_) fun hg=>?_|refine yT ?_|refine yU ?_|refine yV (fun hg=>?_) fun hg=>?_|refine yW ?_|refine yX ?_|refine yY (fun hg=>?_) fun hg=>?_))
  | ((with_reducible refine idO ?_); (with_reducible refine oM_gen fun Kv hK=>?_); simp [go_sem, hk.cells]; (try simp (disch := omega) only [wrapI64, wrapU8, wrapU32, wrapU64]); (first|refine hK _ _ ?_|refine And.intro (by omega) (hK _ _ ?_)); clear hK; clear Kv)))
  refine Same_ok hi4 E.at' (fun w10 h10 => ?_)
  rw [decide_eq_true rfl]
  have hk := hk.next h10
  have E := E.next h10
  have X := X.next h10
  have Y := Y.next h10
  repeat (any_goals (first
  | ((with_reducible refine local_spe z0 ad2 3 c2 hk ?_); intro gz W11 hk hb11 hg11)
  | (with_reducible first|refine pureM_in ?_|((refine idGd ?_); first|refine zA ?_|refine zB ?_|refine zC ?_|refine zD ?_|refine zE ?_|((refine idGdD ?_); first|refine zF ?_|refine zG ?_|refine zH (fun hg=>?_) fun hg=>?_|refine zI ?_|refine zJ ?_|refine zK (fun hg=>?_) fun hg=>?_)|((refine idGdN ?_); first|refine zL ?_|refine zM ?_|refine zN (fun hg=>?_) fun hg=>?_|refine zO ?_|refine zP ?_|refine zQ (fun hg=>?_) fun hg=>?_)|refine zR ?_|refine zS ?_|refine zT ?_|refine zU ?_|refine zV ?_|refine zW ?_|refine zX (fun hg=>?_) fun hg=>?_|refine zY ?_|refine zZ ?_|refine yA (fun hg=>?_) fun hg=>?_)|((refine idPick ?_); first|refine yB ?_|refine yC ?_|refine yD ?_|refine yE ?_|refine yF ?_|refine yG ?_|refine yH ?_|refine yI ?_|refine yJ ?_|refine yK ?_)|((refine idCond ?_); first|refine yL ?_|refine yM ?_|refine yN ?_|refine yO ?_|refine yP (fun hg=>?_) fun hg=>?_|refine yQ ?_|refine yR ?_|refine yS (fun hg=>?_) fun hg=>?_|refine yT ?_|refine yU ?_|refine yV (fun hg=>?_) fun hg=>?_|refine yW ?_|refine yX ?_|refine yY (fun hg=>?_) fun hg=>?_))
  | ((with_reducible refine idO ?_); (with_reducible refine oM_gen fun Kv hK=>?_); simp [go_sem, hk.cells]; (try simp (disch := omega) only [wrapI64, wrapU8, wrapU32, wrapU64]); (first|refine hK _ _ ?_|refine And.intro (by omega) (hK _ _ ?_)); clear hK; clear Kv)))
  have E := E.next hb11
  have X := X.next hb11
  have Y := Y.next hb11
  have Z : SpdR W11 z0 (.slice ad2 3 c2) := ⟨i64lit, X.answers⟩
  refine Mark_ok s0 E.setup E.at' (fun w12 h12 => ?_)
  rw [f6]
  have hk := hk.next h12
  have E := E.next h12
  have X := X.next h12
  have Y := Y.next h12
  have Z := Z.next h12
  repeat (any_goals (first
  | (with_reducible first|refine pureM_in ?_|((refine idGd ?_); first|refine zA ?_|refine zB ?_|refine zC ?_|refine zD ?_|refine zE ?_|((refine idGdD ?_); first|refine zF ?_|refine zG ?_|refine zH (fun hg=>?_) fun hg=>?_|refine zI ?_|refine zJ ?_|refine zK (fun hg=>?_) fun hg=>?_)|((refine idGdN ?_); first|refine zL ?_|refine zM ?_|refine zN (fun hg=>?_) fun hg=>?_|refine zO ?_|refine zP ?_|refine zQ (fun hg=>?_) fun hg=>?_)|refine zR ?_|refine zS ?_|refine zT ?_|refine zU ?_|refine zV ?_|refine zW ?_|refine zX (fun hg=>?_) fun hg=>?_|refine zY ?_|refine zZ ?_|refine yA (fun hg=>?_) fun hg=>?_)|((refine idPick ?_); first|refine yB ?_|refine yC ?_|refine yD ?_|refine yE ?_|refine yF ?_|refine yG ?_|refine yH ?_|refine yI ?_|refine yJ ?_|refine yK ?_)|((refine idCond ?_); first|refine yL ?_|refine yM ?_|refine yN ?_|refine yO ?_|refine yP (fun hg=>?_) fun hg=>?_|refine yQ ?_|refine yR ?_|refine yS (fun hg=>?_) fun hg=>?_|refine yT ?_|refine yU ?_|refine yV (fun hg=>?_) fun hg=>?_|refine yW ?_|refine yX ?_|refine yY (fun hg=>?_) fun hg=>?_))
  | ((with_reducible refine idO ?_); (with_reducible refine oM_gen fun Kv hK=>?_); simp [go_sem, hk.cells]; (try simp (disch := omega) only [wrapI64, wrapU8, wrapU32, wrapU64]); (first|refine hK _ _ ?_|refine And.intro (by omega) (hK _ _ ?_)); clear hK; clear Kv)))
  refine Usable_ok s0 E.setup E.at' (fun w13 h13 => ?_)
  rw [f7]
  have hk := hk.next h13
  have E := E.next h13
  have X := X.next h13
  have Y := Y.next h13
  have Z := Z.next h13
  repeat (any_goals (first
  | ((with_reducible refine mk2 5 0 i64lit i64lit ?_); intro v14 w14 h14 hi14)
  | (with_reducible first|refine pureM_in ?_|((refine idGd ?_); first|refine zA ?_|refine zB ?_|refine zC ?_|refine zD ?_|refine zE ?_|((refine idGdD ?_); first|refine zF ?_|refine zG ?_|refine zH (fun hg=>?_) fun hg=>?_|refine zI ?_|refine zJ ?_|refine zK (fun hg=>?_) fun hg=>?_)|((refine idGdN ?_); first|refine zL ?_|refine zM ?_|refine zN (fun hg=>?_) fun hg=>?_|refine zO ?_|refine zP ?_|refine zQ (fun hg=>?_) fun hg=>?_)|refine zR ?_|refine zS ?_|refine zT ?_|refine zU ?_|refine zV ?_|refine zW ?_|refine zX (fun hg=>?_) fun hg=>?_|refine zY ?_|refine zZ ?_|refine yA (fun hg=>?_) fun hg=>?_)|((refine idPick ?_); first|refine yB ?_|refine yC ?_|refine yD ?_|refine yE ?_|refine yF ?_|refine yG ?_|refine yH ?_|refine yI ?_|refine yJ ?_|refine yK ?_)|((refine idCond ?_); first|refine yL ?_|refine yM ?_|refine yN ?_|refine yO ?_|refine yP (fun hg=>?_) fun hg=>?_|refine yQ ?_|refine yR ?_|refine yS (fun hg=>?_) fun hg=>?_|refine yT ?_|refine yU ?_|refine yV (fun hg=>?_) fun hg=>?_|refine yW ?_|refine yX ?_|refine yY (fun hg=>?_) fun hg=>?_))
  | ((with_reducible refine idO ?_); (with_reducible refine oM_gen fun Kv hK=>?_); simp [go_sem, hk.cells]; (try simp (disch := omega) only [wrapI64, wrapU8, wrapU32, wrapU64]); (first|refine hK _ _ ?_|refine And.intro (by omega) (hK _ _ ?_)); clear hK; clear Kv)))
  have hk := hk.next h14
  have E := E.next h14
  have X := X.next h14
  have Y := Y.next h14
  have Z := Z.next h14
  refine Usable_ok s0 E.setup hi14 (fun w15 h15 => ?_)
  rw [f8]
  have hk := hk.next h15
  have E := E.next h15
  have X := X.next h15
  have Y := Y.next h15
  have Z := Z.next h15
  repeat (any_goals (first
  | (with_reducible first|refine pureM_in ?_|((refine idGd ?_); first|refine zA ?_|refine zB ?_|refine zC ?_|refine zD ?_|refine zE ?_|((refine idGdD ?_); first|refine zF ?_|refine zG ?_|refine zH (fun hg=>?_) fun hg=>?_|refine zI ?_|refine zJ ?_|refine zK (fun hg=>?_) fun hg=>?_)|((refine idGdN ?_); first|refine zL ?_|refine zM ?_|refine zN (fun hg=>?_) fun hg=>?_|refine zO ?_|refine zP ?_|refine zQ (fun hg=>?_) fun hg=>?_)|refine zR ?_|refine zS ?_|refine zT ?_|refine zU ?_|refine zV ?_|refine zW ?_|refine zX (fun hg=>?_) fun hg=>?_|refine zY ?_|refine zZ ?_|refine yA (fun hg=>?_) fun hg=>?_)|((refine idPick ?_); first|refine yB ?_|refine yC ?_|refine yD ?_|refine yE ?_|refine yF ?_|refine yG ?_|refine yH ?_|refine yI ?_|refine yJ ?_|refine yK ?_)|((refine idCond ?_); first|refine yL ?_|refine yM ?_|refine yN ?_|refine yO ?_|refine yP (fun hg=>?_) fun hg=>?_|refine yQ ?_|refine yR ?_|refine yS (fun hg=>?_) fun hg=>?_|refine yT ?_|refine yU ?_|refine yV (fun hg=>?_) fun hg=>?_|refine yW ?_|refine yX ?_|refine yY (fun hg=>?_) fun hg=>?_))
  | ((with_reducible refine idO ?_); (with_reducible refine oM_gen fun Kv hK=>?_); simp [go_sem, hk.cells]; (try simp (disch := omega) only [wrapI64, wrapU8, wrapU32, wrapU64]); (first|refine hK _ _ ?_|refine And.intro (by omega) (hK _ _ ?_)); clear hK; clear Kv)))
  refine Public_ok s0 3 i64lit E.setup (fun w16 h16 => ?_)
  rw [f9]
  have hk := hk.next h16
  have E := E.next h16
  have X := X.next h16
  have Y := Y.next h16
  have Z := Z.next h16
  repeat (any_goals (first
  | (with_reducible first|refine pureM_in ?_|((refine idGd ?_); first|refine zA ?_|refine zB ?_|refine zC ?_|refine zD ?_|refine zE ?_|((refine idGdD ?_); first|refine zF ?_|refine zG ?_|refine zH (fun hg=>?_) fun hg=>?_|refine zI ?_|refine zJ ?_|refine zK (fun hg=>?_) fun hg=>?_)|((refine idGdN ?_); first|refine zL ?_|refine zM ?_|refine zN (fun hg=>?_) fun hg=>?_|refine zO ?_|refine zP ?_|refine zQ (fun hg=>?_) fun hg=>?_)|refine zR ?_|refine zS ?_|refine zT ?_|refine zU ?_|refine zV ?_|refine zW ?_|refine zX (fun hg=>?_) fun hg=>?_|refine zY ?_|refine zZ ?_|refine yA (fun hg=>?_) fun hg=>?_)|((refine idPick ?_); first|refine yB ?_|refine yC ?_|refine yD ?_|refine yE ?_|refine yF ?_|refine yG ?_|refine yH ?_|refine yI ?_|refine yJ ?_|refine yK ?_)|((refine idCond ?_); first|refine yL ?_|refine yM ?_|refine yN ?_|refine yO ?_|refine yP (fun hg=>?_) fun hg=>?_|refine yQ ?_|refine yR ?_|refine yS (fun hg=>?_) fun hg=>?_|refine yT ?_|refine yU ?_|refine yV (fun hg=>?_) fun hg=>?_|refine yW ?_|refine yX ?_|refine yY (fun hg=>?_) fun hg=>?_))
  | ((with_reducible refine idO ?_); (with_reducible refine oM_gen fun Kv hK=>?_); simp [go_sem, hk.cells]; (try simp (disch := omega) only [wrapI64, wrapU8, wrapU32, wrapU64]); (first|refine hK _ _ ?_|refine And.intro (by omega) (hK _ _ ?_)); clear hK; clear Kv)))
  refine Public_ok s0 0 i64lit E.setup (fun w17 h17 => ?_)
  rw [f10]
  have hk := hk.next h17
  have E := E.next h17
  have X := X.next h17
  have Y := Y.next h17
  have Z := Z.next h17
  repeat (any_goals (first
  | (with_reducible first|refine pureM_in ?_|((refine idGd ?_); first|refine zA ?_|refine zB ?_|refine zC ?_|refine zD ?_|refine zE ?_|((refine idGdD ?_); first|refine zF ?_|refine zG ?_|refine zH (fun hg=>?_) fun hg=>?_|refine zI ?_|refine zJ ?_|refine zK (fun hg=>?_) fun hg=>?_)|((refine idGdN ?_); first|refine zL ?_|refine zM ?_|refine zN (fun hg=>?_) fun hg=>?_|refine zO ?_|refine zP ?_|refine zQ (fun hg=>?_) fun hg=>?_)|refine zR ?_|refine zS ?_|refine zT ?_|refine zU ?_|refine zV ?_|refine zW ?_|refine zX (fun hg=>?_) fun hg=>?_|refine zY ?_|refine zZ ?_|refine yA (fun hg=>?_) fun hg=>?_)|((refine idPick ?_); first|refine yB ?_|refine yC ?_|refine yD ?_|refine yE ?_|refine yF ?_|refine yG ?_|refine yH ?_|refine yI ?_|refine yJ ?_|refine yK ?_)|((refine idCond ?_); first|refine yL ?_|refine yM ?_|refine yN ?_|refine yO ?_|refine yP (fun hg=>?_) fun hg=>?_|refine yQ ?_|refine yR ?_|refine yS (fun hg=>?_) fun hg=>?_|refine yT ?_|refine yU ?_|refine yV (fun hg=>?_) fun hg=>?_|refine yW ?_|refine yX ?_|refine yY (fun hg=>?_) fun hg=>?_))
  | ((with_reducible refine idO ?_); (with_reducible refine oM_gen fun Kv hK=>?_); simp [go_sem, hk.cells]; (try simp (disch := omega) only [wrapI64, wrapU8, wrapU32, wrapU64]); (first|refine hK _ _ ?_|refine And.intro (by omega) (hK _ _ ?_)); clear hK; clear Kv)))
  rw [eql_off _ ⟨9, 16, 13⟩ ⟨9, 16, 13⟩, decide_eq_true rfl]
  repeat (any_goals (first
  | (with_reducible first|refine pureM_in ?_|((refine idGd ?_); first|refine zA ?_|refine zB ?_|refine zC ?_|refine zD ?_|refine zE ?_|((refine idGdD ?_); first|refine zF ?_|refine zG ?_|refine zH (fun hg=>?_) fun hg=>?_|refine zI ?_|refine zJ ?_|refine zK (fun hg=>?_) fun hg=>?_)|((refine idGdN ?_); first|refine zL ?_|refine zM ?_|refine zN (fun hg=>?_) fun hg=>?_|refine zO ?_|refine zP ?_|refine zQ (fun hg=>?_) fun hg=>?_)|refine zR ?_|refine zS ?_|refine zT ?_|refine zU ?_|refine zV ?_|refine zW ?_|refine zX (fun hg=>?_) fun hg=>?_|refine zY ?_|refine zZ ?_|refine yA (fun hg=>?_) fun hg=>?_)|((refine idPick ?_); first|refine yB ?_|refine yC ?_|refine yD ?_|refine yE ?_|refine yF ?_|refine yG ?_|refine yH ?_|refine yI ?_|refine yJ ?_|refine yK ?_)|((refine idCond ?_); first|refine yL ?_|refine yM ?_|refine yN ?_|refine yO ?_|refine yP (fun hg=>?_) fun hg=>?_|refine yQ ?_|refine yR ?_|refine yS (fun hg=>?_) fun hg=>?_|refine yT ?_|refine yU ?_|refine yV (fun hg=>?_) fun hg=>?_|refine yW ?_|refine yX ?_|refine yY (fun hg=>?_) fun hg=>?_))
  | ((with_reducible refine idO ?_); (with_reducible refine oM_gen fun Kv hK=>?_); simp [go_sem, hk.cells]; (try simp (disch := omega) only [wrapI64, wrapU8, wrapU32, wrapU64]); (first|refine hK _ _ ?_|refine And.intro (by omega) (hK _ _ ?_)); clear hK; clear Kv)))
  refine Grant_ok s0 3 2 6 i64lit i64lit i64lit E.setup (fun w18 h18 => ?_)
  rw [f11]
  have hk := hk.next h18
  have E := E.next h18
  have X := X.next h18
  have Y := Y.next h18
  have Z := Z.next h18
  repeat (any_goals (first
  | (with_reducible first|refine pureM_in ?_|((refine idGd ?_); first|refine zA ?_|refine zB ?_|refine zC ?_|refine zD ?_|refine zE ?_|((refine idGdD ?_); first|refine zF ?_|refine zG ?_|refine zH (fun hg=>?_) fun hg=>?_|refine zI ?_|refine zJ ?_|refine zK (fun hg=>?_) fun hg=>?_)|((refine idGdN ?_); first|refine zL ?_|refine zM ?_|refine zN (fun hg=>?_) fun hg=>?_|refine zO ?_|refine zP ?_|refine zQ (fun hg=>?_) fun hg=>?_)|refine zR ?_|refine zS ?_|refine zT ?_|refine zU ?_|refine zV ?_|refine zW ?_|refine zX (fun hg=>?_) fun hg=>?_|refine zY ?_|refine zZ ?_|refine yA (fun hg=>?_) fun hg=>?_)|((refine idPick ?_); first|refine yB ?_|refine yC ?_|refine yD ?_|refine yE ?_|refine yF ?_|refine yG ?_|refine yH ?_|refine yI ?_|refine yJ ?_|refine yK ?_)|((refine idCond ?_); first|refine yL ?_|refine yM ?_|refine yN ?_|refine yO ?_|refine yP (fun hg=>?_) fun hg=>?_|refine yQ ?_|refine yR ?_|refine yS (fun hg=>?_) fun hg=>?_|refine yT ?_|refine yU ?_|refine yV (fun hg=>?_) fun hg=>?_|refine yW ?_|refine yX ?_|refine yY (fun hg=>?_) fun hg=>?_))
  | ((with_reducible refine idO ?_); (with_reducible refine oM_gen fun Kv hK=>?_); simp [go_sem, hk.cells]; (try simp (disch := omega) only [wrapI64, wrapU8, wrapU32, wrapU64]); (first|refine hK _ _ ?_|refine And.intro (by omega) (hK _ _ ?_)); clear hK; clear Kv)))
  refine Accepts_ok s0 t0 x0 t0_R E.setup X (fun w19 h19 => ?_)
  rw [f12]
  have hk := hk.next h19
  have E := E.next h19
  have X := X.next h19
  have Y := Y.next h19
  have Z := Z.next h19
  repeat (any_goals (first
  | (with_reducible first|refine pureM_in ?_|((refine idGd ?_); first|refine zA ?_|refine zB ?_|refine zC ?_|refine zD ?_|refine zE ?_|((refine idGdD ?_); first|refine zF ?_|refine zG ?_|refine zH (fun hg=>?_) fun hg=>?_|refine zI ?_|refine zJ ?_|refine zK (fun hg=>?_) fun hg=>?_)|((refine idGdN ?_); first|refine zL ?_|refine zM ?_|refine zN (fun hg=>?_) fun hg=>?_|refine zO ?_|refine zP ?_|refine zQ (fun hg=>?_) fun hg=>?_)|refine zR ?_|refine zS ?_|refine zT ?_|refine zU ?_|refine zV ?_|refine zW ?_|refine zX (fun hg=>?_) fun hg=>?_|refine zY ?_|refine zZ ?_|refine yA (fun hg=>?_) fun hg=>?_)|((refine idPick ?_); first|refine yB ?_|refine yC ?_|refine yD ?_|refine yE ?_|refine yF ?_|refine yG ?_|refine yH ?_|refine yI ?_|refine yJ ?_|refine yK ?_)|((refine idCond ?_); first|refine yL ?_|refine yM ?_|refine yN ?_|refine yO ?_|refine yP (fun hg=>?_) fun hg=>?_|refine yQ ?_|refine yR ?_|refine yS (fun hg=>?_) fun hg=>?_|refine yT ?_|refine yU ?_|refine yV (fun hg=>?_) fun hg=>?_|refine yW ?_|refine yX ?_|refine yY (fun hg=>?_) fun hg=>?_))
  | ((with_reducible refine idO ?_); (with_reducible refine oM_gen fun Kv hK=>?_); simp [go_sem, hk.cells]; (try simp (disch := omega) only [wrapI64, wrapU8, wrapU32, wrapU64]); (first|refine hK _ _ ?_|refine And.intro (by omega) (hK _ _ ?_)); clear hK; clear Kv)))
  refine Accepts_ok s0 t0 y0 t0_R E.setup Y (fun w20 h20 => ?_)
  rw [f13]
  have hk := hk.next h20
  have E := E.next h20
  have X := X.next h20
  have Y := Y.next h20
  have Z := Z.next h20
  repeat (any_goals (first
  | (with_reducible first|refine pureM_in ?_|((refine idGd ?_); first|refine zA ?_|refine zB ?_|refine zC ?_|refine zD ?_|refine zE ?_|((refine idGdD ?_); first|refine zF ?_|refine zG ?_|refine zH (fun hg=>?_) fun hg=>?_|refine zI ?_|refine zJ ?_|refine zK (fun hg=>?_) fun hg=>?_)|((refine idGdN ?_); first|refine zL ?_|refine zM ?_|refine zN (fun hg=>?_) fun hg=>?_|refine zO ?_|refine zP ?_|refine zQ (fun hg=>?_) fun hg=>?_)|refine zR ?_|refine zS ?_|refine zT ?_|refine zU ?_|refine zV ?_|refine zW ?_|refine zX (fun hg=>?_) fun hg=>?_|refine zY ?_|refine zZ ?_|refine yA (fun hg=>?_) fun hg=>?_)|((refine idPick ?_); first|refine yB ?_|refine yC ?_|refine yD ?_|refine yE ?_|refine yF ?_|refine yG ?_|refine yH ?_|refine yI ?_|refine yJ ?_|refine yK ?_)|((refine idCond ?_); first|refine yL ?_|refine yM ?_|refine yN ?_|refine yO ?_|refine yP (fun hg=>?_) fun hg=>?_|refine yQ ?_|refine yR ?_|refine yS (fun hg=>?_) fun hg=>?_|refine yT ?_|refine yU ?_|refine yV (fun hg=>?_) fun hg=>?_|refine yW ?_|refine yX ?_|refine yY (fun hg=>?_) fun hg=>?_))
  | ((with_reducible refine idO ?_); (with_reducible refine oM_gen fun Kv hK=>?_); simp [go_sem, hk.cells]; (try simp (disch := omega) only [wrapI64, wrapU8, wrapU32, wrapU64]); (first|refine hK _ _ ?_|refine And.intro (by omega) (hK _ _ ?_)); clear hK; clear Kv)))
  refine Accepts_ok s0 t0 z0 t0_R E.setup Z (fun w21 h21 => ?_)
  rw [f14]
  have hk := hk.next h21
  have E := E.next h21
  have X := X.next h21
  have Y := Y.next h21
  have Z := Z.next h21
  repeat (any_goals (first
  | (with_reducible first|refine pureM_in ?_|((refine idGd ?_); first|refine zA ?_|refine zB ?_|refine zC ?_|refine zD ?_|refine zE ?_|((refine idGdD ?_); first|refine zF ?_|refine zG ?_|refine zH (fun hg=>?_) fun hg=>?_|refine zI ?_|refine zJ ?_|refine zK (fun hg=>?_) fun hg=>?_)|((refine idGdN ?_); first|refine zL ?_|refine zM ?_|refine zN (fun hg=>?_) fun hg=>?_|refine zO ?_|refine zP ?_|refine zQ (fun hg=>?_) fun hg=>?_)|refine zR ?_|refine zS ?_|refine zT ?_|refine zU ?_|refine zV ?_|refine zW ?_|refine zX (fun hg=>?_) fun hg=>?_|refine zY ?_|refine zZ ?_|refine yA (fun hg=>?_) fun hg=>?_)|((refine idPick ?_); first|refine yB ?_|refine yC ?_|refine yD ?_|refine yE ?_|refine yF ?_|refine yG ?_|refine yH ?_|refine yI ?_|refine yJ ?_|refine yK ?_)|((refine idCond ?_); first|refine yL ?_|refine yM ?_|refine yN ?_|refine yO ?_|refine yP (fun hg=>?_) fun hg=>?_|refine yQ ?_|refine yR ?_|refine yS (fun hg=>?_) fun hg=>?_|refine yT ?_|refine yU ?_|refine yV (fun hg=>?_) fun hg=>?_|refine yW ?_|refine yX ?_|refine yY (fun hg=>?_) fun hg=>?_))
  | ((with_reducible refine idO ?_); (with_reducible refine oM_gen fun Kv hK=>?_); simp [go_sem, hk.cells]; (try simp (disch := omega) only [wrapI64, wrapU8, wrapU32, wrapU64]); (first|refine hK _ _ ?_|refine And.intro (by omega) (hK _ _ ?_)); clear hK; clear Kv)))
  refine Guilty_ok s0 t0 x0 y0 t0_R E.setup X Y E.at' (fun w22 h22 => ?_)
  rw [f15]
  have hk := hk.next h22
  have E := E.next h22
  have X := X.next h22
  have Y := Y.next h22
  have Z := Z.next h22
  repeat (any_goals (first
  | (with_reducible first|refine pureM_in ?_|((refine idGd ?_); first|refine zA ?_|refine zB ?_|refine zC ?_|refine zD ?_|refine zE ?_|((refine idGdD ?_); first|refine zF ?_|refine zG ?_|refine zH (fun hg=>?_) fun hg=>?_|refine zI ?_|refine zJ ?_|refine zK (fun hg=>?_) fun hg=>?_)|((refine idGdN ?_); first|refine zL ?_|refine zM ?_|refine zN (fun hg=>?_) fun hg=>?_|refine zO ?_|refine zP ?_|refine zQ (fun hg=>?_) fun hg=>?_)|refine zR ?_|refine zS ?_|refine zT ?_|refine zU ?_|refine zV ?_|refine zW ?_|refine zX (fun hg=>?_) fun hg=>?_|refine zY ?_|refine zZ ?_|refine yA (fun hg=>?_) fun hg=>?_)|((refine idPick ?_); first|refine yB ?_|refine yC ?_|refine yD ?_|refine yE ?_|refine yF ?_|refine yG ?_|refine yH ?_|refine yI ?_|refine yJ ?_|refine yK ?_)|((refine idCond ?_); first|refine yL ?_|refine yM ?_|refine yN ?_|refine yO ?_|refine yP (fun hg=>?_) fun hg=>?_|refine yQ ?_|refine yR ?_|refine yS (fun hg=>?_) fun hg=>?_|refine yT ?_|refine yU ?_|refine yV (fun hg=>?_) fun hg=>?_|refine yW ?_|refine yX ?_|refine yY (fun hg=>?_) fun hg=>?_))
  | ((with_reducible refine idO ?_); (with_reducible refine oM_gen fun Kv hK=>?_); simp [go_sem, hk.cells]; (try simp (disch := omega) only [wrapI64, wrapU8, wrapU32, wrapU64]); (first|refine hK _ _ ?_|refine And.intro (by omega) (hK _ _ ?_)); clear hK; clear Kv)))
  refine Encode_ok t0 t0_R E.ld (fun w23 h23 => ?_)
  rw [enc_t0]
  have hk := hk.next h23
  repeat (any_goals (first
  | (with_reducible first|refine pureM_in ?_|((refine idGd ?_); first|refine zA ?_|refine zB ?_|refine zC ?_|refine zD ?_|refine zE ?_|((refine idGdD ?_); first|refine zF ?_|refine zG ?_|refine zH (fun hg=>?_) fun hg=>?_|refine zI ?_|refine zJ ?_|refine zK (fun hg=>?_) fun hg=>?_)|((refine idGdN ?_); first|refine zL ?_|refine zM ?_|refine zN (fun hg=>?_) fun hg=>?_|refine zO ?_|refine zP ?_|refine zQ (fun hg=>?_) fun hg=>?_)|refine zR ?_|refine zS ?_|refine zT ?_|refine zU ?_|refine zV ?_|refine zW ?_|refine zX (fun hg=>?_) fun hg=>?_|refine zY ?_|refine zZ ?_|refine yA (fun hg=>?_) fun hg=>?_)|((refine idPick ?_); first|refine yB ?_|refine yC ?_|refine yD ?_|refine yE ?_|refine yF ?_|refine yG ?_|refine yH ?_|refine yI ?_|refine yJ ?_|refine yK ?_)|((refine idCond ?_); first|refine yL ?_|refine yM ?_|refine yN ?_|refine yO ?_|refine yP (fun hg=>?_) fun hg=>?_|refine yQ ?_|refine yR ?_|refine yS (fun hg=>?_) fun hg=>?_|refine yT ?_|refine yU ?_|refine yV (fun hg=>?_) fun hg=>?_|refine yW ?_|refine yX ?_|refine yY (fun hg=>?_) fun hg=>?_))
  | ((with_reducible refine idO ?_); (with_reducible refine oM_gen fun Kv hK=>?_); simp [go_sem]; (try simp (disch := omega) only [wrapI64, wrapU8, wrapU32, wrapU64]); (first|refine hK _ _ ?_|refine And.intro (by omega) (hK _ _ ?_)); clear hK; clear Kv)))
  exact k _ hk.below
end
end Go.Proofs
--G
namespace Go.Proofs
open Go Go.Sh Go.RowKit FdSpec TkSpec CodeSpec
set_option linter.unusedSimpArgs false
set_option linter.unusedVariables false
set_option maxRecDepth 10000
section
variable {K : Value → World → Prop} {w w0 w1 : World} {L : List (Addr × Value)}
theorem law_codes_ok (t : Tkt) (ht : TktR t) (s : Bytes) (hs : s.length ≤ 9223372036854775807) (hT : DbT w) (hL : Cd.Laid w) (k : ∀ w', Below w.heap.size w w' → K (.bool true) w') : callM Tryz.prog 8 #[tktV t, .string ⟨s.toArray⟩] K w := by
  apply sh_8_ok
  unfold sh_8
  refine box_kn (cs := tktC t) rfl (.start w) fun b W hk hb1 hb => ?_
  refine sane_ok (hT.next hk.below) (hL.below hk.below hL.size) (fun w1 h1 => ?_)
  have hk := hk.next h1
  by_cases hlen : 300 < s.length
  · repeat (any_goals (first
    | (with_reducible first|refine pureM_in ?_|((refine idGd ?_); first|refine zA ?_|refine zB ?_|refine zC ?_|refine zD ?_|refine zE ?_|((refine idGdD ?_); first|refine zF ?_|refine zG ?_|refine zH (fun hg=>?_) fun hg=>?_|refine zI ?_|refine zJ ?_|refine zK (fun hg=>?_) fun hg=>?_)|((refine idGdN ?_); first|refine zL ?_|refine zM ?_|refine zN (fun hg=>?_) fun hg=>?_|refine zO ?_|refine zP ?_|refine zQ (fun hg=>?_) fun hg=>?_)|refine zR ?_|refine zS ?_|refine zT ?_|refine zU ?_|refine zV ?_|refine zW ?_|refine zX (fun hg=>?_) fun hg=>?_|refine zY ?_|refine zZ ?_|refine yA (fun hg=>?_) fun hg=>?_)|((refine idPick ?_); first|refine yB ?_|refine yC ?_|refine yD ?_|refine yE ?_|refine yF ?_|refine yG ?_|refine yH ?_|refine yI ?_|refine yJ ?_|refine yK ?_)|((refine idCond ?_); first|refine yL ?_|refine yM ?_|refine yN ?_|refine yO ?_|refine yP (fun hg=>?_) fun hg=>?_|refine yQ ?_|refine yR ?_|refine yS (fun hg=>?_) fun hg=>?_|refine yT ?_|refine yU ?_|refine yV (fun hg=>?_) fun hg=>?_|refine yW ?_|refine yX ?_|refine yY (fun hg=>?_) fun hg=>?_))
    | ((with_reducible refine idO ?_); (with_reducible refine oM_gen fun Kv hK=>?_); simp [go_sem]; (try simp (disch := omega) only [wrapI64, wrapU8, wrapU32, wrapU64]); (first|refine hK _ _ ?_|refine And.intro (by omega) (hK _ _ ?_)); clear hK; clear Kv)))
    exact k _ hk.below
  repeat (any_goals (first
  | (with_reducible first|refine pureM_in ?_|((refine idGd ?_); first|refine zA ?_|refine zB ?_|refine zC ?_|refine zD ?_|refine zE ?_|((refine idGdD ?_); first|refine zF ?_|refine zG ?_|refine zH (fun hg=>?_) fun hg=>?_|refine zI ?_|refine zJ ?_|refine zK (fun hg=>?_) fun hg=>?_)|((refine idGdN ?_); first|refine zL ?_|refine zM ?_|refine zN (fun hg=>?_) fun hg=>?_|refine zO ?_|refine zP ?_|refine zQ (fun hg=>?_) fun hg=>?_)|refine zR ?_|refine zS ?_|refine zT ?_|refine zU ?_|refine zV ?_|refine zW ?_|refine zX (fun hg=>?_) fun hg=>?_|refine zY ?_|refine zZ ?_|refine yA (fun hg=>?_) fun hg=>?_)|((refine idPick ?_); first|refine yB ?_|refine yC ?_|refine yD ?_|refine yE ?_|refine yF ?_|refine yG ?_|refine yH ?_|refine yI ?_|refine yJ ?_|refine yK ?_)|((refine idCond ?_); first|refine yL ?_|refine yM ?_|refine yN ?_|refine yO ?_|refine yP (fun hg=>?_) fun hg=>?_|refine yQ ?_|refine yR ?_|refine yS (fun hg=>?_) fun hg=>?_|refine yT ?_|refine yU ?_|refine yV (fun hg=>?_) fun hg=>?_|refine yW ?_|refine yX ?_|refine yY (fun hg=>?_) fun hg=>?_))
  | ((with_reducible refine idO ?_); (with_reducible refine oM_gen fun Kv hK=>?_); simp [go_sem, hk.cells]; (try simp (disch := omega) only [wrapI64, wrapU8, wrapU32, wrapU64]); (first|refine hK _ _ ?_|refine And.intro (by omega) (hK _ _ ?_)); clear hK; clear Kv)))
  refine Encode_ok t ht (hL.below hk.below hL.size) (fun w2 h2 => ?_)
  have hk := hk.next h2
  refine Decode_ok (encM t) (by have := encM_len ht; omega) (hL.below hk.below hL.size) (fun w3 h3 => ?_)
  rw [dec_enc ht]
  have hk := hk.next h3
  iterate 2 (any_goals (first
  | (with_reducible first|refine pureM_in ?_|refine pureQ_in ?_|refine pureH_in ?_|((refine idGdQ ?_); refine gdQ_conv fun _=>?_)|((refine idGdH ?_); refine gdH_conv fun _=>?_)|refine And.intro (Eq.refl (α := World) _) ?_|refine forall_one ?_|((refine idGd ?_); first|refine zA ?_|refine zB ?_|refine zC ?_|refine zD ?_|refine zE ?_|((refine idGdD ?_); first|refine zF ?_|refine zG ?_|refine zH (fun hg=>?_) fun hg=>?_|refine zI ?_|refine zJ ?_|refine zK (fun hg=>?_) fun hg=>?_)|((refine idGdN ?_); first|refine zL ?_|refine zM ?_|refine zN (fun hg=>?_) fun hg=>?_|refine zO ?_|refine zP ?_|refine zQ (fun hg=>?_) fun hg=>?_)|refine zR ?_|refine zS ?_|refine zT ?_|refine zU ?_|refine zV ?_|refine zW ?_|refine zX (fun hg=>?_) fun hg=>?_|refine zY ?_|refine zZ ?_|refine yA (fun hg=>?_) fun hg=>?_)|((refine idPick ?_); first|refine yB ?_|refine yC ?_|refine yD ?_|refine yE ?_|refine yF ?_|refine yG ?_|refine yH ?_|refine yI ?_|refine yJ ?_|refine yK ?_)|((refine idCond ?_); first|refine yL ?_|refine yM ?_|refine yN ?_|refine yO ?_|refine yP (fun hg=>?_) fun hg=>?_|refine yQ ?_|refine yR ?_|refine yS (fun hg=>?_) fun hg=>?_|refine yT ?_|refine yU ?_|refine yV (fun hg=>?_) fun hg=>?_|refine yW ?_|refine yX ?_|refine yY (fun hg=>?_) fun hg=>?_))
  | ((with_reducible refine idOQ ?_); first|(with_reducible first|refine wA ?_|refine wB ?_|refine wC ?_|refine wD ?_|refine wE ?_|refine wF ?_|refine oQ_nil ?_)|((with_reducible refine oQ_one ?_ ?_); exact ⟨_, rfl⟩)|(with_reducible refine oQ_of ⟨_, rfl⟩ (fun W0 hW0 => by (refine oM_gen (fun Kv hK => ?_)); simp [go_sem]; (first | exact hK _ _ ⟨rfl, rfl⟩ | exact ⟨by omega, hK _ _ ⟨rfl, rfl⟩⟩)) ?_))
  | ((with_reducible refine idOH ?_); first|(with_reducible first|refine vA ?_|refine vB ?_|refine vC ?_|refine vD ?_|refine vE ?_|refine vF ?_|refine oH_nil ?_)|(with_reducible refine oH_of ⟨_, rfl⟩ (fun W0 hW0 => by (refine oM_gen (fun Kv hK => ?_)); simp [go_sem]; (first | exact hK _ _ ⟨rfl, rfl⟩ | exact ⟨by omega, hK _ _ ⟨rfl, rfl⟩⟩)) ?_))
  | ((with_reducible refine idO ?_); (with_reducible refine oM_gen fun Kv hK=>?_); simp [go_sem]; (try simp (disch := omega) only [wrapI64, wrapU8, wrapU32, wrapU64]); (first|refine hK _ _ ?_|refine And.intro (by omega) (hK _ _ ?_)); clear hK; clear Kv)))
  refine local_tkt t hk (fun g1 W4 hk hb4 hg4 => ?_)
  refine Decode_ok s (by omega) (hL.below hk.below hL.size) (fun w5 h5 => ?_)
  have hk := hk.next h5
  have hed := enc_dec (s := s)
  have hno := dec_no (s := s)
  obtain ⟨⟨v, is⟩, hv⟩ : ∃ p, decM s = p := ⟨_, rfl⟩
  rw [hv] at hed hno ⊢
  simp only at hed hno ⊢
  iterate 2 (any_goals (first
  | (with_reducible first|refine pureM_in ?_|refine pureQ_in ?_|refine pureH_in ?_|((refine idGdQ ?_); refine gdQ_conv fun _=>?_)|((refine idGdH ?_); refine gdH_conv fun _=>?_)|refine And.intro (Eq.refl (α := World) _) ?_|refine forall_one ?_|((refine idGd ?_); first|refine zA ?_|refine zB ?_|refine zC ?_|refine zD ?_|refine zE ?_|((refine idGdD ?_); first|refine zF ?_|refine zG ?_|refine zH (fun hg=>?_) fun hg=>?_|refine zI ?_|refine zJ ?_|refine zK (fun hg=>?_) fun hg=>?_)|((refine idGdN ?_); first|refine zL ?_|refine zM ?_|refine zN (fun hg=>?_) fun hg=>?_|refine zO ?_|refine zP ?_|refine zQ (fun hg=>?_) fun hg=>?_)|refine zR ?_|refine zS ?_|refine zT ?_|refine zU ?_|refine zV ?_|refine zW ?_|refine zX (fun hg=>?_) fun hg=>?_|refine zY ?_|refine zZ ?_|refine yA (fun hg=>?_) fun hg=>?_)|((refine idPick ?_); first|refine yB ?_|refine yC ?_|refine yD ?_|refine yE ?_|refine yF ?_|refine yG ?_|refine yH ?_|refine yI ?_|refine yJ ?_|refine yK ?_)|((refine idCond ?_); first|refine yL ?_|refine yM ?_|refine yN ?_|refine yO ?_|refine yP (fun hg=>?_) fun hg=>?_|refine yQ ?_|refine yR ?_|refine yS (fun hg=>?_) fun hg=>?_|refine yT ?_|refine yU ?_|refine yV (fun hg=>?_) fun hg=>?_|refine yW ?_|refine yX ?_|refine yY (fun hg=>?_) fun hg=>?_))
  | ((with_reducible refine idOQ ?_); first|(with_reducible first|refine wA ?_|refine wB ?_|refine wC ?_|refine wD ?_|refine wE ?_|refine wF ?_|refine oQ_nil ?_)|((with_reducible refine oQ_one ?_ ?_); exact ⟨_, rfl⟩)|(with_reducible refine oQ_of ⟨_, rfl⟩ (fun W0 hW0 => by (refine oM_gen (fun Kv hK => ?_)); simp [go_sem]; (first | exact hK _ _ ⟨rfl, rfl⟩ | exact ⟨by omega, hK _ _ ⟨rfl, rfl⟩⟩)) ?_))
  | ((with_reducible refine idOH ?_); first|(with_reducible first|refine vA ?_|refine vB ?_|refine vC ?_|refine vD ?_|refine vE ?_|refine vF ?_|refine oH_nil ?_)|(with_reducible refine oH_of ⟨_, rfl⟩ (fun W0 hW0 => by (refine oM_gen (fun Kv hK => ?_)); simp [go_sem]; (first | exact hK _ _ ⟨rfl, rfl⟩ | exact ⟨by omega, hK _ _ ⟨rfl, rfl⟩⟩)) ?_))
  | ((with_reducible refine idO ?_); (with_reducible refine oM_gen fun Kv hK=>?_); simp [go_sem]; (try simp (disch := omega) only [wrapI64, wrapU8, wrapU32, wrapU64]); (first|refine hK _ _ ?_|refine And.intro (by omega) (hK _ _ ?_)); clear hK; clear Kv)))
  refine local_tkt v hk (fun g2 W6 hk hb6 hg6 => ?_)
  have e1 := fun T => eql_tkt T t t
  simp only [decide_true] at e1
  cases is with
  | false =>
    have hz := hno rfl
    simp only [Prod.mk.injEq, and_true] at hz
    subst hz
    have e2 := fun T => eql_tkt T zTkt zTkt
    simp only [decide_true, zTkt] at e2
    simp only [zTkt] at hk
    repeat (any_goals (first
    | (with_reducible first|refine pureM_in ?_|((refine idGd ?_); first|refine zA ?_|refine zB ?_|refine zC ?_|refine zD ?_|refine zE ?_|((refine idGdD ?_); first|refine zF ?_|refine zG ?_|refine zH (fun hg=>?_) fun hg=>?_|refine zI ?_|refine zJ ?_|refine zK (fun hg=>?_) fun hg=>?_)|((refine idGdN ?_); first|refine zL ?_|refine zM ?_|refine zN (fun hg=>?_) fun hg=>?_|refine zO ?_|refine zP ?_|refine zQ (fun hg=>?_) fun hg=>?_)|refine zR ?_|refine zS ?_|refine zT ?_|refine zU ?_|refine zV ?_|refine zW ?_|refine zX (fun hg=>?_) fun hg=>?_|refine zY ?_|refine zZ ?_|refine yA (fun hg=>?_) fun hg=>?_)|((refine idPick ?_); first|refine yB ?_|refine yC ?_|refine yD ?_|refine yE ?_|refine yF ?_|refine yG ?_|refine yH ?_|refine yI ?_|refine yJ ?_|refine yK ?_)|((refine idCond ?_); first|refine yL ?_|refine yM ?_|refine yN ?_|refine yO ?_|refine yP (fun hg=>?_) fun hg=>?_|refine yQ ?_|refine yR ?_|refine yS (fun hg=>?_) fun hg=>?_|refine yT ?_|refine yU ?_|refine yV (fun hg=>?_) fun hg=>?_|refine yW ?_|refine yX ?_|refine yY (fun hg=>?_) fun hg=>?_))
    | ((with_reducible refine idO ?_); (with_reducible refine oM_gen fun Kv hK=>?_); simp [go_sem, hk.cells, e1, e2]; (try simp (disch := omega) only [wrapI64, wrapU8, wrapU32, wrapU64]); (first|refine hK _ _ ?_|refine And.intro (by omega) (hK _ _ ?_)); clear hK; clear Kv)))
    exact k _ hk.below
  | true =>
    obtain ⟨he, hr⟩ := hed rfl
    repeat (any_goals (first
    | (with_reducible first|refine pureM_in ?_|((refine idGd ?_); first|refine zA ?_|refine zB ?_|refine zC ?_|refine zD ?_|refine zE ?_|((refine idGdD ?_); first|refine zF ?_|refine zG ?_|refine zH (fun hg=>?_) fun hg=>?_|refine zI ?_|refine zJ ?_|refine zK (fun hg=>?_) fun hg=>?_)|((refine idGdN ?_); first|refine zL ?_|refine zM ?_|refine zN (fun hg=>?_) fun hg=>?_|refine zO ?_|refine zP ?_|refine zQ (fun hg=>?_) fun hg=>?_)|refine zR ?_|refine zS ?_|refine zT ?_|refine zU ?_|refine zV ?_|refine zW ?_|refine zX (fun hg=>?_) fun hg=>?_|refine zY ?_|refine zZ ?_|refine yA (fun hg=>?_) fun hg=>?_)|((refine idPick ?_); first|refine yB ?_|refine yC ?_|refine yD ?_|refine yE ?_|refine yF ?_|refine yG ?_|refine yH ?_|refine yI ?_|refine yJ ?_|refine yK ?_)|((refine idCond ?_); first|refine yL ?_|refine yM ?_|refine yN ?_|refine yO ?_|refine yP (fun hg=>?_) fun hg=>?_|refine yQ ?_|refine yR ?_|refine yS (fun hg=>?_) fun hg=>?_|refine yT ?_|refine yU ?_|refine yV (fun hg=>?_) fun hg=>?_|refine yW ?_|refine yX ?_|refine yY (fun hg=>?_) fun hg=>?_))
    | ((with_reducible refine idO ?_); (with_reducible refine oM_gen fun Kv hK=>?_); simp [go_sem, hk.cells, e1]; (try simp (disch := omega) only [wrapI64, wrapU8, wrapU32, wrapU64]); (first|refine hK _ _ ?_|refine And.intro (by omega) (hK _ _ ?_)); clear hK; clear Kv)))
    refine Encode_ok v hr (hL.below hk.below hL.size) (fun w7 h7 => ?_)
    rw [he]
    have hk := hk.next h7
    repeat (any_goals (first
    | (with_reducible first|refine pureM_in ?_|((refine idGd ?_); first|refine zA ?_|refine zB ?_|refine zC ?_|refine zD ?_|refine zE ?_|((refine idGdD ?_); first|refine zF ?_|refine zG ?_|refine zH (fun hg=>?_) fun hg=>?_|refine zI ?_|refine zJ ?_|refine zK (fun hg=>?_) fun hg=>?_)|((refine idGdN ?_); first|refine zL ?_|refine zM ?_|refine zN (fun hg=>?_) fun hg=>?_|refine zO ?_|refine zP ?_|refine zQ (fun hg=>?_) fun hg=>?_)|refine zR ?_|refine zS ?_|refine zT ?_|refine zU ?_|refine zV ?_|refine zW ?_|refine zX (fun hg=>?_) fun hg=>?_|refine zY ?_|refine zZ ?_|refine yA (fun hg=>?_) fun hg=>?_)|((refine idPick ?_); first|refine yB ?_|refine yC ?_|refine yD ?_|refine yE ?_|refine yF ?_|refine yG ?_|refine yH ?_|refine yI ?_|refine yJ ?_|refine yK ?_)|((refine idCond ?_); first|refine yL ?_|refine yM ?_|refine yN ?_|refine yO ?_|refine yP (fun hg=>?_) fun hg=>?_|refine yQ ?_|refine yR ?_|refine yS (fun hg=>?_) fun hg=>?_|refine yT ?_|refine yU ?_|refine yV (fun hg=>?_) fun hg=>?_|refine yW ?_|refine yX ?_|refine yY (fun hg=>?_) fun hg=>?_))
    | ((with_reducible refine idO ?_); (with_reducible refine oM_gen fun Kv hK=>?_); simp [go_sem, hk.cells, e1]; (try simp (disch := omega) only [wrapI64, wrapU8, wrapU32, wrapU64]); (first|refine hK _ _ ?_|refine And.intro (by omega) (hK _ _ ?_)); clear hK; clear Kv)))
    exact k _ hk.below
end
end Go.Proofs
