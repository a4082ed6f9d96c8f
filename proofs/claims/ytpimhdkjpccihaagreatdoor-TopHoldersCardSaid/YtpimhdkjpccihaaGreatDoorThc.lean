/- Parts of the proof of the seat's statements (FdL, HTk, ShKn, TkSpec, TkA, TkB, ShKn2, TkC, ShelfI, TkD, TkE, TkF, TkG, TkH, TkI, TkJ, TkK, TkL, TkM, TkN, HTd, ShelfT, CodeSpec, TcB, TcE, TcR, TcR2, TcI, TkO, TkP0, TkP, HTa): lemmas about the given translation and plain laws. No condition of their own. -/
import Derived.Test.YtpimhdkjpccihaaGreatDoorThb
import Derived.Test.YtpimhdkjpccihaaGreatDoorProg
import Derived.Shelf.Spec.SlicesInsertGrow
import Derived.Shelf.Strings.Builder1
import Derived.Shelf.Small.Strs
import Derived.Shelf.Small.Wraps
import Derived.Shelf.Strings.BuilderF
import Derived.Shelf.Strings.BuilderK
import Derived.Shelf.Strconv.Atoi
import Derived.Shelf.Strconv.Itoa0
import Derived.Shelf.Strconv.Itoa1
import Derived.Shelf.LaysM
import Derived.Shelf.Strconv.Itoa2
import Derived.Shelf.Strconv.Itoa3
import Derived.Shelf.Strconv.AtoiErrFast
import Derived.Shelf.Strconv.ParseIntEmpty
import Derived.Shelf.Strconv.AtoiFail
import Derived.Shelf.Strconv.Clone
import Derived.Shelf.Strconv.SyntaxError
import Derived.Shelf.LaysC
import Derived.Shelf.Strconv.ToError
import Derived.Shelf.Strconv.Lower
import Derived.Shelf.Strconv.ParseUint10
import Derived.Shelf.Strconv.ParseUint10Empty
import Derived.Shelf.Strconv.ParseUint10Any
import Derived.Shelf.Strconv.ParseInt10
import Derived.Shelf.Strconv.AtoiLong
import Derived.Shelf.Strconv.AtoiInnerAll
import Derived.Shelf.Strconv.RangeError
import Derived.Shelf.Strconv.ToErrorRange
import Derived.Shelf.Strconv.AtoiAll
import Derived.Shelf.Strings.Search1
import Derived.Shelf.Strings.Prefix
import Derived.Test.YtpimhdkjpccihaaGreatDoorRows
import Derived.Lib.ItoaNum
import Derived.Lib.AtoiAllCases
import Derived.Lib.Builder
import Derived.Lib.AppendStr
import Derived.Lib.AppendIntMem
import Derived.Laws.StructEq
set_option linter.all false
namespace Go.Proofs
open Go Go.Sh Go.RowKit FdSpec
set_option linter.unusedSimpArgs false
set_option linter.unusedVariables false
set_option maxRecDepth 10000
section
variable {K : Value → World → Prop} {w : World}
def PdJ (g : Grp) (R : Int) (ps : List (Int × Int)) (W : World) (l : List Value) (w' : World) : Prop := Below W.heap.size W w' ∧ ∃ (v u : Value) (o : Int) (i : Nat), l = [v, u, .int .i64 o, .int .i64 (i : Int)] ∧ i ≤ ps.length ∧ prodL g o (ps.drop i) = R
def pdMu (n : Nat) (l : List Value) (_ : World) : Nat := match l with | [_, _, _, .int _ i] => n - i.toNat | _ => 0
theorem pdMu_eq (n : Nat) (x y z : Value) (q : IntKind) (i : Int) (w : World) : pdMu n [x, y, z, .int q i] w = n - i.toNat := rfl
theorem zip_drop (a b : List Int) (i : Nat) (h1 : i < a.length) (h2 : i < b.length) : (a.zip b).drop i = (a[i], b[i]) :: (a.zip b).drop (i + 1) := by
  rw [List.drop_eq_getElem_cons (by rw [List.length_zip]; omega), List.getElem_zip]
@[go_sem] theorem oM_index_ints (T : TypeId) (b o n c : Nat) (x : Int) : oM Tryz.prog (.indexAddr 22 (.tmp 0) (.tmp 1)) T [.slice (some ⟨b, o, none⟩) n c, .int .i64 x] = onM (0 ≤ x ∧ x < n) (.pointer (some ⟨b, o + x.toNat, none⟩)) := by
  funext K w
  rw [oM_indexAddr, run_indexAt_slice (h := by kernel_rfl)]
  have hs : (sizeOf (Tryz.prog.elem 22)).run Tryz.prog w = .ok 1 w := by kernel_rfl
  by_cases hi : 0 ≤ x ∧ x < n
  · rw [if_pos hi, hs]
    simp only [Result.andThen, add_none, Nat.mul_one, rM_ok]
    exact propext ⟨fun h => ⟨hi, h⟩, fun h => h.2⟩
  · rw [if_neg hi]
    obtain ⟨e', w', he⟩ := halts Value Tryz.prog .i64 x n .index w
    rw [he]
    exact propext ⟨fun h => h.elim, fun h => hi h.1⟩
theorem Product_ok (g : Grp) {bv ev : Value} {bs es : List Int} (hbs : Ints w bv bs) (hes : Ints w ev es) (k : ∀ w', Below w.heap.size w w' → K (.tuple #[.int .i64 (prodG g bs es).1, .bool (prodG g bs es).2]) w') : callM Tryz.prog 38 #[grpV g, bv, ev] K w := by
  apply sh_38_ok
  unfold sh_38
  refine box_grp g fun b W hW hb c0 c1 c2 => ?_
  have hr := Below.refl W.heap.size W
  have k2 : ∀ w' v, prodG g bs es = v → Below W.heap.size W w' → K (.tuple #[.int .i64 v.1, .bool v.2]) w' := fun w' v e hb => by rw [← e]; exact k w' (hW.on hb)
  clear k
  obtain ⟨bad, bc, rfl⟩ := hbs.isSlice
  obtain ⟨ead, ec, rfl⟩ := hes.isSlice
  have hbs := hbs.next hW
  have hes := hes.next hW
  have l1 := hbs.len
  have l2 := hes.len
  repeat (any_goals ((with_reducible refine idO ?_); (with_reducible refine oM_gen fun Kv hK=>?_); simp [go_sem, c0, c1, c2, hr]; refine hK _ _ ?_; clear hK; clear Kv))
  refine valid_ok g.P ?_
  by_cases hp : okN g.P
  · by_cases hq : okN g.Q
    · repeat (any_goals (first
      | (with_reducible ((refine idGd ?_); ((refine idGdN ?_); refine zO ?_)))
      | ((with_reducible refine idO ?_); (with_reducible refine oM_gen fun Kv hK=>?_); simp [go_sem, c0, c1, c2, hr]; refine hK _ _ ?_; clear hK; clear Kv)))
      refine valid_ok g.Q ?_
      by_cases hl : bs.length = es.length
      · have e1 : (1 : Int).tmod g.P = 1 % g.P := Int.tmod_eq_emod_of_nonneg (by omega)
        have hp0 := hp.1
        have e0 : prodG g bs es = (prodL g (1 % g.P) (bs.zip es), true) := by unfold prodG; rw [if_pos ⟨hp, hq, hl⟩]
        have hzl : (bs.zip es).length = bs.length := by rw [List.length_zip]; omega
        repeat (any_goals (first
        | (with_reducible first|refine pureM_in ?_|((refine idGd ?_); ((refine idGdN ?_); refine zO ?_))|((refine idPick ?_); refine yG ?_)|((refine idCond ?_); refine yM ?_))
        | ((with_reducible refine idO ?_); (with_reducible refine oM_gen fun Kv hK=>?_); simp [go_sem, c0, c1, c2, hr, hl, e1]; (first|refine hK _ _ ?_|refine And.intro (by omega) (hK _ _ ?_)); clear hK; clear Kv)))
        refine ⟨PdJ g (prodL g (1 % g.P) (bs.zip es)) (bs.zip es) W, pdMu es.length, ⟨hr, _, _, _, 0, rfl, by omega, rfl⟩, ?_⟩
        generalize prodL g (1 % g.P) (bs.zip es) = R at *
        rintro _ _ w1 ⟨h1, v, u, o, i, rfl, hi, he⟩
        rw [hzl] at hi
        by_cases hin : i = es.length
        · rw [List.drop_of_length_le (by omega)] at he
          unfold prodL at he
          repeat (any_goals (first
          | (with_reducible ((refine idCond ?_); refine yO ?_))
          | ((with_reducible refine idO ?_); (with_reducible refine oM_gen fun Kv hK=>?_); simp [go_sem]; refine hK _ _ ?_; clear hK; clear Kv)))
          rw [he]
          exact k2 _ _ e0 h1
        · rw [zip_drop bs es i (by omega) (by omega)] at he
          unfold prodL at he
          obtain ⟨b1, o1, rfl, hb1, ca, ra, _⟩ := hbs.at (i := i) (by omega)
          obtain ⟨b2, o2, rfl, hb2, cb, rb, _⟩ := hes.at (i := i) (by omega)
          repeat (any_goals (first
          | (with_reducible ((refine idCond ?_); refine yN ?_))
          | ((with_reducible refine idO ?_); (with_reducible refine oM_gen fun Kv hK=>?_); simp [go_sem, ca _ h1, c0, h1]; (first|refine hK _ _ ?_|refine And.intro (by omega) (hK _ _ ?_)); clear hK; clear Kv)))
          refine ⟨Below W.heap.size W, h1.trans .drawn, ?_⟩
          repeat (any_goals ((with_reducible refine idOQ ?_); (with_reducible refine oQ_of ⟨_, rfl⟩ (fun W0 hW0 => by (refine oM_gen (fun Kv hK => ?_)); simp [go_sem, c0 _ hW0, c1 _ hW0, c2 _ hW0, cb _ hW0]; (first | exact hK _ _ ⟨rfl, rfl⟩ | exact ⟨by omega, hK _ _ ⟨rfl, rfl⟩⟩)) ?_)))
          refine callQ_of (fun W0 hW0 => Power_ok g _ _ (fun w' hw' => ⟨rfl, hW0.on hw'⟩)) ?_
          refine callQ_of (fun W0 hW0 => Mul_ok _ _ _ (fun w' hw' => ⟨rfl, hW0.on hw'⟩)) ?_
          intro w2 h2
          repeat (any_goals ((with_reducible refine idO ?_); (with_reducible refine oM_gen fun Kv hK=>?_); simp [go_sem]; (try simp (disch := omega) only [wrapI64, wrapU8, wrapU32, wrapU64]); refine hK _ _ ?_; clear hK; clear Kv))
          refine ⟨⟨h2, _, _, _, i + 1, rfl, by rw [hzl]; omega, he⟩, ?_⟩
          simp only [pdMu_eq]; omega
      · have e0 : prodG g bs es = (0, false) := by unfold prodG; rw [if_neg (fun h => hl h.2.2)]
        have hl' : ¬ (bs.length : Int) = es.length := by omega
        repeat (any_goals (first
        | (with_reducible first|refine pureM_in ?_|((refine idGd ?_); ((refine idGdN ?_); refine zO ?_))|((refine idPick ?_); refine yG ?_)|((refine idCond ?_); refine yL ?_))
        | ((with_reducible refine idO ?_); (with_reducible refine oM_gen fun Kv hK=>?_); simp [go_sem, c0, c1, c2, hr, hl']; refine hK _ _ ?_; clear hK; clear Kv)))
        exact k2 _ _ e0 hr
    · have e0 : prodG g bs es = (0, false) := by unfold prodG; rw [if_neg (fun h => hq h.2.1)]
      repeat (any_goals (first
      | (with_reducible ((refine idGd ?_); ((refine idGdN ?_); refine zO ?_)))
      | ((with_reducible refine idO ?_); (with_reducible refine oM_gen fun Kv hK=>?_); simp [go_sem, c0, c1, c2, hr]; refine hK _ _ ?_; clear hK; clear Kv)))
      refine valid_ok g.Q ?_
      repeat (any_goals (first
      | (with_reducible first|((refine idGd ?_); ((refine idGdN ?_); first|refine zO ?_|refine zP ?_))|((refine idPick ?_); first|refine yF ?_|refine yG ?_)|((refine idCond ?_); refine yL ?_))
      | ((with_reducible refine idO ?_); (with_reducible refine oM_gen fun Kv hK=>?_); simp [go_sem, c0, c1, c2, hr]; refine hK _ _ ?_; clear hK; clear Kv)))
      exact k2 _ _ e0 hr
  · have e0 : prodG g bs es = (0, false) := by unfold prodG; rw [if_neg (fun h => hp h.1)]
    repeat (any_goals (first
    | (with_reducible first|((refine idGd ?_); first|refine zD ?_|((refine idGdN ?_); refine zP ?_))|((refine idPick ?_); first|refine yB ?_|refine yF ?_)|((refine idCond ?_); refine yL ?_))
    | ((with_reducible refine idO ?_); (with_reducible refine oM_gen fun Kv hK=>?_); simp [go_sem, c0, c1, c2, hr]; refine hK _ _ ?_; clear hK; clear Kv)))
    exact k2 _ _ e0 hr
end
end Go.Proofs
set_option linter.unusedVariables false
set_option maxRecDepth 100000
namespace Go.Proofs
open Go.Sh
def sh_13 (a0 : Value) (a1 : Value) (a2 : Value) (a3 : Value) (K : Value → World → Prop) (w : World) : Prop :=
 oM Tryz.prog (.box 35 (.tmp 0)) 0 [a0] (fun v4_1 w =>
 oM Tryz.prog (.box 28 (.tmp 0)) 0 [a2] (fun v6_2 w =>
 oM Tryz.prog (.alloc 47) 0 [] (fun v8_3 w =>
 oM Tryz.prog (.load 35 (.tmp 0)) 35 [v4_1] (fun v17_4 w =>
 callM Tryz.prog 70 #[v17_4, a1] (fun v19_5 w =>
 oM Tryz.prog (.extract (.tmp 0) 0) 111 [v19_5] (fun v20_6 w =>
 oM Tryz.prog (.extract (.tmp 0) 1) 3 [v19_5] (fun v21_7 w =>
 oM Tryz.prog (.extract (.tmp 0) 2) 4 [v19_5] (fun v22_8 w =>
 oM Tryz.prog (.alloc 111) 0 [] (fun v10_9 w =>
 oM Tryz.prog (.store 111 (.tmp 0) (.tmp 1)) 0 [v10_9, v20_6] (fun _ w =>
 oM Tryz.prog (.unOp .not 4 (.tmp 0)) 4 [v22_8] (fun v24_10 w =>
 gdM (gd v24_10 false) (oM Tryz.prog (.load 111 (.tmp 0)) 111 [v10_9]) (fun v26_11 w =>
 gdM (gd v24_10 false) (oM Tryz.prog (.load 28 (.tmp 0)) 28 [v6_2]) (fun v27_12 w =>
 gdM (gd v24_10 false) (callM Tryz.prog 71 #[v26_11, v27_12]) (fun v28_13 w =>
 gdM (gd v24_10 false) (oM Tryz.prog (.unOp .not 4 (.tmp 0)) 4 [v28_13]) (fun v29_14 w =>
 oM Tryz.prog (.pick (.tmp 0) (.tmp 1) (.tmp 2)) 4 [v24_10, (.bool true), v29_14] (fun v30_15 w =>
 gdM (gd v30_15 false) (oM Tryz.prog (.load 111 (.tmp 0)) 111 [v10_9]) (fun v32_16 w =>
 gdM (gd v30_15 false) (pureM a3) (fun v33_17 w =>
 gdM (gd v30_15 false) (oM Tryz.prog (.buildSlice 22 1 #[(0, (.tmp 0))]) 22 [v33_17]) (fun v34_18 w =>
 gdM (gd v30_15 false) (callM Tryz.prog 72 #[v32_16, (.int .i64 1), v34_18]) (fun v35_19 w =>
 gdM (gd v30_15 false) (oM Tryz.prog (.unOp .not 4 (.tmp 0)) 4 [v35_19]) (fun v36_20 w =>
 oM Tryz.prog (.pick (.tmp 0) (.tmp 1) (.tmp 2)) 4 [v30_15, (.bool true), v36_20] (fun v37_21 w =>
 condM v37_21
 (oM Tryz.prog (.build 47 #[]) 47 [] (fun v38_22 w =>
 oM Tryz.prog (.store 47 (.tmp 0) (.tmp 1)) 0 [v8_3, v38_22] (fun _ w =>
 ∃ r_23, (do loadVar 47 (← asAddr v8_3) : Sem Value).run Tryz.prog w = .ok r_23 w ∧ K (.tuple #[r_23, (.bool false)]) w) w) w)
 (oM Tryz.prog (.build 47 #[(0, (.tmp 0))]) 47 [a3] (fun v40_24 w =>
 oM Tryz.prog (.alloc 47) 0 [] (fun v13_25 w =>
 oM Tryz.prog (.store 47 (.tmp 0) (.tmp 1)) 0 [v13_25, v40_24] (fun _ w =>
 callM Tryz.prog 73 #[a1] (fun v42_26 w =>
 oM Tryz.prog (.call (Go.Call.mk (.builtin .len) #[(.tmp 0)] #[22])) 3 [v42_26] (fun v43_27 w =>
 loopM [undef, undef, (.int .i64 0)] w (fun J_28 m_29 l_30 u_l_30 w0_l_30 => (fun w => (
 oM Tryz.prog (.binOp .lss 3 (.tmp 0) (.tmp 1) 3) 0 [(l_30.getD 2 undef), v43_27] (fun v45_31 w =>
 condM v45_31
 (oM Tryz.prog (.indexAddr 22 (.tmp 0) (.tmp 1)) 0 [v42_26, (l_30.getD 2 undef)] (fun v47_32 w =>
 oM Tryz.prog (.load 3 (.tmp 0)) 3 [v47_32] (fun v48_33 w =>
 stageM w (fun C_34 w => (oH Tryz.prog (.fieldAddr 47 (.tmp 0) 1) 0 [v13_25] (upto C_34 4) (fun v49_35 =>
 oH Tryz.prog (.load 22 (.tmp 0)) 22 [v49_35] (upto C_34 4) (fun v50_36 =>
 oH Tryz.prog (.load 111 (.tmp 0)) 111 [v10_9] (upto C_34 2) (fun v51_37 =>
 oH Tryz.prog (.fieldAddr 28 (.tmp 0) 3) 0 [v6_2] (upto C_34 2) (fun v52_38 =>
 oH Tryz.prog (.load 22 (.tmp 0)) 22 [v52_38] (upto C_34 2) (fun v53_39 =>
 pureH (l_30.getD 2 undef) (upto C_34 2) (fun v54_40 =>
 oH Tryz.prog (.indexAddr 22 (.tmp 0) (.tmp 1)) 0 [v53_39, v54_40] (upto C_34 2) (fun v55_41 =>
 oH Tryz.prog (.load 3 (.tmp 0)) 3 [v55_41] (upto C_34 2) (fun v56_42 =>
 oH Tryz.prog (.load 111 (.tmp 0)) 111 [v10_9] (upto C_34 1) (fun v57_43 =>
 pureH a3 (upto C_34 1) (fun v58_44 =>
 oH Tryz.prog (.fieldAddr 28 (.tmp 0) 0) 0 [v6_2] (upto C_34 0) (fun v59_45 =>
 oH Tryz.prog (.load 3 (.tmp 0)) 3 [v59_45] (upto C_34 0) (fun v60_46 =>
 pureH v48_33 (upto C_34 0) (fun v61_47 =>
 oM Tryz.prog (.buildSlice 22 2 #[(0, (.tmp 0)), (1, (.tmp 1))]) 22 [v60_46, v61_47] (fun v62_48 w => C_34 1 w ∧ (
 callM Tryz.prog 75 #[v57_43, v58_44, v62_48] (fun v63_49 w => C_34 2 w ∧ (
 callM Tryz.prog 74 #[v51_37, v56_42, v63_49] (fun v64_50 w => C_34 3 w ∧ (
 oM Tryz.prog (.buildSlice 22 1 #[(0, (.tmp 0))]) 22 [v64_50] (fun v65_51 w => C_34 4 w ∧ (
 oM Tryz.prog (.call (Go.Call.mk (.builtin .append) #[(.tmp 0), (.tmp 1)] #[22, 22])) 22 [v50_36, v65_51] (fun v66_52 w => C_34 5 w ∧ (
 oM Tryz.prog (.fieldAddr 47 (.tmp 0) 1) 0 [v13_25] (fun v67_53 w => C_34 6 w ∧ (
 oM Tryz.prog (.store 22 (.tmp 0) (.tmp 1)) 0 [v67_53, v66_52] (fun _ w => C_34 7 w ∧ (
 oM Tryz.prog (.binOp .add 3 (.tmp 0) (.tmp 1) 3) 3 [(l_30.getD 2 undef), (.int .i64 1)] (fun v68_54 w =>
 J_28 [(l_30.getD 2 undef), v48_33, v68_54] w ∧ m_29 [(l_30.getD 2 undef), v48_33, v68_54] w < m_29 l_30 w0_l_30) w)) w)) w)) w)) w)) w)) w)) w)))))))))))))))) w) w)
 (oM Tryz.prog (.load 47 (.tmp 0)) 47 [v13_25] (fun v69_55 w =>
 oM Tryz.prog (.store 47 (.tmp 0) (.tmp 1)) 0 [v8_3, v69_55] (fun _ w =>
 ∃ r_56, (do loadVar 47 (← asAddr v8_3) : Sem Value).run Tryz.prog w = .ok r_56 w ∧ K (.tuple #[r_56, (.bool true)]) w) w) w)) w)) w0_l_30)) w) w) w) w) w)) w) w) w) w) w) w) w) w) w) w) w) w) w) w) w) w) w) w) w) w) w) w
theorem sh_13_eq (a0 : Value) (a1 : Value) (a2 : Value) (a3 : Value) (K : Value → World → Prop) (w : World) : sh_13 a0 a1 a2 a3 K w = code Tryz.prog (fun _ => 3) 70 (Tryz.f13.body.getD .skip) (slotsAt [a0, a1, a2, a3]) (retK Tryz.prog [.cell 8 47, .tmp 9] K) w := by kernel_rfl
theorem sh_13_ok {a0 a1 a2 a3 : Value} {K : Value → World → Prop} {w : World} (h : sh_13 a0 a1 a2 a3 K w) : callM Tryz.prog 13 #[a0, a1, a2, a3] K w :=
  calls_of_code (fun _ => 3) (fn := Tryz.f13) (rs := [.cell 8 47, .tmp 9]) Tryz.func13 rfl rfl (by kernel_rfl) (Nat.le_of_ble_eq_true rfl) ((sh_13_eq a0 a1 a2 a3 K w).mp h)
def sh_14 (a0 : Value) (a1 : Value) (a2 : Value) (a3 : Value) (K : Value → World → Prop) (w : World) : Prop :=
 oM Tryz.prog (.box 35 (.tmp 0)) 0 [a0] (fun v4_1 w =>
 oM Tryz.prog (.alloc 39) 0 [] (fun v8_2 w =>
 oM Tryz.prog (.load 35 (.tmp 0)) 35 [v4_1] (fun v14_3 w =>
 callM Tryz.prog 70 #[v14_3, a2] (fun v16_4 w =>
 oM Tryz.prog (.extract (.tmp 0) 0) 111 [v16_4] (fun v17_5 w =>
 oM Tryz.prog (.extract (.tmp 0) 1) 3 [v16_4] (fun v18_6 w =>
 oM Tryz.prog (.extract (.tmp 0) 2) 4 [v16_4] (fun v19_7 w =>
 oM Tryz.prog (.alloc 111) 0 [] (fun v10_8 w =>
 oM Tryz.prog (.store 111 (.tmp 0) (.tmp 1)) 0 [v10_8, v17_5] (fun _ w =>
 oM Tryz.prog (.unOp .not 4 (.tmp 0)) 4 [v19_7] (fun v21_9 w =>
 gdM (gd v21_9 false) (oM Tryz.prog (.load 111 (.tmp 0)) 111 [v10_8]) (fun v23_10 w =>
 gdM (gd v21_9 false) (pureM a1) (fun v24_11 w =>
 gdM (gd v21_9 false) (oM Tryz.prog (.buildSlice 22 1 #[(0, (.tmp 0))]) 22 [v24_11]) (fun v25_12 w =>
 gdM (gd v21_9 false) (callM Tryz.prog 72 #[v23_10, (.int .i64 1), v25_12]) (fun v26_13 w =>
 gdM (gd v21_9 false) (oM Tryz.prog (.unOp .not 4 (.tmp 0)) 4 [v26_13]) (fun v27_14 w =>
 oM Tryz.prog (.pick (.tmp 0) (.tmp 1) (.tmp 2)) 4 [v21_9, (.bool true), v27_14] (fun v28_15 w =>
 gdM (gd v28_15 false) (oM Tryz.prog (.load 111 (.tmp 0)) 111 [v10_8]) (fun v30_16 w =>
 gdM (gd v28_15 false) (pureM a3) (fun v31_17 w =>
 gdM (gd v28_15 false) (oM Tryz.prog (.buildSlice 22 1 #[(0, (.tmp 0))]) 22 [v31_17]) (fun v32_18 w =>
 gdM (gd v28_15 false) (callM Tryz.prog 72 #[v30_16, (.int .i64 0), v32_18]) (fun v33_19 w =>
 gdM (gd v28_15 false) (oM Tryz.prog (.unOp .not 4 (.tmp 0)) 4 [v33_19]) (fun v34_20 w =>
 oM Tryz.prog (.pick (.tmp 0) (.tmp 1) (.tmp 2)) 4 [v28_15, (.bool true), v34_20] (fun v35_21 w =>
 condM v35_21
 (oM Tryz.prog (.build 39 #[]) 39 [] (fun v36_22 w =>
 oM Tryz.prog (.store 39 (.tmp 0) (.tmp 1)) 0 [v8_2, v36_22] (fun _ w =>
 ∃ r_23, (do loadVar 39 (← asAddr v8_2) : Sem Value).run Tryz.prog w = .ok r_23 w ∧ K (.tuple #[r_23, (.int .i64 1)]) w) w) w)
 (heldM w (fun C_24 w => (oH Tryz.prog (.load 111 (.tmp 0)) 111 [v10_8] C_24 (fun v37_25 =>
 pureH v18_6 C_24 (fun v38_26 =>
 pureH a1 C_24 (fun v39_27 =>
 oH Tryz.prog (.load 111 (.tmp 0)) 111 [v10_8] C_24 (fun v41_28 =>
 pureH a3 C_24 (fun v42_29 =>
 oH Tryz.prog (.load 111 (.tmp 0)) 111 [v10_8] C_24 (fun v44_30 =>
 pureH v18_6 C_24 (fun v45_31 =>
 pureH a3 C_24 (fun v46_32 =>
 callM Tryz.prog 76 #[v37_25, v38_26, v39_27] (fun v40_33 w => C_24 w ∧ (
 callM Tryz.prog 77 #[v41_28, v42_29] (fun v43_34 w => C_24 w ∧ (
 callM Tryz.prog 76 #[v44_30, v45_31, v46_32] (fun v47_35 w => C_24 w ∧ (
 oM Tryz.prog (.build 39 #[(0, (.tmp 0)), (1, (.tmp 1)), (2, (.tmp 2))]) 39 [v40_33, v43_34, v47_35] (fun v48_36 w => C_24 w ∧ (
 oM Tryz.prog (.store 39 (.tmp 0) (.tmp 1)) 0 [v8_2, v48_36] (fun _ w => C_24 w ∧ (
 C_24 w ∧ (∃ r_38, (do loadVar 39 (← asAddr v8_2) : Sem Value).run Tryz.prog w = .ok r_38 w ∧ K (.tuple #[r_38, (.int .i64 0)]) w))) w)) w)) w)) w)) w)))))))))))) w) w) w) w) w) w) w) w) w) w) w) w) w) w) w) w) w) w) w) w) w) w
theorem sh_14_eq (a0 : Value) (a1 : Value) (a2 : Value) (a3 : Value) (K : Value → World → Prop) (w : World) : sh_14 a0 a1 a2 a3 K w = code Tryz.prog (fun _ => 2) 49 (Tryz.f14.body.getD .skip) (slotsAt [a0, a1, a2, a3]) (retK Tryz.prog [.cell 8 39, .tmp 9] K) w := by kernel_rfl
theorem sh_14_ok {a0 a1 a2 a3 : Value} {K : Value → World → Prop} {w : World} (h : sh_14 a0 a1 a2 a3 K w) : callM Tryz.prog 14 #[a0, a1, a2, a3] K w :=
  calls_of_code (fun _ => 2) (fn := Tryz.f14) (rs := [.cell 8 39, .tmp 9]) Tryz.func14 rfl rfl (by kernel_rfl) (Nat.le_of_ble_eq_true rfl) ((sh_14_eq a0 a1 a2 a3 K w).mp h)
def sh_15 (a0 : Value) (a1 : Value) (a2 : Value) (a3 : Value) (K : Value → World → Prop) (w : World) : Prop :=
 oM Tryz.prog (.box 35 (.tmp 0)) 0 [a0] (fun v4_1 w =>
 oM Tryz.prog (.load 35 (.tmp 0)) 35 [v4_1] (fun v12_2 w =>
 callM Tryz.prog 78 #[v12_2] (fun v13_3 w =>
 oM Tryz.prog (.extract (.tmp 0) 0) 111 [v13_3] (fun v14_4 w =>
 oM Tryz.prog (.extract (.tmp 0) 1) 4 [v13_3] (fun v15_5 w =>
 oM Tryz.prog (.alloc 111) 0 [] (fun v9_6 w =>
 oM Tryz.prog (.store 111 (.tmp 0) (.tmp 1)) 0 [v9_6, v14_4] (fun _ w =>
 gdM (gd v15_5 true) (oM Tryz.prog (.load 111 (.tmp 0)) 111 [v9_6]) (fun v18_7 w =>
 gdM (gd v15_5 true) (pureM a1) (fun v19_8 w =>
 gdM (gd v15_5 true) (oM Tryz.prog (.buildSlice 22 1 #[(0, (.tmp 0))]) 22 [v19_8]) (fun v20_9 w =>
 gdM (gd v15_5 true) (callM Tryz.prog 72 #[v18_7, (.int .i64 1), v20_9]) (fun v21_10 w =>
 oM Tryz.prog (.pick (.tmp 0) (.tmp 1) (.tmp 2)) 4 [v15_5, v21_10, (.bool false)] (fun v22_11 w =>
 gdM (gd v22_11 true) (oM Tryz.prog (.load 111 (.tmp 0)) 111 [v9_6]) (fun v24_12 w =>
 gdM (gd v22_11 true) (pureM a2) (fun v25_13 w =>
 gdM (gd v22_11 true) (pureM a3) (fun v26_14 w =>
 gdM (gd v22_11 true) (oM Tryz.prog (.buildSlice 22 2 #[(0, (.tmp 0)), (1, (.tmp 1))]) 22 [v25_13, v26_14]) (fun v27_15 w =>
 gdM (gd v22_11 true) (callM Tryz.prog 72 #[v24_12, (.int .i64 0), v27_15]) (fun v28_16 w =>
 oM Tryz.prog (.pick (.tmp 0) (.tmp 1) (.tmp 2)) 4 [v22_11, v28_16, (.bool false)] (fun v29_17 w =>
 condM v29_17
 (heldM w (fun C_18 w => (oH Tryz.prog (.load 111 (.tmp 0)) 111 [v9_6] C_18 (fun v30_19 =>
 oH Tryz.prog (.load 111 (.tmp 0)) 111 [v9_6] C_18 (fun v31_20 =>
 pureH a3 C_18 (fun v32_21 =>
 pureH a1 C_18 (fun v33_22 =>
 pureH a2 C_18 (fun v36_23 =>
 oM Tryz.prog (.buildSlice 22 1 #[(0, (.tmp 0))]) 22 [v33_22] (fun v34_24 w => C_18 w ∧ (
 callM Tryz.prog 75 #[v31_20, v32_21, v34_24] (fun v35_25 w => C_18 w ∧ (
 callM Tryz.prog 74 #[v30_19, v35_25, v36_23] (fun v37_26 w => C_18 w ∧ (
 C_18 w ∧ (K v37_26 w))) w)) w)) w))))))))
 (K (.int .i64 0) w)) w) w) w) w) w) w) w) w) w) w) w) w) w) w) w) w) w) w
theorem sh_15_eq (a0 : Value) (a1 : Value) (a2 : Value) (a3 : Value) (K : Value → World → Prop) (w : World) : sh_15 a0 a1 a2 a3 K w = code Tryz.prog (fun _ => 2) 38 (Tryz.f15.body.getD .skip) (slotsAt [a0, a1, a2, a3]) (retK Tryz.prog [.tmp 8] K) w := by kernel_rfl
theorem sh_15_ok {a0 a1 a2 a3 : Value} {K : Value → World → Prop} {w : World} (h : sh_15 a0 a1 a2 a3 K w) : callM Tryz.prog 15 #[a0, a1, a2, a3] K w :=
  calls_of_code (fun _ => 2) (fn := Tryz.f15) (rs := [.tmp 8]) Tryz.func15 rfl rfl (by kernel_rfl) (Nat.le_of_ble_eq_true rfl) ((sh_15_eq a0 a1 a2 a3 K w).mp h)
def sh_19 (a0 : Value) (a1 : Value) (K : Value → World → Prop) (w : World) : Prop :=
 oM Tryz.prog (.box 35 (.tmp 0)) 0 [a0] (fun v2_1 w =>
 oM Tryz.prog (.load 35 (.tmp 0)) 35 [v2_1] (fun v8_2 w =>
 callM Tryz.prog 78 #[v8_2] (fun v9_3 w =>
 oM Tryz.prog (.extract (.tmp 0) 0) 111 [v9_3] (fun v10_4 w =>
 oM Tryz.prog (.extract (.tmp 0) 1) 4 [v9_3] (fun v11_5 w =>
 oM Tryz.prog (.alloc 111) 0 [] (fun v5_6 w =>
 oM Tryz.prog (.store 111 (.tmp 0) (.tmp 1)) 0 [v5_6, v10_4] (fun _ w =>
 gdM (gd v11_5 true) (oM Tryz.prog (.load 111 (.tmp 0)) 111 [v5_6]) (fun v14_7 w =>
 gdM (gd v11_5 true) (pureM a1) (fun v15_8 w =>
 gdM (gd v11_5 true) (oM Tryz.prog (.buildSlice 22 1 #[(0, (.tmp 0))]) 22 [v15_8]) (fun v16_9 w =>
 gdM (gd v11_5 true) (callM Tryz.prog 72 #[v14_7, (.int .i64 1), v16_9]) (fun v17_10 w =>
 oM Tryz.prog (.pick (.tmp 0) (.tmp 1) (.tmp 2)) 4 [v11_5, v17_10, (.bool false)] (fun v18_11 w =>
 condM v18_11
 (oM Tryz.prog (.load 111 (.tmp 0)) 111 [v5_6] (fun v19_12 w =>
 callM Tryz.prog 77 #[v19_12, a1] (fun v21_13 w =>
 K v21_13 w) w) w)
 (K (.int .i64 0) w)) w) w) w) w) w) w) w) w) w) w) w) w
theorem sh_19_eq (a0 : Value) (a1 : Value) (K : Value → World → Prop) (w : World) : sh_19 a0 a1 K w = code Tryz.prog (fun _ => 2) 22 (Tryz.f19.body.getD .skip) (slotsAt [a0, a1]) (retK Tryz.prog [.tmp 4] K) w := by kernel_rfl
theorem sh_19_ok {a0 a1 : Value} {K : Value → World → Prop} {w : World} (h : sh_19 a0 a1 K w) : callM Tryz.prog 19 #[a0, a1] K w :=
  calls_of_code (fun _ => 2) (fn := Tryz.f19) (rs := [.tmp 4]) Tryz.func19 rfl rfl (by kernel_rfl) (Nat.le_of_ble_eq_true rfl) ((sh_19_eq a0 a1 K w).mp h)
def sh_70 (a0 : Value) (a1 : Value) (K : Value → World → Prop) (w : World) : Prop :=
 oM Tryz.prog (.box 35 (.tmp 0)) 0 [a0] (fun v2_1 w =>
 oM Tryz.prog (.alloc 111) 0 [] (fun v4_2 w =>
 oM Tryz.prog (.load 35 (.tmp 0)) 35 [v2_1] (fun v11_3 w =>
 callM Tryz.prog 95 #[v11_3, a1] (fun v13_4 w =>
 oM Tryz.prog (.extract (.tmp 0) 0) 111 [v13_4] (fun v14_5 w =>
 oM Tryz.prog (.extract (.tmp 0) 1) 3 [v13_4] (fun v15_6 w =>
 oM Tryz.prog (.extract (.tmp 0) 2) 4 [v13_4] (fun v16_7 w =>
 oM Tryz.prog (.alloc 111) 0 [] (fun v7_8 w =>
 oM Tryz.prog (.store 111 (.tmp 0) (.tmp 1)) 0 [v7_8, v14_5] (fun _ w =>
 oM Tryz.prog (.load 111 (.tmp 0)) 111 [v7_8] (fun v17_9 w =>
 gdM (gd v16_7 true) (pureM v15_6) (fun v21_10 w =>
 gdM (gd v16_7 true) (oM Tryz.prog (.binOp .neq 3 (.tmp 0) (.const (.int .i64 1)) 3) 4 [v21_10]) (fun v22_11 w =>
 oM Tryz.prog (.pick (.tmp 0) (.tmp 1) (.tmp 2)) 4 [v16_7, v22_11, (.bool false)] (fun v23_12 w =>
 oM Tryz.prog (.store 111 (.tmp 0) (.tmp 1)) 0 [v4_2, v17_9] (fun _ w =>
 ∃ r_13, (do loadVar 111 (← asAddr v4_2) : Sem Value).run Tryz.prog w = .ok r_13 w ∧ K (.tuple #[r_13, v15_6, v23_12]) w) w) w) w) w) w) w) w) w) w) w) w) w) w) w
theorem sh_70_eq (a0 : Value) (a1 : Value) (K : Value → World → Prop) (w : World) : sh_70 a0 a1 K w = code Tryz.prog (fun _ => 2) 24 (Tryz.f70.body.getD .skip) (slotsAt [a0, a1]) (retK Tryz.prog [.cell 4 111, .tmp 5, .tmp 6] K) w := by kernel_rfl
theorem sh_70_ok {a0 a1 : Value} {K : Value → World → Prop} {w : World} (h : sh_70 a0 a1 K w) : callM Tryz.prog 70 #[a0, a1] K w :=
  calls_of_code (fun _ => 2) (fn := Tryz.f70) (rs := [.cell 4 111, .tmp 5, .tmp 6]) Tryz.func70 rfl rfl (by kernel_rfl) (Nat.le_of_ble_eq_true rfl) ((sh_70_eq a0 a1 K w).mp h)
def sh_71 (a0 : Value) (a1 : Value) (K : Value → World → Prop) (w : World) : Prop :=
 oM Tryz.prog (.box 111 (.tmp 0)) 0 [a0] (fun v2_1 w =>
 oM Tryz.prog (.box 28 (.tmp 0)) 0 [a1] (fun v3_2 w =>
 oM Tryz.prog (.load 111 (.tmp 0)) 111 [v2_1] (fun v5_3 w =>
 oM Tryz.prog (.fieldAddr 28 (.tmp 0) 0) 0 [v3_2] (fun v6_4 w =>
 oM Tryz.prog (.load 3 (.tmp 0)) 3 [v6_4] (fun v7_5 w =>
 oM Tryz.prog (.fieldAddr 28 (.tmp 0) 1) 0 [v3_2] (fun v8_6 w =>
 oM Tryz.prog (.load 3 (.tmp 0)) 3 [v8_6] (fun v9_7 w =>
 oM Tryz.prog (.buildSlice 22 2 #[(0, (.tmp 0)), (1, (.tmp 1))]) 22 [v7_5, v9_7] (fun v10_8 w =>
 callM Tryz.prog 72 #[v5_3, (.int .i64 1), v10_8] (fun v11_9 w =>
 gdM (gd v11_9 true) (oM Tryz.prog (.load 111 (.tmp 0)) 111 [v2_1]) (fun v13_10 w =>
 gdM (gd v11_9 true) (oM Tryz.prog (.fieldAddr 28 (.tmp 0) 2) 0 [v3_2]) (fun v14_11 w =>
 gdM (gd v11_9 true) (oM Tryz.prog (.load 3 (.tmp 0)) 3 [v14_11]) (fun v15_12 w =>
 gdM (gd v11_9 true) (oM Tryz.prog (.buildSlice 22 1 #[(0, (.tmp 0))]) 22 [v15_12]) (fun v16_13 w =>
 gdM (gd v11_9 true) (callM Tryz.prog 72 #[v13_10, (.int .i64 0), v16_13]) (fun v17_14 w =>
 oM Tryz.prog (.pick (.tmp 0) (.tmp 1) (.tmp 2)) 4 [v11_9, v17_14, (.bool false)] (fun v18_15 w =>
 gdM (gd v18_15 true) (oM Tryz.prog (.fieldAddr 28 (.tmp 0) 3) 0 [v3_2]) (fun v20_16 w =>
 gdM (gd v18_15 true) (oM Tryz.prog (.load 22 (.tmp 0)) 22 [v20_16]) (fun v21_17 w =>
 gdM (gd v18_15 true) (oM Tryz.prog (.call (Go.Call.mk (.builtin .len) #[(.tmp 0)] #[22])) 3 [v21_17]) (fun v22_18 w =>
 gdM (gd v18_15 true) (oM Tryz.prog (.fieldAddr 111 (.tmp 0) 0) 0 [v2_1]) (fun v23_19 w =>
 gdM (gd v18_15 true) (oM Tryz.prog (.fieldAddr 35 (.tmp 0) 1) 0 [v23_19]) (fun v24_20 w =>
 gdM (gd v18_15 true) (oM Tryz.prog (.load 22 (.tmp 0)) 22 [v24_20]) (fun v25_21 w =>
 gdM (gd v18_15 true) (oM Tryz.prog (.call (Go.Call.mk (.builtin .len) #[(.tmp 0)] #[22])) 3 [v25_21]) (fun v26_22 w =>
 gdM (gd v18_15 true) (oM Tryz.prog (.binOp .eql 3 (.tmp 0) (.tmp 1) 3) 4 [v22_18, v26_22]) (fun v27_23 w =>
 oM Tryz.prog (.pick (.tmp 0) (.tmp 1) (.tmp 2)) 4 [v18_15, v27_23, (.bool false)] (fun v28_24 w =>
 gdM (gd v28_24 true) (oM Tryz.prog (.load 111 (.tmp 0)) 111 [v2_1]) (fun v30_25 w =>
 gdM (gd v28_24 true) (oM Tryz.prog (.fieldAddr 28 (.tmp 0) 3) 0 [v3_2]) (fun v31_26 w =>
 gdM (gd v28_24 true) (oM Tryz.prog (.load 22 (.tmp 0)) 22 [v31_26]) (fun v32_27 w =>
 gdM (gd v28_24 true) (callM Tryz.prog 72 #[v30_25, (.int .i64 0), v32_27]) (fun v33_28 w =>
 oM Tryz.prog (.pick (.tmp 0) (.tmp 1) (.tmp 2)) 4 [v28_24, v33_28, (.bool false)] (fun v34_29 w =>
 K v34_29 w) w) w) w) w) w) w) w) w) w) w) w) w) w) w) w) w) w) w) w) w) w) w) w) w) w) w) w) w) w
theorem sh_71_eq (a0 : Value) (a1 : Value) (K : Value → World → Prop) (w : World) : sh_71 a0 a1 K w = code Tryz.prog (fun _ => 2) 35 (Tryz.f71.body.getD .skip) (slotsAt [a0, a1]) (retK Tryz.prog [.tmp 4] K) w := by kernel_rfl
theorem sh_71_ok {a0 a1 : Value} {K : Value → World → Prop} {w : World} (h : sh_71 a0 a1 K w) : callM Tryz.prog 71 #[a0, a1] K w :=
  calls_of_code (fun _ => 2) (fn := Tryz.f71) (rs := [.tmp 4]) Tryz.func71 rfl rfl (by kernel_rfl) (Nat.le_of_ble_eq_true rfl) ((sh_71_eq a0 a1 K w).mp h)
def sh_72 (a0 : Value) (a1 : Value) (a2 : Value) (K : Value → World → Prop) (w : World) : Prop :=
 oM Tryz.prog (.box 111 (.tmp 0)) 0 [a0] (fun v3_1 w =>
 oM Tryz.prog (.box 3 (.tmp 0)) 0 [a1] (fun v4_2 w =>
 oM Tryz.prog (.makeFunc (Go.Fn.func 140) #[] #[(.tmp 0), (.tmp 1)]) 122 [v4_2, v3_1] (fun v8_3 w =>
 callM Tryz.prog 113 #[a2, v8_3] (fun v9_4 w =>
 oM Tryz.prog (.unOp .not 4 (.tmp 0)) 4 [v9_4] (fun v10_5 w =>
 K v10_5 w) w) w) w) w) w
theorem sh_72_eq (a0 : Value) (a1 : Value) (a2 : Value) (K : Value → World → Prop) (w : World) : sh_72 a0 a1 a2 K w = code Tryz.prog (fun _ => 0) 11 (Tryz.f72.body.getD .skip) (slotsAt [a0, a1, a2]) (retK Tryz.prog [.tmp 6] K) w := by kernel_rfl
theorem sh_72_ok {a0 a1 a2 : Value} {K : Value → World → Prop} {w : World} (h : sh_72 a0 a1 a2 K w) : callM Tryz.prog 72 #[a0, a1, a2] K w :=
  calls_of_code (fun _ => 0) (fn := Tryz.f72) (rs := [.tmp 6]) Tryz.func72 rfl rfl (by kernel_rfl) (Nat.le_of_ble_eq_true rfl) ((sh_72_eq a0 a1 a2 K w).mp h)
def sh_73 (a0 : Value) (K : Value → World → Prop) (w : World) : Prop :=
 callM Tryz.prog 142 #[a0] (fun v4_1 w =>
 oM Tryz.prog (.buildSlice 22 1 #[(0, (.tmp 0))]) 22 [(.int .i64 1)] (fun v5_2 w =>
 callM Tryz.prog 141 #[v4_1, (.int .i64 0), v5_2] (fun v6_3 w =>
 K v6_3 w) w) w) w
theorem sh_73_eq (a0 : Value) (K : Value → World → Prop) (w : World) : sh_73 a0 K w = code Tryz.prog (fun _ => 2) 7 (Tryz.f73.body.getD .skip) (slotsAt [a0]) (retK Tryz.prog [.tmp 2] K) w := by kernel_rfl
theorem sh_73_ok {a0 : Value} {K : Value → World → Prop} {w : World} (h : sh_73 a0 K w) : callM Tryz.prog 73 #[a0] K w :=
  calls_of_code (fun _ => 2) (fn := Tryz.f73) (rs := [.tmp 2]) Tryz.func73 rfl rfl (by kernel_rfl) (Nat.le_of_ble_eq_true rfl) ((sh_73_eq a0 K w).mp h)
def sh_74 (a0 : Value) (a1 : Value) (a2 : Value) (K : Value → World → Prop) (w : World) : Prop :=
 oM Tryz.prog (.box 111 (.tmp 0)) 0 [a0] (fun v3_1 w =>
 oM Tryz.prog (.fieldAddr 111 (.tmp 0) 0) 0 [v3_1] (fun v7_2 w =>
 oM Tryz.prog (.fieldAddr 35 (.tmp 0) 0) 0 [v7_2] (fun v8_3 w =>
 oM Tryz.prog (.fieldAddr 33 (.tmp 0) 1) 0 [v8_3] (fun v9_4 w =>
 oM Tryz.prog (.load 3 (.tmp 0)) 3 [v9_4] (fun v10_5 w =>
 callM Tryz.prog 143 #[v10_5, a1, a2] (fun v13_6 w =>
 K v13_6 w) w) w) w) w) w) w
theorem sh_74_eq (a0 : Value) (a1 : Value) (a2 : Value) (K : Value → World → Prop) (w : World) : sh_74 a0 a1 a2 K w = code Tryz.prog (fun _ => 2) 14 (Tryz.f74.body.getD .skip) (slotsAt [a0, a1, a2]) (retK Tryz.prog [.tmp 6] K) w := by kernel_rfl
theorem sh_74_ok {a0 a1 a2 : Value} {K : Value → World → Prop} {w : World} (h : sh_74 a0 a1 a2 K w) : callM Tryz.prog 74 #[a0, a1, a2] K w :=
  calls_of_code (fun _ => 2) (fn := Tryz.f74) (rs := [.tmp 6]) Tryz.func74 rfl rfl (by kernel_rfl) (Nat.le_of_ble_eq_true rfl) ((sh_74_eq a0 a1 a2 K w).mp h)
def sh_75 (a0 : Value) (a1 : Value) (a2 : Value) (K : Value → World → Prop) (w : World) : Prop :=
 oM Tryz.prog (.box 111 (.tmp 0)) 0 [a0] (fun v3_1 w =>
 oM Tryz.prog (.call (Go.Call.mk (.builtin .len) #[(.tmp 0)] #[22])) 3 [a2] (fun v10_2 w =>
 loopM [undef, a1, (.int .i64 0)] w (fun J_3 m_4 l_5 u_l_5 w0_l_5 => (fun w => (
 oM Tryz.prog (.binOp .lss 3 (.tmp 0) (.tmp 1) 3) 0 [(l_5.getD 2 undef), v10_2] (fun v12_6 w =>
 condM v12_6
 (oM Tryz.prog (.indexAddr 22 (.tmp 0) (.tmp 1)) 0 [a2, (l_5.getD 2 undef)] (fun v13_7 w =>
 oM Tryz.prog (.load 3 (.tmp 0)) 3 [v13_7] (fun v14_8 w =>
 oM Tryz.prog (.fieldAddr 111 (.tmp 0) 0) 0 [v3_1] (fun v15_9 w =>
 oM Tryz.prog (.fieldAddr 35 (.tmp 0) 0) 0 [v15_9] (fun v16_10 w =>
 oM Tryz.prog (.fieldAddr 33 (.tmp 0) 1) 0 [v16_10] (fun v17_11 w =>
 oM Tryz.prog (.load 3 (.tmp 0)) 3 [v17_11] (fun v18_12 w =>
 callM Tryz.prog 16 #[v18_12, (l_5.getD 1 undef), v14_8] (fun v21_13 w =>
 oM Tryz.prog (.binOp .add 3 (.tmp 0) (.tmp 1) 3) 3 [(l_5.getD 2 undef), (.int .i64 1)] (fun v22_14 w =>
 J_3 [v14_8, v21_13, v22_14] w ∧ m_4 [v14_8, v21_13, v22_14] w < m_4 l_5 w0_l_5) w) w) w) w) w) w) w) w)
 (K (l_5.getD 1 undef) w)) w)) w0_l_5)) w) w
theorem sh_75_eq (a0 : Value) (a1 : Value) (a2 : Value) (K : Value → World → Prop) (w : World) : sh_75 a0 a1 a2 K w = code Tryz.prog (fun _ => 2) 24 (Tryz.f75.body.getD .skip) (slotsAt [a0, a1, a2]) (retK Tryz.prog [.tmp 6] K) w := by kernel_rfl
theorem sh_75_ok {a0 a1 a2 : Value} {K : Value → World → Prop} {w : World} (h : sh_75 a0 a1 a2 K w) : callM Tryz.prog 75 #[a0, a1, a2] K w :=
  calls_of_code (fun _ => 2) (fn := Tryz.f75) (rs := [.tmp 6]) Tryz.func75 rfl rfl (by kernel_rfl) (Nat.le_of_ble_eq_true rfl) ((sh_75_eq a0 a1 a2 K w).mp h)
def sh_76 (a0 : Value) (a1 : Value) (a2 : Value) (K : Value → World → Prop) (w : World) : Prop :=
 oM Tryz.prog (.box 111 (.tmp 0)) 0 [a0] (fun v3_1 w =>
 oM Tryz.prog (.fieldAddr 111 (.tmp 0) 0) 0 [v3_1] (fun v7_2 w =>
 oM Tryz.prog (.fieldAddr 35 (.tmp 0) 0) 0 [v7_2] (fun v8_3 w =>
 oM Tryz.prog (.load 33 (.tmp 0)) 33 [v8_3] (fun v9_4 w =>
 callM Tryz.prog 37 #[v9_4, a1, a2] (fun v12_5 w =>
 K v12_5 w) w) w) w) w) w
theorem sh_76_eq (a0 : Value) (a1 : Value) (a2 : Value) (K : Value → World → Prop) (w : World) : sh_76 a0 a1 a2 K w = code Tryz.prog (fun _ => 2) 13 (Tryz.f76.body.getD .skip) (slotsAt [a0, a1, a2]) (retK Tryz.prog [.tmp 6] K) w := by kernel_rfl
theorem sh_76_ok {a0 a1 a2 : Value} {K : Value → World → Prop} {w : World} (h : sh_76 a0 a1 a2 K w) : callM Tryz.prog 76 #[a0, a1, a2] K w :=
  calls_of_code (fun _ => 2) (fn := Tryz.f76) (rs := [.tmp 6]) Tryz.func76 rfl rfl (by kernel_rfl) (Nat.le_of_ble_eq_true rfl) ((sh_76_eq a0 a1 a2 K w).mp h)
def sh_77 (a0 : Value) (a1 : Value) (K : Value → World → Prop) (w : World) : Prop :=
 oM Tryz.prog (.box 111 (.tmp 0)) 0 [a0] (fun v2_1 w =>
 oM Tryz.prog (.load 111 (.tmp 0)) 111 [v2_1] (fun v5_2 w =>
 oM Tryz.prog (.fieldAddr 111 (.tmp 0) 0) 0 [v2_1] (fun v6_3 w =>
 oM Tryz.prog (.fieldAddr 35 (.tmp 0) 0) 0 [v6_3] (fun v7_4 w =>
 oM Tryz.prog (.fieldAddr 33 (.tmp 0) 2) 0 [v7_4] (fun v8_5 w =>
 oM Tryz.prog (.load 3 (.tmp 0)) 3 [v8_5] (fun v9_6 w =>
 callM Tryz.prog 76 #[v5_2, v9_6, a1] (fun v11_7 w =>
 K v11_7 w) w) w) w) w) w) w) w
theorem sh_77_eq (a0 : Value) (a1 : Value) (K : Value → World → Prop) (w : World) : sh_77 a0 a1 K w = code Tryz.prog (fun _ => 2) 12 (Tryz.f77.body.getD .skip) (slotsAt [a0, a1]) (retK Tryz.prog [.tmp 4] K) w := by kernel_rfl
theorem sh_77_ok {a0 a1 : Value} {K : Value → World → Prop} {w : World} (h : sh_77 a0 a1 K w) : callM Tryz.prog 77 #[a0, a1] K w :=
  calls_of_code (fun _ => 2) (fn := Tryz.f77) (rs := [.tmp 4]) Tryz.func77 rfl rfl (by kernel_rfl) (Nat.le_of_ble_eq_true rfl) ((sh_77_eq a0 a1 K w).mp h)
def sh_78 (a0 : Value) (K : Value → World → Prop) (w : World) : Prop :=
 oM Tryz.prog (.box 35 (.tmp 0)) 0 [a0] (fun v1_1 w =>
 oM Tryz.prog (.alloc 111) 0 [] (fun v2_2 w =>
 heldM w (fun C_3 w => (oH Tryz.prog (.load 35 (.tmp 0)) 35 [v1_1] C_3 (fun v4_4 =>
 oH Tryz.prog (.load 35 (.tmp 0)) 35 [v1_1] C_3 (fun v6_5 =>
 (oM Tryz.prog (.build 111 #[(0, (.tmp 0))]) 111 [v4_4] (fun v5_6 w => C_3 w ∧ (
 callM Tryz.prog 135 #[v6_5] (fun v7_7 w => C_3 w ∧ (
 oM Tryz.prog (.store 111 (.tmp 0) (.tmp 1)) 0 [v2_2, v5_6] (fun _ w => C_3 w ∧ (
 C_3 w ∧ (∃ r_9, (do loadVar 111 (← asAddr v2_2) : Sem Value).run Tryz.prog w = .ok r_9 w ∧ K (.tuple #[r_9, v7_7]) w))) w)) w)) w) ∧
 (callM Tryz.prog 135 #[v6_5] (fun v7_10 w => C_3 w ∧ (
 oM Tryz.prog (.build 111 #[(0, (.tmp 0))]) 111 [v4_4] (fun v5_11 w => C_3 w ∧ (
 oM Tryz.prog (.store 111 (.tmp 0) (.tmp 1)) 0 [v2_2, v5_11] (fun _ w => C_3 w ∧ (
 C_3 w ∧ (∃ r_13, (do loadVar 111 (← asAddr v2_2) : Sem Value).run Tryz.prog w = .ok r_13 w ∧ K (.tuple #[r_13, v7_10]) w))) w)) w)) w)))))) w) w
theorem sh_78_eq (a0 : Value) (K : Value → World → Prop) (w : World) : sh_78 a0 K w = code Tryz.prog (fun _ => .tree (.look 0 (.look 2 (.alt 1 (.only 3 (.only 4 (.only 5 (.done)))) (.only 3 (.only 1 (.only 4 (.only 5 (.done))))))))) 8 (Tryz.f78.body.getD .skip) (slotsAt [a0]) (retK Tryz.prog [.cell 2 111, .tmp 3] K) w := by kernel_rfl
theorem sh_78_ok {a0 : Value} {K : Value → World → Prop} {w : World} (h : sh_78 a0 K w) : callM Tryz.prog 78 #[a0] K w :=
  calls_of_code (fun _ => .tree (.look 0 (.look 2 (.alt 1 (.only 3 (.only 4 (.only 5 (.done)))) (.only 3 (.only 1 (.only 4 (.only 5 (.done))))))))) (fn := Tryz.f78) (rs := [.cell 2 111, .tmp 3]) Tryz.func78 rfl rfl (by kernel_rfl) (Nat.le_of_ble_eq_true rfl) ((sh_78_eq a0 K w).mp h)
def sh_95 (a0 : Value) (a1 : Value) (K : Value → World → Prop) (w : World) : Prop :=
 oM Tryz.prog (.box 35 (.tmp 0)) 0 [a0] (fun v2_1 w =>
 oM Tryz.prog (.alloc 111) 0 [] (fun v4_2 w =>
 oM Tryz.prog (.load 35 (.tmp 0)) 35 [v2_1] (fun v10_3 w =>
 callM Tryz.prog 78 #[v10_3] (fun v11_4 w =>
 oM Tryz.prog (.extract (.tmp 0) 0) 111 [v11_4] (fun v12_5 w =>
 oM Tryz.prog (.extract (.tmp 0) 1) 4 [v11_4] (fun v13_6 w =>
 oM Tryz.prog (.alloc 111) 0 [] (fun v7_7 w =>
 oM Tryz.prog (.store 111 (.tmp 0) (.tmp 1)) 0 [v7_7, v12_5] (fun _ w =>
 oM Tryz.prog (.unOp .not 4 (.tmp 0)) 4 [v13_6] (fun v15_8 w =>
 gdM (gd v15_8 false) (pureM a1) (fun v17_9 w =>
 gdM (gd v15_8 false) (oM Tryz.prog (.call (Go.Call.mk (.builtin .len) #[(.tmp 0)] #[22])) 3 [v17_9]) (fun v18_10 w =>
 gdM (gd v15_8 false) (oM Tryz.prog (.fieldAddr 35 (.tmp 0) 1) 0 [v2_1]) (fun v19_11 w =>
 gdM (gd v15_8 false) (oM Tryz.prog (.load 22 (.tmp 0)) 22 [v19_11]) (fun v20_12 w =>
 gdM (gd v15_8 false) (oM Tryz.prog (.call (Go.Call.mk (.builtin .len) #[(.tmp 0)] #[22])) 3 [v20_12]) (fun v21_13 w =>
 gdM (gd v15_8 false) (oM Tryz.prog (.binOp .sub 3 (.tmp 0) (.tmp 1) 3) 3 [v21_13, (.int .i64 1)]) (fun v22_14 w =>
 gdM (gd v15_8 false) (oM Tryz.prog (.binOp .neq 3 (.tmp 0) (.tmp 1) 3) 4 [v18_10, v22_14]) (fun v23_15 w =>
 oM Tryz.prog (.pick (.tmp 0) (.tmp 1) (.tmp 2)) 4 [v15_8, (.bool true), v23_15] (fun v24_16 w =>
 gdM (gd v24_16 false) (oM Tryz.prog (.load 111 (.tmp 0)) 111 [v7_7]) (fun v26_17 w =>
 gdM (gd v24_16 false) (pureM a1) (fun v27_18 w =>
 gdM (gd v24_16 false) (callM Tryz.prog 72 #[v26_17, (.int .i64 0), v27_18]) (fun v28_19 w =>
 gdM (gd v24_16 false) (oM Tryz.prog (.unOp .not 4 (.tmp 0)) 4 [v28_19]) (fun v29_20 w =>
 oM Tryz.prog (.pick (.tmp 0) (.tmp 1) (.tmp 2)) 4 [v24_16, (.bool true), v29_20] (fun v30_21 w =>
 gdM (gd v30_21 false) (pureM a1) (fun v32_22 w =>
 gdM (gd v30_21 false) (oM Tryz.prog (.indexAddr 22 (.tmp 0) (.tmp 1)) 0 [v32_22, (.int .i64 0)]) (fun v33_23 w =>
 gdM (gd v30_21 false) (oM Tryz.prog (.load 3 (.tmp 0)) 3 [v33_23]) (fun v34_24 w =>
 gdM (gd v30_21 false) (oM Tryz.prog (.binOp .eql 3 (.tmp 0) (.const (.int .i64 0)) 3) 4 [v34_24]) (fun v35_25 w =>
 oM Tryz.prog (.pick (.tmp 0) (.tmp 1) (.tmp 2)) 4 [v30_21, (.bool true), v35_25] (fun v36_26 w =>
 condM v36_26
 (oM Tryz.prog (.load 111 (.tmp 0)) 111 [v7_7] (fun v37_27 w =>
 oM Tryz.prog (.store 111 (.tmp 0) (.tmp 1)) 0 [v4_2, v37_27] (fun _ w =>
 ∃ r_28, (do loadVar 111 (← asAddr v4_2) : Sem Value).run Tryz.prog w = .ok r_28 w ∧ K (.tuple #[r_28, (.int .i64 0), (.bool false)]) w) w) w)
 (heldM w (fun C_29 w => (oH Tryz.prog (.load 111 (.tmp 0)) 111 [v7_7] C_29 (fun v38_30 =>
 oH Tryz.prog (.load 111 (.tmp 0)) 111 [v7_7] C_29 (fun v39_31 =>
 pureH a1 C_29 (fun v40_32 =>
 callM Tryz.prog 73 #[v40_32] (fun v41_33 w => C_29 w ∧ (
 callM Tryz.prog 126 #[v39_31, v41_33] (fun v42_34 w => C_29 w ∧ (
 oM Tryz.prog (.store 111 (.tmp 0) (.tmp 1)) 0 [v4_2, v38_30] (fun _ w => C_29 w ∧ (
 C_29 w ∧ (C_29 w ∧ (∃ r_37, (do loadVar 111 (← asAddr v4_2) : Sem Value).run Tryz.prog w = .ok r_37 w ∧ K (.tuple #[r_37, v42_34, (.bool true)]) w)))) w)) w)) w))))))) w) w) w) w) w) w) w) w) w) w) w) w) w) w) w) w) w) w) w) w) w) w) w) w) w) w) w
theorem sh_95_eq (a0 : Value) (a1 : Value) (K : Value → World → Prop) (w : World) : sh_95 a0 a1 K w = code Tryz.prog (fun _ => 2) 43 (Tryz.f95.body.getD .skip) (slotsAt [a0, a1]) (retK Tryz.prog [.cell 4 111, .tmp 5, .tmp 6] K) w := by kernel_rfl
theorem sh_95_ok {a0 a1 : Value} {K : Value → World → Prop} {w : World} (h : sh_95 a0 a1 K w) : callM Tryz.prog 95 #[a0, a1] K w :=
  calls_of_code (fun _ => 2) (fn := Tryz.f95) (rs := [.cell 4 111, .tmp 5, .tmp 6]) Tryz.func95 rfl rfl (by kernel_rfl) (Nat.le_of_ble_eq_true rfl) ((sh_95_eq a0 a1 K w).mp h)
def sh_105 (a0 : Value) (a1 : Value) (a2 : Value) (K : Value → World → Prop) (w : World) : Prop :=
 oM Tryz.prog (.box 111 (.tmp 0)) 0 [a0] (fun v3_1 w =>
 heldM w (fun C_2 w => (oH Tryz.prog (.load 111 (.tmp 0)) 111 [v3_1] C_2 (fun v7_3 =>
 pureH a1 C_2 (fun v8_4 =>
 oH Tryz.prog (.fieldAddr 111 (.tmp 0) 0) 0 [v3_1] C_2 (fun v9_5 =>
 oH Tryz.prog (.fieldAddr 35 (.tmp 0) 0) 0 [v9_5] C_2 (fun v10_6 =>
 oH Tryz.prog (.fieldAddr 33 (.tmp 0) 1) 0 [v10_6] C_2 (fun v11_7 =>
 oH Tryz.prog (.load 3 (.tmp 0)) 3 [v11_7] C_2 (fun v12_8 =>
 pureH a2 C_2 (fun v13_9 =>
 callM Tryz.prog 134 #[v12_8, v13_9, (.int .i64 (-1))] (fun v14_10 w => C_2 w ∧ (
 oM Tryz.prog (.buildSlice 22 1 #[(0, (.tmp 0))]) 22 [v14_10] (fun v15_11 w => C_2 w ∧ (
 callM Tryz.prog 75 #[v7_3, v8_4, v15_11] (fun v16_12 w => C_2 w ∧ (
 C_2 w ∧ (K v16_12 w))) w)) w)) w)))))))))) w
theorem sh_105_eq (a0 : Value) (a1 : Value) (a2 : Value) (K : Value → World → Prop) (w : World) : sh_105 a0 a1 a2 K w = code Tryz.prog (fun _ => 2) 17 (Tryz.f105.body.getD .skip) (slotsAt [a0, a1, a2]) (retK Tryz.prog [.tmp 6] K) w := by kernel_rfl
theorem sh_105_ok {a0 a1 a2 : Value} {K : Value → World → Prop} {w : World} (h : sh_105 a0 a1 a2 K w) : callM Tryz.prog 105 #[a0, a1, a2] K w :=
  calls_of_code (fun _ => 2) (fn := Tryz.f105) (rs := [.tmp 6]) Tryz.func105 rfl rfl (by kernel_rfl) (Nat.le_of_ble_eq_true rfl) ((sh_105_eq a0 a1 a2 K w).mp h)
def sh_113 (a0 : Value) (a1 : Value) (K : Value → World → Prop) (w : World) : Prop :=
 callM Tryz.prog 160 #[a0, a1] (fun v7_1 w =>
 oM Tryz.prog (.binOp .geq 3 (.tmp 0) (.tmp 1) 3) 4 [v7_1, (.int .i64 0)] (fun v8_2 w =>
 K v8_2 w) w) w
theorem sh_113_eq (a0 : Value) (a1 : Value) (K : Value → World → Prop) (w : World) : sh_113 a0 a1 K w = code Tryz.prog (fun _ => 0) 9 (Tryz.f113.body.getD .skip) (slotsAt [a0, a1]) (retK Tryz.prog [.tmp 4] K) w := by kernel_rfl
theorem sh_113_ok {a0 a1 : Value} {K : Value → World → Prop} {w : World} (h : sh_113 a0 a1 K w) : callM Tryz.prog 113 #[a0, a1] K w :=
  calls_of_code (fun _ => 0) (fn := Tryz.f113) (rs := [.tmp 4]) Tryz.func113 rfl rfl (by kernel_rfl) (Nat.le_of_ble_eq_true rfl) ((sh_113_eq a0 a1 K w).mp h)
def sh_125 (a0 : Value) (a1 : Value) (K : Value → World → Prop) (w : World) : Prop :=
 oM Tryz.prog (.box 111 (.tmp 0)) 0 [a0] (fun v2_1 w =>
 oM Tryz.prog (.binOp .neq 3 (.tmp 0) (.const (.int .i64 1)) 3) 4 [a1] (fun v6_2 w =>
 gdM (gd v6_2 true) (oM Tryz.prog (.load 111 (.tmp 0)) 111 [v2_1]) (fun v8_3 w =>
 gdM (gd v6_2 true) (pureM a1) (fun v9_4 w =>
 gdM (gd v6_2 true) (oM Tryz.prog (.buildSlice 22 1 #[(0, (.tmp 0))]) 22 [v9_4]) (fun v10_5 w =>
 gdM (gd v6_2 true) (callM Tryz.prog 146 #[v8_3, v10_5]) (fun v11_6 w =>
 oM Tryz.prog (.pick (.tmp 0) (.tmp 1) (.tmp 2)) 4 [v6_2, v11_6, (.bool false)] (fun v12_7 w =>
 K v12_7 w) w) w) w) w) w) w) w
theorem sh_125_eq (a0 : Value) (a1 : Value) (K : Value → World → Prop) (w : World) : sh_125 a0 a1 K w = code Tryz.prog (fun _ => 2) 13 (Tryz.f125.body.getD .skip) (slotsAt [a0, a1]) (retK Tryz.prog [.tmp 4] K) w := by kernel_rfl
theorem sh_125_ok {a0 a1 : Value} {K : Value → World → Prop} {w : World} (h : sh_125 a0 a1 K w) : callM Tryz.prog 125 #[a0, a1] K w :=
  calls_of_code (fun _ => 2) (fn := Tryz.f125) (rs := [.tmp 4]) Tryz.func125 rfl rfl (by kernel_rfl) (Nat.le_of_ble_eq_true rfl) ((sh_125_eq a0 a1 K w).mp h)
def sh_126 (a0 : Value) (a1 : Value) (K : Value → World → Prop) (w : World) : Prop :=
 oM Tryz.prog (.box 111 (.tmp 0)) 0 [a0] (fun v2_1 w =>
 oM Tryz.prog (.fieldAddr 111 (.tmp 0) 0) 0 [v2_1] (fun v8_2 w =>
 oM Tryz.prog (.fieldAddr 35 (.tmp 0) 0) 0 [v8_2] (fun v9_3 w =>
 oM Tryz.prog (.load 33 (.tmp 0)) 33 [v9_3] (fun v10_4 w =>
 oM Tryz.prog (.fieldAddr 111 (.tmp 0) 0) 0 [v2_1] (fun v11_5 w =>
 oM Tryz.prog (.fieldAddr 35 (.tmp 0) 1) 0 [v11_5] (fun v12_6 w =>
 oM Tryz.prog (.load 22 (.tmp 0)) 22 [v12_6] (fun v13_7 w =>
 callM Tryz.prog 38 #[v10_4, v13_7, a1] (fun v15_8 w =>
 oM Tryz.prog (.extract (.tmp 0) 0) 3 [v15_8] (fun v16_9 w =>
 oM Tryz.prog (.extract (.tmp 0) 1) 4 [v15_8] (fun v17_10 w =>
 K v16_9 w) w) w) w) w) w) w) w) w) w) w
theorem sh_126_eq (a0 : Value) (a1 : Value) (K : Value → World → Prop) (w : World) : sh_126 a0 a1 K w = code Tryz.prog (fun _ => 2) 19 (Tryz.f126.body.getD .skip) (slotsAt [a0, a1]) (retK Tryz.prog [.tmp 4] K) w := by kernel_rfl
theorem sh_126_ok {a0 a1 : Value} {K : Value → World → Prop} {w : World} (h : sh_126 a0 a1 K w) : callM Tryz.prog 126 #[a0, a1] K w :=
  calls_of_code (fun _ => 2) (fn := Tryz.f126) (rs := [.tmp 4]) Tryz.func126 rfl rfl (by kernel_rfl) (Nat.le_of_ble_eq_true rfl) ((sh_126_eq a0 a1 K w).mp h)
def sh_127 (a0 : Value) (a1 : Value) (a2 : Value) (K : Value → World → Prop) (w : World) : Prop :=
 oM Tryz.prog (.box 111 (.tmp 0)) 0 [a0] (fun v3_1 w =>
 oM Tryz.prog (.call (Go.Call.mk (.builtin .len) #[(.tmp 0)] #[22])) 3 [a2] (fun v10_2 w =>
 loopM [undef, a1, (.int .i64 0)] w (fun J_3 m_4 l_5 u_l_5 w0_l_5 => (fun w => (
 oM Tryz.prog (.binOp .lss 3 (.tmp 0) (.tmp 1) 3) 0 [(l_5.getD 2 undef), v10_2] (fun v12_6 w =>
 condM v12_6
 (oM Tryz.prog (.indexAddr 22 (.tmp 0) (.tmp 1)) 0 [a2, (l_5.getD 2 undef)] (fun v13_7 w =>
 oM Tryz.prog (.load 3 (.tmp 0)) 3 [v13_7] (fun v14_8 w =>
 oM Tryz.prog (.fieldAddr 111 (.tmp 0) 0) 0 [v3_1] (fun v15_9 w =>
 oM Tryz.prog (.fieldAddr 35 (.tmp 0) 0) 0 [v15_9] (fun v16_10 w =>
 oM Tryz.prog (.load 33 (.tmp 0)) 33 [v16_10] (fun v17_11 w =>
 callM Tryz.prog 168 #[v17_11, (l_5.getD 1 undef), v14_8] (fun v20_12 w =>
 oM Tryz.prog (.binOp .add 3 (.tmp 0) (.tmp 1) 3) 3 [(l_5.getD 2 undef), (.int .i64 1)] (fun v21_13 w =>
 J_3 [v14_8, v20_12, v21_13] w ∧ m_4 [v14_8, v20_12, v21_13] w < m_4 l_5 w0_l_5) w) w) w) w) w) w) w)
 (K (l_5.getD 1 undef) w)) w)) w0_l_5)) w) w
theorem sh_127_eq (a0 : Value) (a1 : Value) (a2 : Value) (K : Value → World → Prop) (w : World) : sh_127 a0 a1 a2 K w = code Tryz.prog (fun _ => 2) 23 (Tryz.f127.body.getD .skip) (slotsAt [a0, a1, a2]) (retK Tryz.prog [.tmp 6] K) w := by kernel_rfl
theorem sh_127_ok {a0 a1 a2 : Value} {K : Value → World → Prop} {w : World} (h : sh_127 a0 a1 a2 K w) : callM Tryz.prog 127 #[a0, a1, a2] K w :=
  calls_of_code (fun _ => 2) (fn := Tryz.f127) (rs := [.tmp 6]) Tryz.func127 rfl rfl (by kernel_rfl) (Nat.le_of_ble_eq_true rfl) ((sh_127_eq a0 a1 a2 K w).mp h)
def sh_135 (a0 : Value) (K : Value → World → Prop) (w : World) : Prop :=
 oM Tryz.prog (.box 35 (.tmp 0)) 0 [a0] (fun v1_1 w =>
 oM Tryz.prog (.fieldAddr 35 (.tmp 0) 0) 0 [v1_1] (fun v6_2 w =>
 oM Tryz.prog (.load 33 (.tmp 0)) 33 [v6_2] (fun v7_3 w =>
 callM Tryz.prog 138 #[v7_3] (fun v8_4 w =>
 oM Tryz.prog (.unOp .not 4 (.tmp 0)) 4 [v8_4] (fun v9_5 w =>
 gdM (gd v9_5 false) (oM Tryz.prog (.fieldAddr 35 (.tmp 0) 1) 0 [v1_1]) (fun v11_6 w =>
 gdM (gd v9_5 false) (oM Tryz.prog (.load 22 (.tmp 0)) 22 [v11_6]) (fun v12_7 w =>
 gdM (gd v9_5 false) (oM Tryz.prog (.call (Go.Call.mk (.builtin .len) #[(.tmp 0)] #[22])) 3 [v12_7]) (fun v13_8 w =>
 gdM (gd v9_5 false) (oM Tryz.prog (.binOp .lss 3 (.tmp 0) (.tmp 1) 3) 4 [v13_8, (.int .i64 2)]) (fun v14_9 w =>
 oM Tryz.prog (.pick (.tmp 0) (.tmp 1) (.tmp 2)) 4 [v9_5, (.bool true), v14_9] (fun v15_10 w =>
 gdM (gd v15_10 false) (oM Tryz.prog (.fieldAddr 35 (.tmp 0) 1) 0 [v1_1]) (fun v17_11 w =>
 gdM (gd v15_10 false) (oM Tryz.prog (.load 22 (.tmp 0)) 22 [v17_11]) (fun v18_12 w =>
 gdM (gd v15_10 false) (oM Tryz.prog (.call (Go.Call.mk (.builtin .len) #[(.tmp 0)] #[22])) 3 [v18_12]) (fun v19_13 w =>
 gdM (gd v15_10 false) (oM Tryz.prog (.binOp .gtr 3 (.tmp 0) (.tmp 1) 3) 4 [v19_13, (.int .i64 7)]) (fun v20_14 w =>
 oM Tryz.prog (.pick (.tmp 0) (.tmp 1) (.tmp 2)) 4 [v15_10, (.bool true), v20_14] (fun v21_15 w =>
 condM v21_15
 (K (.bool false) w)
 (oM Tryz.prog (.makeFunc (Go.Fn.func 175) #[] #[(.tmp 0)]) 122 [v1_1] (fun v22_16 w =>
 oM Tryz.prog (.fieldAddr 35 (.tmp 0) 1) 0 [v1_1] (fun v23_17 w =>
 oM Tryz.prog (.load 22 (.tmp 0)) 22 [v23_17] (fun v24_18 w =>
 oM Tryz.prog (.call (Go.Call.mk (.builtin .len) #[(.tmp 0)] #[22])) 3 [v24_18] (fun v25_19 w =>
 loopM [undef, (.bool false), (.int .i64 0)] w (fun J_20 m_21 l_22 u_l_22 w0_l_22 => (fun w => (
 oM Tryz.prog (.binOp .lss 3 (.tmp 0) (.tmp 1) 3) 0 [(l_22.getD 2 undef), v25_19] (fun v27_23 w =>
 condM v27_23
 (oM Tryz.prog (.indexAddr 22 (.tmp 0) (.tmp 1)) 0 [v24_18, (l_22.getD 2 undef)] (fun v28_24 w =>
 oM Tryz.prog (.load 3 (.tmp 0)) 3 [v28_24] (fun v29_25 w =>
 oM Tryz.prog (.call (Go.Call.mk (.value (.tmp 0)) #[(.tmp 1)] #[3])) 4 [v22_16, v29_25] (fun v32_26 w =>
 oM Tryz.prog (.unOp .not 4 (.tmp 0)) 4 [v32_26] (fun v33_27 w =>
 condM v33_27
 (K (.bool false) w)
 (oM Tryz.prog (.binOp .add 3 (.tmp 0) (.tmp 1) 3) 3 [(l_22.getD 2 undef), (.int .i64 1)] (fun v34_28 w =>
 J_20 [v29_25, (l_22.getD 1 undef), v34_28] w ∧ m_21 [v29_25, (l_22.getD 1 undef), v34_28] w < m_21 l_22 w0_l_22) w)) w) w) w) w)
 (oM Tryz.prog (.fieldAddr 35 (.tmp 0) 2) 0 [v1_1] (fun v36_29 w =>
 oM Tryz.prog (.load 3 (.tmp 0)) 3 [v36_29] (fun v37_30 w =>
 oM Tryz.prog (.call (Go.Call.mk (.value (.tmp 0)) #[(.tmp 1)] #[3])) 4 [v22_16, v37_30] (fun v38_31 w =>
 K v38_31 w) w) w) w)) w)) w0_l_22)) w) w) w) w)) w) w) w) w) w) w) w) w) w) w) w) w) w) w) w
theorem sh_135_eq (a0 : Value) (K : Value → World → Prop) (w : World) : sh_135 a0 K w = code Tryz.prog (fun _ => 0) 39 (Tryz.f135.body.getD .skip) (slotsAt [a0]) (retK Tryz.prog [.tmp 2] K) w := by kernel_rfl
theorem sh_135_ok {a0 : Value} {K : Value → World → Prop} {w : World} (h : sh_135 a0 K w) : callM Tryz.prog 135 #[a0] K w :=
  calls_of_code (fun _ => 0) (fn := Tryz.f135) (rs := [.tmp 2]) Tryz.func135 rfl rfl (by kernel_rfl) (Nat.le_of_ble_eq_true rfl) ((sh_135_eq a0 K w).mp h)
def sh_140 (a0 : Value) (a1 : Value) (a2 : Value) (K : Value → World → Prop) (w : World) : Prop :=
 oM Tryz.prog (.load 3 (.tmp 0)) 3 [a1] (fun v6_1 w =>
 oM Tryz.prog (.binOp .lss 3 (.tmp 0) (.tmp 1) 3) 4 [a0, v6_1] (fun v7_2 w =>
 gdM (gd v7_2 false) (pureM a0) (fun v9_3 w =>
 gdM (gd v7_2 false) (oM Tryz.prog (.fieldAddr 111 (.tmp 0) 0) 0 [a2]) (fun v10_4 w =>
 gdM (gd v7_2 false) (oM Tryz.prog (.fieldAddr 35 (.tmp 0) 0) 0 [v10_4]) (fun v11_5 w =>
 gdM (gd v7_2 false) (oM Tryz.prog (.fieldAddr 33 (.tmp 0) 1) 0 [v11_5]) (fun v12_6 w =>
 gdM (gd v7_2 false) (oM Tryz.prog (.load 3 (.tmp 0)) 3 [v12_6]) (fun v13_7 w =>
 gdM (gd v7_2 false) (oM Tryz.prog (.binOp .geq 3 (.tmp 0) (.tmp 1) 3) 4 [v9_3, v13_7]) (fun v14_8 w =>
 oM Tryz.prog (.pick (.tmp 0) (.tmp 1) (.tmp 2)) 4 [v7_2, (.bool true), v14_8] (fun v15_9 w =>
 K v15_9 w) w) w) w) w) w) w) w) w) w
theorem sh_140_eq (a0 : Value) (a1 : Value) (a2 : Value) (K : Value → World → Prop) (w : World) : sh_140 a0 a1 a2 K w = code Tryz.prog (fun _ => 0) 16 (Tryz.f140.body.getD .skip) (slotsAt [a0, a1, a2]) (retK Tryz.prog [.tmp 4] K) w := by kernel_rfl
theorem sh_140_ok {a0 a1 a2 : Value} {K : Value → World → Prop} {w : World} (h : sh_140 a0 a1 a2 K w) : callM Tryz.prog 140 #[a0, a1, a2] K w :=
  calls_of_code (fun _ => 0) (fn := Tryz.f140) (rs := [.tmp 4]) Tryz.func140 rfl rfl (by kernel_rfl) (Nat.le_of_ble_eq_true rfl) ((sh_140_eq a0 a1 a2 K w).mp h)
def sh_142 (a0 : Value) (K : Value → World → Prop) (w : World) : Prop :=
 oM Tryz.prog (.binOp .eql 22 (.tmp 0) (.const (.slice none 0 0)) 22) 4 [a0] (fun v4_1 w =>
 condM v4_1
 (K (.slice none 0 0) w)
 (oM Tryz.prog (.buildSlice 22 0 #[]) 22 [] (fun v5_2 w =>
 oM Tryz.prog (.call (Go.Call.mk (.builtin .append) #[(.tmp 0), (.tmp 1)] #[22, 22])) 22 [v5_2, a0] (fun v7_3 w =>
 K v7_3 w) w) w)) w
theorem sh_142_eq (a0 : Value) (K : Value → World → Prop) (w : World) : sh_142 a0 K w = code Tryz.prog (fun _ => 2) 8 (Tryz.f142.body.getD .skip) (slotsAt [a0]) (retK Tryz.prog [.tmp 2] K) w := by kernel_rfl
theorem sh_142_ok {a0 : Value} {K : Value → World → Prop} {w : World} (h : sh_142 a0 K w) : callM Tryz.prog 142 #[a0] K w :=
  calls_of_code (fun _ => 2) (fn := Tryz.f142) (rs := [.tmp 2]) Tryz.func142 rfl rfl (by kernel_rfl) (Nat.le_of_ble_eq_true rfl) ((sh_142_eq a0 K w).mp h)
def sh_146 (a0 : Value) (a1 : Value) (K : Value → World → Prop) (w : World) : Prop :=
 oM Tryz.prog (.box 111 (.tmp 0)) 0 [a0] (fun v2_1 w =>
 oM Tryz.prog (.makeFunc (Go.Fn.func 185) #[] #[(.tmp 0)]) 122 [v2_1] (fun v6_2 w =>
 callM Tryz.prog 113 #[a1, v6_2] (fun v7_3 w =>
 oM Tryz.prog (.unOp .not 4 (.tmp 0)) 4 [v7_3] (fun v8_4 w =>
 K v8_4 w) w) w) w) w
theorem sh_146_eq (a0 : Value) (a1 : Value) (K : Value → World → Prop) (w : World) : sh_146 a0 a1 K w = code Tryz.prog (fun _ => 0) 9 (Tryz.f146.body.getD .skip) (slotsAt [a0, a1]) (retK Tryz.prog [.tmp 4] K) w := by kernel_rfl
theorem sh_146_ok {a0 a1 : Value} {K : Value → World → Prop} {w : World} (h : sh_146 a0 a1 K w) : callM Tryz.prog 146 #[a0, a1] K w :=
  calls_of_code (fun _ => 0) (fn := Tryz.f146) (rs := [.tmp 4]) Tryz.func146 rfl rfl (by kernel_rfl) (Nat.le_of_ble_eq_true rfl) ((sh_146_eq a0 a1 K w).mp h)
def sh_160 (a0 : Value) (a1 : Value) (K : Value → World → Prop) (w : World) : Prop :=
 oM Tryz.prog (.call (Go.Call.mk (.builtin .len) #[(.tmp 0)] #[22])) 3 [a0] (fun v7_1 w =>
 loopM [undef, (.int .i64 0), (.int .i64 0)] w (fun J_2 m_3 l_4 u_l_4 w0_l_4 => (fun w => (
 oM Tryz.prog (.binOp .lss 3 (.tmp 0) (.tmp 1) 3) 0 [(l_4.getD 2 undef), v7_1] (fun v9_5 w =>
 condM v9_5
 (oM Tryz.prog (.indexAddr 22 (.tmp 0) (.tmp 1)) 0 [a0, (l_4.getD 2 undef)] (fun v14_6 w =>
 oM Tryz.prog (.load 3 (.tmp 0)) 3 [v14_6] (fun v15_7 w =>
 oM Tryz.prog (.call (Go.Call.mk (.value (.tmp 0)) #[(.tmp 1)] #[3])) 4 [a1, v15_7] (fun v16_8 w =>
 condM v16_8
 (K (l_4.getD 2 undef) w)
 (oM Tryz.prog (.binOp .add 3 (.tmp 0) (.tmp 1) 3) 3 [(l_4.getD 2 undef), (.int .i64 1)] (fun v18_9 w =>
 J_2 [(l_4.getD 2 undef), (l_4.getD 1 undef), v18_9] w ∧ m_3 [(l_4.getD 2 undef), (l_4.getD 1 undef), v18_9] w < m_3 l_4 w0_l_4) w)) w) w) w)
 (K (.int .i64 (-1)) w)) w)) w0_l_4)) w
theorem sh_160_eq (a0 : Value) (a1 : Value) (K : Value → World → Prop) (w : World) : sh_160 a0 a1 K w = code Tryz.prog (fun _ => 0) 19 (Tryz.f160.body.getD .skip) (slotsAt [a0, a1]) (retK Tryz.prog [.tmp 4] K) w := by kernel_rfl
theorem sh_160_ok {a0 a1 : Value} {K : Value → World → Prop} {w : World} (h : sh_160 a0 a1 K w) : callM Tryz.prog 160 #[a0, a1] K w :=
  calls_of_code (fun _ => 0) (fn := Tryz.f160) (rs := [.tmp 4]) Tryz.func160 rfl rfl (by kernel_rfl) (Nat.le_of_ble_eq_true rfl) ((sh_160_eq a0 a1 K w).mp h)
def sh_175 (a0 : Value) (a1 : Value) (K : Value → World → Prop) (w : World) : Prop :=
 oM Tryz.prog (.binOp .neq 3 (.tmp 0) (.const (.int .i64 1)) 3) 4 [a0] (fun v5_1 w =>
 gdM (gd v5_1 true) (oM Tryz.prog (.fieldAddr 35 (.tmp 0) 0) 0 [a1]) (fun v7_2 w =>
 gdM (gd v5_1 true) (oM Tryz.prog (.load 33 (.tmp 0)) 33 [v7_2]) (fun v8_3 w =>
 gdM (gd v5_1 true) (pureM a0) (fun v9_4 w =>
 gdM (gd v5_1 true) (callM Tryz.prog 176 #[v8_3, v9_4]) (fun v10_5 w =>
 oM Tryz.prog (.pick (.tmp 0) (.tmp 1) (.tmp 2)) 4 [v5_1, v10_5, (.bool false)] (fun v11_6 w =>
 K v11_6 w) w) w) w) w) w) w
theorem sh_175_eq (a0 : Value) (a1 : Value) (K : Value → World → Prop) (w : World) : sh_175 a0 a1 K w = code Tryz.prog (fun _ => 0) 12 (Tryz.f175.body.getD .skip) (slotsAt [a0, a1]) (retK Tryz.prog [.tmp 3] K) w := by kernel_rfl
theorem sh_175_ok {a0 a1 : Value} {K : Value → World → Prop} {w : World} (h : sh_175 a0 a1 K w) : callM Tryz.prog 175 #[a0, a1] K w :=
  calls_of_code (fun _ => 0) (fn := Tryz.f175) (rs := [.tmp 3]) Tryz.func175 rfl rfl (by kernel_rfl) (Nat.le_of_ble_eq_true rfl) ((sh_175_eq a0 a1 K w).mp h)
def sh_185 (a0 : Value) (a1 : Value) (K : Value → World → Prop) (w : World) : Prop :=
 oM Tryz.prog (.fieldAddr 111 (.tmp 0) 0) 0 [a1] (fun v4_1 w =>
 oM Tryz.prog (.fieldAddr 35 (.tmp 0) 0) 0 [v4_1] (fun v5_2 w =>
 oM Tryz.prog (.load 33 (.tmp 0)) 33 [v5_2] (fun v6_3 w =>
 callM Tryz.prog 176 #[v6_3, a0] (fun v8_4 w =>
 oM Tryz.prog (.unOp .not 4 (.tmp 0)) 4 [v8_4] (fun v9_5 w =>
 K v9_5 w) w) w) w) w) w
theorem sh_185_eq (a0 : Value) (a1 : Value) (K : Value → World → Prop) (w : World) : sh_185 a0 a1 K w = code Tryz.prog (fun _ => 0) 10 (Tryz.f185.body.getD .skip) (slotsAt [a0, a1]) (retK Tryz.prog [.tmp 3] K) w := by kernel_rfl
theorem sh_185_ok {a0 a1 : Value} {K : Value → World → Prop} {w : World} (h : sh_185 a0 a1 K w) : callM Tryz.prog 185 #[a0, a1] K w :=
  calls_of_code (fun _ => 0) (fn := Tryz.f185) (rs := [.tmp 3]) Tryz.func185 rfl rfl (by kernel_rfl) (Nat.le_of_ble_eq_true rfl) ((sh_185_eq a0 a1 K w).mp h)
def sh_59 (a0 : Value) (a1 : Value) (K : Value → World → Prop) (w : World) : Prop :=
 oM Tryz.prog (.call (Go.Call.mk (.builtin .len) #[(.tmp 0)] #[22])) 3 [a0] (fun v7_1 w =>
 oM Tryz.prog (.call (Go.Call.mk (.builtin .len) #[(.tmp 0)] #[22])) 3 [a1] (fun v9_2 w =>
 oM Tryz.prog (.binOp .neq 3 (.tmp 0) (.tmp 1) 3) 4 [v7_1, v9_2] (fun v10_3 w =>
 condM v10_3
 (K (.bool false) w)
 (loopM [(.bool false), (.int .i64 0)] w (fun J_4 m_5 l_6 u_l_6 w0_l_6 => (fun w => (
 oM Tryz.prog (.call (Go.Call.mk (.builtin .len) #[(.tmp 0)] #[22])) 3 [a0] (fun v13_7 w =>
 oM Tryz.prog (.binOp .lss 3 (.tmp 0) (.tmp 1) 3) 4 [(l_6.getD 1 undef), v13_7] (fun v14_8 w =>
 condM v14_8
 (quietM w (fun C_9 => (oQ Tryz.prog (.indexAddr 22 (.tmp 0) (.tmp 1)) 0 [a0, (l_6.getD 1 undef)] C_9 (fun v19_10 =>
 oQ Tryz.prog (.load 3 (.tmp 0)) 3 [v19_10] C_9 (fun v20_11 =>
 oQ Tryz.prog (.indexAddr 22 (.tmp 0) (.tmp 1)) 0 [a1, (l_6.getD 1 undef)] C_9 (fun v23_12 =>
 oQ Tryz.prog (.load 3 (.tmp 0)) 3 [v23_12] C_9 (fun v24_13 =>
 oQ Tryz.prog (.binOp .neq 3 (.tmp 0) (.tmp 1) 3) 4 [v20_11, v24_13] C_9 (fun v25_14 =>
 ∀ w, C_9 w → (condM v25_14
 (K (.bool false) w)
 (oM Tryz.prog (.binOp .add 3 (.tmp 0) (.tmp 1) 3) 3 [(l_6.getD 1 undef), (.int .i64 1)] (fun v16_15 w =>
 J_4 [(l_6.getD 0 undef), v16_15] w ∧ m_5 [(l_6.getD 0 undef), v16_15] w < m_5 l_6 w0_l_6) w))))))))))
 (K (.bool true) w)) w) w)) w0_l_6))) w) w) w
theorem sh_59_eq (a0 : Value) (a1 : Value) (K : Value → World → Prop) (w : World) : sh_59 a0 a1 K w = code Tryz.prog (fun _ => 0) 26 (Tryz.f59.body.getD .skip) (slotsAt [a0, a1]) (retK Tryz.prog [.tmp 4] K) w := by kernel_rfl
theorem sh_59_ok {a0 a1 : Value} {K : Value → World → Prop} {w : World} (h : sh_59 a0 a1 K w) : callM Tryz.prog 59 #[a0, a1] K w :=
  calls_of_code (fun _ => 0) (fn := Tryz.f59) (rs := [.tmp 4]) Tryz.func59 rfl rfl (by kernel_rfl) (Nat.le_of_ble_eq_true rfl) ((sh_59_eq a0 a1 K w).mp h)
def sh_107 (a0 : Value) (a1 : Value) (K : Value → World → Prop) (w : World) : Prop :=
 oM Tryz.prog (.box 111 (.tmp 0)) 0 [a0] (fun v2_1 w =>
 oM Tryz.prog (.box 43 (.tmp 0)) 0 [a1] (fun v3_2 w =>
 heldM w (fun C_3 w => (oH Tryz.prog (.fieldAddr 43 (.tmp 0) 0) 0 [v3_2] C_3 (fun v5_4 =>
 oH Tryz.prog (.load 3 (.tmp 0)) 3 [v5_4] C_3 (fun v6_5 =>
 oH Tryz.prog (.fieldAddr 43 (.tmp 0) 1) 0 [v3_2] C_3 (fun v7_6 =>
 oH Tryz.prog (.load 3 (.tmp 0)) 3 [v7_6] C_3 (fun v8_7 =>
 oH Tryz.prog (.fieldAddr 43 (.tmp 0) 2) 0 [v3_2] C_3 (fun v9_8 =>
 oH Tryz.prog (.load 3 (.tmp 0)) 3 [v9_8] C_3 (fun v10_9 =>
 oH Tryz.prog (.fieldAddr 43 (.tmp 0) 3) 0 [v3_2] C_3 (fun v11_10 =>
 oH Tryz.prog (.load 3 (.tmp 0)) 3 [v11_10] C_3 (fun v12_11 =>
 oH Tryz.prog (.fieldAddr 43 (.tmp 0) 4) 0 [v3_2] C_3 (fun v13_12 =>
 oH Tryz.prog (.load 3 (.tmp 0)) 3 [v13_12] C_3 (fun v14_13 =>
 oH Tryz.prog (.fieldAddr 111 (.tmp 0) 0) 0 [v2_1] C_3 (fun v17_14 =>
 oH Tryz.prog (.fieldAddr 35 (.tmp 0) 0) 0 [v17_14] C_3 (fun v18_15 =>
 oH Tryz.prog (.fieldAddr 33 (.tmp 0) 1) 0 [v18_15] C_3 (fun v19_16 =>
 oH Tryz.prog (.load 3 (.tmp 0)) 3 [v19_16] C_3 (fun v20_17 =>
 oM Tryz.prog (.buildSlice 22 5 #[(0, (.tmp 0)), (1, (.tmp 1)), (2, (.tmp 2)), (3, (.tmp 3)), (4, (.tmp 4))]) 22 [v6_5, v8_7, v10_9, v12_11, v14_13] (fun v15_18 w => C_3 w ∧ (
 callM Tryz.prog 119 #[v15_18] (fun v16_19 w => C_3 w ∧ (
 callM Tryz.prog 130 #[v16_19, v20_17] (fun v21_20 w => C_3 w ∧ (
 C_3 w ∧ (K v21_20 w))) w)) w)) w))))))))))))))))) w) w
theorem sh_107_eq (a0 : Value) (a1 : Value) (K : Value → World → Prop) (w : World) : sh_107 a0 a1 K w = code Tryz.prog (fun _ => 2) 22 (Tryz.f107.body.getD .skip) (slotsAt [a0, a1]) (retK Tryz.prog [.tmp 4] K) w := by kernel_rfl
theorem sh_107_ok {a0 a1 : Value} {K : Value → World → Prop} {w : World} (h : sh_107 a0 a1 K w) : callM Tryz.prog 107 #[a0, a1] K w :=
  calls_of_code (fun _ => 2) (fn := Tryz.f107) (rs := [.tmp 4]) Tryz.func107 rfl rfl (by kernel_rfl) (Nat.le_of_ble_eq_true rfl) ((sh_107_eq a0 a1 K w).mp h)
def sh_130 (a0 : Value) (a1 : Value) (K : Value → World → Prop) (w : World) : Prop :=
 callM Tryz.prog 79 #[a1] (fun v9_1 w =>
 oM Tryz.prog (.unOp .not 4 (.tmp 0)) 4 [v9_1] (fun v10_2 w =>
 condM v10_2
 (K (.int .i64 0) w)
 (callM Tryz.prog 171 #[a0] (fun v12_3 w =>
 oM Tryz.prog (.convert 9 189 (.tmp 0)) 189 [v12_3] (fun v13_4 w =>
 oM Tryz.prog (.call (Go.Call.mk (.builtin .len) #[(.tmp 0)] #[189])) 3 [v13_4] (fun v14_5 w =>
 loopM [undef, (.int .i64 0), (.int .i64 0)] w (fun J_6 m_7 l_8 u_l_8 w0_l_8 => (fun w => (
 oM Tryz.prog (.binOp .lss 3 (.tmp 0) (.tmp 1) 3) 0 [(l_8.getD 2 undef), v14_5] (fun v16_9 w =>
 condM v16_9
 (oM Tryz.prog (.indexAddr 189 (.tmp 0) (.tmp 1)) 0 [v13_4, (l_8.getD 2 undef)] (fun v17_10 w =>
 oM Tryz.prog (.load 5 (.tmp 0)) 5 [v17_10] (fun v18_11 w =>
 callM Tryz.prog 16 #[a1, (l_8.getD 1 undef), (.int .i64 256)] (fun v22_12 w =>
 oM Tryz.prog (.convert 5 3 (.tmp 0)) 3 [v18_11] (fun v24_13 w =>
 callM Tryz.prog 143 #[a1, v22_12, v24_13] (fun v25_14 w =>
 oM Tryz.prog (.binOp .add 3 (.tmp 0) (.tmp 1) 3) 3 [(l_8.getD 2 undef), (.int .i64 1)] (fun v26_15 w =>
 J_6 [v18_11, v25_14, v26_15] w ∧ m_7 [v18_11, v25_14, v26_15] w < m_7 l_8 w0_l_8) w) w) w) w) w) w)
 (K (l_8.getD 1 undef) w)) w)) w0_l_8)) w) w) w)) w) w
theorem sh_130_eq (a0 : Value) (a1 : Value) (K : Value → World → Prop) (w : World) : sh_130 a0 a1 K w = code Tryz.prog (fun _ => 2) 28 (Tryz.f130.body.getD .skip) (slotsAt [a0, a1]) (retK Tryz.prog [.tmp 4] K) w := by kernel_rfl
theorem sh_130_ok {a0 a1 : Value} {K : Value → World → Prop} {w : World} (h : sh_130 a0 a1 K w) : callM Tryz.prog 130 #[a0, a1] K w :=
  calls_of_code (fun _ => 2) (fn := Tryz.f130) (rs := [.tmp 4]) Tryz.func130 rfl rfl (by kernel_rfl) (Nat.le_of_ble_eq_true rfl) ((sh_130_eq a0 a1 K w).mp h)
end Go.Proofs
namespace Go.Sh
open Go Go.RowKit
@[reducible] def cellsAre (w : World) : List (Addr × Value) → Prop
  | [] => True
  | p :: l => w.cell? p.1 = some p.2 ∧ cellsAre w l
theorem cellsAre_keep {w w' : World} : ∀ {L : List (Addr × Value)}, cellsAre w L → (∀ (a : Addr), a.block < w.heap.size → w'.cell? a = w.cell? a) → cellsAre w' L
  | [], _, _ => trivial
  | p :: l, h, k => by
    refine ⟨?_, cellsAre_keep h.2 k⟩
    have hlt : p.1.block < w.heap.size := by
      have h1 := h.1
      by_cases hc : p.1.block < w.heap.size
      · exact hc
      · unfold World.cell? at h1
        rw [Array.getElem?_eq_none (by omega)] at h1
        simp at h1
    rw [k _ hlt]; exact h.1
theorem cellsAre_keepBut {w w' : World} {g : Nat} : ∀ {L : List (Addr × Value)}, cellsAre w L → (∀ p ∈ L, p.1.block ≠ g) → (∀ (a : Addr), a.block < w.heap.size → a.block ≠ g → w'.cell? a = w.cell? a) → cellsAre w' L
  | [], _, _, _ => trivial
  | p :: l, h, hn, k => by
    refine ⟨?_, cellsAre_keepBut h.2 (fun q hq => hn q (List.mem_cons_of_mem _ hq)) k⟩
    have hlt : p.1.block < w.heap.size := by
      have h1 := h.1
      by_cases hc : p.1.block < w.heap.size
      · exact hc
      · unfold World.cell? at h1
        rw [Array.getElem?_eq_none (by omega)] at h1
        simp at h1
    rw [k _ hlt (hn p (List.mem_cons_self ..))]; exact h.1
structure Kn (w0 : World) (L : List (Addr × Value)) (w' : World) : Prop where
  below : Below w0.heap.size w0 w'
  cells : cellsAre w' L
namespace Kn
variable {w0 w w' : World} {L : List (Addr × Value)}
theorem start (w : World) : Kn w [] w := ⟨Below.refl _ _, trivial⟩
theorem next (h : Kn w0 L w) (hb : Below w.heap.size w w') : Kn w0 L w' := ⟨h.below.on hb, cellsAre_keep h.cells fun a ha => hb.cell ha⟩
theorem drew (h : Kn w0 L w) : Kn w0 L { w with drawn := w.drawn + 1 } := h.next .drawn
theorem wrote (h : Kn w0 L w) {g : Nat} (hg : w.grownBy w' (some g)) (h0 : w0.heap.size ≤ g) (hn : ∀ p ∈ L, p.1.block ≠ g) : Kn w0 L w' :=
  ⟨h.below.grown hg h.below.size (fun k hk => by cases hk; exact h0),
    cellsAre_keepBut h.cells hn fun a ha hna => World.cell?_of_block (w := w) (hg.block _ ha (fun e => hna (Option.some.inj e)))⟩
theorem less {A : List (Addr × Value)} (h : Kn w0 (A ++ L) w) : Kn w0 L w := ⟨h.below, by
  have := h.cells
  clear h
  induction A with
  | nil => exact this
  | cons a A ih => exact ih this.2⟩
end Kn
@[reducible] def cellsOf (L : List (Addr × Value)) (b : Nat) : Nat → List Value → List (Addr × Value)
  | _, [] => L
  | i, v :: l => (⟨b, i, none⟩, v) :: cellsOf L b (i + 1) l
theorem cellsOf_are {w : World} {b : Nat} {xs : List Value} {L : List (Addr × Value)} (hL : cellsAre w L) (h : ∀ (i : Nat) (v : Value), xs[i]? = some v → w.cell? ⟨b, i, none⟩ = some v) : ∀ (l : List Value) (i : Nat), xs.drop i = l → cellsAre w (cellsOf L b i l)
  | [], _, _ => hL
  | v :: l, i, e => by
    have hv : xs[i]? = some v := by
      have := congrArg (·[0]?) e
      simpa using this
    refine ⟨h i v hv, cellsOf_are hL h l (i + 1) ?_⟩
    have := congrArg List.tail e
    simpa using this
def Mine (w : World) (g : Nat) (n : Nat) : Prop := ∃ cur T, w.heap[g]? = some (.cells cur T (0, 0)) ∧ cur.size = n
theorem Mine.next {w w' : World} {g n : Nat} (h : Mine w g n) (hb : Below w.heap.size w w') : Mine w' g n := by
  obtain ⟨cur, T, h1, h2⟩ := h
  refine ⟨cur, T, ?_, h2⟩
  rw [hb.block g (Array.getElem?_eq_some_iff.1 h1).1]; exact h1
section
variable {P : Program} {w0 w : World} {K : Value → World → Prop} {T T' : TypeId} {L : List (Addr × Value)}
theorem box_kn {x : Value} {cs : List Value} (hx : x.cells = cs.toArray) (hk : Kn w0 L w) (k : ∀ b W, Kn w0 (cellsOf L b 0 cs) W → Below w.heap.size w W → w.heap.size ≤ b → K (.pointer (some ⟨b, 0, none⟩)) W) : oM P (.box T (.tmp 0)) T' [x] K w :=
  box_in hx fun g W h1 h2 h3 => k g W ⟨(hk.next h1).below, cellsOf_are (xs := cs) (hk.next h1).cells (fun i v hi => h3 W (Below.refl _ _) i v hi) cs 0 rfl⟩ h1 h2
end
end Go.Sh
namespace TkSpec
open FdSpec
structure Stp where
  g : Grp
  bases : List Int
  blind : Int
deriving DecidableEq
structure Bld where
  s : Int
  u : Int
  v : Int
  ys : List Int
deriving DecidableEq
structure Tkt where
  mark : Int
  first : Int
  z : Int
  a : Int
  b : Int
  r : Int
deriving DecidableEq
structure Spd where
  dare : Int
  answers : List Int
deriving DecidableEq
structure Off where
  z : Int
  a : Int
  b : Int
deriving DecidableEq
def otherM (g : Grp) (x : Int) : Bool := !decide (x = 1) && elemG g x
def validS (s : Stp) : Bool := validG s.g && decide (2 ≤ s.bases.length) && decide (s.bases.length ≤ 7) && s.bases.all (otherM s.g) && otherM s.g s.blind
def numsM (s : Stp) (least : Int) (l : List Int) : Bool := l.all fun n => decide (least ≤ n) && decide (n < s.g.Q)
def elementsM (s : Stp) (l : List Int) : Bool := l.all (elemG s.g)
def keyM (s : Stp) (k : Int) : Bool := !decide (k = 1) && elementsM s [k]
def genM (s : Stp) (k : Int) : Int := powerG s.g s.g.G k
def timesM (s : Stp) (first : Int) (l : List Int) : Int := l.foldl (fun a x => timesG s.g a x) first
def mulQ (s : Stp) (first : Int) (l : List Int) : Int := l.foldl (fun a x => mulM s.g.Q a x) first
def overQ (s : Stp) (a b : Int) : Int := mulQ s a [powM s.g.Q b (-1)]
def plusQ (s : Stp) (a b : Int) : Int := addM s.g.Q a b
def expsM (attrs : List Int) : List Int := 1 :: attrs
def markM (s : Stp) (attrs : List Int) : Int × Bool :=
  if validS s && decide (attrs.length + 1 = s.bases.length) && numsM s 0 attrs && !decide (attrs.headD 0 = 0) then ((prodG s.g s.bases (expsM attrs)).1, true) else (0, false)
def usableM (s : Stp) (attrs : List Int) : Int × Bool := ((markM s attrs).1, (markM s attrs).2 && !decide ((markM s attrs).1 = 1))
def publicM (s : Stp) (x : Int) : Int := if validS s && numsM s 1 [x] then genM s x else 0
def proposeM (s : Stp) (x : Int) (attrs : List Int) (w : Int) : Off × Int :=
  if (usableM s attrs).2 && numsM s 1 [x] && numsM s 0 [w] then (⟨powerG s.g (usableM s attrs).1 x, genM s w, powerG s.g (usableM s attrs).1 w⟩, 0) else (⟨0, 0, 0⟩, 1)
def blindsM (s : Stp) (b : Bld) : Bool := numsM s 1 [b.s, b.u] && numsM s 0 [b.v] && decide (b.ys.length = s.bases.length) && numsM s 0 b.ys
def grantM (s : Stp) (x w c : Int) : Int := if validS s && numsM s 1 [x] && numsM s 0 [w, c] then plusQ s (mulQ s c [x]) w else 0
def useM (s : Stp) (attrs : List Int) (b : Bld) (dare : Int) : Spd × Bool :=
  if (usableM s attrs).2 && blindsM s b && numsM s 1 [dare] then (⟨dare, ((expsM attrs).zip b.ys).map fun p => plusQ s p.2 (mulQ s dare [b.s, p.1])⟩, true) else (⟨0, []⟩, false)
def s0 : Stp := ⟨⟨23, 11, 4⟩, [4, 16, 18], 3⟩
def b0 : Bld := ⟨4, 1, 0, [1, 2, 3]⟩
def t0 : Tkt := ⟨8, 18, 9, 16, 13, 0⟩
end TkSpec
namespace Go.Proofs
open Go Go.Sh Go.RowKit FdSpec TkSpec
set_option linter.unusedSimpArgs false
set_option linter.unusedVariables false
set_option maxRecDepth 10000
section
variable {K : Value → World → Prop} {w : World}
@[reducible] def stpV (s : Stp) (v : Value) : Value := .agg #[.int .i64 s.g.P, .int .i64 s.g.Q, .int .i64 s.g.G, v, .int .i64 s.blind]
@[reducible] def stpC (s : Stp) (v : Value) : List Value := [.int .i64 s.g.P, .int .i64 s.g.Q, .int .i64 s.g.G, v, .int .i64 s.blind]
structure SetR (w : World) (s : Stp) (v : Value) : Prop where
  grp : GrpR s.g
  ints : Ints w v s.bases
  blind : I64 s.blind
  db : DbT w
theorem DbT.next {w w' : World} (h : DbT w) (hb : Below w.heap.size w w') : DbT w' := h.below hb (Nat.le_refl _)
theorem SetR.next {w w' : World} {s : Stp} {v : Value} (h : SetR w s v) (hb : Below w.heap.size w w') : SetR w' s v := ⟨h.grp, h.ints.next hb, h.blind, h.db.next hb⟩
theorem other_ok (g : Grp) (x : Int) {b : Nat} (hg : GrpR g) (hT : DbT w) (h0 : w.cell? ⟨b, 0, none⟩ = some (.int .i64 g.P)) (h1 : w.cell? ⟨b, 1, none⟩ = some (.int .i64 g.Q)) (h2 : w.cell? ⟨b, 2, none⟩ = some (.int .i64 g.G))
    (k : ∀ w', Below w.heap.size w w' → K (.bool (otherM g x)) w') : callM Tryz.prog 175 #[.int .i64 x, .pointer (some ⟨b, 0, none⟩)] K w := by
  apply sh_175_ok
  unfold sh_175
  unfold otherM at k
  by_cases hx : x = 1
  · have k := k w (Below.refl _ _)
    repeat (any_goals (first
    | (with_reducible first|((refine idGd ?_); ((refine idGdN ?_); refine zM ?_))|((refine idPick ?_); refine yG ?_))
    | ((with_reducible refine idO ?_); (with_reducible refine oM_gen fun Kv hK=>?_); simp [go_sem, h0, h1, h2]; refine hK _ _ ?_; clear hK; clear Kv)))
    simpa [hx] using k
  · repeat (any_goals (first
    | (with_reducible first|refine pureM_in ?_|((refine idGd ?_); ((refine idGdN ?_); refine zL ?_)))
    | ((with_reducible refine idO ?_); (with_reducible refine oM_gen fun Kv hK=>?_); simp [go_sem, h0, h1, h2]; refine hK _ _ ?_; clear hK; clear Kv)))
    refine Element_ok g x hg hT (fun w' hw => ?_)
    have k := k w' hw
    repeat (any_goals (with_reducible ((refine idPick ?_); refine yF ?_)))
    simpa [hx] using k
def VsJ (s : Stp) (L : List (Addr × Value)) (R : Bool) (w0 : World) (l : List Value) (w' : World) : Prop := Kn w0 L w' ∧ ∃ (v u : Value) (i : Nat), l = [v, u, .int .i64 (i : Int)] ∧ i ≤ s.bases.length ∧ (s.bases.drop i).all (otherM s.g) = R
def vsMu (n : Nat) (l : List Value) (_ : World) : Nat := match l with | [_, _, .int _ i] => n - i.toNat | _ => 0
theorem vsMu_eq (n : Nat) (x y : Value) (q : IntKind) (i : Int) (w : World) : vsMu n [x, y, .int q i] w = n - i.toNat := rfl
theorem ValidSetup_ok (s : Stp) {v : Value} (hs : SetR w s v) (k : ∀ w', Below w.heap.size w w' → K (.bool (validS s)) w') : callM Tryz.prog 135 #[stpV s v] K w := by
  apply sh_135_ok
  unfold sh_135
  obtain ⟨ad, c, rfl⟩ := hs.ints.isSlice
  refine box_kn (cs := stpC s (.slice ad s.bases.length c)) rfl (.start w) fun b W hk hb1 hb => ?_
  have k2 : ∀ w' r, validS s = r → Below w.heap.size w w' → K (.bool r) w' := fun w' r e hb => by rw [← e]; exact k w' hb
  have e0 : validS s = (validG s.g && decide (2 ≤ s.bases.length) && decide (s.bases.length ≤ 7) && s.bases.all (otherM s.g) && otherM s.g s.blind) := rfl
  have hl := hs.ints.len
  clear k
  repeat (any_goals ((with_reducible refine idO ?_); (with_reducible refine oM_gen fun Kv hK=>?_); simp [go_sem, hk.cells]; refine hK _ _ ?_; clear hK; clear Kv))
  refine ValidGroup_ok s.g hs.grp (hs.db.next hk.below) (fun w1 h1 => ?_)
  have hk := hk.next h1
  clear h1 hb1
  cases hv : validG s.g with
  | false =>
    repeat (any_goals (first
    | (with_reducible first|((refine idGd ?_); refine zD ?_)|((refine idPick ?_); refine yB ?_)|((refine idCond ?_); refine yL ?_))
    | ((with_reducible refine idO ?_); (with_reducible refine oM_gen fun Kv hK=>?_); simp [go_sem]; refine hK _ _ ?_; clear hK; clear Kv)))
    exact k2 _ _ (by rw [e0, hv]; simp) hk.below
  | true =>
    repeat (any_goals (first
    | (with_reducible first|((refine idGd ?_); first|refine zC ?_|((refine idGdD ?_); first|refine zI ?_|refine zJ ?_|refine zK (fun hg=>?_) fun hg=>?_))|((refine idPick ?_); first|refine yC ?_|refine yD ?_|refine yE ?_)|((refine idCond ?_); first|refine yL ?_|refine yP (fun hg=>?_) fun hg=>?_))
    | ((with_reducible refine idO ?_); (with_reducible refine oM_gen fun Kv hK=>?_); simp [go_sem, hk.cells]; refine hK _ _ ?_; clear hK; clear Kv)))
    · exact k2 _ _ (by rw [e0]; simp; omega) hk.below
    · exact k2 _ _ (by rw [e0]; simp; omega) hk.below
    have e1 : validS s = (s.bases.all (otherM s.g) && otherM s.g s.blind) := by
      rw [e0, hv, decide_eq_true (by omega : 2 ≤ s.bases.length), decide_eq_true (by omega : s.bases.length ≤ 7)]; rfl
    refine ⟨VsJ s _ (s.bases.all (otherM s.g)) w, vsMu s.bases.length, ⟨hk, _, _, 0, rfl, by omega, rfl⟩, ?_⟩
    generalize s.bases.all (otherM s.g) = R at *
    rintro _ _ w2 ⟨hk, u1, u2, i, rfl, hi, hall⟩
    have hc := hk.cells
    by_cases hin : i = s.bases.length
    · rw [List.drop_of_length_le (by omega), List.all_nil] at hall
      subst hall
      repeat (any_goals (first
      | (with_reducible ((refine idCond ?_); refine yO ?_))
      | ((with_reducible refine idO ?_); (with_reducible refine oM_gen fun Kv hK=>?_); simp [go_sem, hc]; refine hK _ _ ?_; clear hK; clear Kv)))
      refine oM_callv1 (by kernel_rfl) ?_
      refine other_ok s.g s.blind hs.grp (hs.db.next hk.below) hc.1 hc.2.1 hc.2.2.1 (fun w3 h3 => ?_)
      exact k2 _ _ (by rw [e1, Bool.true_and]) (hk.next h3).below
    · rw [List.drop_eq_getElem_cons (by omega), List.all_cons] at hall
      obtain ⟨b1, o1, rfl, hb1, ca, ra, _⟩ := hs.ints.at (i := i) (by omega)
      repeat (any_goals (first
      | (with_reducible ((refine idCond ?_); refine yN ?_))
      | ((with_reducible refine idO ?_); (with_reducible refine oM_gen fun Kv hK=>?_); simp [go_sem, ca _ hk.below]; (first|refine hK _ _ ?_|refine And.intro (by omega) (hK _ _ ?_)); clear hK; clear Kv)))
      refine oM_callv1 (by kernel_rfl) ?_
      refine other_ok s.g _ hs.grp (hs.db.next hk.below) hc.1 hc.2.1 hc.2.2.1 (fun w3 h3 => ?_)
      cases ho : otherM s.g s.bases[i] with
      | false =>
        rw [ho, Bool.false_and] at hall
        subst hall
        repeat (any_goals (first
        | (with_reducible ((refine idCond ?_); refine yL ?_))
        | ((with_reducible refine idO ?_); (with_reducible refine oM_gen fun Kv hK=>?_); simp [go_sem]; refine hK _ _ ?_; clear hK; clear Kv)))
        exact k2 _ _ (by rw [e1, Bool.false_and]) (hk.next h3).below
      | true =>
        rw [ho, Bool.true_and] at hall
        repeat (any_goals (first
        | (with_reducible ((refine idCond ?_); refine yM ?_))
        | ((with_reducible refine idO ?_); (with_reducible refine oM_gen fun Kv hK=>?_); simp [go_sem]; (try simp (disch := omega) only [wrapI64, wrapU8, wrapU32, wrapU64]); refine hK _ _ ?_; clear hK; clear Kv)))
        refine ⟨⟨hk.next h3, _, _, i + 1, rfl, by omega, hall⟩, ?_⟩
        simp only [vsMu_eq]; omega
end
end Go.Proofs
namespace Go.Proofs
open Go Go.Sh Go.RowKit FdSpec TkSpec
set_option linter.unusedSimpArgs false
set_option linter.unusedVariables false
set_option maxRecDepth 10000
section
variable {K : Value → World → Prop} {w w0 : World} {L : List (Addr × Value)}
theorem ints_alloc (w : World) (l : List Int) (T : TypeId) (c : Nat) (hr : ∀ n ∈ l, I64 n) (hl : l.length ≤ 9223372036854775807) : Ints (w.alloc (.cells (l.map (Value.int .i64)).toArray T)) (.slice (some ⟨w.heap.size, 0, none⟩) l.length c) l := by
  refine ⟨⟨_, c, rfl, by simp, ?_⟩, hr, hl⟩
  by_cases h0 : l = []
  · exact .inl h0
  · refine .inr ⟨_, 0, rfl, by simp, fun k x hk => ?_⟩
    rw [flat_int] at hk
    rw [Nat.zero_add]
    have := World.cell?_alloc_at (w := w) (l.map (Value.int .i64)).toArray T w.heap.size k rfl
    rw [this]
    simpa using hk
theorem mk1 {T : TypeId} (x : Int) (hx : I64 x) (k : ∀ v W, Below w.heap.size w W → Ints W v [x] → K v W) : oM Tryz.prog (.buildSlice 22 1 #[(0, .tmp 0)]) T [.int .i64 x] K w := by
  rw [oM_buildSlice1]
  have e : (Instr.buildSlice 22 1 #[(0, .int .i64 x)]).run Tryz.prog w = .ok (.slice (some ⟨w.heap.size, 0, none⟩) 1 1) (w.alloc (.cells #[.int .i64 x] 3)) := by kernel_rfl
  rw [e]
  exact k _ _ ((Below.refl _ w).alloc (Nat.le_refl _) _) (ints_alloc w [x] _ 1 (by simpa using hx) (by simp))
theorem mk2 {T : TypeId} (x y : Int) (hx : I64 x) (hy : I64 y) (k : ∀ v W, Below w.heap.size w W → Ints W v [x, y] → K v W) : oM Tryz.prog (.buildSlice 22 2 #[(0, .tmp 0), (1, .tmp 1)]) T [.int .i64 x, .int .i64 y] K w := by
  rw [oM_buildSlice2]
  have e : (Instr.buildSlice 22 2 #[(0, .int .i64 x), (1, .int .i64 y)]).run Tryz.prog w = .ok (.slice (some ⟨w.heap.size, 0, none⟩) 2 2) (w.alloc (.cells #[.int .i64 x, .int .i64 y] 3)) := by kernel_rfl
  rw [e]
  exact k _ _ ((Below.refl _ w).alloc (Nat.le_refl _) _) (ints_alloc w [x, y] _ 2 (by simp; exact ⟨hx, hy⟩) (by simp))
def IfJ (p : Int → Bool) (l : List Int) (R : Bool) (w0 : World) (vs : List Value) (w' : World) : Prop := Below w0.heap.size w0 w' ∧ ∃ (v u : Value) (i : Nat), vs = [v, u, .int .i64 (i : Int)] ∧ i ≤ l.length ∧ (l.drop i).any p = R
theorem IndexFunc_ok {v F : Value} {l : List Int} (p : Int → Bool) (hl : Ints w v l)
    (hF : ∀ (w' : World) (x : Int) (K' : Value → World → Prop) (T : TypeId), Below w.heap.size w w' → I64 x → (∀ w'', Below w'.heap.size w' w'' → K' (.bool (p x)) w'') → oM Tryz.prog (.call { callee := .value (.tmp 0), args := #[.tmp 1], argTypes := #[3] }) T [F, .int .i64 x] K' w')
    (k : ∀ w' (r : Int), Below w.heap.size w w' → decide (0 ≤ r) = l.any p → K (.int .i64 r) w') : callM Tryz.prog 160 #[v, F] K w := by
  apply sh_160_ok
  unfold sh_160
  obtain ⟨ad, c, rfl⟩ := hl.isSlice
  have hll := hl.len
  repeat (any_goals ((with_reducible refine idO ?_); (with_reducible refine oM_gen fun Kv hK=>?_); simp [go_sem]; refine hK _ _ ?_; clear hK; clear Kv))
  refine ⟨IfJ p l (l.any p) w, vsMu l.length, ⟨Below.refl _ _, _, _, 0, rfl, by omega, rfl⟩, ?_⟩
  generalize l.any p = R at *
  rintro _ _ w1 ⟨h1, u1, u2, i, rfl, hi, ha⟩
  by_cases hin : i = l.length
  · rw [List.drop_of_length_le (by omega), List.any_nil] at ha
    repeat (any_goals (first
    | (with_reducible ((refine idCond ?_); refine yO ?_))
    | ((with_reducible refine idO ?_); (with_reducible refine oM_gen fun Kv hK=>?_); simp [go_sem]; refine hK _ _ ?_; clear hK; clear Kv)))
    exact k _ _ h1 (by rw [← ha]; rfl)
  · rw [List.drop_eq_getElem_cons (by omega), List.any_cons] at ha
    obtain ⟨b1, o1, rfl, hb1, ca, ra, _⟩ := hl.at (i := i) (by omega)
    repeat (any_goals (first
    | (with_reducible ((refine idCond ?_); refine yN ?_))
    | ((with_reducible refine idO ?_); (with_reducible refine oM_gen fun Kv hK=>?_); simp [go_sem, ca _ h1]; (first|refine hK _ _ ?_|refine And.intro (by omega) (hK _ _ ?_)); clear hK; clear Kv)))
    refine hF w1 _ _ _ h1 ra (fun w2 h2 => ?_)
    cases hp : p l[i] with
    | true =>
      rw [hp, Bool.true_or] at ha
      repeat (any_goals (with_reducible ((refine idCond ?_); refine yL ?_)))
      exact k _ _ (h1.on h2) (by rw [← ha]; simp)
    | false =>
      rw [hp, Bool.false_or] at ha
      repeat (any_goals (first
      | (with_reducible ((refine idCond ?_); refine yM ?_))
      | ((with_reducible refine idO ?_); (with_reducible refine oM_gen fun Kv hK=>?_); simp [go_sem]; (try simp (disch := omega) only [wrapI64, wrapU8, wrapU32, wrapU64]); refine hK _ _ ?_; clear hK; clear Kv)))
      refine ⟨⟨h1.on h2, _, _, i + 1, rfl, by omega, ha⟩, ?_⟩
      simp only [vsMu_eq]; omega
theorem ContainsFunc_ok {v F : Value} {l : List Int} (p : Int → Bool) (hl : Ints w v l)
    (hF : ∀ (w' : World) (x : Int) (K' : Value → World → Prop) (T : TypeId), Below w.heap.size w w' → I64 x → (∀ w'', Below w'.heap.size w' w'' → K' (.bool (p x)) w'') → oM Tryz.prog (.call { callee := .value (.tmp 0), args := #[.tmp 1], argTypes := #[3] }) T [F, .int .i64 x] K' w')
    (k : ∀ w', Below w.heap.size w w' → K (.bool (l.any p)) w') : callM Tryz.prog 113 #[v, F] K w := by
  apply sh_113_ok
  unfold sh_113
  refine IndexFunc_ok p hl hF (fun w' r hb hr => ?_)
  repeat (any_goals ((with_reducible refine idO ?_); (with_reducible refine oM_gen fun Kv hK=>?_); simp [go_sem]; refine hK _ _ ?_; clear hK; clear Kv))
  rw [hr]
  exact k _ hb
theorem numsM_any (s : Stp) (least : Int) (l : List Int) : numsM s least l = !(l.any fun n => decide (n < least) || decide (s.g.Q ≤ n)) := by
  unfold numsM
  rw [List.not_any_eq_all_not]
  congr 1
  funext n
  by_cases h1 : n < least <;> by_cases h2 : s.g.Q ≤ n <;> simp [h1, h2] <;> omega
theorem elementsM_any (s : Stp) (l : List Int) : elementsM s l = !(l.any fun n => !elemG s.g n) := by
  unfold elementsM
  rw [List.not_any_eq_all_not]
  congr 1
  funext n
  simp
theorem numsF_ok (s : Stp) (least x : Int) {b d : Nat} (h0 : w.cell? ⟨b, 0, none⟩ = some (.int .i64 least)) (h1 : w.cell? ⟨d, 1, none⟩ = some (.int .i64 s.g.Q)) (h : K (.bool (decide (x < least) || decide (s.g.Q ≤ x))) w) :
    callM Tryz.prog 140 #[.int .i64 x, .pointer (some ⟨b, 0, none⟩), .pointer (some ⟨d, 0, none⟩)] K w := by
  apply sh_140_ok
  unfold sh_140
  by_cases hx : x < least
  · repeat (any_goals (first
    | (with_reducible first|((refine idGd ?_); ((refine idGdD ?_); refine zJ ?_))|((refine idPick ?_); refine yD ?_))
    | ((with_reducible refine idO ?_); (with_reducible refine oM_gen fun Kv hK=>?_); simp [go_sem, h0, h1]; refine hK _ _ ?_; clear hK; clear Kv)))
    simpa [hx] using h
  · repeat (any_goals (first
    | (with_reducible first|refine pureM_in ?_|((refine idGd ?_); ((refine idGdD ?_); refine zI ?_))|((refine idPick ?_); refine yE ?_))
    | ((with_reducible refine idO ?_); (with_reducible refine oM_gen fun Kv hK=>?_); simp [go_sem, h0, h1]; refine hK _ _ ?_; clear hK; clear Kv)))
    simpa [hx] using h
theorem nums_ok (s : Stp) (least : Int) {dv v : Value} {l : List Int} (hs : SetR w s dv) (hl : Ints w v l) (k : ∀ w', Below w.heap.size w w' → K (.bool (numsM s least l)) w') : callM Tryz.prog 72 #[stpV s dv, .int .i64 least, v] K w := by
  apply sh_72_ok
  unfold sh_72
  obtain ⟨ad, c, rfl⟩ := hs.ints.isSlice
  refine box_kn (cs := stpC s (.slice ad s.bases.length c)) rfl (.start w) fun b W hk hb1 hb => ?_
  refine box_kn (cs := [.int .i64 least]) rfl hk fun b2 W2 hk hb2 hbb => ?_
  repeat (any_goals ((with_reducible refine idO ?_); (with_reducible refine oM_gen fun Kv hK=>?_); simp [go_sem]; refine hK _ _ ?_; clear hK; clear Kv))
  refine ContainsFunc_ok (fun n => decide (n < least) || decide (s.g.Q ≤ n)) (hl.next hk.below) ?_ ?_
  · intro w' x K' T hb _ h'
    refine oM_callv1 (by kernel_rfl) ?_
    have hk := (hk.next hb).cells
    exact numsF_ok s least x hk.1 hk.2.2.1 (h' _ (Below.refl _ _))
  · intro w' hb
    repeat (any_goals ((with_reducible refine idO ?_); (with_reducible refine oM_gen fun Kv hK=>?_); simp [go_sem]; refine hK _ _ ?_; clear hK; clear Kv))
    rw [← numsM_any]
    exact k _ (hk.next hb).below
theorem elemF_ok (s : Stp) (x : Int) {d : Nat} (hg : GrpR s.g) (hT : DbT w) (h0 : w.cell? ⟨d, 0, none⟩ = some (.int .i64 s.g.P)) (h1 : w.cell? ⟨d, 1, none⟩ = some (.int .i64 s.g.Q)) (h2 : w.cell? ⟨d, 2, none⟩ = some (.int .i64 s.g.G)) (k : ∀ w', Below w.heap.size w w' → K (.bool (!elemG s.g x)) w') :
    callM Tryz.prog 185 #[.int .i64 x, .pointer (some ⟨d, 0, none⟩)] K w := by
  apply sh_185_ok
  unfold sh_185
  repeat (any_goals ((with_reducible refine idO ?_); (with_reducible refine oM_gen fun Kv hK=>?_); simp [go_sem, h0, h1, h2]; refine hK _ _ ?_; clear hK; clear Kv))
  refine Element_ok s.g x hg hT (fun w' hb => ?_)
  repeat (any_goals ((with_reducible refine idO ?_); (with_reducible refine oM_gen fun Kv hK=>?_); simp [go_sem]; refine hK _ _ ?_; clear hK; clear Kv))
  exact k _ hb
theorem elements_ok (s : Stp) {dv v : Value} {l : List Int} (hs : SetR w s dv) (hl : Ints w v l) (k : ∀ w', Below w.heap.size w w' → K (.bool (elementsM s l)) w') : callM Tryz.prog 146 #[stpV s dv, v] K w := by
  apply sh_146_ok
  unfold sh_146
  obtain ⟨ad, c, rfl⟩ := hs.ints.isSlice
  refine box_kn (cs := stpC s (.slice ad s.bases.length c)) rfl (.start w) fun b W hk hb1 hb => ?_
  repeat (any_goals ((with_reducible refine idO ?_); (with_reducible refine oM_gen fun Kv hK=>?_); simp [go_sem]; refine hK _ _ ?_; clear hK; clear Kv))
  refine ContainsFunc_ok (fun n => !elemG s.g n) (hl.next hk.below) ?_ ?_
  · intro w' x K' T hb _ h'
    refine oM_callv1 (by kernel_rfl) ?_
    have hk := hk.next hb
    have hc := hk.cells
    exact elemF_ok s x hs.grp (hs.db.next hk.below) hc.1 hc.2.1 hc.2.2.1 h'
  · intro w' hb
    repeat (any_goals ((with_reducible refine idO ?_); (with_reducible refine oM_gen fun Kv hK=>?_); simp [go_sem]; refine hK _ _ ?_; clear hK; clear Kv))
    rw [← elementsM_any]
    exact k _ (hk.next hb).below
theorem key_ok (s : Stp) (x : Int) {dv : Value} (hx : I64 x) (hs : SetR w s dv) (k : ∀ w', Below w.heap.size w w' → K (.bool (keyM s x)) w') : callM Tryz.prog 125 #[stpV s dv, .int .i64 x] K w := by
  apply sh_125_ok
  unfold sh_125
  obtain ⟨ad, c, rfl⟩ := hs.ints.isSlice
  refine box_kn (cs := stpC s (.slice ad s.bases.length c)) rfl (.start w) fun b W hk hb1 hb => ?_
  unfold keyM at k
  by_cases hx1 : x = 1
  · have k := k _ hk.below
    repeat (any_goals (first
    | (with_reducible first|((refine idGd ?_); ((refine idGdN ?_); refine zM ?_))|((refine idPick ?_); refine yG ?_))
    | ((with_reducible refine idO ?_); (with_reducible refine oM_gen fun Kv hK=>?_); simp [go_sem]; refine hK _ _ ?_; clear hK; clear Kv)))
    simpa [hx1] using k
  · repeat (any_goals (first
    | ((with_reducible refine mk1 x hx ?_); intro v W2 hb2 hi)
    | (with_reducible first|refine pureM_in ?_|((refine idGd ?_); ((refine idGdN ?_); refine zL ?_)))
    | ((with_reducible refine idO ?_); (with_reducible refine oM_gen fun Kv hK=>?_); simp [go_sem, hk.cells]; refine hK _ _ ?_; clear hK; clear Kv)))
    have hk := hk.next hb2
    refine elements_ok s (hs.next hk.below) hi (fun w3 h3 => ?_)
    have k := k _ (hk.next h3).below
    repeat (any_goals (with_reducible ((refine idPick ?_); refine yF ?_)))
    simpa [hx1] using k
theorem tpower_ok (s : Stp) (x n : Int) {dv : Value} (hs : SetR w s dv) (k : ∀ w', Below w.heap.size w w' → K (.int .i64 (powerG s.g x n)) w') : callM Tryz.prog 76 #[stpV s dv, .int .i64 x, .int .i64 n] K w := by
  apply sh_76_ok
  unfold sh_76
  obtain ⟨ad, c, rfl⟩ := hs.ints.isSlice
  refine box_kn (cs := stpC s (.slice ad s.bases.length c)) rfl (.start w) fun b W hk hb1 hb => ?_
  repeat (any_goals ((with_reducible refine idO ?_); (with_reducible refine oM_gen fun Kv hK=>?_); simp [go_sem, hk.cells]; refine hK _ _ ?_; clear hK; clear Kv))
  refine Power_ok s.g x n (fun w2 h2 => ?_)
  exact k _ (hk.next h2).below
theorem generated_ok (s : Stp) (n : Int) {dv : Value} (hs : SetR w s dv) (k : ∀ w', Below w.heap.size w w' → K (.int .i64 (genM s n)) w') : callM Tryz.prog 77 #[stpV s dv, .int .i64 n] K w := by
  apply sh_77_ok
  unfold sh_77
  obtain ⟨ad, c, rfl⟩ := hs.ints.isSlice
  refine box_kn (cs := stpC s (.slice ad s.bases.length c)) rfl (.start w) fun b W hk hb1 hb => ?_
  repeat (any_goals ((with_reducible refine idO ?_); (with_reducible refine oM_gen fun Kv hK=>?_); simp [go_sem, hk.cells]; refine hK _ _ ?_; clear hK; clear Kv))
  refine tpower_ok s _ n (hs.next hk.below) (fun w2 h2 => ?_)
  exact k _ (hk.next h2).below
theorem plus_ok (s : Stp) (x n : Int) {dv : Value} (hs : SetR w s dv) (k : ∀ w', Below w.heap.size w w' → K (.int .i64 (plusQ s x n)) w') : callM Tryz.prog 74 #[stpV s dv, .int .i64 x, .int .i64 n] K w := by
  apply sh_74_ok
  unfold sh_74
  obtain ⟨ad, c, rfl⟩ := hs.ints.isSlice
  refine box_kn (cs := stpC s (.slice ad s.bases.length c)) rfl (.start w) fun b W hk hb1 hb => ?_
  repeat (any_goals ((with_reducible refine idO ?_); (with_reducible refine oM_gen fun Kv hK=>?_); simp [go_sem, hk.cells]; refine hK _ _ ?_; clear hK; clear Kv))
  refine Add_ok _ x n ?_
  exact k _ hk.below
theorem product_t_ok (s : Stp) {dv ev : Value} {es : List Int} (hs : SetR w s dv) (he : Ints w ev es) (k : ∀ w', Below w.heap.size w w' → K (.int .i64 (prodG s.g s.bases es).1) w') : callM Tryz.prog 126 #[stpV s dv, ev] K w := by
  apply sh_126_ok
  unfold sh_126
  have hi := hs.ints
  obtain ⟨ad, c, rfl⟩ := hs.ints.isSlice
  refine box_kn (cs := stpC s (.slice ad s.bases.length c)) rfl (.start w) fun b W hk hb1 hb => ?_
  repeat (any_goals ((with_reducible refine idO ?_); (with_reducible refine oM_gen fun Kv hK=>?_); simp [go_sem, hk.cells]; refine hK _ _ ?_; clear hK; clear Kv))
  refine Product_ok s.g (hi.next hk.below) (he.next hk.below) (fun w2 h2 => ?_)
  repeat (any_goals ((with_reducible refine idO ?_); (with_reducible refine oM_gen fun Kv hK=>?_); simp [go_sem]; refine hK _ _ ?_; clear hK; clear Kv))
  exact k _ (hk.next h2).below
def TmJ (f : Int → Int → Int) (l : List Int) (R : Int) (L : List (Addr × Value)) (w0 : World) (vs : List Value) (w' : World) : Prop := Kn w0 L w' ∧ ∃ (v : Value) (o : Int) (i : Nat), vs = [v, .int .i64 o, .int .i64 (i : Int)] ∧ i ≤ l.length ∧ (l.drop i).foldl f o = R
theorem times_ok (s : Stp) (x : Int) {dv v : Value} {l : List Int} (hs : SetR w s dv) (hl : Ints w v l) (k : ∀ w', Below w.heap.size w w' → K (.int .i64 (timesM s x l)) w') : callM Tryz.prog 127 #[stpV s dv, .int .i64 x, v] K w := by
  apply sh_127_ok
  unfold sh_127
  obtain ⟨ad, c, rfl⟩ := hs.ints.isSlice
  refine box_kn (cs := stpC s (.slice ad s.bases.length c)) rfl (.start w) fun b W hk hb1 hb => ?_
  obtain ⟨ad2, c2, rfl⟩ := hl.isSlice
  have hll := hl.len
  repeat (any_goals ((with_reducible refine idO ?_); (with_reducible refine oM_gen fun Kv hK=>?_); simp [go_sem]; refine hK _ _ ?_; clear hK; clear Kv))
  unfold timesM at k
  refine ⟨TmJ (fun a x => timesG s.g a x) l _ _ w, vsMu l.length, ⟨hk, _, _, 0, rfl, by omega, rfl⟩, ?_⟩
  rintro _ _ w1 ⟨hk, u1, o, i, rfl, hi, ha⟩
  by_cases hin : i = l.length
  · rw [List.drop_of_length_le (by omega), List.foldl_nil] at ha
    repeat (any_goals (first
    | (with_reducible ((refine idCond ?_); refine yO ?_))
    | ((with_reducible refine idO ?_); (with_reducible refine oM_gen fun Kv hK=>?_); simp [go_sem]; refine hK _ _ ?_; clear hK; clear Kv)))
    rw [ha]
    exact k _ hk.below
  · rw [List.drop_eq_getElem_cons (by omega), List.foldl_cons] at ha
    obtain ⟨b1, o1, rfl, hb1, ca, ra, _⟩ := hl.at (i := i) (by omega)
    repeat (any_goals (first
    | (with_reducible ((refine idCond ?_); refine yN ?_))
    | ((with_reducible refine idO ?_); (with_reducible refine oM_gen fun Kv hK=>?_); simp [go_sem, ca _ hk.below, hk.cells]; (first|refine hK _ _ ?_|refine And.intro (by omega) (hK _ _ ?_)); clear hK; clear Kv)))
    refine Times_ok s.g _ _ (fun w2 h2 => ?_)
    repeat (any_goals ((with_reducible refine idO ?_); (with_reducible refine oM_gen fun Kv hK=>?_); simp [go_sem]; (try simp (disch := omega) only [wrapI64, wrapU8, wrapU32, wrapU64]); refine hK _ _ ?_; clear hK; clear Kv))
    refine ⟨⟨hk.next h2, _, _, i + 1, rfl, by omega, ha⟩, ?_⟩
    simp only [vsMu_eq]; omega
theorem mul_ok (s : Stp) (x : Int) {dv v : Value} {l : List Int} (hs : SetR w s dv) (hl : Ints w v l) (k : ∀ w', Below w.heap.size w w' → K (.int .i64 (mulQ s x l)) w') : callM Tryz.prog 75 #[stpV s dv, .int .i64 x, v] K w := by
  apply sh_75_ok
  unfold sh_75
  obtain ⟨ad, c, rfl⟩ := hs.ints.isSlice
  refine box_kn (cs := stpC s (.slice ad s.bases.length c)) rfl (.start w) fun b W hk hb1 hb => ?_
  obtain ⟨ad2, c2, rfl⟩ := hl.isSlice
  have hll := hl.len
  repeat (any_goals ((with_reducible refine idO ?_); (with_reducible refine oM_gen fun Kv hK=>?_); simp [go_sem]; refine hK _ _ ?_; clear hK; clear Kv))
  unfold mulQ at k
  refine ⟨TmJ (fun a x => mulM s.g.Q a x) l _ _ w, vsMu l.length, ⟨hk, _, _, 0, rfl, by omega, rfl⟩, ?_⟩
  rintro _ _ w1 ⟨hk, u1, o, i, rfl, hi, ha⟩
  by_cases hin : i = l.length
  · rw [List.drop_of_length_le (by omega), List.foldl_nil] at ha
    repeat (any_goals (first
    | (with_reducible ((refine idCond ?_); refine yO ?_))
    | ((with_reducible refine idO ?_); (with_reducible refine oM_gen fun Kv hK=>?_); simp [go_sem]; refine hK _ _ ?_; clear hK; clear Kv)))
    rw [ha]
    exact k _ hk.below
  · rw [List.drop_eq_getElem_cons (by omega), List.foldl_cons] at ha
    obtain ⟨b1, o1, rfl, hb1, ca, ra, _⟩ := hl.at (i := i) (by omega)
    repeat (any_goals (first
    | (with_reducible ((refine idCond ?_); refine yN ?_))
    | ((with_reducible refine idO ?_); (with_reducible refine oM_gen fun Kv hK=>?_); simp [go_sem, ca _ hk.below, hk.cells]; (first|refine hK _ _ ?_|refine And.intro (by omega) (hK _ _ ?_)); clear hK; clear Kv)))
    refine Mul_ok _ _ _ (fun w2 h2 => ?_)
    repeat (any_goals ((with_reducible refine idO ?_); (with_reducible refine oM_gen fun Kv hK=>?_); simp [go_sem]; (try simp (disch := omega) only [wrapI64, wrapU8, wrapU32, wrapU64]); refine hK _ _ ?_; clear hK; clear Kv))
    refine ⟨⟨hk.next h2, _, _, i + 1, rfl, by omega, ha⟩, ?_⟩
    simp only [vsMu_eq]; omega
end
end Go.Proofs
namespace Go.Sh
open Go Go.RowKit
theorem cells_lt {w : World} : ∀ {L : List (Addr × Value)}, cellsAre w L → ∀ p ∈ L, p.1.block < w.heap.size
  | p :: l, h, q, hq => by
    rcases List.mem_cons.1 hq with rfl | hq
    · have h1 := h.1
      by_cases hc : q.1.block < w.heap.size
      · exact hc
      · unfold World.cell? at h1
        rw [Array.getElem?_eq_none (by omega)] at h1
        simp at h1
    · exact cells_lt h.2 q hq
structure KnM (w0 : World) (L : List (Addr × Value)) (g n : Nat) (w' : World) : Prop where
  kn : Kn w0 L w'
  mine : Mine w' g n
  base : w0.heap.size ≤ g
  off : ∀ p ∈ L, p.1.block ≠ g
theorem mine_lt {w : World} {g n : Nat} (h : Mine w g n) : g < w.heap.size := by
  obtain ⟨cur, T, h1, _⟩ := h
  exact (Array.getElem?_eq_some_iff.1 h1).1
theorem cellsOf_mem {L : List (Addr × Value)} {b : Nat} : ∀ (cs : List Value) (i : Nat) (p : Addr × Value), p ∈ cellsOf L b i cs → p.1.block = b ∨ p ∈ L
  | [], _, _, h => .inr h
  | _ :: l, i, p, h => by
    rcases List.mem_cons.1 h with rfl | h
    · exact .inl rfl
    · exact cellsOf_mem l (i + 1) p h
namespace KnM
variable {w0 w w' : World} {L : List (Addr × Value)} {g n : Nat}
theorem next (h : KnM w0 L g n w) (hb : Below w.heap.size w w') : KnM w0 L g n w' := ⟨h.kn.next hb, h.mine.next hb, h.base, h.off⟩
theorem drew (h : KnM w0 L g n w) : KnM w0 L g n { w with drawn := w.drawn + 1 } := h.next .drawn
theorem cells (h : KnM w0 L g n w) : cellsAre w L := h.kn.cells
theorem below (h : KnM w0 L g n w) : Below w0.heap.size w0 w := h.kn.below
end KnM
section
variable {P : Program} {w0 w : World} {K : Value → World → Prop} {T T' : TypeId} {L : List (Addr × Value)} {g n : Nat}
theorem alloc_mine {zs : List Value} (hA : ∀ w, (Instr.alloc T true (.tuple #[])).run P w = .ok (.pointer (some ⟨w.heap.size, 0, none⟩)) (w.alloc (.cells zs.toArray T))) (hn : zs.length = n) (hk : Kn w0 L w)
    (k : ∀ g W, KnM w0 L g n W → Below w.heap.size w W → w.heap.size ≤ g → K (.pointer (some ⟨g, 0, none⟩)) W) : oM P (.alloc T) T' [] K w := by
  rw [oM_alloc, hA]
  have hb := (Below.refl w.heap.size w).alloc (Nat.le_refl _) (.cells zs.toArray T)
  refine k _ _ ⟨hk.next hb, ⟨zs.toArray, T, ?_, by simpa using hn⟩, hk.below.size, fun p hp => ?_⟩ hb (Nat.le_refl _)
  · show (w.heap.push _)[w.heap.size]? = _
    simp
  · have := cells_lt hk.cells p hp
    omega
theorem store_run {x : Value} {xs : List Value} {W : World} (hT : ∀ w, (sizeOf T).run P w = .ok n w) (hx : x.cells = xs.toArray) (hl : xs.length = n) (h1 : ∀ u ∈ xs, u.oneCell' = true) (hm : Mine w g n) :
    ∃ W, (Instr.storeAt T (.pointer (some ⟨g, 0, none⟩)) x).run P w = .ok () W ∧ w.grownBy W (some g) ∧ Mine W g n ∧ cellsAre W (cellsOf [] g 0 xs) := by
  obtain ⟨cur, T0, hg, hc⟩ := hm
  have hst := run_storeCells_at P g 0 T0 xs 0 cur w hg (by omega) h1
  have e1 : (cur.toList.take (0 + 0) ++ xs ++ cur.toList.drop (0 + 0 + xs.length)).toArray = xs.toArray := by
    rw [List.drop_of_length_le (by simp; omega)]
    simp
  rw [e1] at hst
  have hh := setRow_heap w g cur xs.toArray T0 (0, 0) hg
  refine ⟨w.setRow g xs.toArray, ?_, grown_setRow _ _ _, ⟨_, _, hh, by simpa using hl⟩, cellsOf_are (xs := xs) (L := []) trivial (fun i v hi => ?_) xs 0 rfl⟩
  · have e2 : x.cells.toList = xs := by rw [hx]
    have e3 : x.cells.size = n := by rw [hx]; simpa using hl
    unfold Instr.storeAt storeVar
    rw [e2, e3]
    simp [hT, go_sem]
    exact hst
  · unfold World.cell?
    rw [hh]
    simpa using hi
theorem store_mine {x : Value} {xs : List Value} (hT : ∀ w, (sizeOf T).run P w = .ok n w) (hx : x.cells = xs.toArray) (hl : xs.length = n) (h1 : ∀ u ∈ xs, u.oneCell' = true) (hk : KnM w0 L g n w)
    (k : ∀ W, KnM w0 L g n W → cellsAre W (cellsOf [] g 0 xs) → K undef W) : oM P (.store T (.tmp 0) (.tmp 1)) T' [.pointer (some ⟨g, 0, none⟩), x] K w := by
  obtain ⟨W, e, hg, hm, hc⟩ := store_run (W := w) hT hx hl h1 hk.mine
  rw [oM_store, e]
  exact k W ⟨hk.kn.wrote hg hk.base hk.off, hm, hk.base, hk.off⟩ hc
theorem local_kn {zs : List Value} {x : Value} {xs : List Value} {T2 : TypeId} {K : Value → World → Prop} (hA : ∀ w, (Instr.alloc T true (.tuple #[])).run P w = .ok (.pointer (some ⟨w.heap.size, 0, none⟩)) (w.alloc (.cells zs.toArray T))) (hn : zs.length = n)
    (hT : ∀ w, (sizeOf T).run P w = .ok n w) (hx : x.cells = xs.toArray) (hl : xs.length = n) (h1 : ∀ u ∈ xs, u.oneCell' = true) (hk : Kn w0 L w)
    (k : ∀ b W, Kn w0 (cellsOf L b 0 xs) W → Below w.heap.size w W → w.heap.size ≤ b → K (.pointer (some ⟨b, 0, none⟩)) W) :
    oM P (.alloc T) T' [] (fun v w => oM P (.store T (.tmp 0) (.tmp 1)) T2 [v, x] (fun _ w => K v w) w) w := by
  refine alloc_mine hA hn hk fun g W hk2 hb hg => ?_
  obtain ⟨W2, e, hgr, hm, hc⟩ := store_run (W := w) hT hx hl h1 hk2.mine
  rw [oM_store, e]
  have hb2 : Below w.heap.size w W2 := hb.grown hgr hb.size (fun k hk => by cases hk; exact hg)
  refine k g W2 ⟨(hk2.kn.wrote hgr hk2.base hk2.off).below, ?_⟩ hb2 hg
  have hL := (hk2.kn.wrote hgr hk2.base hk2.off).cells
  clear e k
  have : ∀ (l : List Value) (i : Nat), cellsAre W2 (cellsOf [] g i l) → cellsAre W2 (cellsOf L g i l) := by
    intro l
    induction l with
    | nil => intro i _; exact hL
    | cons a l ih => intro i h; exact ⟨h.1, ih (i + 1) h.2⟩
  exact this xs 0 hc
theorem local_knm {zs : List Value} {x : Value} {xs : List Value} {T2 : TypeId} {K : Value → World → Prop} {m : Nat} (hA : ∀ w, (Instr.alloc T true (.tuple #[])).run P w = .ok (.pointer (some ⟨w.heap.size, 0, none⟩)) (w.alloc (.cells zs.toArray T))) (hn : zs.length = m)
    (hT : ∀ w, (sizeOf T).run P w = .ok m w) (hx : x.cells = xs.toArray) (hl : xs.length = m) (h1 : ∀ u ∈ xs, u.oneCell' = true) (hk : KnM w0 L g n w)
    (k : ∀ b W, KnM w0 (cellsOf L b 0 xs) g n W → Below w.heap.size w W → w.heap.size ≤ b → K (.pointer (some ⟨b, 0, none⟩)) W) :
    oM P (.alloc T) T' [] (fun v w => oM P (.store T (.tmp 0) (.tmp 1)) T2 [v, x] (fun _ w => K v w) w) w :=
  local_kn hA hn hT hx hl h1 hk.kn fun b W hk' h1 h2 => k b W ⟨hk', hk.mine.next h1, hk.base, fun p hp => (cellsOf_mem xs 0 p hp).elim (fun e => by have := mine_lt hk.mine; omega) (hk.off p)⟩ h1 h2
variable {C : World → Prop} {KQ : Value → Prop} {x y v : Value} {p : Prop} [Decidable p]
theorem idOH {o : Op} {l : List Value} (h : oH P o T l C KQ) : oH P o T l C KQ := h
end
end Go.Sh
namespace Go.Proofs
open Go Go.Sh Go.RowKit FdSpec TkSpec
set_option linter.unusedSimpArgs false
set_option linter.unusedVariables false
set_option maxRecDepth 10000
section
variable {K : Value → World → Prop} {w w0 : World} {L : List (Addr × Value)}
theorem sz_desk (w : World) : (sizeOf 111).run Tryz.prog w = .ok 5 w := by kernel_rfl
theorem al_desk (w : World) : (Instr.alloc 111 true (.tuple #[])).run Tryz.prog w = .ok (.pointer (some ⟨w.heap.size, 0, none⟩)) (w.alloc (.cells [.int .i64 0, .int .i64 0, .int .i64 0, .slice none 0 0, .int .i64 0].toArray 111)) := by kernel_rfl
theorem stp_one (s : Stp) (ad : Option Addr) (n c : Nat) : ∀ u ∈ stpC s (.slice ad n c), u.oneCell' = true := by
  intro u hu
  simp only [stpC, List.mem_cons, List.not_mem_nil, or_false] at hu
  rcases hu with rfl | rfl | rfl | rfl | rfl <;> rfl
theorem open_ok (s : Stp) {v : Value} (hs : SetR w s v) (k : ∀ w', Below w.heap.size w w' → K (.tuple #[stpV s v, .bool (validS s)]) w') : callM Tryz.prog 78 #[stpV s v] K w := by
  apply sh_78_ok
  unfold sh_78
  obtain ⟨ad, c, rfl⟩ := hs.ints.isSlice
  refine box_kn (cs := stpC s (.slice ad s.bases.length c)) rfl (.start w) fun b W hk hb1 hb => ?_
  refine alloc_mine al_desk rfl hk fun g W2 hk hb2 hg => ?_
  refine ⟨KnM w _ g 5, hk.drew, ?_⟩
  have hk := hk.drew
  have hone := stp_one s ad s.bases.length c
  repeat (any_goals ((with_reducible refine idOH ?_); (with_reducible refine oH_of ⟨_, rfl⟩ (fun W0 hW0 => by (refine oM_gen (fun Kv hK => ?_)); simp [go_sem, hW0.cells]; (first | exact hK _ _ ⟨rfl, rfl⟩ | exact ⟨by omega, hK _ _ ⟨rfl, rfl⟩⟩)) ?_)))
  refine ⟨?_, ?_⟩
  · repeat (any_goals ((with_reducible refine idO ?_); (with_reducible refine oM_gen fun Kv hK=>?_); simp [go_sem]; refine hK _ _ ?_; clear hK; clear Kv))
    refine ⟨hk, ?_⟩
    refine ValidSetup_ok s (hs.next hk.below) (fun w2 h2 => ?_)
    have hk := hk.next h2
    refine ⟨hk, ?_⟩
    refine store_mine sz_desk rfl rfl hone hk (fun W3 hk hc => ?_)
    exact ⟨hk, hk, _, by simp [go_sem, hc], k _ hk.below⟩
  · refine ValidSetup_ok s (hs.next hk.below) (fun w2 h2 => ?_)
    have hk := hk.next h2
    refine ⟨hk, ?_⟩
    repeat (any_goals ((with_reducible refine idO ?_); (with_reducible refine oM_gen fun Kv hK=>?_); simp [go_sem]; refine hK _ _ ?_; clear hK; clear Kv))
    refine ⟨hk, ?_⟩
    refine store_mine sz_desk rfl rfl hone hk (fun W3 hk hc => ?_)
    exact ⟨hk, hk, _, by simp [go_sem, hc], k _ hk.below⟩
end
end Go.Proofs
set_option linter.all false
namespace Go.Proofs
open Go.Shelf
def Tryz.laysNm2_21_ren : Go.Shelf.Ren := ⟨fun | 21 => 141 | 27 => 182 | 28 => 183 | 35 => 205 | 39 => 223 | n => n, fun | 22 => 22 | 3 => 3 | 4 => 4 | 0 => 0 | n => n, fun | n => n⟩
theorem Tryz.laysNm2_21 : Go.Proofs.Lays2.n21 Tryz.prog Tryz.laysNm2_21_ren := {
  mixed := by kernel_rfl
  f21 := Tryz.func141.trans (congrArg some (by kernel_rfl))
  f27 := Tryz.func182.trans (congrArg some (by kernel_rfl))
  f28 := Tryz.func183.trans (congrArg some (by kernel_rfl))
  f35 := Tryz.func205.trans (congrArg some (by kernel_rfl))
  f39 := Tryz.func223.trans (congrArg some (by kernel_rfl))
  t0 := Tryz.underlying0
  a0 := Tryz.isAgg0
  z0 := Tryz.sizeOf0
  v0 := Tryz.zeroValue0
  t3 := Tryz.underlying3
  a3 := Tryz.isAgg3
  z3 := Tryz.sizeOf3
  v3 := Tryz.zeroValue3
  t4 := Tryz.underlying4
  a4 := Tryz.isAgg4
  z4 := Tryz.sizeOf4
  v4 := Tryz.zeroValue4
  t22 := Tryz.underlying22
  a22 := Tryz.isAgg22
  z22 := Tryz.sizeOf22
  v22 := Tryz.zeroValue22
  i3 := by kernel_rfl }
end Go.Proofs
namespace Go.Proofs
open Go Go.Sh Go.RowKit FdSpec TkSpec
set_option linter.unusedSimpArgs false
set_option linter.unusedVariables false
set_option maxRecDepth 10000
section
variable {K : Value → World → Prop} {w w0 : World} {L : List (Addr × Value)}
theorem eqNil_at {P : Program} {w : World} {K : Value → World → Prop} {t e T : TypeId} {a : Option Addr} {n c : Nat} (ht : P.underlying t = some (.slice e)) (k : K (.bool a.isNone) w) : oM P (.binOp .eql t (.tmp 0) (.const (.slice none 0 0)) t) T [.slice a n c] K w := by
  rw [oM_eqc]
  have := Lib.run_eql_slice_nil (P := P) w t e a n c 0 0 ht
  simp only [Sem.run_bind]
  have h2 : (eqGuard .eql t (.tmp 0) (.const (.slice none 0 0)) (.slice a n c) (.slice none 0 0)).run P w = .ok () w := by
    simp [eqGuard]
  rw [h2, Result.andThen_ok, this]
  exact k
theorem below_set {B : Nat} {a : World} (g : Nat) (hg : B ≤ g) : ∀ (vs : List Value) (o : Nat) (w : World), Below B a w → Below B a (w.setCells g o vs)
  | [], _, _, h => h
  | v :: r, o, w, h => below_set g hg r (o + 1) _ (h.setCell (p := ⟨g, o, none⟩) hg v)
theorem some_set (b : Nat) (vs : List Value) (o : Nat) (w : World) (h : ∀ j, j < vs.length → (w.cell? ⟨b, o + j, none⟩).isSome = true) (k : Nat) (hk : (w.cell? ⟨b, k, none⟩).isSome = true) : ((w.setCells b o vs).cell? ⟨b, k, none⟩).isSome = true := by
  by_cases hin : o ≤ k ∧ k < o + vs.length
  · have := World.cell?_setCells_in b vs o w h (k - o) (by omega)
    rw [show o + (k - o) = k by omega] at this
    rw [this]; rfl
  · rw [World.cell?_setCells_out b vs o w ⟨b, k, none⟩ (fun _ _ => by show k < o ∨ o + vs.length ≤ k; omega)]
    exact hk
theorem shifted1 {w : World} {g : Nat} {x : Value} {cs : List Value} (h : ∀ j, j < cs.length + 1 → (w.cell? ⟨g, j, none⟩).isSome = true) (k : Nat) (v : Value) (hk : (x :: cs)[k]? = some v) : ((w.setCells g 1 cs).setCells g 0 [x]).cell? ⟨g, k, none⟩ = some v := by
  have h1 : ∀ j, j < cs.length → (w.cell? ⟨g, 1 + j, none⟩).isSome = true := fun j hj => h _ (by omega)
  cases k with
  | zero =>
    have := World.cell?_setCells_in g [x] 0 (w.setCells g 1 cs) (fun j hj => by
      have : j = 0 := by simpa using hj
      subst this
      exact some_set g cs 1 w h1 0 (h 0 (by omega))) 0 (by simp)
    rw [this]
    simpa using hk
  | succ k =>
    have hlt : k < cs.length := by
      have := (List.getElem?_eq_some_iff.1 hk).1
      simpa using this
    rw [World.cell?_setCells_out g [x] 0 _ ⟨g, k + 1, none⟩ (fun _ _ => by show k + 1 < 0 ∨ 0 + 1 ≤ k + 1; omega)]
    have := World.cell?_setCells_in g cs 1 w h1 k hlt
    rw [show k + 1 = 1 + k by omega, this, ← hk]
    simp [hlt]
theorem shifted2 {w : World} {g : Nat} {x : Value} {cs : List Value} (h : ∀ j, j < cs.length + 1 → (w.cell? ⟨g, j, none⟩).isSome = true) (k : Nat) (v : Value) (hk : (x :: cs)[k]? = some v) : ((w.setCells g 0 [x]).setCells g 1 cs).cell? ⟨g, k, none⟩ = some v := by
  have h1 : ∀ j, j < [x].length → (w.cell? ⟨g, 0 + j, none⟩).isSome = true := fun j hj => h _ (by simp at hj; omega)
  cases k with
  | zero =>
    rw [World.cell?_setCells_out g cs 1 _ ⟨g, 0, none⟩ (fun _ _ => by show 0 < 1 ∨ 1 + cs.length ≤ 0; omega)]
    have := World.cell?_setCells_in g [x] 0 w h1 0 (by simp)
    rw [this]
    simpa using hk
  | succ k =>
    have hlt : k < cs.length := by
      have := (List.getElem?_eq_some_iff.1 hk).1
      simpa using this
    have := World.cell?_setCells_in g cs 1 (w.setCells g 0 [x]) (fun j hj => some_set g [x] 0 w h1 (1 + j) (h _ (by omega))) k hlt
    rw [show k + 1 = 1 + k by omega, this, ← hk]
    simp [hlt]
theorem Clone_ok {v : Value} {l : List Int} (hr : Ints w v l) (hl : l.length < 1099511627776) (k : ∀ v' w', w'.ownsRow 0 3 1 v' l.length (flat intC l) → Below w.heap.size w w' → (∀ i, v'.ownBlock = some i → w.heap.size ≤ i) → K v' w') : callM Tryz.prog 142 #[v] K w := by
  apply sh_142_ok
  unfold sh_142
  have hi := hr.row
  obtain ⟨ad, c, rfl, h0, hc⟩ := id hi
  refine eqNil_at (e := 3) (by kernel_rfl) ?_
  cases ad with
  | none =>
    obtain ⟨hl0, rfl⟩ := h0 rfl
    obtain rfl : l = [] := List.eq_nil_of_length_eq_zero hl0
    simp only [Option.isNone_none]
    repeat (any_goals (with_reducible ((refine idCond ?_); refine yL ?_)))
    exact k _ _ (World.ownsRow_nil _ _ _ _) (Below.refl _ _) (fun i hi => by cases hi)
  | some a =>
    simp only [Option.isNone_some]
    repeat (any_goals (first
    | (with_reducible ((refine idCond ?_); refine yM ?_))
    | ((with_reducible refine idO ?_); (with_reducible refine oM_gen fun Kv hK=>?_); simp [go_sem]; refine hK _ _ ?_; clear hK; clear Kv)))
    have hr2 : RowR intC 1 (w.alloc (.cells #[] 3)) (.slice (some a) l.length c) l := hi.keep (by rw [alloc_size]; omega) (fun i _ hi => heap_alloc_old _ _ hi)
    refine clone_at 22 22 3 ((Tryz.prog.info? 3).getD default) (.int .i64 0) 1 8 (by kernel_rfl) (by kernel_rfl) (by kernel_rfl) (by kernel_rfl) (by kernel_rfl) (by kernel_rfl) (by omega) (fun _ => rfl) (fun x u hu => by simp [intC] at hu; subst hu; rfl) hr2 (World.ownsRow_lit w #[] 0 (Nat.zero_le _) (Nat.zero_le _) rfl) (B := w.heap.size) (by rw [alloc_size]; omega) (fun i hi => by cases hi; exact Nat.le_refl _) (by omega) (by omega) ?_
    intro v' w' ho hg hv
    exact k v' w' ho (((Below.refl _ _).alloc (Nat.le_refl _) _).grown hg (by rw [alloc_size]; omega) (fun i hi => by cases hi; exact Nat.le_refl _)) hv
theorem Insert_ok {g c : Nat} {l : List Int} {x : Int} {b : Nat} (hne : 0 < l.length) (hl : l.length < 1099511627776) (ho : w.ownsRow 0 3 1 (.slice (some ⟨g, 0, none⟩) l.length c) l.length (flat intC l)) {B : Nat} (hB : B ≤ g) (hBw : B ≤ w.heap.size)
    (hx : w.heap[b]? = some (.cells #[.int .i64 x] 3 (0, 0))) (hbg : b ≠ g) (hr : ∀ n ∈ l, I64 n) (hrx : I64 x) (k : ∀ v' w', Ints w' v' (x :: l) → Below B w w' → (∀ i, Value.inBlock v' = some i → B ≤ i) → K v' w') :
    callM Tryz.prog 141 #[.slice (some ⟨g, 0, none⟩) l.length c, .int .i64 0, .slice (some ⟨b, 0, none⟩) 1 1] K w := by
  obtain ⟨g', cap, cur, hv, hgw, _, hgb, hcs, hcap, hcell⟩ := owns_cells ho hne
  cases hv
  have hxc : ∀ (j : Nat) (v : Value), [Value.int .i64 x][j]? = some v → w.cell? ⟨b, 0 + j, none⟩ = some v := by
    intro j v hj
    rw [cell_of_block hx]
    simpa using hj
  have hcc : ∀ (j : Nat) (v : Value), (flat intC l)[j]? = some v → w.cell? ⟨g, 0 + j, none⟩ = some v := by
    intro j v hj
    rw [Nat.zero_add]
    exact hcell j v hj
  have h1 : ∀ v ∈ flat intC l, v.oneCell' = true := by
    intro v hv
    rw [flat_int] at hv
    obtain ⟨n, _, rfl⟩ := List.mem_map.1 hv
    rfl
  have h1x : ∀ v ∈ [Value.int .i64 x], v.oneCell' = true := by
    intro v hv
    simp at hv
    subst hv
    rfl
  have hfl : (flat intC l).length = l.length := by rw [flat_int]; simp
  have hbw : b < w.heap.size := (Array.getElem?_eq_some_iff.1 hx).1
  have hxx : ∀ n ∈ x :: l, I64 n := by
    intro n hn
    rcases List.mem_cons.1 hn with rfl | hn
    · exact hrx
    · exact hr n hn
  have hlx : (flat intC (x :: l)) = .int .i64 x :: flat intC l := rfl
  have hcm : c ≤ 9223372036854775807 := by
    rcases ho.2 with ⟨h0, _⟩ | ⟨g2, cap2, cur2, hv2, _, _, _, hm2, _⟩
    · cases h0
    · cases hv2
      simp only [maxLen] at hm2
      omega
  by_cases hroom : l.length + 1 ≤ c
  · have hsm : ∀ j, j < l.length + 1 → (w.cell? ⟨g, j, none⟩).isSome = true := by
      intro j hj
      rw [cell_of_block hgb]
      simp
      omega
    have h := Any2.slices_Insert_int_shift Tryz.laysNm2_21 g 0 l.length c 0 b 0 1 1 (flat intC l) [.int .i64 x] w (by omega) (by omega) hroom hcm hbg hfl rfl hcc (fun j hj => by rw [Nat.zero_add]; exact hsm j hj)
      (fun j hj => by unfold World.frozen?; rw [hgb]; simp) hxc h1 h1x 3 3 1 cur.size (by unfold World.shape?; rw [hx]; rfl) (by unfold World.shape?; rw [hgb]) (by omega) (by unfold World.frozen?; rw [hx]; simp) (by unfold World.frozen?; rw [hx]; simp)
    refine Calls.mono h ?_
    rintro e w' ⟨rfl, rfl⟩
    have hb2 : ∀ B' : Nat, B' ≤ g → Below B' w ((w.drew.setCells g (0 + (0 + 1)) (List.drop 0 (flat intC l))).setCells g (0 + 0) [Value.int .i64 x]) := fun B' hB' =>
      below_set g hB' _ _ _ (below_set g hB' _ _ _ (Below.refl _ w).drew)
    refine ⟨_, rfl, k _ _ ⟨⟨_, c, rfl, by simp, .inr ⟨g, 0, rfl, Nat.lt_of_lt_of_le hgw (hb2 0 (Nat.zero_le _)).size, fun j v hj => ?_⟩⟩, hxx, by simp; omega⟩ (hb2 B hB) (fun i hi => by cases hi; exact hB)⟩
    simp only [Nat.zero_add, Nat.add_zero, List.drop_zero]
    rw [hlx] at hj
    exact shifted1 (w := w.drew) (fun j hj => hsm j (by rw [hfl] at hj; exact hj)) j v hj
  · have h := Any2.slices_Insert_int_grow Tryz.laysNm2_21 g 0 l.length c 0 b 0 1 1 (flat intC l) [.int .i64 x] w (by omega) (by omega) (by omega) (by omega) (by omega) hfl rfl hcc hxc h1 h1x
    refine Calls.mono h ?_
    rintro e w' ⟨rfl, rfl⟩
    have hG := grownCap_ge w (l.length + 1) c 3
    have e3 : Tryz.laysNm2_21_ren.t 3 = 3 := rfl
    rw [e3]
    generalize grownCap w (l.length + 1) c 3 = G at *
    simp only [List.take_zero, List.drop_zero, Nat.zero_add, Nat.add_zero, Nat.sub_zero]
    have hsm : ∀ j, j < (flat intC l).length + 1 → ((w.alloc (.cells (([] : List Value).toArray ++ Builtin.zeroCells (Value.int .i64 0).cells (l.length + 1) ++ Builtin.zeroCells (Value.int .i64 0).cells (G - (l.length + 1))) 3)).drew.cell? ⟨w.heap.size, j, none⟩).isSome = true := by
      intro j hj
      rw [hfl] at hj
      have := World.cell?_alloc_at (w := w) (([] : List Value).toArray ++ Builtin.zeroCells (Value.int .i64 0).cells (l.length + 1) ++ Builtin.zeroCells (Value.int .i64 0).cells (G - (l.length + 1))) 3 w.heap.size j rfl
      show (World.cell? _ _).isSome = true
      refine (congrArg Option.isSome this).trans ?_
      rw [Array.getElem?_eq_getElem (by simp [Builtin.zeroCells, Value.cells]; omega)]
      rfl
    generalize hW : w.alloc (.cells (([] : List Value).toArray ++ Builtin.zeroCells (Value.int .i64 0).cells (l.length + 1) ++ Builtin.zeroCells (Value.int .i64 0).cells (G - (l.length + 1))) 3) = W at *
    have hbW : Below w.heap.size w W := by rw [← hW]; exact (Below.refl _ w).alloc (Nat.le_refl _) _
    have hWs : w.heap.size < W.heap.size := by rw [← hW, alloc_size]; omega
    have hb2 : Below w.heap.size w (((W.drew.setCells w.heap.size 0 [Value.int .i64 x]).drew).setCells w.heap.size 1 (flat intC l)) :=
      below_set _ (Nat.le_refl _) _ _ _ (below_set _ (Nat.le_refl _) _ _ _ hbW.drew).drew
    have hs2 : w.heap.size < (((W.drew.setCells w.heap.size 0 [Value.int .i64 x]).drew).setCells w.heap.size 1 (flat intC l)).heap.size :=
      Nat.lt_of_lt_of_le hWs (below_set w.heap.size (Nat.zero_le _) _ _ _ (below_set w.heap.size (Nat.zero_le _) _ _ _ (Below.refl 0 W).drew).drew).size
    refine ⟨_, rfl, k _ _ ⟨⟨_, G, rfl, by simp, .inr ⟨_, 0, rfl, hs2, fun j v hj => ?_⟩⟩, hxx, by simp; omega⟩ (hb2.mono hBw) (fun i hi => by cases hi; exact hBw)⟩
    rw [Nat.zero_add]
    rw [hlx] at hj
    rw [drew_setCells]
    exact shifted2 (w := W.drew.drew) (g := w.heap.size) (x := .int .i64 x) (cs := flat intC l) hsm j v hj
end
end Go.Proofs
namespace Go.Proofs
open Go Go.Sh Go.RowKit FdSpec TkSpec
set_option linter.unusedSimpArgs false
set_option linter.unusedVariables false
set_option maxRecDepth 10000
section
variable {K : Value → World → Prop} {w w0 : World} {L : List (Addr × Value)}
theorem exps_ok {v : Value} {l : List Int} (hl : Ints w v l) (hne : 0 < l.length) (hln : l.length < 1099511627776) (k : ∀ v' w', Ints w' v' (expsM l) → Below w.heap.size w w' → (∀ i, Value.inBlock v' = some i → w.heap.size ≤ i) → K v' w') : callM Tryz.prog 73 #[v] K w := by
  apply sh_73_ok
  unfold sh_73
  refine Clone_ok hl hln (fun v1 w1 ho hb hv => ?_)
  obtain ⟨g, cap, cur, rfl, hgw, _, hgb, hcs, hcap, hcell⟩ := owns_cells ho hne
  have hg := hv g rfl
  have e : (Instr.buildSlice 22 1 #[(0, .int .i64 1)]).run Tryz.prog w1 = .ok (.slice (some ⟨w1.heap.size, 0, none⟩) 1 1) (w1.alloc (.cells #[.int .i64 1] 3)) := by kernel_rfl
  rw [oM_buildSlice1, e, rM_ok]
  have hb2 := (Below.refl w1.heap.size w1).alloc (Nat.le_refl _) (.cells #[.int .i64 1] 3)
  refine Insert_ok (x := 1) (B := w.heap.size) hne hln (ho.alloc _) hg (by rw [alloc_size]; have := hb.size; omega) (b := w1.heap.size) (by show (w1.heap.push _)[w1.heap.size]? = _; exact Array.getElem?_push_size) (by omega) hl.rng (by unfold I64; omega) (fun v' w' hi hbb hff => ?_)
  exact k _ _ hi ((hb.on hb2).trans hbb) hff
theorem markM_no {s : Stp} {l : List Int} (h : validS s = false ∨ l.length + 1 ≠ s.bases.length ∨ numsM s 0 l = false ∨ l.headD 0 = 0) : markM s l = (0, false) := by
  unfold markM
  rw [if_neg]
  intro hc
  simp only [Bool.and_eq_true, decide_eq_true_eq, Bool.not_eq_true', decide_eq_false_iff_not] at hc
  obtain ⟨⟨⟨h1, h2⟩, h3⟩, h4⟩ := hc
  rcases h with h | h | h | h
  · rw [h] at h1; cases h1
  · exact h h2
  · rw [h] at h3; cases h3
  · exact h4 h
theorem markM_yes {s : Stp} {l : List Int} (h1 : validS s = true) (h2 : l.length + 1 = s.bases.length) (h3 : numsM s 0 l = true) (h4 : l.headD 0 ≠ 0) : markM s l = ((prodG s.g s.bases (expsM l)).1, true) := by
  unfold markM
  rw [if_pos]
  simp only [Bool.and_eq_true, decide_eq_true_eq, Bool.not_eq_true', decide_eq_false_iff_not]
  exact ⟨⟨⟨h1, h2⟩, h3⟩, h4⟩
theorem local_desk {K : Value → World → Prop} {T' T2 : TypeId} {g n : Nat} (s : Stp) (ad : Option Addr) (m c : Nat) (hk : KnM w0 L g n w)
    (k : ∀ b W, KnM w0 (cellsOf L b 0 (stpC s (.slice ad m c))) g n W → Below w.heap.size w W → w.heap.size ≤ b → K (.pointer (some ⟨b, 0, none⟩)) W) :
    oM Tryz.prog (.alloc 111) T' [] (fun v w => oM Tryz.prog (.store 111 (.tmp 0) (.tmp 1)) T2 [v, stpV s (.slice ad m c)] (fun _ w => K v w) w) w :=
  local_knm al_desk rfl sz_desk rfl rfl (stp_one s ad m c) hk k
theorem local_desk' {K : Value → World → Prop} {T' T2 : TypeId} (s : Stp) (ad : Option Addr) (m c : Nat) (hk : Kn w0 L w)
    (k : ∀ b W, Kn w0 (cellsOf L b 0 (stpC s (.slice ad m c))) W → Below w.heap.size w W → w.heap.size ≤ b → K (.pointer (some ⟨b, 0, none⟩)) W) :
    oM Tryz.prog (.alloc 111) T' [] (fun v w => oM Tryz.prog (.store 111 (.tmp 0) (.tmp 1)) T2 [v, stpV s (.slice ad m c)] (fun _ w => K v w) w) w :=
  local_kn al_desk rfl sz_desk rfl rfl (stp_one s ad m c) hk k
theorem validS_len {s : Stp} (h : validS s = true) : 2 ≤ s.bases.length ∧ s.bases.length ≤ 7 := by
  unfold validS at h
  simp only [Bool.and_eq_true, decide_eq_true_eq] at h
  exact ⟨h.1.1.1.2, h.1.1.2⟩
theorem store_desk {K : Value → World → Prop} {T' : TypeId} {g : Nat} (s : Stp) (ad : Option Addr) (m c : Nat) (hk : KnM w0 L g 5 w)
    (k : ∀ W, KnM w0 L g 5 W → cellsAre W (cellsOf [] g 0 (stpC s (.slice ad m c))) → K undef W) : oM Tryz.prog (.store 111 (.tmp 0) (.tmp 1)) T' [.pointer (some ⟨g, 0, none⟩), stpV s (.slice ad m c)] K w :=
  store_mine sz_desk rfl rfl (stp_one s ad m c) hk k
theorem _root_.Go.Sh.Ints.headD {w : World} {ad : Option Addr} {n c : Nat} {l : List Int} (h : Ints w (.slice ad n c) l) (hne : 0 < l.length) :
    ∃ b o, ad = some ⟨b, o, none⟩ ∧ (∀ w', Below w.heap.size w w' → w'.cell? ⟨b, o, none⟩ = some (.int .i64 (l.headD 0))) ∧ I64 (l.headD 0) := by
  obtain ⟨b, o, rfl, _, hc, hr, _⟩ := h.at hne
  have e : l[0] = l.headD 0 := by
    cases l with
    | nil => simp at hne
    | cons a l => rfl
  rw [e] at hc hr
  exact ⟨b, o, rfl, fun w' hb => by have := hc w' hb; simpa using this, hr⟩
theorem mark_ok (s : Stp) {v lv : Value} {l : List Int} (hs : SetR w s v) (hl : Ints w lv l) (k : ∀ w', Below w.heap.size w w' → K (.tuple #[stpV s v, .int .i64 (markM s l).1, .bool (markM s l).2]) w') : callM Tryz.prog 95 #[stpV s v, lv] K w := by
  apply sh_95_ok
  unfold sh_95
  obtain ⟨ad, c, rfl⟩ := hs.ints.isSlice
  have hone := stp_one s ad s.bases.length c
  have k2 : ∀ w' r, markM s l = r → Below w.heap.size w w' → K (.tuple #[stpV s (.slice ad s.bases.length c), .int .i64 r.1, .bool r.2]) w' := fun w' r e hb => by rw [← e]; exact k w' hb
  clear k
  refine box_kn (cs := stpC s (.slice ad s.bases.length c)) rfl (.start w) fun b W hk hb1 hb => ?_
  refine alloc_mine al_desk rfl hk fun g W2 hk hb2 hg => ?_
  repeat (any_goals ((with_reducible refine idO ?_); (with_reducible refine oM_gen fun Kv hK=>?_); simp [go_sem, hk.cells]; refine hK _ _ ?_; clear hK; clear Kv))
  refine open_ok s (hs.next hk.below) (fun w2 h2 => ?_)
  have hk := hk.next h2
  clear h2 hb1 hb2
  have hll := hl.len
  have hbl := hs.ints.len
  obtain ⟨lad, lc, rfl⟩ := hl.isSlice
  cases hv : validS s with
  | false =>
    repeat (any_goals (first
    | ((with_reducible refine local_desk s ad s.bases.length c hk ?_); intro b7 W7 hk hb7 hg7)
    | (with_reducible first|((refine idGd ?_); refine zD ?_)|((refine idPick ?_); refine yB ?_)|((refine idCond ?_); refine yL ?_))
    | ((with_reducible refine idO ?_); (with_reducible refine oM_gen fun Kv hK=>?_); simp [go_sem, hk.cells]; refine hK _ _ ?_; clear hK; clear Kv)))
    refine store_desk s ad _ c hk (fun W3 hk hc => ⟨_, by simp [go_sem, hc], k2 _ _ (markM_no (.inl hv)) hk.below⟩)
  | true =>
    have hlen := validS_len hv
    repeat (any_goals (first
    | ((with_reducible refine local_desk s ad s.bases.length c hk ?_); intro b7 W7 hk hb7 hg7)
    | (with_reducible first|refine pureM_in ?_|((refine idGd ?_); first|refine zC ?_|refine zD ?_|((refine idGdN ?_); first|refine zO ?_|refine zP ?_|refine zQ (fun hg=>?_) fun hg=>?_))|((refine idPick ?_); first|refine yB ?_|refine yC ?_|refine yF ?_)|((refine idCond ?_); refine yL ?_))
    | ((with_reducible refine idO ?_); (with_reducible refine oM_gen fun Kv hK=>?_); simp [go_sem, hk.cells]; (try simp (disch := omega) only [wrapI64, wrapU8, wrapU32, wrapU64]); refine hK _ _ ?_; clear hK; clear Kv)))
    · refine nums_ok s 0 (hs.next hk.below) (hl.next hk.below) (fun w3 h3 => ?_)
      have hk := hk.next h3
      obtain ⟨b8, o8, rfl, c8, r8⟩ := hl.headD (by omega)
      obtain ⟨x0, hx0⟩ : ∃ x0, l.headD 0 = x0 := ⟨_, rfl⟩
      rw [hx0] at c8 r8
      cases hn : numsM s 0 l with
      | false =>
        repeat (any_goals (first
        | (with_reducible first|((refine idGd ?_); first|refine zD ?_|((refine idGdN ?_); refine zO ?_))|((refine idPick ?_); first|refine yB ?_|refine yG ?_)|((refine idCond ?_); refine yL ?_))
        | ((with_reducible refine idO ?_); (with_reducible refine oM_gen fun Kv hK=>?_); simp [go_sem, hk.cells]; refine hK _ _ ?_; clear hK; clear Kv)))
        refine store_desk s ad _ c hk (fun W3 hk hc => ⟨_, by simp [go_sem, hc], k2 _ _ (markM_no (.inr (.inr (.inl hn)))) hk.below⟩)
      | true =>
        by_cases h0 : x0 = 0
        · repeat (any_goals (first
          | (with_reducible first|refine pureM_in ?_|((refine idGd ?_); first|refine zC ?_|((refine idGdN ?_); refine zO ?_))|((refine idPick ?_); first|refine yC ?_|refine yG ?_)|((refine idCond ?_); refine yL ?_))
          | ((with_reducible refine idO ?_); (with_reducible refine oM_gen fun Kv hK=>?_); simp [go_sem, hk.cells, c8 _ hk.below, h0]; (first|refine hK _ _ ?_|refine And.intro (by omega) (hK _ _ ?_)); clear hK; clear Kv)))
          refine store_desk s ad _ c hk (fun W3 hk hc => ⟨_, by simp [go_sem, hc], k2 _ _ (markM_no (.inr (.inr (.inr (hx0.trans h0))))) hk.below⟩)
        · repeat (any_goals (first
          | (with_reducible first|refine pureM_in ?_|((refine idGd ?_); first|refine zC ?_|((refine idGdN ?_); refine zO ?_))|((refine idPick ?_); first|refine yC ?_|refine yG ?_)|((refine idCond ?_); refine yM ?_))
          | ((with_reducible refine idO ?_); (with_reducible refine oM_gen fun Kv hK=>?_); simp [go_sem, hk.cells, c8 _ hk.below, h0]; (first|refine hK _ _ ?_|refine And.intro (by omega) (hK _ _ ?_)); clear hK; clear Kv)))
          have em := markM_yes hv (by omega) hn (by rw [hx0]; exact h0)
          refine ⟨KnM w _ g 5, hk.drew, ?_⟩
          have hk := hk.drew
          repeat (any_goals (first
          | (with_reducible refine pureH_in ?_)
          | ((with_reducible refine idOH ?_); (with_reducible refine oH_of ⟨_, rfl⟩ (fun W0 hW0 => by (refine oM_gen (fun Kv hK => ?_)); simp [go_sem, hW0.cells]; (first | exact hK _ _ ⟨rfl, rfl⟩ | exact ⟨by omega, hK _ _ ⟨rfl, rfl⟩⟩)) ?_))))
          refine exps_ok (hl.next hk.below) (by omega) (by omega) (fun ev w4 he h4 _ => ?_)
          have hk := hk.next h4
          refine ⟨hk, ?_⟩
          refine product_t_ok s (hs.next hk.below) he (fun w5 h5 => ?_)
          have hk := hk.next h5
          refine ⟨hk, ?_⟩
          refine store_desk s ad _ c hk (fun W3 hk hc => ⟨hk, hk, hk, _, by simp [go_sem, hc], k2 _ _ em hk.below⟩)
    · refine store_desk s ad _ c hk (fun W3 hk hc => ⟨_, by simp [go_sem, hc], k2 _ _ (markM_no (.inr (.inl (by omega)))) hk.below⟩)
theorem usable_ok (s : Stp) {v lv : Value} {l : List Int} (hs : SetR w s v) (hl : Ints w lv l) (k : ∀ w', Below w.heap.size w w' → K (.tuple #[stpV s v, .int .i64 (usableM s l).1, .bool (usableM s l).2]) w') : callM Tryz.prog 70 #[stpV s v, lv] K w := by
  apply sh_70_ok
  unfold sh_70
  obtain ⟨ad, c, rfl⟩ := hs.ints.isSlice
  refine box_kn (cs := stpC s (.slice ad s.bases.length c)) rfl (.start w) fun b W hk hb1 hb => ?_
  refine alloc_mine al_desk rfl hk fun g W2 hk hb2 hg => ?_
  repeat (any_goals ((with_reducible refine idO ?_); (with_reducible refine oM_gen fun Kv hK=>?_); simp [go_sem, hk.cells]; refine hK _ _ ?_; clear hK; clear Kv))
  refine mark_ok s (hs.next hk.below) (hl.next hk.below) (fun w2 h2 => ?_)
  have hk := hk.next h2
  clear h2 hb1 hb2
  unfold usableM at k
  obtain ⟨⟨m, u⟩, hm⟩ : ∃ x, markM s l = x := ⟨_, rfl⟩
  rw [hm] at k ⊢
  simp only at k ⊢
  cases u with
  | false =>
    repeat (any_goals (first
    | ((with_reducible refine local_desk s ad s.bases.length c hk ?_); intro b7 W7 hk hb7 hg7)
    | (with_reducible first|((refine idGd ?_); refine zB ?_)|((refine idPick ?_); refine yC ?_))
    | ((with_reducible refine idO ?_); (with_reducible refine oM_gen fun Kv hK=>?_); simp [go_sem, hk.cells]; refine hK _ _ ?_; clear hK; clear Kv)))
    refine store_desk s ad _ c hk (fun W3 hk hc => ⟨_, by simp [go_sem, hc], k _ hk.below⟩)
  | true =>
    repeat (any_goals (first
    | ((with_reducible refine local_desk s ad s.bases.length c hk ?_); intro b7 W7 hk hb7 hg7)
    | (with_reducible first|refine pureM_in ?_|((refine idGd ?_); refine zA ?_)|((refine idPick ?_); refine yB ?_))
    | ((with_reducible refine idO ?_); (with_reducible refine oM_gen fun Kv hK=>?_); simp [go_sem, hk.cells]; refine hK _ _ ?_; clear hK; clear Kv)))
    refine store_desk s ad _ c hk (fun W3 hk hc => ⟨stpV s (.slice ad s.bases.length c), by simp [go_sem, hc], by simpa using k _ hk.below⟩)
end
end Go.Proofs
namespace Go.Proofs
open Go Go.Sh Go.RowKit FdSpec TkSpec
set_option linter.unusedSimpArgs false
set_option linter.unusedVariables false
set_option maxRecDepth 10000
theorem I64_of {x n : Int} (h : 0 ≤ x ∧ x < n) (hn : okN n) : I64 x := by unfold I64; unfold okN at hn; omega
theorem I64_0 : I64 0 := by unfold I64; omega
theorem mulM_I64 (n a b : Int) : I64 (mulM n a b) := by
  by_cases hn : okN n
  · exact I64_of (mulM_range n a b hn) hn
  · unfold mulM; rw [if_neg hn]; exact I64_0
theorem addM_I64 (n a b : Int) : I64 (addM n a b) := by
  by_cases hn : okN n
  · exact I64_of (addM_range n a b hn) hn
  · unfold addM; rw [if_neg hn]; exact I64_0
theorem subM_I64 (n a b : Int) : I64 (subM n a b) := by
  by_cases hn : okN n
  · exact I64_of (subM_range n a b hn) hn
  · unfold subM; rw [if_neg hn]; exact I64_0
theorem powM_I64 (n a b : Int) : I64 (powM n a b) := by
  by_cases hn : okN n
  · have h1 : 0 < n := by unfold okN at hn; omega
    unfold powM; rw [if_pos hn]
    split
    · exact I64_of (pw_nonneg n a _ h1) hn
    · split
      · exact I64_of (pw_nonneg n _ _ h1) hn
      · exact I64_0
  · unfold powM; rw [if_neg hn]; exact I64_0
theorem powerG_I64 (g : Grp) (x k : Int) : I64 (powerG g x k) := by
  unfold powerG
  split
  · rename_i h
    exact I64_of (pw_nonneg g.P x _ (by have := h.1; unfold okN at this; omega)) h.1
  · exact I64_0
theorem timesG_I64 (g : Grp) (a b : Int) : I64 (timesG g a b) := by
  unfold timesG
  split
  · exact mulM_I64 _ _ _
  · exact I64_0
theorem mulQ_I64 (s : Stp) (x : Int) (l : List Int) (h : l ≠ []) : I64 (mulQ s x l) := by
  unfold mulQ
  obtain ⟨l', y, rfl⟩ : ∃ l' y, l = l' ++ [y] := ⟨l.dropLast, l.getLast h, (List.dropLast_concat_getLast h).symm⟩
  rw [List.foldl_append]
  exact mulM_I64 _ _ _
section
variable {K : Value → World → Prop} {w w0 : World} {L : List (Addr × Value)}
theorem mk5 {T : TypeId} (a b c d e : Int) (ha : I64 a) (hb : I64 b) (hc : I64 c) (hd : I64 d) (he : I64 e) (k : ∀ v W, Below w.heap.size w W → Ints W v [a, b, c, d, e] → K v W) : oM Tryz.prog (.buildSlice 22 5 #[(0, .tmp 0), (1, .tmp 1), (2, .tmp 2), (3, .tmp 3), (4, .tmp 4)]) T [.int .i64 a, .int .i64 b, .int .i64 c, .int .i64 d, .int .i64 e] K w := by
  rw [rM_of (S := Instr.buildSlice 22 5 #[(0, .int .i64 a), (1, .int .i64 b), (2, .int .i64 c), (3, .int .i64 d), (4, .int .i64 e)]) (by simp [xop, execOp, evalL, evE])]
  have e : (Instr.buildSlice 22 5 #[(0, .int .i64 a), (1, .int .i64 b), (2, .int .i64 c), (3, .int .i64 d), (4, .int .i64 e)]).run Tryz.prog w = .ok (.slice (some ⟨w.heap.size, 0, none⟩) 5 5) (w.alloc (.cells #[.int .i64 a, .int .i64 b, .int .i64 c, .int .i64 d, .int .i64 e] 3)) := by kernel_rfl
  rw [e]
  exact k _ _ ((Below.refl _ w).alloc (Nat.le_refl _) _) (ints_alloc w [a, b, c, d, _] _ 5 (by simp; exact ⟨ha, hb, hc, hd, he⟩) (by simp))
theorem over_ok (s : Stp) (x y : Int) {dv : Value} (hs : SetR w s dv) (k : ∀ w', Below w.heap.size w w' → K (.int .i64 (overQ s x y)) w') : callM Tryz.prog 105 #[stpV s dv, .int .i64 x, .int .i64 y] K w := by
  apply sh_105_ok
  unfold sh_105
  obtain ⟨ad, c, rfl⟩ := hs.ints.isSlice
  refine box_kn (cs := stpC s (.slice ad s.bases.length c)) rfl (.start w) fun b W hk hb1 hb => ?_
  refine ⟨Kn w _, hk.drew, ?_⟩
  have hk := hk.drew
  repeat (any_goals (first
  | (with_reducible refine pureH_in ?_)
  | ((with_reducible refine idOH ?_); (with_reducible refine oH_of ⟨_, rfl⟩ (fun W0 hW0 => by (refine oM_gen (fun Kv hK => ?_)); simp [go_sem, hW0.cells]; (first | exact hK _ _ ⟨rfl, rfl⟩ | exact ⟨by omega, hK _ _ ⟨rfl, rfl⟩⟩)) ?_))))
  refine Pow_ok _ _ _ (by omega) (fun w2 h2 => ?_)
  have hk := hk.next h2
  refine ⟨hk, mk1 _ (powM_I64 _ _ _) (fun v w3 h3 hi => ?_)⟩
  have hk := hk.next h3
  refine ⟨hk, mul_ok s x (hs.next hk.below) hi (fun w4 h4 => ?_)⟩
  have hk := hk.next h4
  exact ⟨hk, hk, k _ hk.below⟩
theorem Public_ok (s : Stp) (x : Int) {v : Value} (hx : I64 x) (hs : SetR w s v) (k : ∀ w', Below w.heap.size w w' → K (.int .i64 (publicM s x)) w') : callM Tryz.prog 19 #[stpV s v, .int .i64 x] K w := by
  apply sh_19_ok
  unfold sh_19
  obtain ⟨ad, c, rfl⟩ := hs.ints.isSlice
  refine box_kn (cs := stpC s (.slice ad s.bases.length c)) rfl (.start w) fun b W hk hb1 hb => ?_
  have k2 : ∀ w' r, publicM s x = r → Below w.heap.size w w' → K (.int .i64 r) w' := fun w' r e hb => by rw [← e]; exact k w' hb
  clear k
  unfold publicM at k2
  repeat (any_goals ((with_reducible refine idO ?_); (with_reducible refine oM_gen fun Kv hK=>?_); simp [go_sem, hk.cells]; refine hK _ _ ?_; clear hK; clear Kv))
  refine open_ok s (hs.next hk.below) (fun w2 h2 => ?_)
  have hk := hk.next h2
  clear hb1 h2
  cases hv : validS s with
  | false =>
    repeat (any_goals (first
    | ((with_reducible refine local_desk' s ad s.bases.length c hk ?_); intro b7 W7 hk hb7 hg7)
    | (with_reducible first|((refine idGd ?_); refine zB ?_)|((refine idPick ?_); refine yC ?_)|((refine idCond ?_); refine yM ?_))
    | ((with_reducible refine idO ?_); (with_reducible refine oM_gen fun Kv hK=>?_); simp [go_sem, hk.cells]; refine hK _ _ ?_; clear hK; clear Kv)))
    exact k2 _ _ (by rw [hv]; rfl) hk.below
  | true =>
    repeat (any_goals (first
    | ((with_reducible refine local_desk' s ad s.bases.length c hk ?_); intro b7 W7 hk hb7 hg7) | ((with_reducible refine mk1 x hx ?_); intro v8 W8 hb8 hi)
    | (with_reducible first|refine pureM_in ?_|((refine idGd ?_); refine zA ?_))
    | ((with_reducible refine idO ?_); (with_reducible refine oM_gen fun Kv hK=>?_); simp [go_sem, hk.cells]; refine hK _ _ ?_; clear hK; clear Kv)))
    have hk := hk.next hb8
    refine nums_ok s 1 (hs.next hk.below) hi (fun w3 h3 => ?_)
    have hk := hk.next h3
    cases hn : numsM s 1 [x] with
    | false =>
      repeat (any_goals (with_reducible first|((refine idPick ?_); refine yB ?_)|((refine idCond ?_); refine yM ?_)))
      exact k2 _ _ (by rw [hv, hn]; rfl) hk.below
    | true =>
      repeat (any_goals (first
      | (with_reducible first|((refine idPick ?_); refine yB ?_)|((refine idCond ?_); refine yL ?_))
      | ((with_reducible refine idO ?_); (with_reducible refine oM_gen fun Kv hK=>?_); simp [go_sem, hk.cells]; refine hK _ _ ?_; clear hK; clear Kv)))
      refine generated_ok s x (hs.next hk.below) (fun w4 h4 => ?_)
      have hk := hk.next h4
      exact k2 _ _ (by rw [hv, hn]; rfl) hk.below
theorem Grant_ok (s : Stp) (x y z : Int) {v : Value} (hx : I64 x) (hy : I64 y) (hz : I64 z) (hs : SetR w s v) (k : ∀ w', Below w.heap.size w w' → K (.int .i64 (grantM s x y z)) w') : callM Tryz.prog 15 #[stpV s v, .int .i64 x, .int .i64 y, .int .i64 z] K w := by
  apply sh_15_ok
  unfold sh_15
  obtain ⟨ad, c, rfl⟩ := hs.ints.isSlice
  refine box_kn (cs := stpC s (.slice ad s.bases.length c)) rfl (.start w) fun b W hk hb1 hb => ?_
  have k2 : ∀ w' r, grantM s x y z = r → Below w.heap.size w w' → K (.int .i64 r) w' := fun w' r e hb => by rw [← e]; exact k w' hb
  clear k
  unfold grantM at k2
  repeat (any_goals ((with_reducible refine idO ?_); (with_reducible refine oM_gen fun Kv hK=>?_); simp [go_sem, hk.cells]; refine hK _ _ ?_; clear hK; clear Kv))
  refine open_ok s (hs.next hk.below) (fun w2 h2 => ?_)
  have hk := hk.next h2
  clear hb1 h2
  cases hv : validS s with
  | false =>
    repeat (any_goals (first
    | ((with_reducible refine local_desk' s ad s.bases.length c hk ?_); intro b7 W7 hk hb7 hg7)
    | (with_reducible first|((refine idGd ?_); refine zB ?_)|((refine idPick ?_); refine yC ?_)|((refine idCond ?_); refine yM ?_))
    | ((with_reducible refine idO ?_); (with_reducible refine oM_gen fun Kv hK=>?_); simp [go_sem, hk.cells]; refine hK _ _ ?_; clear hK; clear Kv)))
    exact k2 _ _ (by rw [hv]; rfl) hk.below
  | true =>
    repeat (any_goals (first
    | ((with_reducible refine local_desk' s ad s.bases.length c hk ?_); intro b7 W7 hk hb7 hg7) | ((with_reducible refine mk1 x hx ?_); intro v8 W8 hb8 hi)
    | (with_reducible first|refine pureM_in ?_|((refine idGd ?_); refine zA ?_))
    | ((with_reducible refine idO ?_); (with_reducible refine oM_gen fun Kv hK=>?_); simp [go_sem, hk.cells]; refine hK _ _ ?_; clear hK; clear Kv)))
    have hk := hk.next hb8
    refine nums_ok s 1 (hs.next hk.below) hi (fun w3 h3 => ?_)
    have hk := hk.next h3
    cases hn : numsM s 1 [x] with
    | false =>
      repeat (any_goals (with_reducible first|((refine idGd ?_); refine zB ?_)|((refine idPick ?_); first|refine yB ?_|refine yC ?_)|((refine idCond ?_); refine yM ?_)))
      exact k2 _ _ (by rw [hv, hn]; rfl) hk.below
    | true =>
      repeat (any_goals (first
      | ((with_reducible refine mk2 y z hy hz ?_); intro v9 W9 hb9 hi)
      | (with_reducible first|refine pureM_in ?_|((refine idGd ?_); refine zA ?_)|((refine idPick ?_); refine yB ?_))
      | ((with_reducible refine idO ?_); (with_reducible refine oM_gen fun Kv hK=>?_); simp [go_sem, hk.cells]; refine hK _ _ ?_; clear hK; clear Kv)))
      have hk := hk.next hb9
      refine nums_ok s 0 (hs.next hk.below) hi (fun w4 h4 => ?_)
      have hk := hk.next h4
      cases hn2 : numsM s 0 [y, z] with
      | false =>
        repeat (any_goals (with_reducible first|((refine idPick ?_); refine yB ?_)|((refine idCond ?_); refine yM ?_)))
        exact k2 _ _ (by rw [hv, hn, hn2]; rfl) hk.below
      | true =>
        repeat (any_goals (with_reducible first|((refine idPick ?_); refine yB ?_)|((refine idCond ?_); refine yL ?_)))
        refine ⟨Kn w _, hk.drew, ?_⟩
        have hk := hk.drew
        repeat (any_goals (first
        | ((with_reducible refine mk1 x hx ?_); intro v9 W9 hb9 hi)
        | (with_reducible refine pureH_in ?_)
        | ((with_reducible refine idOH ?_); (with_reducible refine oH_of ⟨_, rfl⟩ (fun W0 hW0 => by (refine oM_gen (fun Kv hK => ?_)); simp [go_sem, hW0.cells]; (first | exact hK _ _ ⟨rfl, rfl⟩ | exact ⟨by omega, hK _ _ ⟨rfl, rfl⟩⟩)) ?_))))
        have hk := hk.next hb9
        refine ⟨hk, mul_ok s z (hs.next hk.below) hi (fun w5 h5 => ?_)⟩
        have hk := hk.next h5
        refine ⟨hk, plus_ok s _ y (hs.next hk.below) (fun w6 h6 => ?_)⟩
        have hk := hk.next h6
        exact ⟨hk, hk, k2 _ _ (by rw [hv, hn, hn2]; rfl) hk.below⟩
end
end Go.Proofs
namespace Go.Proofs
open Go Go.Sh Go.RowKit FdSpec TkSpec
set_option linter.unusedSimpArgs false
set_option linter.unusedVariables false
set_option maxRecDepth 10000
section
variable {K : Value → World → Prop} {w w0 : World} {L : List (Addr × Value)}
@[reducible] def offV (o : Off) : Value := .agg #[.int .i64 o.z, .int .i64 o.a, .int .i64 o.b]
@[reducible] def tktV (t : Tkt) : Value := .agg #[.int .i64 t.mark, .int .i64 t.first, .int .i64 t.z, .int .i64 t.a, .int .i64 t.b, .int .i64 t.r]
@[reducible] def tktC (t : Tkt) : List Value := [.int .i64 t.mark, .int .i64 t.first, .int .i64 t.z, .int .i64 t.a, .int .i64 t.b, .int .i64 t.r]
@[reducible] def bldV (b : Bld) (v : Value) : Value := .agg #[.int .i64 b.s, .int .i64 b.u, .int .i64 b.v, v]
@[reducible] def bldC (b : Bld) (v : Value) : List Value := [.int .i64 b.s, .int .i64 b.u, .int .i64 b.v, v]
@[reducible] def spdV (x : Spd) (v : Value) : Value := .agg #[.int .i64 x.dare, v]
@[reducible] def spdC (x : Spd) (v : Value) : List Value := [.int .i64 x.dare, v]
structure TktR (t : Tkt) : Prop where
  mark : I64 t.mark
  first : I64 t.first
  z : I64 t.z
  a : I64 t.a
  b : I64 t.b
  r : I64 t.r
structure BldR (w : World) (b : Bld) (bv : Value) : Prop where
  s : I64 b.s
  u : I64 b.u
  v : I64 b.v
  ys : Ints w bv b.ys
structure SpdR (w : World) (x : Spd) (v : Value) : Prop where
  dare : I64 x.dare
  answers : Ints w v x.answers
theorem BldR.next {w w' : World} {b : Bld} {v : Value} (h : BldR w b v) (hb : Below w.heap.size w w') : BldR w' b v := ⟨h.s, h.u, h.v, h.ys.next hb⟩
theorem SpdR.next {w w' : World} {x : Spd} {v : Value} (h : SpdR w x v) (hb : Below w.heap.size w w') : SpdR w' x v := ⟨h.dare, h.answers.next hb⟩
theorem sz_off (w : World) : (sizeOf 39).run Tryz.prog w = .ok 3 w := by kernel_rfl
theorem al_off (w : World) : (Instr.alloc 39 true (.tuple #[])).run Tryz.prog w = .ok (.pointer (some ⟨w.heap.size, 0, none⟩)) (w.alloc (.cells [.int .i64 0, .int .i64 0, .int .i64 0].toArray 39)) := by kernel_rfl
theorem off_one (o : Off) : ∀ u ∈ [Value.int .i64 o.z, .int .i64 o.a, .int .i64 o.b], u.oneCell' = true := by
  intro u hu
  simp only [List.mem_cons, List.not_mem_nil, or_false] at hu
  rcases hu with rfl | rfl | rfl <;> rfl
theorem store_off {K : Value → World → Prop} {T' : TypeId} {g : Nat} (o : Off) (hk : KnM w0 L g 3 w)
    (k : ∀ W, KnM w0 L g 3 W → cellsAre W (cellsOf [] g 0 [.int .i64 o.z, .int .i64 o.a, .int .i64 o.b]) → K undef W) : oM Tryz.prog (.store 39 (.tmp 0) (.tmp 1)) T' [.pointer (some ⟨g, 0, none⟩), offV o] K w :=
  store_mine sz_off rfl rfl (off_one o) hk k
theorem propose_no {s : Stp} {x : Int} {l : List Int} {y : Int} (h : (usableM s l).2 = false ∨ numsM s 1 [x] = false ∨ numsM s 0 [y] = false) : proposeM s x l y = (⟨0, 0, 0⟩, 1) := by
  unfold proposeM
  rw [if_neg]
  rcases h with h | h | h <;> simp [h]
theorem Propose_ok (s : Stp) (x y : Int) {v lv : Value} {l : List Int} (hx : I64 x) (hy : I64 y) (hs : SetR w s v) (hl : Ints w lv l) (k : ∀ w', Below w.heap.size w w' → K (.tuple #[offV (proposeM s x l y).1, .int .i64 (proposeM s x l y).2]) w') : callM Tryz.prog 14 #[stpV s v, .int .i64 x, lv, .int .i64 y] K w := by
  apply sh_14_ok
  unfold sh_14
  obtain ⟨ad, c, rfl⟩ := hs.ints.isSlice
  have k2 : ∀ w' r, proposeM s x l y = r → Below w.heap.size w w' → K (.tuple #[offV r.1, .int .i64 r.2]) w' := fun w' r e hb => by rw [← e]; exact k w' hb
  clear k
  refine box_kn (cs := stpC s (.slice ad s.bases.length c)) rfl (.start w) fun b W hk hb1 hb => ?_
  refine alloc_mine al_off rfl hk fun g W2 hk hb2 hg => ?_
  repeat (any_goals ((with_reducible refine idO ?_); (with_reducible refine oM_gen fun Kv hK=>?_); simp [go_sem, hk.cells]; refine hK _ _ ?_; clear hK; clear Kv))
  refine usable_ok s (hs.next hk.below) (hl.next hk.below) (fun w2 h2 => ?_)
  have hk := hk.next h2
  clear hb1 h2 hb2
  obtain ⟨⟨m, u⟩, hm⟩ : ∃ x, usableM s l = x := ⟨_, rfl⟩
  rw [hm]
  cases u with
  | false =>
    repeat (any_goals (first
    | ((with_reducible refine local_desk s ad s.bases.length c hk ?_); intro b7 W7 hk hb7 hg7)
    | (with_reducible first|((refine idGd ?_); refine zD ?_)|((refine idPick ?_); refine yB ?_)|((refine idCond ?_); refine yL ?_))
    | ((with_reducible refine idO ?_); (with_reducible refine oM_gen fun Kv hK=>?_); simp [go_sem, hk.cells]; refine hK _ _ ?_; clear hK; clear Kv)))
    refine store_off ⟨0, 0, 0⟩ hk (fun W3 hk hc => ⟨_, by simp [go_sem, hc], k2 _ _ (propose_no (.inl (by rw [hm]))) hk.below⟩)
  | true =>
    repeat (any_goals (first
    | ((with_reducible refine local_desk s ad s.bases.length c hk ?_); intro b7 W7 hk hb7 hg7) | ((with_reducible refine mk1 x hx ?_); intro v8 W8 hb8 hi)
    | (with_reducible first|refine pureM_in ?_|((refine idGd ?_); refine zC ?_))
    | ((with_reducible refine idO ?_); (with_reducible refine oM_gen fun Kv hK=>?_); simp [go_sem, hk.cells]; refine hK _ _ ?_; clear hK; clear Kv)))
    have hk := hk.next hb8
    refine nums_ok s 1 (hs.next hk.below) hi (fun w3 h3 => ?_)
    have hk := hk.next h3
    cases hn : numsM s 1 [x] with
    | false =>
      repeat (any_goals (first
      | (with_reducible first|((refine idGd ?_); first|refine zC ?_|refine zD ?_)|((refine idPick ?_); first|refine yB ?_|refine yC ?_)|((refine idCond ?_); refine yL ?_))
      | ((with_reducible refine idO ?_); (with_reducible refine oM_gen fun Kv hK=>?_); simp [go_sem, hk.cells]; refine hK _ _ ?_; clear hK; clear Kv)))
      refine store_off ⟨0, 0, 0⟩ hk (fun W3 hk hc => ⟨_, by simp [go_sem, hc], k2 _ _ (propose_no (.inr (.inl hn))) hk.below⟩)
    | true =>
      repeat (any_goals (first
      | ((with_reducible refine mk1 y hy ?_); intro v9 W9 hb9 hi)
      | (with_reducible first|refine pureM_in ?_|((refine idGd ?_); refine zC ?_)|((refine idPick ?_); refine yC ?_))
      | ((with_reducible refine idO ?_); (with_reducible refine oM_gen fun Kv hK=>?_); simp [go_sem, hk.cells]; refine hK _ _ ?_; clear hK; clear Kv)))
      have hk := hk.next hb9
      refine nums_ok s 0 (hs.next hk.below) hi (fun w4 h4 => ?_)
      have hk := hk.next h4
      cases hn2 : numsM s 0 [y] with
      | false =>
        repeat (any_goals (first
        | (with_reducible first|((refine idGd ?_); refine zC ?_)|((refine idPick ?_); refine yC ?_)|((refine idCond ?_); refine yL ?_))
        | ((with_reducible refine idO ?_); (with_reducible refine oM_gen fun Kv hK=>?_); simp [go_sem, hk.cells]; refine hK _ _ ?_; clear hK; clear Kv)))
        refine store_off ⟨0, 0, 0⟩ hk (fun W3 hk hc => ⟨_, by simp [go_sem, hc], k2 _ _ (propose_no (.inr (.inr hn2))) hk.below⟩)
      | true =>
        have e : proposeM s x l y = (⟨powerG s.g m x, genM s y, powerG s.g m y⟩, 0) := by
          unfold proposeM
          rw [if_pos (by rw [hm, hn, hn2]; rfl), hm]
        repeat (any_goals (first
        | (with_reducible first|((refine idGd ?_); refine zC ?_)|((refine idPick ?_); refine yC ?_)|((refine idCond ?_); refine yM ?_))
        | ((with_reducible refine idO ?_); (with_reducible refine oM_gen fun Kv hK=>?_); simp [go_sem, hk.cells]; refine hK _ _ ?_; clear hK; clear Kv)))
        refine ⟨KnM w _ g 3, hk.drew, ?_⟩
        have hk := hk.drew
        repeat (any_goals (first
        | (with_reducible refine pureH_in ?_)
        | ((with_reducible refine idOH ?_); (with_reducible refine oH_of ⟨_, rfl⟩ (fun W0 hW0 => by (refine oM_gen (fun Kv hK => ?_)); simp [go_sem, hW0.cells]; (first | exact hK _ _ ⟨rfl, rfl⟩ | exact ⟨by omega, hK _ _ ⟨rfl, rfl⟩⟩)) ?_))))
        refine tpower_ok s m x (hs.next hk.below) (fun w5 h5 => ?_)
        have hk := hk.next h5
        refine ⟨hk, generated_ok s y (hs.next hk.below) (fun w6 h6 => ?_)⟩
        have hk := hk.next h6
        refine ⟨hk, tpower_ok s m y (hs.next hk.below) (fun w7 h7 => ?_)⟩
        have hk := hk.next h7
        refine ⟨hk, ?_⟩
        generalize powerG s.g m x = p1 at *
        generalize genM s y = p2 at *
        generalize powerG s.g m y = p3 at *
        repeat (any_goals ((with_reducible refine idO ?_); (with_reducible refine oM_gen fun Kv hK=>?_); simp [go_sem]; refine hK _ _ ?_; clear hK; clear Kv))
        refine ⟨hk, store_off ⟨p1, p2, p3⟩ hk (fun W3 hk hc => ⟨hk, hk, _, by simp [go_sem, hc], k2 _ _ e hk.below⟩)⟩
theorem blinds_ok (s : Stp) (b : Bld) {v bv : Value} (hs : SetR w s v) (hb : BldR w b bv) (k : ∀ w', Below w.heap.size w w' → K (.bool (blindsM s b)) w') : callM Tryz.prog 71 #[stpV s v, bldV b bv] K w := by
  apply sh_71_ok
  unfold sh_71
  obtain ⟨ad, c, rfl⟩ := hs.ints.isSlice
  have hys := hb.ys
  obtain ⟨yad, yc, rfl⟩ := hb.ys.isSlice
  have k2 : ∀ w' r, blindsM s b = r → Below w.heap.size w w' → K (.bool r) w' := fun w' r e hb => by rw [← e]; exact k w' hb
  clear k
  unfold blindsM at k2
  refine box_kn (cs := stpC s (.slice ad s.bases.length c)) rfl (.start w) fun b1 W hk hb1 hbb => ?_
  refine box_kn (cs := bldC b (.slice yad b.ys.length yc)) rfl hk fun b2 W2 hk hb2 hbb => ?_
  repeat (any_goals (first
  | ((with_reducible refine mk2 b.s b.u hb.s hb.u ?_); intro v8 W8 hb8 hi)
  | ((with_reducible refine idO ?_); (with_reducible refine oM_gen fun Kv hK=>?_); simp [go_sem, hk.cells]; refine hK _ _ ?_; clear hK; clear Kv)))
  have hk := hk.next hb8
  refine nums_ok s 1 (hs.next hk.below) hi (fun w3 h3 => ?_)
  have hk := hk.next h3
  cases hn : numsM s 1 [b.s, b.u] with
  | false =>
    repeat (any_goals (with_reducible first|((refine idGd ?_); refine zB ?_)|((refine idPick ?_); refine yC ?_)))
    exact k2 _ _ (by rw [hn]; rfl) hk.below
  | true =>
    repeat (any_goals (first
    | ((with_reducible refine mk1 b.v hb.v ?_); intro v9 W9 hb9 hi)
    | (with_reducible ((refine idGd ?_); refine zA ?_))
    | ((with_reducible refine idO ?_); (with_reducible refine oM_gen fun Kv hK=>?_); simp [go_sem, hk.cells]; refine hK _ _ ?_; clear hK; clear Kv)))
    have hk := hk.next hb9
    refine nums_ok s 0 (hs.next hk.below) hi (fun w4 h4 => ?_)
    have hk := hk.next h4
    cases hn2 : numsM s 0 [b.v] with
    | false =>
      repeat (any_goals (with_reducible first|((refine idGd ?_); refine zB ?_)|((refine idPick ?_); first|refine yB ?_|refine yC ?_)))
      exact k2 _ _ (by rw [hn, hn2]; rfl) hk.below
    | true =>
      by_cases hlen : b.ys.length = s.bases.length
      · repeat (any_goals (first
        | (with_reducible first|((refine idGd ?_); refine zA ?_)|((refine idPick ?_); refine yB ?_))
        | ((with_reducible refine idO ?_); (with_reducible refine oM_gen fun Kv hK=>?_); simp [go_sem, hk.cells, hlen]; refine hK _ _ ?_; clear hK; clear Kv)))
        have hys2 : Ints w (.slice yad s.bases.length yc) b.ys := by rw [← hlen]; exact hys
        refine nums_ok s 0 (hs.next hk.below) (hys2.next hk.below) (fun w5 h5 => ?_)
        have hk := hk.next h5
        repeat (any_goals (with_reducible ((refine idPick ?_); refine yB ?_)))
        exact k2 _ _ (by rw [hn, hn2]; simp [hlen]) hk.below
      · have hl' : ¬ (b.ys.length : Int) = s.bases.length := by omega
        repeat (any_goals (first
        | (with_reducible first|((refine idGd ?_); first|refine zA ?_|refine zB ?_)|((refine idPick ?_); first|refine yB ?_|refine yC ?_))
        | ((with_reducible refine idO ?_); (with_reducible refine oM_gen fun Kv hK=>?_); simp [go_sem, hk.cells, hl']; refine hK _ _ ?_; clear hK; clear Kv)))
        exact k2 _ _ (by rw [hn, hn2]; simp [hlen]) hk.below
end
end Go.Proofs
namespace Go.Proofs
open Go Go.Sh Go.RowKit FdSpec TkSpec
set_option linter.unusedSimpArgs false
set_option linter.unusedVariables false
set_option maxRecDepth 10000
section
variable {K : Value → World → Prop} {w w0 : World} {L : List (Addr × Value)}
end
end Go.Proofs
namespace Go.Proofs
open Go Go.Sh Go.RowKit FdSpec TkSpec
set_option linter.unusedSimpArgs false
set_option linter.unusedVariables false
set_option maxRecDepth 10000
section
variable {K : Value → World → Prop} {w w0 : World} {L : List (Addr × Value)}
abbrev OwnI (w : World) (B : Nat) (v : Value) (l : List Int) : Prop := w.ownsRow B 3 1 v l.length (flat intC l)
theorem OwnI.ints {B : Nat} {v : Value} {l : List Int} (h : OwnI w B v l) (hr : ∀ n ∈ l, I64 n) (hl : l.length ≤ 9223372036854775807) : Ints w v l := Ints.of_owns h hr hl
theorem owns_up {B C : Nat} {e : TypeId} {sz : Nat} {v : Value} {n : Nat} {xs : List Value} (h : w.ownsRow B e sz v n xs) (hc : ∀ i, v.ownBlock = some i → C ≤ i) : w.ownsRow C e sz v n xs := by
  refine ⟨h.1, h.2.imp id ?_⟩
  rintro ⟨g, cap, cur, rfl, hb, hr⟩
  exact ⟨g, cap, cur, rfl, hc g rfl, hr⟩
theorem OwnI.keep {B : Nat} {v : Value} {l : List Int} {w' : World} (h : OwnI w B v l) (hb : Below w.heap.size w w') : OwnI w' B v l :=
  owns_keep h (fun i hi => hb.block i (owns_own h hi).1)
theorem append1 {B : Nat} {T : TypeId} {v xv : Value} {l : List Int} {x : Int} (ho : OwnI w B v l) (hB : B ≤ w.heap.size) (hx : Ints w xv [x]) (hl : l.length < 1099511627776)
    (k : ∀ v' w', OwnI w' B v' (l ++ [x]) → Below B w w' → K v' w') : oM Tryz.prog (.call { callee := .builtin .append, args := #[.tmp 0, .tmp 1], argTypes := #[22, 22] }) T [v, xv] K w := by
  obtain ⟨⟨ad, c, rfl, h0, hc⟩, hr, _⟩ := hx
  have hc := hc.resolve_left (by simp)
  obtain ⟨b, o, rfl, hlt, hcell⟩ := hc
  refine append_at 22 T 3 ((Tryz.prog.info? 3).getD default) (.int .i64 0) 1 8 (by kernel_rfl) (by kernel_rfl) (by kernel_rfl) (by kernel_rfl) (by kernel_rfl) (by kernel_rfl) (by omega) (owns_base ho (Nat.zero_le _)) [.int .i64 x] (by simp) (by simp) ?_ ?_ (by simp only [maxLen, List.length_singleton]; omega) (by simp only [List.length_singleton]; omega) ?_
  · rintro a ha j u hj
    cases ha
    rw [add_none]
    exact hcell j u hj
  · intro u hu
    simp only [List.mem_singleton] at hu
    subst hu; rfl
  · intro v' w' ho' hg hv
    have hbl : ∀ i, v.ownBlock = some i → B ≤ i := fun i hi => (owns_own ho hi).2.1
    refine k v' w' ?_ ((Below.refl B w).grown hg hB hbl)
    have e1 : (l ++ [x]).length = l.length + [x].length := by simp
    have e2 : flat intC (l ++ [x]) = flat intC l ++ [Value.int .i64 x] := by rw [flat_int, flat_int]; simp
    show w'.ownsRow B 3 1 v' (l ++ [x]).length (flat intC (l ++ [x]))
    rw [e1, e2]
    exact owns_up ho' (fun i hi => (hv i hi).elim (hbl i) (fun h => Nat.le_trans hB h))
theorem Same_ok {v u : Value} {a b : List Int} (ha : Ints w v a) (hb : Ints w u b) (k : ∀ w', Below w.heap.size w w' → K (.bool (decide (a = b))) w') : callM Tryz.prog 59 #[v, u] K w := by
  apply sh_59_ok
  unfold sh_59
  obtain ⟨ad1, c1, rfl⟩ := ha.isSlice
  obtain ⟨ad2, c2, rfl⟩ := hb.isSlice
  have l1 := ha.len
  have l2 := hb.len
  by_cases hl : a.length = b.length
  · repeat (any_goals (first
    | (with_reducible ((refine idCond ?_); refine yM ?_))
    | ((with_reducible refine idO ?_); (with_reducible refine oM_gen fun Kv hK=>?_); simp [go_sem, hl]; refine hK _ _ ?_; clear hK; clear Kv)))
    refine ⟨fun vs w' => Below w.heap.size w w' ∧ ∃ (v : Value) (i : Nat), vs = [v, .int .i64 (i : Int)] ∧ i ≤ a.length ∧ a.take i = b.take i, fun vs _ => match vs with | [_, .int _ i] => b.length - i.toNat | _ => 0, ⟨Below.refl _ _, _, 0, rfl, by omega, rfl⟩, ?_⟩
    rintro _ _ w1 ⟨h1, u1, i, rfl, hi, he⟩
    by_cases hin : i = b.length
    · have e : a = b := by
        rw [List.take_of_length_le (by omega), List.take_of_length_le (by omega)] at he
        exact he
      have k := k _ h1
      rw [decide_eq_true e] at k
      repeat (any_goals (first
      | (with_reducible ((refine idCond ?_); refine yO ?_))
      | ((with_reducible refine idO ?_); (with_reducible refine oM_gen fun Kv hK=>?_); simp [go_sem, hl]; refine hK _ _ ?_; clear hK; clear Kv)))
      exact k
    · obtain ⟨b1, o1, rfl, hb1, ca, ra, _⟩ := ha.at (i := i) (by omega)
      obtain ⟨b2, o2, rfl, hb2, cb, rb, _⟩ := hb.at (i := i) (by omega)
      repeat (any_goals (first
      | (with_reducible ((refine idCond ?_); refine yN ?_))
      | ((with_reducible refine idO ?_); (with_reducible refine oM_gen fun Kv hK=>?_); simp [go_sem, hl]; refine hK _ _ ?_; clear hK; clear Kv)))
      refine ⟨Below w.heap.size w, h1.trans .drawn, ?_⟩
      by_cases hx : a[i] = b[i]
      · repeat (any_goals ((with_reducible refine idOQ ?_); (with_reducible refine oQ_of ⟨_, rfl⟩ (fun W0 hW0 => by (refine oM_gen (fun Kv hK => ?_)); simp [go_sem, ca _ hW0, cb _ hW0, hl, hx]; (first | exact hK _ _ ⟨rfl, rfl⟩ | exact ⟨by omega, hK _ _ ⟨rfl, rfl⟩⟩)) ?_)))
        intro w2 h2
        repeat (any_goals (first
        | (with_reducible ((refine idCond ?_); refine yM ?_))
        | ((with_reducible refine idO ?_); (with_reducible refine oM_gen fun Kv hK=>?_); simp [go_sem, hx]; (try simp (disch := omega) only [wrapI64, wrapU8, wrapU32, wrapU64]); refine hK _ _ ?_; clear hK; clear Kv)))
        refine ⟨⟨h2, _, i + 1, rfl, by omega, ?_⟩, by show b.length - (((i + 1 : Nat) : Int)).toNat < b.length - ((i : Nat) : Int).toNat; omega⟩
        rw [List.take_succ_eq_append_getElem (by omega), List.take_succ_eq_append_getElem (by omega), he, hx]
      · repeat (any_goals ((with_reducible refine idOQ ?_); (with_reducible refine oQ_of ⟨_, rfl⟩ (fun W0 hW0 => by (refine oM_gen (fun Kv hK => ?_)); simp [go_sem, ca _ hW0, cb _ hW0, hl, hx]; (first | exact hK _ _ ⟨rfl, rfl⟩ | exact ⟨by omega, hK _ _ ⟨rfl, rfl⟩⟩)) ?_)))
        intro w2 h2
        have k := k _ h2
        rw [decide_eq_false (by rintro rfl; exact hx rfl)] at k
        repeat (any_goals (with_reducible ((refine idCond ?_); refine yL ?_)))
        exact k
  · have hl' : ¬ (a.length : Int) = b.length := by omega
    have k := k _ (Below.refl _ _)
    rw [decide_eq_false (by rintro rfl; exact hl rfl)] at k
    repeat (any_goals (first
    | (with_reducible ((refine idCond ?_); refine yL ?_))
    | ((with_reducible refine idO ?_); (with_reducible refine oM_gen fun Kv hK=>?_); simp [go_sem, hl']; refine hK _ _ ?_; clear hK; clear Kv)))
    exact k
end
end Go.Proofs
namespace Go.Proofs
open Go Go.Sh Go.RowKit FdSpec TkSpec
set_option linter.unusedSimpArgs false
set_option linter.unusedVariables false
set_option maxRecDepth 10000
section
variable {K : Value → World → Prop} {w w0 : World} {L : List (Addr × Value)}
@[reducible] def zstp : Stp := ⟨⟨0, 0, 0⟩, [], 0⟩
end
end Go.Proofs
namespace Go.Proofs
open Go Go.Sh Go.RowKit FdSpec TkSpec
set_option linter.unusedSimpArgs false
set_option linter.unusedVariables false
set_option maxRecDepth 10000
section
variable {K : Value → World → Prop} {w w0 : World} {L : List (Addr × Value)}
theorem _root_.Go.Sh.Ints.tail {b o n c : Nat} {l : List Int} (h : Ints w (.slice (some ⟨b, o, none⟩) n c) l) (hne : 0 < l.length) : Ints w (.slice (some ⟨b, o + 1, none⟩) (n - 1) (c - 1)) l.tail := by
  obtain ⟨⟨ad, c', hv, h0, hc⟩, hr, hl⟩ := h
  cases hv
  refine ⟨⟨some ⟨b, o + 1, none⟩, c - 1, by rw [List.length_tail], by simp, ?_⟩, fun n hn => hr n (List.mem_of_mem_tail hn), by rw [List.length_tail]; omega⟩
  rcases hc with rfl | ⟨b', o', hbo, hlt, hcell⟩
  · simp at hne
  · cases hbo
    refine .inr ⟨b, o + 1, rfl, hlt, fun k x hk => ?_⟩
    have := hcell (k + 1) x (by
      rw [flat_int] at hk ⊢
      rw [← hk]
      simp)
    rw [show o + 1 + k = o + (k + 1) by omega]
    exact this
end
end Go.Proofs
namespace Go.Proofs
open Go Go.Sh Go.RowKit FdSpec TkSpec
set_option linter.unusedSimpArgs false
set_option linter.unusedVariables false
set_option maxRecDepth 10000
section
variable {K : Value → World → Prop} {w w0 : World} {L : List (Addr × Value)}
end
end Go.Proofs
namespace Go.Proofs
open Go Go.Sh Go.RowKit FdSpec TkSpec
set_option linter.unusedSimpArgs false
set_option linter.unusedVariables false
set_option maxRecDepth 10000
section
variable {K : Value → World → Prop} {w w0 w1 : World} {L : List (Addr × Value)}
theorem sz_spd (w : World) : (sizeOf 47).run Tryz.prog w = .ok 2 w := by kernel_rfl
theorem sz_ints (w : World) : (sizeOf 22).run Tryz.prog w = .ok 1 w := by kernel_rfl
theorem al_spd (w : World) : (Instr.alloc 47 true (.tuple #[])).run Tryz.prog w = .ok (.pointer (some ⟨w.heap.size, 0, none⟩)) (w.alloc (.cells [.int .i64 0, .slice none 0 0].toArray 47)) := by kernel_rfl
theorem spd_one (x : Spd) (ad : Option Addr) (n c : Nat) : ∀ u ∈ spdC x (.slice ad n c), u.oneCell' = true := by
  intro u hu
  simp only [spdC, List.mem_cons, List.not_mem_nil, or_false] at hu
  rcases hu with rfl | rfl <;> rfl
theorem store_spd {K : Value → World → Prop} {T' : TypeId} {g : Nat} (x : Spd) (ad : Option Addr) (m c : Nat) (hk : KnM w0 L g 2 w)
    (k : ∀ W, KnM w0 L g 2 W → cellsAre W (cellsOf [] g 0 (spdC x (.slice ad m c))) → w.grownBy W (some g) → K undef W) : oM Tryz.prog (.store 47 (.tmp 0) (.tmp 1)) T' [.pointer (some ⟨g, 0, none⟩), spdV x (.slice ad m c)] K w := by
  obtain ⟨W, e, hg, hm, hc⟩ := store_run (P := Tryz.prog) (W := w) sz_spd (x := spdV x (.slice ad m c)) rfl rfl (spd_one x ad m c) hk.mine
  rw [oM_store, e]
  exact k W ⟨hk.kn.wrote hg hk.base hk.off, hm, hk.base, hk.off⟩ hc hg
theorem store_row {P : Program} {T T0 : TypeId} {g o n : Nat} {cur : Array Value} {x : Value} {xs : List Value} (hT : ∀ w, (sizeOf T).run P w = .ok n w) (hx : x.cells = xs.toArray) (hl : xs.length = n) (h1 : ∀ u ∈ xs, u.oneCell' = true) (hg : w.heap[g]? = some (.cells cur T0 (0, 0))) (hfit : o + n ≤ cur.size) :
    (Instr.storeAt T (.pointer (some ⟨g, o, none⟩)) x).run P w = .ok () (w.setRow g (cur.toList.take o ++ xs ++ cur.toList.drop (o + xs.length)).toArray) := by
  have hst := run_storeCells_at P g o T0 xs 0 cur w hg (by omega) h1
  rw [Nat.add_zero] at hst
  unfold Instr.storeAt storeVar
  have e2 : x.cells.toList = xs := by rw [hx]
  have e3 : x.cells.size = n := by rw [hx]; simpa using hl
  rw [e2, e3]
  rw [List.append_assoc] at hst ⊢
  simp [hT, go_sem]
  exact hst
theorem local_spd {K : Value → World → Prop} {T' T2 : TypeId} {g n : Nat} (x : Spd) (hk : KnM w0 L g n w)
    (k : ∀ b W, KnM w0 L g n W → Below w.heap.size w W → w.heap.size ≤ b → W.heap[b]? = some (.cells #[.int .i64 x.dare, .slice none 0 0] 47 (0, 0)) → K (.pointer (some ⟨b, 0, none⟩)) W) :
    oM Tryz.prog (.alloc 47) T' [] (fun v w => oM Tryz.prog (.store 47 (.tmp 0) (.tmp 1)) T2 [v, spdV x (.slice none 0 0)] (fun _ w => K v w) w) w := by
  rw [oM_alloc, al_spd, rM_ok]
  have hb := (Below.refl w.heap.size w).alloc (Nat.le_refl _) (.cells [Value.int .i64 0, .slice none 0 0].toArray 47)
  have hg0 : (w.alloc (.cells [Value.int .i64 0, .slice none 0 0].toArray 47)).heap[w.heap.size]? = some (.cells [Value.int .i64 0, .slice none 0 0].toArray 47 (0, 0)) := Array.getElem?_push_size
  generalize w.alloc (.cells [Value.int .i64 0, .slice none 0 0].toArray 47) = W at *
  have hrun := store_row (P := Tryz.prog) (w := W) (o := 0) sz_spd (x := spdV x (.slice none 0 0)) rfl rfl (spd_one x none 0 0) hg0 (by simp)
  have e1 : ([Value.int .i64 0, .slice none 0 0].toArray.toList.take 0 ++ spdC x (.slice none 0 0) ++ [Value.int .i64 0, .slice none 0 0].toArray.toList.drop (0 + (spdC x (.slice none 0 0)).length)).toArray = #[.int .i64 x.dare, .slice none 0 0] := by simp
  rw [e1] at hrun
  have hh := setRow_heap W w.heap.size _ #[Value.int .i64 x.dare, .slice none 0 0] 47 (0, 0) hg0
  rw [oM_store, hrun]
  have hb2 : Below w.heap.size w (W.setRow w.heap.size #[Value.int .i64 x.dare, .slice none 0 0]) := hb.grown (grown_setRow _ _ _) hb.size (fun k hk => by cases hk; exact Nat.le_refl _)
  exact k _ _ (hk.next hb2) hb2 (Nat.le_refl _) hh
theorem store_second {K : Value → World → Prop} {T' : TypeId} {g : Nat} {ad : Option Addr} {m c : Nat} {a b : Value} (hg : w.heap[g]? = some (.cells #[a, b] 47 (0, 0)))
    (k : ∀ W, w.grownBy W (some g) → W.heap[g]? = some (.cells #[a, .slice ad m c] 47 (0, 0)) → K undef W) : oM Tryz.prog (.store 22 (.tmp 0) (.tmp 1)) T' [.pointer (some ⟨g, 1, none⟩), .slice ad m c] K w := by
  have hrun := store_row (P := Tryz.prog) (o := 1) sz_ints (x := .slice ad m c) rfl rfl (xs := [Value.slice ad m c]) (by intro u hu; simp at hu; subst hu; rfl) hg (by simp)
  have hh := setRow_heap w g _ #[a, .slice ad m c] 47 (0, 0) hg
  have e1 : (#[a, b].toList.take 1 ++ [Value.slice ad m c] ++ #[a, b].toList.drop (1 + [Value.slice ad m c].length)).toArray = #[a, .slice ad m c] := by simp
  rw [e1] at hrun
  rw [oM_store, hrun]
  exact k _ (grown_setRow _ _ _) hh
abbrev FrG (g : Nat) (w w' : World) : Prop := Fr (fun i => i = g) w w'
theorem FrG.next {g : Nat} {w' : World} (h : FrG g w w1) (hb : Below w1.heap.size w1 w') : FrG g w w' :=
  h.trans (S' := fun _ => False) ⟨hb.os, hb.tape, hb.output, hb.size, fun i hi _ => hb.block i hi⟩ (fun _ h => h.elim)
theorem FrG.below {g : Nat} {w' : World} (h0 : Below w.heap.size w w1) (h : FrG g w1 w') (hg : w.heap.size ≤ g) : Below w.heap.size w w' :=
  ⟨h.os.trans h0.os, h.tape.trans h0.tape, h.output.trans h0.output, Nat.le_trans h0.size h.size, fun i hi => (h.block i (Nat.lt_of_lt_of_le hi h0.size) (fun e => by omega)).trans (h0.block i hi)⟩
theorem cellsAre_fr {g : Nat} {w' : World} (hL : cellsAre w L) (h : FrG g w w') (hn : ∀ p ∈ L, p.1.block ≠ g) : cellsAre w' L :=
  cellsAre_keepBut hL hn fun a ha hna => World.cell?_of_block (w := w) (h.block _ ha hna)
theorem _root_.Go.Sh.KnM.fr {g n g' : Nat} {w' : World} (hk : KnM w0 L g n w) (h : FrG g' w w') (hoff : ∀ p ∈ L, p.1.block ≠ g') (hne : g ≠ g') (hb : w0.heap.size ≤ g') : KnM w0 L g n w' := by
  obtain ⟨cur, T, h1, h2⟩ := hk.mine
  exact ⟨⟨FrG.below hk.below h hb, cellsAre_fr hk.cells h hoff⟩, ⟨cur, T, by rw [h.block g (mine_lt hk.mine) hne]; exact h1, h2⟩, hk.base, hk.off⟩
theorem Ints.fr {g : Nat} {w' : World} {v : Value} {l : List Int} (hi : Ints w v l) (h : FrG g w w') (hne : ∀ i, Value.inBlock v = some i → i ≠ g) : Ints w' v l :=
  ⟨hi.row.keep h.size (fun i e hlt => h.block i hlt (hne i e)), hi.rng, hi.len⟩
def UsC (St : World → Prop) (j : Nat) (w' : World) : Prop := j ≤ 4 → St w'
theorem usGet {St : World → Prop} {n : Nat} {w' : World} (h : upto (UsC St) n w') (hn : n ≤ 4) : St w' := by
  obtain ⟨s, hs, hc⟩ := h
  exact hc (Nat.le_trans hs hn)
end
end Go.Proofs
namespace Go.Proofs
open Go Go.Sh Go.RowKit FdSpec TkSpec
set_option linter.unusedSimpArgs false
set_option linter.unusedVariables false
set_option maxRecDepth 10000
section
variable {K : Value → World → Prop} {w w0 w1 : World} {L : List (Addr × Value)}
def ansL (s : Stp) (l : List Int) (b : Bld) (dare : Int) : List Int := ((expsM l).zip b.ys).map fun p => plusQ s p.2 (mulQ s dare [b.s, p.1])
theorem useM_no {s : Stp} {l : List Int} {b : Bld} {dare : Int} (h : (usableM s l).2 = false ∨ blindsM s b = false ∨ numsM s 1 [dare] = false) : useM s l b dare = (⟨0, []⟩, false) := by
  unfold useM
  rw [if_neg]
  rcases h with h | h | h <;> simp [h]
theorem useM_yes {s : Stp} {l : List Int} {b : Bld} {dare : Int} (h1 : (usableM s l).2 = true) (h2 : blindsM s b = true) (h3 : numsM s 1 [dare] = true) : useM s l b dare = (⟨dare, ansL s l b dare⟩, true) := by
  unfold useM
  rw [if_pos (by rw [h1, h2, h3]; rfl)]
  rfl
theorem usable_len {s : Stp} {l : List Int} (h : (usableM s l).2 = true) : l.length + 1 = s.bases.length ∧ validS s = true := by
  unfold usableM at h
  simp only [Bool.and_eq_true] at h
  have h := h.1
  unfold markM at h
  split at h
  · rename_i hc
    simp only [Bool.and_eq_true, decide_eq_true_eq] at hc
    exact ⟨hc.1.1.2, hc.1.1.1⟩
  · cases h
theorem blinds_len {s : Stp} {b : Bld} (h : blindsM s b = true) : b.ys.length = s.bases.length := by
  unfold blindsM at h
  simp only [Bool.and_eq_true, decide_eq_true_eq] at h
  exact h.1.2
def UsJ (al : List Int) (dare : Int) (g13 : Nat) (Wl : World) (vs : List Value) (w' : World) : Prop := FrG g13 Wl w' ∧ ∃ (v u ov : Value) (i : Nat), vs = [v, u, .int .i64 (i : Int)] ∧ i ≤ al.length ∧ OwnI w' Wl.heap.size ov (al.take i) ∧ w'.heap[g13]? = some (.cells #[.int .i64 dare, ov] 47 (0, 0))
theorem Use_ok (s : Stp) (b : Bld) (dare : Int) {v bv lv : Value} {l : List Int} (hd : I64 dare) (hs : SetR w s v) (hl : Ints w lv l) (hb : BldR w b bv)
    (k : ∀ w' ov, Below w.heap.size w w' → Ints w' ov (useM s l b dare).1.answers → K (.tuple #[spdV (useM s l b dare).1 ov, .bool (useM s l b dare).2]) w') : callM Tryz.prog 13 #[stpV s v, lv, bldV b bv, .int .i64 dare] K w := by
  apply sh_13_ok
  unfold sh_13
  obtain ⟨ad, c, rfl⟩ := hs.ints.isSlice
  have hys := hb.ys
  have hb0 := hb
  obtain ⟨yad, yc, rfl⟩ := hb.ys.isSlice
  have k2 : ∀ w' ov r, useM s l b dare = r → Below w.heap.size w w' → Ints w' ov r.1.answers → K (.tuple #[spdV r.1 ov, .bool r.2]) w' := fun w' ov r e hb hi => by
    rw [← e] at hi ⊢
    exact k w' ov hb hi
  clear k
  refine box_kn (cs := stpC s (.slice ad s.bases.length c)) rfl (.start w) fun b1 W hk hb1 hbb => ?_
  refine box_kn (cs := bldC b (.slice yad b.ys.length yc)) rfl hk fun b2 W2 hk hb2 hbb => ?_
  refine alloc_mine (n := 2) al_spd rfl hk fun g W2 hk hb2 hg => ?_
  clear hb1 hb2
  repeat (any_goals ((with_reducible refine idO ?_); (with_reducible refine oM_gen fun Kv hK=>?_); simp [go_sem, hk.cells]; refine hK _ _ ?_; clear hK; clear Kv))
  refine usable_ok s (hs.next hk.below) (hl.next hk.below) (fun w2 h2 => ?_)
  have hk := hk.next h2
  clear h2
  have hno := useM_no (s := s) (l := l) (b := b) (dare := dare)
  cases hu : (usableM s l).2 with
  | false =>
    repeat (any_goals (first
    | ((with_reducible refine local_desk s ad s.bases.length c hk ?_); intro b7 W7 hk hb7 hg7)
    | (with_reducible first|((refine idGd ?_); refine zD ?_)|((refine idPick ?_); refine yB ?_)|((refine idCond ?_); refine yL ?_))
    | ((with_reducible refine idO ?_); (with_reducible refine oM_gen fun Kv hK=>?_); simp [go_sem, hk.cells]; refine hK _ _ ?_; clear hK; clear Kv)))
    exact store_spd ⟨0, []⟩ none 0 0 hk (fun W3 hk hc _ => ⟨_, by simp [go_sem, hc], k2 _ _ _ (hno (.inl hu)) hk.below (Ints.nil _)⟩)
  | true =>
    obtain ⟨hll, hv⟩ := usable_len hu
    have hv7 := validS_len hv
    repeat (any_goals (first
    | ((with_reducible refine local_desk s ad s.bases.length c hk ?_); intro b7 W7 hk hb7 hg7)
    | (with_reducible ((refine idGd ?_); refine zC ?_))
    | ((with_reducible refine idO ?_); (with_reducible refine oM_gen fun Kv hK=>?_); simp [go_sem, hk.cells]; refine hK _ _ ?_; clear hK; clear Kv)))
    refine blinds_ok s b (hs.next hk.below) (hb0.next hk.below) (fun w3 h3 => ?_)
    have hk := hk.next h3
    cases hbl : blindsM s b with
    | false =>
      repeat (any_goals (first
      | (with_reducible first|((refine idGd ?_); first|refine zC ?_|refine zD ?_)|((refine idPick ?_); first|refine yB ?_|refine yC ?_)|((refine idCond ?_); refine yL ?_))
      | ((with_reducible refine idO ?_); (with_reducible refine oM_gen fun Kv hK=>?_); simp [go_sem, hk.cells]; refine hK _ _ ?_; clear hK; clear Kv)))
      exact store_spd ⟨0, []⟩ none 0 0 hk (fun W3 hk hc _ => ⟨_, by simp [go_sem, hc], k2 _ _ _ (hno (.inr (.inl hbl))) hk.below (Ints.nil _)⟩)
    | true =>
      have hyl := blinds_len hbl
      repeat (any_goals (first
      | ((with_reducible refine mk1 dare hd ?_); intro v8 W8 hb8 hi)
      | (with_reducible first|refine pureM_in ?_|((refine idGd ?_); refine zC ?_)|((refine idPick ?_); refine yC ?_))
      | ((with_reducible refine idO ?_); (with_reducible refine oM_gen fun Kv hK=>?_); simp [go_sem, hk.cells]; refine hK _ _ ?_; clear hK; clear Kv)))
      have hk := hk.next hb8
      refine nums_ok s 1 (hs.next hk.below) hi (fun w4 h4 => ?_)
      have hk := hk.next h4
      cases hn : numsM s 1 [dare] with
      | false =>
        repeat (any_goals (first
        | (with_reducible first|((refine idGd ?_); refine zC ?_)|((refine idPick ?_); refine yC ?_)|((refine idCond ?_); refine yL ?_))
        | ((with_reducible refine idO ?_); (with_reducible refine oM_gen fun Kv hK=>?_); simp [go_sem, hk.cells]; refine hK _ _ ?_; clear hK; clear Kv)))
        exact store_spd ⟨0, []⟩ none 0 0 hk (fun W3 hk hc _ => ⟨_, by simp [go_sem, hc], k2 _ _ _ (hno (.inr (.inr hn))) hk.below (Ints.nil _)⟩)
      | true =>
        have ey := useM_yes hu hbl hn
        have hgW : g < w4.heap.size := mine_lt hk.mine
        have hoffL := cells_lt hk.cells
        repeat (any_goals (first
        | ((with_reducible refine local_spd ⟨dare, []⟩ hk ?_); intro g13 W9 hk hb9 hg13 hh13)
        | (with_reducible first|((refine idGd ?_); refine zC ?_)|((refine idPick ?_); refine yC ?_)|((refine idCond ?_); refine yM ?_))
        | ((with_reducible refine idO ?_); (with_reducible refine oM_gen fun Kv hK=>?_); simp [go_sem, hk.cells]; refine hK _ _ ?_; clear hK; clear Kv)))
        refine exps_ok (hl.next hk.below) (by omega) (by omega) (fun ev w5 he h5 hff => ?_)
        have hg13W := (Array.getElem?_eq_some_iff.1 hh13).1
        have hh13 : w5.heap[g13]? = some (.cells #[.int .i64 dare, .slice none 0 0] 47 (0, 0)) := by rw [h5.block g13 hg13W]; exact hh13
        have hk := hk.next h5
        have hel : (expsM l).length = l.length + 1 := rfl
        have hal : (ansL s l b dare).length = l.length + 1 := by simp [ansL, hel]; omega
        have hat : ∀ (i : Nat) (h1 : i < (expsM l).length) (h2 : i < b.ys.length), (ansL s l b dare)[i]? = some (plusQ s b.ys[i] (mulQ s dare [b.s, (expsM l)[i]])) := fun i h1 h2 => by
          simp [ansL, h1, h2, List.getElem?_zip_eq_some]
          exact ⟨_, _, ⟨rfl, rfl⟩, rfl⟩
        have hrng : ∀ n ∈ ansL s l b dare, I64 n := by
          intro n hn
          obtain ⟨m, _, rfl⟩ := List.mem_map.1 hn
          exact addM_I64 _ _ _
        generalize ansL s l b dare = al at *
        obtain ⟨ead, ec, rfl⟩ := he.isSlice
        have hs5 := h5.size
        have hs9 := hb9.size
        have hing : ∀ i, Value.inBlock (.slice ead (expsM l).length ec) = some i → i ≠ g13 := fun i hi => by
          have := hff i hi
          omega
        repeat (any_goals ((with_reducible refine idO ?_); (with_reducible refine oM_gen fun Kv hK=>?_); simp [go_sem]; refine hK _ _ ?_; clear hK; clear Kv))
        refine ⟨UsJ al dare g13 w5, vsMu (expsM l).length, ⟨Fr.refl _ _, _, _, .slice none 0 0, 0, rfl, by omega, World.ownsRow_nil _ _ _ _, hh13⟩, ?_⟩
        have hk0 := hk
        have hgne : g ≠ g13 := by omega
        have hoff13 : ∀ p ∈ cellsOf (cellsOf (cellsOf [] b1 0 (stpC s (.slice ad s.bases.length c))) b2 0 (bldC b (.slice yad b.ys.length yc))) b7 0 (stpC s (.slice ad s.bases.length c)), p.1.block ≠ g13 := fun p hp => by have := hoffL p hp; omega
        have hw13 : w.heap.size ≤ g13 := Nat.le_trans hk0.base (by omega)
        rintro _ _ w6 ⟨h6, u1, u2, ov, i, rfl, hi, ho, hh⟩
        have hk := hk0.fr h6 hoff13 hgne hw13
        by_cases hin : i = (expsM l).length
        · rw [List.take_of_length_le (by omega)] at ho
          have hints := ho.ints hrng (by omega)
          obtain ⟨g', cap, cur, rfl, hlt, hB, _, _, _, hcell⟩ := owns_cells ho (by omega)
          have c0 : w6.cell? ⟨g13, 0, none⟩ = some (.int .i64 dare) := by rw [cell_of_block hh]; rfl
          have c1 : w6.cell? ⟨g13, 1, none⟩ = some (.slice (some ⟨g', 0, none⟩) al.length cap) := by rw [cell_of_block hh]; rfl
          repeat (any_goals (first
          | (with_reducible ((refine idCond ?_); refine yO ?_))
          | ((with_reducible refine idO ?_); (with_reducible refine oM_gen fun Kv hK=>?_); simp [go_sem, c0, c1]; refine hK _ _ ?_; clear hK; clear Kv)))
          refine store_spd ⟨dare, al⟩ _ _ _ hk (fun W3 hk hc hgr => ⟨_, by simp [go_sem, hc], k2 _ _ _ ey hk.below ⟨hints.row.keep hgr.size (fun i hi hlt => hgr.block i hlt ?_), hrng, by show al.length ≤ _; omega⟩⟩)
          cases hi
          intro e
          have e2 : g' = g := Option.some.inj e
          omega
        · have hev := Ints.fr he h6 hing
          have hed := FrG.below hk0.below h6 hw13
          obtain ⟨b8, o8, rfl, hb8', ca, ra, _⟩ := hev.at (i := i) (by omega)
          obtain ⟨b9, o9, rfl, hb9', cb, rb, _⟩ := hys.at (i := i) (by omega)
          have c1 : ∀ w', Below w6.heap.size w6 w' → w'.heap[g13]? = some (.cells #[.int .i64 dare, ov] 47 (0, 0)) := fun w' hw => by rw [hw.block g13 (Array.getElem?_eq_some_iff.1 hh).1]; exact hh
          repeat (any_goals (first
          | (with_reducible ((refine idCond ?_); refine yN ?_))
          | ((with_reducible refine idO ?_); (with_reducible refine oM_gen fun Kv hK=>?_); simp [go_sem, ca _ (Below.refl _ _)]; (first|refine hK _ _ ?_|refine And.intro (by omega) (hK _ _ ?_)); clear hK; clear Kv)))
          refine ⟨UsC (fun w' => KnM w _ g 2 w' ∧ Below w.heap.size w w' ∧ w'.cell? ⟨g13, 1, none⟩ = some ov), fun _ => ⟨hk.drew, hk.drew.below, by rw [cell_of_block (c1 _ .drawn)]; rfl⟩, ?_⟩
          have hk := hk.drew
          have ho := ho.keep (Below.drawn (w := w6))
          have h7 : Below w6.heap.size w6 { w6 with drawn := w6.drawn + 1 } := .drawn
          have hfr := FrG.next h6 h7
          have hh1 := c1 _ h7
          repeat (any_goals (first
          | ((with_reducible refine mk2 b.s _ hb.s ra ?_); intro v10 w10 h10 hi10)
          | (with_reducible refine pureH_in ?_)
          | ((with_reducible refine idOH ?_); (with_reducible refine oH_of ⟨_, rfl⟩ (fun W0 hW0 => by (refine oM_gen (fun Kv hK => ?_)); simp [go_sem, (usGet hW0 (by omega)).1.cells, (usGet hW0 (by omega)).2.2, cb _ (usGet hW0 (by omega)).2.1]; (first | exact hK _ _ ⟨rfl, rfl⟩ | exact ⟨by omega, hK _ _ ⟨rfl, rfl⟩⟩)) ?_))))
          have hk := hk.next h10
          have hh1 : w10.heap[g13]? = _ := (h10.block g13 (Array.getElem?_eq_some_iff.1 hh1).1).trans hh1
          have ho := ho.keep h10
          have hfr := hfr.next h10
          refine ⟨fun _ => ⟨hk, hk.below, by rw [cell_of_block hh1]; rfl⟩, mul_ok s _ (hs.next hk.below) hi10 (fun w11 h11 => ?_)⟩
          have hk := hk.next h11
          have hh1 : w11.heap[g13]? = _ := (h11.block g13 (Array.getElem?_eq_some_iff.1 hh1).1).trans hh1
          have ho := ho.keep h11
          have hfr := hfr.next h11
          refine ⟨fun _ => ⟨hk, hk.below, by rw [cell_of_block hh1]; rfl⟩, plus_ok s _ _ (hs.next hk.below) (fun w12 h12 => ?_)⟩
          have hk := hk.next h12
          have hh1 : w12.heap[g13]? = _ := (h12.block g13 (Array.getElem?_eq_some_iff.1 hh1).1).trans hh1
          have ho := ho.keep h12
          have hfr := hfr.next h12
          refine ⟨fun _ => ⟨hk, hk.below, by rw [cell_of_block hh1]; rfl⟩, mk1 _ (addM_I64 _ _ _) (fun v13 w13 h13 hi13 => ?_)⟩
          have hk := hk.next h13
          have hh1 : w13.heap[g13]? = _ := (h13.block g13 (Array.getElem?_eq_some_iff.1 hh1).1).trans hh1
          have ho := ho.keep h13
          have hfr := hfr.next h13
          refine ⟨fun _ => ⟨hk, hk.below, by rw [cell_of_block hh1]; rfl⟩, append1 ho hfr.size hi13 (by simp; omega) (fun v14 w14 ho h14 => ?_)⟩
          have hg5 : g13 < w5.heap.size := by omega
          have hh1 : w14.heap[g13]? = _ := (h14.block g13 hg5).trans hh1
          have hfr : FrG g13 w5 w14 := hfr.trans (S' := fun i => w5.heap.size ≤ i) ⟨h14.os, h14.tape, h14.output, h14.size, fun i hi hn => h14.block i (by omega)⟩ (fun i h => .inr h)
          refine ⟨fun h => absurd h (by omega), ?_⟩
          have hli : ((al.take i) ++ [plusQ s b.ys[i] (mulQ s dare [b.s, (expsM l)[i]])]) = al.take (i + 1) := by
            rw [List.take_add_one, hat i (by omega) (by omega)]
            rfl
          rw [hli] at ho
          obtain ⟨oad, oc, hov⟩ := owns_len ho
          subst hov
          repeat (any_goals ((with_reducible refine idO ?_); (with_reducible refine oM_gen fun Kv hK=>?_); simp [go_sem]; refine hK _ _ ?_; clear hK; clear Kv))
          refine ⟨fun h => absurd h (by omega), store_second hh1 (fun w15 hgr hh2 => ⟨fun h => absurd h (by omega), ?_⟩)⟩
          have hfr : FrG g13 w5 w15 := hfr.by hgr (fun i e => .inl (Option.some.inj e).symm)
          have ho : OwnI w15 w5.heap.size _ _ := owns_keep ho (fun j hj => hgr.block j (owns_own ho hj).1 (fun e => by have := (owns_own ho hj).2.1; have := Option.some.inj e; omega))
          repeat (any_goals ((with_reducible refine idO ?_); (with_reducible refine oM_gen fun Kv hK=>?_); simp [go_sem]; (try simp (disch := omega) only [wrapI64, wrapU8, wrapU32, wrapU64]); refine hK _ _ ?_; clear hK; clear Kv))
          refine ⟨⟨hfr, _, _, _, i + 1, rfl, by omega, ho, hh2⟩, ?_⟩
          simp only [vsMu_eq]; omega
end
end Go.Proofs
set_option linter.unusedVariables false
set_option maxRecDepth 100000
namespace Go.Proofs
open Go.Sh
end Go.Proofs
namespace Go.Proofs
abbrev tabName : String := (YtpimhdkjpccihaaGreatDoor.Rows.ticketCodesRow.laid.map (fun x => x.1)).getD 2 default
open Go.Shelf
def Tryz.lays169_ren : Go.Shelf.Ren := ⟨fun | 169 => 192 | n => n, fun | 70 => 197 | 9 => 9 | 0 => 0 | 72 => 199 | 37 => 189 | 127 => 222 | 3 => 3 | 5 => 5 | n => n, fun | n => n⟩
theorem Tryz.lays169 : Go.Proofs.Lays.n169 Tryz.prog Tryz.lays169_ren := {
  mixed := by kernel_rfl
  f169 := Tryz.func192.trans (congrArg some (by kernel_rfl))
  t0 := Tryz.underlying0
  a0 := Tryz.isAgg0
  z0 := Tryz.sizeOf0
  v0 := Tryz.zeroValue0
  t3 := Tryz.underlying3
  a3 := Tryz.isAgg3
  z3 := Tryz.sizeOf3
  v3 := Tryz.zeroValue3
  t9 := Tryz.underlying9
  a9 := Tryz.isAgg9
  z9 := Tryz.sizeOf9
  v9 := Tryz.zeroValue9
  t37 := Tryz.underlying189
  a37 := Tryz.isAgg189
  z37 := Tryz.sizeOf189
  v37 := Tryz.zeroValue189
  t70 := Tryz.underlying197
  a70 := Tryz.isAgg197
  z70 := Tryz.sizeOf197
  v70 := Tryz.zeroValue197
  t72 := Tryz.underlying199
  a72 := Tryz.isAgg199
  z72 := Tryz.sizeOf199
  v72 := Tryz.zeroValue199
  t127 := Tryz.underlying222
  a127 := Tryz.isAgg222
  z127 := Tryz.sizeOf222
  v127 := Tryz.zeroValue222 }
theorem Tryz.Builder_Extra_169 : Builder.Extra Tryz.prog Tryz.lays169_ren := {
  sizeBuilder := by kernel_rfl
  liesBuilder := by kernel_rfl
  t5 := Tryz.underlying5
  a5 := Tryz.isAgg5
  z5 := Tryz.sizeOf5
  v5 := Tryz.zeroValue5
  infoByte := by kernel_rfl
  cellsByte := by kernel_rfl
  sizeByte := by kernel_rfl
  neB5 := by decide }
open Go.RowKit in
theorem Tryz.Builder_String_any (B b : Nat) (l : List UInt8) (w : World) (h : Lib.IsBuilder 199 5 B b (Lib.byteCells l) w) (hBw : B ≤ w.heap.size) :
    Calls Tryz.prog 192 #[.pointer (some ⟨b, 0, none⟩)] w fun e w' => e = .returned (.string ⟨l.toArray⟩) ∧ Below B w w' := Any.Builder_String_any Tryz.lays169 Tryz.Builder_Extra_169 B b l w h hBw
def Tryz.laysM171_ren : Go.Shelf.Ren := ⟨fun | 171 => 172 | 243 => 197 | 246 => 218 | 283 => 230 | 284 => 231 | 285 => 232 | 286 => 233 | 129 => 224 | 317 => 241 | 318 => 242 | 319 => 243 | 320 => 244 | 337 => 248 | 338 => 222 | n => n, fun | 3 => 3 | 9 => 9 | 2 => 2 | 4 => 4 | 171 => 234 | 0 => 0 | 53 => 123 | 37 => 189 | 5 => 5 | 173 => 236 | 212 => 247 | 51 => 205 | 20 => 20 | 213 => 248 | 46 => 176 | 232 => 261 | 233 => 238 | n => n, fun | 17 => 3 | 18 => 7 | 19 => 2 | n => n⟩
theorem Tryz.laysM171 : Go.Proofs.LaysM.n171 Tryz.prog Tryz.laysM171_ren := {
  mixed := by kernel_rfl
  f129 := Tryz.func224.trans (congrArg some (by kernel_rfl))
  f171 := Tryz.func172.trans (congrArg some (by kernel_rfl))
  f243 := Tryz.func197.trans (congrArg some (by kernel_rfl))
  f246 := Tryz.func218.trans (congrArg some (by kernel_rfl))
  f283 := Tryz.func230.trans (congrArg some (by kernel_rfl))
  f284 := Tryz.func231.trans (congrArg some (by kernel_rfl))
  f285 := Tryz.func232.trans (congrArg some (by kernel_rfl))
  f286 := Tryz.func233.trans (congrArg some (by kernel_rfl))
  f317 := Tryz.func241.trans (congrArg some (by kernel_rfl))
  f318 := Tryz.func242.trans (congrArg some (by kernel_rfl))
  f319 := Tryz.func243.trans (congrArg some (by kernel_rfl))
  f320 := Tryz.func244.trans (congrArg some (by kernel_rfl))
  f337 := Tryz.func248.trans (congrArg some (by kernel_rfl))
  f338 := Tryz.func222.trans (congrArg some (by kernel_rfl))
  t0 := Tryz.underlying0
  a0 := Tryz.isAgg0
  z0 := Tryz.sizeOf0
  v0 := Tryz.zeroValue0
  t2 := Tryz.underlying2
  a2 := Tryz.isAgg2
  z2 := Tryz.sizeOf2
  v2 := Tryz.zeroValue2
  t3 := Tryz.underlying3
  a3 := Tryz.isAgg3
  z3 := Tryz.sizeOf3
  v3 := Tryz.zeroValue3
  t4 := Tryz.underlying4
  a4 := Tryz.isAgg4
  z4 := Tryz.sizeOf4
  v4 := Tryz.zeroValue4
  t5 := Tryz.underlying5
  a5 := Tryz.isAgg5
  z5 := Tryz.sizeOf5
  v5 := Tryz.zeroValue5
  t9 := Tryz.underlying9
  a9 := Tryz.isAgg9
  z9 := Tryz.sizeOf9
  v9 := Tryz.zeroValue9
  t20 := Tryz.underlying20
  a20 := Tryz.isAgg20
  z20 := Tryz.sizeOf20
  v20 := Tryz.zeroValue20
  t37 := Tryz.underlying189
  a37 := Tryz.isAgg189
  z37 := Tryz.sizeOf189
  v37 := Tryz.zeroValue189
  t46 := Tryz.underlying176
  a46 := Tryz.isAgg176
  z46 := Tryz.sizeOf176
  v46 := Tryz.zeroValue176
  t51 := Tryz.underlying205
  a51 := Tryz.isAgg205
  z51 := Tryz.sizeOf205
  v51 := Tryz.zeroValue205
  t53 := Tryz.underlying123
  a53 := Tryz.isAgg123
  z53 := Tryz.sizeOf123
  v53 := Tryz.zeroValue123
  t171 := Tryz.underlying234
  a171 := Tryz.isAgg234
  z171 := Tryz.sizeOf234
  v171 := Tryz.zeroValue234
  t173 := Tryz.underlying236
  a173 := Tryz.isAgg236
  z173 := Tryz.sizeOf236
  v173 := Tryz.zeroValue236
  t212 := Tryz.underlying247
  a212 := Tryz.isAgg247
  z212 := Tryz.sizeOf247
  v212 := Tryz.zeroValue247
  t213 := Tryz.underlying248
  a213 := Tryz.isAgg248
  z213 := Tryz.sizeOf248
  t232 := Tryz.underlying261
  a232 := Tryz.isAgg261
  z232 := Tryz.sizeOf261
  v232 := Tryz.zeroValue261
  t233 := Tryz.underlying238
  a233 := Tryz.isAgg238
  z233 := Tryz.sizeOf238
  v233 := Tryz.zeroValue238
  g17 := by kernel_rfl
  g18 := by kernel_rfl
  g19 := by kernel_rfl
  i0 := by kernel_rfl
  i2 := by kernel_rfl
  i3 := by kernel_rfl
  i4 := by kernel_rfl
  i5 := by kernel_rfl
  i9 := by kernel_rfl
  i20 := by kernel_rfl
  i37 := by kernel_rfl
  i46 := by kernel_rfl
  i51 := by kernel_rfl
  i53 := by kernel_rfl
  i171 := by kernel_rfl
  i173 := by kernel_rfl
  i212 := by kernel_rfl
  i232 := by kernel_rfl
  i233 := by kernel_rfl
  m17 := by kernel_rfl
  m18 := by kernel_rfl
  m19 := by kernel_rfl }
open Go.RowKit Go.Sort Go.Lib in
theorem Tryz.strconv_Itoa (n : Int) (h0 : -9223372036854775808 ≤ n) (h1 : n ≤ 9223372036854775807) (w : World) (htab : Lib.TabIs Tryz.prog w tabName .u64 Lib.pow10Tab) :
    Calls Tryz.prog 172 #[.int .i64 n] w fun e w' => e = .returned (.string ⟨(Lib.itoa n).toArray⟩) ∧ ∃ k os, w' = grow (w.drewN k) os := Any.strconv_Itoa Tryz.laysM171 n h0 h1 w htab
end Go.Proofs
namespace CodeSpec
open Go.Lib
abbrev Bytes := List UInt8
def InR (n : Int) : Prop := -9223372036854775808 ≤ n ∧ n ≤ 9223372036854775807
def encInt (n : Int) : Bytes := itoa n ++ [59]
def encList (l : List Bytes) : Bytes := itoa l.length ++ 91 :: (l.flatten ++ [93])
def encNums (l : List Int) : Bytes := encList (l.map encInt)
structure Rd where
  rest : Bytes
  bad : Bool
theorem decDigits_len (u : Nat) (k : Nat) (hk : 1 ≤ k) (h : u < 10 ^ k) : (decDigits u).length ≤ k := by
  induction k generalizing u with
  | zero => omega
  | succ k ih =>
    rw [decDigits]
    split
    · simp
    · rename_i h10
      have hk1 : 1 ≤ k := by
        rcases Nat.eq_zero_or_pos k with rfl | h0
        · simp at h; omega
        · exact h0
      have := ih (u / 10) hk1 (by rw [Nat.pow_succ] at h; omega)
      simp only [List.length_append, List.length_singleton]
      omega
theorem itoa_len (n : Int) (h : InR n) : (itoa n).length ≤ 20 := by
  obtain ⟨h1, h2⟩ := h
  unfold itoa
  split
  · have := decDigits_len n.natAbs 19 (by omega) (by omega)
    simp; omega
  · have := decDigits_len n.toNat 19 (by omega) (by omega)
    omega
def Rd.ok (r : Rd) : Prop := r.bad = true → r.rest = []
end CodeSpec
namespace Go.Proofs.Cd
open Go Go.Sh Go.RowKit Go.Lib CodeSpec
set_option linter.unusedSimpArgs false
set_option maxRecDepth 10000
theorem ba_extract (l : List UInt8) (i j : Nat) : (⟨l.toArray⟩ : ByteArray).extract i j = ⟨((l.take j).drop i).toArray⟩ := by
  apply ByteArray.ext
  rw [← Array.toList_inj, ByteArray.data_extract, Array.toList_extract, List.extract_eq_take_drop]
  simp [List.drop_take]
theorem ba_inj (a b : List UInt8) : ((⟨a.toArray⟩ : ByteArray) = ⟨b.toArray⟩) = (a = b) := by
  simp
theorem ba_byteAt (l : List UInt8) (k : Nat) : byteAt ⟨l.toArray⟩ k = l.getD k 0 := by
  simp [byteAt]
attribute [go_sem] ba_size ba_append ba_extract ba_byteAt ba_inj
theorem K_eq {K : Value → World → Prop} {w : World} {a b : Value} (h : K a w) (e : b = a) : K b w := by rw [e]; exact h
theorem call_of_calls {f : FuncId} {args : Array Value} {w : World} {v : Value} {Q : World → Prop} {K : Value → World → Prop} (h : Calls Tryz.prog f args w fun e w' => e = .returned v ∧ Q w') (k : ∀ w', Q w' → K v w') : callM Tryz.prog f args K w :=
  Calls.mono h (fun _ w' ⟨he, hq⟩ => ⟨v, he, k w' hq⟩)
structure Laid (w : World) : Prop where
  tab : TabIs Tryz.prog w tabName .u64 pow10Tab
  size : 8 ≤ w.heap.size
structure LaidE (w : World) : Prop extends Laid w where
  syn : ∃ te pe, w.cell? ⟨5, 0, none⟩ = some (.iface te pe)
  ran : ∃ te pe, w.cell? ⟨6, 0, none⟩ = some (.iface te pe)
theorem gTab : Tryz.prog.globalNamed tabName = some 3 := by kernel_rfl
theorem Laid.keep {w w' : World} (h : Laid w) (hb : ∀ k, k < 8 → w'.heap[k]? = w.heap[k]?) (hs : w.heap.size ≤ w'.heap.size) : Laid w' := by
  refine ⟨?_, Nat.le_trans h.size hs⟩
  have h1 := h.tab
  unfold TabIs World.var? at h1 ⊢
  rw [gTab] at h1 ⊢
  simp only [Option.bind_some] at h1 ⊢
  rw [hb _ (by omega)]
  exact h1
theorem Laid.below {w w' : World} (h : Laid w) {B : Nat} (hb : Below B w w') (hB : 8 ≤ B) : Laid w' := h.keep (fun k hk => hb.block k (by omega)) hb.size
theorem Laid.grown {w w' : World} (h : Laid w) {b : Nat} (hg : w.grownBy w' (some b)) (hb : 8 ≤ b) : Laid w' := h.keep (fun k hk => hg.block k (by have := h.size; omega) (by simp; omega)) hg.size
theorem LaidE.keep {w w' : World} (h : LaidE w) (hb : ∀ k, k < 8 → w'.heap[k]? = w.heap[k]?) (hs : w.heap.size ≤ w'.heap.size) : LaidE w' := by
  have hc : ∀ k, k < 8 → w'.cell? ⟨k, 0, none⟩ = w.cell? ⟨k, 0, none⟩ := fun k hk => World.cell?_of_block (w := w) (hb k hk)
  refine ⟨h.toLaid.keep hb hs, ?_, ?_⟩
  · rw [hc _ (by omega)]; exact h.syn
  · rw [hc _ (by omega)]; exact h.ran
theorem LaidE.below {w w' : World} (h : LaidE w) {B : Nat} (hb : Below B w w') (hB : 8 ≤ B) : LaidE w' := h.keep (fun k hk => hb.block k (by omega)) hb.size
theorem LaidE.grown {w w' : World} (h : LaidE w) {b : Nat} (hg : w.grownBy w' (some b)) (hb : 8 ≤ b) : LaidE w' := h.keep (fun k hk => hg.block k (by have := h.toLaid.size; omega) (by simp; omega)) hg.size
theorem grown_of_below {w w' : World} (h : Below w.heap.size w w') (b : Option Nat) : w.grownBy w' b := ⟨h.os, h.tape, h.output, h.size, fun k hk _ => h.block k hk⟩
theorem below_of_grown {B : Nat} {w w' : World} {row : Option Nat} (h : w.grownBy w' row) (hB : B ≤ w.heap.size) (hr : ∀ k, row = some k → B ≤ k) : Below B w w' :=
  (Below.refl B w).grown h hB hr
theorem itoa_ok (n : Int) (hn : InR n) {K : Value → World → Prop} {w : World} (hl : Laid w) (k : ∀ w', Below w.heap.size w w' → K (.string ⟨(itoa n).toArray⟩) w') : callM Tryz.prog 172 #[.int .i64 n] K w := by
  refine call_of_calls (Tryz.strconv_Itoa n hn.1 hn.2 w hl.tab) ?_
  rintro w' ⟨d, os, rfl⟩
  exact k _ (below_grow _ _ (Nat.le_refl _) _ _)
theorem infoB : Tryz.prog.info? 199 = some Tryz.t199 := by kernel_rfl
theorem sizeB : Tryz.t199.size = 2 := by kernel_rfl
theorem liesB (b : Nat) : liesAt Tryz.prog Tryz.prog.depth 199 (2 / Tryz.prog.cellsOf 199) (⟨b, 0, none⟩ : Addr).off 199 1 = true := by kernel_rfl
theorem runNE (x : Value) (w : World) : (callFunc 229 #[x]).run Tryz.prog w = .ok (.value x) w := by kernel_rfl
theorem extNE {x : Value} {K : Value → World → Prop} {w : World} (k : K x w) : extM Tryz.prog 229 #[x] K w := by
  unfold extM opM
  rw [runNE]
  exact k
theorem copyCheck_nil (B b : Nat) (bs : List Value) (w : World) (h : BuilderAt 199 5 B b (.pointer none) bs w) {K : Value → World → Prop}
    (k : K (.tuple #[]) (w.setCell ⟨b, 0, none⟩ (.pointer (some ⟨b, 0, none⟩)))) : callM Tryz.prog 213 #[.pointer (some ⟨b, 0, none⟩)] K w := by
  apply sh_213_ok
  unfold sh_213
  have hc := h.cell0
  have hf := h.frozen0
  have hv1 : (convert 197 232 (.pointer (some ⟨b, 0, none⟩))).run Tryz.prog w = .ok (.pointer (some ⟨b, 0, none⟩)) w :=
    run_to_unsafe (P := Tryz.prog) (w := w) (a := ⟨b, 0, none⟩) Tryz.underlying197 Tryz.underlying232 (t := 199) (j := Tryz.t199) infoB (by rw [sizeB]; omega) h.shape (by show (0 : Nat) < 2; omega)
  have hv2 : (convert 232 197 (.pointer (some ⟨b, 0, none⟩))).run Tryz.prog w = .ok (.pointer (some ⟨b, 0, none⟩)) w :=
    run_from_unsafe (P := Tryz.prog) (w := w) (a := ⟨b, 0, none⟩) Tryz.underlying232 Tryz.underlying197 (u := 199) (j := Tryz.t199) infoB h.shape (liesB b)
  repeat (any_goals (first
  | (with_reducible refine extNE ?_)
  | (with_reducible ((refine idCond ?_); refine yL ?_))
  | ((with_reducible refine idO ?_); (with_reducible refine oM_gen fun Kv hK=>?_); simp [go_sem, oM_eqc, eqGuard, hc, hf, hv1, hv2]; refine hK _ _ ?_; clear hK; clear Kv)))
  exact k
theorem copyCheck_self (B b : Nat) (bs : List Value) (w : World) (h : BuilderAt 199 5 B b (.pointer (some ⟨b, 0, none⟩)) bs w) {K : Value → World → Prop}
    (k : K (.tuple #[]) w) : callM Tryz.prog 213 #[.pointer (some ⟨b, 0, none⟩)] K w := by
  apply sh_213_ok
  unfold sh_213
  have hc := h.cell0
  have hf := h.frozen0
  have hn := run_neq_ptr_same (P := Tryz.prog) (w := w) (tp := 197) (te := 199) (j := Tryz.t199) (a := ⟨b, 0, none⟩) Tryz.underlying197 infoB
  repeat (any_goals (first
  | (with_reducible ((refine idCond ?_); refine yM ?_))
  | ((with_reducible refine idO ?_); (with_reducible refine oM_gen fun Kv hK=>?_); simp [go_sem, oM_eqc, oM_net, eqGuard, hc, hf, hn]; refine hK _ _ ?_; clear hK; clear Kv)))
  exact k
theorem copyCheck_ok (B b : Nat) (bs : List Value) (w : World) (h : IsBuilder 199 5 B b bs w) {K : Value → World → Prop}
    (k : ∀ w', BuilderAt 199 5 B b (.pointer (some ⟨b, 0, none⟩)) bs w' → w.grownBy w' (some b) → w'.heap.size = w.heap.size → K (.tuple #[]) w') : callM Tryz.prog 213 #[.pointer (some ⟨b, 0, none⟩)] K w := by
  rcases h with h | h
  · refine copyCheck_nil B b bs w h (k _ (h.used _) ⟨rfl, rfl, rfl, by simp [World.setCell], fun i _ hi => Below.heap_setCell _ _ _ _ (fun e => hi (by simp [e]))⟩ (by simp [World.setCell]))
  · exact copyCheck_self B b bs w h (k _ h ⟨rfl, rfl, rfl, Nat.le_refl _, fun _ _ _ => rfl⟩ rfl)
theorem ownsRow_slice {w : World} {B : Nat} {e : TypeId} {sz : Nat} {v : Value} {n : Nat} {xs : List Value} (h : w.ownsRow B e sz v n xs) : ∃ a m c, v = .slice a m c := by
  rcases h.2 with ⟨h, _⟩ | ⟨g, cap, cur, h, _⟩
  · exact ⟨_, _, _, h⟩
  · exact ⟨_, _, _, h⟩
theorem builderString_ok (B b : Nat) (l : List UInt8) (w : World) (h : IsBuilder 199 5 B b (Lib.byteCells l) w) (hBw : B ≤ w.heap.size) {K : Value → World → Prop} (k : ∀ w', Below B w w' → K (.string ⟨l.toArray⟩) w') : callM Tryz.prog 192 #[.pointer (some ⟨b, 0, none⟩)] K w :=
  call_of_calls (Tryz.Builder_String_any B b l w h hBw) k
theorem writeString_ok (B b : Nat) (l s : List UInt8) (w : World) (h : IsBuilder 199 5 B b (Lib.byteCells l) w) (hlen : l.length + s.length ≤ 140737488355328) (hBw : B ≤ w.heap.size) {K : Value → World → Prop}
    (k : ∀ w', IsBuilder 199 5 B b (Lib.byteCells (l ++ s)) w' → Below B w w' → K (.tuple #[.int .i64 s.length, .nilIface]) w') : callM Tryz.prog 191 #[.pointer (some ⟨b, 0, none⟩), .string ⟨s.toArray⟩] K w := by
  apply sh_191_ok
  unfold sh_191
  refine copyCheck_ok B b _ w h ?_
  intro w1 h1 hg1 hs1
  obtain ⟨hB, v, hb, hown, hne⟩ := h1
  have hc1 : w1.cell? ⟨b, 1, none⟩ = some v := by simp [World.cell?, hb]
  have hbl : Below B w w1 := below_of_grown hg1 hBw (fun k hk => by cases hk; exact hB)
  have hbl5 : (Lib.byteCells l).length = l.length := by simp [Lib.byteCells]
  repeat (any_goals ((with_reducible refine idO ?_); (with_reducible refine oM_gen fun Kv hK=>?_); simp [go_sem, hc1]; refine hK _ _ ?_; clear hK; clear Kv))
  obtain ⟨v', w2, hrun, ho, hg, _⟩ := run_append_own_string (P := Tryz.prog) w1 B 189 9 189 5 Tryz.t5 Tryz.underlying189 Tryz.underlying9 (by kernel_rfl) (by kernel_rfl) (by kernel_rfl) (by kernel_rfl) v (Lib.byteCells l).length (Lib.byteCells l) hown ⟨s.toArray⟩ (by unfold maxLen; rw [ba_size]; omega) (by rw [ba_size]; omega) (by omega)
  rw [oM_value (S := Builtin.append_ #[189, 9] 189 #[v, .string ⟨s.toArray⟩]) (by simp [xop, execOp, evalL, evE, resolve, invoke, builtin]), hrun, ok_iff]
  have hb2 : w2.heap[b]? = some (.cells #[.pointer (some ⟨b, 0, none⟩), v] 199 (0, 0)) := by
    rw [hg.block b (by have := (Array.getElem?_eq_some_iff.1 hb).1; exact this) (fun e => hne e.symm)]
    exact hb
  have hc2 : w2.cell? ⟨b, 1, none⟩ = some v := by simp [World.cell?, hb2]
  have hf2 : w2.frozen? ⟨b, 1, none⟩ = false := by simp [World.frozen?, hb2]
  have ho' : w2.ownsRow B 5 1 v' (Lib.byteCells (l ++ s)).length (Lib.byteCells (l ++ s)) := by
    have e : Lib.byteCells l ++ strCells ⟨s.toArray⟩ = Lib.byteCells (l ++ s) := by simp [Lib.byteCells, strCells]
    have e2 : (Lib.byteCells l).length + (⟨s.toArray⟩ : ByteArray).size = (Lib.byteCells (l ++ s)).length := by rw [ba_size]; simp [Lib.byteCells]
    rw [e, e2] at ho
    exact ho
  have hput := BuilderAt.put (p := .pointer (some ⟨b, 0, none⟩)) hB hb2 ho' (by decide)
  have hbl2 : Below B w w2 := hbl.trans (below_of_grown hg (by omega) (fun k hk => (hown.lt k hk).1))
  obtain ⟨av, nv, cv, rfl⟩ := ownsRow_slice ho
  repeat (any_goals ((with_reducible refine idO ?_); (with_reducible refine oM_gen fun Kv hK=>?_); simp [go_sem, hc2, hf2]; refine hK _ _ ?_; clear hK; clear Kv))
  exact k _ (.inr hput) (hbl2.setCell hB _)
end Go.Proofs.Cd
namespace Go.Proofs.Cd
open Go Go.Sh Go.RowKit Go.Lib CodeSpec
set_option linter.unusedSimpArgs false
set_option maxRecDepth 10000
def intV (n : Int) : Value := .int .i64 n
def RowOf {α : Type} (mk : α → Value) (w : World) (v : Value) (l : List α) : Prop :=
  ∃ ad c, v = .slice ad l.length c ∧ (l = [] ∨ ∃ b o, ad = some ⟨b, o, none⟩ ∧ b < w.heap.size ∧ ∀ (i : Nat) (h : i < l.length), w.cell? ⟨b, o + i, none⟩ = some (mk l[i]))
theorem RowOf.below {α : Type} {mk : α → Value} {w w' : World} {v : Value} {l : List α} (h : RowOf mk w v l) (hb : Below w.heap.size w w') : RowOf mk w' v l := by
  obtain ⟨ad, c, rfl, h⟩ := h
  refine ⟨ad, c, rfl, h.imp id ?_⟩
  rintro ⟨b, o, rfl, hlt, hc⟩
  exact ⟨b, o, rfl, Nat.lt_of_lt_of_le hlt hb.size, fun i hi => by rw [hb.cell hlt]; exact hc i hi⟩
theorem RowOf.nil {α : Type} (mk : α → Value) (w : World) (ad : Option Addr) (c : Nat) : RowOf mk w (.slice ad 0 c) [] := ⟨ad, c, rfl, .inl rfl⟩
theorem addr_add (b o k : Nat) : (⟨b, o, none⟩ : Addr).add k = ⟨b, o + k, none⟩ := by
  unfold Addr.add
  split
  · rename_i h0; rw [h0]; simp
  · rfl
theorem RowOf.of_owns {α : Type} {mk : α → Value} {w : World} {B : Nat} {e : TypeId} {v : Value} {l : List α} (h : w.ownsRow B e 1 v l.length (l.map mk)) : RowOf mk w v l := by
  rcases h.2 with ⟨rfl, h0⟩ | ⟨g, cap, cur, rfl, hb, hg, hn, hm, hcs, ht⟩
  · obtain rfl : l = [] := List.eq_nil_of_length_eq_zero h0
    exact RowOf.nil _ _ _ _
  · refine ⟨_, cap, rfl, .inr ⟨g, 0, rfl, (Array.getElem?_eq_some_iff.1 hg).1, fun i hi => ?_⟩⟩
    have : (l.map mk)[i]? = some (mk l[i]) := by simp [hi]
    rw [← ht, List.getElem?_take_of_lt (by omega)] at this
    unfold World.cell?
    rw [hg]
    simpa using this
theorem idx22 {b o n c k : Nat} (hk : k < n) (w : World) : (Instr.indexAt 22 (.slice (some ⟨b, o, none⟩) n c) (.int .i64 k)).run Tryz.prog w = .ok (.pointer (some ⟨b, o + k, none⟩)) w := by
  rw [run_indexAt_slice (h := by kernel_rfl), if_pos (by omega)]
  have hs : (sizeOf (Tryz.prog.elem 22)).run Tryz.prog w = .ok 1 w := by kernel_rfl
  rw [hs]
  simp only [Result.andThen, Int.toNat_natCast, addr_add, Nat.mul_one]
theorem encInt_len (n : Int) (h : InR n) : (encInt n).length ≤ 21 := by
  have := itoa_len n h
  simp [encInt]; omega
theorem pInt_ok (n : Int) (hn : InR n) {K : Value → World → Prop} {w : World} (hl : Laid w) (k : ∀ w', Below w.heap.size w w' → K (.string ⟨(encInt n).toArray⟩) w') : callM Tryz.prog 164 #[.int .i64 n] K w := by
  apply sh_164_ok
  unfold sh_164
  refine itoa_ok n hn hl ?_
  intro w1 hb
  have := itoa_len n hn
  repeat (any_goals ((with_reducible refine idO ?_); (with_reducible refine oM_gen fun Kv hK=>?_); simp [go_sem]; refine And.intro (by omega) (hK _ _ ?_); clear hK; clear Kv))
  exact K_eq (k _ hb) (by simp [encInt])
theorem flat_snoc {α : Type} (enc : α → List UInt8) (xs : List α) (k : Nat) (h : k < xs.length) : ((xs.take (k + 1)).map enc).flatten = ((xs.take k).map enc).flatten ++ enc xs[k] := by
  rw [List.take_add_one, List.getElem?_eq_getElem h]
  simp only [Option.toList_some, List.map_append, List.map_cons, List.map_nil, List.flatten_append, List.flatten_cons, List.flatten_nil, List.append_nil]
theorem flat_le {α : Type} (enc : α → List UInt8) (xs : List α) (k : Nat) : ((xs.take k).map enc).flatten.length ≤ (xs.map enc).flatten.length := by
  conv => rhs; rw [← List.take_append_drop k xs]
  rw [List.map_append, List.flatten_append, List.length_append]
  omega
theorem IsBuilder.below {T e : TypeId} {B b : Nat} {bs : List Value} {w w' : World} (h : IsBuilder T e B b bs w) (hb : Below w.heap.size w w') : IsBuilder T e B b bs w' := by
  have key : ∀ p, BuilderAt T e B b p bs w → BuilderAt T e B b p bs w' := by
    rintro p ⟨hB, v, hh, hown, hne⟩
    have hlt := (Array.getElem?_eq_some_iff.1 hh).1
    refine ⟨hB, v, by rw [hb.block _ hlt]; exact hh, ?_, hne⟩
    exact hown.kept (grown_of_below hb none) (by
      rcases hown.2 with ⟨rfl, _⟩ | ⟨g, cap, cur, rfl, _⟩
      · left; rfl
      · right; simp [Value.ownBlock])
  exact h.imp (key _) (key _)
theorem encodedNum_ok (xs : List (Int)) (v : Value) {K : Value → World → Prop} {w : World} (hl : Laid w) (hrow : RowOf intV w v xs) (hx : ∀ x ∈ xs, InR x) (hlen : (encList (xs.map encInt)).length < 2^40)
    (k : ∀ w', Below w.heap.size w w' → K (.string ⟨(encList (xs.map encInt)).toArray⟩) w') : callM Tryz.prog 163 #[v, .func (.func 164) #[] #[]] K w := by
  apply sh_163_ok
  unfold sh_163
  have hsz : (encList (xs.map encInt)).length = (itoa (xs.length : Nat)).length + 1 + ((xs.map encInt).flatten).length + 1 := by simp [encList]; omega
  have hxl : xs.length ≤ (xs.map encInt).flatten.length := by
    rw [List.length_flatten]
    clear hrow hlen hsz k
    induction xs with
    | nil => simp
    | cons x xs ih =>
      have := ih (fun y hy => hx y (List.mem_cons_of_mem _ hy))
      have h1 : 1 ≤ (encInt x).length := by simp [encInt]; try omega
      simp only [List.length_cons, List.map_cons, List.sum_cons]
      omega
  have hin : InR (xs.length : Nat) := ⟨by omega, by omega⟩
  have hil := itoa_len _ hin
  obtain ⟨ad, c, rfl, hcell⟩ := hrow
  have hl0 : Laid (w.alloc (.cells #[.pointer none, .slice none 0 0] 199)) := hl.below ((Below.refl _ _).alloc (Nat.le_refl _) _) hl.size
  repeat (any_goals ((with_reducible refine idO ?_); (with_reducible refine oM_gen fun Kv hK=>?_); simp [go_sem]; refine hK _ _ ?_; clear hK; clear Kv))
  refine itoa_ok _ hin hl0 (fun w1 hb1 => ?_)
  have hb1' : Below w.heap.size w w1 := ((Below.refl _ _).alloc (Nat.le_refl _) _).trans (hb1.mono (by simp))
  have hB1 := IsBuilder.below (fresh_isBuilder 199 5 w) hb1
  have hz1 := hb1'.size
  repeat (any_goals ((with_reducible refine idO ?_); (with_reducible refine oM_gen fun Kv hK=>?_); simp [go_sem]; refine And.intro (by omega) (hK _ _ ?_); clear hK; clear Kv))
  refine writeString_ok w.heap.size _ [] _ _ hB1 (by simp; omega) (by omega) ?_
  intro w2 hB2 hb2
  have hb2' := hb1'.trans hb2
  repeat (any_goals ((with_reducible refine idO ?_); (with_reducible refine oM_gen fun Kv hK=>?_); simp [go_sem]; refine hK _ _ ?_; clear hK; clear Kv))
  refine ⟨fun l w' => ∃ (x : Value) (k : Nat), l = [x, .int .i64 k] ∧ k ≤ xs.length ∧ IsBuilder 199 5 w.heap.size w.heap.size (Lib.byteCells (itoa (xs.length : Nat) ++ 91 :: ((xs.take k).map encInt).flatten)) w' ∧ Below w.heap.size w w', fun l _ => xs.length - (match l with | [_, .int _ n] => n.toNat | _ => 0), ⟨_, 0, rfl, by omega, by simpa using hB2, hb2'⟩, ?_⟩
  rintro _ _ w3 ⟨x, j, rfl, hj, hB3, hb3⟩
  have hz3 := hb3.size
  simp only [List.getD_cons_zero, List.getD_cons_succ]
  have hfl := flat_le encInt xs j
  by_cases hlt : j < xs.length
  · rcases hcell with rfl | ⟨b, o, rfl, hbw, hcells⟩
    · simp at hlt
    have hc := hcells j hlt
    rw [← hb3.cell hbw] at hc
    simp only [intV] at hc
    have hix := idx22 (b := b) (o := o) (c := c) hlt w3
    have hl3 : Laid w3 := hl.below hb3 hl.size
    have hP := hx xs[j] (List.getElem_mem hlt)
    have hfl1 := flat_le encInt xs (j + 1)
    rw [flat_snoc _ _ _ hlt, List.length_append] at hfl1
    repeat (any_goals (first
    | (rw [oM_indexAddr, hix, rM_ok])
    | (with_reducible ((refine idCond ?_); refine yN ?_))
    | ((with_reducible refine idO ?_); (with_reducible refine oM_gen fun Kv hK=>?_); simp [go_sem, hc]; refine hK _ _ ?_; clear hK; clear Kv)))
    refine oM_callv1 (by kernel_rfl) ?_
    refine pInt_ok _ hP hl3 ?_
    intro w4 hb4
    have hz4 := hb4.size
    have hB4 : IsBuilder 199 5 w.heap.size w.heap.size (Lib.byteCells (itoa (xs.length : Nat) ++ 91 :: ((xs.take j).map encInt).flatten)) w4 := IsBuilder.below hB3 hb4
    refine writeString_ok w.heap.size _ _ _ _ hB4 (by simp only [List.length_append, List.length_cons]; omega) (by omega) ?_
    intro w5 hB5 hb5
    repeat (any_goals ((with_reducible refine idO ?_); (with_reducible refine oM_gen fun Kv hK=>?_); simp [go_sem]; (try simp (disch := omega) only [wrapI64, wrapU8, wrapU32, wrapU64]); refine hK _ _ ?_; clear hK; clear Kv))
    refine ⟨⟨_, j + 1, rfl, hlt, ?_, (hb3.trans (hb4.mono hz3)).trans hb5⟩, by simp; omega⟩
    rw [flat_snoc _ _ _ hlt]
    simpa using hB5
  · obtain rfl : j = xs.length := by omega
    rw [List.take_length] at hB3 hfl
    obtain ⟨F, hF⟩ : ∃ F, F = (xs.map encInt).flatten := ⟨_, rfl⟩
    rw [← hF] at hB3 hfl hsz
    repeat (any_goals (first
    | (with_reducible ((refine idCond ?_); refine yM ?_))
    | ((with_reducible refine idO ?_); (with_reducible refine oM_gen fun Kv hK=>?_); simp [go_sem]; refine hK _ _ ?_; clear hK; clear Kv)))
    refine builderString_ok _ _ _ _ hB3 (by omega) ?_
    intro w4 hb4
    repeat (any_goals ((with_reducible refine idO ?_); (with_reducible refine oM_gen fun Kv hK=>?_); simp [go_sem]; refine And.intro (by omega) (hK _ _ ?_); clear hK; clear Kv))
    exact K_eq (k _ (hb3.trans hb4)) (by simp [encList, hF])
theorem pNums_ok (xs : List (Int)) (v : Value) {K : Value → World → Prop} {w : World} (hl : Laid w) (hrow : RowOf intV w v xs) (hx : ∀ x ∈ xs, InR x) (hlen : (encList (xs.map encInt)).length < 2^40)
    (k : ∀ w', Below w.heap.size w w' → K (.string ⟨(encList (xs.map encInt)).toArray⟩) w') : callM Tryz.prog 119 #[v] K w := by
  apply sh_119_ok
  unfold sh_119
  skip
  exact encodedNum_ok xs v hl hrow hx hlen k
end Go.Proofs.Cd
namespace Go.Proofs.Cd
open Go Go.Sh Go.RowKit Go.Lib CodeSpec
set_option linter.unusedSimpArgs false
set_option maxRecDepth 10000
def IsRd (w : World) (b : Nat) (r : Rd) : Prop := w.heap[b]? = some (.cells #[.string ⟨r.rest.toArray⟩, .bool r.bad] 180 (0, 0))
theorem IsRd.c0 {w : World} {b : Nat} {r : Rd} (h : IsRd w b r) : w.cell? ⟨b, 0, none⟩ = some (.string ⟨r.rest.toArray⟩) := by
  unfold IsRd at h; simp [World.cell?, h]
theorem IsRd.c1 {w : World} {b : Nat} {r : Rd} (h : IsRd w b r) : w.cell? ⟨b, 1, none⟩ = some (.bool r.bad) := by
  unfold IsRd at h; simp [World.cell?, h]
theorem IsRd.fz {w : World} {b : Nat} {r : Rd} (h : IsRd w b r) (i : Nat) : w.frozen? ⟨b, i, none⟩ = false := by
  unfold IsRd at h; simp [World.frozen?, h]
theorem IsRd.lt {w : World} {b : Nat} {r : Rd} (h : IsRd w b r) : b < w.heap.size := (Array.getElem?_eq_some_iff.1 h).1
theorem heap_set {w : World} {b i : Nat} {cs : Array Value} {T : TypeId} {f : Nat × Nat} (h : w.heap[b]? = some (.cells cs T f)) (u : Value) : (w.setCell ⟨b, i, none⟩ u).heap[b]? = some (.cells (cs.setIfInBounds i u) T f) := by
  simp [World.setCell, Array.getElem?_modify, h]
theorem IsRd.set1 {w : World} {b : Nat} {r : Rd} (h : IsRd w b r) (t : Bool) : IsRd (w.setCell ⟨b, 1, none⟩ (.bool t)) b ⟨r.rest, t⟩ := by
  unfold IsRd at h ⊢
  rw [heap_set h]; rfl
theorem IsRd.below {w w' : World} {b : Nat} {r : Rd} (h : IsRd w b r) {B : Nat} (hb : Below B w w') (hB : b < B) : IsRd w' b r := by
  unfold IsRd at h ⊢
  rw [hb.block _ hB]; exact h
theorem IsRd.drew {w : World} {b : Nat} {r : Rd} (h : IsRd w b r) : IsRd w.drew b r := h
end Go.Proofs.Cd
namespace Go.Proofs.Cd
open Go Go.Sh Go.RowKit Go.Lib CodeSpec
set_option linter.unusedSimpArgs false
set_option maxRecDepth 10000
theorem open_ok (s : List UInt8) {K : Value → World → Prop} {w : World} (k : ∀ w', IsRd w' w.heap.size ⟨s, false⟩ → Below w.heap.size w w' → K (.pointer (some ⟨w.heap.size, 0, none⟩)) w') : callM Tryz.prog 116 #[.string ⟨s.toArray⟩] K w := by
  apply sh_116_ok
  unfold sh_116
  repeat (any_goals ((with_reducible refine idO ?_); (with_reducible refine oM_gen fun Kv hK=>?_); simp [go_sem]; refine hK _ _ ?_; clear hK; clear Kv))
  exact k _ (by unfold IsRd; exact heap_alloc_new _ _) ((Below.refl _ _).alloc (Nat.le_refl _) _)
end Go.Proofs.Cd
namespace Go.Proofs.Cd
open Go Go.Sh Go.RowKit Go.Lib CodeSpec
set_option linter.unusedSimpArgs false
set_option maxRecDepth 10000
theorem IsRd.own {w2 w3 : World} {b B : Nat} {e : TypeId} {sz n : Nat} {v : Value} {xs : List Value} {r : Rd} (h : IsRd w2 b r) (hown : w2.ownsRow B e sz v n xs) (hB : b < B) (hg : w2.grownBy w3 v.ownBlock) : IsRd w3 b r := by
  have hlt := h.lt
  unfold IsRd at h ⊢
  rw [hg.block b hlt (fun e => by have := (hown.lt b e.symm).1; omega)]
  exact h
end Go.Proofs.Cd
namespace Go.Proofs
open Go Go.Sh Go.RowKit FdSpec TkSpec CodeSpec
set_option linter.unusedSimpArgs false
set_option linter.unusedVariables false
set_option maxRecDepth 10000
def tktL (t : Tkt) : List Int := [t.mark, t.first, t.z, t.a, t.b, t.r]
theorem InR_iff (n : Int) : InR n ↔ I64 n := by unfold InR I64; omega
theorem TktR.all {t : Tkt} (h : TktR t) : ∀ n ∈ tktL t, I64 n := by
  intro n hn
  simp only [tktL, List.mem_cons, List.not_mem_nil, or_false] at hn
  rcases hn with rfl | rfl | rfl | rfl | rfl | rfl
  · exact h.mark
  · exact h.first
  · exact h.z
  · exact h.a
  · exact h.b
  · exact h.r
section
variable {K : Value → World → Prop} {w w0 w1 : World} {L : List (Addr × Value)}
theorem sz_tkt (w : World) : (sizeOf 43).run Tryz.prog w = .ok 6 w := by kernel_rfl
theorem al_tkt (w : World) : (Instr.alloc 43 true (.tuple #[])).run Tryz.prog w = .ok (.pointer (some ⟨w.heap.size, 0, none⟩)) (w.alloc (.cells [.int .i64 0, .int .i64 0, .int .i64 0, .int .i64 0, .int .i64 0, .int .i64 0].toArray 43)) := by kernel_rfl
theorem tkt_one (t : Tkt) : ∀ u ∈ tktC t, u.oneCell' = true := by
  intro u hu
  simp only [tktC, List.mem_cons, List.not_mem_nil, or_false] at hu
  rcases hu with rfl | rfl | rfl | rfl | rfl | rfl <;> rfl
theorem store_tkt {K : Value → World → Prop} {T' : TypeId} {g : Nat} (t : Tkt) (hk : KnM w0 L g 6 w)
    (k : ∀ W, KnM w0 L g 6 W → cellsAre W (cellsOf [] g 0 (tktC t)) → K undef W) : oM Tryz.prog (.store 43 (.tmp 0) (.tmp 1)) T' [.pointer (some ⟨g, 0, none⟩), tktV t] K w :=
  store_mine sz_tkt rfl rfl (tkt_one t) hk k
theorem local_tkt {K : Value → World → Prop} {T' T2 : TypeId} (t : Tkt) (hk : Kn w0 L w)
    (k : ∀ b W, Kn w0 (cellsOf L b 0 (tktC t)) W → Below w.heap.size w W → w.heap.size ≤ b → K (.pointer (some ⟨b, 0, none⟩)) W) :
    oM Tryz.prog (.alloc 43) T' [] (fun v w => oM Tryz.prog (.store 43 (.tmp 0) (.tmp 1)) T2 [v, tktV t] (fun _ w => K v w) w) w :=
  local_kn al_tkt rfl sz_tkt rfl rfl (tkt_one t) hk k
theorem Ints.rowOf {v : Value} {l : List Int} (h : Ints w v l) : Cd.RowOf Cd.intV w v l := by
  obtain ⟨⟨ad, c, rfl, h0, hc⟩, hr, hl⟩ := h
  refine ⟨ad, c, rfl, hc.imp id ?_⟩
  rintro ⟨b, o, rfl, hlt, hcell⟩
  exact ⟨b, o, rfl, hlt, fun i hi => hcell i _ (by rw [flat_int]; simp [hi, Cd.intV])⟩
end
end Go.Proofs
namespace Go.Proofs
open Go Go.Sh Go.RowKit FdSpec TkSpec CodeSpec
set_option linter.unusedSimpArgs false
set_option linter.unusedVariables false
set_option maxRecDepth 10000
section
@[go_sem] theorem eql_tkt (T : TypeId) (a b : Tkt) : oM Tryz.prog (.binOp .eql 43 (.tmp 0) (.tmp 1) 43) T [tktV a, tktV b] = pureM (.bool (decide (a = b))) := by
  funext K w
  have h1 : (eqGuard .eql 43 (.tmp 0) (.tmp 1) (tktV a) (tktV b)).run Tryz.prog w = .ok () w := run_eqGuard_agg w _ _ _ _ _ _ (by kernel_rfl)
  have h2 : (binOp .eql 43 (tktV a) (tktV b)).run Tryz.prog w = .ok (.bool (decide (a = b))) w := by
    rw [run_eql_struct, run_equalIn_agg w 9999 43 _ _ (by kernel_rfl) (by kernel_rfl)]
    have u3 := Tryz.underlying3
    have e : decide (a = b) = ((a.mark == b.mark) && (a.first == b.first) && (a.z == b.z) && (a.a == b.a) && (a.b == b.b) && (a.r == b.r)) := by
      obtain ⟨a1, a2, a3, a4, a5, a6⟩ := a
      obtain ⟨b1, b2, b3, b4, b5, b6⟩ := b
      simp [Tkt.mk.injEq, and_assoc, Bool.and_assoc]
      rfl
    rw [e]
    simp [go_sem, Program.fieldsOf, Tryz.underlying43, Op.eqFields, part, u3]
    repeat' split
    all_goals simp_all
  unfold oM opM
  simp [xop, execOp, evalL, evE, h1, h2]
  exact Iff.rfl
@[go_sem] theorem eql_off (T : TypeId) (a b : Off) : oM Tryz.prog (.binOp .eql 39 (.tmp 0) (.tmp 1) 39) T [offV a, offV b] = pureM (.bool (decide (a = b))) := by
  funext K w
  have h1 : (eqGuard .eql 39 (.tmp 0) (.tmp 1) (offV a) (offV b)).run Tryz.prog w = .ok () w := run_eqGuard_agg w _ _ _ _ _ _ (by kernel_rfl)
  have h2 : (binOp .eql 39 (offV a) (offV b)).run Tryz.prog w = .ok (.bool (decide (a = b))) w := by
    rw [run_eql_struct, run_equalIn_agg w 9999 39 _ _ (by kernel_rfl) (by kernel_rfl)]
    have u3 := Tryz.underlying3
    have e : decide (a = b) = ((a.z == b.z) && (a.a == b.a) && (a.b == b.b)) := by
      obtain ⟨a1, a2, a3⟩ := a
      obtain ⟨b1, b2, b3⟩ := b
      simp [Off.mk.injEq, and_assoc, Bool.and_assoc]
      rfl
    rw [e]
    simp [go_sem, Program.fieldsOf, Tryz.underlying39, Op.eqFields, part, u3]
    repeat' split
    all_goals simp_all
  unfold oM opM
  simp [xop, execOp, evalL, evE, h1, h2]
  exact Iff.rfl
end
end Go.Proofs
namespace Go.Proofs
open Go Go.Sh Go.RowKit FdSpec TkSpec CodeSpec
set_option linter.unusedSimpArgs false
set_option linter.unusedVariables false
set_option maxRecDepth 10000
section
variable {K : Value → World → Prop} {w w0 w1 : World} {L : List (Addr × Value)}
theorem mk3 {T : TypeId} (x y z : Int) (hx : I64 x) (hy : I64 y) (hz : I64 z) (k : ∀ ad c W, Below w.heap.size w W → Ints W (.slice ad 3 c) [x, y, z] → K (.slice ad 3 c) W) : oM Tryz.prog (.buildSlice 22 3 #[(0, .tmp 0), (1, .tmp 1), (2, .tmp 2)]) T [.int .i64 x, .int .i64 y, .int .i64 z] K w := by
  rw [oM_buildSlice3]
  have e : (Instr.buildSlice 22 3 #[(0, .int .i64 x), (1, .int .i64 y), (2, .int .i64 z)]).run Tryz.prog w = .ok (.slice (some ⟨w.heap.size, 0, none⟩) 3 3) (w.alloc (.cells #[.int .i64 x, .int .i64 y, .int .i64 z] 3)) := by kernel_rfl
  rw [e]
  exact k _ _ _ ((Below.refl _ w).alloc (Nat.le_refl _) _) (ints_alloc w [x, y, z] _ 3 (by simp; exact ⟨hx, hy, hz⟩) (by simp))
theorem sz_stp (w : World) : (sizeOf 35).run Tryz.prog w = .ok 5 w := by kernel_rfl
theorem al_stp (w : World) : (Instr.alloc 35 true (.tuple #[])).run Tryz.prog w = .ok (.pointer (some ⟨w.heap.size, 0, none⟩)) (w.alloc (.cells [.int .i64 0, .int .i64 0, .int .i64 0, .slice none 0 0, .int .i64 0].toArray 35)) := by kernel_rfl
theorem sz_bld (w : World) : (sizeOf 28).run Tryz.prog w = .ok 4 w := by kernel_rfl
theorem al_bld (w : World) : (Instr.alloc 28 true (.tuple #[])).run Tryz.prog w = .ok (.pointer (some ⟨w.heap.size, 0, none⟩)) (w.alloc (.cells [.int .i64 0, .int .i64 0, .int .i64 0, .slice none 0 0].toArray 28)) := by kernel_rfl
theorem bld_one (b : Bld) (ad : Option Addr) (n c : Nat) : ∀ u ∈ bldC b (.slice ad n c), u.oneCell' = true := by
  intro u hu
  simp only [bldC, List.mem_cons, List.not_mem_nil, or_false] at hu
  rcases hu with rfl | rfl | rfl | rfl <;> rfl
theorem local_stp {K : Value → World → Prop} {T' T2 : TypeId} (s : Stp) (ad : Option Addr) (m c : Nat) (hk : Kn w0 L w)
    (k : ∀ b W, Kn w0 (cellsOf L b 0 (stpC s (.slice ad m c))) W → Below w.heap.size w W → w.heap.size ≤ b → K (.pointer (some ⟨b, 0, none⟩)) W) :
    oM Tryz.prog (.alloc 35) T' [] (fun v w => oM Tryz.prog (.store 35 (.tmp 0) (.tmp 1)) T2 [v, stpV s (.slice ad m c)] (fun _ w => K v w) w) w :=
  local_kn al_stp rfl sz_stp rfl rfl (stp_one s ad m c) hk k
theorem local_off {K : Value → World → Prop} {T' T2 : TypeId} (o : Off) (hk : Kn w0 L w)
    (k : ∀ g W, Kn w0 (cellsOf L g 0 [.int .i64 o.z, .int .i64 o.a, .int .i64 o.b]) W → Below w.heap.size w W → w.heap.size ≤ g → K (.pointer (some ⟨g, 0, none⟩)) W) :
    oM Tryz.prog (.alloc 39) T' [] (fun v w => oM Tryz.prog (.store 39 (.tmp 0) (.tmp 1)) T2 [v, offV o] (fun _ w => K v w) w) w :=
  local_kn al_off rfl sz_off rfl rfl (off_one o) hk k
structure SE (sv av yv : Value) (w' : World) : Prop where
  setup : SetR w' s0 sv
  at' : Ints w' av [5, 7]
  bl : BldR w' b0 yv
  ld : Cd.Laid w'
theorem SE.next {sv av yv : Value} {w w' : World} (h : SE sv av yv w) (hb : Below w.heap.size w w') : SE sv av yv w' :=
  ⟨h.setup.next hb, h.at'.next hb, h.bl.next hb, h.ld.below hb h.ld.size⟩
@[reducible] def x0 : Spd := ⟨2, [9, 9, 4]⟩
@[reducible] def y0 : Spd := ⟨5, [10, 3, 0]⟩
@[reducible] def z0 : Spd := ⟨3, [9, 9, 4]⟩
end
end Go.Proofs
set_option linter.unusedVariables false
set_option maxRecDepth 100000
namespace Go.Proofs
open Go.Sh
def sh_82 (a0 : Value) (a1 : Value) (a2 : Value) (a3 : Value) (a4 : Value) (K : Value → World → Prop) (w : World) : Prop :=
 oM Tryz.prog (.box 35 (.tmp 0)) 0 [a0] (fun v5_1 w =>
 oM Tryz.prog (.box 39 (.tmp 0)) 0 [a3] (fun v8_2 w =>
 oM Tryz.prog (.box 28 (.tmp 0)) 0 [a4] (fun v9_3 w =>
 oM Tryz.prog (.alloc 127) 0 [] (fun v10_4 w =>
 oM Tryz.prog (.load 35 (.tmp 0)) 35 [v5_1] (fun v18_5 w =>
 callM Tryz.prog 70 #[v18_5, a2] (fun v20_6 w =>
 oM Tryz.prog (.extract (.tmp 0) 0) 111 [v20_6] (fun v21_7 w =>
 oM Tryz.prog (.extract (.tmp 0) 1) 3 [v20_6] (fun v22_8 w =>
 oM Tryz.prog (.extract (.tmp 0) 2) 4 [v20_6] (fun v23_9 w =>
 oM Tryz.prog (.alloc 111) 0 [] (fun v12_10 w =>
 oM Tryz.prog (.store 111 (.tmp 0) (.tmp 1)) 0 [v12_10, v21_7] (fun _ w =>
 oM Tryz.prog (.unOp .not 4 (.tmp 0)) 4 [v23_9] (fun v25_11 w =>
 gdM (gd v25_11 false) (oM Tryz.prog (.load 111 (.tmp 0)) 111 [v12_10]) (fun v27_12 w =>
 gdM (gd v25_11 false) (pureM a1) (fun v28_13 w =>
 gdM (gd v25_11 false) (callM Tryz.prog 125 #[v27_12, v28_13]) (fun v29_14 w =>
 gdM (gd v25_11 false) (oM Tryz.prog (.unOp .not 4 (.tmp 0)) 4 [v29_14]) (fun v30_15 w =>
 oM Tryz.prog (.pick (.tmp 0) (.tmp 1) (.tmp 2)) 4 [v25_11, (.bool true), v30_15] (fun v31_16 w =>
 gdM (gd v31_16 false) (oM Tryz.prog (.load 111 (.tmp 0)) 111 [v12_10]) (fun v33_17 w =>
 gdM (gd v31_16 false) (oM Tryz.prog (.fieldAddr 39 (.tmp 0) 0) 0 [v8_2]) (fun v34_18 w =>
 gdM (gd v31_16 false) (oM Tryz.prog (.load 3 (.tmp 0)) 3 [v34_18]) (fun v35_19 w =>
 gdM (gd v31_16 false) (oM Tryz.prog (.fieldAddr 39 (.tmp 0) 1) 0 [v8_2]) (fun v36_20 w =>
 gdM (gd v31_16 false) (oM Tryz.prog (.load 3 (.tmp 0)) 3 [v36_20]) (fun v37_21 w =>
 gdM (gd v31_16 false) (oM Tryz.prog (.fieldAddr 39 (.tmp 0) 2) 0 [v8_2]) (fun v38_22 w =>
 gdM (gd v31_16 false) (oM Tryz.prog (.load 3 (.tmp 0)) 3 [v38_22]) (fun v39_23 w =>
 gdM (gd v31_16 false) (oM Tryz.prog (.buildSlice 22 3 #[(0, (.tmp 0)), (1, (.tmp 1)), (2, (.tmp 2))]) 22 [v35_19, v37_21, v39_23]) (fun v40_24 w =>
 gdM (gd v31_16 false) (callM Tryz.prog 146 #[v33_17, v40_24]) (fun v41_25 w =>
 gdM (gd v31_16 false) (oM Tryz.prog (.unOp .not 4 (.tmp 0)) 4 [v41_25]) (fun v42_26 w =>
 oM Tryz.prog (.pick (.tmp 0) (.tmp 1) (.tmp 2)) 4 [v31_16, (.bool true), v42_26] (fun v43_27 w =>
 gdM (gd v43_27 false) (oM Tryz.prog (.fieldAddr 39 (.tmp 0) 0) 0 [v8_2]) (fun v45_28 w =>
 gdM (gd v43_27 false) (oM Tryz.prog (.load 3 (.tmp 0)) 3 [v45_28]) (fun v46_29 w =>
 gdM (gd v43_27 false) (oM Tryz.prog (.binOp .eql 3 (.tmp 0) (.const (.int .i64 1)) 3) 4 [v46_29]) (fun v47_30 w =>
 oM Tryz.prog (.pick (.tmp 0) (.tmp 1) (.tmp 2)) 4 [v43_27, (.bool true), v47_30] (fun v48_31 w =>
 gdM (gd v48_31 false) (oM Tryz.prog (.load 111 (.tmp 0)) 111 [v12_10]) (fun v50_32 w =>
 gdM (gd v48_31 false) (oM Tryz.prog (.load 28 (.tmp 0)) 28 [v9_3]) (fun v51_33 w =>
 gdM (gd v48_31 false) (callM Tryz.prog 71 #[v50_32, v51_33]) (fun v52_34 w =>
 gdM (gd v48_31 false) (oM Tryz.prog (.unOp .not 4 (.tmp 0)) 4 [v52_34]) (fun v53_35 w =>
 oM Tryz.prog (.pick (.tmp 0) (.tmp 1) (.tmp 2)) 4 [v48_31, (.bool true), v53_35] (fun v54_36 w =>
 condM v54_36
 (oM Tryz.prog (.build 127 #[]) 127 [] (fun v55_37 w =>
 oM Tryz.prog (.store 127 (.tmp 0) (.tmp 1)) 0 [v10_4, v55_37] (fun _ w =>
 ∃ r_38, (do loadVar 127 (← asAddr v10_4) : Sem Value).run Tryz.prog w = .ok r_38 w ∧ K (.tuple #[r_38, (.int .i64 1)]) w) w) w)
 (heldM w (fun C_39 w => (((true : Bool) = true) ∧ (oH Tryz.prog (.load 111 (.tmp 0)) 111 [v12_10] C_39 (fun v56_40 =>
 pureH v22_8 C_39 (fun v57_41 =>
 oH Tryz.prog (.fieldAddr 28 (.tmp 0) 0) 0 [v9_3] C_39 (fun v58_42 =>
 oH Tryz.prog (.load 3 (.tmp 0)) 3 [v58_42] C_39 (fun v59_43 =>
 oH Tryz.prog (.load 111 (.tmp 0)) 111 [v12_10] C_39 (fun v61_44 =>
 oH Tryz.prog (.fieldAddr 28 (.tmp 0) 3) 0 [v9_3] C_39 (fun v62_45 =>
 oH Tryz.prog (.load 22 (.tmp 0)) 22 [v62_45] C_39 (fun v63_46 =>
 oH Tryz.prog (.load 111 (.tmp 0)) 111 [v12_10] C_39 (fun v65_47 =>
 oH Tryz.prog (.fieldAddr 39 (.tmp 0) 0) 0 [v8_2] C_39 (fun v66_48 =>
 oH Tryz.prog (.load 3 (.tmp 0)) 3 [v66_48] C_39 (fun v67_49 =>
 oH Tryz.prog (.fieldAddr 28 (.tmp 0) 0) 0 [v9_3] C_39 (fun v68_50 =>
 oH Tryz.prog (.load 3 (.tmp 0)) 3 [v68_50] C_39 (fun v69_51 =>
 ∃ S_52 : World → World → Prop, ∃ R_53 : Value → World → Prop, (∀ v w w_1, S_52 w w_1 → R_53 v w → R_53 v w_1) ∧
 (∀ w, C_39 w → (callM Tryz.prog 76 #[v56_40, v57_41, v59_43] (fun v w_1 => C_39 w_1 ∧ S_52 w w_1 ∧ R_53 v w_1) w)) ∧
 (∃ R_54 : Value → World → Prop, (∀ v w w_1, S_52 w w_1 → R_54 v w → R_54 v w_1) ∧
 (∀ w, C_39 w → (callM Tryz.prog 126 #[v61_44, v63_46] (fun v w_1 => C_39 w_1 ∧ S_52 w w_1 ∧ R_54 v w_1) w)) ∧
 (∃ R_55 : Value → World → Prop, (∀ v w w_1, S_52 w w_1 → R_55 v w → R_55 v w_1) ∧
 (∀ w, C_39 w → (callM Tryz.prog 76 #[v65_47, v67_49, v69_51] (fun v w_1 => C_39 w_1 ∧ S_52 w w_1 ∧ R_55 v w_1) w)) ∧
 (∃ R_56 : Value → World → Prop, (∀ v w w_1, S_52 w w_1 → R_56 v w → R_56 v w_1) ∧
 (∀ w, C_39 w → ∀ v60_57, R_53 v60_57 w → ∀ v64_58, R_54 v64_58 w → ∀ v70_59, R_55 v70_59 w → (oM Tryz.prog (.build 43 #[(0, (.tmp 0)), (1, (.tmp 1)), (2, (.tmp 2))]) 43 [v60_57, v64_58, v70_59] (fun v w_1 => C_39 w_1 ∧ S_52 w w_1 ∧ R_56 v w_1) w)) ∧
 (∃ R_60 : Value → World → Prop, (∀ v w w_1, S_52 w w_1 → R_60 v w → R_60 v w_1) ∧
 (∀ w, C_39 w → (oM Tryz.prog (.alloc 43) 0 [] (fun v w_1 => C_39 w_1 ∧ S_52 w w_1 ∧ R_60 v w_1) w)) ∧
 (∀ w, C_39 w → ∀ v60_61, R_53 v60_61 w → ∀ v64_62, R_54 v64_62 w → ∀ v70_63, R_55 v70_63 w → ∀ v71_64, R_56 v71_64 w → ∀ v15_65, R_60 v15_65 w → (
 oM Tryz.prog (.store 43 (.tmp 0) (.tmp 1)) 0 [v15_65, v71_64] (fun _ w => C_39 w ∧ (
 heldM w (fun C_66 w => (((true : Bool) = true) ∧ (oH Tryz.prog (.load 111 (.tmp 0)) 111 [v12_10] C_66 (fun v72_67 =>
 oH Tryz.prog (.load 111 (.tmp 0)) 111 [v12_10] C_66 (fun v73_68 =>
 oH Tryz.prog (.fieldAddr 39 (.tmp 0) 1) 0 [v8_2] C_66 (fun v74_69 =>
 oH Tryz.prog (.load 3 (.tmp 0)) 3 [v74_69] C_66 (fun v75_70 =>
 oH Tryz.prog (.fieldAddr 28 (.tmp 0) 1) 0 [v9_3] C_66 (fun v76_71 =>
 oH Tryz.prog (.load 3 (.tmp 0)) 3 [v76_71] C_66 (fun v77_72 =>
 oH Tryz.prog (.load 111 (.tmp 0)) 111 [v12_10] C_66 (fun v79_73 =>
 oH Tryz.prog (.fieldAddr 28 (.tmp 0) 2) 0 [v9_3] C_66 (fun v80_74 =>
 oH Tryz.prog (.load 3 (.tmp 0)) 3 [v80_74] C_66 (fun v81_75 =>
 ∃ S_76 : World → World → Prop, ∀ w, C_66 w → (
 callM Tryz.prog 76 #[v73_68, v75_70, v77_72] (fun v78_77 w => C_66 w ∧ (
 callM Tryz.prog 77 #[v79_73, v81_75] (fun v82_78 w => C_66 w ∧ (
 oM Tryz.prog (.buildSlice 22 1 #[(0, (.tmp 0))]) 22 [v82_78] (fun v83_79 w => C_66 w ∧ (
 callM Tryz.prog 127 #[v72_67, v78_77, v83_79] (fun v84_80 w => C_66 w ∧ (
 oM Tryz.prog (.fieldAddr 43 (.tmp 0) 3) 0 [v15_65] (fun v85_81 w => C_66 w ∧ (
 oM Tryz.prog (.store 3 (.tmp 0) (.tmp 1)) 0 [v85_81, v84_80] (fun _ w => C_66 w ∧ (
 heldM w (fun C_82 w => (((true : Bool) = true) ∧ (oH Tryz.prog (.load 111 (.tmp 0)) 111 [v12_10] C_82 (fun v86_83 =>
 oH Tryz.prog (.load 111 (.tmp 0)) 111 [v12_10] C_82 (fun v87_84 =>
 oH Tryz.prog (.fieldAddr 39 (.tmp 0) 2) 0 [v8_2] C_82 (fun v88_85 =>
 oH Tryz.prog (.load 3 (.tmp 0)) 3 [v88_85] C_82 (fun v89_86 =>
 oH Tryz.prog (.load 111 (.tmp 0)) 111 [v12_10] C_82 (fun v90_87 =>
 oH Tryz.prog (.fieldAddr 28 (.tmp 0) 0) 0 [v9_3] C_82 (fun v91_88 =>
 oH Tryz.prog (.load 3 (.tmp 0)) 3 [v91_88] C_82 (fun v92_89 =>
 oH Tryz.prog (.fieldAddr 28 (.tmp 0) 1) 0 [v9_3] C_82 (fun v93_90 =>
 oH Tryz.prog (.load 3 (.tmp 0)) 3 [v93_90] C_82 (fun v94_91 =>
 oH Tryz.prog (.load 111 (.tmp 0)) 111 [v12_10] C_82 (fun v98_92 =>
 oH Tryz.prog (.fieldAddr 43 (.tmp 0) 0) 0 [v15_65] C_82 (fun v99_93 =>
 oH Tryz.prog (.load 3 (.tmp 0)) 3 [v99_93] C_82 (fun v100_94 =>
 oH Tryz.prog (.fieldAddr 28 (.tmp 0) 2) 0 [v9_3] C_82 (fun v101_95 =>
 oH Tryz.prog (.load 3 (.tmp 0)) 3 [v101_95] C_82 (fun v102_96 =>
 ∃ S_97 : World → World → Prop, ∀ w, C_82 w → (
 oM Tryz.prog (.buildSlice 22 1 #[(0, (.tmp 0))]) 22 [v94_91] (fun v95_98 w => C_82 w ∧ (
 callM Tryz.prog 75 #[v90_87, v92_89, v95_98] (fun v96_99 w => C_82 w ∧ (
 callM Tryz.prog 76 #[v87_84, v89_86, v96_99] (fun v97_100 w => C_82 w ∧ (
 callM Tryz.prog 76 #[v98_92, v100_94, v102_96] (fun v103_101 w => C_82 w ∧ (
 oM Tryz.prog (.buildSlice 22 1 #[(0, (.tmp 0))]) 22 [v103_101] (fun v104_102 w => C_82 w ∧ (
 callM Tryz.prog 127 #[v86_83, v97_100, v104_102] (fun v105_103 w => C_82 w ∧ (
 oM Tryz.prog (.fieldAddr 43 (.tmp 0) 4) 0 [v15_65] (fun v106_104 w => C_82 w ∧ (
 oM Tryz.prog (.store 3 (.tmp 0) (.tmp 1)) 0 [v106_104, v105_103] (fun _ w => C_82 w ∧ (
 oM Tryz.prog (.load 111 (.tmp 0)) 111 [v12_10] (fun v107_105 w =>
 oM Tryz.prog (.load 43 (.tmp 0)) 43 [v15_65] (fun v108_106 w =>
 callM Tryz.prog 107 #[v107_105, v108_106] (fun v109_107 w =>
 oM Tryz.prog (.binOp .eql 3 (.tmp 0) (.const (.int .i64 0)) 3) 4 [v109_107] (fun v111_108 w =>
 condM v111_108
 (oM Tryz.prog (.build 127 #[]) 127 [] (fun v112_109 w =>
 oM Tryz.prog (.store 127 (.tmp 0) (.tmp 1)) 0 [v10_4, v112_109] (fun _ w =>
 ∃ r_110, (do loadVar 127 (← asAddr v10_4) : Sem Value).run Tryz.prog w = .ok r_110 w ∧ K (.tuple #[r_110, (.int .i64 7)]) w) w) w)
 (heldM w (fun C_111 w => (((true : Bool) = true) ∧ (oH Tryz.prog (.load 111 (.tmp 0)) 111 [v12_10] C_111 (fun v113_112 =>
 pureH v22_8 C_111 (fun v114_113 =>
 oH Tryz.prog (.load 111 (.tmp 0)) 111 [v12_10] C_111 (fun v115_114 =>
 pureH v109_107 C_111 (fun v116_115 =>
 oH Tryz.prog (.fieldAddr 28 (.tmp 0) 1) 0 [v9_3] C_111 (fun v117_116 =>
 oH Tryz.prog (.load 3 (.tmp 0)) 3 [v117_116] C_111 (fun v118_117 =>
 oH Tryz.prog (.load 43 (.tmp 0)) 43 [v15_65] C_111 (fun v120_118 =>
 ∃ S_119 : World → World → Prop, ∀ w, C_111 w → (
 callM Tryz.prog 105 #[v115_114, v116_115, v118_117] (fun v119_120 w => C_111 w ∧ (
 oM Tryz.prog (.build 127 #[(0, (.tmp 0)), (1, (.tmp 1)), (2, (.tmp 2)), (3, (.tmp 3))]) 127 [v113_112, v114_113, v119_120, v120_118] (fun v121_121 w => C_111 w ∧ (
 oM Tryz.prog (.store 127 (.tmp 0) (.tmp 1)) 0 [v10_4, v121_121] (fun _ w => C_111 w ∧ (
 C_111 w ∧ (∃ r_122, (do loadVar 127 (← asAddr v10_4) : Sem Value).run Tryz.prog w = .ok r_122 w ∧ K (.tuple #[r_122, (.int .i64 0)]) w))) w)) w)) w))))))))))))) w) w) w) w)) w)) w)) w)) w)) w)) w)) w)) w)))))))))))))))))))) w)) w)) w)) w)) w)) w))))))))))))))) w))))))))))))))))))))))) w) w) w) w) w) w) w) w) w) w) w) w) w) w) w) w) w) w) w) w) w) w) w) w) w) w) w) w) w) w) w) w) w) w) w) w) w
theorem sh_82_eq (a0 : Value) (a1 : Value) (a2 : Value) (a3 : Value) (a4 : Value) (K : Value → World → Prop) (w : World) : sh_82 a0 a1 a2 a3 a4 K w = code Tryz.prog (fun i => bif Nat.beq i 4 then .mono [0, 1, 2, 3, 5, 6, 7, 9, 10, 11, 12, 13] [4, 8, 14, 15, 16] [17] else bif Nat.beq i 5 then .mono [0, 1, 2, 3, 4, 5, 7, 8, 9] [] [6, 10, 11, 12, 13, 14] else bif Nat.beq i 6 then .mono [0, 1, 2, 3, 4, 5, 6, 7, 8, 12, 13, 14, 15, 16] [] [9, 10, 11, 17, 18, 19, 20, 21] else bif Nat.beq i 10 then .mono [0, 1, 2, 3, 4, 5, 7] [] [6, 8, 9, 10] else 0) 122 (Tryz.f82.body.getD .skip) (slotsAt [a0, a1, a2, a3, a4]) (retK Tryz.prog [.cell 10 127, .tmp 11] K) w := by kernel_rfl
theorem sh_82_ok {a0 a1 a2 a3 a4 : Value} {K : Value → World → Prop} {w : World} (h : sh_82 a0 a1 a2 a3 a4 K w) : callM Tryz.prog 82 #[a0, a1, a2, a3, a4] K w :=
  calls_of_code (fun i => bif Nat.beq i 4 then .mono [0, 1, 2, 3, 5, 6, 7, 9, 10, 11, 12, 13] [4, 8, 14, 15, 16] [17] else bif Nat.beq i 5 then .mono [0, 1, 2, 3, 4, 5, 7, 8, 9] [] [6, 10, 11, 12, 13, 14] else bif Nat.beq i 6 then .mono [0, 1, 2, 3, 4, 5, 6, 7, 8, 12, 13, 14, 15, 16] [] [9, 10, 11, 17, 18, 19, 20, 21] else bif Nat.beq i 10 then .mono [0, 1, 2, 3, 4, 5, 7] [] [6, 8, 9, 10] else 0) (fn := Tryz.f82) (rs := [.cell 10 127, .tmp 11]) Tryz.func82 rfl rfl (by kernel_rfl) (Nat.le_of_ble_eq_true rfl) ((sh_82_eq a0 a1 a2 a3 a4 K w).mp h)
def sh_83 (a0 : Value) (a1 : Value) (a2 : Value) (a3 : Value) (a4 : Value) (a5 : Value) (K : Value → World → Prop) (w : World) : Prop :=
 oM Tryz.prog (.box 111 (.tmp 0)) 0 [a0] (fun v6_1 w =>
 oM Tryz.prog (.box 39 (.tmp 0)) 0 [a5] (fun v11_2 w =>
 heldM w (fun C_3 w => (((true : Bool) = true) ∧ (oH Tryz.prog (.load 111 (.tmp 0)) 111 [v6_1] C_3 (fun v13_4 =>
 pureH a4 C_3 (fun v14_5 =>
 oH Tryz.prog (.load 111 (.tmp 0)) 111 [v6_1] C_3 (fun v16_6 =>
 oH Tryz.prog (.load 111 (.tmp 0)) 111 [v6_1] C_3 (fun v17_7 =>
 pureH a1 C_3 (fun v18_8 =>
 pureH a3 C_3 (fun v19_9 =>
 oH Tryz.prog (.fieldAddr 39 (.tmp 0) 1) 0 [v11_2] C_3 (fun v21_10 =>
 oH Tryz.prog (.load 3 (.tmp 0)) 3 [v21_10] C_3 (fun v22_11 =>
 ∃ S_12 : World → World → Prop, ∃ R_13 : Value → World → Prop, (∀ v w w_1, S_12 w w_1 → R_13 v w → R_13 v w_1) ∧
 (∀ w, C_3 w → (callM Tryz.prog 77 #[v13_4, v14_5] (fun v w_1 => C_3 w_1 ∧ S_12 w w_1 ∧ R_13 v w_1) w)) ∧
 (∃ R_14 : Value → World → Prop, (∀ v w w_1, S_12 w w_1 → R_14 v w → R_14 v w_1) ∧
 (∀ w, C_3 w → (callM Tryz.prog 76 #[v17_7, v18_8, v19_9] (fun v w_1 => C_3 w_1 ∧ S_12 w w_1 ∧ R_14 v w_1) w)) ∧
 (∃ R_15 : Value → World → Prop, (∀ v w w_1, S_12 w w_1 → R_15 v w → R_15 v w_1) ∧
 (∀ w, C_3 w → (oM Tryz.prog (.buildSlice 22 1 #[(0, (.tmp 0))]) 22 [v22_11] (fun v w_1 => C_3 w_1 ∧ S_12 w w_1 ∧ R_15 v w_1) w)) ∧
 (∃ R_16 : Value → World → Prop, (∀ v w w_1, S_12 w w_1 → R_16 v w → R_16 v w_1) ∧
 (∀ w, C_3 w → ∀ v20_17, R_14 v20_17 w → ∀ v23_18, R_15 v23_18 w → (callM Tryz.prog 127 #[v16_6, v20_17, v23_18] (fun v w_1 => C_3 w_1 ∧ S_12 w w_1 ∧ R_16 v w_1) w)) ∧
 (∃ R_19 : Value → World → Prop, (∀ v w w_1, S_12 w w_1 → R_19 v w → R_19 v w_1) ∧
 (∀ w, C_3 w → ∀ v15_20, R_13 v15_20 w → ∀ v24_21, R_16 v24_21 w → (oM Tryz.prog (.binOp .eql 3 (.tmp 0) (.tmp 1) 3) 4 [v15_20, v24_21] (fun v w_1 => C_3 w_1 ∧ S_12 w w_1 ∧ R_19 v w_1) w)) ∧
 (∃ R_22 : Value → World → Prop, (∀ v w w_1, S_12 w w_1 → R_22 v w → R_22 v w_1) ∧
 (∀ w, C_3 w → ∀ v25_23, R_19 v25_23 w → (C_3 w ∧ S_12 w w ∧ R_22 v25_23 w)) ∧
 (∃ R_24 : Value → World → Prop, (∀ v w w_1, S_12 w w_1 → R_24 v w → R_24 v w_1) ∧
 (∀ w, C_3 w → ∀ v26_25, R_22 v26_25 w → (gdM (gd v26_25 true) (oM Tryz.prog (.load 111 (.tmp 0)) 111 [v6_1]) (fun v w_1 => C_3 w_1 ∧ S_12 w w_1 ∧ R_24 v w_1) w)) ∧
 (∃ R_26 : Value → World → Prop, (∀ v w w_1, S_12 w w_1 → R_26 v w → R_26 v w_1) ∧
 (∀ w, C_3 w → ∀ v26_27, R_22 v26_27 w → (gdM (gd v26_27 true) (pureM a2) (fun v w_1 => C_3 w_1 ∧ S_12 w w_1 ∧ R_26 v w_1) w)) ∧
 (∃ R_28 : Value → World → Prop, (∀ v w w_1, S_12 w w_1 → R_28 v w → R_28 v w_1) ∧
 (∀ w, C_3 w → ∀ v26_29, R_22 v26_29 w → (gdM (gd v26_29 true) (pureM a4) (fun v w_1 => C_3 w_1 ∧ S_12 w w_1 ∧ R_28 v w_1) w)) ∧
 (∃ R_30 : Value → World → Prop, (∀ v w w_1, S_12 w w_1 → R_30 v w → R_30 v w_1) ∧
 (∀ w, C_3 w → ∀ v26_31, R_22 v26_31 w → ∀ v27_32, R_24 v27_32 w → ∀ v28_33, R_26 v28_33 w → ∀ v29_34, R_28 v29_34 w → (gdM (gd v26_31 true) (callM Tryz.prog 76 #[v27_32, v28_33, v29_34]) (fun v w_1 => C_3 w_1 ∧ S_12 w w_1 ∧ R_30 v w_1) w)) ∧
 (∃ R_35 : Value → World → Prop, (∀ v w w_1, S_12 w w_1 → R_35 v w → R_35 v w_1) ∧
 (∀ w, C_3 w → ∀ v26_36, R_22 v26_36 w → (gdM (gd v26_36 true) (oM Tryz.prog (.load 111 (.tmp 0)) 111 [v6_1]) (fun v w_1 => C_3 w_1 ∧ S_12 w w_1 ∧ R_35 v w_1) w)) ∧
 (∃ R_37 : Value → World → Prop, (∀ v w w_1, S_12 w w_1 → R_37 v w → R_37 v w_1) ∧
 (∀ w, C_3 w → ∀ v26_38, R_22 v26_38 w → (gdM (gd v26_38 true) (oM Tryz.prog (.load 111 (.tmp 0)) 111 [v6_1]) (fun v w_1 => C_3 w_1 ∧ S_12 w w_1 ∧ R_37 v w_1) w)) ∧
 (∃ R_39 : Value → World → Prop, (∀ v w w_1, S_12 w w_1 → R_39 v w → R_39 v w_1) ∧
 (∀ w, C_3 w → ∀ v26_40, R_22 v26_40 w → (gdM (gd v26_40 true) (oM Tryz.prog (.fieldAddr 39 (.tmp 0) 0) 0 [v11_2]) (fun v w_1 => C_3 w_1 ∧ S_12 w w_1 ∧ R_39 v w_1) w)) ∧
 (∃ R_41 : Value → World → Prop, (∀ v w w_1, S_12 w w_1 → R_41 v w → R_41 v w_1) ∧
 (∀ w, C_3 w → ∀ v26_42, R_22 v26_42 w → ∀ v33_43, R_39 v33_43 w → (gdM (gd v26_42 true) (oM Tryz.prog (.load 3 (.tmp 0)) 3 [v33_43]) (fun v w_1 => C_3 w_1 ∧ S_12 w w_1 ∧ R_41 v w_1) w)) ∧
 (∃ R_44 : Value → World → Prop, (∀ v w w_1, S_12 w w_1 → R_44 v w → R_44 v w_1) ∧
 (∀ w, C_3 w → ∀ v26_45, R_22 v26_45 w → (gdM (gd v26_45 true) (pureM a3) (fun v w_1 => C_3 w_1 ∧ S_12 w w_1 ∧ R_44 v w_1) w)) ∧
 (∃ R_46 : Value → World → Prop, (∀ v w w_1, S_12 w w_1 → R_46 v w → R_46 v w_1) ∧
 (∀ w, C_3 w → ∀ v26_47, R_22 v26_47 w → ∀ v32_48, R_37 v32_48 w → ∀ v34_49, R_41 v34_49 w → ∀ v35_50, R_44 v35_50 w → (gdM (gd v26_47 true) (callM Tryz.prog 76 #[v32_48, v34_49, v35_50]) (fun v w_1 => C_3 w_1 ∧ S_12 w w_1 ∧ R_46 v w_1) w)) ∧
 (∃ R_51 : Value → World → Prop, (∀ v w w_1, S_12 w w_1 → R_51 v w → R_51 v w_1) ∧
 (∀ w, C_3 w → ∀ v26_52, R_22 v26_52 w → (gdM (gd v26_52 true) (oM Tryz.prog (.fieldAddr 39 (.tmp 0) 2) 0 [v11_2]) (fun v w_1 => C_3 w_1 ∧ S_12 w w_1 ∧ R_51 v w_1) w)) ∧
 (∃ R_53 : Value → World → Prop, (∀ v w w_1, S_12 w w_1 → R_53 v w → R_53 v w_1) ∧
 (∀ w, C_3 w → ∀ v26_54, R_22 v26_54 w → ∀ v37_55, R_51 v37_55 w → (gdM (gd v26_54 true) (oM Tryz.prog (.load 3 (.tmp 0)) 3 [v37_55]) (fun v w_1 => C_3 w_1 ∧ S_12 w w_1 ∧ R_53 v w_1) w)) ∧
 (∃ R_56 : Value → World → Prop, (∀ v w w_1, S_12 w w_1 → R_56 v w → R_56 v w_1) ∧
 (∀ w, C_3 w → ∀ v26_57, R_22 v26_57 w → ∀ v38_58, R_53 v38_58 w → (gdM (gd v26_57 true) (oM Tryz.prog (.buildSlice 22 1 #[(0, (.tmp 0))]) 22 [v38_58]) (fun v w_1 => C_3 w_1 ∧ S_12 w w_1 ∧ R_56 v w_1) w)) ∧
 (∀ w, C_3 w → ∀ v15_59, R_13 v15_59 w → ∀ v20_60, R_14 v20_60 w → ∀ v23_61, R_15 v23_61 w → ∀ v24_62, R_16 v24_62 w → ∀ v25_63, R_19 v25_63 w → ∀ v26_64, R_22 v26_64 w → ∀ v27_65, R_24 v27_65 w → ∀ v28_66, R_26 v28_66 w → ∀ v29_67, R_28 v29_67 w → ∀ v30_68, R_30 v30_68 w → ∀ v31_69, R_35 v31_69 w → ∀ v32_70, R_37 v32_70 w → ∀ v33_71, R_39 v33_71 w → ∀ v34_72, R_41 v34_72 w → ∀ v35_73, R_44 v35_73 w → ∀ v36_74, R_46 v36_74 w → ∀ v37_75, R_51 v37_75 w → ∀ v38_76, R_53 v38_76 w → ∀ v39_77, R_56 v39_77 w → (
 gdM (gd v26_64 true) (callM Tryz.prog 127 #[v31_69, v36_74, v39_77]) (fun v40_78 w => C_3 w ∧ (
 gdM (gd v26_64 true) (oM Tryz.prog (.binOp .eql 3 (.tmp 0) (.tmp 1) 3) 4 [v30_68, v40_78]) (fun v41_79 w => C_3 w ∧ (
 oM Tryz.prog (.pick (.tmp 0) (.tmp 1) (.tmp 2)) 4 [v26_64, v41_79, (.bool false)] (fun v42_80 w => C_3 w ∧ (
 C_3 w ∧ (K v42_80 w))) w)) w)) w)))))))))))))))))))))))))))))))) w) w
theorem sh_83_eq (a0 : Value) (a1 : Value) (a2 : Value) (a3 : Value) (a4 : Value) (a5 : Value) (K : Value → World → Prop) (w : World) : sh_83 a0 a1 a2 a3 a4 a5 K w = code Tryz.prog (fun _ => .mono [0, 1, 3, 4, 5, 6, 8, 9] [2, 7, 10, 11, 12, 13, 14, 15, 16, 17, 18, 19, 20, 21, 22, 23, 24, 25, 26] [27, 28, 29, 30]) 43 (Tryz.f83.body.getD .skip) (slotsAt [a0, a1, a2, a3, a4, a5]) (retK Tryz.prog [.tmp 12] K) w := by kernel_rfl
theorem sh_83_ok {a0 a1 a2 a3 a4 a5 : Value} {K : Value → World → Prop} {w : World} (h : sh_83 a0 a1 a2 a3 a4 a5 K w) : callM Tryz.prog 83 #[a0, a1, a2, a3, a4, a5] K w :=
  calls_of_code (fun _ => .mono [0, 1, 3, 4, 5, 6, 8, 9] [2, 7, 10, 11, 12, 13, 14, 15, 16, 17, 18, 19, 20, 21, 22, 23, 24, 25, 26] [27, 28, 29, 30]) (fn := Tryz.f83) (rs := [.tmp 12]) Tryz.func83 rfl rfl (by kernel_rfl) (Nat.le_of_ble_eq_true rfl) ((sh_83_eq a0 a1 a2 a3 a4 a5 K w).mp h)
def sh_18 (a0 : Value) (a1 : Value) (a2 : Value) (a3 : Value) (a4 : Value) (K : Value → World → Prop) (w : World) : Prop :=
 oM Tryz.prog (.box 35 (.tmp 0)) 0 [a0] (fun v5_1 w =>
 oM Tryz.prog (.box 39 (.tmp 0)) 0 [a3] (fun v8_2 w =>
 oM Tryz.prog (.box 28 (.tmp 0)) 0 [a4] (fun v9_3 w =>
 oM Tryz.prog (.load 35 (.tmp 0)) 35 [v5_1] (fun v15_4 w =>
 oM Tryz.prog (.load 39 (.tmp 0)) 39 [v8_2] (fun v18_5 w =>
 oM Tryz.prog (.load 28 (.tmp 0)) 28 [v9_3] (fun v19_6 w =>
 callM Tryz.prog 82 #[v15_4, a1, a2, v18_5, v19_6] (fun v20_7 w =>
 oM Tryz.prog (.extract (.tmp 0) 0) 127 [v20_7] (fun v21_8 w =>
 oM Tryz.prog (.extract (.tmp 0) 1) 50 [v20_7] (fun v22_9 w =>
 oM Tryz.prog (.alloc 127) 0 [] (fun v12_10 w =>
 oM Tryz.prog (.store 127 (.tmp 0) (.tmp 1)) 0 [v12_10, v21_8] (fun _ w =>
 oM Tryz.prog (.fieldAddr 127 (.tmp 0) 2) 0 [v12_10] (fun v23_11 w =>
 oM Tryz.prog (.load 3 (.tmp 0)) 3 [v23_11] (fun v24_12 w =>
 K (.tuple #[v24_12, v22_9]) w) w) w) w) w) w) w) w) w) w) w) w) w) w
theorem sh_18_eq (a0 : Value) (a1 : Value) (a2 : Value) (a3 : Value) (a4 : Value) (K : Value → World → Prop) (w : World) : sh_18 a0 a1 a2 a3 a4 K w = code Tryz.prog (fun _ => 0) 26 (Tryz.f18.body.getD .skip) (slotsAt [a0, a1, a2, a3, a4]) (retK Tryz.prog [.tmp 10, .tmp 11] K) w := by kernel_rfl
theorem sh_18_ok {a0 a1 a2 a3 a4 : Value} {K : Value → World → Prop} {w : World} (h : sh_18 a0 a1 a2 a3 a4 K w) : callM Tryz.prog 18 #[a0, a1, a2, a3, a4] K w :=
  calls_of_code (fun _ => 0) (fn := Tryz.f18) (rs := [.tmp 10, .tmp 11]) Tryz.func18 rfl rfl (by kernel_rfl) (Nat.le_of_ble_eq_true rfl) ((sh_18_eq a0 a1 a2 a3 a4 K w).mp h)
def sh_20 (a0 : Value) (a1 : Value) (a2 : Value) (a3 : Value) (a4 : Value) (a5 : Value) (K : Value → World → Prop) (w : World) : Prop :=
 oM Tryz.prog (.box 35 (.tmp 0)) 0 [a0] (fun v6_1 w =>
 oM Tryz.prog (.box 39 (.tmp 0)) 0 [a3] (fun v9_2 w =>
 oM Tryz.prog (.box 28 (.tmp 0)) 0 [a4] (fun v10_3 w =>
 oM Tryz.prog (.alloc 43) 0 [] (fun v12_4 w =>
 oM Tryz.prog (.load 35 (.tmp 0)) 35 [v6_1] (fun v17_5 w =>
 oM Tryz.prog (.load 39 (.tmp 0)) 39 [v9_2] (fun v20_6 w =>
 oM Tryz.prog (.load 28 (.tmp 0)) 28 [v10_3] (fun v21_7 w =>
 callM Tryz.prog 82 #[v17_5, a1, a2, v20_6, v21_7] (fun v22_8 w =>
 oM Tryz.prog (.extract (.tmp 0) 0) 127 [v22_8] (fun v23_9 w =>
 oM Tryz.prog (.extract (.tmp 0) 1) 50 [v22_8] (fun v24_10 w =>
 oM Tryz.prog (.alloc 127) 0 [] (fun v14_11 w =>
 oM Tryz.prog (.store 127 (.tmp 0) (.tmp 1)) 0 [v14_11, v23_9] (fun _ w =>
 oM Tryz.prog (.binOp .neq 50 (.tmp 0) (.const (.int .i64 0)) 50) 4 [v24_10] (fun v27_12 w =>
 condM v27_12
 (oM Tryz.prog (.build 43 #[]) 43 [] (fun v28_13 w =>
 oM Tryz.prog (.store 43 (.tmp 0) (.tmp 1)) 0 [v12_4, v28_13] (fun _ w =>
 ∃ r_14, (do loadVar 43 (← asAddr v12_4) : Sem Value).run Tryz.prog w = .ok r_14 w ∧ K (.tuple #[r_14, v24_10]) w) w) w)
 (oM Tryz.prog (.fieldAddr 127 (.tmp 0) 0) 0 [v14_11] (fun v31_15 w =>
 oM Tryz.prog (.load 111 (.tmp 0)) 111 [v31_15] (fun v32_16 w =>
 oM Tryz.prog (.buildSlice 22 1 #[(0, (.tmp 0))]) 22 [a5] (fun v34_17 w =>
 callM Tryz.prog 72 #[v32_16, (.int .i64 0), v34_17] (fun v35_18 w =>
 oM Tryz.prog (.unOp .not 4 (.tmp 0)) 4 [v35_18] (fun v36_19 w =>
 condM v36_19
 (oM Tryz.prog (.build 43 #[]) 43 [] (fun v37_20 w =>
 oM Tryz.prog (.store 43 (.tmp 0) (.tmp 1)) 0 [v12_4, v37_20] (fun _ w =>
 ∃ r_21, (do loadVar 43 (← asAddr v12_4) : Sem Value).run Tryz.prog w = .ok r_21 w ∧ K (.tuple #[r_21, (.int .i64 1)]) w) w) w)
 (oM Tryz.prog (.fieldAddr 127 (.tmp 0) 0) 0 [v14_11] (fun v39_22 w =>
 oM Tryz.prog (.load 111 (.tmp 0)) 111 [v39_22] (fun v40_23 w =>
 oM Tryz.prog (.fieldAddr 127 (.tmp 0) 1) 0 [v14_11] (fun v42_24 w =>
 oM Tryz.prog (.load 3 (.tmp 0)) 3 [v42_24] (fun v43_25 w =>
 oM Tryz.prog (.fieldAddr 127 (.tmp 0) 2) 0 [v14_11] (fun v44_26 w =>
 oM Tryz.prog (.load 3 (.tmp 0)) 3 [v44_26] (fun v45_27 w =>
 oM Tryz.prog (.load 39 (.tmp 0)) 39 [v9_2] (fun v47_28 w =>
 callM Tryz.prog 83 #[v40_23, a1, v43_25, v45_27, a5, v47_28] (fun v48_29 w =>
 oM Tryz.prog (.unOp .not 4 (.tmp 0)) 4 [v48_29] (fun v49_30 w =>
 condM v49_30
 (oM Tryz.prog (.build 43 #[]) 43 [] (fun v50_31 w =>
 oM Tryz.prog (.store 43 (.tmp 0) (.tmp 1)) 0 [v12_4, v50_31] (fun _ w =>
 ∃ r_32, (do loadVar 43 (← asAddr v12_4) : Sem Value).run Tryz.prog w = .ok r_32 w ∧ K (.tuple #[r_32, (.int .i64 14)]) w) w) w)
 (heldM w (fun C_33 w => (((true : Bool) = true) ∧ (oH Tryz.prog (.fieldAddr 127 (.tmp 0) 0) 0 [v14_11] C_33 (fun v51_34 =>
 oH Tryz.prog (.load 111 (.tmp 0)) 111 [v51_34] C_33 (fun v52_35 =>
 oH Tryz.prog (.fieldAddr 127 (.tmp 0) 0) 0 [v14_11] C_33 (fun v53_36 =>
 oH Tryz.prog (.load 111 (.tmp 0)) 111 [v53_36] C_33 (fun v54_37 =>
 pureH a5 C_33 (fun v55_38 =>
 oH Tryz.prog (.fieldAddr 28 (.tmp 0) 1) 0 [v10_3] C_33 (fun v56_39 =>
 oH Tryz.prog (.load 3 (.tmp 0)) 3 [v56_39] C_33 (fun v57_40 =>
 oH Tryz.prog (.fieldAddr 28 (.tmp 0) 2) 0 [v10_3] C_33 (fun v60_41 =>
 oH Tryz.prog (.load 3 (.tmp 0)) 3 [v60_41] C_33 (fun v61_42 =>
 ∃ S_43 : World → World → Prop, ∀ w, C_33 w → (
 oM Tryz.prog (.buildSlice 22 1 #[(0, (.tmp 0))]) 22 [v57_40] (fun v58_44 w => C_33 w ∧ (
 callM Tryz.prog 75 #[v54_37, v55_38, v58_44] (fun v59_45 w => C_33 w ∧ (
 callM Tryz.prog 74 #[v52_35, v59_45, v61_42] (fun v62_46 w => C_33 w ∧ (
 oM Tryz.prog (.fieldAddr 127 (.tmp 0) 3) 0 [v14_11] (fun v63_47 w => C_33 w ∧ (
 oM Tryz.prog (.fieldAddr 43 (.tmp 0) 5) 0 [v63_47] (fun v64_48 w => C_33 w ∧ (
 oM Tryz.prog (.store 3 (.tmp 0) (.tmp 1)) 0 [v64_48, v62_46] (fun _ w => C_33 w ∧ (
 oM Tryz.prog (.fieldAddr 127 (.tmp 0) 3) 0 [v14_11] (fun v65_49 w =>
 oM Tryz.prog (.load 43 (.tmp 0)) 43 [v65_49] (fun v66_50 w =>
 oM Tryz.prog (.store 43 (.tmp 0) (.tmp 1)) 0 [v12_4, v66_50] (fun _ w =>
 ∃ r_51, (do loadVar 43 (← asAddr v12_4) : Sem Value).run Tryz.prog w = .ok r_51 w ∧ K (.tuple #[r_51, (.int .i64 0)]) w) w) w) w)) w)) w)) w)) w)) w)) w))))))))))))))) w) w) w) w) w) w) w) w) w)) w) w) w) w) w)) w) w) w) w) w) w) w) w) w) w) w) w) w
theorem sh_20_eq (a0 : Value) (a1 : Value) (a2 : Value) (a3 : Value) (a4 : Value) (a5 : Value) (K : Value → World → Prop) (w : World) : sh_20 a0 a1 a2 a3 a4 a5 K w = code Tryz.prog (fun _ => .mono [0, 1, 2, 3, 4, 5, 6, 9, 10] [] [7, 8, 11, 12, 13, 14]) 67 (Tryz.f20.body.getD .skip) (slotsAt [a0, a1, a2, a3, a4, a5]) (retK Tryz.prog [.cell 12 43, .tmp 13] K) w := by kernel_rfl
theorem sh_20_ok {a0 a1 a2 a3 a4 a5 : Value} {K : Value → World → Prop} {w : World} (h : sh_20 a0 a1 a2 a3 a4 a5 K w) : callM Tryz.prog 20 #[a0, a1, a2, a3, a4, a5] K w :=
  calls_of_code (fun _ => .mono [0, 1, 2, 3, 4, 5, 6, 9, 10] [] [7, 8, 11, 12, 13, 14]) (fn := Tryz.f20) (rs := [.cell 12 43, .tmp 13]) Tryz.func20 rfl rfl (by kernel_rfl) (Nat.le_of_ble_eq_true rfl) ((sh_20_eq a0 a1 a2 a3 a4 a5 K w).mp h)
end Go.Proofs
