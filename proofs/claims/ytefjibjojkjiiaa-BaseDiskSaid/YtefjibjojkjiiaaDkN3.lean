/- DkN3: a part of the proof of the seat's statements: lemmas about the given translation and plain laws. No condition of its own. -/
--Q
import Derived.Test.YtefjibjojkjiiaaDkR9
import Derived.Test.YtefjibjojkjiiaaDkLaw6
set_option linter.all false
namespace Go.Proofs
open Go Go.Sh Go.RowKit DkSpec
set_option linter.unusedSimpArgs false
set_option linter.unusedVariables false
set_option maxRecDepth 10000
def dskStep (a0 a1 v24_5 x0 x1 x2 idx : Value) (M_12 : List Value → World → Prop) (K : Value → World → Prop) (w : World) : Prop :=
 (comM 29 w (fun C_14 => (pureC x2 C_14 0 [] (fun v33_15 =>
 pureC a0 C_14 1 [] (fun v34_16 =>
 pureC idx C_14 2 [] (fun v35_17 =>
 oC Try.prog (Go.Op.indexAddr 22 (.tmp 0) (.tmp 1)) 0 [v34_16, v35_17] C_14 3 [1, 2] (fun v36_18 =>
 oC Try.prog (Go.Op.load 33 (.tmp 0)) 33 [v36_18] C_14 4 [3] (fun v37_19 =>
 callC Try.prog 11 #[v33_15, v37_19] C_14 5 [0, 4] (fun v38_20 =>
 pureC v24_5 C_14 6 [] (fun v39_21 =>
 pureC a0 C_14 7 [] (fun v40_22 =>
 pureC idx C_14 8 [] (fun v41_23 =>
 oC Try.prog (Go.Op.indexAddr 22 (.tmp 0) (.tmp 1)) 0 [v40_22, v41_23] C_14 9 [7, 8] (fun v42_24 =>
 oC Try.prog (Go.Op.load 33 (.tmp 0)) 33 [v42_24] C_14 10 [9] (fun v43_25 =>
 callC Try.prog 12 #[v39_21, v43_25] C_14 11 [6, 10, 5] (fun v44_26 =>
 oC Try.prog (Go.Op.binOp Go.BinOp.neq 29 (.tmp 0) (.tmp 1) 29) 4 [v38_20, v44_26] C_14 12 [5, 11] (fun v45_27 =>
 pureC v45_27 C_14 13 [12, 11] (fun v46_28 =>
 gdC (gd v46_28 false) (pureC x2) C_14 14 [13] (fun v47_29 =>
 gdC (gd v46_28 false) (callC Try.prog 13 #[v47_29]) C_14 15 [14, 13, 13] (fun v48_30 =>
 gdC (gd v46_28 false) (pureC v24_5) C_14 16 [13] (fun v49_31 =>
 gdC (gd v46_28 false) (callC Try.prog 14 #[v49_31]) C_14 17 [16, 15, 13] (fun v50_32 =>
 gdC (gd v46_28 false) (oC Try.prog (Go.Op.binOp Go.BinOp.neq 4 (.tmp 0) (.tmp 1) 4) 4 [v48_30, v50_32]) C_14 18 [15, 17, 13] (fun v51_33 =>
 oC Try.prog (Go.Op.pick (.tmp 0) (.tmp 1) (.tmp 2)) 4 [v46_28, (.bool true), v51_33] C_14 19 [13, 18] (fun v52_34 =>
 pureC v52_34 C_14 20 [19, 17] (fun v53_35 =>
 gdC (gd v53_35 false) (pureC x2) C_14 21 [20] (fun v54_36 =>
 gdC (gd v53_35 false) (pureC a1) C_14 22 [20] (fun v55_37 =>
 gdC (gd v53_35 false) (callC Try.prog 15 #[v54_36, v55_37]) C_14 23 [21, 22, 20, 20] (fun v56_38 =>
 gdC (gd v53_35 false) (pureC v24_5) C_14 24 [20] (fun v57_39 =>
 gdC (gd v53_35 false) (pureC a1) C_14 25 [20] (fun v58_40 =>
 gdC (gd v53_35 false) (callC Try.prog 16 #[v57_39, v58_40]) C_14 26 [24, 25, 23, 20] (fun v59_41 =>
 gdC (gd v53_35 false) (oC Try.prog (Go.Op.binOp Go.BinOp.neq 3 (.tmp 0) (.tmp 1) 3) 4 [v56_38, v59_41]) C_14 27 [23, 26, 20] (fun v60_42 =>
 oC Try.prog (Go.Op.pick (.tmp 0) (.tmp 1) (.tmp 2)) 4 [v53_35, (.bool true), v60_42] C_14 28 [20, 27] (fun v61_43 =>
 ∀ w, C_14 (fun _ => true) w → (condM v61_43
 (K (.bool false) w)
 (oM Try.prog (Go.Op.call (Go.Call.mk (Go.Callee.builtin Go.Builtin.len) #[(.tmp 0)] #[22])) 3 [a0] (fun v64_44 w =>
 oM Try.prog (Go.Op.binOp Go.BinOp.quo 3 (.tmp 0) (.tmp 1) 3) 3 [v64_44, (.int .i64 2)] (fun v65_45 w =>
 oM Try.prog (Go.Op.binOp Go.BinOp.eql 3 (.tmp 0) (.tmp 1) 3) 4 [idx, v65_45] (fun v66_46 w =>
 condM v66_46
 (callM Try.prog 17 #[x2] (fun v68_47 w =>
 oM Try.prog (Go.Op.binOp Go.BinOp.eql 25 (.tmp 0) (.const (.pointer none)) 25) 4 [v68_47] (fun v70_48 w =>
 condM v70_48
 (K (.bool false) w)
 (oM Try.prog (Go.Op.indexAddr 22 (.tmp 0) (.tmp 1)) 0 [a0, (.int .i64 0)] (fun v73_49 w =>
 oM Try.prog (Go.Op.load 33 (.tmp 0)) 33 [v73_49] (fun v74_50 w =>
 callM Try.prog 11 #[x2, v74_50] (fun v75_51 w =>
 callM Try.prog 18 #[x2, a1] (fun v78_52 w =>
 M_12 [x0, v68_47, v68_47] w) w) w) w) w)) w) w)
 (M_12 [x0, x1, x2] w)) w) w) w))))))))))))))))))))))))))))))))))

section
variable {w w0 w1 : World} {b rb b' : Nat} {A B A1 B1 : Ab} {h h' h1 : Dk} {hr hr1 : Rh} {K : Value → World → Prop} {n N : Nat}
/-- the worlds of the drawn region -/
def Cls (N : Nat) (w0 : World) (b rb : Nat) (A0 A1 : Ab) (D : Nat → Bool) (w : World) : Prop :=
  (∀ j, 12 ≤ j → j < 29 → D j = true → D 5 = true ∧ D 11 = true) ∧ (D 11 = true → D 5 = true) ∧ ∃ h hr, Mix N w b (bif D 5 then A1 else A0) h rb (bif D 11 then A1 else A0) hr ∧ Below N w0 w
variable {A0 : Ab}
theorem set1_ne {D : Nat → Bool} {i j : Nat} (h : j ≠ i) : set1 D i j = D j := by
  unfold set1
  have : Nat.beq j i = false := by
    cases hx : Nat.beq j i with
    | false => rfl
    | true => exact absurd (Nat.eq_of_beq_eq_true hx) h
  rw [this]; rfl
theorem set1_self {D : Nat → Bool} {i : Nat} : set1 D i i = true := by
  unfold set1
  have : Nat.beq i i = true := by simp
  rw [this]; rfl
theorem cls_low (i : Nat) (ds : List Nat) (h1 : i < 12) (h2 : i ≠ 5) (h3 : i ≠ 11) : rests (Cls N w0 b rb A0 A1) i ds := by
  intro D w hD hu ⟨c1, c2, h, hr, hM, hB⟩
  refine ⟨fun j hj1 hj2 hj => ?_, ?_, h, hr, ?_, hB⟩
  · rw [set1_ne (by omega)] at hj
    rw [set1_ne (Ne.symm h2), set1_ne (Ne.symm h3)]
    exact c1 j hj1 hj2 hj
  · rw [set1_ne (Ne.symm h2), set1_ne (Ne.symm h3)]; exact c2
  · rw [set1_ne (Ne.symm h2), set1_ne (Ne.symm h3)]; exact hM
theorem up_mem {D : Nat → Bool} {ds : List Nat} (h : upAll ds D) {k : Nat} (hk : k ∈ ds) : D k = true := by
  induction ds with
  | nil => cases hk
  | cons d ds ih =>
    rcases List.mem_cons.1 hk with rfl | hk
    · exact h.1
    · exact ih h.2 hk
theorem cls_high (i : Nat) (ds : List Nat) (h1 : 12 ≤ i) (h2 : (∃ k ∈ ds, 12 ≤ k ∧ k < 29) ∨ 11 ∈ ds) : rests (Cls N w0 b rb A0 A1) i ds := by
  intro D w hD hu ⟨c1, c2, h, hr, hM, hB⟩
  have h511 : D 5 = true ∧ D 11 = true := by
    rcases h2 with ⟨k, hk, hk1, hk2⟩ | hk
    · exact c1 k hk1 hk2 (up_mem hu hk)
    · exact ⟨c2 (up_mem hu hk), up_mem hu hk⟩
  refine ⟨fun j hj1 hj2 hj => ?_, ?_, h, hr, ?_, hB⟩
  · rw [set1_ne (by omega), set1_ne (by omega)]; exact h511
  · rw [set1_ne (by omega), set1_ne (by omega)]; exact c2
  · rw [set1_ne (by omega), set1_ne (by omega)]; exact hM
theorem cls_up {D : Nat → Bool} {ds : List Nat} (hu : upAll ds D) (hC : Cls N w0 b rb A0 A1 D w) (h2 : (∃ k ∈ ds, 12 ≤ k ∧ k < 29) ∨ 11 ∈ ds) : ∃ h hr, Mix N w b A1 h rb A1 hr ∧ Below N w0 w := by
  obtain ⟨c1, c2, h, hr, hM, hB⟩ := hC
  have h511 : D 5 = true ∧ D 11 = true := by
    rcases h2 with ⟨k, hk, hk1, hk2⟩ | hk
    · exact c1 k hk1 hk2 (up_mem hu hk)
    · exact ⟨c2 (up_mem hu hk), up_mem hu hk⟩
  rw [h511.1, h511.2] at hM
  exact ⟨h, hr, hM, hB⟩
theorem cls_fresh {D : Nat → Bool} {w' : World} (hC : Cls N w0 b rb A0 A1 D w) (f : Fr (fun _ => False) w w') : Cls N w0 b rb A0 A1 D w' := by
  obtain ⟨c1, c2, h, hr, hM, hB⟩ := hC
  exact ⟨c1, c2, h, hr, hM.fresh f, hB.trans ((below_none f).mono hM.le)⟩
theorem pickC {P : Program} {C : (Nat → Bool) → World → Prop} {i : Nat} {ds : List Nat} {b : Bool} {x y : Value} {T : TypeId} {K : Value → Prop} (hr : rests C i ds) (k : K (bif b then x else y)) : oC P (.pick (.tmp 0) (.tmp 1) (.tmp 2)) T [.bool b, x, y] C i ds K := by
  refine ⟨_, fun D w hD hu hw => ?_, k⟩
  simp [xop, execOp, evalL, evE, asBool]
  cases b <;> exact ⟨rfl, hr D w hD hu hw⟩
theorem acts_all {l : List Act} {va : Option Addr} {vc : Nat} (hr : ActRow N w0 (.slice va l.length vc) l) {i : Nat} (hlt : i < l.length) : ∃ b0 o vk, va = some ⟨b0, o, none⟩ ∧ ∀ W, Below N w0 W → ActCells N W [.int .i64 l[i].k, .int .i64 l[i].f, .int .i64 l[i].n, bsV l[i].s, vk] l[i] ∧
    (Instr.indexAt 22 (.slice (some ⟨b0, o, none⟩) l.length vc) (.int .i64 (i : Int))).run Try.prog W = .ok (.pointer (some ⟨b0, o + i * 5, none⟩)) W ∧ (Instr.loadAt 33 (.pointer (some ⟨b0, o + i * 5, none⟩))).run Try.prog W = .ok (.agg #[.int .i64 l[i].k, .int .i64 l[i].f, .int .i64 l[i].n, bsV l[i].s, vk]) W ∧ True := by
  obtain ⟨ad, c, he, h2⟩ := hr
  cases he
  rcases h2 with rfl | ⟨b, o, rfl, hb, hc⟩
  · simp at hlt
  · obtain ⟨cs, h6, h7, h8⟩ := hc i hlt
    obtain ⟨vk, rfl, hr⟩ := h6.row
    refine ⟨b, o, vk, rfl, fun W hW => ⟨h6.below hW, idxAct hlt W, ?_, trivial⟩⟩
    have hc' : ∀ j, j < 5 → W.cell? ⟨b, o + i * 5 + j, none⟩ = ([.int .i64 l[i].k, .int .i64 l[i].f, .int .i64 l[i].n, bsV l[i].s, vk] : List Value)[j]? := fun j hj => by rw [hW.cell hb]; exact h8 j hj
    exact loadAct (hc' 0 (by omega)) (hc' 1 (by omega)) (hc' 2 (by omega)) (hc' 3 (by omega)) (hc' 4 (by omega))
set_option maxHeartbeats 1000000 in
theorem dskStep_ok {l : List Act} {i : Nat} {f : Int} {va : Option Addr} {vc : Nat} {x0 x1 : Value} {M : List Value → World → Prop} (D : Mix N w b A0 h rb A0 hr) (hb : Below N w0 w) (hrow : ActRow N w0 (.slice va l.length vc) l) (hf : FewL l) (hlt : i < l.length)
    (k : ∀ w' u b' A' h' hr', Mix N w' b' A' h' rb A' hr' → Below N w0 w' → M [x0, u, dkP b'] w') : dskStep (.slice va l.length vc) (.int .i64 f) (dkP rb) x0 x1 (dkP b) (.int .i64 (i : Int)) M K w := by
  unfold dskStep
  obtain ⟨A1, hA1⟩ : ∃ A1, A1 = (doA A0 l[i]).2 := ⟨_, rfl⟩
  obtain ⟨e, he⟩ : ∃ e, e = (doA A0 l[i]).1 := ⟨_, rfl⟩
  have hfx := hf.2 l[i] (List.getElem_mem hlt)
  have hfl := hf.1
  obtain ⟨b0, o, vk, rfl, at_⟩ := acts_all hrow hlt
  obtain ⟨b1, o1, vk1, e1, at0⟩ := acts_all hrow (i := 0) (by omega)
  cases e1
  have hw0 : Below N w0 w := hb
  have two : ∀ {W : World} {D : Nat → Bool} {ds : List Nat}, upAll ds D → Cls N w0 b rb A0 A1 D W → ((∃ k ∈ ds, 12 ≤ k ∧ k < 29) ∨ 11 ∈ ds) → _ := fun hu hC h2 => cls_up hu hC h2
  refine ⟨Cls N w0 b rb A0 A1, ⟨fun j h1 h2 hj => ?_, fun hj => ?_, h, hr, ?_, ?_⟩, ?_⟩
  · have : Nat.ble 29 j = true := hj
    have := Nat.le_of_ble_eq_true this
    omega
  · have : Nat.ble 29 11 = true := hj
    cases this
  · exact D.heap rfl
  · exact hb.drew
  refine pureC_of (cls_low 0 _ (by omega) (by omega) (by omega)) ?_
  refine pureC_of (cls_low 1 _ (by omega) (by omega) (by omega)) ?_
  refine pureC_of (cls_low 2 _ (by omega) (by omega) (by omega)) ?_
  refine oC_of ⟨_, rfl⟩ (cls_low 3 _ (by omega) (by omega) (by omega)) (fun D W _ _ hC => by
    obtain ⟨_, _, _, _, _, hB⟩ := hC
    rw [oM_indexAddr, (at_ W hB).2.1, rM_ok]
    exact ⟨rfl, rfl⟩) ?_
  refine oC_of ⟨_, rfl⟩ (cls_low 4 _ (by omega) (by omega) (by omega)) (fun D W _ _ hC => by
    obtain ⟨_, _, _, _, _, hB⟩ := hC
    rw [oM_load, (at_ W hB).2.2.1, rM_ok]
    exact ⟨rfl, rfl⟩) ?_
  refine callC_of (v := .int .i64 e) (fun D W hD _ hC => by
    obtain ⟨c1, c2, hh, hhr, hM, hB⟩ := hC
    rw [hD] at hM
    have h11 : D 11 = false := by
      cases h : D 11 with
      | true => exact absurd (c2 h) (by rw [hD]; simp)
      | false => rfl
    rw [h11] at hM
    refine do_ok hM.one hM.o1 (at_ W hB).1 hfx.1 hfx.2 (fun w' h' d' t' => ⟨by rw [he]; rfl, fun j hj1 hj2 hj => ?_, ?_, h', hhr, ?_, hB.trans (t'.below hM.o1 hM.le)⟩)
    · rw [set1_ne (by omega)] at hj
      exact absurd (c1 j hj1 hj2 hj).1 (by rw [hD]; simp)
    · intro _; exact set1_self
    · rw [set1_self, set1_ne (by omega), h11, hA1]
      exact hM.left d' t') ?_
  refine pureC_of (cls_low 6 _ (by omega) (by omega) (by omega)) ?_
  refine pureC_of (cls_low 7 _ (by omega) (by omega) (by omega)) ?_
  refine pureC_of (cls_low 8 _ (by omega) (by omega) (by omega)) ?_
  refine oC_of ⟨_, rfl⟩ (cls_low 9 _ (by omega) (by omega) (by omega)) (fun D W _ _ hC => by
    obtain ⟨_, _, _, _, _, hB⟩ := hC
    rw [oM_indexAddr, (at_ W hB).2.1, rM_ok]
    exact ⟨rfl, rfl⟩) ?_
  refine oC_of ⟨_, rfl⟩ (cls_low 10 _ (by omega) (by omega) (by omega)) (fun D W _ _ hC => by
    obtain ⟨_, _, _, _, _, hB⟩ := hC
    rw [oM_load, (at_ W hB).2.2.1, rM_ok]
    exact ⟨rfl, rfl⟩) ?_
  refine callC_of (v := .int .i64 e) (fun D W hD hu hC => by
    obtain ⟨c1, c2, hh, hhr, hM, hB⟩ := hC
    have h5 : D 5 = true := up_mem hu (by simp)
    rw [hD, h5] at hM
    refine rdo_ok hM.two hM.o2 (at_ W hB).1 hfx.1 hfx.2 (fun w' h' d' t' => ⟨by rw [he]; rfl, fun j hj1 hj2 hj => ?_, ?_, hh, h', ?_, hB.trans (t'.below hM.o2 hM.le)⟩)
    · rw [set1_ne (by omega)] at hj
      exact absurd (c1 j hj1 hj2 hj).2 (by rw [hD]; simp)
    · intro _; rw [set1_ne (by omega)]; exact h5
    · rw [set1_self, set1_ne (by omega), h5]
      have := hM.right d' t'
      simp only [cond_true, cond_false] at this ⊢
      rw [← hA1] at this
      exact this) ?_
  refine oC_of ⟨_, rfl⟩ (cls_high 12 _ (by omega) (.inr (by simp))) (fun D W _ _ hC => by
    refine oM_gen (fun Kv hK => ?_)
    simp [go_sem]
    exact hK _ _ ⟨rfl, rfl⟩) ?_
  refine pureC_of (cls_high 13 _ (by omega) (.inr (by simp))) ?_
  refine gdC_true (pureC_of (cls_high 14 _ (by omega) (.inl ⟨13, by simp, by omega, by omega⟩)) ?_)
  refine gdC_true (callC_of (v := .bool A1.down) (fun D W hD hu hC => by
    obtain ⟨hh, hhr, hM, hB⟩ := cls_up hu hC (.inl ⟨14, by simp, by omega, by omega⟩)
    exact down_ok hM.one ⟨rfl, cls_high 15 _ (by omega) (.inl ⟨14, by simp, by omega, by omega⟩) D W hD hu hC⟩) ?_)
  refine gdC_true (pureC_of (cls_high 16 _ (by omega) (.inl ⟨13, by simp, by omega, by omega⟩)) ?_)
  refine gdC_true (callC_of (v := .bool A1.down) (fun D W hD hu hC => by
    obtain ⟨hh, hhr, hM, hB⟩ := cls_up hu hC (.inl ⟨16, by simp, by omega, by omega⟩)
    exact rdown_ok hM.two ⟨rfl, cls_high 17 _ (by omega) (.inl ⟨16, by simp, by omega, by omega⟩) D W hD hu hC⟩) ?_)
  refine gdC_true (oC_of (v := .bool false) ⟨_, rfl⟩ (cls_high 18 _ (by omega) (.inl ⟨17, by simp, by omega, by omega⟩)) (fun D W _ _ hC => by
    refine oM_gen (fun Kv hK => ?_)
    simp [go_sem]
    exact hK _ _ ⟨rfl, rfl⟩) ?_)
  refine pickC (cls_high 19 _ (by omega) (.inl ⟨18, by simp, by omega, by omega⟩)) ?_
  refine pureC_of (cls_high 20 _ (by omega) (.inl ⟨19, by simp, by omega, by omega⟩)) ?_
  refine gdC_true (pureC_of (cls_high 21 _ (by omega) (.inl ⟨20, by simp, by omega, by omega⟩)) ?_)
  refine gdC_true (pureC_of (cls_high 22 _ (by omega) (.inl ⟨20, by simp, by omega, by omega⟩)) ?_)
  refine gdC_true (callC_of (v := .int .i64 (A1.F f).1.length) (fun D W hD hu hC => by
    obtain ⟨hh, hhr, hM, hB⟩ := cls_up hu hC (.inl ⟨20, by simp, by omega, by omega⟩)
    exact size_ok hM.one f ⟨rfl, cls_high 23 _ (by omega) (.inl ⟨20, by simp, by omega, by omega⟩) D W hD hu hC⟩) ?_)
  refine gdC_true (pureC_of (cls_high 24 _ (by omega) (.inl ⟨20, by simp, by omega, by omega⟩)) ?_)
  refine gdC_true (pureC_of (cls_high 25 _ (by omega) (.inl ⟨20, by simp, by omega, by omega⟩)) ?_)
  refine gdC_true (callC_of (v := .int .i64 (A1.F f).1.length) (fun D W hD hu hC => by
    obtain ⟨hh, hhr, hM, hB⟩ := cls_up hu hC (.inl ⟨20, by simp, by omega, by omega⟩)
    exact rsize_ok hM.two f (fun W' f' => ⟨rfl, cls_high 26 _ (by omega) (.inl ⟨20, by simp, by omega, by omega⟩) D W' hD hu (cls_fresh hC f')⟩)) ?_)
  refine gdC_true (oC_of (v := .bool false) ⟨_, rfl⟩ (cls_high 27 _ (by omega) (.inl ⟨20, by simp, by omega, by omega⟩)) (fun D W _ _ hC => by
    refine oM_gen (fun Kv hK => ?_)
    simp [go_sem]
    exact hK _ _ ⟨rfl, rfl⟩) ?_)
  refine pickC (cls_high 28 _ (by omega) (.inl ⟨27, by simp, by omega, by omega⟩)) ?_
  intro w2 hC2
  obtain ⟨h2, hr2, hM, hB⟩ := cls_up (ds := [12]) (D := fun _ => true) ⟨rfl, trivial⟩ hC2 (.inl ⟨12, by simp, by omega, by omega⟩)
  clear hC2 two hw0 D hb
  simp only [cond_false]
  have hdiv : ((l.length : Int)).tdiv 2 = ((l.length / 2 : Nat) : Int) := by rw [tdivN _ _ (by omega)]; rfl
  by_cases hmid : i = l.length / 2
  · have hmid' : (i : Int) = (l.length : Int) / 2 := by omega
    repeat (any_goals (first
    | (with_reducible refine pureM_in ?_)
    | (with_reducible first|refine pureQ_in ?_|refine gdQ_conv (fun _ => ?_)|refine pickQT ?_|refine pickQF ?_|refine pickQ_pos (by first|assumption|omega) ?_|refine pickQ_neg (by first|assumption|omega) ?_|refine pickQn_pos (by first|assumption|omega) ?_|refine pickQn_neg (by first|assumption|omega) ?_) | ((with_reducible refine oQ_one ?_ ?_); exact ⟨_, rfl⟩) | (with_reducible first|refine And.intro (Eq.refl (α := World) _) ?_|refine forall_one ?_|refine oQ_nil ?_) | (with_reducible refine oQ_of ⟨_, rfl⟩ (fun W0 hW0 => by (refine oM_gen (fun Kv hK => ?_)); simp [go_sem]; (first | exact hK _ _ ⟨rfl, rfl⟩ | exact ⟨by omega, hK _ _ ⟨rfl, rfl⟩⟩)) ?_)
    | (with_reducible refine copy_ok hM.one ?_)
    | (with_reducible first|refine gdtT ?_|refine gdtF ?_|refine gdfF ?_|refine gdfT ?_|refine gdu ?_ _|refine gdt_pos (by first|assumption|omega) ?_|refine gdt_neg (by first|assumption|omega) ?_|refine gdt_split (fun hg => ?_) (fun hg => ?_)|refine gdf_pos (by first|assumption|omega) ?_|refine gdf_neg (by first|assumption|omega) ?_|refine gdf_split (fun hg => ?_) (fun hg => ?_)|refine gdtn_pos (by first|assumption|omega) ?_|refine gdtn_neg (by first|assumption|omega) ?_|refine gdtn_split (fun hg => ?_) (fun hg => ?_)|refine gdfn_pos (by first|assumption|omega) ?_|refine gdfn_neg (by first|assumption|omega) ?_|refine gdfn_split (fun hg => ?_) (fun hg => ?_)|refine gdtbn_pos (by assumption) ?_|refine gdtbn_neg (by assumption) ?_|refine gdfbn_pos (by assumption) ?_|refine gdfbn_neg (by assumption) ?_|refine gdtb_pos (by assumption) ?_|refine gdtb_neg (by assumption) ?_|refine gdtb_split (fun hg => ?_) (fun hg => ?_)|refine gdfb_pos (by assumption) ?_|refine gdfb_neg (by assumption) ?_|refine gdfb_split (fun hg => ?_) (fun hg => ?_)|refine pickT ?_|refine pickF ?_|refine pick_pos (by first|assumption|omega) ?_|refine pick_neg (by first|assumption|omega) ?_|refine pickn_pos (by first|assumption|omega) ?_|refine pickn_neg (by first|assumption|omega) ?_|refine pickbn_pos (by assumption) ?_|refine pickbn_neg (by assumption) ?_|refine pickb_pos (by assumption) ?_|refine pickb_neg (by assumption) ?_|refine condT ?_|refine condF ?_|refine cond_pos (by first|assumption|omega) ?_|refine cond_neg (by first|assumption|omega) ?_|refine condM_dec (fun hg => ?_) (fun hg => ?_)|refine condn_pos (by first|assumption|omega) ?_|refine condn_neg (by first|assumption|omega) ?_|refine condM_ndec (fun hg => ?_) (fun hg => ?_)|refine condbn_pos (by assumption) ?_|refine condbn_neg (by assumption) ?_|refine condbn_split (fun hg => ?_) (fun hg => ?_)|refine condb_pos (by assumption) ?_|refine condb_neg (by assumption) ?_|refine condM_b (fun hg => ?_) (fun hg => ?_))
    | ((with_reducible refine oM_gen (fun Kv hK => ?_)); simp [go_sem, hdiv]; (try simp (disch := omega) only [wrapI64, wrapU8, wrapU32, wrapU64]); (first | refine hK _ _ ?_ | refine And.intro (by omega) (hK _ _ ?_)); clear hK; clear Kv)))
    intro w3 b' h' d3 d3' f3 hw3 hrd3
    have T := two_copy hM.one hM.o1 d3 d3' f3 hw3 hrd3
    have Mc := mix_copy hM d3' f3 hw3 hrd3
    have Md := hM.fresh f3
    have B3 := hB.trans ((below_none f3).mono hM.le)
    have a0 := at0 w3 B3
    have hf0 := hf.2 l[0] (List.getElem_mem (by omega))
    have ix0 := a0.2.1
    have ld0 := a0.2.2.1
    rw [Int.natCast_zero] at ix0
    rw [Nat.zero_mul, Nat.add_zero] at ix0 ld0
    repeat (any_goals (first
    | (with_reducible refine pureM_in ?_)
    | (with_reducible first|refine pureQ_in ?_|refine gdQ_conv (fun _ => ?_)|refine pickQT ?_|refine pickQF ?_|refine pickQ_pos (by first|assumption|omega) ?_|refine pickQ_neg (by first|assumption|omega) ?_|refine pickQn_pos (by first|assumption|omega) ?_|refine pickQn_neg (by first|assumption|omega) ?_) | ((with_reducible refine oQ_one ?_ ?_); exact ⟨_, rfl⟩) | (with_reducible first|refine And.intro (Eq.refl (α := World) _) ?_|refine forall_one ?_|refine oQ_nil ?_) | (with_reducible refine oQ_of ⟨_, rfl⟩ (fun W0 hW0 => by (refine oM_gen (fun Kv hK => ?_)); simp [go_sem]; (first | exact hK _ _ ⟨rfl, rfl⟩ | exact ⟨by omega, hK _ _ ⟨rfl, rfl⟩⟩)) ?_)
    | (rw [oM_load, ld0, rM_ok])
    | (with_reducible first|refine gdtT ?_|refine gdtF ?_|refine gdfF ?_|refine gdfT ?_|refine gdu ?_ _|refine gdt_pos (by first|assumption|omega) ?_|refine gdt_neg (by first|assumption|omega) ?_|refine gdt_split (fun hg => ?_) (fun hg => ?_)|refine gdf_pos (by first|assumption|omega) ?_|refine gdf_neg (by first|assumption|omega) ?_|refine gdf_split (fun hg => ?_) (fun hg => ?_)|refine gdtn_pos (by first|assumption|omega) ?_|refine gdtn_neg (by first|assumption|omega) ?_|refine gdtn_split (fun hg => ?_) (fun hg => ?_)|refine gdfn_pos (by first|assumption|omega) ?_|refine gdfn_neg (by first|assumption|omega) ?_|refine gdfn_split (fun hg => ?_) (fun hg => ?_)|refine gdtbn_pos (by assumption) ?_|refine gdtbn_neg (by assumption) ?_|refine gdfbn_pos (by assumption) ?_|refine gdfbn_neg (by assumption) ?_|refine gdtb_pos (by assumption) ?_|refine gdtb_neg (by assumption) ?_|refine gdtb_split (fun hg => ?_) (fun hg => ?_)|refine gdfb_pos (by assumption) ?_|refine gdfb_neg (by assumption) ?_|refine gdfb_split (fun hg => ?_) (fun hg => ?_)|refine pickT ?_|refine pickF ?_|refine pick_pos (by first|assumption|omega) ?_|refine pick_neg (by first|assumption|omega) ?_|refine pickn_pos (by first|assumption|omega) ?_|refine pickn_neg (by first|assumption|omega) ?_|refine pickbn_pos (by assumption) ?_|refine pickbn_neg (by assumption) ?_|refine pickb_pos (by assumption) ?_|refine pickb_neg (by assumption) ?_|refine condT ?_|refine condF ?_|refine cond_pos (by first|assumption|omega) ?_|refine cond_neg (by first|assumption|omega) ?_|refine condM_dec (fun hg => ?_) (fun hg => ?_)|refine condn_pos (by first|assumption|omega) ?_|refine condn_neg (by first|assumption|omega) ?_|refine condM_ndec (fun hg => ?_) (fun hg => ?_)|refine condbn_pos (by assumption) ?_|refine condbn_neg (by assumption) ?_|refine condbn_split (fun hg => ?_) (fun hg => ?_)|refine condb_pos (by assumption) ?_|refine condb_neg (by assumption) ?_|refine condM_b (fun hg => ?_) (fun hg => ?_))
    | ((with_reducible refine oM_gen (fun Kv hK => ?_)); simp [go_sem, oM_eqc, eqGuard, ix0]; (try simp (disch := omega) only [wrapI64, wrapU8, wrapU32, wrapU64]); (first | refine hK _ _ ?_ | refine And.intro (by omega) (hK _ _ ?_)); clear hK; clear Kv)))
    refine do_ok T.one T.o1 a0.1 hf0.1 hf0.2 (fun w4 h4 d4 t4 => ?_)
    have T4 := T.left d4 t4
    have Md4 := Md.left d4 t4
    have B4 := B3.trans (t4.below T.o1 T.le)
    refine Sync_ok T4.one f (fun w5 h5 d5 t5 => ?_)
    have T5 := T4.left d5 t5
    have Md5 := Md4.left d5 t5
    have B5 := B4.trans (t5.below T4.o1 T4.le)
    exact k w5 _ b' A1 h' hr2 ⟨T5.two, Md5.two, Mc.o1, Mc.o2, Mc.s1, Mc.s2⟩ B5
  · have hmid' : ¬ (i : Int) = (l.length : Int) / 2 := by omega
    repeat (any_goals (first
    | (with_reducible refine pureM_in ?_)
    | (with_reducible first|refine pureQ_in ?_|refine gdQ_conv (fun _ => ?_)|refine pickQT ?_|refine pickQF ?_|refine pickQ_pos (by first|assumption|omega) ?_|refine pickQ_neg (by first|assumption|omega) ?_|refine pickQn_pos (by first|assumption|omega) ?_|refine pickQn_neg (by first|assumption|omega) ?_) | ((with_reducible refine oQ_one ?_ ?_); exact ⟨_, rfl⟩) | (with_reducible first|refine And.intro (Eq.refl (α := World) _) ?_|refine forall_one ?_|refine oQ_nil ?_) | (with_reducible refine oQ_of ⟨_, rfl⟩ (fun W0 hW0 => by (refine oM_gen (fun Kv hK => ?_)); simp [go_sem]; (first | exact hK _ _ ⟨rfl, rfl⟩ | exact ⟨by omega, hK _ _ ⟨rfl, rfl⟩⟩)) ?_)
    | (with_reducible first|refine gdtT ?_|refine gdtF ?_|refine gdfF ?_|refine gdfT ?_|refine gdu ?_ _|refine gdt_pos (by first|assumption|omega) ?_|refine gdt_neg (by first|assumption|omega) ?_|refine gdt_split (fun hg => ?_) (fun hg => ?_)|refine gdf_pos (by first|assumption|omega) ?_|refine gdf_neg (by first|assumption|omega) ?_|refine gdf_split (fun hg => ?_) (fun hg => ?_)|refine gdtn_pos (by first|assumption|omega) ?_|refine gdtn_neg (by first|assumption|omega) ?_|refine gdtn_split (fun hg => ?_) (fun hg => ?_)|refine gdfn_pos (by first|assumption|omega) ?_|refine gdfn_neg (by first|assumption|omega) ?_|refine gdfn_split (fun hg => ?_) (fun hg => ?_)|refine gdtbn_pos (by assumption) ?_|refine gdtbn_neg (by assumption) ?_|refine gdfbn_pos (by assumption) ?_|refine gdfbn_neg (by assumption) ?_|refine gdtb_pos (by assumption) ?_|refine gdtb_neg (by assumption) ?_|refine gdtb_split (fun hg => ?_) (fun hg => ?_)|refine gdfb_pos (by assumption) ?_|refine gdfb_neg (by assumption) ?_|refine gdfb_split (fun hg => ?_) (fun hg => ?_)|refine pickT ?_|refine pickF ?_|refine pick_pos (by first|assumption|omega) ?_|refine pick_neg (by first|assumption|omega) ?_|refine pickn_pos (by first|assumption|omega) ?_|refine pickn_neg (by first|assumption|omega) ?_|refine pickbn_pos (by assumption) ?_|refine pickbn_neg (by assumption) ?_|refine pickb_pos (by assumption) ?_|refine pickb_neg (by assumption) ?_|refine condT ?_|refine condF ?_|refine cond_pos (by first|assumption|omega) ?_|refine cond_neg (by first|assumption|omega) ?_|refine condM_dec (fun hg => ?_) (fun hg => ?_)|refine condn_pos (by first|assumption|omega) ?_|refine condn_neg (by first|assumption|omega) ?_|refine condM_ndec (fun hg => ?_) (fun hg => ?_)|refine condbn_pos (by assumption) ?_|refine condbn_neg (by assumption) ?_|refine condbn_split (fun hg => ?_) (fun hg => ?_)|refine condb_pos (by assumption) ?_|refine condb_neg (by assumption) ?_|refine condM_b (fun hg => ?_) (fun hg => ?_))
    | ((with_reducible refine oM_gen (fun Kv hK => ?_)); simp [go_sem, hdiv]; (try simp (disch := omega) only [wrapI64, wrapU8, wrapU32, wrapU64]); (first | refine hK _ _ ?_ | refine And.intro (by omega) (hK _ _ ?_)); clear hK; clear Kv)))
    exact k w2 _ b A1 h2 hr2 hM hB
set_option maxHeartbeats 1000000 in
theorem law3_ok {v : Value} {l : List Act} {f at_ size : Int} (ha : InR at_) (hr : ActRow w.heap.size w v l) (k : ∀ w', Below w.heap.size w w' → K (.bool true) w') : callM Try.prog 3 #[v, .int .i64 f, .int .i64 at_, .int .i64 size] K w := by
  apply rf_3_ok
  unfold rf_3
  obtain ⟨N, hN⟩ : ∃ N, N = w.heap.size := ⟨_, rfl⟩
  rw [← hN] at hr k
  refine sane_ok (fun w1 b1 => ?_)
  rw [← hN] at b1
  refine few_ok (hr.below b1) (fun t1 ht1 => ?_)
  cases t1 with
  | false =>
    repeat (any_goals (first
    | (with_reducible refine pureM_in ?_)
    | (with_reducible first|refine pureQ_in ?_|refine gdQ_conv (fun _ => ?_)|refine pickQT ?_|refine pickQF ?_|refine pickQ_pos (by first|assumption|omega) ?_|refine pickQ_neg (by first|assumption|omega) ?_|refine pickQn_pos (by first|assumption|omega) ?_|refine pickQn_neg (by first|assumption|omega) ?_) | ((with_reducible refine oQ_one ?_ ?_); exact ⟨_, rfl⟩) | (with_reducible first|refine And.intro (Eq.refl (α := World) _) ?_|refine forall_one ?_|refine oQ_nil ?_) | (with_reducible refine oQ_of ⟨_, rfl⟩ (fun W0 hW0 => by (refine oM_gen (fun Kv hK => ?_)); simp [go_sem]; (first | exact hK _ _ ⟨rfl, rfl⟩ | exact ⟨by omega, hK _ _ ⟨rfl, rfl⟩⟩)) ?_)
    | (with_reducible first|refine gdtT ?_|refine gdtF ?_|refine gdfF ?_|refine gdfT ?_|refine gdu ?_ _|refine gdt_pos (by first|assumption|omega) ?_|refine gdt_neg (by first|assumption|omega) ?_|refine gdt_split (fun hg => ?_) (fun hg => ?_)|refine gdf_pos (by first|assumption|omega) ?_|refine gdf_neg (by first|assumption|omega) ?_|refine gdf_split (fun hg => ?_) (fun hg => ?_)|refine gdtn_pos (by first|assumption|omega) ?_|refine gdtn_neg (by first|assumption|omega) ?_|refine gdtn_split (fun hg => ?_) (fun hg => ?_)|refine gdfn_pos (by first|assumption|omega) ?_|refine gdfn_neg (by first|assumption|omega) ?_|refine gdfn_split (fun hg => ?_) (fun hg => ?_)|refine gdtbn_pos (by assumption) ?_|refine gdtbn_neg (by assumption) ?_|refine gdfbn_pos (by assumption) ?_|refine gdfbn_neg (by assumption) ?_|refine gdtb_pos (by assumption) ?_|refine gdtb_neg (by assumption) ?_|refine gdtb_split (fun hg => ?_) (fun hg => ?_)|refine gdfb_pos (by assumption) ?_|refine gdfb_neg (by assumption) ?_|refine gdfb_split (fun hg => ?_) (fun hg => ?_)|refine pickT ?_|refine pickF ?_|refine pick_pos (by first|assumption|omega) ?_|refine pick_neg (by first|assumption|omega) ?_|refine pickn_pos (by first|assumption|omega) ?_|refine pickn_neg (by first|assumption|omega) ?_|refine pickbn_pos (by assumption) ?_|refine pickbn_neg (by assumption) ?_|refine pickb_pos (by assumption) ?_|refine pickb_neg (by assumption) ?_|refine condT ?_|refine condF ?_|refine cond_pos (by first|assumption|omega) ?_|refine cond_neg (by first|assumption|omega) ?_|refine condM_dec (fun hg => ?_) (fun hg => ?_)|refine condn_pos (by first|assumption|omega) ?_|refine condn_neg (by first|assumption|omega) ?_|refine condM_ndec (fun hg => ?_) (fun hg => ?_)|refine condbn_pos (by assumption) ?_|refine condbn_neg (by assumption) ?_|refine condbn_split (fun hg => ?_) (fun hg => ?_)|refine condb_pos (by assumption) ?_|refine condb_neg (by assumption) ?_|refine condM_b (fun hg => ?_) (fun hg => ?_))
    | ((with_reducible refine oM_gen (fun Kv hK => ?_)); simp [go_sem]; (try simp (disch := omega) only [wrapI64, wrapU8, wrapU32, wrapU64]); (first | refine hK _ _ ?_ | refine And.intro (by omega) (hK _ _ ?_)); clear hK; clear Kv)))
    exact k w1 b1
  | true =>
  have hf := ht1 rfl
  clear ht1
  repeat (any_goals (first
  | (with_reducible refine pureM_in ?_)
  | (with_reducible first|refine pureQ_in ?_|refine gdQ_conv (fun _ => ?_)|refine pickQT ?_|refine pickQF ?_|refine pickQ_pos (by first|assumption|omega) ?_|refine pickQ_neg (by first|assumption|omega) ?_|refine pickQn_pos (by first|assumption|omega) ?_|refine pickQn_neg (by first|assumption|omega) ?_) | ((with_reducible refine oQ_one ?_ ?_); exact ⟨_, rfl⟩) | (with_reducible first|refine And.intro (Eq.refl (α := World) _) ?_|refine forall_one ?_|refine oQ_nil ?_) | (with_reducible refine oQ_of ⟨_, rfl⟩ (fun W0 hW0 => by (refine oM_gen (fun Kv hK => ?_)); simp [go_sem]; (first | exact hK _ _ ⟨rfl, rfl⟩ | exact ⟨by omega, hK _ _ ⟨rfl, rfl⟩⟩)) ?_)
  | (with_reducible first|refine gdtT ?_|refine gdtF ?_|refine gdfF ?_|refine gdfT ?_|refine gdu ?_ _|refine gdt_pos (by first|assumption|omega) ?_|refine gdt_neg (by first|assumption|omega) ?_|refine gdt_split (fun hg => ?_) (fun hg => ?_)|refine gdf_pos (by first|assumption|omega) ?_|refine gdf_neg (by first|assumption|omega) ?_|refine gdf_split (fun hg => ?_) (fun hg => ?_)|refine gdtn_pos (by first|assumption|omega) ?_|refine gdtn_neg (by first|assumption|omega) ?_|refine gdtn_split (fun hg => ?_) (fun hg => ?_)|refine gdfn_pos (by first|assumption|omega) ?_|refine gdfn_neg (by first|assumption|omega) ?_|refine gdfn_split (fun hg => ?_) (fun hg => ?_)|refine gdtbn_pos (by assumption) ?_|refine gdtbn_neg (by assumption) ?_|refine gdfbn_pos (by assumption) ?_|refine gdfbn_neg (by assumption) ?_|refine gdtb_pos (by assumption) ?_|refine gdtb_neg (by assumption) ?_|refine gdtb_split (fun hg => ?_) (fun hg => ?_)|refine gdfb_pos (by assumption) ?_|refine gdfb_neg (by assumption) ?_|refine gdfb_split (fun hg => ?_) (fun hg => ?_)|refine pickT ?_|refine pickF ?_|refine pick_pos (by first|assumption|omega) ?_|refine pick_neg (by first|assumption|omega) ?_|refine pickn_pos (by first|assumption|omega) ?_|refine pickn_neg (by first|assumption|omega) ?_|refine pickbn_pos (by assumption) ?_|refine pickbn_neg (by assumption) ?_|refine pickb_pos (by assumption) ?_|refine pickb_neg (by assumption) ?_|refine condT ?_|refine condF ?_|refine cond_pos (by first|assumption|omega) ?_|refine cond_neg (by first|assumption|omega) ?_|refine condM_dec (fun hg => ?_) (fun hg => ?_)|refine condn_pos (by first|assumption|omega) ?_|refine condn_neg (by first|assumption|omega) ?_|refine condM_ndec (fun hg => ?_) (fun hg => ?_)|refine condbn_pos (by assumption) ?_|refine condbn_neg (by assumption) ?_|refine condbn_split (fun hg => ?_) (fun hg => ?_)|refine condb_pos (by assumption) ?_|refine condb_neg (by assumption) ?_|refine condM_b (fun hg => ?_) (fun hg => ?_))
  | ((with_reducible refine oM_gen (fun Kv hK => ?_)); simp [go_sem]; (try simp (disch := omega) only [wrapI64, wrapU8, wrapU32, wrapU64]); (first | refine hK _ _ ?_ | refine And.intro (by omega) (hK _ _ ?_)); clear hK; clear Kv)))
  refine new_ok (fun w2 b h d f2 ho _ => ?_)
  have hz1 : N ≤ w1.heap.size := by have := b1.size; omega
  have b2 := b1.trans ((below_none f2).mono hz1)
  refine rnew_ok (fun w3 rb hr' d' f3 ho' hrd' => ?_)
  have hz2 : N ≤ w2.heap.size := by have := b2.size; omega
  have b3 := b2.trans ((below_none f3).mono hz2)
  have D := mix_new (n := N) d (fun i hi => by have := ho i hi; omega) hz2 d' f3 ho' hrd'
  clear d d' ho ho' hrd' f2 f3 b1 b2
  repeat (any_goals (first
  | (with_reducible refine pureM_in ?_)
  | (with_reducible first|refine pureQ_in ?_|refine gdQ_conv (fun _ => ?_)|refine pickQT ?_|refine pickQF ?_|refine pickQ_pos (by first|assumption|omega) ?_|refine pickQ_neg (by first|assumption|omega) ?_|refine pickQn_pos (by first|assumption|omega) ?_|refine pickQn_neg (by first|assumption|omega) ?_) | ((with_reducible refine oQ_one ?_ ?_); exact ⟨_, rfl⟩) | (with_reducible first|refine And.intro (Eq.refl (α := World) _) ?_|refine forall_one ?_|refine oQ_nil ?_) | (with_reducible refine oQ_of ⟨_, rfl⟩ (fun W0 hW0 => by (refine oM_gen (fun Kv hK => ?_)); simp [go_sem]; (first | exact hK _ _ ⟨rfl, rfl⟩ | exact ⟨by omega, hK _ _ ⟨rfl, rfl⟩⟩)) ?_)
  | (with_reducible first|refine gdtT ?_|refine gdtF ?_|refine gdfF ?_|refine gdfT ?_|refine gdu ?_ _|refine gdt_pos (by first|assumption|omega) ?_|refine gdt_neg (by first|assumption|omega) ?_|refine gdt_split (fun hg => ?_) (fun hg => ?_)|refine gdf_pos (by first|assumption|omega) ?_|refine gdf_neg (by first|assumption|omega) ?_|refine gdf_split (fun hg => ?_) (fun hg => ?_)|refine gdtn_pos (by first|assumption|omega) ?_|refine gdtn_neg (by first|assumption|omega) ?_|refine gdtn_split (fun hg => ?_) (fun hg => ?_)|refine gdfn_pos (by first|assumption|omega) ?_|refine gdfn_neg (by first|assumption|omega) ?_|refine gdfn_split (fun hg => ?_) (fun hg => ?_)|refine gdtbn_pos (by assumption) ?_|refine gdtbn_neg (by assumption) ?_|refine gdfbn_pos (by assumption) ?_|refine gdfbn_neg (by assumption) ?_|refine gdtb_pos (by assumption) ?_|refine gdtb_neg (by assumption) ?_|refine gdtb_split (fun hg => ?_) (fun hg => ?_)|refine gdfb_pos (by assumption) ?_|refine gdfb_neg (by assumption) ?_|refine gdfb_split (fun hg => ?_) (fun hg => ?_)|refine pickT ?_|refine pickF ?_|refine pick_pos (by first|assumption|omega) ?_|refine pick_neg (by first|assumption|omega) ?_|refine pickn_pos (by first|assumption|omega) ?_|refine pickn_neg (by first|assumption|omega) ?_|refine pickbn_pos (by assumption) ?_|refine pickbn_neg (by assumption) ?_|refine pickb_pos (by assumption) ?_|refine pickb_neg (by assumption) ?_|refine condT ?_|refine condF ?_|refine cond_pos (by first|assumption|omega) ?_|refine cond_neg (by first|assumption|omega) ?_|refine condM_dec (fun hg => ?_) (fun hg => ?_)|refine condn_pos (by first|assumption|omega) ?_|refine condn_neg (by first|assumption|omega) ?_|refine condM_ndec (fun hg => ?_) (fun hg => ?_)|refine condbn_pos (by assumption) ?_|refine condbn_neg (by assumption) ?_|refine condbn_split (fun hg => ?_) (fun hg => ?_)|refine condb_pos (by assumption) ?_|refine condb_neg (by assumption) ?_|refine condM_b (fun hg => ?_) (fun hg => ?_))
  | ((with_reducible refine oM_gen (fun Kv hK => ?_)); simp [go_sem, oM_eqc, eqGuard]; (try simp (disch := omega) only [wrapI64, wrapU8, wrapU32, wrapU64]); (first | refine hK _ _ ?_ | refine And.intro (by omega) (hK _ _ ?_)); clear hK; clear Kv)))
  obtain ⟨va, vc, hv⟩ := hr.len
  rw [hv] at hr ⊢
  have hfl := hf.1
  refine ⟨fun l' w' => ∃ (u : Value) (b : Nat) (i : Nat), l' = [.bool false, u, dkP b, .int .i64 (i : Int)] ∧ i ≤ l.length ∧ ∃ A h hr, Mix N w' b A h rb A hr ∧ Below N w w', fun l' _ => match l' with | [_, _, _, .int _ m] => ((l.length : Int) - m).toNat | _ => 0, ⟨_, b, 0, rfl, by omega, _, _, _, D, b3⟩, ?_⟩
  clear D b3
  rintro l' u w4 ⟨u0, b4, i, rfl, hi, A, h4, hr4, D, B4⟩
  simp only [List.getD_cons_zero, List.getD_cons_succ]
  repeat (any_goals (first
  | (with_reducible refine pureM_in ?_)
  | (with_reducible first|refine pureQ_in ?_|refine gdQ_conv (fun _ => ?_)|refine pickQT ?_|refine pickQF ?_|refine pickQ_pos (by first|assumption|omega) ?_|refine pickQ_neg (by first|assumption|omega) ?_|refine pickQn_pos (by first|assumption|omega) ?_|refine pickQn_neg (by first|assumption|omega) ?_) | ((with_reducible refine oQ_one ?_ ?_); exact ⟨_, rfl⟩) | (with_reducible first|refine And.intro (Eq.refl (α := World) _) ?_|refine forall_one ?_|refine oQ_nil ?_) | (with_reducible refine oQ_of ⟨_, rfl⟩ (fun W0 hW0 => by (refine oM_gen (fun Kv hK => ?_)); simp [go_sem]; (first | exact hK _ _ ⟨rfl, rfl⟩ | exact ⟨by omega, hK _ _ ⟨rfl, rfl⟩⟩)) ?_)
  | (with_reducible first|refine gdtT ?_|refine gdtF ?_|refine gdfF ?_|refine gdfT ?_|refine gdu ?_ _|refine gdt_pos (by first|assumption|omega) ?_|refine gdt_neg (by first|assumption|omega) ?_|refine gdt_split (fun hg => ?_) (fun hg => ?_)|refine gdf_pos (by first|assumption|omega) ?_|refine gdf_neg (by first|assumption|omega) ?_|refine gdf_split (fun hg => ?_) (fun hg => ?_)|refine gdtn_pos (by first|assumption|omega) ?_|refine gdtn_neg (by first|assumption|omega) ?_|refine gdtn_split (fun hg => ?_) (fun hg => ?_)|refine gdfn_pos (by first|assumption|omega) ?_|refine gdfn_neg (by first|assumption|omega) ?_|refine gdfn_split (fun hg => ?_) (fun hg => ?_)|refine gdtbn_pos (by assumption) ?_|refine gdtbn_neg (by assumption) ?_|refine gdfbn_pos (by assumption) ?_|refine gdfbn_neg (by assumption) ?_|refine gdtb_pos (by assumption) ?_|refine gdtb_neg (by assumption) ?_|refine gdtb_split (fun hg => ?_) (fun hg => ?_)|refine gdfb_pos (by assumption) ?_|refine gdfb_neg (by assumption) ?_|refine gdfb_split (fun hg => ?_) (fun hg => ?_)|refine pickT ?_|refine pickF ?_|refine pick_pos (by first|assumption|omega) ?_|refine pick_neg (by first|assumption|omega) ?_|refine pickn_pos (by first|assumption|omega) ?_|refine pickn_neg (by first|assumption|omega) ?_|refine pickbn_pos (by assumption) ?_|refine pickbn_neg (by assumption) ?_|refine pickb_pos (by assumption) ?_|refine pickb_neg (by assumption) ?_|refine condT ?_|refine condF ?_|refine cond_pos (by first|assumption|omega) ?_|refine cond_neg (by first|assumption|omega) ?_|refine condM_dec (fun hg => ?_) (fun hg => ?_)|refine condn_pos (by first|assumption|omega) ?_|refine condn_neg (by first|assumption|omega) ?_|refine condM_ndec (fun hg => ?_) (fun hg => ?_)|refine condbn_pos (by assumption) ?_|refine condbn_neg (by assumption) ?_|refine condbn_split (fun hg => ?_) (fun hg => ?_)|refine condb_pos (by assumption) ?_|refine condb_neg (by assumption) ?_|refine condM_b (fun hg => ?_) (fun hg => ?_))
  | ((with_reducible refine oM_gen (fun Kv hK => ?_)); simp [go_sem]; (try simp (disch := omega) only [wrapI64, wrapU8, wrapU32, wrapU64]); (first | refine hK _ _ ?_ | refine And.intro (by omega) (hK _ _ ?_)); clear hK; clear Kv)))
  · have hlt : i < l.length := by omega
    refine ⟨fun l' w' => ∃ (u : Value) (b : Nat), l' = [.bool false, u, dkP b] ∧ ∃ A h hr, Mix N w' b A h rb A hr ∧ Below N w w', ?_, ?_⟩
    · exact dskStep_ok (M := fun l' w' => ∃ (u : Value) (b : Nat), l' = [.bool false, u, dkP b] ∧ ∃ A h hr, Mix N w' b A h rb A hr ∧ Below N w w') D B4 hr hf hlt (fun w' u b' A' h' hr' D' B' => ⟨u, b', rfl, A', h', hr', D', B'⟩)
    · rintro l' u w5 ⟨u5, b5, rfl, A5, h5, hr5, D5, B5⟩
      simp only [List.getD_cons_zero, List.getD_cons_succ]
      repeat (any_goals (first
      | (with_reducible refine pureM_in ?_)
      | (with_reducible first|refine pureQ_in ?_|refine gdQ_conv (fun _ => ?_)|refine pickQT ?_|refine pickQF ?_|refine pickQ_pos (by first|assumption|omega) ?_|refine pickQ_neg (by first|assumption|omega) ?_|refine pickQn_pos (by first|assumption|omega) ?_|refine pickQn_neg (by first|assumption|omega) ?_) | ((with_reducible refine oQ_one ?_ ?_); exact ⟨_, rfl⟩) | (with_reducible first|refine And.intro (Eq.refl (α := World) _) ?_|refine forall_one ?_|refine oQ_nil ?_) | (with_reducible refine oQ_of ⟨_, rfl⟩ (fun W0 hW0 => by (refine oM_gen (fun Kv hK => ?_)); simp [go_sem]; (first | exact hK _ _ ⟨rfl, rfl⟩ | exact ⟨by omega, hK _ _ ⟨rfl, rfl⟩⟩)) ?_)
      | (with_reducible first|refine gdtT ?_|refine gdtF ?_|refine gdfF ?_|refine gdfT ?_|refine gdu ?_ _|refine gdt_pos (by first|assumption|omega) ?_|refine gdt_neg (by first|assumption|omega) ?_|refine gdt_split (fun hg => ?_) (fun hg => ?_)|refine gdf_pos (by first|assumption|omega) ?_|refine gdf_neg (by first|assumption|omega) ?_|refine gdf_split (fun hg => ?_) (fun hg => ?_)|refine gdtn_pos (by first|assumption|omega) ?_|refine gdtn_neg (by first|assumption|omega) ?_|refine gdtn_split (fun hg => ?_) (fun hg => ?_)|refine gdfn_pos (by first|assumption|omega) ?_|refine gdfn_neg (by first|assumption|omega) ?_|refine gdfn_split (fun hg => ?_) (fun hg => ?_)|refine gdtbn_pos (by assumption) ?_|refine gdtbn_neg (by assumption) ?_|refine gdfbn_pos (by assumption) ?_|refine gdfbn_neg (by assumption) ?_|refine gdtb_pos (by assumption) ?_|refine gdtb_neg (by assumption) ?_|refine gdtb_split (fun hg => ?_) (fun hg => ?_)|refine gdfb_pos (by assumption) ?_|refine gdfb_neg (by assumption) ?_|refine gdfb_split (fun hg => ?_) (fun hg => ?_)|refine pickT ?_|refine pickF ?_|refine pick_pos (by first|assumption|omega) ?_|refine pick_neg (by first|assumption|omega) ?_|refine pickn_pos (by first|assumption|omega) ?_|refine pickn_neg (by first|assumption|omega) ?_|refine pickbn_pos (by assumption) ?_|refine pickbn_neg (by assumption) ?_|refine pickb_pos (by assumption) ?_|refine pickb_neg (by assumption) ?_|refine condT ?_|refine condF ?_|refine cond_pos (by first|assumption|omega) ?_|refine cond_neg (by first|assumption|omega) ?_|refine condM_dec (fun hg => ?_) (fun hg => ?_)|refine condn_pos (by first|assumption|omega) ?_|refine condn_neg (by first|assumption|omega) ?_|refine condM_ndec (fun hg => ?_) (fun hg => ?_)|refine condbn_pos (by assumption) ?_|refine condbn_neg (by assumption) ?_|refine condbn_split (fun hg => ?_) (fun hg => ?_)|refine condb_pos (by assumption) ?_|refine condb_neg (by assumption) ?_|refine condM_b (fun hg => ?_) (fun hg => ?_))
      | ((with_reducible refine oM_gen (fun Kv hK => ?_)); simp [go_sem]; (try simp (disch := omega) only [wrapI64, wrapU8, wrapU32, wrapU64]); (first | refine hK _ _ ?_ | refine And.intro (by omega) (hK _ _ ?_)); clear hK; clear Kv)))
      refine ⟨⟨_, b5, i + 1, rfl, hlt, A5, h5, hr5, D5, B5⟩, ?_⟩
      show ((l.length : Int) - ((i : Int) + 1)).toNat < ((l.length : Int) - (i : Int)).toNat
      omega
  · refine read_ok D.one f at_ size ?_
    obtain ⟨r, hr⟩ : ∃ r, r = readA A f at_ size := ⟨_, rfl⟩
    obtain ⟨r1, r2⟩ := r
    rw [← hr]
    repeat (any_goals (first
    | (with_reducible refine pureM_in ?_)
    | (with_reducible first|refine pureQ_in ?_|refine gdQ_conv (fun _ => ?_)|refine pickQT ?_|refine pickQF ?_|refine pickQ_pos (by first|assumption|omega) ?_|refine pickQ_neg (by first|assumption|omega) ?_|refine pickQn_pos (by first|assumption|omega) ?_|refine pickQn_neg (by first|assumption|omega) ?_) | ((with_reducible refine oQ_one ?_ ?_); exact ⟨_, rfl⟩) | (with_reducible first|refine And.intro (Eq.refl (α := World) _) ?_|refine forall_one ?_|refine oQ_nil ?_) | (with_reducible refine oQ_of ⟨_, rfl⟩ (fun W0 hW0 => by (refine oM_gen (fun Kv hK => ?_)); simp [go_sem]; (first | exact hK _ _ ⟨rfl, rfl⟩ | exact ⟨by omega, hK _ _ ⟨rfl, rfl⟩⟩)) ?_)
    | (with_reducible first|refine gdtT ?_|refine gdtF ?_|refine gdfF ?_|refine gdfT ?_|refine gdu ?_ _|refine gdt_pos (by first|assumption|omega) ?_|refine gdt_neg (by first|assumption|omega) ?_|refine gdt_split (fun hg => ?_) (fun hg => ?_)|refine gdf_pos (by first|assumption|omega) ?_|refine gdf_neg (by first|assumption|omega) ?_|refine gdf_split (fun hg => ?_) (fun hg => ?_)|refine gdtn_pos (by first|assumption|omega) ?_|refine gdtn_neg (by first|assumption|omega) ?_|refine gdtn_split (fun hg => ?_) (fun hg => ?_)|refine gdfn_pos (by first|assumption|omega) ?_|refine gdfn_neg (by first|assumption|omega) ?_|refine gdfn_split (fun hg => ?_) (fun hg => ?_)|refine gdtbn_pos (by assumption) ?_|refine gdtbn_neg (by assumption) ?_|refine gdfbn_pos (by assumption) ?_|refine gdfbn_neg (by assumption) ?_|refine gdtb_pos (by assumption) ?_|refine gdtb_neg (by assumption) ?_|refine gdtb_split (fun hg => ?_) (fun hg => ?_)|refine gdfb_pos (by assumption) ?_|refine gdfb_neg (by assumption) ?_|refine gdfb_split (fun hg => ?_) (fun hg => ?_)|refine pickT ?_|refine pickF ?_|refine pick_pos (by first|assumption|omega) ?_|refine pick_neg (by first|assumption|omega) ?_|refine pickn_pos (by first|assumption|omega) ?_|refine pickn_neg (by first|assumption|omega) ?_|refine pickbn_pos (by assumption) ?_|refine pickbn_neg (by assumption) ?_|refine pickb_pos (by assumption) ?_|refine pickb_neg (by assumption) ?_|refine condT ?_|refine condF ?_|refine cond_pos (by first|assumption|omega) ?_|refine cond_neg (by first|assumption|omega) ?_|refine condM_dec (fun hg => ?_) (fun hg => ?_)|refine condn_pos (by first|assumption|omega) ?_|refine condn_neg (by first|assumption|omega) ?_|refine condM_ndec (fun hg => ?_) (fun hg => ?_)|refine condbn_pos (by assumption) ?_|refine condbn_neg (by assumption) ?_|refine condbn_split (fun hg => ?_) (fun hg => ?_)|refine condb_pos (by assumption) ?_|refine condb_neg (by assumption) ?_|refine condM_b (fun hg => ?_) (fun hg => ?_))
    | ((with_reducible refine oM_gen (fun Kv hK => ?_)); simp [go_sem]; (try simp (disch := omega) only [wrapI64, wrapU8, wrapU32, wrapU64]); (first | refine hK _ _ ?_ | refine And.intro (by omega) (hK _ _ ?_)); clear hK; clear Kv)))
    refine rread_ok D.two f at_ size ha (fun w5 f5 => ?_)
    rw [← hr]
    repeat (any_goals (first
    | (with_reducible refine pureM_in ?_)
    | (with_reducible first|refine pureQ_in ?_|refine gdQ_conv (fun _ => ?_)|refine pickQT ?_|refine pickQF ?_|refine pickQ_pos (by first|assumption|omega) ?_|refine pickQ_neg (by first|assumption|omega) ?_|refine pickQn_pos (by first|assumption|omega) ?_|refine pickQn_neg (by first|assumption|omega) ?_) | ((with_reducible refine oQ_one ?_ ?_); exact ⟨_, rfl⟩) | (with_reducible first|refine And.intro (Eq.refl (α := World) _) ?_|refine forall_one ?_|refine oQ_nil ?_) | (with_reducible refine oQ_of ⟨_, rfl⟩ (fun W0 hW0 => by (refine oM_gen (fun Kv hK => ?_)); simp [go_sem]; (first | exact hK _ _ ⟨rfl, rfl⟩ | exact ⟨by omega, hK _ _ ⟨rfl, rfl⟩⟩)) ?_)
    | (with_reducible first|refine gdtT ?_|refine gdtF ?_|refine gdfF ?_|refine gdfT ?_|refine gdu ?_ _|refine gdt_pos (by first|assumption|omega) ?_|refine gdt_neg (by first|assumption|omega) ?_|refine gdt_split (fun hg => ?_) (fun hg => ?_)|refine gdf_pos (by first|assumption|omega) ?_|refine gdf_neg (by first|assumption|omega) ?_|refine gdf_split (fun hg => ?_) (fun hg => ?_)|refine gdtn_pos (by first|assumption|omega) ?_|refine gdtn_neg (by first|assumption|omega) ?_|refine gdtn_split (fun hg => ?_) (fun hg => ?_)|refine gdfn_pos (by first|assumption|omega) ?_|refine gdfn_neg (by first|assumption|omega) ?_|refine gdfn_split (fun hg => ?_) (fun hg => ?_)|refine gdtbn_pos (by assumption) ?_|refine gdtbn_neg (by assumption) ?_|refine gdfbn_pos (by assumption) ?_|refine gdfbn_neg (by assumption) ?_|refine gdtb_pos (by assumption) ?_|refine gdtb_neg (by assumption) ?_|refine gdtb_split (fun hg => ?_) (fun hg => ?_)|refine gdfb_pos (by assumption) ?_|refine gdfb_neg (by assumption) ?_|refine gdfb_split (fun hg => ?_) (fun hg => ?_)|refine pickT ?_|refine pickF ?_|refine pick_pos (by first|assumption|omega) ?_|refine pick_neg (by first|assumption|omega) ?_|refine pickn_pos (by first|assumption|omega) ?_|refine pickn_neg (by first|assumption|omega) ?_|refine pickbn_pos (by assumption) ?_|refine pickbn_neg (by assumption) ?_|refine pickb_pos (by assumption) ?_|refine pickb_neg (by assumption) ?_|refine condT ?_|refine condF ?_|refine cond_pos (by first|assumption|omega) ?_|refine cond_neg (by first|assumption|omega) ?_|refine condM_dec (fun hg => ?_) (fun hg => ?_)|refine condn_pos (by first|assumption|omega) ?_|refine condn_neg (by first|assumption|omega) ?_|refine condM_ndec (fun hg => ?_) (fun hg => ?_)|refine condbn_pos (by assumption) ?_|refine condbn_neg (by assumption) ?_|refine condbn_split (fun hg => ?_) (fun hg => ?_)|refine condb_pos (by assumption) ?_|refine condb_neg (by assumption) ?_|refine condM_b (fun hg => ?_) (fun hg => ?_))
    | ((with_reducible refine oM_gen (fun Kv hK => ?_)); simp [go_sem]; (try simp (disch := omega) only [wrapI64, wrapU8, wrapU32, wrapU64]); (first | refine hK _ _ ?_ | refine And.intro (by omega) (hK _ _ ?_)); clear hK; clear Kv)))
    exact k w5 (B4.trans ((below_none f5).mono D.le))
end
end Go.Proofs
