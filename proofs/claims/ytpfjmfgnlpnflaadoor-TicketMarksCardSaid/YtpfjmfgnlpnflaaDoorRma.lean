/- Parts of the proof of TicketMarks: lemmas about the given translation and plain laws. No condition of their own. -/
import Derived.Test.YtpfjmfgnlpnflaaDoorRae
import Derived.Test.YtpfjmfgnlpnflaaDoorProg
set_option linter.all false
set_option maxRecDepth 100000
namespace Go.Sh
open Go
section
variable {P : Program} {K : Value → World → Prop} {w : World}
section
variable {m : (Value → World → Prop) → World → Prop} {p : Prop} [Decidable p] {b : Bool} {A B : Prop} {x y : Value} {T : TypeId}
theorem gdtbn_neg (h : b = true) (k : K undef w) : gdM (gd (.bool (!b)) true) m K w := by rw [gd_true, h]; exact k
theorem gdu (k : K undef w) (c : Bool) : gdM (gd undef c) m K w := by rw [gd_undef]; exact k
theorem condbn_split (h1 : b = true → B) (h2 : b = false → A) : condM (.bool (!b)) A B := by
  cases b
  · exact condb_pos rfl (h2 rfl)
  · exact condb_neg rfl (h1 rfl)
end
end
end Go.Sh

namespace Go.Sh
open Go Go.RowKit
section
variable {w : World} {B : Nat} {e : TypeId} {sz : Nat} {v : Value} {n : Nat} {xs : List Value}
end
section
variable {α : Type} {mk : α → List Value} {sz : Nat}
end
section
variable {S S' : Nat → Prop} {w w1 w2 : World}
theorem setCell_heap_ne (w : World) (a : Addr) (u : Value) (i : Nat) (h : i ≠ a.block) : (w.setCell a u).heap[i]? = w.heap[i]? := by
  simp only [World.setCell, Array.getElem?_modify]
  rw [if_neg (Ne.symm h)]
theorem grown_setCell (w : World) (a : Addr) (u : Value) : w.grownBy (w.setCell a u) (some a.block) :=
  ⟨rfl, rfl, rfl, by simp [World.setCell], fun i _ hi => setCell_heap_ne w a u i (fun e => hi (by rw [e]))⟩
theorem Fr.set (h : Fr S w w1) (a : Addr) (u : Value) (hs : S a.block ∨ w.heap.size ≤ a.block) : Fr S w (w1.setCell a u) := h.by (grown_setCell w1 a u) (fun i e => by cases e; exact hs)
end
theorem block_set {w : World} {b i : Nat} {cs : Array Value} {T : TypeId} {f : Nat × Nat} (h : w.heap[b]? = some (.cells cs T f)) (u : Value) : (w.setCell ⟨b, i, none⟩ u).heap[b]? = some (.cells (cs.setIfInBounds i u) T f) := by
  simp [World.setCell, Array.getElem?_modify, h]
end Go.Sh

namespace Go.Sh
open Go Go.RowKit
section
variable {P : Program} {w w' : World} {e : TypeId} {v : Value} {l : List UInt8} {K : Value → World → Prop}
theorem BufM.set (h : BufM w e v l) {j : Nat} (hj : j < l.length) (x : UInt8) : ∃ g c, v = .slice (some ⟨g, 0, none⟩) l.length c ∧ w.frozen? ⟨g, j, none⟩ = false ∧ (w.cell? ⟨g, j, none⟩).isSome = true ∧ BufM (w.setCell ⟨g, j, none⟩ (.int .u8 (x.toNat : Int))) e v (l.set j x) := by
  obtain ⟨g, cap, cur, fz, rfl, hg, hfz, hcs, hlc, hcell⟩ := h
  refine ⟨g, cap, rfl, ?_, ?_, ⟨g, cap, cur.setIfInBounds j (.int .u8 (x.toNat : Int)), fz, by rw [List.length_set], block_set hg _, by simpa using hfz, by simpa using hcs, by simpa using hlc, fun k hk => ?_⟩⟩
  · unfold World.frozen?
    rw [hg]
    have := hfz j (by omega)
    simp only [Bool.and_eq_false_iff, decide_eq_false_iff_not]
    omega
  · rw [cell_of_block hg, hcell j hj]; rfl
  · rw [List.length_set] at hk
    by_cases hkj : k = j
    · subst hkj
      rw [Array.getElem?_setIfInBounds_self_of_lt (by omega)]
      simp
    · rw [Array.getElem?_setIfInBounds_ne (Ne.symm hkj), hcell k hk, List.getElem_set_ne (Ne.symm hkj)]
end
end Go.Sh

namespace Go.Sh
open Go
section
variable {P : Program} {K : Value → World → Prop} {w : World} {A B : Prop} {p : Prop} [Decidable p] {b c : Bool} {m : (Value → World → Prop) → World → Prop} {T : TypeId} {x y v : Value} {C : World → Prop} {KQ : Value → Prop}
theorem zS (k : K undef w) (h : b = true := by assumption) : gdM (gd (.bool (!b)) true) m K w := gdtbn_neg h k
theorem zE (k : K undef w) : gdM (gd undef c) m K w := gdu k c
theorem yV (h1 : b = true → B) (h2 : b = false → A) : condM (.bool (!b)) A B := condbn_split h1 h2
end
end Go.Sh

namespace Go.Sh
open Go Go.RowKit
namespace KnM
variable {w0 w w' : World} {L : List (Addr × Value)} {g n : Nat}
end KnM
section
variable {P : Program} {w0 w : World} {K : Value → World → Prop} {T T' : TypeId} {L : List (Addr × Value)} {g n : Nat}
variable {C : World → Prop} {KQ : Value → Prop} {x y v : Value} {p : Prop} [Decidable p]
theorem pickH_pos (h : p) (k : KQ x) : oH P (.pick (.tmp 0) (.tmp 1) (.tmp 2)) T [.bool (decide p), x, y] C KQ := pickH (by rw [decide_eq_true h]; exact k)
theorem pickH_neg (h : ¬p) (k : KQ y) : oH P (.pick (.tmp 0) (.tmp 1) (.tmp 2)) T [.bool (decide p), x, y] C KQ := pickH (by rw [decide_eq_false h]; exact k)
theorem vC (k : KQ x) (h : p := by first|assumption|omega) : oH P (.pick (.tmp 0) (.tmp 1) (.tmp 2)) T [.bool (decide p), x, y] C KQ := pickH_pos h k
theorem vD (k : KQ y) (h : ¬p := by first|assumption|omega) : oH P (.pick (.tmp 0) (.tmp 1) (.tmp 2)) T [.bool (decide p), x, y] C KQ := pickH_neg h k
end
end Go.Sh

namespace FdSpec
def makeG (q : Int) : Grp × Bool :=
  if q < 5 ∨ 1152921504606846976 ≤ q then (⟨0, 0, 0⟩, false) else if validG ⟨2 * q + 1, q, 4⟩ then (⟨2 * q + 1, q, 4⟩, true) else (⟨0, 0, 0⟩, false)
end FdSpec

set_option linter.unusedVariables false
set_option maxRecDepth 100000
namespace Go.Proofs
open Go.Sh
def sh_40 (a0 : Value) (K : Value → World → Prop) (w : World) : Prop :=
 oM Tryd.prog (.alloc 23) 0 [] (fun v2_1 w =>
 oM Tryd.prog (.binOp .lss 3 (.tmp 0) (.tmp 1) 3) 4 [a0, (.int .i64 5)] (fun v6_2 w =>
 gdM (gd v6_2 false) (pureM a0) (fun v8_3 w =>
 gdM (gd v6_2 false) (oM Tryd.prog (.binOp .geq 3 (.tmp 0) (.tmp 1) 3) 4 [v8_3, (.int .i64 1152921504606846976)]) (fun v9_4 w =>
 oM Tryd.prog (.pick (.tmp 0) (.tmp 1) (.tmp 2)) 4 [v6_2, (.bool true), v9_4] (fun v10_5 w =>
 condM v10_5
 (oM Tryd.prog (.build 23 #[]) 23 [] (fun v11_6 w =>
 oM Tryd.prog (.store 23 (.tmp 0) (.tmp 1)) 0 [v2_1, v11_6] (fun _ w =>
 ∃ r_7, (do loadVar 23 (← asAddr v2_1) : Sem Value).run Tryd.prog w = .ok r_7 w ∧ K (.tuple #[r_7, (.bool false)]) w) w) w)
 (oM Tryd.prog (.binOp .mul 3 (.tmp 0) (.tmp 1) 3) 3 [(.int .i64 2), a0] (fun v13_8 w =>
 oM Tryd.prog (.binOp .add 3 (.tmp 0) (.tmp 1) 3) 3 [v13_8, (.int .i64 1)] (fun v14_9 w =>
 oM Tryd.prog (.build 23 #[(0, (.tmp 0)), (1, (.tmp 1)), (2, (.tmp 2))]) 23 [v14_9, a0, (.int .i64 4)] (fun v16_10 w =>
 oM Tryd.prog (.alloc 23) 0 [] (fun v4_11 w =>
 oM Tryd.prog (.store 23 (.tmp 0) (.tmp 1)) 0 [v4_11, v16_10] (fun _ w =>
 oM Tryd.prog (.load 23 (.tmp 0)) 23 [v4_11] (fun v17_12 w =>
 callM Tryd.prog 57 #[v17_12] (fun v18_13 w =>
 condM v18_13
 (oM Tryd.prog (.load 23 (.tmp 0)) 23 [v4_11] (fun v19_14 w =>
 oM Tryd.prog (.store 23 (.tmp 0) (.tmp 1)) 0 [v2_1, v19_14] (fun _ w =>
 ∃ r_15, (do loadVar 23 (← asAddr v2_1) : Sem Value).run Tryd.prog w = .ok r_15 w ∧ K (.tuple #[r_15, (.bool true)]) w) w) w)
 (oM Tryd.prog (.build 23 #[]) 23 [] (fun v20_16 w =>
 oM Tryd.prog (.store 23 (.tmp 0) (.tmp 1)) 0 [v2_1, v20_16] (fun _ w =>
 ∃ r_17, (do loadVar 23 (← asAddr v2_1) : Sem Value).run Tryd.prog w = .ok r_17 w ∧ K (.tuple #[r_17, (.bool false)]) w) w) w)) w) w) w) w) w) w) w)) w) w) w) w) w
theorem sh_40_eq (a0 : Value) (K : Value → World → Prop) (w : World) : sh_40 a0 K w = code Tryd.prog (fun _ => 0) 21 (Tryd.f40.body.getD .skip) (slotsAt [a0]) (retK Tryd.prog [.cell 2 23, .tmp 3] K) w := by kernel_rfl
theorem sh_40_ok {a0 : Value} {K : Value → World → Prop} {w : World} (h : sh_40 a0 K w) : callM Tryd.prog 40 #[a0] K w :=
  calls_of_code (fun _ => 0) (fn := Tryd.f40) (rs := [.cell 2 23, .tmp 3]) Tryd.func40 rfl rfl (by kernel_rfl) (Nat.le_of_ble_eq_true rfl) ((sh_40_eq a0 K w).mp h)
end Go.Proofs

namespace Go.Proofs
open Go Go.Sh Go.RowKit FdSpec TkSpec
set_option linter.unusedSimpArgs false
set_option linter.unusedVariables false
set_option maxRecDepth 10000
theorem powerG_I64 (g : Grp) (x k : Int) : I64 (powerG g x k) := by
  unfold powerG
  split
  · rename_i h
    exact I64_of (pw_nonneg g.P x _ (by have := h.1; unfold okN at this; omega)) h.1
  · exact I64_0
section
variable {K : Value → World → Prop} {w w0 : World} {L : List (Addr × Value)}
end
end Go.Proofs

namespace Go.Sh
open Go Go.RowKit
theorem Holds.are {w : World} {g : Nat} {T : TypeId} {vs : List Value} (h : Holds w g T vs) : cellsAre w (cellsOf [] g 0 vs) :=
  cellsOf_are (xs := vs) (L := []) trivial (fun i v hi => by
    obtain ⟨hl, rfl⟩ := List.getElem?_eq_some_iff.1 hi
    exact h.cell i hl) vs 0 rfl
section
variable {P : Program} {w : World} {K : Value → World → Prop} {T T' T0 : TypeId} {g n : Nat}
theorem arr_alloc {zs : List Value} (hA : ∀ w, (Instr.alloc T true (.tuple #[])).run P w = .ok (.pointer (some ⟨w.heap.size, 0, none⟩)) (w.alloc (.cells zs.toArray T)))
    (k : ∀ g W, Below w.heap.size w W → w.heap.size ≤ g → Holds W g T zs → K (ptr g 0) W) : oM P (.alloc T) T' [] K w := by
  rw [oM_alloc, hA]
  refine k _ _ ((Below.refl w.heap.size w).alloc (Nat.le_refl _) _) (Nat.le_refl _) ?_
  show (w.heap.push _)[w.heap.size]? = _
  simp
theorem arr_storeRow {o m : Nat} {cur xs : List Value} {x : Value} (hT : ∀ w, (sizeOf T).run P w = .ok m w) (hx : x.cells = xs.toArray) (hl : xs.length = m) (h1 : ∀ u ∈ xs, u.oneCell' = true) (hg : Holds w g T0 cur) (hfit : o + m ≤ cur.length)
    (k : ∀ W, w.grownBy W (some g) → Holds W g T0 (cur.take o ++ xs ++ cur.drop (o + m)) → K undef W) : oM P (.store T (.tmp 0) (.tmp 1)) T' [ptr g o, x] K w := by
  have hst := run_storeCells_at P g o T0 xs 0 cur.toArray w hg (by simp; omega) h1
  rw [Nat.add_zero] at hst
  have e2 : x.cells.toList = xs := by rw [hx]
  have e3 : x.cells.size = m := by rw [hx]; simpa using hl
  have hrun : (Instr.storeAt T (ptr g o) x).run P w = .ok () (w.setRow g (cur.take o ++ xs ++ cur.drop (o + xs.length)).toArray) := by
    unfold Instr.storeAt storeVar
    rw [e2, e3]
    simp only [List.append_assoc] at hst ⊢
    simp [hT, go_sem]
    exact hst
  rw [oM_store, hrun]
  rw [hl] at *
  exact k _ (grown_setRow _ _ _) (setRow_heap w g _ _ T0 (0, 0) hg)
theorem arr_store {cur xs : List Value} {x : Value} (hT : ∀ w, (sizeOf T).run P w = .ok n w) (hx : x.cells = xs.toArray) (hl : xs.length = n) (h1 : ∀ u ∈ xs, u.oneCell' = true) (hg : Holds w g T0 cur) (hc : cur.length = n)
    (k : ∀ W, w.grownBy W (some g) → Holds W g T0 xs → K undef W) : oM P (.store T (.tmp 0) (.tmp 1)) T' [ptr g 0, x] K w := by
  refine arr_storeRow hT hx hl h1 hg (by omega) (fun W h2 h3 => k W h2 ?_)
  rw [Nat.zero_add, List.take_zero, List.nil_append, List.drop_of_length_le (by omega), List.append_nil] at h3
  exact h3
theorem arr_set {cur : List Value} {x : Value} {i : Nat} (hT : ∀ w, (sizeOf T).run P w = .ok 1 w) (hx : x.cells = #[x]) (h1 : x.oneCell' = true) (hg : Holds w g T0 cur) (hi : i < cur.length)
    (k : ∀ W, w.grownBy W (some g) → Holds W g T0 (cur.set i x) → K undef W) : oM P (.store T (.tmp 0) (.tmp 1)) T' [ptr g i, x] K w := by
  refine arr_storeRow (xs := [x]) hT hx rfl (by intro u hu; rw [List.mem_singleton] at hu; subst hu; exact h1) hg (by omega) (fun W h2 h3 => k W h2 ?_)
  rw [List.set_eq_take_append_cons_drop, if_pos hi]
  simpa [List.append_assoc] using h3
theorem grown_below {w0 w' : World} (h0 : Below w0.heap.size w0 w) (hg : w.grownBy w' (some g)) (h : w0.heap.size ≤ g) : Below w0.heap.size w0 w' :=
  h0.grown hg h0.size (fun k hk => by cases hk; exact h)
end
end Go.Sh

namespace FdPoly
open FdSpec
theorem addM_dvd {n a b : Int} (hn : okN n) : n ∣ addM n a b - (a + b) := by
  unfold addM; rw [if_pos hn]
  have := Int.emod_add_mul_ediv (a + b) n
  exact ⟨-((a + b) / n), by grind⟩
end FdPoly

namespace GrLaw
open FdSpec FdPoly TkSpec
section
variable {P a b c d x y : Int}
theorem U.cg (h : U P a) (e : Cg P b a) : U P b := h.cong e
end
section
variable {g : Grp} {x y a b : Int}
theorem El.cg (hx : El g x) (h : Cg g.P y x) : El g y := (h.pow _).trans hx
end
end GrLaw

namespace TkSpec
open FdSpec CodeSpec
structure Mir where
  bases : List Int
  blind : Int
def badN (g : Grp) (n : Int) : Bool := decide (n < 1) || decide (g.Q ≤ n)
def makeM (g : Grp) (m : Mir) : Stp × Bool :=
  if validG g && decide (2 ≤ m.bases.length) && decide (m.bases.length ≤ 7) && !m.bases.any (badN g) && !badN g m.blind then (⟨g, m.bases.map (powerG g g.G), powerG g g.G m.blind⟩, true)
  else (⟨⟨0, 0, 0⟩, [], 0⟩, false)
def logM (s : Stp) (m : Mir) (attrs : List Int) : Int := ((expsM attrs).zip m.bases).foldl (fun o p => plusQ s o (mulQ s p.1 [p.2])) 0
end TkSpec

set_option linter.unusedVariables false
set_option maxRecDepth 100000
namespace Go.Proofs
open Go.Sh
def sh_41 (a0 : Value) (a1 : Value) (K : Value → World → Prop) (w : World) : Prop :=
 oM Tryd.prog (.box 23 (.tmp 0)) 0 [a0] (fun v2_1 w =>
 oM Tryd.prog (.box 45 (.tmp 0)) 0 [a1] (fun v3_2 w =>
 oM Tryd.prog (.alloc 26) 0 [] (fun v4_3 w =>
 oM Tryd.prog (.makeFunc (Go.Fn.func 58) #[] #[(.tmp 0)]) 76 [v2_1] (fun v10_4 w =>
 oM Tryd.prog (.load 23 (.tmp 0)) 23 [v2_1] (fun v11_5 w =>
 callM Tryd.prog 57 #[v11_5] (fun v12_6 w =>
 oM Tryd.prog (.unOp .not 4 (.tmp 0)) 4 [v12_6] (fun v13_7 w =>
 gdM (gd v13_7 false) (oM Tryd.prog (.fieldAddr 45 (.tmp 0) 0) 0 [v3_2]) (fun v15_8 w =>
 gdM (gd v13_7 false) (oM Tryd.prog (.load 24 (.tmp 0)) 24 [v15_8]) (fun v16_9 w =>
 gdM (gd v13_7 false) (oM Tryd.prog (.call (Go.Call.mk (.builtin .len) #[(.tmp 0)] #[24])) 3 [v16_9]) (fun v17_10 w =>
 gdM (gd v13_7 false) (oM Tryd.prog (.binOp .lss 3 (.tmp 0) (.tmp 1) 3) 4 [v17_10, (.int .i64 2)]) (fun v18_11 w =>
 oM Tryd.prog (.pick (.tmp 0) (.tmp 1) (.tmp 2)) 4 [v13_7, (.bool true), v18_11] (fun v19_12 w =>
 gdM (gd v19_12 false) (oM Tryd.prog (.fieldAddr 45 (.tmp 0) 0) 0 [v3_2]) (fun v21_13 w =>
 gdM (gd v19_12 false) (oM Tryd.prog (.load 24 (.tmp 0)) 24 [v21_13]) (fun v22_14 w =>
 gdM (gd v19_12 false) (oM Tryd.prog (.call (Go.Call.mk (.builtin .len) #[(.tmp 0)] #[24])) 3 [v22_14]) (fun v23_15 w =>
 gdM (gd v19_12 false) (oM Tryd.prog (.binOp .gtr 3 (.tmp 0) (.tmp 1) 3) 4 [v23_15, (.int .i64 7)]) (fun v24_16 w =>
 oM Tryd.prog (.pick (.tmp 0) (.tmp 1) (.tmp 2)) 4 [v19_12, (.bool true), v24_16] (fun v25_17 w =>
 gdM (gd v25_17 false) (oM Tryd.prog (.fieldAddr 45 (.tmp 0) 0) 0 [v3_2]) (fun v27_18 w =>
 gdM (gd v25_17 false) (oM Tryd.prog (.load 24 (.tmp 0)) 24 [v27_18]) (fun v28_19 w =>
 gdM (gd v25_17 false) (pureM v10_4) (fun v29_20 w =>
 gdM (gd v25_17 false) (callM Tryd.prog 52 #[v28_19, v29_20]) (fun v30_21 w =>
 oM Tryd.prog (.pick (.tmp 0) (.tmp 1) (.tmp 2)) 4 [v25_17, (.bool true), v30_21] (fun v31_22 w =>
 gdM (gd v31_22 false) (pureM v10_4) (fun v33_23 w =>
 gdM (gd v31_22 false) (oM Tryd.prog (.fieldAddr 45 (.tmp 0) 1) 0 [v3_2]) (fun v34_24 w =>
 gdM (gd v31_22 false) (oM Tryd.prog (.load 3 (.tmp 0)) 3 [v34_24]) (fun v35_25 w =>
 gdM (gd v31_22 false) (oM Tryd.prog (.call (Go.Call.mk (.value (.tmp 0)) #[(.tmp 1)] #[3])) 4 [v33_23, v35_25]) (fun v36_26 w =>
 oM Tryd.prog (.pick (.tmp 0) (.tmp 1) (.tmp 2)) 4 [v31_22, (.bool true), v36_26] (fun v37_27 w =>
 condM v37_27
 (oM Tryd.prog (.build 26 #[]) 26 [] (fun v38_28 w =>
 oM Tryd.prog (.store 26 (.tmp 0) (.tmp 1)) 0 [v4_3, v38_28] (fun _ w =>
 ∃ r_29, (do loadVar 26 (← asAddr v4_3) : Sem Value).run Tryd.prog w = .ok r_29 w ∧ K (.tuple #[r_29, (.bool false)]) w) w) w)
 (heldM w (fun C_30 w => (((true : Bool) = true) ∧ (oH Tryd.prog (.load 23 (.tmp 0)) 23 [v2_1] C_30 (fun v39_31 =>
 oH Tryd.prog (.load 23 (.tmp 0)) 23 [v2_1] C_30 (fun v40_32 =>
 oH Tryd.prog (.fieldAddr 23 (.tmp 0) 2) 0 [v2_1] C_30 (fun v41_33 =>
 oH Tryd.prog (.load 3 (.tmp 0)) 3 [v41_33] C_30 (fun v42_34 =>
 oH Tryd.prog (.fieldAddr 45 (.tmp 0) 1) 0 [v3_2] C_30 (fun v43_35 =>
 oH Tryd.prog (.load 3 (.tmp 0)) 3 [v43_35] C_30 (fun v44_36 =>
 ∃ S_37 : World → World → Prop, ∃ R_38 : Value → World → Prop, (∀ v w w_1, S_37 w w_1 → R_38 v w → R_38 v w_1) ∧
 (∀ w, C_30 w → (callM Tryd.prog 14 #[v40_32, v42_34, v44_36] (fun v w_1 => C_30 w_1 ∧ S_37 w w_1 ∧ R_38 v w_1) w)) ∧
 (∃ R_39 : Value → World → Prop, (∀ v w w_1, S_37 w w_1 → R_39 v w → R_39 v w_1) ∧
 (∀ w, C_30 w → ∀ v45_40, R_38 v45_40 w → (oM Tryd.prog (.build 26 #[(0, (.tmp 0)), (2, (.tmp 1))]) 26 [v39_31, v45_40] (fun v w_1 => C_30 w_1 ∧ S_37 w w_1 ∧ R_39 v w_1) w)) ∧
 (∃ R_41 : Value → World → Prop, (∀ v w w_1, S_37 w w_1 → R_41 v w → R_41 v w_1) ∧
 (∀ w, C_30 w → (oM Tryd.prog (.alloc 26) 0 [] (fun v w_1 => C_30 w_1 ∧ S_37 w w_1 ∧ R_41 v w_1) w)) ∧
 (∀ w, C_30 w → ∀ v45_42, R_38 v45_42 w → ∀ v46_43, R_39 v46_43 w → ∀ v7_44, R_41 v7_44 w → (
 oM Tryd.prog (.store 26 (.tmp 0) (.tmp 1)) 0 [v7_44, v46_43] (fun _ w =>
 oM Tryd.prog (.fieldAddr 45 (.tmp 0) 0) 0 [v3_2] (fun v47_45 w =>
 oM Tryd.prog (.load 24 (.tmp 0)) 24 [v47_45] (fun v48_46 w =>
 oM Tryd.prog (.call (Go.Call.mk (.builtin .len) #[(.tmp 0)] #[24])) 3 [v48_46] (fun v49_47 w =>
 loopM [undef, (.int .i64 0)] w (fun J_48 m_49 l_50 u_l_50 w0_l_50 => (fun w => (
 oM Tryd.prog (.binOp .lss 3 (.tmp 0) (.tmp 1) 3) 0 [(l_50.getD 1 undef), v49_47] (fun v51_51 w =>
 condM v51_51
 (oM Tryd.prog (.indexAddr 24 (.tmp 0) (.tmp 1)) 0 [v48_46, (l_50.getD 1 undef)] (fun v52_52 w =>
 oM Tryd.prog (.load 3 (.tmp 0)) 3 [v52_52] (fun v53_53 w =>
 heldM w (fun C_54 w => (((true : Bool) = true) ∧ (oH Tryd.prog (.fieldAddr 26 (.tmp 0) 1) 0 [v7_44] C_54 (fun v54_55 =>
 oH Tryd.prog (.load 24 (.tmp 0)) 24 [v54_55] C_54 (fun v55_56 =>
 oH Tryd.prog (.load 23 (.tmp 0)) 23 [v2_1] C_54 (fun v56_57 =>
 oH Tryd.prog (.fieldAddr 23 (.tmp 0) 2) 0 [v2_1] C_54 (fun v57_58 =>
 oH Tryd.prog (.load 3 (.tmp 0)) 3 [v57_58] C_54 (fun v58_59 =>
 pureH v53_53 C_54 (fun v59_60 =>
 ∃ S_61 : World → World → Prop, ∃ R_62 : Value → World → Prop, (∀ v w w_1, S_61 w w_1 → R_62 v w → R_62 v w_1) ∧
 (∀ w, C_54 w → (callM Tryd.prog 14 #[v56_57, v58_59, v59_60] (fun v w_1 => C_54 w_1 ∧ S_61 w w_1 ∧ R_62 v w_1) w)) ∧
 (∃ R_63 : Value → World → Prop, (∀ v w w_1, S_61 w w_1 → R_63 v w → R_63 v w_1) ∧
 (∀ w, C_54 w → ∀ v60_64, R_62 v60_64 w → (oM Tryd.prog (.buildSlice 24 1 #[(0, (.tmp 0))]) 24 [v60_64] (fun v w_1 => C_54 w_1 ∧ S_61 w w_1 ∧ R_63 v w_1) w)) ∧
 (∀ w, C_54 w → ∀ v60_65, R_62 v60_65 w → ∀ v61_66, R_63 v61_66 w → (
 oM Tryd.prog (.call (Go.Call.mk (.builtin .append) #[(.tmp 0), (.tmp 1)] #[24, 24])) 24 [v55_56, v61_66] (fun v62_67 w =>
 oM Tryd.prog (.fieldAddr 26 (.tmp 0) 1) 0 [v7_44] (fun v63_68 w =>
 oM Tryd.prog (.store 24 (.tmp 0) (.tmp 1)) 0 [v63_68, v62_67] (fun _ w =>
 oM Tryd.prog (.binOp .add 3 (.tmp 0) (.tmp 1) 3) 3 [(l_50.getD 1 undef), (.int .i64 1)] (fun v64_69 w =>
 J_48 [v53_53, v64_69] w ∧ m_49 [v53_53, v64_69] w < m_49 l_50 w0_l_50) w) w) w) w))))))))))))) w) w)
 (oM Tryd.prog (.load 26 (.tmp 0)) 26 [v7_44] (fun v65_70 w =>
 oM Tryd.prog (.store 26 (.tmp 0) (.tmp 1)) 0 [v4_3, v65_70] (fun _ w =>
 ∃ r_71, (do loadVar 26 (← asAddr v4_3) : Sem Value).run Tryd.prog w = .ok r_71 w ∧ K (.tuple #[r_71, (.bool true)]) w) w) w)) w)) w0_l_50)) w) w) w) w))))))))))))))) w) w) w) w) w) w) w) w) w) w) w) w) w) w) w) w) w) w) w) w) w) w) w) w) w) w) w
theorem sh_41_eq (a0 : Value) (a1 : Value) (K : Value → World → Prop) (w : World) : sh_41 a0 a1 K w = code Tryd.prog (fun i => bif Nat.beq i 4 then .free [0, 1, 2, 3, 4, 5] [6, 7, 8] [9] else bif Nat.beq i 8 then .free [0, 1, 2, 3, 4, 5] [6, 7] [8, 9, 10] else 0) 66 (Tryd.f41.body.getD .skip) (slotsAt [a0, a1]) (retK Tryd.prog [.cell 4 26, .tmp 5] K) w := by kernel_rfl
theorem sh_41_ok {a0 a1 : Value} {K : Value → World → Prop} {w : World} (h : sh_41 a0 a1 K w) : callM Tryd.prog 41 #[a0, a1] K w :=
  calls_of_code (fun i => bif Nat.beq i 4 then .free [0, 1, 2, 3, 4, 5] [6, 7, 8] [9] else bif Nat.beq i 8 then .free [0, 1, 2, 3, 4, 5] [6, 7] [8, 9, 10] else 0) (fn := Tryd.f41) (rs := [.cell 4 26, .tmp 5]) Tryd.func41 rfl rfl (by kernel_rfl) (Nat.le_of_ble_eq_true rfl) ((sh_41_eq a0 a1 K w).mp h)
def sh_58 (a0 : Value) (a1 : Value) (K : Value → World → Prop) (w : World) : Prop :=
 oM Tryd.prog (.binOp .lss 3 (.tmp 0) (.tmp 1) 3) 4 [a0, (.int .i64 1)] (fun v5_1 w =>
 gdM (gd v5_1 false) (pureM a0) (fun v7_2 w =>
 gdM (gd v5_1 false) (oM Tryd.prog (.fieldAddr 23 (.tmp 0) 1) 0 [a1]) (fun v8_3 w =>
 gdM (gd v5_1 false) (oM Tryd.prog (.load 3 (.tmp 0)) 3 [v8_3]) (fun v9_4 w =>
 gdM (gd v5_1 false) (oM Tryd.prog (.binOp .geq 3 (.tmp 0) (.tmp 1) 3) 4 [v7_2, v9_4]) (fun v10_5 w =>
 oM Tryd.prog (.pick (.tmp 0) (.tmp 1) (.tmp 2)) 4 [v5_1, (.bool true), v10_5] (fun v11_6 w =>
 K v11_6 w) w) w) w) w) w) w
theorem sh_58_eq (a0 : Value) (a1 : Value) (K : Value → World → Prop) (w : World) : sh_58 a0 a1 K w = code Tryd.prog (fun _ => 0) 12 (Tryd.f58.body.getD .skip) (slotsAt [a0, a1]) (retK Tryd.prog [.tmp 3] K) w := by kernel_rfl
theorem sh_58_ok {a0 a1 : Value} {K : Value → World → Prop} {w : World} (h : sh_58 a0 a1 K w) : callM Tryd.prog 58 #[a0, a1] K w :=
  calls_of_code (fun _ => 0) (fn := Tryd.f58) (rs := [.tmp 3]) Tryd.func58 rfl rfl (by kernel_rfl) (Nat.le_of_ble_eq_true rfl) ((sh_58_eq a0 a1 K w).mp h)
end Go.Proofs
set_option linter.unusedVariables false
set_option maxRecDepth 100000
namespace Go.Proofs
open Go.Sh
def sh_17 (a0 : Value) (K : Value → World → Prop) (w : World) : Prop :=
 oM Tryd.prog (.box 49 (.tmp 0)) 0 [a0] (fun v1_1 w =>
 oM Tryd.prog (.fieldAddr 49 (.tmp 0) 1) 0 [v1_1] (fun v3_2 w =>
 oM Tryd.prog (.fieldAddr 45 (.tmp 0) 0) 0 [v3_2] (fun v4_3 w =>
 oM Tryd.prog (.load 24 (.tmp 0)) 24 [v4_3] (fun v5_4 w =>
 oM Tryd.prog (.call (Go.Call.mk (.builtin .len) #[(.tmp 0)] #[24])) 3 [v5_4] (fun v6_5 w =>
 oM Tryd.prog (.binOp .leq 3 (.tmp 0) (.tmp 1) 3) 4 [v6_5, (.int .i64 9)] (fun v7_6 w =>
 gdM (gd v7_6 true) (oM Tryd.prog (.fieldAddr 49 (.tmp 0) 4) 0 [v1_1]) (fun v9_7 w =>
 gdM (gd v7_6 true) (oM Tryd.prog (.load 24 (.tmp 0)) 24 [v9_7]) (fun v10_8 w =>
 gdM (gd v7_6 true) (oM Tryd.prog (.call (Go.Call.mk (.builtin .len) #[(.tmp 0)] #[24])) 3 [v10_8]) (fun v11_9 w =>
 gdM (gd v7_6 true) (oM Tryd.prog (.binOp .leq 3 (.tmp 0) (.tmp 1) 3) 4 [v11_9, (.int .i64 9)]) (fun v12_10 w =>
 oM Tryd.prog (.pick (.tmp 0) (.tmp 1) (.tmp 2)) 4 [v7_6, v12_10, (.bool false)] (fun v13_11 w =>
 gdM (gd v13_11 true) (oM Tryd.prog (.fieldAddr 49 (.tmp 0) 5) 0 [v1_1]) (fun v15_12 w =>
 gdM (gd v13_11 true) (oM Tryd.prog (.fieldAddr 47 (.tmp 0) 3) 0 [v15_12]) (fun v16_13 w =>
 gdM (gd v13_11 true) (oM Tryd.prog (.load 24 (.tmp 0)) 24 [v16_13]) (fun v17_14 w =>
 gdM (gd v13_11 true) (oM Tryd.prog (.call (Go.Call.mk (.builtin .len) #[(.tmp 0)] #[24])) 3 [v17_14]) (fun v18_15 w =>
 gdM (gd v13_11 true) (oM Tryd.prog (.binOp .leq 3 (.tmp 0) (.tmp 1) 3) 4 [v18_15, (.int .i64 9)]) (fun v19_16 w =>
 oM Tryd.prog (.pick (.tmp 0) (.tmp 1) (.tmp 2)) 4 [v13_11, v19_16, (.bool false)] (fun v20_17 w =>
 K v20_17 w) w) w) w) w) w) w) w) w) w) w) w) w) w) w) w) w) w
theorem sh_17_eq (a0 : Value) (K : Value → World → Prop) (w : World) : sh_17 a0 K w = code Tryd.prog (fun _ => 0) 21 (Tryd.f17.body.getD .skip) (slotsAt [a0]) (retK Tryd.prog [.tmp 2] K) w := by kernel_rfl
theorem sh_17_ok {a0 : Value} {K : Value → World → Prop} {w : World} (h : sh_17 a0 K w) : callM Tryd.prog 17 #[a0] K w :=
  calls_of_code (fun _ => 0) (fn := Tryd.f17) (rs := [.tmp 2]) Tryd.func17 rfl rfl (by kernel_rfl) (Nat.le_of_ble_eq_true rfl) ((sh_17_eq a0 K w).mp h)
def sh_16 (a0 : Value) (K : Value → World → Prop) (w : World) : Prop :=
 oM Tryd.prog (.box 49 (.tmp 0)) 0 [a0] (fun v1_1 w =>
 oM Tryd.prog (.alloc 26) 0 [] (fun v2_2 w =>
 oM Tryd.prog (.fieldAddr 49 (.tmp 0) 0) 0 [v1_1] (fun v9_3 w =>
 oM Tryd.prog (.load 3 (.tmp 0)) 3 [v9_3] (fun v10_4 w =>
 callM Tryd.prog 40 #[v10_4] (fun v11_5 w =>
 oM Tryd.prog (.extract (.tmp 0) 0) 23 [v11_5] (fun v12_6 w =>
 oM Tryd.prog (.extract (.tmp 0) 1) 4 [v11_5] (fun v13_7 w =>
 oM Tryd.prog (.alloc 23) 0 [] (fun v4_8 w =>
 oM Tryd.prog (.store 23 (.tmp 0) (.tmp 1)) 0 [v4_8, v12_6] (fun _ w =>
 oM Tryd.prog (.unOp .not 4 (.tmp 0)) 4 [v13_7] (fun v15_9 w =>
 condM v15_9
 (oM Tryd.prog (.build 26 #[]) 26 [] (fun v16_10 w =>
 oM Tryd.prog (.store 26 (.tmp 0) (.tmp 1)) 0 [v2_2, v16_10] (fun _ w =>
 ∃ r_11, (do loadVar 26 (← asAddr v2_2) : Sem Value).run Tryd.prog w = .ok r_11 w ∧ K (.tuple #[r_11, (.bool false)]) w) w) w)
 (oM Tryd.prog (.load 23 (.tmp 0)) 23 [v4_8] (fun v18_12 w =>
 oM Tryd.prog (.fieldAddr 49 (.tmp 0) 1) 0 [v1_1] (fun v19_13 w =>
 oM Tryd.prog (.load 45 (.tmp 0)) 45 [v19_13] (fun v20_14 w =>
 callM Tryd.prog 41 #[v18_12, v20_14] (fun v21_15 w =>
 oM Tryd.prog (.extract (.tmp 0) 0) 26 [v21_15] (fun v22_16 w =>
 oM Tryd.prog (.extract (.tmp 0) 1) 4 [v21_15] (fun v23_17 w =>
 oM Tryd.prog (.alloc 26) 0 [] (fun v6_18 w =>
 oM Tryd.prog (.store 26 (.tmp 0) (.tmp 1)) 0 [v6_18, v22_16] (fun _ w =>
 oM Tryd.prog (.load 26 (.tmp 0)) 26 [v6_18] (fun v24_19 w =>
 oM Tryd.prog (.store 26 (.tmp 0) (.tmp 1)) 0 [v2_2, v24_19] (fun _ w =>
 ∃ r_20, (do loadVar 26 (← asAddr v2_2) : Sem Value).run Tryd.prog w = .ok r_20 w ∧ K (.tuple #[r_20, v23_17]) w) w) w) w) w) w) w) w) w) w) w)) w) w) w) w) w) w) w) w) w) w
theorem sh_16_eq (a0 : Value) (K : Value → World → Prop) (w : World) : sh_16 a0 K w = code Tryd.prog (fun _ => 0) 26 (Tryd.f16.body.getD .skip) (slotsAt [a0]) (retK Tryd.prog [.cell 2 26, .tmp 3] K) w := by kernel_rfl
theorem sh_16_ok {a0 : Value} {K : Value → World → Prop} {w : World} (h : sh_16 a0 K w) : callM Tryd.prog 16 #[a0] K w :=
  calls_of_code (fun _ => 0) (fn := Tryd.f16) (rs := [.cell 2 26, .tmp 3]) Tryd.func16 rfl rfl (by kernel_rfl) (Nat.le_of_ble_eq_true rfl) ((sh_16_eq a0 K w).mp h)
end Go.Proofs
set_option linter.unusedVariables false
set_option maxRecDepth 100000
namespace Go.Proofs
open Go.Sh
def sh_4 (a0 : Value) (K : Value → World → Prop) (w : World) : Prop :=
 oM Tryd.prog (.box 49 (.tmp 0)) 0 [a0] (fun v1_1 w =>
 callM Tryd.prog 5 #[] (fun v11_2 w =>
 oM Tryd.prog (.load 49 (.tmp 0)) 49 [v1_1] (fun v13_3 w =>
 callM Tryd.prog 16 #[v13_3] (fun v14_4 w =>
 oM Tryd.prog (.extract (.tmp 0) 0) 26 [v14_4] (fun v15_5 w =>
 oM Tryd.prog (.extract (.tmp 0) 1) 4 [v14_4] (fun v16_6 w =>
 oM Tryd.prog (.alloc 26) 0 [] (fun v4_7 w =>
 oM Tryd.prog (.store 26 (.tmp 0) (.tmp 1)) 0 [v4_7, v15_5] (fun _ w =>
 oM Tryd.prog (.load 49 (.tmp 0)) 49 [v1_1] (fun v17_8 w =>
 callM Tryd.prog 17 #[v17_8] (fun v18_9 w =>
 oM Tryd.prog (.unOp .not 4 (.tmp 0)) 4 [v18_9] (fun v19_10 w =>
 gdM (gd v19_10 false) (pureM v16_6) (fun v21_11 w =>
 gdM (gd v19_10 false) (oM Tryd.prog (.unOp .not 4 (.tmp 0)) 4 [v21_11]) (fun v22_12 w =>
 oM Tryd.prog (.pick (.tmp 0) (.tmp 1) (.tmp 2)) 4 [v19_10, (.bool true), v22_12] (fun v23_13 w =>
 condM v23_13
 (K v11_2 w)
 (oM Tryd.prog (.fieldAddr 49 (.tmp 0) 4) 0 [v1_1] (fun v25_14 w =>
 oM Tryd.prog (.load 24 (.tmp 0)) 24 [v25_14] (fun v26_15 w =>
 oM Tryd.prog (.call (Go.Call.mk (.builtin .len) #[(.tmp 0)] #[24])) 3 [v26_15] (fun v27_16 w =>
 oM Tryd.prog (.fieldAddr 49 (.tmp 0) 1) 0 [v1_1] (fun v28_17 w =>
 oM Tryd.prog (.fieldAddr 45 (.tmp 0) 0) 0 [v28_17] (fun v29_18 w =>
 oM Tryd.prog (.load 24 (.tmp 0)) 24 [v29_18] (fun v30_19 w =>
 oM Tryd.prog (.call (Go.Call.mk (.builtin .len) #[(.tmp 0)] #[24])) 3 [v30_19] (fun v31_20 w =>
 oM Tryd.prog (.binOp .sub 3 (.tmp 0) (.tmp 1) 3) 3 [v31_20, (.int .i64 1)] (fun v32_21 w =>
 oM Tryd.prog (.binOp .eql 3 (.tmp 0) (.tmp 1) 3) 4 [v27_16, v32_21] (fun v33_22 w =>
 loopM [v33_22, (.int .i64 0)] w (fun J_23 m_24 l_25 u_l_25 w0_l_25 => (fun w => (
 oM Tryd.prog (.fieldAddr 49 (.tmp 0) 4) 0 [v1_1] (fun v35_26 w =>
 oM Tryd.prog (.load 24 (.tmp 0)) 24 [v35_26] (fun v36_27 w =>
 oM Tryd.prog (.call (Go.Call.mk (.builtin .len) #[(.tmp 0)] #[24])) 3 [v36_27] (fun v37_28 w =>
 oM Tryd.prog (.binOp .lss 3 (.tmp 0) (.tmp 1) 3) 4 [(l_25.getD 1 undef), v37_28] (fun v38_29 w =>
 condM v38_29
 (heldM w (fun C_30 w => (((true : Bool) = true) ∧ (pureH (l_25.getD 0 undef) C_30 (fun v41_31 =>
 pureH v41_31 C_30 (fun v42_32 =>
 gdH (gd v42_32 true) (oH Tryd.prog (.fieldAddr 49 (.tmp 0) 4) 0 [v1_1]) C_30 (fun v43_33 =>
 gdH (gd v42_32 true) (oH Tryd.prog (.load 24 (.tmp 0)) 24 [v43_33]) C_30 (fun v44_34 =>
 gdH (gd v42_32 true) (pureH (l_25.getD 1 undef)) C_30 (fun v45_35 =>
 gdH (gd v42_32 true) (oH Tryd.prog (.indexAddr 24 (.tmp 0) (.tmp 1)) 0 [v44_34, v45_35]) C_30 (fun v46_36 =>
 gdH (gd v42_32 true) (oH Tryd.prog (.load 3 (.tmp 0)) 3 [v46_36]) C_30 (fun v47_37 =>
 gdH (gd v42_32 true) (oH Tryd.prog (.binOp .geq 3 (.tmp 0) (.tmp 1) 3) 4 [v47_37, (.int .i64 0)]) C_30 (fun v48_38 =>
 oH Tryd.prog (.pick (.tmp 0) (.tmp 1) (.tmp 2)) 4 [v42_32, v48_38, (.bool false)] C_30 (fun v49_39 =>
 pureH v49_39 C_30 (fun v50_40 =>
 gdH (gd v50_40 true) (oH Tryd.prog (.fieldAddr 49 (.tmp 0) 4) 0 [v1_1]) C_30 (fun v51_41 =>
 gdH (gd v50_40 true) (oH Tryd.prog (.load 24 (.tmp 0)) 24 [v51_41]) C_30 (fun v52_42 =>
 gdH (gd v50_40 true) (pureH (l_25.getD 1 undef)) C_30 (fun v53_43 =>
 gdH (gd v50_40 true) (oH Tryd.prog (.indexAddr 24 (.tmp 0) (.tmp 1)) 0 [v52_42, v53_43]) C_30 (fun v54_44 =>
 gdH (gd v50_40 true) (oH Tryd.prog (.load 3 (.tmp 0)) 3 [v54_44]) C_30 (fun v55_45 =>
 gdH (gd v50_40 true) (oH Tryd.prog (.fieldAddr 49 (.tmp 0) 0) 0 [v1_1]) C_30 (fun v56_46 =>
 gdH (gd v50_40 true) (oH Tryd.prog (.load 3 (.tmp 0)) 3 [v56_46]) C_30 (fun v57_47 =>
 gdH (gd v50_40 true) (oH Tryd.prog (.binOp .lss 3 (.tmp 0) (.tmp 1) 3) 4 [v55_45, v57_47]) C_30 (fun v58_48 =>
 oH Tryd.prog (.pick (.tmp 0) (.tmp 1) (.tmp 2)) 4 [v50_40, v58_48, (.bool false)] C_30 (fun v59_49 =>
 pureH v59_49 C_30 (fun v60_50 =>
 gdH (gd v60_50 true) (pureH (l_25.getD 1 undef)) C_30 (fun v61_51 =>
 gdH (gd v60_50 true) (oH Tryd.prog (.binOp .gtr 3 (.tmp 0) (.tmp 1) 3) 4 [v61_51, (.int .i64 0)]) C_30 (fun v62_52 =>
 gdH (gd v60_50 true) (pureH v62_52) C_30 (fun v63_53 =>
 gdH (gd v63_53 false) (oH Tryd.prog (.fieldAddr 49 (.tmp 0) 4) 0 [v1_1]) C_30 (fun v64_54 =>
 gdH (gd v63_53 false) (oH Tryd.prog (.load 24 (.tmp 0)) 24 [v64_54]) C_30 (fun v65_55 =>
 gdH (gd v63_53 false) (pureH (l_25.getD 1 undef)) C_30 (fun v66_56 =>
 gdH (gd v63_53 false) (oH Tryd.prog (.indexAddr 24 (.tmp 0) (.tmp 1)) 0 [v65_55, v66_56]) C_30 (fun v67_57 =>
 gdH (gd v63_53 false) (oH Tryd.prog (.load 3 (.tmp 0)) 3 [v67_57]) C_30 (fun v68_58 =>
 gdH (gd v63_53 false) (oH Tryd.prog (.binOp .gtr 3 (.tmp 0) (.tmp 1) 3) 4 [v68_58, (.int .i64 0)]) C_30 (fun v69_59 =>
 gdH (gd v60_50 true) (oH Tryd.prog (.pick (.tmp 0) (.tmp 1) (.tmp 2)) 4 [v63_53, (.bool true), v69_59]) C_30 (fun v70_60 =>
 oH Tryd.prog (.pick (.tmp 0) (.tmp 1) (.tmp 2)) 4 [v60_50, v70_60, (.bool false)] C_30 (fun v71_61 =>
 ∃ S_62 : World → World → Prop, ∀ w, C_30 w → (
 oM Tryd.prog (.binOp .add 3 (.tmp 0) (.tmp 1) 3) 3 [(l_25.getD 1 undef), (.int .i64 1)] (fun v40_63 w =>
 J_23 [v71_61, v40_63] w ∧ m_24 [v71_61, v40_63] w < m_24 l_25 w0_l_25) w))))))))))))))))))))))))))))))))))))
 (oM Tryd.prog (.unOp .not 4 (.tmp 0)) 4 [(l_25.getD 0 undef)] (fun v73_64 w =>
 condM v73_64
 (gdM (gd v11_2 true) (oM Tryd.prog (.load 26 (.tmp 0)) 26 [v4_7]) (fun v76_65 w =>
 gdM (gd v11_2 true) (oM Tryd.prog (.fieldAddr 49 (.tmp 0) 4) 0 [v1_1]) (fun v77_66 w =>
 gdM (gd v11_2 true) (oM Tryd.prog (.load 24 (.tmp 0)) 24 [v77_66]) (fun v78_67 w =>
 gdM (gd v11_2 true) (callM Tryd.prog 18 #[v76_65, v78_67]) (fun v79_68 w =>
 gdM (gd v11_2 true) (oM Tryd.prog (.binOp .eql 3 (.tmp 0) (.const (.int .i64 0)) 3) 4 [v79_68]) (fun v80_69 w =>
 oM Tryd.prog (.pick (.tmp 0) (.tmp 1) (.tmp 2)) 4 [v11_2, v80_69, (.bool false)] (fun v81_70 w =>
 gdM (gd v81_70 true) (oM Tryd.prog (.load 26 (.tmp 0)) 26 [v4_7]) (fun v83_71 w =>
 gdM (gd v81_70 true) (oM Tryd.prog (.fieldAddr 49 (.tmp 0) 4) 0 [v1_1]) (fun v84_72 w =>
 gdM (gd v81_70 true) (oM Tryd.prog (.load 24 (.tmp 0)) 24 [v84_72]) (fun v85_73 w =>
 gdM (gd v81_70 true) (callM Tryd.prog 19 #[v83_71, v85_73]) (fun v86_74 w =>
 gdM (gd v81_70 true) (oM Tryd.prog (.unOp .not 4 (.tmp 0)) 4 [v86_74]) (fun v87_75 w =>
 oM Tryd.prog (.pick (.tmp 0) (.tmp 1) (.tmp 2)) 4 [v81_70, v87_75, (.bool false)] (fun v88_76 w =>
 K v88_76 w) w) w) w) w) w) w) w) w) w) w) w) w)
 (oM Tryd.prog (.fieldAddr 49 (.tmp 0) 4) 0 [v1_1] (fun v89_77 w =>
 oM Tryd.prog (.load 24 (.tmp 0)) 24 [v89_77] (fun v90_78 w =>
 callM Tryd.prog 10 #[v90_78] (fun v91_79 w =>
 loopM [(.int .i64 0), (.int .i64 0)] w (fun J_80 m_81 l_82 u_l_82 w0_l_82 => (fun w => (
 oM Tryd.prog (.call (Go.Call.mk (.builtin .len) #[(.tmp 0)] #[24])) 3 [v91_79] (fun v94_83 w =>
 oM Tryd.prog (.binOp .lss 3 (.tmp 0) (.tmp 1) 3) 4 [(l_82.getD 1 undef), v94_83] (fun v95_84 w =>
 gdM (gd v95_84 true) (pureM (l_82.getD 1 undef)) (fun v97_85 w =>
 gdM (gd v95_84 true) (oM Tryd.prog (.fieldAddr 49 (.tmp 0) 1) 0 [v1_1]) (fun v98_86 w =>
 gdM (gd v95_84 true) (oM Tryd.prog (.fieldAddr 45 (.tmp 0) 0) 0 [v98_86]) (fun v99_87 w =>
 gdM (gd v95_84 true) (oM Tryd.prog (.load 24 (.tmp 0)) 24 [v99_87]) (fun v100_88 w =>
 gdM (gd v95_84 true) (oM Tryd.prog (.call (Go.Call.mk (.builtin .len) #[(.tmp 0)] #[24])) 3 [v100_88]) (fun v101_89 w =>
 gdM (gd v95_84 true) (oM Tryd.prog (.binOp .lss 3 (.tmp 0) (.tmp 1) 3) 4 [v97_85, v101_89]) (fun v102_90 w =>
 oM Tryd.prog (.pick (.tmp 0) (.tmp 1) (.tmp 2)) 4 [v95_84, v102_90, (.bool false)] (fun v103_91 w =>
 condM v103_91
 (heldM w (fun C_92 w => (((true : Bool) = true) ∧ (oH Tryd.prog (.fieldAddr 49 (.tmp 0) 0) 0 [v1_1] C_92 (fun v106_93 =>
 oH Tryd.prog (.load 3 (.tmp 0)) 3 [v106_93] C_92 (fun v107_94 =>
 pureH (l_82.getD 0 undef) C_92 (fun v108_95 =>
 oH Tryd.prog (.fieldAddr 49 (.tmp 0) 0) 0 [v1_1] C_92 (fun v109_96 =>
 oH Tryd.prog (.load 3 (.tmp 0)) 3 [v109_96] C_92 (fun v110_97 =>
 pureH v91_79 C_92 (fun v111_98 =>
 pureH (l_82.getD 1 undef) C_92 (fun v112_99 =>
 oH Tryd.prog (.indexAddr 24 (.tmp 0) (.tmp 1)) 0 [v111_98, v112_99] C_92 (fun v113_100 =>
 oH Tryd.prog (.load 3 (.tmp 0)) 3 [v113_100] C_92 (fun v114_101 =>
 oH Tryd.prog (.fieldAddr 49 (.tmp 0) 1) 0 [v1_1] C_92 (fun v115_102 =>
 oH Tryd.prog (.fieldAddr 45 (.tmp 0) 0) 0 [v115_102] C_92 (fun v116_103 =>
 oH Tryd.prog (.load 24 (.tmp 0)) 24 [v116_103] C_92 (fun v117_104 =>
 pureH (l_82.getD 1 undef) C_92 (fun v118_105 =>
 oH Tryd.prog (.indexAddr 24 (.tmp 0) (.tmp 1)) 0 [v117_104, v118_105] C_92 (fun v119_106 =>
 oH Tryd.prog (.load 3 (.tmp 0)) 3 [v119_106] C_92 (fun v120_107 =>
 ∃ S_108 : World → World → Prop, ∃ R_109 : Value → World → Prop, (∀ v w w_1, S_108 w w_1 → R_109 v w → R_109 v w_1) ∧
 (∀ w, C_92 w → (callM Tryd.prog 13 #[v110_97, v114_101, v120_107] (fun v w_1 => C_92 w_1 ∧ S_108 w w_1 ∧ R_109 v w_1) w)) ∧
 (∀ w, C_92 w → ∀ v121_110, R_109 v121_110 w → (
 callM Tryd.prog 20 #[v107_94, v108_95, v121_110] (fun v122_111 w =>
 oM Tryd.prog (.binOp .add 3 (.tmp 0) (.tmp 1) 3) 3 [(l_82.getD 1 undef), (.int .i64 1)] (fun v105_112 w =>
 J_80 [v122_111, v105_112] w ∧ m_81 [v122_111, v105_112] w < m_81 l_82 w0_l_82) w) w)))))))))))))))))))))
 (heldM w (fun C_113 w => (((true : Bool) = true) ∧ (pureH v11_2 C_113 (fun v123_114 =>
 pureH v123_114 C_113 (fun v124_115 =>
 gdH (gd v124_115 true) (oH Tryd.prog (.load 26 (.tmp 0)) 26 [v4_7]) C_113 (fun v125_116 =>
 gdH (gd v124_115 true) (oH Tryd.prog (.fieldAddr 49 (.tmp 0) 4) 0 [v1_1]) C_113 (fun v126_117 =>
 gdH (gd v124_115 true) (oH Tryd.prog (.load 24 (.tmp 0)) 24 [v126_117]) C_113 (fun v127_118 =>
 gdH (gd v124_115 true) (oH Tryd.prog (.fieldAddr 26 (.tmp 0) 0) 0 [v4_7]) C_113 (fun v129_119 =>
 gdH (gd v124_115 true) (oH Tryd.prog (.load 23 (.tmp 0)) 23 [v129_119]) C_113 (fun v130_120 =>
 gdH (gd v124_115 true) (oH Tryd.prog (.fieldAddr 26 (.tmp 0) 0) 0 [v4_7]) C_113 (fun v131_121 =>
 gdH (gd v124_115 true) (oH Tryd.prog (.fieldAddr 23 (.tmp 0) 2) 0 [v131_121]) C_113 (fun v132_122 =>
 gdH (gd v124_115 true) (oH Tryd.prog (.load 3 (.tmp 0)) 3 [v132_122]) C_113 (fun v133_123 =>
 gdH (gd v124_115 true) (pureH (l_82.getD 0 undef)) C_113 (fun v134_124 =>
 ∃ S_125 : World → World → Prop, ∃ R_126 : Value → World → Prop, (∀ v w w_1, S_125 w w_1 → R_126 v w → R_126 v w_1) ∧
 (∀ w, C_113 w → (gdM (gd v124_115 true) (callM Tryd.prog 18 #[v125_116, v127_118]) (fun v w_1 => C_113 w_1 ∧ S_125 w w_1 ∧ R_126 v w_1) w)) ∧
 (∃ R_127 : Value → World → Prop, (∀ v w w_1, S_125 w w_1 → R_127 v w → R_127 v w_1) ∧
 (∀ w, C_113 w → (gdM (gd v124_115 true) (callM Tryd.prog 14 #[v130_120, v133_123, v134_124]) (fun v w_1 => C_113 w_1 ∧ S_125 w w_1 ∧ R_127 v w_1) w)) ∧
 (∃ R_128 : Value → World → Prop, (∀ v w w_1, S_125 w w_1 → R_128 v w → R_128 v w_1) ∧
 (∀ w, C_113 w → ∀ v128_129, R_126 v128_129 w → ∀ v135_130, R_127 v135_130 w → (gdM (gd v124_115 true) (oM Tryd.prog (.binOp .eql 3 (.tmp 0) (.tmp 1) 3) 4 [v128_129, v135_130]) (fun v w_1 => C_113 w_1 ∧ S_125 w w_1 ∧ R_128 v w_1) w)) ∧
 (∃ R_131 : Value → World → Prop, (∀ v w w_1, S_125 w w_1 → R_131 v w → R_131 v w_1) ∧
 (∀ w, C_113 w → ∀ v136_132, R_128 v136_132 w → (oM Tryd.prog (.pick (.tmp 0) (.tmp 1) (.tmp 2)) 4 [v124_115, v136_132, (.bool false)] (fun v w_1 => C_113 w_1 ∧ S_125 w w_1 ∧ R_131 v w_1) w)) ∧
 (∃ R_133 : Value → World → Prop, (∀ v w w_1, S_125 w w_1 → R_133 v w → R_133 v w_1) ∧
 (∀ w, C_113 w → ∀ v137_134, R_131 v137_134 w → (C_113 w ∧ S_125 w w ∧ R_133 v137_134 w)) ∧
 (∃ R_135 : Value → World → Prop, (∀ v w w_1, S_125 w w_1 → R_135 v w → R_135 v w_1) ∧
 (∀ w, C_113 w → ∀ v138_136, R_133 v138_136 w → (gdM (gd v138_136 true) (oM Tryd.prog (.load 26 (.tmp 0)) 26 [v4_7]) (fun v w_1 => C_113 w_1 ∧ S_125 w w_1 ∧ R_135 v w_1) w)) ∧
 (∃ R_137 : Value → World → Prop, (∀ v w w_1, S_125 w w_1 → R_137 v w → R_137 v w_1) ∧
 (∀ w, C_113 w → ∀ v138_138, R_133 v138_138 w → (gdM (gd v138_138 true) (oM Tryd.prog (.fieldAddr 49 (.tmp 0) 4) 0 [v1_1]) (fun v w_1 => C_113 w_1 ∧ S_125 w w_1 ∧ R_137 v w_1) w)) ∧
 (∃ R_139 : Value → World → Prop, (∀ v w w_1, S_125 w w_1 → R_139 v w → R_139 v w_1) ∧
 (∀ w, C_113 w → ∀ v138_140, R_133 v138_140 w → ∀ v140_141, R_137 v140_141 w → (gdM (gd v138_140 true) (oM Tryd.prog (.load 24 (.tmp 0)) 24 [v140_141]) (fun v w_1 => C_113 w_1 ∧ S_125 w w_1 ∧ R_139 v w_1) w)) ∧
 (∃ R_142 : Value → World → Prop, (∀ v w w_1, S_125 w w_1 → R_142 v w → R_142 v w_1) ∧
 (∀ w, C_113 w → ∀ v138_143, R_133 v138_143 w → ∀ v139_144, R_135 v139_144 w → ∀ v141_145, R_139 v141_145 w → (gdM (gd v138_143 true) (callM Tryd.prog 19 #[v139_144, v141_145]) (fun v w_1 => C_113 w_1 ∧ S_125 w w_1 ∧ R_142 v w_1) w)) ∧
 (∃ R_146 : Value → World → Prop, (∀ v w w_1, S_125 w w_1 → R_146 v w → R_146 v w_1) ∧
 (∀ w, C_113 w → ∀ v138_147, R_133 v138_147 w → (gdM (gd v138_147 true) (pureM (l_82.getD 0 undef)) (fun v w_1 => C_113 w_1 ∧ S_125 w w_1 ∧ R_146 v w_1) w)) ∧
 (∃ R_148 : Value → World → Prop, (∀ v w w_1, S_125 w w_1 → R_148 v w → R_148 v w_1) ∧
 (∀ w, C_113 w → ∀ v138_149, R_133 v138_149 w → ∀ v143_150, R_146 v143_150 w → (gdM (gd v138_149 true) (oM Tryd.prog (.binOp .neq 3 (.tmp 0) (.const (.int .i64 0)) 3) 4 [v143_150]) (fun v w_1 => C_113 w_1 ∧ S_125 w w_1 ∧ R_148 v w_1) w)) ∧
 (∀ w, C_113 w → ∀ v128_151, R_126 v128_151 w → ∀ v135_152, R_127 v135_152 w → ∀ v136_153, R_128 v136_153 w → ∀ v137_154, R_131 v137_154 w → ∀ v138_155, R_133 v138_155 w → ∀ v139_156, R_135 v139_156 w → ∀ v140_157, R_137 v140_157 w → ∀ v141_158, R_139 v141_158 w → ∀ v142_159, R_142 v142_159 w → ∀ v143_160, R_146 v143_160 w → ∀ v144_161, R_148 v144_161 w → (
 gdM (gd v138_155 true) (oM Tryd.prog (.binOp .eql 4 (.tmp 0) (.tmp 1) 4) 4 [v142_159, v144_161]) (fun v145_162 w =>
 oM Tryd.prog (.pick (.tmp 0) (.tmp 1) (.tmp 2)) 4 [v138_155, v145_162, (.bool false)] (fun v146_163 w =>
 K v146_163 w) w) w)))))))))))))))))))))))))))) w) w) w) w) w) w) w) w) w)) w0_l_82)) w) w) w)) w)) w) w) w) w)) w0_l_25)) w) w) w) w) w) w) w) w) w)) w) w) w) w) w) w) w) w) w) w) w) w) w) w
theorem sh_4_eq (a0 : Value) (K : Value → World → Prop) (w : World) : sh_4 a0 K w = code Tryd.prog (fun i => bif Nat.beq i 9 then .free [0, 1, 2, 3, 4, 5, 6, 7, 8, 9, 10, 11, 12, 13, 14, 15, 16, 17, 18, 19, 20, 21, 22, 23, 24, 25, 26, 27, 28, 29, 30] [] [31] else bif Nat.beq i 17 then .free [0, 1, 2, 3, 4, 5, 6, 7, 8, 9, 10, 11, 12, 13, 14] [15] [16, 17] else bif Nat.beq i 18 then .free [0, 1, 2, 3, 4, 6, 7, 8, 9, 10, 11] [5, 12, 13, 14, 15, 16, 17, 18, 19, 20, 21] [22, 23, 24] else 0) 147 (Tryd.f4.body.getD .skip) (slotsAt [a0]) (retK Tryd.prog [.tmp 2] K) w := by kernel_rfl
theorem sh_4_ok {a0 : Value} {K : Value → World → Prop} {w : World} (h : sh_4 a0 K w) : callM Tryd.prog 4 #[a0] K w :=
  calls_of_code (fun i => bif Nat.beq i 9 then .free [0, 1, 2, 3, 4, 5, 6, 7, 8, 9, 10, 11, 12, 13, 14, 15, 16, 17, 18, 19, 20, 21, 22, 23, 24, 25, 26, 27, 28, 29, 30] [] [31] else bif Nat.beq i 17 then .free [0, 1, 2, 3, 4, 5, 6, 7, 8, 9, 10, 11, 12, 13, 14] [15] [16, 17] else bif Nat.beq i 18 then .free [0, 1, 2, 3, 4, 6, 7, 8, 9, 10, 11] [5, 12, 13, 14, 15, 16, 17, 18, 19, 20, 21] [22, 23, 24] else 0) (fn := Tryd.f4) (rs := [.tmp 2]) Tryd.func4 rfl rfl (by kernel_rfl) (Nat.le_of_ble_eq_true rfl) ((sh_4_eq a0 K w).mp h)
end Go.Proofs
namespace Go.Proofs
open Go Go.Sh Go.RowKit FdSpec TkSpec CodeSpec
set_option linter.unusedSimpArgs false
set_option linter.unusedVariables false
set_option maxRecDepth 10000
section
variable {K : Value → World → Prop} {w w0 : World} {L : List (Addr × Value)}
structure GrI (Wl w : World) (g : Nat) (T : TypeId) (cs : List Value) (ov : Value) (l : List Int) : Prop where
  lt : g < Wl.heap.size
  fr : FrG g Wl w
  own : OwnI w Wl.heap.size ov l
  holds : Holds w g T cs
theorem GrI.next {Wl w1 : World} {g : Nat} {T : TypeId} {cs : List Value} {ov : Value} {l : List Int} (h : GrI Wl w g T cs ov l) (hb : Below w.heap.size w w1) : GrI Wl w1 g T cs ov l :=
  ⟨h.lt, h.fr.next hb, h.own.keep hb, h.holds.next hb⟩
theorem GrI.start {g : Nat} {T : TypeId} {cs : List Value} (hg : g < w.heap.size) (hh : Holds w g T cs) : GrI w w g T cs (.slice none 0 0) [] := ⟨hg, Fr.refl _ _, World.ownsRow_nil _ _ _ _, hh⟩
theorem gr_append {Wl : World} {g : Nat} {T T3 : TypeId} {cs : List Value} {ov xv : Value} {l : List Int} {x : Int} (h : GrI Wl w g T cs ov l) (hx : Ints w xv [x]) (hl : l.length < 1099511627776)
    (k : ∀ ad n c w', GrI Wl w' g T cs (.slice ad n c) (l ++ [x]) → K (.slice ad n c) w') : oM Tryd.prog (.call { callee := .builtin .append, args := #[.tmp 0, .tmp 1], argTypes := #[24, 24] }) T3 [ov, xv] K w := by
  refine append1 h.own h.fr.size hx hl (fun v w' ho hb => ?_)
  obtain ⟨ad, c, rfl⟩ := owns_len ho
  have hlt := h.lt
  refine k _ _ _ _ ⟨h.lt, h.fr.trans (S' := fun i => Wl.heap.size ≤ i) ⟨hb.os, hb.tape, hb.output, hb.size, fun i hi hn => hb.block i (by omega)⟩ (fun i h => .inr h), ho, ?_⟩
  have := h.holds
  unfold Holds at this ⊢
  rw [hb.block g hlt]
  exact this
theorem gr_store {Wl : World} {g i : Nat} {T T3 : TypeId} {cs : List Value} {l : List Int} {ad : Option Addr} {n c : Nat} (h : GrI Wl w g T cs (.slice ad n c) l) (hi : i < cs.length)
    (k : ∀ w', GrI Wl w' g T (cs.set i (.slice ad n c)) (.slice ad n c) l → K undef w') : oM Tryd.prog (.store 24 (.tmp 0) (.tmp 1)) T3 [ptr g i, .slice ad n c] K w := by
  refine arr_set sz_ints rfl rfl h.holds hi (fun w' hg hh => ?_)
  have hlt := h.lt
  exact k _ ⟨h.lt, h.fr.by hg (fun i e => .inl (Option.some.inj e).symm), owns_keep h.own (fun j hj => hg.block j (owns_own h.own hj).1 (fun e => by have := (owns_own h.own hj).2.1; have := Option.some.inj e; omega)), hh⟩
def GrJ (Wl : World) (g : Nat) (T : TypeId) (cs : Value → List Value) (al : List Int) (vs : List Value) (w' : World) : Prop := ∃ (v ov : Value) (i : Nat), vs = [v, .int .i64 (i : Int)] ∧ i ≤ al.length ∧ GrI Wl w' g T (cs ov) ov (al.take i)
def grMu (n : Nat) (l : List Value) (_ : World) : Nat := match l with | [_, .int _ i] => n - i.toNat | _ => 0
theorem grMu_eq (n : Nat) (u : Value) (k : IntKind) (i : Int) (w : World) : grMu n [u, .int k i] w = n - i.toNat := rfl
theorem take_snoc {al : List Int} {i : Nat} (h : i < al.length) : al.take i ++ [al[i]] = al.take (i + 1) := by
  rw [List.take_add_one, List.getElem?_eq_getElem h]; rfl
@[reducible] def mirV (m : Mir) (v : Value) : Value := .agg #[v, .int .i64 m.blind]
@[reducible] def mirC (m : Mir) (v : Value) : List Value := [v, .int .i64 m.blind]
structure MirR (w : World) (m : Mir) (v : Value) : Prop where
  ints : Ints w v m.bases
  blind : I64 m.blind
theorem MirR.next {w1 : World} {m : Mir} {v : Value} (h : MirR w m v) (hb : Below w.heap.size w w1) : MirR w1 m v := ⟨h.ints.next hb, h.blind⟩
theorem bad_ok (g : Grp) (x : Int) {b : Nat} (h1 : w.cell? ⟨b, 1, none⟩ = some (.int .i64 g.Q)) (k : ∀ w', Below w.heap.size w w' → K (.bool (badN g x)) w') : callM Tryd.prog 58 #[.int .i64 x, .pointer (some ⟨b, 0, none⟩)] K w := by
  apply sh_58_ok
  unfold sh_58
  have k := k w (Below.refl _ _)
  unfold badN at k
  by_cases h0 : x < 1
  · rw [decide_eq_true h0, Bool.true_or] at k
    repeat (any_goals (first
    | (with_reducible first|((refine idGd ?_); refine zD ?_)|((refine idPick ?_); refine yB ?_))
    | ((with_reducible refine idO ?_); (with_reducible refine oM_gen fun Kv hK=>?_); simp [go_sem, h1, h0]; refine hK _ _ ?_; clear hK; clear Kv)))
    exact k
  · rw [decide_eq_false h0, Bool.false_or] at k
    repeat (any_goals (first
    | (with_reducible first|refine pureM_in ?_|((refine idGd ?_); refine zC ?_)|((refine idPick ?_); refine yC ?_))
    | ((with_reducible refine idO ?_); (with_reducible refine oM_gen fun Kv hK=>?_); simp [go_sem, h1, h0]; refine hK _ _ ?_; clear hK; clear Kv)))
    by_cases h2 : g.Q ≤ x
    · simpa [h2] using k
    · simpa [h2] using k
theorem makeM_no {g : Grp} {m : Mir} (h : validG g = false ∨ m.bases.length < 2 ∨ 7 < m.bases.length ∨ m.bases.any (badN g) = true ∨ badN g m.blind = true) : makeM g m = (⟨⟨0, 0, 0⟩, [], 0⟩, false) := by
  unfold makeM
  rw [if_neg]
  rcases h with h | h | h | h | h <;> simp [h] <;> omega
end
end Go.Proofs
namespace Go.Proofs
open Go Go.Sh Go.RowKit FdSpec TkSpec CodeSpec
set_option linter.unusedSimpArgs false
set_option linter.unusedVariables false
set_option maxRecDepth 10000
section
variable {K : Value → World → Prop} {w w0 : World} {L : List (Addr × Value)}
@[reducible] def zS : Stp := ⟨⟨0, 0, 0⟩, [], 0⟩
theorem build_stp2 (T : TypeId) (g : Grp) (b : Int) : oM Tryd.prog (Go.Op.build 26 #[(0, (.tmp 0)), (2, (.tmp 1))]) T [grpV g, .int .i64 b] = pureM (stpV ⟨g, [], b⟩ (.slice none 0 0)) := by
  funext K w
  kernel_rfl
theorem store_stp {K : Value → World → Prop} {T' : TypeId} {g : Nat} (s : Stp) (ad : Option Addr) (n c : Nat) (hk : KnM w0 L g 5 w)
    (k : ∀ W, KnM w0 L g 5 W → cellsAre W (cellsOf [] g 0 (stpC s (.slice ad n c))) → w.grownBy W (some g) → K undef W) : oM Tryd.prog (.store 26 (.tmp 0) (.tmp 1)) T' [.pointer (some ⟨g, 0, none⟩), stpV s (.slice ad n c)] K w := by
  obtain ⟨W, e, hg, hm, hc⟩ := store_run (P := Tryd.prog) (W := w) sz_stp (x := stpV s (.slice ad n c)) rfl rfl (stp_one s ad n c) hk.mine
  rw [oM_store, e]
  exact k W ⟨hk.kn.wrote hg hk.base hk.off, hm, hk.base, hk.off⟩ hc hg
theorem zS_R {v : Value} (hT : DbT w) (hi : Ints w v []) : SetR w zS v := ⟨⟨by constructor <;> decide, by constructor <;> decide, by constructor <;> decide⟩, hi, by constructor <;> decide, hT⟩
theorem Make_ok (g : Grp) (m : Mir) {mv : Value} (hg : GrpR g) (hT : DbT w) (hm : MirR w m mv)
    (k : ∀ w' sv, Below w.heap.size w w' → SetR w' (makeM g m).1 sv → (∀ i, Value.inBlock sv = some i → w.heap.size ≤ i) → K (.tuple #[stpV (makeM g m).1 sv, .bool (makeM g m).2]) w') : callM Tryd.prog 41 #[grpV g, mirV m mv] K w := by
  apply sh_41_ok
  unfold sh_41
  have hms := hm.ints
  obtain ⟨ad, c, rfl⟩ := hm.ints.isSlice
  have k2 : ∀ w' sv r, makeM g m = r → Below w.heap.size w w' → SetR w' r.1 sv → (∀ i, Value.inBlock sv = some i → w.heap.size ≤ i) → K (.tuple #[stpV r.1 sv, .bool r.2]) w' := fun w' sv r e hb hi hf => by
    rw [← e] at hi ⊢
    exact k w' sv hb hi hf
  clear k
  have hno := makeM_no (g := g) (m := m)
  have hml := hms.len
  refine box_kn (cs := [.int .i64 g.P, .int .i64 g.Q, .int .i64 g.G]) rfl (.start w) fun b1 W hk hb1 hbb => ?_
  refine box_kn (cs := mirC m (.slice ad m.bases.length c)) rfl hk fun b2 W2 hk hb2 hbb => ?_
  refine alloc_mine (n := 5) al_stp rfl hk fun g0 W3 hk hb3 hg0 => ?_
  clear hb1 hb2 hb3
  have bad : makeM g m = (⟨⟨0, 0, 0⟩, [], 0⟩, false) → ∀ w2 (hk : KnM w (cellsOf (cellsOf [] b1 0 [.int .i64 g.P, .int .i64 g.Q, .int .i64 g.G]) b2 0 (mirC m (.slice ad m.bases.length c))) g0 5 w2),
      oM Tryd.prog (Go.Op.store 26 (.tmp 0) (.tmp 1)) 0 [.pointer (some ⟨g0, 0, none⟩), stpV zS (.slice none 0 0)] (fun _ w =>
        ∃ r_29, (do loadVar 26 (← asAddr (.pointer (some ⟨g0, 0, none⟩))) : Sem Value).run Tryd.prog w = .ok r_29 w ∧ K (.tuple #[r_29, (.bool false)]) w) w2 := fun e w2 hk =>
    store_stp zS none 0 0 hk (fun W3 hk hc _ => ⟨_, by simp [go_sem, hc], k2 _ _ _ e hk.below (zS_R (hT.next hk.below) (Ints.nil _)) (fun i h => by cases h)⟩)
  repeat (any_goals ((with_reducible refine idO ?_); (with_reducible refine oM_gen fun Kv hK=>?_); simp [go_sem, hk.cells]; refine hK _ _ ?_; clear hK; clear Kv))
  refine ValidGroup_ok g hg (hT.next hk.below) (fun w2 h2 => ?_)
  have hk := hk.next h2
  clear h2
  cases hv : validG g with
  | false =>
    repeat (any_goals (first
    | (with_reducible first|((refine idGd ?_); refine zD ?_)|((refine idPick ?_); refine yB ?_)|((refine idCond ?_); refine yL ?_))
    | ((with_reducible refine idO ?_); (with_reducible refine oM_gen fun Kv hK=>?_); simp [go_sem, hk.cells]; refine hK _ _ ?_; clear hK; clear Kv)))
    exact bad (hno (.inl hv)) _ hk
  | true =>
  by_cases h2 : (m.bases.length : Int) < 2
  · repeat (any_goals (first
    | (with_reducible first|((refine idGd ?_); first|refine zC ?_|refine zD ?_)|((refine idPick ?_); first|refine yB ?_|refine yC ?_)|((refine idCond ?_); refine yL ?_))
    | ((with_reducible refine idO ?_); (with_reducible refine oM_gen fun Kv hK=>?_); simp [go_sem, hk.cells, h2]; refine hK _ _ ?_; clear hK; clear Kv)))
    exact bad (hno (.inr (.inl (by omega)))) _ hk
  by_cases h7 : (7 : Int) < m.bases.length
  · repeat (any_goals (first
    | (with_reducible first|((refine idGd ?_); first|refine zC ?_|refine zD ?_)|((refine idPick ?_); first|refine yB ?_|refine yC ?_)|((refine idCond ?_); refine yL ?_))
    | ((with_reducible refine idO ?_); (with_reducible refine oM_gen fun Kv hK=>?_); simp [go_sem, hk.cells, h2, h7]; refine hK _ _ ?_; clear hK; clear Kv)))
    exact bad (hno (.inr (.inr (.inl (by omega))))) _ hk
  repeat (any_goals (first
  | (with_reducible first|refine pureM_in ?_|((refine idGd ?_); refine zC ?_)|((refine idPick ?_); refine yC ?_))
  | ((with_reducible refine idO ?_); (with_reducible refine oM_gen fun Kv hK=>?_); simp [go_sem, hk.cells, h2, h7]; refine hK _ _ ?_; clear hK; clear Kv)))
  refine ContainsFunc_ok (badN g) (hms.next hk.below) ?_ ?_
  · intro w' x K' T hb _ h'
    refine oM_callv1 (by kernel_rfl) ?_
    have hk := (hk.next hb).cells
    exact bad_ok g x hk.2.2.2.1 h'
  intro w3 h3
  have hk := hk.next h3
  clear h3
  cases ha : m.bases.any (badN g) with
  | true =>
    repeat (any_goals (first
    | (with_reducible first|((refine idGd ?_); refine zD ?_)|((refine idPick ?_); first|refine yB ?_|refine yC ?_)|((refine idCond ?_); refine yL ?_))
    | ((with_reducible refine idO ?_); (with_reducible refine oM_gen fun Kv hK=>?_); simp [go_sem, hk.cells]; refine hK _ _ ?_; clear hK; clear Kv)))
    exact bad (hno (.inr (.inr (.inr (.inl ha))))) _ hk
  | false =>
  repeat (any_goals (first
  | (with_reducible first|refine pureM_in ?_|((refine idGd ?_); refine zC ?_)|((refine idPick ?_); refine yC ?_))
  | ((with_reducible refine idO ?_); (with_reducible refine oM_gen fun Kv hK=>?_); simp [go_sem, hk.cells]; refine hK _ _ ?_; clear hK; clear Kv)))
  refine oM_callv1 (by kernel_rfl) ?_
  refine bad_ok g m.blind hk.cells.2.2.2.1 (fun w4 h4 => ?_)
  have hk := hk.next h4
  clear h4
  cases hb : badN g m.blind with
  | true =>
    repeat (any_goals (first
    | (with_reducible first|((refine idPick ?_); refine yC ?_)|((refine idCond ?_); refine yL ?_))
    | ((with_reducible refine idO ?_); (with_reducible refine oM_gen fun Kv hK=>?_); simp [go_sem, hk.cells]; refine hK _ _ ?_; clear hK; clear Kv)))
    exact bad (hno (.inr (.inr (.inr (.inr hb))))) _ hk
  | false =>
  clear bad hno
  have ey : makeM g m = (⟨g, m.bases.map (powerG g g.G), powerG g g.G m.blind⟩, true) := by
    unfold makeM
    rw [if_pos]
    rw [hv, ha, hb, decide_eq_true (by omega : 2 ≤ m.bases.length), decide_eq_true (by omega : m.bases.length ≤ 7)]; rfl
  repeat (any_goals (with_reducible first|((refine idPick ?_); refine yC ?_)|((refine idCond ?_); refine yM ?_)))
  have hk := hk.drew
  refine ⟨Nx { w4 with drawn := w4.drawn + 1 }, Below.refl _ _, rfl, ?_⟩
  generalize ({ w4 with drawn := w4.drawn + 1 } : World) = W at hk ⊢
  repeat (any_goals ((with_reducible refine idOH ?_); (with_reducible refine oH_of ⟨_, rfl⟩ (fun W0 hW0 => by (refine oM_gen (fun Kv hK => ?_)); simp [go_sem, (hk.next hW0).cells]; (first | exact hK _ _ ⟨rfl, rfl⟩ | exact ⟨by omega, hK _ _ ⟨rfl, rfl⟩⟩)) ?_)))
  refine ⟨Nx, ?_⟩
  apply monoE
  · intro w1 h1
    exact Power_ok g g.G m.blind (fun w2 h2 => ⟨h1.on h2, h2, rfl⟩)
  repeat (apply monoE; focus (intro w9 h9; (repeat (intro v9 e9; try (obtain rfl := e9))); (repeat (any_goals ((with_reducible refine idO ?_); (with_reducible refine oM_gen fun Kv hK=>?_); simp [go_sem, build_stp2]; refine hK _ _ ?_; clear hK; clear Kv))); exact ⟨h9, Below.refl _ _, rfl⟩))
  refine monoR (fun v w' => ∃ g2, v = ptr g2 0 ∧ W.heap.size ≤ g2 ∧ Holds w' g2 26 (stpC zS (.slice none 0 0))) (fun v w w1 hS h => h.imp fun g2 h => ⟨h.1, h.2.1, h.2.2.next hS⟩) ?_ ?_
  · intro w1 h1
    exact arr_alloc al_stp (fun g2 w2 h2 hg2 hh => ⟨h1.on h2, h2, g2, rfl, Nat.le_trans h1.size hg2, hh⟩)
  (intro w9 h9; repeat (intro v9 e9; try (obtain rfl := e9)))
  obtain ⟨g2, rfl, hg2, hh⟩ := e9
  refine arr_store sz_stp (xs := stpC ⟨g, [], powerG g g.G m.blind⟩ (.slice none 0 0)) rfl rfl (stp_one ⟨g, [], powerG g g.G m.blind⟩ none 0 0) hh rfl (fun w10 hg10 hh => ?_)
  have h10 := grown_below h9 hg10 hg2
  have hgW : g0 < W.heap.size := mine_lt hk.mine
  have hoffL := cells_lt hk.cells
  have hk := hk.next h10
  clear hg10 h9
  repeat (any_goals ((with_reducible refine idO ?_); (with_reducible refine oM_gen fun Kv hK=>?_); simp [go_sem, hk.cells]; refine hK _ _ ?_; clear hK; clear Kv))
  have hne : g0 ≠ g2 := by omega
  have hoff : ∀ p ∈ cellsOf (cellsOf [] b1 0 [.int .i64 g.P, .int .i64 g.Q, .int .i64 g.G]) b2 0 (mirC m (.slice ad m.bases.length c)), p.1.block ≠ g2 := fun p hp => by have := hoffL p hp; omega
  have hbase : w.heap.size ≤ g2 := Nat.le_trans hk.base (by omega)
  have hal : (m.bases.map (powerG g g.G)).length = m.bases.length := List.length_map _
  have hrng : ∀ n ∈ m.bases.map (powerG g g.G), I64 n := by
    intro n hn
    obtain ⟨x, _, rfl⟩ := List.mem_map.1 hn
    exact powerG_I64 _ _ _
  have hat : ∀ i (h : i < m.bases.length), powerG g g.G m.bases[i] = (m.bases.map (powerG g g.G))[i]'(by rw [hal]; exact h) := fun i h => by simp
  generalize m.bases.map (powerG g g.G) = al at *
  refine ⟨GrJ w10 g2 26 (fun ov => stpC ⟨g, [], powerG g g.G m.blind⟩ ov) al, grMu m.bases.length, ⟨_, .slice none 0 0, 0, rfl, by omega, .start hh.lt hh⟩, ?_⟩
  have hk0 := hk
  rintro _ _ w6 ⟨u, ov, i, rfl, hi, hgr⟩
  have hk := hk0.fr hgr.fr hoff hne hbase
  by_cases hin : i = m.bases.length
  · have ho := hgr.own
    rw [List.take_of_length_le (by omega)] at ho
    have hints := ho.ints hrng (by omega)
    obtain ⟨g', oc, cur, rfl, hlt, hB, _, _, _, _⟩ := owns_cells ho (by omega)
    repeat (any_goals (first
    | (with_reducible ((refine idCond ?_); refine yO ?_))
    | ((with_reducible refine idO ?_); (with_reducible refine oM_gen fun Kv hK=>?_); simp [go_sem, hgr.holds.are]; refine hK _ _ ?_; clear hK; clear Kv)))
    refine store_stp ⟨g, al, powerG g g.G m.blind⟩ (some ⟨g', 0, none⟩) al.length oc hk (fun W3 hk hc hg3 => ⟨stpV ⟨g, al, powerG g g.G m.blind⟩ (.slice (some ⟨g', 0, none⟩) al.length oc), by simp [go_sem, hc], k2 W3 (.slice (some ⟨g', 0, none⟩) al.length oc) _ ey hk.below ⟨hg, ⟨hints.row.keep hg3.size (fun i hi hlt => hg3.block i hlt ?_), hrng, by show al.length ≤ _; omega⟩, powerG_I64 _ _ _, hT.next hk.below⟩ (fun i h => by have e2 : g' = i := Option.some.inj h; have := hk0.below.size; omega)⟩)
    cases hi
    intro e
    have e2 : g' = g0 := Option.some.inj e
    have := hh.lt
    omega
  · obtain ⟨b8, o8, rfl, hb8', ca, ra, _⟩ := hms.at (i := i) (by omega)
    repeat (any_goals (first
    | (with_reducible ((refine idCond ?_); refine yN ?_))
    | ((with_reducible refine idO ?_); (with_reducible refine oM_gen fun Kv hK=>?_); simp [go_sem, ca _ hk.below]; (first|refine hK _ _ ?_|refine And.intro (by omega) (hK _ _ ?_)); clear hK; clear Kv)))
    have hk := hk.drew
    have hgr := hgr.next (.drawn (B := w6.heap.size))
    refine ⟨Nx { w6 with drawn := w6.drawn + 1 }, Below.refl _ _, rfl, ?_⟩
    generalize ({ w6 with drawn := w6.drawn + 1 } : World) = W6 at hk hgr ⊢
    repeat (any_goals (first
    | (with_reducible refine pureH_in ?_)
    | ((with_reducible refine idOH ?_); (with_reducible refine oH_of ⟨_, rfl⟩ (fun W0 hW0 => by (refine oM_gen (fun Kv hK => ?_)); simp [go_sem, (hk.next hW0).cells, (hgr.next hW0).holds.are]; (first | exact hK _ _ ⟨rfl, rfl⟩ | exact ⟨by omega, hK _ _ ⟨rfl, rfl⟩⟩)) ?_))))
    refine ⟨Nx, ?_⟩
    apply monoE
    · intro w1 h1
      exact Power_ok g g.G _ (fun w2 h2 => ⟨h1.on h2, h2, rfl⟩)
    refine monoR (fun v w' => Ints w' v [powerG g g.G m.bases[i]]) (fun v w w1 hS h => h.next hS) ?_ ?_
    · rintro w1 h1 _ rfl
      exact mk1 _ (powerG_I64 _ _ _) (fun v w2 h2 hi => ⟨h1.on h2, h2, hi⟩)
    rintro w9 h9 _ rfl v9 hi9
    refine gr_append (hgr.next h9) hi9 (by rw [List.length_take]; omega) (fun ad n c w11 hgr => ?_)
    repeat (any_goals ((with_reducible refine idO ?_); (with_reducible refine oM_gen fun Kv hK=>?_); simp [go_sem]; refine hK _ _ ?_; clear hK; clear Kv))
    refine gr_store (i := 3) hgr (show 3 < 5 by decide) (fun w12 hgr => ?_)
    repeat (any_goals ((with_reducible refine idO ?_); (with_reducible refine oM_gen fun Kv hK=>?_); simp [go_sem]; (try simp (disch := omega) only [wrapI64, wrapU8, wrapU32, wrapU64]); refine hK _ _ ?_; clear hK; clear Kv))
    rw [hat i (by omega), take_snoc] at hgr
    refine ⟨⟨_, _, i + 1, rfl, by omega, hgr⟩, ?_⟩
    simp only [grMu_eq]; omega
end
end Go.Proofs
namespace Go.Proofs
open Go Go.Sh Go.RowKit FdSpec TkSpec CodeSpec
set_option linter.unusedSimpArgs false
set_option linter.unusedVariables false
set_option maxRecDepth 10000
section
variable {K : Value → World → Prop} {w w0 : World} {L : List (Addr × Value)}
theorem sz_grp (w : World) : (sizeOf 23).run Tryd.prog w = .ok 3 w := by kernel_rfl
theorem al_grp (w : World) : (Instr.alloc 23 true (.tuple #[])).run Tryd.prog w = .ok (.pointer (some ⟨w.heap.size, 0, none⟩)) (w.alloc (.cells [.int .i64 0, .int .i64 0, .int .i64 0].toArray 23)) := by kernel_rfl
@[reducible] def grpC (g : Grp) : List Value := [.int .i64 g.P, .int .i64 g.Q, .int .i64 g.G]
theorem grp_one (g : Grp) : ∀ u ∈ grpC g, u.oneCell' = true := by
  intro u hu
  simp only [grpC, List.mem_cons, List.not_mem_nil, or_false] at hu
  rcases hu with rfl | rfl | rfl <;> rfl
theorem local_grpM {K : Value → World → Prop} {T' T2 : TypeId} {g n : Nat} (t : Grp) (hk : KnM w0 L g n w)
    (k : ∀ b W, KnM w0 (cellsOf L b 0 (grpC t)) g n W → Below w.heap.size w W → w.heap.size ≤ b → K (.pointer (some ⟨b, 0, none⟩)) W) :
    oM Tryd.prog (.alloc 23) T' [] (fun v w => oM Tryd.prog (.store 23 (.tmp 0) (.tmp 1)) T2 [v, grpV t] (fun _ w => K v w) w) w :=
  local_knm al_grp rfl sz_grp rfl rfl (grp_one t) hk k
theorem store_grp {K : Value → World → Prop} {T' : TypeId} {g : Nat} (t : Grp) (hk : KnM w0 L g 3 w)
    (k : ∀ W, KnM w0 L g 3 W → cellsAre W (cellsOf [] g 0 (grpC t)) → K undef W) : oM Tryd.prog (.store 23 (.tmp 0) (.tmp 1)) T' [.pointer (some ⟨g, 0, none⟩), grpV t] K w :=
  store_mine sz_grp rfl rfl (grp_one t) hk k
@[reducible] def zG : Grp := ⟨0, 0, 0⟩
theorem build_grp3 (T : TypeId) (a b c : Int) : oM Tryd.prog (Go.Op.build 23 #[(0, (.tmp 0)), (1, (.tmp 1)), (2, (.tmp 2))]) T [.int .i64 a, .int .i64 b, .int .i64 c] = pureM (grpV ⟨a, b, c⟩) := by
  funext K w
  kernel_rfl
theorem fMake_ok (q : Int) (hq : I64 q) (hT : DbT w) (k : ∀ w', Below w.heap.size w w' → K (.tuple #[grpV (makeG q).1, .bool (makeG q).2]) w') : callM Tryd.prog 40 #[.int .i64 q] K w := by
  apply sh_40_ok
  unfold sh_40
  have k2 : ∀ w' r, makeG q = r → Below w.heap.size w w' → K (.tuple #[grpV r.1, .bool r.2]) w' := fun w' r e hb => by rw [← e]; exact k w' hb
  clear k
  refine alloc_mine (n := 3) al_grp rfl (.start w) fun g W hk hb4 hg => ?_
  clear hb4
  by_cases h5 : q < 5
  · have e : makeG q = (zG, false) := by unfold makeG; rw [if_pos (.inl h5)]
    repeat (any_goals (first
    | (with_reducible first|((refine idGd ?_); refine zD ?_)|((refine idPick ?_); refine yB ?_)|((refine idCond ?_); refine yL ?_))
    | ((with_reducible refine idO ?_); (with_reducible refine oM_gen fun Kv hK=>?_); simp [go_sem, h5]; refine hK _ _ ?_; clear hK; clear Kv)))
    exact store_grp zG hk (fun W3 hk hc => ⟨_, by simp [go_sem, hc], k2 _ _ e hk.below⟩)
  by_cases h6 : 1152921504606846976 ≤ q
  · have e : makeG q = (zG, false) := by unfold makeG; rw [if_pos (.inr h6)]
    repeat (any_goals (first
    | (with_reducible first|refine pureM_in ?_|((refine idGd ?_); refine zC ?_)|((refine idPick ?_); refine yC ?_)|((refine idCond ?_); refine yL ?_))
    | ((with_reducible refine idO ?_); (with_reducible refine oM_gen fun Kv hK=>?_); simp [go_sem, h5, h6]; refine hK _ _ ?_; clear hK; clear Kv)))
    exact store_grp zG hk (fun W3 hk hc => ⟨_, by simp [go_sem, hc], k2 _ _ e hk.below⟩)
  have e : makeG q = if validG ⟨2 * q + 1, q, 4⟩ then (⟨2 * q + 1, q, 4⟩, true) else (zG, false) := by unfold makeG; rw [if_neg (by omega)]
  repeat (any_goals (first
  | ((with_reducible refine local_grpM ⟨2 * q + 1, q, 4⟩ hk ?_); intro b7 W7 hk hb7 hg7)
  | (with_reducible first|refine pureM_in ?_|((refine idGd ?_); refine zC ?_)|((refine idPick ?_); refine yC ?_)|((refine idCond ?_); refine yM ?_))
  | ((with_reducible refine idO ?_); (with_reducible refine oM_gen fun Kv hK=>?_); simp [go_sem, h5, h6, build_grp3, hk.cells]; (try simp (disch := omega) only [wrapI64, wrapU8, wrapU32, wrapU64]); refine hK _ _ ?_; clear hK; clear Kv)))
  refine ValidGroup_ok ⟨2 * q + 1, q, 4⟩ ⟨by unfold I64; dsimp only; omega, hq, by unfold I64; dsimp only; omega⟩ (hT.next hk.below) (fun w2 h2 => ?_)
  have hk := hk.next h2
  cases hv : validG ⟨2 * q + 1, q, 4⟩ with
  | false =>
    rw [hv, if_neg (by decide)] at e
    repeat (any_goals (first
    | (with_reducible ((refine idCond ?_); refine yM ?_))
    | ((with_reducible refine idO ?_); (with_reducible refine oM_gen fun Kv hK=>?_); simp [go_sem, hk.cells]; refine hK _ _ ?_; clear hK; clear Kv)))
    exact store_grp zG hk (fun W3 hk hc => ⟨_, by simp [go_sem, hc], k2 _ _ e hk.below⟩)
  | true =>
    rw [hv, if_pos rfl] at e
    repeat (any_goals (first
    | (with_reducible ((refine idCond ?_); refine yL ?_))
    | ((with_reducible refine idO ?_); (with_reducible refine oM_gen fun Kv hK=>?_); simp [go_sem, hk.cells]; refine hK _ _ ?_; clear hK; clear Kv)))
    exact store_grp ⟨2 * q + 1, q, 4⟩ hk (fun W3 hk hc => ⟨_, by simp [go_sem, hc], k2 _ _ e hk.below⟩)
structure Cas where
  q : Int
  m : Mir
  x : Int
  w : Int
  attrs : List Int
  b : Bld
@[reducible] def casV (c : Cas) (mv av yv : Value) : Value := .agg #[.int .i64 c.q, mv, .int .i64 c.m.blind, .int .i64 c.x, .int .i64 c.w, av, .int .i64 c.b.s, .int .i64 c.b.u, .int .i64 c.b.v, yv]
@[reducible] def casC (c : Cas) (mv av yv : Value) : List Value := [.int .i64 c.q, mv, .int .i64 c.m.blind, .int .i64 c.x, .int .i64 c.w, av, .int .i64 c.b.s, .int .i64 c.b.u, .int .i64 c.b.v, yv]
structure CasR (w : World) (c : Cas) (mv av yv : Value) : Prop where
  q : I64 c.q
  m : MirR w c.m mv
  x : I64 c.x
  wn : I64 c.w
  attrs : Ints w av c.attrs
  b : BldR w c.b yv
theorem CasR.next {w1 : World} {c : Cas} {mv av yv : Value} (h : CasR w c mv av yv) (hb : Below w.heap.size w w1) : CasR w1 c mv av yv := ⟨h.q, h.m.next hb, h.x, h.wn, h.attrs.next hb, h.b.next hb⟩
def smallM (c : Cas) : Bool := decide (c.m.bases.length ≤ 9) && (decide (c.attrs.length ≤ 9) && decide (c.b.ys.length ≤ 9))
theorem small_ok (c : Cas) {mv av yv : Value} (hc : CasR w c mv av yv) (k : ∀ w', Below w.heap.size w w' → K (.bool (smallM c)) w') : callM Tryd.prog 17 #[casV c mv av yv] K w := by
  apply sh_17_ok
  unfold sh_17
  obtain ⟨mad, mc, rfl⟩ := hc.m.ints.isSlice
  obtain ⟨aad, ac, rfl⟩ := hc.attrs.isSlice
  obtain ⟨yad, yc, rfl⟩ := hc.b.ys.isSlice
  refine box_kn (cs := casC c (.slice mad c.m.bases.length mc) (.slice aad c.attrs.length ac) (.slice yad c.b.ys.length yc)) rfl (.start w) fun b1 W hk hb1 hbb => ?_
  have k := k _ hk.below
  unfold smallM at k
  by_cases h1 : (c.m.bases.length : Int) ≤ 9
  rotate_left
  · rw [decide_eq_false (by omega : ¬ c.m.bases.length ≤ 9), Bool.false_and] at k
    repeat (any_goals (first
    | (with_reducible first|((refine idGd ?_); refine zB ?_)|((refine idPick ?_); refine yC ?_))
    | ((with_reducible refine idO ?_); (with_reducible refine oM_gen fun Kv hK=>?_); simp [go_sem, hk.cells, h1]; refine hK _ _ ?_; clear hK; clear Kv)))
    exact k
  rw [decide_eq_true (by omega : c.m.bases.length ≤ 9), Bool.true_and] at k
  by_cases h2 : (c.attrs.length : Int) ≤ 9
  rotate_left
  · rw [decide_eq_false (by omega : ¬ c.attrs.length ≤ 9), Bool.false_and] at k
    repeat (any_goals (first
    | (with_reducible first|((refine idGd ?_); first|refine zA ?_|refine zB ?_)|((refine idPick ?_); first|refine yB ?_|refine yC ?_))
    | ((with_reducible refine idO ?_); (with_reducible refine oM_gen fun Kv hK=>?_); simp [go_sem, hk.cells, h1, h2]; refine hK _ _ ?_; clear hK; clear Kv)))
    exact k
  rw [decide_eq_true (by omega : c.attrs.length ≤ 9), Bool.true_and] at k
  by_cases h3 : (c.b.ys.length : Int) ≤ 9
  · rw [decide_eq_true (by omega : c.b.ys.length ≤ 9)] at k
    repeat (any_goals (first
    | (with_reducible first|((refine idGd ?_); refine zA ?_)|((refine idPick ?_); refine yB ?_))
    | ((with_reducible refine idO ?_); (with_reducible refine oM_gen fun Kv hK=>?_); simp [go_sem, hk.cells, h1, h2, h3]; refine hK _ _ ?_; clear hK; clear Kv)))
    exact k
  · rw [decide_eq_false (by omega : ¬ c.b.ys.length ≤ 9)] at k
    repeat (any_goals (first
    | (with_reducible first|((refine idGd ?_); refine zA ?_)|((refine idPick ?_); refine yB ?_))
    | ((with_reducible refine idO ?_); (with_reducible refine oM_gen fun Kv hK=>?_); simp [go_sem, hk.cells, h1, h2, h3]; refine hK _ _ ?_; clear hK; clear Kv)))
    exact k
end
end Go.Proofs
namespace Go.Proofs
open Go Go.Sh Go.RowKit FdSpec TkSpec CodeSpec
set_option linter.unusedSimpArgs false
set_option linter.unusedVariables false
set_option maxRecDepth 10000
section
variable {K : Value → World → Prop} {w w0 : World} {L : List (Addr × Value)}
theorem local_stpM {K : Value → World → Prop} {T' T2 : TypeId} {g n : Nat} (s : Stp) (ad : Option Addr) (m c : Nat) (hk : KnM w0 L g n w)
    (k : ∀ b W, KnM w0 (cellsOf L b 0 (stpC s (.slice ad m c))) g n W → Below w.heap.size w W → w.heap.size ≤ b → K (.pointer (some ⟨b, 0, none⟩)) W) :
    oM Tryd.prog (.alloc 26) T' [] (fun v w => oM Tryd.prog (.store 26 (.tmp 0) (.tmp 1)) T2 [v, stpV s (.slice ad m c)] (fun _ w => K v w) w) w :=
  local_knm al_stp rfl sz_stp rfl rfl (stp_one s ad m c) hk k
def madeM (c : Cas) : Stp × Bool := if (makeG c.q).2 then makeM (makeG c.q).1 c.m else (zS, false)
theorem makeG_R {q : Int} (hq : I64 q) : GrpR (makeG q).1 := by
  have hz : GrpR ⟨0, 0, 0⟩ := ⟨by constructor <;> decide, by constructor <;> decide, by constructor <;> decide⟩
  unfold makeG
  split
  · exact hz
  · rename_i h
    split
    · exact ⟨by unfold I64; dsimp only; omega, hq, by unfold I64; dsimp only; omega⟩
    · exact hz
theorem made_ok (c : Cas) {mv av yv : Value} (hT : DbT w) (hc : CasR w c mv av yv) (k : ∀ w' sv, Below w.heap.size w w' → SetR w' (madeM c).1 sv → (∀ i, Value.inBlock sv = some i → w.heap.size ≤ i) → K (.tuple #[stpV (madeM c).1 sv, .bool (madeM c).2]) w') : callM Tryd.prog 16 #[casV c mv av yv] K w := by
  apply sh_16_ok
  unfold sh_16
  have hm := hc.m
  obtain ⟨mad, mc, rfl⟩ := hc.m.ints.isSlice
  obtain ⟨aad, ac, rfl⟩ := hc.attrs.isSlice
  obtain ⟨yad, yc, rfl⟩ := hc.b.ys.isSlice
  have k2 : ∀ w' sv r, madeM c = r → Below w.heap.size w w' → SetR w' r.1 sv → (∀ i, Value.inBlock sv = some i → w.heap.size ≤ i) → K (.tuple #[stpV r.1 sv, .bool r.2]) w' := fun w' sv r e hb hi hf => by
    rw [← e] at hi ⊢
    exact k w' sv hb hi hf
  clear k
  refine box_kn (cs := casC c (.slice mad c.m.bases.length mc) (.slice aad c.attrs.length ac) (.slice yad c.b.ys.length yc)) rfl (.start w) fun b1 W hk hb1 hbb => ?_
  refine alloc_mine (n := 5) al_stp rfl hk fun g0 W3 hk hb3 hg0 => ?_
  clear hb1 hb3
  have eM : madeM c = if (makeG c.q).2 then makeM (makeG c.q).1 c.m else (zS, false) := rfl
  have hgr := makeG_R hc.q
  repeat (any_goals ((with_reducible refine idO ?_); (with_reducible refine oM_gen fun Kv hK=>?_); simp [go_sem, hk.cells]; refine hK _ _ ?_; clear hK; clear Kv))
  refine fMake_ok c.q hc.q (hT.next hk.below) (fun w2 h2 => ?_)
  have hk := hk.next h2
  clear h2
  generalize (makeG c.q).1 = g at *
  generalize (makeG c.q).2 = ok at *
  iterate 2 (any_goals ((with_reducible refine idO ?_); (with_reducible refine oM_gen fun Kv hK=>?_); simp [go_sem]; refine hK _ _ ?_; clear hK; clear Kv))
  refine local_grpM g hk (fun b7 W7 hk hb7 hg7 => ?_)
  clear hb7
  cases ok with
  | false =>
    rw [if_neg (by decide)] at eM
    repeat (any_goals (first
    | (with_reducible ((refine idCond ?_); refine yL ?_))
    | ((with_reducible refine idO ?_); (with_reducible refine oM_gen fun Kv hK=>?_); simp [go_sem, hk.cells]; refine hK _ _ ?_; clear hK; clear Kv)))
    exact store_stp zS none 0 0 hk (fun W3 hk hc _ => ⟨_, by simp [go_sem, hc], k2 _ _ _ eM hk.below (zS_R (hT.next hk.below) (Ints.nil _)) (fun i h => by cases h)⟩)
  | true =>
  rw [if_pos rfl] at eM
  repeat (any_goals (first
  | (with_reducible ((refine idCond ?_); refine yM ?_))
  | ((with_reducible refine idO ?_); (with_reducible refine oM_gen fun Kv hK=>?_); simp [go_sem, hk.cells]; refine hK _ _ ?_; clear hK; clear Kv)))
  refine Make_ok g c.m hgr (hT.next hk.below) (hm.next hk.below) (fun w4 sv h4 hr hf => ?_)
  have hgl := mine_lt hk.mine
  have hkb := hk.below.size
  have hk := hk.next h4
  clear h4
  obtain ⟨sad, sc, rfl⟩ := hr.ints.isSlice
  have eM : madeM c = ((makeM g c.m).1, (makeM g c.m).2) := eM
  generalize (makeM g c.m).1 = t at *
  generalize (makeM g c.m).2 = q at *
  iterate 2 (any_goals ((with_reducible refine idO ?_); (with_reducible refine oM_gen fun Kv hK=>?_); simp [go_sem]; refine hK _ _ ?_; clear hK; clear Kv))
  refine local_stpM t sad t.bases.length sc hk (fun b8 W8 hk hb8 hg8 => ?_)
  have hr := hr.next hb8
  repeat (any_goals ((with_reducible refine idO ?_); (with_reducible refine oM_gen fun Kv hK=>?_); simp [go_sem, hk.cells]; refine hK _ _ ?_; clear hK; clear Kv))
  refine store_stp t sad t.bases.length sc hk (fun W3 hk hc hg3 => ⟨stpV t (.slice sad t.bases.length sc), by simp [go_sem, hc], k2 W3 (.slice sad t.bases.length sc) _ eM hk.below ⟨hr.grp, ⟨hr.ints.row.keep hg3.size (fun i hi hlt => hg3.block i hlt ?_), hr.ints.rng, hr.ints.len⟩, hr.blind, hT.next hk.below⟩ (fun i hi => Nat.le_trans hkb (hf i hi))⟩)
  have := hf i hi
  intro e
  have e2 : i = g0 := Option.some.inj e
  omega
end
end Go.Proofs
namespace TpA
open FdSpec FdPoly GrLaw GrPr TkSpec
theorem dot_nil_right (bs : List Int) : dot bs [] = 0 := by cases bs <;> rfl
theorem foldl_dot {q : Int} (hq : okN q) : ∀ (es bs : List Int) (o : Int), q ∣ (es.zip bs).foldl (fun o p => addM q o (mulM q p.1 p.2)) o - (o + dot bs es)
  | [], bs, o => by simp [dot_nil_right]
  | e :: es, [], o => by simp [dot]
  | e :: es, b :: bs, o => by
    rw [List.zip_cons_cons, List.foldl_cons, dot]
    obtain ⟨k, hk⟩ := foldl_dot hq es bs (addM q o (mulM q e b))
    obtain ⟨l, hl⟩ := addM_dvd hq (a := o) (b := mulM q e b)
    obtain ⟨n, hn⟩ := mulM_dvd hq (a := e) (b := b)
    exact ⟨k + l + n, by grind⟩
theorem foldl_range {q : Int} (hq : okN q) : ∀ (l : List (Int × Int)) (o : Int), (0 ≤ o ∧ o < q) → 0 ≤ l.foldl (fun o p => addM q o (mulM q p.1 p.2)) o ∧ l.foldl (fun o p => addM q o (mulM q p.1 p.2)) o < q
  | [], o, h => h
  | p :: l, o, _ => by rw [List.foldl_cons]; exact foldl_range hq l _ (addM_range _ _ _ hq)
theorem logM_eq (s : Stp) (m : Mir) (attrs : List Int) : logM s m attrs = ((expsM attrs).zip m.bases).foldl (fun o p => addM s.g.Q o (mulM s.g.Q p.1 p.2)) 0 := rfl
theorem makeG_valid {q : Int} (h : (makeG q).2 = true) : validG (makeG q).1 = true ∧ (makeG q).1.Q = q := by
  unfold makeG at h ⊢
  split at h
  · cases h
  · rename_i h0
    rw [if_neg h0]
    split at h
    · rename_i h1
      rw [if_pos h1]; exact ⟨h1, rfl⟩
    · cases h
structure Md (g : Grp) (m : Mir) (s : Stp) : Prop where
  eg : s.g = g
  v : validG s.g = true
  vs : validS s = true
  len : s.bases.length = m.bases.length
  b2 : 2 ≤ m.bases.length
  log : ∀ es : List Int, Cg s.g.P (PX s.g (s.bases.zip es)) (Ex s.g s.g.G (dot m.bases es))
  rng : ∀ b ∈ m.bases, 1 ≤ b ∧ b < s.g.Q
theorem PX_map {g : Grp} (hv : validG g = true) : ∀ (ms es : List Int), Cg g.P (PX g ((ms.map (powerG g g.G)).zip es)) (Ex g g.G (dot ms es))
  | [], es => by simp [PX, dot, Ex_zero]; exact Cg.refl _ _
  | m :: ms, [] => by simp [PX, dot, Ex_zero]; exact Cg.refl _ _
  | m :: ms, e :: es => by
    have hg := gv_of hv
    rw [List.map_cons, List.zip_cons_cons, PX, dot]
    have h3 : Cg g.P (Ex g (powerG g g.G m) e) (Ex g g.G (m * e)) := (Ex_cg (powerG_cg hg g.G m) e).trans (Ex_mul hg (El.gen hg) m e).symm
    exact (h3.mul (PX_map hv ms es)).trans (Ex_add hg (El.gen hg) _ _).symm
theorem powG_el {g : Grp} (hv : validG g = true) (k : Int) : El g (powerG g g.G k) := ((El.gen (gv_of hv)).ex k).cg (powerG_cg (gv_of hv) _ _)
theorem el_range {g : Grp} (hv : validG g = true) {x : Int} (hx : El g x) (h0 : 0 ≤ x) (h1 : x < g.P) : 1 ≤ x := by
  have hg := gv_of hv
  have q0 := hg.q0
  apply Classical.byContradiction
  intro hc
  have e : x = 0 := by omega
  have h2 : Cg g.P (x ^ g.Q.toNat) 1 := hx
  rw [e, Int.zero_pow (by omega)] at h2
  have h3 : g.P ∣ 0 - 1 := h2
  have h4 : g.P ∣ 1 := by obtain ⟨k, hk⟩ := h3; exact ⟨-k, by grind⟩
  have := Int.le_of_dvd (by omega) h4
  have := hg.p
  omega
theorem el_elem {g : Grp} (hv : validG g = true) {x : Int} (hx : El g x) (h0 : 0 ≤ x) (h1 : x < g.P) : elemG g x = true := by
  have hg := gv_of hv
  unfold elemG
  have h2 := el_range hv hx h0 h1
  have h3 : pw g.P x g.Q.toNat = 1 := by
    have h4 := Cg.emod (show Cg g.P (x ^ g.Q.toNat) 1 from hx)
    rw [Int.emod_eq_of_lt (a := 1) (by omega) (by have := hg.q0; have := hg.p; omega)] at h4
    exact h4
  simp [h2, h1, hv, h3]
theorem powG_elem {g : Grp} (hv : validG g = true) (k : Int) : elemG g (powerG g g.G k) = true := by
  have := powerG_range (gv_of hv) g.G k
  exact el_elem hv (powG_el hv k) this.1 this.2
theorem powG_one {g : Grp} (hv : validG g = true) (k : Int) : powerG g g.G k = 1 ↔ k % g.Q = 0 := by
  have hg := gv_of hv
  have hc := powerG_cg hg g.G k
  constructor
  · intro h
    rw [h] at hc
    have h2 : Cg g.P (Ex g g.G k) (Ex g g.G 0) := by rw [Ex_zero]; exact hc.symm
    have := mod_of_dvd (Ex_dvd hv h2)
    simpa using this
  · intro h
    have e : Ex g g.G k = Ex g g.G 0 := Ex_cong (by simpa using h)
    rw [powerG_eq hg, e, Ex_zero, Int.emod_eq_of_lt (by omega) (by have := hg.q0; have := hg.p; omega)]
theorem made_md {g : Grp} {m : Mir} (h : (makeM g m).2 = true) : Md g m (makeM g m).1 := by
  unfold makeM at h ⊢
  split at h
  · rename_i h0
    rw [if_pos h0]
    simp only [Bool.and_eq_true, decide_eq_true_eq, Bool.not_eq_true'] at h0
    obtain ⟨⟨⟨⟨hv, h2⟩, h7⟩, hb⟩, hbl⟩ := h0
    have hr : ∀ b ∈ m.bases, 1 ≤ b ∧ b < g.Q := by
      intro b hm
      have := List.any_eq_false.mp hb b hm
      unfold badN at this
      simp at this
      omega
    have hbr : 1 ≤ m.blind ∧ m.blind < g.Q := by unfold badN at hbl; simp at hbl; omega
    have ho : ∀ b, (1 ≤ b ∧ b < g.Q) → otherM g (powerG g g.G b) = true := by
      intro b hb
      unfold otherM
      have h3 : powerG g g.G b ≠ 1 := fun h3 => by
        have := (powG_one hv b).mp h3
        rw [Int.emod_eq_of_lt (by omega) hb.2] at this
        omega
      simp [h3, powG_elem hv b]
    refine ⟨rfl, hv, ?_, by simp, h2, fun es => PX_map hv m.bases es, hr⟩
    unfold validS
    have h3 : (m.bases.map (powerG g g.G)).all (otherM g) = true := List.all_eq_true.mpr fun x hx => by
      obtain ⟨b, hb, rfl⟩ := List.mem_map.mp hx
      exact ho b (hr b hb)
    simp [hv, h2, h7, h3, ho m.blind hbr]
  · cases h
section
variable {g : Grp} {m : Mir} {s : Stp} (h : Md g m s)
include h
theorem Md.log_dvd (attrs : List Int) : s.g.Q ∣ logM s m attrs - dot m.bases (expsM attrs) := by
  have := foldl_dot (gv_of h.v).okQ (expsM attrs) m.bases 0
  rwa [Int.zero_add] at this
theorem Md.log_range (attrs : List Int) : 0 ≤ logM s m attrs ∧ logM s m attrs < s.g.Q := by
  rw [logM_eq]
  exact foldl_range (gv_of h.v).okQ _ 0 ⟨by omega, by have := (gv_of h.v).q0; omega⟩
def fineA (s : Stp) (attrs : List Int) : Bool := decide (attrs.length + 1 = s.bases.length) && numsM s 0 attrs && !decide (attrs.headD 0 = 0)
theorem Md.marks (attrs : List Int) : (fineA s attrs = false → markM s attrs = (0, false)) ∧ (fineA s attrs = true → markM s attrs = (powerG s.g s.g.G (logM s m attrs), true)) := by
  have e : (validS s && decide (attrs.length + 1 = s.bases.length) && numsM s 0 attrs && !decide (attrs.headD 0 = 0)) = fineA s attrs := by unfold fineA; rw [h.vs]; simp [Bool.and_assoc]
  constructor
  · intro hf
    unfold markM; rw [e, hf]; rfl
  · intro hf
    unfold markM
    rw [e, hf, if_pos rfl]
    have hl : s.bases.length = (expsM attrs).length := by unfold fineA at hf; simp at hf; show _ = attrs.length + 1; omega
    obtain ⟨_, h1, h2, h3⟩ := prodG_log h.v h.log hl
    have h4 := powerG_range (gv_of h.v) s.g.G (logM s m attrs)
    have h5 : (prodG s.g s.bases (expsM attrs)).1 = powerG s.g s.g.G (logM s m attrs) := by
      refine Cg.eq (P := s.g.P) ?_ ⟨h2, h3⟩ h4
      refine h1.trans (Cg.trans ?_ (powerG_cg (gv_of h.v) _ _).symm)
      rw [Ex_eq h.v (a := logM s m attrs) (h.log_dvd attrs)]
      exact Cg.refl _ _
    rw [h5]
theorem Md.usable (attrs : List Int) : (usableM s attrs).2 = (fineA s attrs && !decide (logM s m attrs = 0)) := by
  unfold usableM
  cases hf : fineA s attrs with
  | false => rw [(h.marks attrs).1 hf]; rfl
  | true =>
    rw [(h.marks attrs).2 hf]
    have h1 := h.log_range attrs
    have h2 : powerG s.g s.g.G (logM s m attrs) = 1 ↔ logM s m attrs = 0 := by
      rw [powG_one h.v, Int.emod_eq_of_lt h1.1 h1.2]
    show (true && !decide (powerG s.g s.g.G (logM s m attrs) = 1)) = _
    rw [decide_eq_decide.mpr h2]
end
end TpA
namespace Go.Proofs
open Go Go.Sh Go.RowKit FdSpec TkSpec CodeSpec
set_option linter.unusedSimpArgs false
set_option linter.unusedVariables false
set_option maxRecDepth 10000
section
variable {K : Value → World → Prop} {w w0 : World} {L : List (Addr × Value)}
theorem local_stpK {K : Value → World → Prop} {T' T2 : TypeId} (s : Stp) (ad : Option Addr) (m c : Nat) (hk : Kn w0 L w)
    (k : ∀ b W, Kn w0 (cellsOf L b 0 (stpC s (.slice ad m c))) W → Below w.heap.size w W → w.heap.size ≤ b → K (.pointer (some ⟨b, 0, none⟩)) W) :
    oM Tryd.prog (.alloc 26) T' [] (fun v w => oM Tryd.prog (.store 26 (.tmp 0) (.tmp 1)) T2 [v, stpV s (.slice ad m c)] (fun _ w => K v w) w) w :=
  local_kn al_stp rfl sz_stp rfl rfl (stp_one s ad m c) hk k
def fineL (q : Int) : Nat → List Int → Bool
  | _, [] => true
  | i, x :: l => (decide (0 ≤ x) && (decide (x < q) && (decide (0 < i) || decide (0 < x)))) && fineL q (i + 1) l
def MfJ (w0 : World) (L : List (Addr × Value)) (q : Int) (F : Bool) (l : List Int) (vs : List Value) (w' : World) : Prop := Kn w0 L w' ∧ ∃ (b : Bool) (i : Nat), vs = [.bool b, .int .i64 (i : Int)] ∧ i ≤ l.length ∧ (b && fineL q i (l.drop i)) = F
def mu2 (n : Nat) : List Value → World → Nat := fun l _ => match l with | [_, .int _ i] => n - i.toNat | _ => 0
theorem mu2_eq (n : Nat) (u : Value) (k : IntKind) (i : Int) (w : World) : mu2 n [u, .int k i] w = n - i.toNat := rfl
theorem fineL_succ (q : Int) : ∀ (i : Nat) (l : List Int), fineL q (i + 1) l = l.all fun n => decide (0 ≤ n) && decide (n < q)
  | _, [] => rfl
  | i, x :: l => by rw [fineL, fineL_succ q (i + 1) l, List.all_cons]; simp [Bool.and_assoc]
theorem fineL_eq {s : Stp} {m : Mir} {g : Grp} (h : TpA.Md g m s) (l : List Int) : (decide ((l.length : Int) = (m.bases.length : Int) - 1) && fineL s.g.Q 0 l) = TpA.fineA s l := by
  have h2 := h.b2
  have hl := h.len
  have e : decide ((l.length : Int) = (m.bases.length : Int) - 1) = decide (l.length + 1 = s.bases.length) := decide_eq_decide.mpr (by omega)
  rw [e]
  unfold TpA.fineA numsM
  cases l with
  | nil =>
    have : ¬ (0 + 1 = s.bases.length) := by omega
    simp [this]
  | cons x l =>
    rw [fineL, fineL_succ, List.all_cons, Bool.eq_iff_iff]
    simp only [Bool.and_eq_true, Bool.or_eq_true, decide_eq_true_eq, List.all_eq_true, List.headD_cons, Bool.not_eq_true', decide_eq_false_iff_not]
    constructor
    · rintro ⟨a, ⟨b, c, d⟩, f⟩
      exact ⟨⟨a, ⟨b, c⟩, f⟩, decide_eq_false (by omega)⟩
    · rintro ⟨⟨a, ⟨b, c⟩, f⟩, d⟩
      have d : ¬ x = 0 := of_decide_eq_false d
      exact ⟨a, ⟨b, c, by omega⟩, f⟩
theorem made_of {c : Cas} (h : (madeM c).2 = true) : TpA.Md (makeG c.q).1 c.m (madeM c).1 ∧ (madeM c).1.g.Q = c.q := by
  unfold madeM at h ⊢
  split at h
  · rename_i h0
    rw [if_pos h0]
    have h1 := TpA.made_md h
    exact ⟨h1, by rw [h1.eg]; exact (TpA.makeG_valid h0).2⟩
  · cases h
def MsJ (w0 : World) (L : List (Addr × Value)) (q F : Int) (n : Nat) (l : List (Int × Int)) (vs : List Value) (w' : World) : Prop := Kn w0 L w' ∧ ∃ (o : Int) (i : Nat), vs = [.int .i64 o, .int .i64 (i : Int)] ∧ i ≤ n ∧ (l.drop i).foldl (fun o p => addM q o (mulM q p.1 p.2)) o = F
theorem marks_ok (c : Cas) {mv av yv : Value} (hT : DbT w) (hL : Cd.Laid w) (hc : CasR w c mv av yv) (k : ∀ w', Below w.heap.size w w' → K (.bool true) w') :
    callM Tryd.prog 4 #[casV c mv av yv] K w := by
  apply sh_4_ok
  unfold sh_4
  have hc' := hc
  have hm := hc.m.ints
  have hat := hc.attrs
  obtain ⟨mad, mc, rfl⟩ := hc.m.ints.isSlice
  obtain ⟨aad, ac, rfl⟩ := hc.attrs.isSlice
  obtain ⟨yad, yc, rfl⟩ := hc.b.ys.isSlice
  refine box_kn (cs := casC c (.slice mad c.m.bases.length mc) (.slice aad c.attrs.length ac) (.slice yad c.b.ys.length yc)) rfl (.start w) fun b1 W hk hb1 hbb => ?_
  clear hb1
  refine sane_ok (hT.next hk.below) (hL.below hk.below hL.size) (fun w1 h => ?_)
  have hk := hk.next h
  clear h
  repeat (any_goals ((with_reducible refine idO ?_); (with_reducible refine oM_gen fun Kv hK=>?_); simp [go_sem, hk.cells]; refine hK _ _ ?_; clear hK; clear Kv))
  refine made_ok c (hT.next hk.below) (hc'.next hk.below) (fun w4 sv h4 hs _ => ?_)
  have hk := hk.next h4
  clear h4
  obtain ⟨sad, sc, rfl⟩ := hs.ints.isSlice
  iterate 2 (any_goals ((with_reducible refine idO ?_); (with_reducible refine oM_gen fun Kv hK=>?_); simp [go_sem]; refine hK _ _ ?_; clear hK; clear Kv))
  refine local_stpK _ _ _ _ hk (fun g1 w5 hk h5 hg1 => ?_)
  have hs := hs.next h5
  clear h5
  repeat (any_goals ((with_reducible refine idO ?_); (with_reducible refine oM_gen fun Kv hK=>?_); simp [go_sem, hk.cells]; refine hK _ _ ?_; clear hK; clear Kv))
  refine small_ok c (hc'.next hk.below) (fun w6 h6 => ?_)
  have hk := hk.next h6
  have hs := hs.next h6
  clear h6
  cases hsm : smallM c with
  | false =>
    repeat (any_goals (first
    | (with_reducible first|((refine idGd ?_); refine zD ?_)|((refine idPick ?_); refine yB ?_)|((refine idCond ?_); refine yL ?_))
    | ((with_reducible refine idO ?_); (with_reducible refine oM_gen fun Kv hK=>?_); simp [go_sem]; refine hK _ _ ?_; clear hK; clear Kv)))
    exact k _ hk.below
  | true =>
  cases hmd : (madeM c).2 with
  | false =>
    repeat (any_goals (first
    | (with_reducible first|refine pureM_in ?_|((refine idGd ?_); refine zC ?_)|((refine idPick ?_); refine yC ?_)|((refine idCond ?_); refine yL ?_))
    | ((with_reducible refine idO ?_); (with_reducible refine oM_gen fun Kv hK=>?_); simp [go_sem]; refine hK _ _ ?_; clear hK; clear Kv)))
    exact k _ hk.below
  | true =>
  have hml : c.m.bases.length ≤ 9 := by unfold smallM at hsm; simp at hsm; omega
  have hal : c.attrs.length ≤ 9 := by unfold smallM at hsm; simp at hsm; omega
  have e0 : IntKind.i64.wrap ((c.m.bases.length : Int) - 1) = (c.m.bases.length : Int) - 1 := wrapI64 _ (by omega) (by omega)
  repeat (any_goals (first
  | (with_reducible first|refine pureM_in ?_|((refine idGd ?_); refine zC ?_)|((refine idPick ?_); refine yC ?_)|((refine idCond ?_); refine yM ?_))
  | ((with_reducible refine idO ?_); (with_reducible refine oM_gen fun Kv hK=>?_); simp [go_sem, hk.cells, e0]; refine hK _ _ ?_; clear hK; clear Kv)))
  have hb6 := hk.below
  have hk : Kn w6 _ w6 := ⟨Below.refl _ _, hk.cells⟩
  have hat := hat.next hb6
  have hmi := hm.next hb6
  have k : ∀ w', Below w6.heap.size w6 w' → K (.bool true) w' := fun w' h => k w' (hb6.on h)
  refine ⟨MfJ w6 _ c.q (decide ((c.attrs.length : Int) = (c.m.bases.length : Int) - 1) && fineL c.q 0 c.attrs) c.attrs, mu2 c.attrs.length, ⟨hk, _, 0, rfl, by omega, rfl⟩, ?_⟩
  generalize hFF : (decide ((c.attrs.length : Int) = (c.m.bases.length : Int) - 1) && fineL c.q 0 c.attrs) = F
  clear hk
  rintro _ _ w7 ⟨hk, b, i, rfl, hi, hF⟩
  have hs7 := hs
  by_cases hin : i = c.attrs.length
  · have hge : ¬ (i : Int) < c.attrs.length := by omega
    rw [List.drop_of_length_le (by omega)] at hF
    have hF : b = F := by simpa [fineL] using hF
    subst hF
    obtain ⟨md, hQ⟩ := made_of hmd
    have hFA := fineL_eq md c.attrs
    rw [hQ, hFF] at hFA
    have hmk := md.marks c.attrs
    have hus := md.usable c.attrs
    generalize (madeM c).1 = s at *
    repeat (any_goals (first
    | (with_reducible first|((refine idGd ?_); refine zA ?_)|((refine idCond ?_); first|refine yM ?_|refine yV (fun hg=>?_) fun hg=>?_))
    | ((with_reducible refine idO ?_); (with_reducible refine oM_gen fun Kv hK=>?_); simp [go_sem, hk.cells, hge]; refine hK _ _ ?_; clear hK; clear Kv)))
    · subst hg
      have hmk := hmk.2 hFA.symm
      rw [← hFA, Bool.true_and] at hus
      have hlen : c.attrs.length + 1 = c.m.bases.length := by
        have h2 := hFA.symm
        unfold TpA.fineA at h2
        simp only [Bool.and_eq_true, decide_eq_true_eq] at h2
        have := md.len
        omega
      refine Exps_ok (hat.next hk.below) (by omega) (fun ev w8 h8 he => ?_)
      have hk := hk.next h8
      have hs8 := hs7.next hk.below
      clear h8
      have hb8 := hk.below
      have hk : Kn w8 _ w8 := ⟨Below.refl _ _, hk.cells⟩
      have hat := hat.next hb8
      have hmi := hmi.next hb8
      have k : ∀ w', Below w8.heap.size w8 w' → K (.bool true) w' := fun w' h => k w' (hb8.on h)
      obtain ⟨ead, ec, rfl⟩ := he.isSlice
      have hel : (expsM c.attrs).length = c.attrs.length + 1 := rfl
      have hlog : logM s c.m c.attrs = ((expsM c.attrs).zip c.m.bases).foldl (fun o p => addM c.q o (mulM c.q p.1 p.2)) 0 := by rw [TpA.logM_eq, hQ]
      refine ⟨MsJ w8 _ c.q (logM s c.m c.attrs) (c.attrs.length + 1) ((expsM c.attrs).zip c.m.bases), mu2 (c.attrs.length + 1), ⟨hk, 0, 0, rfl, by omega, hlog.symm⟩, ?_⟩
      clear hk
      rintro _ _ w9 ⟨hk, o, i, rfl, hi, hF⟩
      by_cases hin : i = c.attrs.length + 1
      · have hge : ¬ (i : Int) < (expsM c.attrs).length := by omega
        rw [List.drop_of_length_le (by rw [List.length_zip]; omega)] at hF
        have hF : o = logM s c.m c.attrs := hF
        rw [← hF] at hmk hus
        repeat (any_goals (first
        | (with_reducible first|((refine idGd ?_); refine zB ?_)|((refine idPick ?_); refine yC ?_)|((refine idCond ?_); refine yM ?_))
        | ((with_reducible refine idO ?_); (with_reducible refine oM_gen fun Kv hK=>?_); simp [go_sem, hk.cells, hge]; refine hK _ _ ?_; clear hK; clear Kv)))
        have hk := hk.drew
        refine ⟨Nx { w9 with drawn := w9.drawn + 1 }, Below.refl _ _, rfl, ?_⟩
        generalize ({ w9 with drawn := w9.drawn + 1 } : World) = W at hk ⊢
        repeat (any_goals (first
        | (with_reducible first|refine pureH_in ?_|((refine idGdH ?_); refine gdH_conv fun _=>?_)|((refine idGd ?_); refine zA ?_))
        | ((with_reducible refine idOH ?_); (with_reducible refine oH_of ⟨_, rfl⟩ (fun W0 hW0 => by (refine oM_gen (fun Kv hK => ?_)); simp [go_sem, (hk.next hW0).cells]; (first | exact hK _ _ ⟨rfl, rfl⟩ | exact ⟨by omega, hK _ _ ⟨rfl, rfl⟩⟩)) ?_))))
        refine ⟨Nx, ?_⟩
        apply monoE
        · intro w1 h1
          repeat (any_goals (with_reducible ((refine idGd ?_); refine zA ?_)))
          exact Mark_ok s (hs8.next (hk.next h1).below) (hat.next (hk.next h1).below) (fun w2 h2 => ⟨h1.on h2, h2, rfl⟩)
        apply monoE
        · intro w1 h1
          repeat (any_goals (with_reducible ((refine idGd ?_); refine zA ?_)))
          exact Power_ok s.g _ _ (fun w2 h2 => ⟨h1.on h2, h2, rfl⟩)
        rw [hmk]
        repeat (apply monoE; focus (intro w9 h9; (repeat (intro v9 e9; try (obtain rfl := e9))); (repeat (any_goals (first
          | (with_reducible first|((refine idGd ?_); refine zA ?_)|((refine idPick ?_); refine yB ?_))
          | ((with_reducible refine idO ?_); (with_reducible refine oM_gen fun Kv hK=>?_); simp [go_sem, (hk.next h9).cells]; refine hK _ _ ?_; clear hK; clear Kv)))); exact ⟨h9, Below.refl _ _, rfl⟩))
        apply monoE
        · rintro w1 h1 _ rfl _ rfl _ rfl
          repeat (any_goals (with_reducible ((refine idGd ?_); refine zA ?_)))
          exact Usable_ok s (hs8.next (hk.next h1).below) (hat.next (hk.next h1).below) (fun w2 h2 => ⟨h1.on h2, h2, rfl⟩)
        rw [hus]
        repeat (apply monoE; focus (intro w9 h9; (repeat (intro v9 e9; try (obtain rfl := e9))); (repeat (any_goals (first
          | (with_reducible first|refine pureM_in ?_|((refine idGd ?_); refine zA ?_))
          | ((with_reducible refine idO ?_); (with_reducible refine oM_gen fun Kv hK=>?_); simp [go_sem, (hk.next h9).cells]; refine hK _ _ ?_; clear hK; clear Kv)))); exact ⟨h9, Below.refl _ _, rfl⟩))
        (intro w9 h9; repeat (intro v9 e9; try (obtain rfl := e9)))
        have hk := hk.next h9
        clear h9
        repeat (any_goals (first
        | (with_reducible first|((refine idGd ?_); refine zA ?_)|((refine idPick ?_); refine yB ?_))
        | ((with_reducible refine idO ?_); (with_reducible refine oM_gen fun Kv hK=>?_); simp [go_sem]; refine hK _ _ ?_; clear hK; clear Kv)))
        exact k _ hk.below
      · have hlt : (i : Int) < (expsM c.attrs).length := by omega
        have hlt2 : (i : Int) < c.m.bases.length := by omega
        rw [List.drop_eq_getElem_cons (by rw [List.length_zip]; omega), List.foldl_cons, List.getElem_zip] at hF
        obtain ⟨eb, eo, rfl, heb, ce, _, _⟩ := he.at (i := i) (by omega)
        obtain ⟨mb, mo, rfl, hmb, cm, _, _⟩ := hmi.at (i := i) (by omega)
        generalize (expsM c.attrs)[i]'(by omega) = x at ce hF
        generalize c.m.bases[i]'(by omega) = y at cm hF
        have ei : IntKind.i64.wrap ((i : Int) + 1) = (i : Int) + 1 := wrapI64 _ (by omega) (by omega)
        repeat (any_goals (first
        | (with_reducible first|refine pureM_in ?_|((refine idGd ?_); refine zA ?_)|((refine idPick ?_); refine yB ?_)|((refine idCond ?_); refine yL ?_))
        | ((with_reducible refine idO ?_); (with_reducible refine oM_gen fun Kv hK=>?_); simp [go_sem, hk.cells, hlt, hlt2]; refine hK _ _ ?_; clear hK; clear Kv)))
        have hk := hk.drew
        refine ⟨Nx { w9 with drawn := w9.drawn + 1 }, Below.refl _ _, rfl, ?_⟩
        generalize ({ w9 with drawn := w9.drawn + 1 } : World) = W at hk ⊢
        repeat (any_goals (first
        | (with_reducible refine pureH_in ?_)
        | ((with_reducible refine idOH ?_); (with_reducible refine oH_of ⟨_, rfl⟩ (fun W0 hW0 => by (refine oM_gen (fun Kv hK => ?_)); simp [go_sem, (hk.next hW0).cells, ce _ (hk.next hW0).below, cm _ (hk.next hW0).below, hlt, hlt2]; (first | exact hK _ _ ⟨rfl, rfl⟩ | exact ⟨by omega, hK _ _ ⟨rfl, rfl⟩⟩)) ?_))))
        refine ⟨Nx, ?_⟩
        apply monoE
        · intro w1 h1
          exact Mul_ok _ _ _ (fun w2 h2 => ⟨h1.on h2, h2, rfl⟩)
        (intro w9 h9; repeat (intro v9 e9; try (obtain rfl := e9)))
        have hk := hk.next h9
        clear h9
        skip
        refine Add_ok _ _ _ ?_
        repeat (any_goals ((with_reducible refine idO ?_); (with_reducible refine oM_gen fun Kv hK=>?_); simp [go_sem, ei]; refine hK _ _ ?_; clear hK; clear Kv))
        exact ⟨⟨hk, _, i + 1, rfl, by omega, hF⟩, by simp only [mu2_eq]; omega⟩
    · subst hg
      have hmk := hmk.1 hFA.symm
      rw [← hFA, Bool.false_and] at hus
      refine Mark_ok s (hs7.next hk.below) (hat.next hk.below) (fun w8 h8 => ?_)
      have hk := hk.next h8
      rw [hmk]
      repeat (any_goals (first
      | (with_reducible first|((refine idGd ?_); refine zA ?_)|((refine idPick ?_); refine yB ?_))
      | ((with_reducible refine idO ?_); (with_reducible refine oM_gen fun Kv hK=>?_); simp [go_sem, hk.cells]; refine hK _ _ ?_; clear hK; clear Kv)))
      refine Usable_ok s (hs7.next hk.below) (hat.next hk.below) (fun w9 h9 => ?_)
      have hk := hk.next h9
      rw [hus]
      repeat (any_goals (first
      | (with_reducible first|((refine idGd ?_); refine zA ?_)|((refine idPick ?_); refine yB ?_))
      | ((with_reducible refine idO ?_); (with_reducible refine oM_gen fun Kv hK=>?_); simp [go_sem]; refine hK _ _ ?_; clear hK; clear Kv)))
      exact k _ hk.below
  · have hlt : (i : Int) < c.attrs.length := by omega
    rw [List.drop_eq_getElem_cons (by omega), fineL] at hF
    obtain ⟨xb, xo, rfl, hxb, ca, _, _⟩ := hat.at (i := i) (by omega)
    generalize c.attrs[i]'(by omega) = x at ca hF
    have ei : IntKind.i64.wrap ((i : Int) + 1) = (i : Int) + 1 := wrapI64 _ (by omega) (by omega)
    have key : ∀ {L : List (Addr × Value)} (W w1 : World) (b' : Bool), Kn w6 L W → Nx W w1 → b' = (b && (decide (0 ≤ x) && (decide (x < c.q) && (decide (0 < i) || decide (0 < x))))) → MfJ w6 L c.q F c.attrs [.bool b', .int .i64 ((i : Int) + 1)] w1 ∧ mu2 c.attrs.length [.bool b', .int .i64 ((i : Int) + 1)] w1 < mu2 c.attrs.length [.bool b, .int .i64 (i : Int)] w7 :=
      fun W w1 b' hk h1 e => ⟨⟨hk.next h1, b', i + 1, rfl, by omega, by rw [e, ← hF, Bool.and_assoc]⟩, by simp only [mu2_eq]; omega⟩
    clear hF
    repeat (any_goals (first
    | (with_reducible ((refine idCond ?_); refine yL ?_))
    | ((with_reducible refine idO ?_); (with_reducible refine oM_gen fun Kv hK=>?_); simp [go_sem, hk.cells, hlt]; refine hK _ _ ?_; clear hK; clear Kv)))
    simp only [List.getD_cons_zero, List.getD_cons_succ]
    cases b with
    | false =>
      have hk := hk.drew
      refine ⟨Nx { w7 with drawn := w7.drawn + 1 }, Below.refl _ _, trivial, ?_⟩
      generalize ({ w7 with drawn := w7.drawn + 1 } : World) = W at hk ⊢
      repeat (any_goals (first
      | (with_reducible first|refine pureH_in ?_|((refine idGdH ?_); refine gdH_conv fun _=>?_)|((refine idGd ?_); first|refine zB ?_|refine zE ?_))
      | ((with_reducible refine idOH ?_); (with_reducible refine vB ?_))))
      refine ⟨Nx, fun w1 hn => ?_⟩
      repeat (any_goals ((with_reducible refine idO ?_); (with_reducible refine oM_gen fun Kv hK=>?_); simp [go_sem, ei]; refine hK _ _ ?_; clear hK; clear Kv))
      exact key W w1 _ hk hn (by simp [])
    | true =>
      by_cases h0 : 0 ≤ x
      · by_cases h1 : x < c.q
        · by_cases h2 : (0 : Int) < (i : Int)
          · have h2n : 0 < i := by omega
            have hk := hk.drew
            refine ⟨Nx { w7 with drawn := w7.drawn + 1 }, Below.refl _ _, trivial, ?_⟩
            generalize ({ w7 with drawn := w7.drawn + 1 } : World) = W at hk ⊢
            repeat (any_goals (first
            | (with_reducible first|refine pureH_in ?_|((refine idGdH ?_); refine gdH_conv fun _=>?_)|((refine idGd ?_); first|refine zA ?_|((refine idGdD ?_); refine zJ ?_)))
            | ((with_reducible refine idOH ?_); first|(with_reducible first|refine vA ?_|refine vC ?_)|(with_reducible refine oH_of ⟨_, rfl⟩ (fun W0 hW0 => by (refine oM_gen (fun Kv hK => ?_)); simp [go_sem, (hk.next hW0).cells, ca _ (hk.next hW0).below, h0, h1, h2]; (first | exact hK _ _ ⟨rfl, rfl⟩ | exact ⟨by omega, hK _ _ ⟨rfl, rfl⟩⟩)) ?_))))
            refine ⟨Nx, fun w1 hn => ?_⟩
            repeat (any_goals ((with_reducible refine idO ?_); (with_reducible refine oM_gen fun Kv hK=>?_); simp [go_sem, ei]; refine hK _ _ ?_; clear hK; clear Kv))
            exact key W w1 _ hk hn (by simp [h0, h1, h2n])
          · by_cases h3 : 0 < x
            · have h2n : ¬ 0 < i := by omega
              have hk := hk.drew
              refine ⟨Nx { w7 with drawn := w7.drawn + 1 }, Below.refl _ _, trivial, ?_⟩
              generalize ({ w7 with drawn := w7.drawn + 1 } : World) = W at hk ⊢
              repeat (any_goals (first
              | (with_reducible first|refine pureH_in ?_|((refine idGdH ?_); refine gdH_conv fun _=>?_)|((refine idGd ?_); first|refine zA ?_|((refine idGdD ?_); refine zI ?_)))
              | ((with_reducible refine idOH ?_); first|(with_reducible first|refine vA ?_|refine vD ?_)|(with_reducible refine oH_of ⟨_, rfl⟩ (fun W0 hW0 => by (refine oM_gen (fun Kv hK => ?_)); simp [go_sem, (hk.next hW0).cells, ca _ (hk.next hW0).below, h0, h1, h2, h3]; (first | exact hK _ _ ⟨rfl, rfl⟩ | exact ⟨by omega, hK _ _ ⟨rfl, rfl⟩⟩)) ?_))))
              refine ⟨Nx, fun w1 hn => ?_⟩
              repeat (any_goals ((with_reducible refine idO ?_); (with_reducible refine oM_gen fun Kv hK=>?_); simp [go_sem, ei]; refine hK _ _ ?_; clear hK; clear Kv))
              exact key W w1 _ hk hn (by simp [h0, h1, h2n, h3])
            · have h2n : ¬ 0 < i := by omega
              have hk := hk.drew
              refine ⟨Nx { w7 with drawn := w7.drawn + 1 }, Below.refl _ _, trivial, ?_⟩
              generalize ({ w7 with drawn := w7.drawn + 1 } : World) = W at hk ⊢
              repeat (any_goals (first
              | (with_reducible first|refine pureH_in ?_|((refine idGdH ?_); refine gdH_conv fun _=>?_)|((refine idGd ?_); first|refine zA ?_|((refine idGdD ?_); refine zI ?_)))
              | ((with_reducible refine idOH ?_); first|(with_reducible first|refine vA ?_|refine vD ?_)|(with_reducible refine oH_of ⟨_, rfl⟩ (fun W0 hW0 => by (refine oM_gen (fun Kv hK => ?_)); simp [go_sem, (hk.next hW0).cells, ca _ (hk.next hW0).below, h0, h1, h2, h3]; (first | exact hK _ _ ⟨rfl, rfl⟩ | exact ⟨by omega, hK _ _ ⟨rfl, rfl⟩⟩)) ?_))))
              refine ⟨Nx, fun w1 hn => ?_⟩
              repeat (any_goals ((with_reducible refine idO ?_); (with_reducible refine oM_gen fun Kv hK=>?_); simp [go_sem, ei]; refine hK _ _ ?_; clear hK; clear Kv))
              exact key W w1 _ hk hn (by simp [h0, h1, h2n, h3])
        · have hk := hk.drew
          refine ⟨Nx { w7 with drawn := w7.drawn + 1 }, Below.refl _ _, trivial, ?_⟩
          generalize ({ w7 with drawn := w7.drawn + 1 } : World) = W at hk ⊢
          repeat (any_goals (first
          | (with_reducible first|refine pureH_in ?_|((refine idGdH ?_); refine gdH_conv fun _=>?_)|((refine idGd ?_); first|refine zA ?_|refine zB ?_|refine zE ?_))
          | ((with_reducible refine idOH ?_); first|(with_reducible first|refine vA ?_|refine vB ?_)|(with_reducible refine oH_of ⟨_, rfl⟩ (fun W0 hW0 => by (refine oM_gen (fun Kv hK => ?_)); simp [go_sem, (hk.next hW0).cells, ca _ (hk.next hW0).below, h0, h1]; (first | exact hK _ _ ⟨rfl, rfl⟩ | exact ⟨by omega, hK _ _ ⟨rfl, rfl⟩⟩)) ?_))))
          refine ⟨Nx, fun w1 hn => ?_⟩
          repeat (any_goals ((with_reducible refine idO ?_); (with_reducible refine oM_gen fun Kv hK=>?_); simp [go_sem, ei]; refine hK _ _ ?_; clear hK; clear Kv))
          exact key W w1 _ hk hn (by simp [h0, h1])
      · have hk := hk.drew
        refine ⟨Nx { w7 with drawn := w7.drawn + 1 }, Below.refl _ _, trivial, ?_⟩
        generalize ({ w7 with drawn := w7.drawn + 1 } : World) = W at hk ⊢
        repeat (any_goals (first
        | (with_reducible first|refine pureH_in ?_|((refine idGdH ?_); refine gdH_conv fun _=>?_)|((refine idGd ?_); first|refine zA ?_|refine zB ?_|refine zE ?_))
        | ((with_reducible refine idOH ?_); first|(with_reducible first|refine vA ?_|refine vB ?_)|(with_reducible refine oH_of ⟨_, rfl⟩ (fun W0 hW0 => by (refine oM_gen (fun Kv hK => ?_)); simp [go_sem, (hk.next hW0).cells, ca _ (hk.next hW0).below, h0]; (first | exact hK _ _ ⟨rfl, rfl⟩ | exact ⟨by omega, hK _ _ ⟨rfl, rfl⟩⟩)) ?_))))
        refine ⟨Nx, fun w1 hn => ?_⟩
        repeat (any_goals ((with_reducible refine idO ?_); (with_reducible refine oM_gen fun Kv hK=>?_); simp [go_sem, ei]; refine hK _ _ ?_; clear hK; clear Kv))
        exact key W w1 _ hk hn (by simp [h0])
end
end Go.Proofs
namespace Go.Proofs
open Go Go.Sh Go.RowKit Go.Lib CodeSpec TkSpec FdSpec Go.ChangeShapes Go.WideShapes Go.ChangeAt Go.Deep
set_option linter.unusedSimpArgs false
set_option maxRecDepth 100000
section
variable {H : Type} {enc : TypeId × Value → H} {w : World} {sp : Nat → Bool} {hd : Bool}
theorem open_mir {n : Nat} {cs : List Value} {D : DataW H × List MemPlace} (h : DataW.trod enc Tryd.prog w 0 sp hd n 45 cs = some D) : ∃ m v, cs = [v, .int .i64 m.blind] ∧ MirR w m v := by
  obtain ⟨hcl, hf⟩ := open_fields Tryd.underlying45 (by kernel_rfl) (by kernel_rfl) h
  obtain ⟨v0, y0, m0, c0, f0⟩ := hf 0 _ rfl
  obtain ⟨v1, y1, m1, c1, f1⟩ := hf 1 _ rfl
  obtain ⟨l0, h0⟩ := open_ints f0
  obtain ⟨k1, e1, _, w1⟩ := DataW.trod_int Tryd.underlying3 f1
  simp only [List.cons.injEq, and_true] at e1
  have h6 : cs.length = 2 := hcl
  refine ⟨⟨l0, k1⟩, v0, ?_, ⟨h0, intR w1⟩⟩
  match cs, h6 with
  | [x0, x1], _ =>
    simp only [List.getElem?_cons_zero, List.getElem?_cons_succ, Option.some.injEq] at c0 c1
    rw [c0, c1, e1]
theorem open_bldC {n : Nat} {cs : List Value} {D : DataW H × List MemPlace} (h : DataW.trod enc Tryd.prog w 0 sp hd n 47 cs = some D) : ∃ b x, cs = [.int .i64 b.s, .int .i64 b.u, .int .i64 b.v, x] ∧ BldR w b x := by
  obtain ⟨hcl, hf⟩ := open_fields Tryd.underlying47 (by kernel_rfl) (by kernel_rfl) h
  obtain ⟨v0, y0, m0, c0, f0⟩ := hf 0 _ rfl
  obtain ⟨v1, y1, m1, c1, f1⟩ := hf 1 _ rfl
  obtain ⟨v2, y2, m2, c2, f2⟩ := hf 2 _ rfl
  obtain ⟨v3, y3, m3, c3, f3⟩ := hf 3 _ rfl
  obtain ⟨k0, e0, _, w0⟩ := DataW.trod_int Tryd.underlying3 f0
  obtain ⟨k1, e1, _, w1⟩ := DataW.trod_int Tryd.underlying3 f1
  obtain ⟨k2, e2, _, w2⟩ := DataW.trod_int Tryd.underlying3 f2
  obtain ⟨l3, h3⟩ := open_ints f3
  simp only [List.cons.injEq, and_true] at e0 e1 e2
  refine ⟨⟨k0, k1, k2, l3⟩, v3, ?_, ⟨intR w0, intR w1, intR w2, h3⟩⟩
  have h6 : cs.length = 4 := hcl
  match cs, h6 with
  | [x0, x1, x2, x3], _ =>
    simp only [List.getElem?_cons_zero, List.getElem?_cons_succ, Option.some.injEq] at c0 c1 c2 c3
    rw [c0, c1, c2, c3, e0, e1, e2]
theorem cells_mir : Tryd.prog.cellsOf 45 = 2 := by kernel_rfl
theorem cells_bld : Tryd.prog.cellsOf 47 = 4 := by kernel_rfl
theorem cells_cas : Tryd.prog.cellsOf 49 = 10 := by kernel_rfl
theorem open_cas {b0 : Nat} {v : Value} {d : DataW H} {ps : List MemPlace} (hval : Value.okWide Tryd.prog w .any b0 49 v) (h : DataW.Trod enc Tryd.prog w 0 sp hd 49 v d ps) : ∃ c mv av yv, v = casV c mv av yv ∧ CasR w c mv av yv := by
  obtain ⟨cs, rfl, hs⟩ := okWide_struct Tryd.underlying49 hval
  obtain ⟨fuel, hf⟩ := h
  have hf : DataW.trod enc Tryd.prog w 0 sp hd fuel 49 cs.toList = some (d, ps) := hf
  obtain ⟨xs, m, _, _, hcl, hxl, hf⟩ := DataW.trod_struct Tryd.underlying49 hf
  rw [cells_cas] at hcl
  have hcs : cs = cs.toList.toArray := by simp
  rw [hcs]
  clear hs hcs
  generalize cs.toList = l at *
  have hxl : xs.length = 6 := hxl
  match l, hcl, xs, hxl with
  | [x0, x1, x2, x3, x4, x5, x6, x7, x8, x9], _, [y0, y1, y2, y3, y4, y5], _ =>
    have f0 : DataW.trod enc Tryd.prog w 0 sp hd m 3 (([x0, x1, x2, x3, x4, x5, x6, x7, x8, x9].drop 0).take (Tryd.prog.cellsOf 3)) = some y0 := hf 0 _ rfl
    have f1 : DataW.trod enc Tryd.prog w 0 sp hd m 45 (([x0, x1, x2, x3, x4, x5, x6, x7, x8, x9].drop 1).take (Tryd.prog.cellsOf 45)) = some y1 := hf 1 _ rfl
    have f2 : DataW.trod enc Tryd.prog w 0 sp hd m 3 (([x0, x1, x2, x3, x4, x5, x6, x7, x8, x9].drop 3).take (Tryd.prog.cellsOf 3)) = some y2 := hf 2 _ rfl
    have f3 : DataW.trod enc Tryd.prog w 0 sp hd m 3 (([x0, x1, x2, x3, x4, x5, x6, x7, x8, x9].drop 4).take (Tryd.prog.cellsOf 3)) = some y3 := hf 3 _ rfl
    have f4 : DataW.trod enc Tryd.prog w 0 sp hd m 24 (([x0, x1, x2, x3, x4, x5, x6, x7, x8, x9].drop 5).take (Tryd.prog.cellsOf 24)) = some y4 := hf 4 _ rfl
    have f5 : DataW.trod enc Tryd.prog w 0 sp hd m 47 (([x0, x1, x2, x3, x4, x5, x6, x7, x8, x9].drop 6).take (Tryd.prog.cellsOf 47)) = some y5 := hf 5 _ rfl
    rw [cells_int] at f0 f2 f3
    rw [cells_mir] at f1
    rw [cells_ints] at f4
    rw [cells_bld] at f5
    obtain ⟨k0, e0, _, w0⟩ := DataW.trod_int Tryd.underlying3 f0
    obtain ⟨mi, mv, em, hm⟩ := open_mir f1
    obtain ⟨k2, e2, _, w2⟩ := DataW.trod_int Tryd.underlying3 f2
    obtain ⟨k3, e3, _, w3⟩ := DataW.trod_int Tryd.underlying3 f3
    obtain ⟨l4, h4⟩ := open_ints f4
    obtain ⟨bl, bv, eb, hb⟩ := open_bldC f5
    simp only [List.drop_zero, List.take_succ_cons, List.take_zero, List.drop_succ_cons, List.cons.injEq, and_true] at e0 em e2 e3 eb h4
    obtain ⟨em0, em1⟩ := em
    obtain ⟨eb0, eb1, eb2, eb3⟩ := eb
    exact ⟨⟨k0, mi, k2, k3, l4, bl⟩, mv, x5, bv, by rw [e0, em0, em1, e2, e3, eb0, eb1, eb2, eb3], ⟨intR w0, hm, intR w2, intR w3, h4, hb⟩⟩
end
end Go.Proofs

