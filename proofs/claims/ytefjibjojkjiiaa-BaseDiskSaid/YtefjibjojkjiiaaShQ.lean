/- ShQ: a part of the proof of the seat's statements: lemmas about the given translation and plain laws. No condition of its own. -/
import Derived.Test.YtefjibjojkjiiaaShMem
set_option linter.all false
namespace Go.Sh
open Go Go.RowKit
variable {P : Program} {w W0 : World}
/-- a drawn region in one world: each operation as a plain one -/
theorem quietM_one {body : (World → Prop) → Prop} (h : body (fun w' => w' = { w with drawn := w.drawn + 1 })) : quietM w body :=
  ⟨fun w' => w' = { w with drawn := w.drawn + 1 }, rfl, h⟩
theorem oQ_one {o : Op} {T : TypeId} {args : List Value} {K : Value → Prop} (hx : ∃ S : Sem Value, xop o T args = (do let v ← S; pure (.value v))) (h : oM P o T args (fun v w' => w' = W0 ∧ K v) W0) : oQ P o T args (fun w => w = W0) K := by
  obtain ⟨S, hx⟩ := hx
  rw [oM_value hx] at h
  obtain ⟨v, w', hr, rfl, hk⟩ := h
  refine ⟨v, ?_, hk⟩
  rintro w rfl
  rw [hx, Sem.run_bind, hr]
  exact ⟨rfl, rfl⟩
theorem pickQ {b : Bool} {x y : Value} {T : TypeId} {C : World → Prop} {K : Value → Prop} (k : K (bif b then x else y)) : oQ P (.pick (.tmp 0) (.tmp 1) (.tmp 2)) T [.bool b, x, y] C K := by
  refine ⟨_, fun w _ => ?_, k⟩
  simp [xop, execOp, evalL, evE, asBool]
  cases b <;> exact ⟨rfl, rfl⟩
theorem gdQ_conv {g : Bool} {m : (World → Prop) → (Value → Prop) → Prop} {K : Value → Prop} {C : World → Prop} (h : ∀ W0, gdM g (fun K' w => m C (fun v => K' v w)) (fun v _ => K v) W0) : gdQ g m C K := by
  have h := h ⟨#[], default, 0, default, default⟩
  cases g <;> exact h
theorem forall_one {W0 : World} {F : World → Prop} (h : F W0) : ∀ w, (fun w' => w' = W0) w → F w := by rintro w rfl; exact h
section
variable {p : Prop} [Decidable p] {b : Bool} {x y : Value} {T : TypeId} {C : World → Prop} {K : Value → Prop}
theorem pickQ_pos (h : p) (k : K x) : oQ P (.pick (.tmp 0) (.tmp 1) (.tmp 2)) T [.bool (decide p), x, y] C K := pickQ (by rw [decide_eq_true h]; exact k)
theorem pickQ_neg (h : ¬p) (k : K y) : oQ P (.pick (.tmp 0) (.tmp 1) (.tmp 2)) T [.bool (decide p), x, y] C K := pickQ (by rw [decide_eq_false h]; exact k)
theorem pickQn_pos (h : ¬p) (k : K x) : oQ P (.pick (.tmp 0) (.tmp 1) (.tmp 2)) T [.bool (!decide p), x, y] C K := pickQ (by rw [decide_eq_false h]; exact k)
theorem pickQn_neg (h : p) (k : K y) : oQ P (.pick (.tmp 0) (.tmp 1) (.tmp 2)) T [.bool (!decide p), x, y] C K := pickQ (by rw [decide_eq_true h]; exact k)
theorem pickQT (k : K x) : oQ P (.pick (.tmp 0) (.tmp 1) (.tmp 2)) T [.bool true, x, y] C K := pickQ k
theorem pickQF (k : K y) : oQ P (.pick (.tmp 0) (.tmp 1) (.tmp 2)) T [.bool false, x, y] C K := pickQ k
end
theorem pureQ_in {v : Value} {C : World → Prop} {K : Value → Prop} (h : K v) : pureQ v C K := h
end Go.Sh
