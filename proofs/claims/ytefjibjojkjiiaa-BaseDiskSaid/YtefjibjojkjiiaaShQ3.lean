/- ShQ3: a part of the proof of the seat's statements: lemmas about the given translation and plain laws. No condition of its own. -/
import Derived.Test.YtefjibjojkjiiaaShQ2
set_option linter.all false
/- More steps: literal slices; the rules for regions whose operations write. -/
namespace Go.Sh
open Go Go.RowKit
section
variable {P : Program} {w : World} {K : Value → World → Prop}
@[go_sem] theorem oM_buildSlice2 (T t i0 i1 : Nat) (x y : Value) (n : Nat) : oM P (.buildSlice t n #[(i0, .tmp 0), (i1, .tmp 1)]) T [x, y] K w = rM ((Instr.buildSlice t n #[(i0, x), (i1, y)]).run P w) K := rM_of (by simp [xop, execOp, evalL, evE])
@[go_sem] theorem oM_buildSlice3 (T t i0 i1 i2 : Nat) (x y z : Value) (n : Nat) : oM P (.buildSlice t n #[(i0, .tmp 0), (i1, .tmp 1), (i2, .tmp 2)]) T [x, y, z] K w = rM ((Instr.buildSlice t n #[(i0, x), (i1, y), (i2, z)]).run P w) K := rM_of (by simp [xop, execOp, evalL, evE])
/-! regions whose operations write -/
variable {C : (Nat → Bool) → World → Prop} {i : Nat} {ds : List Nat}
/-- an operation that does not write -/
theorem oC_of {o : Op} {T : TypeId} {args : List Value} {K : Value → Prop} {v : Value} (hx : ∃ S : Sem Value, xop o T args = (do let v ← S; pure (.value v))) (hr : rests C i ds) (h : ∀ D w, D i = false → upAll ds D → C D w → oM P o T args (fun v' w' => v' = v ∧ w' = w) w) (k : K v) : oC P o T args C i ds K := by
  obtain ⟨S, hx⟩ := hx
  refine ⟨v, fun D w hD hu hw => ?_, k⟩
  have := h D w hD hu hw
  rw [oM_value hx] at this
  obtain ⟨v', w', hrun, rfl, rfl⟩ := this
  rw [hx, Sem.run_bind, hrun]
  exact ⟨rfl, hr D _ hD hu hw⟩
/-- an operation that writes -/
theorem oC_wr {o : Op} {T : TypeId} {args : List Value} {K : Value → Prop} {v : Value} (hx : ∃ S : Sem Value, xop o T args = (do let v ← S; pure (.value v))) (h : ∀ D w, D i = false → upAll ds D → C D w → oM P o T args (fun v' w' => v' = v ∧ C (set1 D i) w') w) (k : K v) : oC P o T args C i ds K := by
  obtain ⟨S, hx⟩ := hx
  refine ⟨v, fun D w hD hu hw => ?_, k⟩
  have := h D w hD hu hw
  rw [oM_value hx] at this
  obtain ⟨v', w', hrun, rfl, hc⟩ := this
  rw [hx, Sem.run_bind, hrun]
  exact ⟨rfl, hc⟩
theorem oC_nil {a : Addr} {T : TypeId} {K : Value → Prop} (hr : rests C i ds) (k : K (.pointer (some a))) : oC P (.nilCheck (.tmp 0)) T [.pointer (some a)] C i ds K :=
  ⟨_, fun D w hD hu hw => by
    have : (xop (.nilCheck (.tmp 0)) T [.pointer (some a)]).run P w = .ok (.value (.pointer (some a))) w := rfl
    rw [this]; exact ⟨rfl, hr D w hD hu hw⟩, k⟩
theorem callC_of {f : FuncId} {args : Array Value} {K : Value → Prop} {v : Value} (h : ∀ D w, D i = false → upAll ds D → C D w → callM P f args (fun v' w' => v' = v ∧ C (set1 D i) w') w) (k : K v) : callC P f args C i ds K :=
  ⟨v, fun D w hD hu hw => Calls.mono (h D w hD hu hw) (fun e w' ⟨v', he, hv, hc⟩ => ⟨by rw [he, hv], hc⟩), k⟩
theorem pureC_of {v : Value} {K : Value → Prop} (hr : rests C i ds) (k : K v) : pureC v C i ds K := ⟨hr, k⟩
theorem gdC_true {m : ((Nat → Bool) → World → Prop) → Nat → List Nat → (Value → Prop) → Prop} {K : Value → Prop} (h : m C i ds K) : gdC true m C i ds K := h
theorem gdC_false {m : ((Nat → Bool) → World → Prop) → Nat → List Nat → (Value → Prop) → Prop} {K : Value → Prop} (hr : rests C i ds) (h : K undef) : gdC false m C i ds K := ⟨hr, h⟩
section
variable {C : World → Prop} {K : Value → Prop} {o : Op} {T : TypeId} {args : List Value} {v : Value}
/-! regions in which some operations only look -/
theorem oH_of (hx : ∃ S : Sem Value, xop o T args = (do let v ← S; pure (.value v))) (h : ∀ w, C w → oM P o T args (fun v' w' => v' = v ∧ w' = w) w) (k : K v) : oH P o T args C K := by
  obtain ⟨S, hx⟩ := hx
  refine ⟨v, fun w hw => ?_, k⟩
  have := h w hw
  rw [oM_value hx] at this
  obtain ⟨v', w', hrun, rfl, rfl⟩ := this
  rw [hx, Sem.run_bind, hrun]
  rfl
theorem oH_nil {a : Addr} (k : K (.pointer (some a))) : oH P (.nilCheck (.tmp 0)) T [.pointer (some a)] C K := ⟨_, fun _ _ => rfl, k⟩
theorem pureH_in (k : K v) : pureH v C K := k
theorem gdH_true {g : Bool} {m : (World → Prop) → (Value → Prop) → Prop} (hg : g = true) (k : m C K) : gdH g m C K := by subst hg; exact k
theorem gdH_false {g : Bool} {m : (World → Prop) → (Value → Prop) → Prop} (hg : g = false) (k : K undef) : gdH g m C K := by subst hg; exact k
end
end
end Go.Sh
