/- ShQ2: a part of the proof of the seat's statements: lemmas about the given translation and plain laws. No condition of its own. -/
import Derived.Test.YtefjibjojkjiiaaShStr
set_option linter.all false
/- More steps: quiet regions over a class of worlds; min and max; calls of function values without arguments; bound methods. -/
namespace Go.Sh
open Go Go.RowKit
section
variable {P : Program} {w : World}
theorem oQ_of {o : Op} {T : TypeId} {args : List Value} {C : World → Prop} {K : Value → Prop} {v : Value} (hx : ∃ S : Sem Value, xop o T args = (do let v ← S; pure (.value v))) (h : ∀ w, C w → oM P o T args (fun v' w' => v' = v ∧ w' = w) w) (k : K v) : oQ P o T args C K := by
  obtain ⟨S, hx⟩ := hx
  refine ⟨v, fun w hw => ?_, k⟩
  have := h w hw
  rw [oM_value hx] at this
  obtain ⟨v', w', hr, rfl, rfl⟩ := this
  rw [hx, Sem.run_bind, hr]
  exact ⟨rfl, rfl⟩
theorem oQ_nil {a : Addr} {T : TypeId} {C : World → Prop} {K : Value → Prop} (k : K (.pointer (some a))) : oQ P (.nilCheck (.tmp 0)) T [.pointer (some a)] C K :=
  ⟨_, fun w _ => by
    have : (xop (.nilCheck (.tmp 0)) T [.pointer (some a)]).run P w = .ok (.value (.pointer (some a))) w := rfl
    rw [this]; exact ⟨rfl, rfl⟩, k⟩
theorem callQ_of {f : FuncId} {args : Array Value} {C : World → Prop} {K : Value → Prop} {v : Value} (h : ∀ w, C w → callM P f args (fun v' w' => v' = v ∧ C w') w) (k : K v) : callQ P f args C K := by
  refine ⟨v, fun w hw => ?_, k⟩
  exact Calls.mono (h w hw) (fun e w' ⟨v', he, hv, hc⟩ => ⟨by rw [he, hv], hc⟩)
variable {K : Value → World → Prop}
@[go_sem] theorem oM_min (T : TypeId) (ts : Array TypeId) (k : IntKind) (a b : Int) : oM P (.call { callee := .builtin .min, args := #[.tmp 0, .tmp 1], argTypes := ts }) T [.int k a, .int k b] = pureM (.int k (min a b)) := by
  funext K w
  have hr : (Builtin.min_ ts T #[.int k a, .int k b]).run P w = .ok (.int k (min a b)) w := by
    rw [run_min_int2]
    congr 2
    split <;> omega
  rw [oM_value (S := Builtin.min_ ts T #[.int k a, .int k b]) (by simp [xop, execOp, evalL, evE, resolve, invoke, builtin]), hr, ok_iff]
  rfl
@[go_sem] theorem oM_max (T : TypeId) (ts : Array TypeId) (k : IntKind) (a b : Int) : oM P (.call { callee := .builtin .max, args := #[.tmp 0, .tmp 1], argTypes := ts }) T [.int k a, .int k b] = pureM (.int k (max a b)) := by
  funext K w
  have hr : (Builtin.max_ ts T #[.int k a, .int k b]).run P w = .ok (.int k (max a b)) w := by
    rw [run_max_int2]
    congr 2
    split <;> omega
  rw [oM_value (S := Builtin.max_ ts T #[.int k a, .int k b]) (by simp [xop, execOp, evalL, evE, resolve, invoke, builtin]), hr, ok_iff]
  rfl
theorem oM_callv0 {f : FuncId} {fs cs : Array Value} {T : TypeId} {ts : Array TypeId} (hb : isBody P f = true) (h : callM P f (fs ++ #[] ++ cs) K w) : oM P (.call { callee := .value (.tmp 0), args := #[], argTypes := ts }) T [.func (.func f) fs cs] K w :=
  oM_callv _ hb (by simp [xop, execOp, evalL, evE, resolve, Deferred.ofValue, invoke]) h
@[go_sem] theorem oM_quo (t t' T : TypeId) (k : IntKind) (a b : Int) : oM P (.binOp .quo t (.tmp 0) (.tmp 1) t') T [.int k a, .int k b] = onM (b ≠ 0) (.int k (k.wrap (a.tdiv b))) := by
  funext K w
  by_cases hb : b = 0
  · subst hb
    simp [oM, opM, xop, evalL, evE, go_sem, Op.intDiv]
  · simp [oM, opM, xop, evalL, evE, go_sem, Op.intDiv, hb]
@[go_sem] theorem oM_rem (t t' T : TypeId) (k : IntKind) (a b : Int) : oM P (.binOp .rem t (.tmp 0) (.tmp 1) t') T [.int k a, .int k b] = onM (b ≠ 0) (.int k (a.tmod b)) := by
  funext K w
  by_cases hb : b = 0
  · subst hb
    simp [oM, opM, xop, evalL, evE, go_sem, Op.intDiv]
  · simp [oM, opM, xop, evalL, evE, go_sem, Op.intDiv, hb]
@[go_sem] theorem oM_neg (t T : TypeId) (k : IntKind) (a : Int) : oM P (.unOp .neg t (.tmp 0)) T [.int k a] = pureM (.int k (k.wrap (-a))) := by
  funext K w
  simp [oM, opM, xop, evalL, evE, go_sem]
theorem tdivN (a b : Int) (h : 0 ≤ a) : a.tdiv b = a / b := Int.tdiv_eq_ediv_of_nonneg h
theorem tmodN (a b : Int) (h : 0 ≤ a) : a.tmod b = a % b := Int.tmod_eq_emod_of_nonneg h
@[go_sem] theorem oM_makeFunc1 (fn : Fn) (T : TypeId) (x : Value) : oM P (.makeFunc fn #[.tmp 0] #[]) T [x] K w = K (.func fn #[x] #[]) w := oM_of_run (by simp [xop, execOp, evalL, evE, Instr.makeFunc])
end
end Go.Sh
