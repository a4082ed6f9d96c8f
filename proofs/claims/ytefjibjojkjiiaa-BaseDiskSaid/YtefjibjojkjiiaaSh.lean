/- Sh: a part of the proof of the seat's statements: lemmas about the given translation and plain laws. No condition of its own. -/
import Derived.Test.YtefjibjojkjiiaaShStage
import Derived.WalkKit
import Derived.Deep.Quiet
set_option linter.all false
/- A second reading of the program's code as formulas: 'code' says of a piece of code, the slots' values and a world what has to hold for the run to end as wished; 'calls_of_code' ties it to the model's own rules. -/
namespace Go.Sh
open Go

abbrev Env := Nat → Value
def evE (e : Env) : Operand → Value
  | .tmp t => e t
  | .const v => v
  | .global g => .pointer (some ⟨g, 0, none⟩)
  | .func f => .func (.func f) #[] #[]
def upd (n : Nat) (e : Env) : Option Nat → Value → Env
  | none, _ => e
  | some d, v => fun i => bif Nat.beq i d && Nat.blt d n then v else e i

/-- the frame 'a' bears the values 'e' -/
structure Rel (n : Nat) (e : Env) (a : Act) : Prop where
  size : a.tmps.size = n
  defers : a.defers = []
  get : ∀ i, a.tmps.getD i undef = e i

theorem Rel.eval {n : Nat} {e : Env} {a : Act} (h : Rel n e a) : a.eval = evE e := by
  funext x
  cases x <;> simp only [Act.eval, evE]
  exact h.get _
theorem Rel.put {n : Nat} {e : Env} {a : Act} (h : Rel n e a) (d : Option Nat) (v : Value) : Rel n (upd n e d v) (a.put d v) := by
  cases d with
  | none => exact h
  | some d =>
    refine ⟨by simp [Act.put, h.size], by simpa [Act.put] using h.defers, fun i => ?_⟩
    have hg := h.get i
    simp only [Act.put, upd, Array.getD_eq_getD_getElem?, Array.getElem?_setIfInBounds, h.size] at hg ⊢
    by_cases hi : i = d
    · subst hi
      by_cases hd : i < n
      · have hb : Nat.blt i n = true := by simpa [Nat.blt, Nat.succ_le_iff] using hd
        simp [hd, hb]
      · have hb : Nat.blt i n = false := by
          cases hx : Nat.blt i n with
          | false => rfl
          | true => exact absurd (by simpa [Nat.blt, Nat.succ_le_iff] using hx) hd
        simp [hd, ← hg, h.size, hb]
    · have hb : Nat.beq i d = false := by
        cases hx : Nat.beq i d with
        | false => rfl
        | true => exact absurd (Nat.eq_of_beq_eq_true hx) hi
      rw [if_neg (fun e => hi e.symm), hg, hb]
      rfl

/-- what one operation asks -/
def opM (P : Program) (s : Sem Next) (K : Value → World → Prop) (w : World) : Prop :=
  match s.run P w with
  | .ok (.value v) w' => K v w'
  | .ok .skip w' => K undef w'
  | .ok (.enter f args) w' => Calls P f args w' (fun e w'' => ∃ v, e = .returned v ∧ K v w'')
  | _ => False
/-- a call of a function of the program -/
def callM (P : Program) (f : FuncId) (args : Array Value) (K : Value → World → Prop) (w : World) : Prop :=
  Calls P f args w (fun e w' => ∃ v, e = .returned v ∧ K v w')
/-- a call of a function without a text of its own -/
def extM (P : Program) (f : FuncId) (args : Array Value) (K : Value → World → Prop) (w : World) : Prop := opM P (callFunc f args) K w
def pureM (v : Value) (K : Value → World → Prop) (w : World) : Prop := K v w

theorem opM_value {P : Program} {x : Sem Value} {K : Value → World → Prop} {w : World} : opM P (do let v ← x; pure (.value v)) K w ↔ ∃ v w', x.run P w = .ok v w' ∧ K v w' := by
  unfold opM
  rw [Sem.run_bind]
  generalize x.run P w = r
  cases r with
  | halt => simp
  | ok v w' => exact ⟨fun h => ⟨v, w', rfl, h⟩, fun ⟨_, _, h, hk⟩ => by cases h; exact hk⟩

theorem opM_mono {P : Program} {s : Sem Next} {K K' : Value → World → Prop} {w : World} (h : opM P s K w) (hk : ∀ v w', K v w' → K' v w') : opM P s K' w := by
  unfold opM at *
  generalize s.run P w = r at *
  cases r with
  | halt => exact h.elim
  | ok n w' =>
    cases n <;> try exact h.elim
    · exact hk _ _ h
    · exact hk _ _ h
    · exact Calls.mono h (fun e w'' ⟨v, hv, h⟩ => ⟨v, hv, hk _ _ h⟩)

theorem opM_wp {P : Program} {o : Oper} {a : Act} {w : World} {next : Act → World → Prop} {Q : Exit → Act → World → Prop}
    (h : opM P (execOp a.eval o) (fun v w' => next (a.put o.dst v) w') w) : o.wp P a w next Q := by
  unfold opM at h; unfold Oper.wp
  generalize (execOp a.eval o).run P w = r at h
  cases r with
  | halt => exact h.elim
  | ok n w' =>
    cases n <;> try exact h.elim
    · exact h
    · exact h
    · rw [Oper.upon_enter]
      refine Calls.mono h ?_
      rintro e w'' ⟨v, rfl, hk⟩
      exact hk

/-- an operation's operands, numbered anew in order; constants stay where the operation looks at them as such -/
def isTmp : Operand → Bool
  | .tmp _ => true
  | _ => false
def isConst : Operand → Bool
  | .const _ => true
  | _ => false
/-- operands 'xs' numbered from 'k' on; with 'keep' the constants stay as they are -/
def num (keep : Bool) : Nat → List Operand → List Operand × List Operand
  | _, [] => ([], [])
  | k, x :: xs => bif keep && isConst x then (x :: (num keep k xs).1, (num keep k xs).2) else (.tmp k :: (num keep (k + 1) xs).1, x :: (num keep (k + 1) xs).2)
def num2 : Nat → List (Nat × Operand) → List (Nat × Operand) × List Operand
  | _, [] => ([], [])
  | k, (i, x) :: xs => ((i, .tmp k) :: (num2 (k + 1) xs).1, x :: (num2 (k + 1) xs).2)
def numO (k : Nat) : Option Operand → Option Operand × List Operand
  | none => (none, [])
  | some x => (some (.tmp k), [x])

def renum : Op → Option (Op × List Operand)
  | .pick c a b => some (.pick (.tmp 0) (.tmp 1) (.tmp 2), [c, a, b])
  | .alloc t => some (.alloc t, [])
  | .box t x => some (.box t (.tmp 0), [x])
  | .build t ps => some (.build t (num2 0 ps.toList).1.toArray, (num2 0 ps.toList).2)
  | .buildSlice t n ps => some (.buildSlice t n (num2 0 ps.toList).1.toArray, (num2 0 ps.toList).2)
  | .load t a => some (.load t (.tmp 0), [a])
  | .store t a x => some (.store t (.tmp 0) (.tmp 1), [a, x])
  | .nilCheck x => some (.nilCheck (.tmp 0), [x])
  | .binOp .eql t x y t' => some (.binOp .eql t ((num true 0 [x, y]).1.getD 0 x) ((num true 0 [x, y]).1.getD 1 x) t', (num true 0 [x, y]).2)
  | .binOp .neq t x y t' => some (.binOp .neq t ((num true 0 [x, y]).1.getD 0 x) ((num true 0 [x, y]).1.getD 1 x) t', (num true 0 [x, y]).2)
  | .binOp o t x y t' => some (.binOp o t (.tmp 0) (.tmp 1) t', [x, y])
  | .unOp o t x => some (.unOp o t (.tmp 0), [x])
  | .convert s d x => some (.convert s d (.tmp 0), [x])
  | .makeInterface t x => some (.makeInterface t (.tmp 0), [x])
  | .makeFunc fn fs cs => some (.makeFunc fn (num false 0 fs.toList).1.toArray (num false fs.size cs.toList).1.toArray, (num false 0 fs.toList).2 ++ (num false fs.size cs.toList).2)
  | .makeMap t r => some (.makeMap t (numO 0 r).1, (numO 0 r).2)
  | .makeSlice t l c => some (.makeSlice t (.tmp 0) (.tmp 1), [l, c])
  | .slice t x lo hi none => some (.slice t (.tmp 0) (numO 1 lo).1 (numO (1 + (numO 1 lo).2.length) hi).1 none, x :: ((numO 1 lo).2 ++ (numO (1 + (numO 1 lo).2.length) hi).2))
  | .fieldAddr t x f => some (.fieldAddr t (.tmp 0) f, [x])
  | .field t x f => some (.field t (.tmp 0) f, [x])
  | .indexAddr t x i => some (.indexAddr t (.tmp 0) (.tmp 1), [x, i])
  | .index t x i => some (.index t (.tmp 0) (.tmp 1), [x, i])
  | .lookup t x i ok => some (.lookup t (.tmp 0) (.tmp 1) ok, [x, i])
  | .mapUpdate t m k x => some (.mapUpdate t (.tmp 0) (.tmp 1) (.tmp 2), [m, k, x])
  | .insert t m k x => some (.insert t (.tmp 0) (.tmp 1) (.tmp 2), [m, k, x])
  | .mapEntry t m k => some (.mapEntry t (.tmp 0) (.tmp 1), [m, k])
  | .entryStore t m s x => some (.entryStore t (.tmp 0) (.tmp 1) (.tmp 2), [m, s, x])
  | .range t x => some (.range t (.tmp 0), [x])
  | .next it s => some (.next (.tmp 0) s, [it])
  | .entry it => some (.entry (.tmp 0), [it])
  | .typeAssert x t t' ok => some (.typeAssert (.tmp 0) t t' ok, [x])
  | .extract t i => some (.extract (.tmp 0) i, [t])
  | .panic x => some (.panic (.tmp 0), [x])
  | .call { callee := .builtin b, args := args, argTypes := ts } => some (.call { callee := .builtin b, args := (num true 0 args.toList).1.toArray, argTypes := ts }, (num true 0 args.toList).2)
  | .call { callee := .value f, args := args, argTypes := ts } => some (.call { callee := .value (.tmp 0), args := (num false 1 args.toList).1.toArray, argTypes := ts }, f :: (num false 1 args.toList).2)
  | _ => none

def evalL (args : List Value) : Operand → Value := evE (fun t => args.getD t undef)

theorem num_eval (keep : Bool) (ρ : Operand → Value) (hc : ∀ v, ρ (.const v) = v) : ∀ (xs : List Operand) (k : Nat) (pre : List Value) (post : List Value), pre.length = k →
    (num keep k xs).1.map (evalL (pre ++ (num keep k xs).2.map ρ ++ post)) = xs.map ρ
  | [], _, _, _, _ => rfl
  | x :: xs, k, pre, post, hk => by
    unfold num
    cases hb : keep && isConst x with
    | true =>
      simp only [cond_true, List.map_cons]
      rw [num_eval keep ρ hc xs k pre post hk]
      congr 1
      cases x <;> simp_all [isConst, evalL, evE]
    | false =>
      simp only [cond_false, List.map_cons]
      have := num_eval keep ρ hc xs (k + 1) (pre ++ [ρ x]) post (by simp [hk])
      simp only [List.append_assoc, List.cons_append, List.nil_append] at this ⊢
      rw [this]
      congr 1
      simp [evalL, evE, ← hk]
theorem num_const (keep : Bool) : ∀ (xs : List Operand) (k : Nat), keep = true → (num keep k xs).1.map isConst = xs.map isConst
  | [], _, _ => rfl
  | x :: xs, k, hk => by
    unfold num
    subst hk
    cases hb : isConst x with
    | true => simp [hb, num_const true xs k rfl]
    | false =>
      simp [hb, num_const true xs (k + 1) rfl]
      rfl
theorem num2_eval (ρ : Operand → Value) : ∀ (xs : List (Nat × Operand)) (k : Nat) (pre : List Value), pre.length = k →
    (num2 k xs).1.map (fun (i, x) => (i, evalL (pre ++ (num2 k xs).2.map ρ) x)) = xs.map (fun (i, x) => (i, ρ x))
  | [], _, _, _ => rfl
  | (i, x) :: xs, k, pre, hk => by
    unfold num2
    simp only [List.map_cons]
    have := num2_eval ρ xs (k + 1) (pre ++ [ρ x]) (by simp [hk])
    simp only [List.append_assoc, List.cons_append, List.nil_append] at this
    rw [this]
    congr 1
    simp [evalL, evE, ← hk]

/-- an operation whose operands are the values 'args', in order -/
def xop (o : Op) (type : TypeId) (args : List Value) : Sem Next := execOp (evalL args) { dst := none, op := o, type := type, pos := "", after := #[], guard := none }

theorem num_arr (ρ : Operand → Value) (hc : ∀ v, ρ (.const v) = v) (keep : Bool) (xs : Array Operand) (k : Nat) (pre post : List Value) (hk : pre.length = k) :
    (num keep k xs.toList).1.toArray.map (evalL (pre ++ (num keep k xs.toList).2.map ρ ++ post)) = xs.map ρ := by
  rw [List.map_toArray, num_eval keep ρ hc _ _ _ _ hk]
  apply Array.ext'
  rw [Array.toList_map]

theorem execOp_renum {ρ : Operand → Value} (hc : ∀ v, ρ (.const v) = v) (o : Oper) (op' : Op) (xs : List Operand) (h : renum o.op = some (op', xs)) :
    execOp ρ o = xop op' o.type (xs.map ρ) := by
  obtain ⟨dst, op, type, pos, after, guard⟩ := o
  unfold xop
  cases op with
  | binOp b t x y t' =>
    cases b with
    | eql => cases x <;> cases y <;> simp only [renum, Option.some.injEq, Prod.mk.injEq] at h <;> obtain ⟨rfl, rfl⟩ := h <;> simp only [num, isConst, Bool.and_true, Bool.and_false, cond_true, cond_false, List.getD_cons_zero, List.getD_cons_succ, List.map_cons, List.map_nil, execOp, evalL, evE, hc] <;> rfl
    | neq => cases x <;> cases y <;> simp only [renum, Option.some.injEq, Prod.mk.injEq] at h <;> obtain ⟨rfl, rfl⟩ := h <;> simp only [num, isConst, Bool.and_true, Bool.and_false, cond_true, cond_false, List.getD_cons_zero, List.getD_cons_succ, List.map_cons, List.map_nil, execOp, evalL, evE, hc] <;> rfl
    | _ => simp only [renum, Option.some.injEq, Prod.mk.injEq] at h; obtain ⟨rfl, rfl⟩ := h; rfl
  | build t ps =>
    simp only [renum, Option.some.injEq, Prod.mk.injEq] at h
    obtain ⟨rfl, rfl⟩ := h
    have := num2_eval ρ ps.toList 0 [] rfl
    simp only [List.nil_append] at this
    have e : Array.map (fun x => (x.1, ρ x.2)) ps = (List.map (fun x => (x.1, ρ x.2)) ps.toList).toArray := by
      apply Array.ext'
      rw [Array.toList_map]
    simp only [execOp, List.map_toArray, this, e]
  | buildSlice t n ps =>
    simp only [renum, Option.some.injEq, Prod.mk.injEq] at h
    obtain ⟨rfl, rfl⟩ := h
    have := num2_eval ρ ps.toList 0 [] rfl
    simp only [List.nil_append] at this
    have e : Array.map (fun x => (x.1, ρ x.2)) ps = (List.map (fun x => (x.1, ρ x.2)) ps.toList).toArray := by
      apply Array.ext'
      rw [Array.toList_map]
    simp only [execOp, List.map_toArray, this, e]
  | makeFunc fn fs cs =>
    simp only [renum, Option.some.injEq, Prod.mk.injEq] at h
    obtain ⟨rfl, rfl⟩ := h
    have h1 := num_arr ρ hc false fs 0 [] ((num false fs.size cs.toList).2.map ρ) rfl
    have hl : ∀ (xs : List Operand) (k : Nat), (num false k xs).2.length = xs.length := by
      intro xs
      induction xs with
      | nil => intro k; rfl
      | cons x xs ih => intro k; simp [num, ih]
    have h2 := num_arr ρ hc false cs fs.size ((num false 0 fs.toList).2.map ρ) [] (by simp [hl])
    simp only [List.nil_append, List.append_nil] at h1 h2
    simp only [execOp, List.map_append, h1, h2]
  | makeMap t r =>
    cases r <;> simp only [renum, numO, Option.some.injEq, Prod.mk.injEq] at h <;> obtain ⟨rfl, rfl⟩ := h <;> rfl
  | slice t x lo hi mx =>
    cases mx <;> cases lo <;> cases hi <;> simp only [renum, numO, Option.some.injEq, Prod.mk.injEq, reduceCtorEq] at h <;> obtain ⟨rfl, rfl⟩ := h <;> rfl
  | call c =>
    obtain ⟨callee, args, ts⟩ := c
    cases callee with
    | invoke r m => simp [renum] at h
    | builtin b =>
      simp only [renum, Option.some.injEq, Prod.mk.injEq] at h
      obtain ⟨rfl, rfl⟩ := h
      have h1 := num_arr ρ hc true args 0 [] [] rfl
      simp only [List.nil_append, List.append_nil] at h1
      have h2 := num_const true args.toList 0 rfl
      simp only [execOp, resolve, h1]
      have e : ∀ G : Operand → Bool, (∀ x, G x = isConst x) → Array.map G args = Array.map G (num true 0 args.toList).1.toArray := by
        intro G hG
        have : G = isConst := funext hG
        subst this
        apply Array.ext'
        rw [Array.toList_map, Array.toList_map]
        exact h2.symm
      exact congrArg (fun cs => (do let d ← pure ({ target := Target.builtin b ts type cs, args := Array.map ρ args } : Deferred); invoke d.target d.args : Sem Next)) (e _ (fun x => by cases x <;> rfl))
    | value f =>
      simp only [renum, Option.some.injEq, Prod.mk.injEq] at h
      obtain ⟨rfl, rfl⟩ := h
      have h1 := num_arr ρ hc false args 1 [ρ f] [] rfl
      simp only [List.append_nil] at h1
      simp only [execOp, resolve, List.map_cons]
      have : evalL (ρ f :: (num false 1 args.toList).2.map ρ) = evalL ([ρ f] ++ (num false 1 args.toList).2.map ρ) := rfl
      rw [this, h1]
      rfl
  | _ => first | (simp only [renum, Option.some.injEq, Prod.mk.injEq] at h; obtain ⟨rfl, rfl⟩ := h; rfl) | (simp [renum] at h)

def oM (P : Program) (o : Op) (type : TypeId) (args : List Value) (K : Value → World → Prop) (w : World) : Prop := opM P (xop o type args) K w
/-- the guard's answer -/
def gd (v : Value) (want : Bool) : Bool := (match (some v : Option Value) with | some (.bool b) => some b | _ => none) == some want
def gdM (g : Bool) (m : (Value → World → Prop) → World → Prop) (K : Value → World → Prop) (w : World) : Prop := bif g then m K w else K undef w
def condM (v : Value) (A B : Prop) : Prop := ∃ t, v = .bool t ∧ (t = true → A) ∧ (t = false → B)

/-- a function of the program with a text of its own -/
def isBody (P : Program) (f : FuncId) : Bool := match P.funcs[f]? with
  | some fn => fn.body.isSome && !(fn.name == "runtime.NumGoroutine")
  | none => false
theorem isBody_run {P : Program} {f : FuncId} (h : isBody P f = true) (args : Array Value) (w : World) : (callFunc f args).run P w = .ok (.enter f args) w := by
  unfold isBody at h
  unfold callFunc
  rw [Sem.run_bind]
  have hp : (program : Sem Program).run P w = .ok P w := rfl
  rw [hp, Result.andThen_ok]
  split at h
  · rename_i fn hfn
    simp only [hfn]
    simp only [Bool.and_eq_true, Bool.not_eq_true'] at h
    have hn : fn.body.isNone = false := by
      have := h.1
      cases hx : fn.body with
      | none => rw [hx] at this; exact absurd this (by simp)
      | some c => rfl
    rw [if_neg (by rw [h.2]; simp), if_neg (by rw [hn]; simp)]
    rfl
  · exact absurd h (by simp)

/-- a call of a function by its number; the operands -/
def static : Op → Option (FuncId × List Operand)
  | .call { callee := .value (.func f), args := args, argTypes := _ } => some (f, args.toList)
  | _ => none
def moved : Op → Option Operand
  | .move x | .assign x => some x
  | _ => none

def op1 (P : Program) (e : Env) (o : Oper) (K : Value → World → Prop) (w : World) : Prop :=
  match moved o.op with
  | some x => K (evE e x) w
  | none =>
    match static o.op with
    | some (f, xs) => match isBody P f with | true => callM P f (xs.map (evE e)).toArray K w | false => extM P f (xs.map (evE e)).toArray K w
    | none =>
      match renum o.op with
      | some (op', xs) => oM P op' o.type (xs.map (evE e)) K w
      | none => False

theorem exec_moved {ρ : Operand → Value} {o : Oper} {x : Operand} (hx : moved o.op = some x) : execOp ρ o = pure (.value (ρ x)) := by
  unfold moved at hx
  split at hx
  · rename_i hop; simp only [Option.some.injEq] at hx; subst hx; unfold execOp; rw [hop]
  · rename_i hop; simp only [Option.some.injEq] at hx; subst hx; unfold execOp; rw [hop]
  · simp at hx
theorem exec_static {ρ : Operand → Value} {o : Oper} {f : FuncId} {xs : List Operand} (hf : ρ (.func f) = .func (.func f) #[] #[]) (hs : static o.op = some (f, xs)) :
    execOp ρ o = callFunc f (xs.map ρ).toArray := by
  unfold static at hs
  split at hs
  · rename_i g args ts hop
    simp only [Option.some.injEq, Prod.mk.injEq] at hs
    obtain ⟨rfl, rfl⟩ := hs
    have e1 : (args.toList.map ρ).toArray = args.map ρ := by
      apply Array.ext'
      rw [Array.toList_map]
    rw [e1]
    unfold execOp
    rw [hop]
    show (do let d ← resolve ρ { callee := .value (.func g), args := args, argTypes := ts } o.type; invoke d.target d.args : Sem Next) = _
    have e2 : (do let d ← resolve ρ { callee := .value (.func g), args := args, argTypes := ts } o.type; invoke d.target d.args : Sem Next) = callFunc g (#[] ++ args.map ρ ++ #[]) := by
      unfold resolve
      simp only [hf]
      rfl
    rw [e2, Array.append_empty, Array.empty_append]
  · simp at hs
theorem op1_opM {P : Program} {e : Env} {o : Oper} {K : Value → World → Prop} {w : World} (h : op1 P e o K w) : opM P (execOp (evE e) o) K w := by
  unfold op1 at h
  split at h
  · rename_i x hx
    rw [exec_moved hx]
    exact h
  · split at h
    · rename_i f xs hs
      rw [exec_static rfl hs]
      cases hb : isBody P f with
      | false => rw [hb] at h; exact h
      | true =>
        rw [hb] at h
        unfold opM
        rw [isBody_run hb]
        exact h
    · split at h
      · rename_i op' xs hr
        rw [execOp_renum (fun _ => rfl) o op' xs hr]
        exact h
      · exact h.elim

def dstOf (all : Array Oper) (j : Nat) : Option Nat := (all[j]?).bind (·.dst)
/-- the guard's answer in the slots 'e' -/
def gdE (all : Array Oper) (e : Env) (j : Nat) (want : Bool) : Bool :=
  match dstOf all j with
  | some d => gd (e d) want
  | none => false

theorem gdE_wanted {n : Nat} {e : Env} {a : Act} (h : Rel n e a) (all : Array Oper) (o : Oper) (j : Nat) (want : Bool) (ho : o.guard = some (j, want)) :
    Region.wanted o (yielded all a.tmps) = gdE all e j want := by
  unfold Region.wanted
  rw [ho]
  show (yielded all a.tmps j == some want) = _
  unfold gdE dstOf yielded
  cases hd : (all[j]?).bind (·.dst) with
  | none => rw [Option.bind_none]; cases want <;> rfl
  | some d =>
    have hg := h.get d
    rw [Option.bind_some]
    show _ = gd (e d) want
    unfold gd
    rw [← hg, Array.getD_eq_getD_getElem?]
    cases hx : a.tmps[d]? with
    | none => cases want <;> rfl
    | some v => rfl

def ops (P : Program) (n : Nat) (all : Array Oper) (K : Env → World → Prop) : List Oper → Env → World → Prop
  | [], e, w => K e w
  | o :: rest, e, w =>
    match o.guard with
    | none => op1 P e o (fun v w' => ops P n all K rest (upd n e o.dst v) w') w
    | some (j, want) => gdM (gdE all e j want) (op1 P e o) (fun v w' => ops P n all K rest (upd n e o.dst v) w') w

/-- 'e'' differs from 'e' at most in the slots 'mods' -/
def AgreeE (mods : List Nat) (e e' : Env) : Prop := ∀ i, mods.contains i = false → e' i = e i
theorem AgreeE.refl (mods : List Nat) (e : Env) : AgreeE mods e e := fun _ _ => rfl
theorem AgreeE.trans {mods : List Nat} {a b c : Env} (h : AgreeE mods a b) (k : AgreeE mods b c) : AgreeE mods a c := fun i hi => (k i hi).trans (h i hi)
theorem AgreeE.mono {m m' : List Nat} {a b : Env} (h : AgreeE m a b) (hm : ∀ i ∈ m, i ∈ m') : AgreeE m' a b := fun i hi => h i (by
  cases hx : m.contains i with
  | false => rfl
  | true =>
    have := hm i (by simpa using hx)
    simp [this] at hi)
theorem AgreeE.upd {mods : List Nat} {n : Nat} {e : Env} {o : Option Nat} (v : Value) (h : ∀ d, o = some d → d ∈ mods) : AgreeE mods e (upd n e o v) := by
  cases o with
  | none => exact AgreeE.refl _ _
  | some d =>
    intro i hi
    unfold Sh.upd
    have hne : i ≠ d := by
      rintro rfl
      have := h i rfl
      simp [this] at hi
    have hb : Nat.beq i d = false := by
      cases hx : Nat.beq i d with
      | false => rfl
      | true => exact absurd (Nat.eq_of_beq_eq_true hx) hne
    simp only [hb, Bool.false_and, cond_false]

theorem ops_wp {P : Program} {n : Nat} {all : Array Oper} {mods : List Nat} {K : Env → World → Prop} : ∀ (l : List Oper) (e : Env) (a : Act) (w : World), Rel n e a →
    (∀ o ∈ l, ∀ d, o.dst = some d → d ∈ mods) → ops P n all K l e w →
    wpList P all (fun ex a' w' => ex = .normal ∧ ∃ e', Rel n e' a' ∧ AgreeE mods e e' ∧ K e' w') l a w
  | [], e, a, w, hr, _, h => ⟨rfl, e, hr, AgreeE.refl _ _, h⟩
  | o :: rest, e, a, w, hr, hm, h => by
    have hp := fun v => AgreeE.upd (n := n) (e := e) (o := o.dst) v (hm o List.mem_cons_self)
    have lift : ∀ v w', ops P n all K rest (Sh.upd n e o.dst v) w' → wpList P all (fun ex a' w' => ex = .normal ∧ ∃ e', Rel n e' a' ∧ AgreeE mods e e' ∧ K e' w') rest (a.put o.dst v) w' := by
      intro v w' h
      have := ops_wp rest _ _ w' (hr.put o.dst v) (fun o ho => hm o (List.mem_cons_of_mem _ ho)) h
      have e0 : (fun (ex : Exit) (a' : Act) (w' : World) => ex = .normal ∧ ∃ e', Rel n e' a' ∧ AgreeE mods e e' ∧ K e' w') = (fun ex a' w' => ex = .normal ∧ ∃ e', Rel n e' a' ∧ AgreeE mods e e' ∧ K e' w') := rfl
      exact wpList_mono rest _ _ this (fun ex a' w' ⟨h0, e', h1, h2, h3⟩ => ⟨h0, e', h1, (hp v).trans h2, h3⟩)
    have one : op1 P e o (fun v w' => ops P n all K rest (Sh.upd n e o.dst v) w') w → o.wp P a w (wpList P all (fun ex a' w' => ex = .normal ∧ ∃ e', Rel n e' a' ∧ AgreeE mods e e' ∧ K e' w') rest) (fun ex a' w' => ex = .normal ∧ ∃ e', Rel n e' a' ∧ AgreeE mods e e' ∧ K e' w') := by
      intro h
      refine opM_wp ?_
      rw [hr.eval]
      exact opM_mono (op1_opM h) lift
    unfold ops at h; unfold wpList
    cases hg : o.guard with
    | none =>
      rw [hg] at h
      rw [if_pos (by simp [Region.wanted, hg])]
      exact .inl (one h)
    | some g =>
      obtain ⟨j, want⟩ := g
      rw [hg] at h
      have h : gdM (gdE all e j want) (op1 P e o) (fun v w' => ops P n all K rest (Sh.upd n e o.dst v) w') w := h
      rw [gdE_wanted hr all o j want hg]
      cases hgd : gdE all e j want with
      | true =>
        rw [hgd] at h
        rw [if_pos rfl]
        exact .inl (one h)
      | false =>
        rw [hgd] at h
        rw [if_neg (by simp)]
        exact lift undef w h
where
  wpList_mono {P : Program} {all : Array Oper} {Q Q' : Exit → Act → World → Prop} : ∀ (l : List Oper) (a : Act) (w : World), wpList P all Q l a w →
      (∀ e a w, Q e a w → Q' e a w) → wpList P all Q' l a w
    | [], _, _, h, hq => hq _ _ _ h
    | o :: rest, a, w, h, hq => by
      unfold wpList at h ⊢
      split
      · rename_i hw
        rw [if_pos hw] at h
        rcases h with h | ⟨h, a', w', h'⟩
        · refine .inl ?_
          unfold Oper.wp at h ⊢
          revert h
          generalize (execOp a.eval o).run P w = r
          intro h
          unfold Oper.upon at h ⊢
          split at h
          · exact wpList_mono rest _ _ h hq
          · exact wpList_mono rest _ _ h hq
          · exact wpList_mono rest _ _ h hq
          · refine Calls.mono h ?_
            intro e w''
            cases e with
            | returned v => exact fun h => wpList_mono rest _ _ h hq
            | panicked ch => exact fun h => hq _ _ _ h
            | outgrown => exact fun ⟨a, w, h⟩ => ⟨a, w, hq _ _ _ h⟩
          · exact Rows.mono h (fun v w'' h => wpList_mono rest _ _ h hq)
          · exact hq _ _ _ h
          · exact h.elim
        · exact .inr ⟨h, a', w', hq _ _ _ h'⟩
      · rename_i hw
        rw [if_neg hw] at h
        exact wpList_mono rest _ _ h hq

/-! ### regions that draw their order, read as quiet: one value of each operation in every world of a class -/

def quietS (P : Program) (C : World → Prop) (s : Sem Next) (K : Value → Prop) : Prop := ∃ v, (∀ w, C w → Oper.quietUpon P C w v (s.run P w)) ∧ K v
def oQ (P : Program) (o : Op) (type : TypeId) (args : List Value) (C : World → Prop) (K : Value → Prop) : Prop := quietS P C (xop o type args) K
def pureQ (v : Value) (_C : World → Prop) (K : Value → Prop) : Prop := K v
def callQ (P : Program) (f : FuncId) (args : Array Value) (C : World → Prop) (K : Value → Prop) : Prop :=
  ∃ v, (∀ w, C w → Calls P f args w (fun e w'' => e = .returned v ∧ C w'')) ∧ K v
def gdQ (g : Bool) (m : (World → Prop) → (Value → Prop) → Prop) (C : World → Prop) (K : Value → Prop) : Prop := bif g then m C K else K undef

def op1Q (P : Program) (e : Env) (o : Oper) (C : World → Prop) (K : Value → Prop) : Prop :=
  match moved o.op with
  | some x => K (evE e x)
  | none =>
    match static o.op with
    | some (f, xs) => match isBody P f with | true => callQ P f (xs.map (evE e)).toArray C K | false => False
    | none =>
      match renum o.op with
      | some (op', xs) => oQ P op' o.type (xs.map (evE e)) C K
      | none => False

theorem op1Q_quiet {P : Program} {e : Env} {o : Oper} {C : World → Prop} {K : Value → Prop} (h : op1Q P e o C K) :
    ∃ v, (∀ w, C w → Oper.quietUpon P C w v ((execOp (evE e) o).run P w)) ∧ K v := by
  unfold op1Q at h
  split at h
  · rename_i x hx
    rw [exec_moved hx]
    exact ⟨evE e x, fun w _ => ⟨rfl, rfl⟩, h⟩
  · split at h
    · rename_i f xs hs
      cases hb : isBody P f with
      | false => rw [hb] at h; exact h.elim
      | true =>
        rw [hb] at h
        obtain ⟨v, hv, hk⟩ := h
        refine ⟨v, fun w hw => ?_, hk⟩
        rw [exec_static rfl hs, isBody_run hb]
        exact ⟨rfl, hv w hw⟩
    · split at h
      · rename_i op' xs hr
        rw [execOp_renum (fun _ => rfl) o op' xs hr]
        exact h
      · exact h.elim

def quietOps (P : Program) (n : Nat) (all : Array Oper) (C : World → Prop) (K : Env → Prop) : List Oper → Env → Prop
  | [], e => K e
  | o :: rest, e =>
    match o.guard with
    | none => op1Q P e o C (fun v => quietOps P n all C K rest (upd n e o.dst v))
    | some (j, want) => gdQ (gdE all e j want) (op1Q P e o) C (fun v => quietOps P n all C K rest (upd n e o.dst v))

theorem quietOps_wp {P : Program} {n : Nat} {all : Array Oper} {C : World → Prop} {mods : List Nat} {K : Env → Prop} : ∀ (l : List Oper) (e : Env) (a : Act), Rel n e a →
    (∀ o ∈ l, ∀ d, o.dst = some d → d ∈ mods) → quietOps P n all C K l e → wpQuiet P all C (fun a' => ∃ e', Rel n e' a' ∧ AgreeE mods e e' ∧ K e') l a
  | [], e, a, hr, _, h => ⟨e, hr, AgreeE.refl _ _, h⟩
  | o :: rest, e, a, hr, hm, h => by
    have hp := fun v => AgreeE.upd (n := n) (e := e) (o := o.dst) v (hm o List.mem_cons_self)
    have lift : ∀ v, quietOps P n all C K rest (Sh.upd n e o.dst v) → wpQuiet P all C (fun a' => ∃ e', Rel n e' a' ∧ AgreeE mods e e' ∧ K e') rest (a.put o.dst v) := by
      intro v h
      exact wpQuiet_mono rest _ (quietOps_wp rest _ _ (hr.put o.dst v) (fun o ho => hm o (List.mem_cons_of_mem _ ho)) h) (fun a' ⟨e', h1, h2, h3⟩ => ⟨e', h1, (hp v).trans h2, h3⟩)
    have one : op1Q P e o C (fun v => quietOps P n all C K rest (Sh.upd n e o.dst v)) → Oper.quiet P o a C (wpQuiet P all C (fun a' => ∃ e', Rel n e' a' ∧ AgreeE mods e e' ∧ K e') rest) := by
      intro h
      obtain ⟨v, hv, hk⟩ := op1Q_quiet h
      refine ⟨v, fun w hw => ?_, lift v hk⟩
      unfold Oper.quietAt
      rw [hr.eval]
      exact hv w hw
    unfold quietOps at h; unfold wpQuiet
    cases hg : o.guard with
    | none =>
      rw [hg] at h
      rw [if_pos (by simp [Region.wanted, hg])]
      exact one h
    | some g =>
      obtain ⟨j, want⟩ := g
      rw [hg] at h
      have h : gdQ (gdE all e j want) (op1Q P e o) C (fun v => quietOps P n all C K rest (Sh.upd n e o.dst v)) := h
      rw [gdE_wanted hr all o j want hg]
      cases hgd : gdE all e j want with
      | true =>
        rw [hgd] at h
        rw [if_pos rfl]
        exact one h
      | false =>
        rw [hgd] at h
        rw [if_neg (by simp)]
        exact lift undef h
where
  wpQuiet_mono {P : Program} {all : Array Oper} {C : World → Prop} {Q Q' : Act → Prop} : ∀ (l : List Oper) (a : Act), wpQuiet P all C Q l a → (∀ a, Q a → Q' a) → wpQuiet P all C Q' l a
    | [], _, h, hq => hq _ h
    | o :: rest, a, h, hq => by
      unfold wpQuiet at h ⊢
      split
      · rename_i hw
        rw [if_pos hw] at h
        obtain ⟨v, hv, hk⟩ := h
        exact ⟨v, hv, wpQuiet_mono rest _ hk hq⟩
      · rename_i hw
        rw [if_neg hw] at h
        exact wpQuiet_mono rest _ h hq

/-! ### regions that draw their order and write -/

def oC (P : Program) (o : Op) (type : TypeId) (args : List Value) (C : (Nat → Bool) → World → Prop) (i : Nat) (ds : List Nat) (K : Value → Prop) : Prop := ∃ v, gives P C i ds (xop o type args) v ∧ K v
def pureC (v : Value) (C : (Nat → Bool) → World → Prop) (i : Nat) (ds : List Nat) (K : Value → Prop) : Prop := rests C i ds ∧ K v
def callC (P : Program) (f : FuncId) (args : Array Value) (C : (Nat → Bool) → World → Prop) (i : Nat) (ds : List Nat) (K : Value → Prop) : Prop :=
  ∃ v, (∀ D w, D i = false → upAll ds D → C D w → Calls P f args w (fun e w'' => e = .returned v ∧ C (set1 D i) w'')) ∧ K v
def gdC (g : Bool) (m : ((Nat → Bool) → World → Prop) → Nat → List Nat → (Value → Prop) → Prop) (C : (Nat → Bool) → World → Prop) (i : Nat) (ds : List Nat) (K : Value → Prop) : Prop := bif g then m C i ds K else rests C i ds ∧ K undef

def op1C (P : Program) (e : Env) (o : Oper) (C : (Nat → Bool) → World → Prop) (i : Nat) (ds : List Nat) (K : Value → Prop) : Prop :=
  match moved o.op with
  | some x => pureC (evE e x) C i ds K
  | none =>
    match static o.op with
    | some (f, xs) => match isBody P f with | true => callC P f (xs.map (evE e)).toArray C i ds K | false => False
    | none =>
      match renum o.op with
      | some (op', xs) => oC P op' o.type (xs.map (evE e)) C i ds K
      | none => False

theorem op1C_gives {P : Program} {e : Env} {o : Oper} {C : (Nat → Bool) → World → Prop} {i : Nat} {ds : List Nat} {K : Value → Prop} (h : op1C P e o C i ds K) :
    ∃ v, gives P C i ds (execOp (evE e) o) v ∧ K v := by
  unfold op1C at h
  split at h
  · rename_i x hx
    rw [exec_moved hx]
    exact ⟨evE e x, fun D w hD hu hw => ⟨rfl, h.1 D w hD hu hw⟩, h.2⟩
  · split at h
    · rename_i f xs hs
      cases hb : isBody P f with
      | false => rw [hb] at h; exact h.elim
      | true =>
        rw [hb] at h
        obtain ⟨v, hv, hk⟩ := h
        refine ⟨v, fun D w hD hu hw => ?_, hk⟩
        rw [exec_static rfl hs, isBody_run hb]
        exact hv D w hD hu hw
    · split at h
      · rename_i op' xs hr
        rw [execOp_renum (fun _ => rfl) o op' xs hr]
        exact h
      · exact h.elim

def comOps (P : Program) (n : Nat) (all : Array Oper) (C : (Nat → Bool) → World → Prop) (K : Env → Prop) : Nat → List Oper → Env → Prop
  | _, [], e => K e
  | i, o :: rest, e =>
    match o.guard with
    | none => op1C P e o C i (waits o) (fun v => comOps P n all C K (i + 1) rest (upd n e o.dst v))
    | some (j, want) => gdC (gdE all e j want) (op1C P e o) C i (waits o) (fun v => comOps P n all C K (i + 1) rest (upd n e o.dst v))

theorem comOps_wp {P : Program} {n : Nat} {all : Array Oper} {C : (Nat → Bool) → World → Prop} {mods : List Nat} {K : Env → Prop} : ∀ (l : List Oper) (i : Nat) (e : Env) (a : Act), Rel n e a →
    (∀ o ∈ l, ∀ d, o.dst = some d → d ∈ mods) → comOps P n all C K i l e → wpCom P all C (fun a' => ∃ e', Rel n e' a' ∧ AgreeE mods e e' ∧ K e') i l a
  | [], _, e, a, hr, _, h => ⟨e, hr, AgreeE.refl _ _, h⟩
  | o :: rest, i, e, a, hr, hm, h => by
    have hp := fun v => AgreeE.upd (n := n) (e := e) (o := o.dst) v (hm o List.mem_cons_self)
    have lift : ∀ v, comOps P n all C K (i + 1) rest (Sh.upd n e o.dst v) → wpCom P all C (fun a' => ∃ e', Rel n e' a' ∧ AgreeE mods e e' ∧ K e') (i + 1) rest (a.put o.dst v) := by
      intro v h
      exact wpCom_mono rest (i + 1) _ (comOps_wp rest (i + 1) _ _ (hr.put o.dst v) (fun o ho => hm o (List.mem_cons_of_mem _ ho)) h) (fun a' ⟨e', h1, h2, h3⟩ => ⟨e', h1, (hp v).trans h2, h3⟩)
    have one : op1C P e o C i (waits o) (fun v => comOps P n all C K (i + 1) rest (Sh.upd n e o.dst v)) → Region.wanted o (yielded all a.tmps) = true → ∃ v, Comes P all C i o a v ∧ wpCom P all C (fun a' => ∃ e', Rel n e' a' ∧ AgreeE mods e e' ∧ K e') (i + 1) rest (a.put o.dst v) := by
      intro h hw
      obtain ⟨v, hv, hk⟩ := op1C_gives h
      refine ⟨v, ?_, lift v hk⟩
      unfold Comes
      rw [hw, hr.eval]
      exact hv
    unfold comOps at h; unfold wpCom
    cases hg : o.guard with
    | none =>
      rw [hg] at h
      exact one h (by simp [Region.wanted, hg])
    | some g =>
      obtain ⟨j, want⟩ := g
      rw [hg] at h
      have h : gdC (gdE all e j want) (op1C P e o) C i (waits o) (fun v => comOps P n all C K (i + 1) rest (Sh.upd n e o.dst v)) := h
      have hw := gdE_wanted hr all o j want hg
      cases hgd : gdE all e j want with
      | true =>
        rw [hgd] at h hw
        exact one h hw
      | false =>
        rw [hgd] at h hw
        refine ⟨undef, ?_, lift undef h.2⟩
        unfold Comes
        rw [hw]
        exact ⟨rfl, h.1⟩

/-! ### regions that draw their order, in which some operations only look -/

def oH (P : Program) (o : Op) (type : TypeId) (args : List Value) (C : World → Prop) (K : Value → Prop) : Prop := ∃ v, (∀ w, C w → (xop o type args).run P w = .ok (.value v) w) ∧ K v
def pureH (v : Value) (_C : World → Prop) (K : Value → Prop) : Prop := K v
def gdH (g : Bool) (m : (World → Prop) → (Value → Prop) → Prop) (C : World → Prop) (K : Value → Prop) : Prop := bif g then m C K else K undef
def op1H (P : Program) (e : Env) (o : Oper) (C : World → Prop) (K : Value → Prop) : Prop :=
  match moved o.op with
  | some x => pureH (evE e x) C K
  | none =>
    match static o.op with
    | some _ => False
    | none =>
      match renum o.op with
      | some (op', xs) => oH P op' o.type (xs.map (evE e)) C K
      | none => False
theorem op1H_looks {P : Program} {e : Env} {o : Oper} {C : World → Prop} {K : Value → Prop} (h : op1H P e o C K) :
    ∃ v, (∀ w, C w → (execOp (evE e) o).run P w = .ok (.value v) w) ∧ K v := by
  unfold op1H at h
  split at h
  · rename_i x hx
    rw [exec_moved hx]
    exact ⟨evE e x, fun w _ => rfl, h⟩
  · split at h
    · exact h.elim
    · split at h
      · rename_i op' xs hr
        rw [execOp_renum (fun _ => rfl) o op' xs hr]
        exact h
      · exact h.elim
def heldOps (P : Program) (n : Nat) (all : Array Oper) (C : World → Prop) (K : Env → World → Prop) : List (Nat × Bool) → Env → World → Prop
  | [], e, w => K e w
  | (i, true) :: r, e, w =>
    match all[i]? with
    | none => False
    | some o =>
      match o.guard with
      | none => op1H P e o C (fun v => heldOps P n all C K r (upd n e o.dst v) w)
      | some (j, want) => gdH (gdE all e j want) (op1H P e o) C (fun v => heldOps P n all C K r (upd n e o.dst v) w)
  | (i, false) :: r, e, w =>
    match all[i]? with
    | none => False
    | some o =>
      match o.guard with
      | none => op1 P e o (fun v w' => C w' ∧ heldOps P n all C K r (upd n e o.dst v) w') w
      | some (j, want) => gdM (gdE all e j want) (op1 P e o) (fun v w' => C w' ∧ heldOps P n all C K r (upd n e o.dst v) w') w
theorem runsTo_opM {P : Program} {s : Sem Next} {K : Value → World → Prop} {w : World} : runsTo P s K w = opM P s K w := rfl
theorem heldOps_wp {P : Program} {n : Nat} {all : Array Oper} {C : World → Prop} {mods : List Nat} {K : Env → World → Prop} (hm : ∀ o ∈ all.toList, ∀ d, o.dst = some d → d ∈ mods) : ∀ (l : List (Nat × Bool)) (e : Env) (a : Act) (w : World), Rel n e a →
    heldOps P n all C K l e w → wpHeld P all C (fun a' w' => ∃ e', Rel n e' a' ∧ AgreeE mods e e' ∧ K e' w') l a w
  | [], e, a, w, hr, h => ⟨e, hr, AgreeE.refl _ _, h⟩
  | (i, true) :: r, e, a, w, hr, h => by
    unfold heldOps at h
    split at h
    · exact h.elim
    rename_i o ho
    have hmem : o ∈ all.toList := by simpa using Array.mem_of_getElem? ho
    have hp := fun v => AgreeE.upd (n := n) (e := e) (o := o.dst) v (hm o hmem)
    have lift : ∀ v, heldOps P n all C K r (Sh.upd n e o.dst v) w → wpHeld P all C (fun a' w' => ∃ e', Rel n e' a' ∧ AgreeE mods e e' ∧ K e' w') r (a.put o.dst v) w := by
      intro v h
      exact wpHeld_mono r _ _ (heldOps_wp hm r _ _ w (hr.put o.dst v) h) (fun a' w' ⟨e', h1, h2, h3⟩ => ⟨e', h1, (hp v).trans h2, h3⟩)
    have one : op1H P e o C (fun v => heldOps P n all C K r (Sh.upd n e o.dst v) w) → Region.wanted o (yielded all a.tmps) = true → ∃ o', all[i]? = some o' ∧ ∃ v, Looks P all C o' a v ∧ wpHeld P all C (fun a' w' => ∃ e', Rel n e' a' ∧ AgreeE mods e e' ∧ K e' w') r (a.put o'.dst v) w := by
      intro h hw
      obtain ⟨v, hv, hk⟩ := op1H_looks h
      refine ⟨o, ho, v, ?_, lift v hk⟩
      unfold Looks
      rw [hw, hr.eval]
      exact hv
    unfold wpHeld
    split at h
    · rename_i hg
      exact one h (by simp [Region.wanted, hg])
    · rename_i j want hg
      have hw := gdE_wanted hr all o j want hg
      cases hgd : gdE all e j want with
      | true =>
        rw [hgd] at h hw
        exact one h hw
      | false =>
        rw [hgd] at h hw
        refine ⟨o, ho, undef, ?_, lift undef h⟩
        unfold Looks
        rw [hw]
        rfl
  | (i, false) :: r, e, a, w, hr, h => by
    unfold heldOps at h
    split at h
    · exact h.elim
    rename_i o ho
    have hmem : o ∈ all.toList := by simpa using Array.mem_of_getElem? ho
    have hp := fun v => AgreeE.upd (n := n) (e := e) (o := o.dst) v (hm o hmem)
    have lift : ∀ v w', C w' ∧ heldOps P n all C K r (Sh.upd n e o.dst v) w' → C w' ∧ wpHeld P all C (fun a' w' => ∃ e', Rel n e' a' ∧ AgreeE mods e e' ∧ K e' w') r (a.put o.dst v) w' := by
      intro v w' ⟨hc, h⟩
      exact ⟨hc, wpHeld_mono r _ _ (heldOps_wp hm r _ _ w' (hr.put o.dst v) h) (fun a' w' ⟨e', h1, h2, h3⟩ => ⟨e', h1, (hp v).trans h2, h3⟩)⟩
    have one : op1 P e o (fun v w' => C w' ∧ heldOps P n all C K r (Sh.upd n e o.dst v) w') w → Region.wanted o (yielded all a.tmps) = true → stepH P all o a w (fun a' w' => C w' ∧ wpHeld P all C (fun a' w' => ∃ e', Rel n e' a' ∧ AgreeE mods e e' ∧ K e' w') r a' w') := by
      intro h hw
      unfold stepH
      rw [hw, hr.eval]
      show runsTo P _ _ w
      rw [runsTo_opM]
      exact opM_mono (op1_opM h) (fun v w' h => lift v w' h)
    unfold wpHeld
    refine ⟨o, ho, ?_⟩
    split at h
    · rename_i hg
      exact one h (by simp [Region.wanted, hg])
    · rename_i j want hg
      have hw := gdE_wanted hr all o j want hg
      cases hgd : gdE all e j want with
      | true =>
        rw [hgd] at h hw
        exact one h hw
      | false =>
        rw [hgd] at h hw
        unfold stepH
        rw [hw]
        exact lift undef w h
where
  wpHeld_mono {P : Program} {all : Array Oper} {C : World → Prop} {Q Q' : Act → World → Prop} : ∀ (l : List (Nat × Bool)) (a : Act) (w : World), wpHeld P all C Q l a w → (∀ a w, Q a w → Q' a w) → wpHeld P all C Q' l a w
    | [], _, _, h, hq => hq _ _ h
    | (_, true) :: r, _, _, ⟨o, ho, v, hv, h⟩, hq => ⟨o, ho, v, hv, wpHeld_mono r _ _ h hq⟩
    | (_, false) :: r, _, _, ⟨o, ho, h⟩, hq => ⟨o, ho, stepH_mono h (fun _ _ ⟨hc, h⟩ => ⟨hc, wpHeld_mono r _ _ h hq⟩)⟩

def stageOps (P : Program) (n : Nat) (all : Array Oper) (ws : List Nat) (C : Nat → World → Prop) (K : Env → World → Prop) : List (Nat × Bool) → Nat → Env → World → Prop
  | [], _, e, w => K e w
  | (i, true) :: r, s, e, w =>
    match all[i]? with
    | none => False
    | some o =>
      match o.guard with
      | none => op1H P e o (upto C (dueOf all ws i)) (fun v => stageOps P n all ws C K r s (upd n e o.dst v) w)
      | some (j, want) => gdH (gdE all e j want) (op1H P e o) (upto C (dueOf all ws i)) (fun v => stageOps P n all ws C K r s (upd n e o.dst v) w)
  | (i, false) :: r, s, e, w =>
    match all[i]? with
    | none => False
    | some o =>
      match o.guard with
      | none => op1 P e o (fun v w' => C (s + 1) w' ∧ stageOps P n all ws C K r (s + 1) (upd n e o.dst v) w') w
      | some (j, want) => gdM (gdE all e j want) (op1 P e o) (fun v w' => C (s + 1) w' ∧ stageOps P n all ws C K r (s + 1) (upd n e o.dst v) w') w
theorem stageOps_wp {P : Program} {n : Nat} {all : Array Oper} {ws : List Nat} {C : Nat → World → Prop} {mods : List Nat} {K : Env → World → Prop} (hm : ∀ o ∈ all.toList, ∀ d, o.dst = some d → d ∈ mods) : ∀ (l : List (Nat × Bool)) (s : Nat) (e : Env) (a : Act) (w : World), Rel n e a →
    stageOps P n all ws C K l s e w → wpStage P all ws C (fun a' w' => ∃ e', Rel n e' a' ∧ AgreeE mods e e' ∧ K e' w') l s a w
  | [], s, e, a, w, hr, h => ⟨e, hr, AgreeE.refl _ _, h⟩
  | (i, true) :: r, s, e, a, w, hr, h => by
    unfold stageOps at h
    split at h
    · exact h.elim
    rename_i o ho
    have hmem : o ∈ all.toList := by simpa using Array.mem_of_getElem? ho
    have hp := fun v => AgreeE.upd (n := n) (e := e) (o := o.dst) v (hm o hmem)
    have lift : ∀ v, stageOps P n all ws C K r s (Sh.upd n e o.dst v) w → wpStage P all ws C (fun a' w' => ∃ e', Rel n e' a' ∧ AgreeE mods e e' ∧ K e' w') r s (a.put o.dst v) w := by
      intro v h
      exact wpStage_mono r s _ _ (stageOps_wp hm r s _ _ w (hr.put o.dst v) h) (fun a' w' ⟨e', h1, h2, h3⟩ => ⟨e', h1, (hp v).trans h2, h3⟩)
    have one : op1H P e o (upto C (dueOf all ws i)) (fun v => stageOps P n all ws C K r s (Sh.upd n e o.dst v) w) → Region.wanted o (yielded all a.tmps) = true → ∃ o', all[i]? = some o' ∧ ∃ v, Looks P all (upto C (dueOf all ws i)) o' a v ∧ wpStage P all ws C (fun a' w' => ∃ e', Rel n e' a' ∧ AgreeE mods e e' ∧ K e' w') r s (a.put o'.dst v) w := by
      intro h hw
      obtain ⟨v, hv, hk⟩ := op1H_looks h
      refine ⟨o, ho, v, ?_, lift v hk⟩
      unfold Looks
      rw [hw, hr.eval]
      exact hv
    unfold wpStage
    split at h
    · rename_i hg
      exact one h (by simp [Region.wanted, hg])
    · rename_i j want hg
      have hw := gdE_wanted hr all o j want hg
      cases hgd : gdE all e j want with
      | true =>
        rw [hgd] at h hw
        exact one h hw
      | false =>
        rw [hgd] at h hw
        refine ⟨o, ho, undef, ?_, lift undef h⟩
        unfold Looks
        rw [hw]
        rfl
  | (i, false) :: r, s, e, a, w, hr, h => by
    unfold stageOps at h
    split at h
    · exact h.elim
    rename_i o ho
    have hmem : o ∈ all.toList := by simpa using Array.mem_of_getElem? ho
    have hp := fun v => AgreeE.upd (n := n) (e := e) (o := o.dst) v (hm o hmem)
    have lift : ∀ v w', C (s + 1) w' ∧ stageOps P n all ws C K r (s + 1) (Sh.upd n e o.dst v) w' → C (s + 1) w' ∧ wpStage P all ws C (fun a' w' => ∃ e', Rel n e' a' ∧ AgreeE mods e e' ∧ K e' w') r (s + 1) (a.put o.dst v) w' := by
      intro v w' ⟨hc, h⟩
      exact ⟨hc, wpStage_mono r (s + 1) _ _ (stageOps_wp hm r (s + 1) _ _ w' (hr.put o.dst v) h) (fun a' w' ⟨e', h1, h2, h3⟩ => ⟨e', h1, (hp v).trans h2, h3⟩)⟩
    have one : op1 P e o (fun v w' => C (s + 1) w' ∧ stageOps P n all ws C K r (s + 1) (Sh.upd n e o.dst v) w') w → Region.wanted o (yielded all a.tmps) = true → stepH P all o a w (fun a' w' => C (s + 1) w' ∧ wpStage P all ws C (fun a' w' => ∃ e', Rel n e' a' ∧ AgreeE mods e e' ∧ K e' w') r (s + 1) a' w') := by
      intro h hw
      unfold stepH
      rw [hw, hr.eval]
      show runsTo P _ _ w
      rw [runsTo_opM]
      exact opM_mono (op1_opM h) (fun v w' h => lift v w' h)
    unfold wpStage
    refine ⟨o, ho, ?_⟩
    split at h
    · rename_i hg
      exact one h (by simp [Region.wanted, hg])
    · rename_i j want hg
      have hw := gdE_wanted hr all o j want hg
      cases hgd : gdE all e j want with
      | true =>
        rw [hgd] at h hw
        exact one h hw
      | false =>
        rw [hgd] at h hw
        unfold stepH
        rw [hw]
        exact lift undef w h

/-! ### code -/

/-- the slots that a piece of code writes -/
def dsts : Code → List Nat
  | .region _ os _ => os.toList.filterMap (·.dst)
  | .seq x y => dsts x ++ dsts y
  | .cond _ x y => dsts x ++ dsts y
  | .block _ c | .loop c | .scope c => dsts c
  | _ => []
/-- the variables that a piece of code assigns -/
def assigned : Code → List Nat
  | .region _ os _ => os.toList.filterMap (fun o => match o.op with | .assign _ => o.dst | _ => none)
  | .seq x y => assigned x ++ assigned y
  | .cond _ x y => assigned x ++ assigned y
  | .block _ c | .loop c | .scope c => assigned c
  | _ => []
def dedup : List Nat → List Nat → List Nat
  | [], acc => acc.reverse
  | i :: l, acc => bif acc.contains i then dedup l acc else dedup l (i :: acc)
def slots : List Operand → List Nat
  | [] => []
  | .tmp t :: xs => t :: slots xs
  | _ :: xs => slots xs
def reads (o : Oper) : List Nat :=
  match moved o.op with
  | some x => slots [x]
  | none =>
    match static o.op with
    | some (_, xs) => slots xs
    | none =>
      match renum o.op with
      | some (_, xs) => slots xs
      | none => []
/-- the slots of 'l' that are not in 'wr', ahead of 'acc' -/
def fresh (wr : List Nat) : List Nat → List Nat → List Nat
  | [], acc => acc
  | i :: l, acc => bif wr.contains i then fresh wr l acc else fresh wr l (i :: acc)
/-- slots read before they are written; slots surely written -/
def exposedOps (all : Array Oper) : List Oper → List Nat → List Nat → List Nat × List Nat
  | [], acc, wr => (acc, wr)
  | o :: rest, acc, wr => exposedOps all rest (fresh wr (match o.guard with | some (j, _) => (match dstOf all j with | some d => d :: reads o | none => reads o) | none => reads o) acc)
      (match o.dst with | some d => d :: wr | none => wr)
def exposed : Code → List Nat → List Nat → List Nat × List Nat
  | .region _ os _, acc, wr => exposedOps os os.toList acc wr
  | .seq x y, acc, wr => exposed y (exposed x acc wr).1 (exposed x acc wr).2
  | .cond c x y, acc, wr => ((exposed y (exposed x (fresh wr (slots [c]) acc) wr).1 wr).1, wr)
  | .block _ c, acc, wr | .loop c, acc, wr | .scope c, acc, wr => ((exposed c acc wr).1, wr)
  | _, acc, wr => (acc, wr)
/-- the slots whose values a round hands on to the next one, or to what follows -/
def vars (c : Code) : List Nat := (dedup (dsts c) []).filter (fun d => (assigned c).contains d || (exposed c [] []).1.contains d)
def idx : List Nat → Nat → Nat → Option Nat
  | [], _, _ => none
  | v :: vs, i, n => bif Nat.beq v i then some n else idx vs i (n + 1)
/-- the values 'l' in the slots 'vs', 'u' in all others -/
def mix (vs : List Nat) (l : List Value) (u : Env) (i : Nat) : Value :=
  match idx vs i 0 with
  | some n => l.getD n undef
  | none => u i
theorem mix_self (vs : List Nat) (e : Env) : mix vs (vs.map e) e = e := by
  have key : ∀ (vs pre : List Nat) (i n : Nat), idx vs i pre.length = some n → ((pre ++ vs).map e).getD n undef = e i := by
    intro vs
    induction vs with
    | nil => intro pre i n h; simp [idx] at h
    | cons v vs ih =>
      intro pre i n h
      unfold idx at h
      cases hb : Nat.beq v i with
      | true =>
        rw [hb] at h
        simp only [cond_true, Option.some.injEq] at h
        subst h
        have : v = i := Nat.eq_of_beq_eq_true hb
        subst this
        simp
      | false =>
        rw [hb] at h
        have := ih (pre ++ [v]) i n (by simpa using h)
        simpa using this
  funext i
  unfold mix
  split
  · rename_i n h
    have := key vs [] i n (by simpa using h)
    simpa using this
  · rfl
/-- 'e' with the slots 'mods' at 'u' -/
def over (e : Env) (mods : List Nat) (u : Env) : Env := fun i => bif mods.contains i then u i else e i
theorem over_self {mods : List Nat} {e e' : Env} (h : AgreeE mods e e') : over e mods e' = e' := by
  funext i
  unfold over
  cases hb : mods.contains i with
  | true => rfl
  | false => exact (h i hb).symm

def frameOf (n : Nat) (e : Env) : Act := { tmps := ((List.range n).map e).toArray, defers := [] }
theorem frameOf_rel {n : Nat} {e : Env} {a : Act} (h : Rel n e a) : frameOf n e = a := by
  obtain ⟨t, d⟩ := a
  obtain ⟨h1, h2, h3⟩ := h
  simp only at h1 h2 h3
  subst h2
  unfold frameOf
  simp only [Act.mk.injEq, and_true]
  apply Array.ext
  · simp [h1]
  · intro i hi hi'
    have := h3 i
    simp only [Array.getD_eq_getD_getElem?, Array.getElem?_eq_getElem hi', Option.getD_some] at this
    simp [this]
def envOf (a : Act) : Env := fun i => a.tmps.getD i undef

/-- how often a piece of code ends normally, and its exits -/
def exits : Code → Nat × List Nat
  | .skip | .region _ _ _ | .label _ => (1, [])
  | .exit i => (0, [i])
  | .seq x y => match (exits x).1 with
    | 0 => exits x
    | _ => ((exits y).1, (exits x).2 ++ (exits y).2)
  | .cond _ x y => ((exits x).1 + (exits y).1, (exits x).2 ++ (exits y).2)
  | .block i c => ((exits c).1 + ((exits c).2.filter (fun j => Nat.beq j i)).length, (exits c).2.filter (fun j => !Nat.beq j i))
  | .loop c => (0, (exits c).2)
  | .scope c => exits c
  | _ => (0, [])
/-- the slots whose values 'x' hands on to 'y' -/
def jvars (x y : Code) : List Nat := (dedup (dsts x) []).filter (fun d => (assigned x).contains d || (exposed y [] []).1.contains d)

/-- a loop: what holds at each round's head (of the variables' values and the world), and a measure -/
def loopM (x : List Value) (w : World) (body : (List Value → World → Prop) → (List Value → World → Nat) → List Value → Env → World → Prop) : Prop :=
  ∃ (J : List Value → World → Prop) (μ : List Value → World → Nat), J x w ∧ ∀ (l : List Value) (u : Env) (w : World), J l w → body J μ l u w
/-- ways that meet again: what holds there -/
def joinM (pre : (List Value → World → Prop) → Prop) (post : List Value → Env → World → Prop) : Prop :=
  ∃ M : List Value → World → Prop, pre M ∧ ∀ (l : List Value) (u : Env) (w : World), M l w → post l u w
/-- a region that draws its order, read as quiet -/
def quietM (w : World) (body : (World → Prop) → Prop) : Prop := ∃ C : World → Prop, C { w with drawn := w.drawn + 1 } ∧ body C

/-- a region of 'n' operations that draws its order; the class tells which of them have come up -/
def comM (n : Nat) (w : World) (body : ((Nat → Bool) → World → Prop) → Prop) : Prop := ∃ C : (Nat → Bool) → World → Prop, C (fun j => Nat.ble n j) { w with drawn := w.drawn + 1 } ∧ body C

/-- a region in which some operations only look -/
def stageM (w : World) (body : (Nat → World → Prop) → World → Prop) : Prop := ∃ C : Nat → World → Prop, C 0 { w with drawn := w.drawn + 1 } ∧ body C { w with drawn := w.drawn + 1 }
def heldM (w : World) (body : (World → Prop) → World → Prop) : Prop := ∃ C : World → Prop, C { w with drawn := w.drawn + 1 } ∧ body C { w with drawn := w.drawn + 1 }

/-- what a piece of code asks, K said of every exit; where ways meet again, a condition is asked for there -/
def code (P : Program) (q : Nat → Nat) (n : Nat) : Code → Env → (Exit → Env → World → Prop) → World → Prop
  | .skip, e, K, w => K .normal e w
  | .region id os draw, e, K, w =>
    match draw with
    | false => ops P n os (K .normal) os.toList e w
    | true =>
      match q id with
      | 0 => quietM w (fun C => quietOps P n os C (fun e' => ∀ w', C w' → K .normal e' w') os.toList e)
      | 1 => comM os.size w (fun C => comOps P n os C (fun e' => ∀ w', C (fun _ => true) w' → K .normal e' w') 0 os.toList e)
      | 2 => heldM w (fun C w => heldOps P n os C (fun e' w' => K .normal e' w') (ordOf os) e w)
      | _ => stageM w (fun C w => stageOps P n os (wsOf (ordOf os)) C (fun e' w' => K .normal e' w') (ordOf os) 0 e w)
  | .seq x y, e, K, w =>
    match Nat.ble 2 (exits x).1 with
    | false => code P q n x e (fun ex e' w' => match ex with | .normal => code P q n y e' K w' | _ => K ex e' w') w
    | true => joinM (fun M => code P q n x e (fun ex e' w' => match ex with | .normal => M ((jvars x y).map e') w' | _ => K ex e' w') w)
        (fun l u w => code P q n y (over e (dsts x) (mix (jvars x y) l u)) K w)
  | .cond c x y, e, K, w => condM (evE e c) (code P q n x e K w) (code P q n y e K w)
  | .block id c, e, K, w => code P q n c e (fun ex e' w' => match ex with | .exit i => bif Nat.beq i id then K .normal e' w' else K ex e' w' | _ => K ex e' w') w
  | .loop c, e, K, w => loopM ((vars c).map e) w (fun J μ l u w => code P q n c (over e (dsts c) (mix (vars c) l u)) (fun ex e' w' => match ex with | .normal => J ((vars c).map e') w' ∧ μ ((vars c).map e') w' < μ l w | _ => K ex e' w') w)
  | .exit id, e, K, w => K (.exit id) e w
  | .ret, e, K, w => K .ret e w
  | .label _, e, K, w => K .normal e w
  | .scope c, e, K, w => code P q n c e (fun ex e' w' => match ex with | .goto _ => False | _ => K ex e' w') w
  | _, _, _, _ => False

/-- the regions that draw and are read as quiet bear the two facts that the order's theorem asks -/
def quietOk (P : Program) (q : Nat → Nat) : Code → Bool
  | .region id os draw => !draw || (P.follows .mixedOrders && (match q id with | 0 | 1 => Region.lexB .any os | 2 => heldOk os | _ => stageOk os))
  | .seq x y => quietOk P q x && quietOk P q y
  | .cond _ x y => quietOk P q x && quietOk P q y
  | .block _ c | .loop c | .scope c => quietOk P q c
  | _ => true

theorem code_sound {P : Program} {q : Nat → Nat} {n : Nat} (c : Code) (hq : quietOk P q c = true) : ∀ (e : Env) (a : Act) (K : Exit → Env → World → Prop) (w : World), Rel n e a → code P q n c e K w →
    Code.wp P c (fun ex a' w' => ∃ e', Rel n e' a' ∧ AgreeE (dsts c) e e' ∧ K ex e' w') a w := by
  induction c with
  | skip => exact fun e a K w hr h => wp_skip ⟨e, hr, AgreeE.refl _ _, h⟩
  | label l => exact fun e a K w hr h => wp_label ⟨e, hr, AgreeE.refl _ _, h⟩
  | exit id => exact fun e a K w hr h => wp_exit ⟨e, hr, AgreeE.refl _ _, h⟩
  | ret => exact fun e a K w hr h => wp_ret ⟨e, hr, AgreeE.refl _ _, h⟩
  | goto l => exact fun e a K w hr h => h.elim
  | rangeFunc f ps as c => exact fun e a K w hr h => h.elim
  | refuse s => exact fun e a K w hr h => h.elim
  | region id os d =>
    intro e a K w hr h
    cases d with
    | false =>
      have h : ops P n os (K .normal) os.toList e w := h
      refine wp_region_list (ops_wp.wpList_mono _ _ _ (ops_wp os.toList e a w hr (mods := os.toList.filterMap (·.dst)) (fun o ho d hd => by simp only [List.mem_filterMap]; exact ⟨o, ho, hd⟩) h) ?_)
      rintro ex a' w' ⟨rfl, e', h1, h2, h3⟩
      exact ⟨e', h1, h2, h3⟩
    | true =>
      unfold code at h
      match hqi : q id with
      | 0 =>
        rw [hqi] at h
        simp only [quietOk, hqi, Bool.not_true, Bool.false_or, Bool.and_eq_true] at hq
        obtain ⟨C, hC, h⟩ := h
        refine wp_region_quiet (C := C) hq.1 hq.2 hC (quietOps_wp.wpQuiet_mono _ _ (quietOps_wp os.toList e a hr (mods := os.toList.filterMap (·.dst)) (fun o ho d hd => by simp only [List.mem_filterMap]; exact ⟨o, ho, hd⟩) h) ?_)
        rintro a' ⟨e', h1, h2, h3⟩ w' hw'
        exact ⟨e', h1, h2, h3 w' hw'⟩
      | 1 =>
        rw [hqi] at h
        simp only [quietOk, hqi, Bool.not_true, Bool.false_or, Bool.and_eq_true] at hq
        obtain ⟨C, hC, h⟩ := h
        refine wp_region_com (C := C) hq.1 hq.2 hC (wpCom_mono _ _ _ (comOps_wp os.toList 0 e a hr (mods := os.toList.filterMap (·.dst)) (fun o ho d hd => by simp only [List.mem_filterMap]; exact ⟨o, ho, hd⟩) h) ?_)
        rintro a' ⟨e', h1, h2, h3⟩ w' hw'
        exact ⟨e', h1, h2, h3 w' hw'⟩
      | 2 =>
        rw [hqi] at h
        simp only [quietOk, hqi, Bool.not_true, Bool.false_or, Bool.and_eq_true] at hq
        obtain ⟨C, hC, h⟩ := h
        refine wp_region_held (C := C) hq.1 hq.2 hC (heldOps_wp.wpHeld_mono _ _ _ (heldOps_wp (mods := os.toList.filterMap (·.dst)) (fun o ho d hd => by simp only [List.mem_filterMap]; exact ⟨o, ho, hd⟩) _ e a _ hr h) ?_)
        rintro a' w' ⟨e', h1, h2, h3⟩
        exact ⟨e', h1, h2, h3⟩
      | q2 + 3 =>
        rw [hqi] at h
        simp only [quietOk, hqi, Bool.not_true, Bool.false_or, Bool.and_eq_true] at hq
        obtain ⟨C, hC, h⟩ := h
        refine wp_region_stage (C := C) hq.1 hq.2 hC (wpStage_mono _ _ _ _ (stageOps_wp (mods := os.toList.filterMap (·.dst)) (fun o ho d hd => by simp only [List.mem_filterMap]; exact ⟨o, ho, hd⟩) _ 0 e a _ hr h) ?_)
        rintro a' w' ⟨e', h1, h2, h3⟩
        exact ⟨e', h1, h2, h3⟩
  | seq x y ihx ihy =>
    intro e a K w hr h
    simp only [quietOk, Bool.and_eq_true] at hq
    have h : ∃ M : Env → World → Prop, code P q n x e (fun ex e' w' => match ex with | .normal => M e' w' | _ => K ex e' w') w ∧
        ∀ (e' : Env) (w : World), AgreeE (dsts x) e e' → M e' w → code P q n y e' K w := by
      unfold code at h
      split at h
      · exact ⟨_, h, fun _ _ _ h => h⟩
      · obtain ⟨M, h1, h2⟩ := h
        refine ⟨fun e' w' => M ((jvars x y).map e') w', h1, fun e' w' ha hm => ?_⟩
        have := h2 _ e' w' hm
        dsimp only at this
        rwa [mix_self, over_self ha] at this
    obtain ⟨M, h, hM⟩ := h
    refine wp_seq (wp_mono (ihx hq.1 _ _ _ _ hr h) ?_)
    rintro ex a' w' ⟨e', hr', ha, hk⟩
    have ha' : AgreeE (dsts (.seq x y)) e e' := ha.mono (fun i hi => by simp only [dsts, List.mem_append]; exact .inl hi)
    cases ex with
    | normal =>
      have hk := hM e' w' ha hk
      refine wp_mono (ihy hq.2 _ _ _ _ hr' hk) ?_
      rintro ex a'' w'' ⟨e'', hr'', hb, hk⟩
      exact ⟨e'', hr'', ha'.trans (hb.mono (fun i hi => by simp only [dsts, List.mem_append]; exact .inr hi)), hk⟩
    | _ => exact ⟨e', hr', ha', hk⟩
  | cond c x y ihx ihy =>
    intro e a K w hr h
    simp only [quietOk, Bool.and_eq_true] at hq
    obtain ⟨t, hc, ht, hf⟩ := h
    have hc : a.eval c = .bool t := by rw [hr.eval]; exact hc
    refine wp_cond_split hc (fun e1 => wp_mono (ihx hq.1 _ _ _ _ hr (ht e1)) ?_) (fun e1 => wp_mono (ihy hq.2 _ _ _ _ hr (hf e1)) ?_)
    · rintro ex a' w' ⟨e', hr', ha, hk⟩
      exact ⟨e', hr', ha.mono (fun i hi => by simp only [dsts, List.mem_append]; exact .inl hi), hk⟩
    · rintro ex a' w' ⟨e', hr', ha, hk⟩
      exact ⟨e', hr', ha.mono (fun i hi => by simp only [dsts, List.mem_append]; exact .inr hi), hk⟩
  | block id c ih =>
    intro e a K w hr h
    refine wp_block (wp_mono (ih hq _ _ _ _ hr h) ?_)
    rintro ex a' w' ⟨e', hr', ha, hk⟩
    have ha : AgreeE (dsts (.block id c)) e e' := ha
    cases ex with
    | exit id' =>
      simp only [Exit.inBlock] at hk ⊢
      split
      · rename_i he
        subst he
        have hb : Nat.beq id' id' = true := by simp
        rw [hb] at hk
        exact ⟨e', hr', ha, hk⟩
      · rename_i he
        have hb : Nat.beq id' id = false := by
          cases hx : Nat.beq id' id with
          | false => rfl
          | true => exact absurd (Nat.eq_of_beq_eq_true hx) he
        rw [hb] at hk
        exact ⟨e', hr', ha, hk⟩
    | _ => exact ⟨e', hr', ha, hk⟩
  | loop c ih =>
    intro e a K w hr h
    obtain ⟨J, μ, h0, hstep⟩ := h
    refine wp_loop (fun a' w' => ∃ e', Rel n e' a' ∧ AgreeE (dsts c) e e' ∧ J ((vars c).map e') w') (fun a' w' => μ ((vars c).map (envOf a')) w') ⟨e, hr, AgreeE.refl _ _, h0⟩ ?_
    rintro a' w' ⟨e', hr', ha, hJ⟩
    have hs := hstep _ e' w' hJ
    dsimp only at hs
    rw [mix_self, over_self ha] at hs
    have he : envOf a' = e' := funext hr'.get
    refine wp_mono (ih hq _ _ _ _ hr' hs) ?_
    rintro ex a'' w'' ⟨e'', hr'', hb, hk⟩
    cases ex with
    | normal =>
      have he' : envOf a'' = e'' := funext hr''.get
      refine ⟨⟨e'', hr'', ha.trans hb, hk.1⟩, ?_⟩
      show μ ((vars c).map (envOf a'')) w'' < μ ((vars c).map (envOf a')) w'
      rw [he, he']
      exact hk.2
    | _ => exact ⟨e'', hr'', ha.trans hb, hk⟩
  | scope c ih =>
    intro e a K w hr h
    refine wp_scope_straight (wp_mono (ih hq _ _ _ _ hr h) ?_)
    rintro ex a' w' ⟨e', hr', ha, hk⟩
    cases ex with
    | goto l => exact hk.elim
    | _ => exact ⟨e', hr', ha, hk⟩

/-- the results, one by one -/
def resM (P : Program) (e : Env) (w : World) : List ResultVar → (List Value → Prop) → Prop
  | [], K => K []
  | .tmp t :: r, K => resM P e w r (fun vs => K (e t :: vs))
  | .cell s t :: r, K => ∃ v, (do loadVar t (← asAddr (e s)) : Sem Value).run P w = .ok v w ∧ resM P e w r (fun vs => K (v :: vs))
def oneOf : List Value → Value
  | [v] => v
  | vs => .tuple vs.toArray
/-- what is asked at a function's end -/
def retK (P : Program) (rs : List ResultVar) (K : Value → World → Prop) (ex : Exit) (e : Env) (w : World) : Prop :=
  match ex with
  | .normal | .ret => resM P e w rs (fun vs => K (oneOf vs) w)
  | _ => False

theorem results_run {P : Program} {a : Act} {w : World} {K : Value → Prop} (rs : List ResultVar) (fn : Func) (hfn : fn.results = rs.toArray)
    (h : resM P (envOf a) w rs (fun vs => K (oneOf vs))) : ∃ v, (results fn a.tmps).run P w = .ok v w ∧ K v := by
  have key : ∀ (rs : List ResultVar) (K : List Value → Prop), resM P (envOf a) w rs K →
      ∃ vs, ((rs.mapM (fun r : ResultVar => (match r with | .tmp t => pure (a.tmps.getD t undef) | .cell s t => do loadVar t (← asAddr (a.tmps.getD s undef)) : Sem Value))).run P w) = .ok vs w ∧ K vs := by
    intro rs
    induction rs with
    | nil => intro K h; exact ⟨[], by simp [List.mapM_nil], h⟩
    | cons r rs ih =>
      intro K h
      cases r with
      | tmp t =>
        obtain ⟨vs, hr, hk⟩ := ih _ h
        exact ⟨_, by simp only [List.mapM_cons, pure_bind, Sem.run_bind, hr]; rfl, hk⟩
      | cell s t =>
        obtain ⟨v, hv, h⟩ := h
        obtain ⟨vs, hr, hk⟩ := ih _ h
        refine ⟨v :: vs, ?_, hk⟩
        simp only [List.mapM_cons]
        unfold envOf at hv
        rw [Sem.run_bind, hv, Result.andThen_ok, Sem.run_bind, hr]
        rfl
  obtain ⟨vs, hr, hk⟩ := key _ _ h
  refine ⟨oneOf vs, ?_, hk⟩
  have e : (results fn a.tmps) = (do
      let vs ← rs.mapM (fun r : ResultVar => (match r with | .tmp t => pure (a.tmps.getD t undef) | .cell s t => do loadVar t (← asAddr (a.tmps.getD s undef)) : Sem Value))
      pure (if h : vs.toArray.size = 1 then vs.toArray[0] else .tuple vs.toArray)) := by
    unfold results
    rw [hfn, List.mapM_toArray]
    simp only [map_eq_pure_bind, bind_assoc, pure_bind]
    rfl
  rw [e, Sem.run_bind, hr, Result.andThen_ok, Sem.run_pure]
  congr 1
  match vs with
  | [] => rfl
  | [v] => rfl
  | v :: u :: l => simp [oneOf]

/-- the slots' values when a function is entered -/
def slotsAt (args : List Value) : Env := fun i => args.getD i undef

theorem calls_of_code {P : Program} (q : Nat → Nat) {f : FuncId} {fn : Func} {c : Code} {rs : List ResultVar} {args : List Value} {K : Value → World → Prop} {w : World}
    (hf : P.funcs[f]? = some fn) (hb : fn.body = some c) (hrs : fn.results = rs.toArray) (hq : quietOk P q c = true) (hn : args.length ≤ fn.ntmps)
    (h : code P q fn.ntmps c (slotsAt args) (retK P rs K) w) : callM P f args.toArray K w := by
  have hr : Rel fn.ntmps (slotsAt args) { tmps := args.toArray ++ Array.replicate (fn.ntmps - args.toArray.size) undef, defers := [] } := by
    refine ⟨by simp; omega, rfl, fun i => ?_⟩
    simp only [slotsAt, Array.getD_eq_getD_getElem?, List.getD_eq_getElem?_getD]
    by_cases hi : i < args.length
    · rw [Array.getElem?_append_left (by simpa using hi)]
      simp
    · rw [Array.getElem?_append_right (by simpa using hi)]
      have : args[i]? = none := by simp; omega
      rw [this]
      simp only [Array.getElem?_replicate]
      split <;> rfl
  refine calls_of_wp hf hb (wp_mono (code_sound c hq _ _ _ _ hr h) ?_)
  rintro ex a w' ⟨e', hr', ha, hk⟩
  have he : envOf a = e' := funext hr'.get
  subst he
  cases ex <;> first
    | exact hk.elim
    | (obtain ⟨v, hr, hk⟩ := results_run (K := fun v => K v w') rs fn hrs hk
       exact ⟨hr'.defers, v, hr, v, rfl, hk⟩)

/-- a region of a function, by its number -/
def findReg : Code → Nat → Option (Array Oper)
  | .region id os _, n => if id == n then some os else none
  | .seq x y, n => (findReg x n).or (findReg y n)
  | .cond _ x y, n => (findReg x n).or (findReg y n)
  | .block _ c, n | .loop c, n | .scope c, n => findReg c n
  | _, _ => none
def regAt (f : Func) (n : Nat) : Array Oper := ((f.body).bind (findReg · n)).getD #[]
end Go.Sh
