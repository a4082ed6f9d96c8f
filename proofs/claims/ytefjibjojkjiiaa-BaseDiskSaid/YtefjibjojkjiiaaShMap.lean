/- ShMap: a part of the proof of the seat's statements: lemmas about the given translation and plain laws. No condition of its own. -/
import Derived.Test.YtefjibjojkjiiaaShQ3
import Derived.MapKept
import Derived.WideKeyRuns
import Derived.Laws.StructEq
set_option linter.all false
/- Maps of the program as lists of pairs: looking up, storing, deleting, ranging. -/
namespace Go.Sh
open Go Go.RowKit
def lookA {κ α : Type} [DecidableEq κ] (l : List (κ × α)) (k : κ) : Option α := (l.find? (fun x => decide (x.1 = k))).map (·.2)
def putA {κ α : Type} [DecidableEq κ] (l : List (κ × α)) (k : κ) (v : α) : List (κ × α) := if (lookA l k).isSome then l.map (fun x => if x.1 = k then (k, v) else x) else l ++ [(k, v)]
def delA {κ α : Type} [DecidableEq κ] (l : List (κ × α)) (k : κ) : List (κ × α) := l.filter (fun x => decide (x.1 ≠ k))
section
variable {κ α : Type} [DecidableEq κ]
theorem lookA_nil (k : κ) : lookA ([] : List (κ × α)) k = none := rfl
theorem lookA_cons (x : κ × α) (l : List (κ × α)) (k : κ) : lookA (x :: l) k = if x.1 = k then some x.2 else lookA l k := by
  unfold lookA
  by_cases h : x.1 = k <;> simp [h]
theorem lookA_append (l m : List (κ × α)) (k : κ) : lookA (l ++ m) k = (lookA l k).or (lookA m k) := by
  induction l with
  | nil => simp [lookA_nil]
  | cons x l ih =>
    rw [List.cons_append, lookA_cons, lookA_cons, ih]
    split <;> simp
theorem lookA_map (l : List (κ × α)) (k j : κ) (v : α) : lookA (l.map (fun x => if x.1 = k then (k, v) else x)) j = if j = k ∧ (lookA l k).isSome then some v else lookA l j := by
  induction l with
  | nil => simp [lookA_nil]
  | cons x l ih =>
    rw [List.map_cons, lookA_cons, lookA_cons, lookA_cons, ih]
    by_cases hx : x.1 = k
    · subst hx
      by_cases hj : j = x.1
      · subst hj; simp
      · have hj' : ¬ x.1 = j := fun e => hj e.symm
        simp [hj, hj']
    · by_cases hj : j = k
      · subst hj; simp [hx]
      · simp [hx, hj]
theorem lookA_put (l : List (κ × α)) (k j : κ) (v : α) : lookA (putA l k v) j = if j = k then some v else lookA l j := by
  unfold putA
  cases h : lookA l k with
  | none =>
    simp only [Option.isSome_none, Bool.false_eq_true, if_false]
    rw [lookA_append, lookA_cons, lookA_nil]
    by_cases hj : j = k
    · subst hj; simp [h]
    · have : ¬ k = j := fun e => hj e.symm
      simp [hj, this]
  | some u =>
    simp only [Option.isSome_some, if_true]
    rw [lookA_map, h]
    simp
theorem lookA_filter (p : κ → Bool) (l : List (κ × α)) (k : κ) : lookA (l.filter (fun x => p x.1)) k = if p k then lookA l k else none := by
  induction l with
  | nil => simp [lookA_nil]
  | cons x l ih =>
    rw [lookA_cons]
    by_cases hp : p x.1 = true
    · rw [List.filter_cons_of_pos (p := fun x : κ × α => p x.1) hp, lookA_cons, ih]
      by_cases hx : x.1 = k
      · subst hx; simp [hp]
      · simp [hx]
    · rw [List.filter_cons_of_neg (p := fun x : κ × α => p x.1) hp, ih]
      by_cases hx : x.1 = k
      · subst hx; simp [hp]
      · simp [hx]
theorem lookA_mapVal {β : Type} (f : κ → α → β) (l : List (κ × α)) (k : κ) : lookA (l.map (fun x => (x.1, f x.1 x.2))) k = (lookA l k).map (f k) := by
  induction l with
  | nil => rfl
  | cons x l ih =>
    rw [List.map_cons, lookA_cons, lookA_cons, ih]
    by_cases hx : x.1 = k
    · subst hx; simp
    · simp [hx]
theorem keys_put (l : List (κ × α)) (k : κ) (v : α) : (putA l k v).map (·.1) = if (lookA l k).isSome then l.map (·.1) else l.map (·.1) ++ [k] := by
  unfold putA
  split
  · rw [List.map_map]
    apply List.map_congr_left
    intro x _
    simp only [Function.comp]
    split
    · rename_i h; exact h.symm
    · rfl
  · simp
theorem lookA_isSome (l : List (κ × α)) (k : κ) : (lookA l k).isSome = true ↔ k ∈ l.map (·.1) := by
  induction l with
  | nil => simp [lookA_nil]
  | cons x l ih =>
    rw [lookA_cons]
    by_cases hx : x.1 = k
    · simp [hx]
    · have : ¬ k = x.1 := fun e => hx e.symm
      simp [hx, this, ih]
theorem lookA_mem (l : List (κ × α)) (hn : (l.map (·.1)).Nodup) (x : κ × α) (hx : x ∈ l) : lookA l x.1 = some x.2 := by
  induction l with
  | nil => cases hx
  | cons y l ih =>
    rw [List.map_cons, List.nodup_cons] at hn
    rw [lookA_cons]
    rcases List.mem_cons.1 hx with rfl | hx
    · simp
    · rw [if_neg, ih hn.2 hx]
      intro e
      exact hn.1 (by rw [e]; exact List.mem_map_of_mem hx)
theorem nodup_put (l : List (κ × α)) (k : κ) (v : α) (hn : (l.map (·.1)).Nodup) : ((putA l k v).map (·.1)).Nodup := by
  rw [keys_put]
  split
  · exact hn
  · rename_i h
    rw [List.nodup_append]
    refine ⟨hn, by simp, ?_⟩
    intro a ha b hb
    simp only [List.mem_singleton] at hb
    subst hb
    rintro rfl
    exact h ((lookA_isSome l a).2 ha)
end
/-- what is asked of a type of keys -/
structure KeyOK (P : Program) (kt : TypeId) {κ : Type} [DecidableEq κ] (mk : κ → Value) : Prop where
  find : ∀ (w : World) (k : κ) (es : List MapEntry) (ks : List κ), es.map (·.key) = ks.map mk → (Instr.findKey kt (mk k) es).run P w = .ok ((ks.findIdx? (fun x => decide (x = k))).bind fun i => (es[i]?).map fun e => (i, e.val)) w
  check : ∀ (b : Bool) (w : World) (k : κ), (Instr.checkKey b 10000 kt (mk k)).run P w = .ok () w
  same : ∀ k, Instr.sameBits 10000 (mk k) (mk k) = true
section
variable {P : Program} {w : World}
theorem findNow_int (ik : IntKind) (k : Int) (es : List MapEntry) (ks : List Int) (i : Nat) (h : es.map (·.key) = ks.map (fun n => Value.int ik n)) :
    Instr.findNow (.int ik) (.int ik k) es i = some ((ks.findIdx? (fun x => decide (x = k))).bind fun j => (es[j]?).map fun e => (i + j, e.val)) := by
  induction es generalizing ks i with
  | nil =>
    cases ks with
    | nil => rfl
    | cons _ _ => simp at h
  | cons e es ih =>
    cases ks with
    | nil => simp at h
    | cons n ks =>
      simp only [List.map_cons, List.cons.injEq] at h
      obtain ⟨h1, h2⟩ := h
      unfold Instr.findNow
      rw [h1]
      by_cases hn : n = k
      · subst hn
        rw [List.findIdx?_cons]
        simp [Instr.sameNow]
      · have hn' : (k == n) = false := by simp; exact fun e => hn e.symm
        simp only [Instr.sameNow, if_true, hn']
        rw [ih ks (i + 1) h2]
        rw [List.findIdx?_cons]
        simp only [hn, decide_false, Bool.false_eq_true, if_false]
        cases ks.findIdx? (fun x => decide (x = k)) with
        | none => rfl
        | some j =>
          simp only [Option.bind_some, Option.map_some, List.getElem?_cons_succ]
          congr 1
          cases es[j]? with
          | none => rfl
          | some e => simp; omega
theorem keyInt {kt : TypeId} {ik : IntKind} (h : P.underlying kt = some (.int ik)) : KeyOK P kt (fun n : Int => Value.int ik n) where
  find := fun w k es ks hk => by
    have := findNow_int ik k es ks 0 hk
    simp only [Nat.zero_add] at this
    exact MapKept.run_findKey h this
  check := fun b w k => MapKept.run_checkKey h (by simp [MapKept.IsKey]) b 9999
  same := fun k => by simp [Instr.sameBits]
theorem findAsk_pair {kt : TypeId} (mk : Int × Int → Value) (heq : ∀ (w : World) (a b : Int × Int), (Op.equal kt (mk a) (mk b)).run P w = .ok (decide (a = b)) w) (w : World) (k : Int × Int) (es : List MapEntry) (ks : List (Int × Int)) (i : Nat) (h : es.map (·.key) = ks.map mk) :
    (Instr.findAsking kt (mk k) es i).run P w = .ok ((ks.findIdx? (fun x => decide (x = k))).bind fun j => (es[j]?).map fun e => (i + j, e.val)) w := by
  induction es generalizing ks i with
  | nil =>
    cases ks with
    | nil => rfl
    | cons _ _ => simp at h
  | cons e es ih =>
    cases ks with
    | nil => simp at h
    | cons n ks =>
      simp only [List.map_cons, List.cons.injEq] at h
      obtain ⟨h1, h2⟩ := h
      unfold Instr.findAsking
      rw [Sem.run_bind, h1, heq, Result.andThen_ok]
      by_cases hn : n = k
      · subst hn
        rw [List.findIdx?_cons]
        simp [Sem.run_pure]
      · have hn' : ¬ k = n := fun e => hn e.symm
        simp only [hn', decide_false, Bool.false_eq_true, if_false]
        rw [ih ks (i + 1) h2, List.findIdx?_cons]
        simp only [hn, decide_false, Bool.false_eq_true, if_false]
        cases ks.findIdx? (fun x => decide (x = k)) with
        | none => rfl
        | some j =>
          simp only [Option.bind_some, Option.map_some, List.getElem?_cons_succ]
          congr 1
          cases es[j]? with
          | none => rfl
          | some e => simp; omega
end
end Go.Sh
