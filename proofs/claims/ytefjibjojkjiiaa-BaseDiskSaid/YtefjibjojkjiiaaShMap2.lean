/- ShMap2: a part of the proof of the seat's statements: lemmas about the given translation and plain laws. No condition of its own. -/
import Derived.Test.YtefjibjojkjiiaaShMap
import Derived.Laws.IdiomRangeMap
set_option linter.all false
namespace Go.Sh
open Go Go.RowKit
section
variable {κ α : Type} [DecidableEq κ]
theorem idx_some (l : List (κ × α)) (k : κ) (i : Nat) (h : (l.map (·.1)).findIdx? (fun x => decide (x = k)) = some i) : ∃ x, l[i]? = some x ∧ x.1 = k ∧ lookA l k = some x.2 := by
  induction l generalizing i with
  | nil => simp at h
  | cons x l ih =>
    rw [List.map_cons, List.findIdx?_cons] at h
    rw [lookA_cons]
    by_cases hx : x.1 = k
    · simp [hx] at h
      subst h
      exact ⟨x, rfl, hx, by simp [hx]⟩
    · simp only [hx, decide_false, Bool.false_eq_true, if_false, Option.map_eq_some_iff] at h
      obtain ⟨j, hj, rfl⟩ := h
      obtain ⟨y, h1, h2, h3⟩ := ih j hj
      exact ⟨y, by simpa using h1, h2, by simp [hx, h3]⟩
theorem idx_none (l : List (κ × α)) (k : κ) (h : (l.map (·.1)).findIdx? (fun x => decide (x = k)) = none) : lookA l k = none := by
  cases hl : lookA l k with
  | none => rfl
  | some v =>
    have := (lookA_isSome l k).1 (by rw [hl]; rfl)
    rw [List.findIdx?_eq_none_iff] at h
    have := h k this
    simp at this
theorem map_set (l : List (κ × α)) (k : κ) (v : α) (i : Nat) (hn : (l.map (·.1)).Nodup) {x : κ × α} (hi : l[i]? = some x) (hx : x.1 = k) : l.map (fun x => if x.1 = k then (k, v) else x) = l.set i (k, v) := by
  apply List.ext_getElem?
  intro j
  rw [List.getElem?_map, List.getElem?_set]
  by_cases hij : i = j
  · subst hij
    have hlt := (List.getElem?_eq_some_iff.1 hi).1
    rw [hi]
    simp [hx, hlt]
  · rw [if_neg hij]
    cases hj : l[j]? with
    | none => rfl
    | some y =>
      have : ¬ y.1 = k := by
        intro hy
        have h1 : (l.map (·.1))[i]? = some k := by rw [List.getElem?_map, hi]; simp [hx]
        have h2 : (l.map (·.1))[j]? = some k := by rw [List.getElem?_map, hj]; simp [hy]
        exact hij ((List.getElem?_inj (by have := (List.getElem?_eq_some_iff.1 hi).1; simpa using this) hn).1 (h1.trans h2.symm))
      simp [this]
end
section
variable {P : Program} {w : World} {κ : Type} [DecidableEq κ] {mk : κ → Value}
/-- a map's block -/
def MapIs (mk : κ → Value) (w : World) (b : Nat) (l : List (κ × Value)) : Prop :=
  ∃ es clock, w.heap[b]? = some (.map es clock) ∧ es.toList.map (fun e => (e.key, e.val)) = l.map (fun x => (mk x.1, x.2)) ∧ (l.map (·.1)).Nodup ∧ (es.toList.map (·.born)).Nodup ∧ ∀ e ∈ es.toList, e.born < clock
theorem MapIs.lt {b : Nat} {l : List (κ × Value)} (h : MapIs mk w b l) : b < w.heap.size := by
  obtain ⟨es, clock, hb, _⟩ := h
  exact (Array.getElem?_eq_some_iff.1 hb).1
theorem MapIs.of_block {w' : World} {b : Nat} {l : List (κ × Value)} (h : MapIs mk w b l) (hb : w'.heap[b]? = w.heap[b]?) : MapIs mk w' b l := by
  obtain ⟨es, clock, h1, h2⟩ := h
  exact ⟨es, clock, by rw [hb]; exact h1, h2⟩
theorem keys_of {es : Array MapEntry} {l : List (κ × Value)} (h : es.toList.map (fun e => (e.key, e.val)) = l.map (fun x => (mk x.1, x.2))) : es.toList.map (·.key) = (l.map (·.1)).map mk := by
  have := congrArg (List.map Prod.fst) h
  simpa [List.map_map, Function.comp_def] using this
theorem vals_at {es : Array MapEntry} {l : List (κ × Value)} (h : es.toList.map (fun e => (e.key, e.val)) = l.map (fun x => (mk x.1, x.2))) {i : Nat} {x : κ × Value} (hi : l[i]? = some x) : ∃ e, es[i]? = some e ∧ e.key = mk x.1 ∧ e.val = x.2 := by
  have := congrArg (fun l => l[i]?) h
  simp only [List.getElem?_map, hi, Option.map_some, Option.map_eq_some_iff] at this
  obtain ⟨e, he, heq⟩ := this
  simp only [Prod.mk.injEq] at heq
  exact ⟨e, by simpa using he, heq.1, heq.2⟩
theorem find_run {kt : TypeId} (K : KeyOK P kt mk) {es : Array MapEntry} {l : List (κ × Value)} (h : es.toList.map (fun e => (e.key, e.val)) = l.map (fun x => (mk x.1, x.2))) (k : κ) :
    (∃ i x e, (Instr.findKey kt (mk k) es.toList).run P w = .ok (some (i, x.2)) w ∧ l[i]? = some x ∧ x.1 = k ∧ lookA l k = some x.2 ∧ es[i]? = some e ∧ e.key = mk k ∧ e.val = x.2) ∨ ((Instr.findKey kt (mk k) es.toList).run P w = .ok none w ∧ lookA l k = none) := by
  have hf := K.find w k es.toList (l.map (·.1)) (keys_of h)
  cases hi : (l.map (·.1)).findIdx? (fun x => decide (x = k)) with
  | none =>
    right
    rw [hi] at hf
    exact ⟨hf, idx_none l k hi⟩
  | some i =>
    left
    obtain ⟨x, h1, h2, h3⟩ := idx_some l k i hi
    obtain ⟨e, he, hk, hv⟩ := vals_at h h1
    rw [hi] at hf
    have he' : es.toList[i]? = some e := by simpa using he
    simp only [Option.bind_some, he', Option.map_some, hv] at hf
    exact ⟨i, x, e, hf, h1, h2, h3, he, by rw [hk, h2], hv⟩
theorem run_lookup {t kt et : TypeId} {z : Value} {b : Nat} {l : List (κ × Value)} (K : KeyOK P kt mk) (ht : P.underlying t = some (.map kt et)) (hz : ∀ w, (zeroValue et).run P w = .ok z w) (h : MapIs mk w b l) (k : κ) :
    (Instr.lookup t (.map (some b)) (mk k) false).run P w = .ok ((lookA l k).getD z) w := by
  obtain ⟨es, clock, hb, hl, hn, _, _⟩ := h
  unfold Instr.lookup
  simp only [Sem.run_bind, run_underlying ht, Result.andThen_ok, MapKept.run_getObj_map hb, Sem.run_pure, K.check]
  rcases find_run (w := w) K hl k with ⟨i, x, e, h1, h2, h3, h4, h5, h6, h7⟩ | ⟨h1, h2⟩
  · rw [h1, h4]
    simp [Sem.run_pure]
  · rw [h1, h2]
    simp [hz, Sem.run_pure]
theorem grown_heap (w : World) (b : Nat) (o : Obj) : w.grownBy { w with heap := w.heap.setIfInBounds b o } (some b) :=
  ⟨rfl, rfl, rfl, by simp, fun i _ hi => by
    have : b ≠ i := fun e => hi (by rw [e])
    simp [this]⟩
theorem modify_map {es : Array MapEntry} {l : List (κ × Value)} (h : es.toList.map (fun e => (e.key, e.val)) = l.map (fun x => (mk x.1, x.2))) (hn : (l.map (·.1)).Nodup) {i : Nat} {x : κ × Value} (hi : l[i]? = some x) (v : Value) :
    ((es.modify i fun e => { e with key := mk x.1, val := v }).toList.map (fun e => (e.key, e.val)) = (l.map (fun y => if y.1 = x.1 then (x.1, v) else y)).map (fun x => (mk x.1, x.2))) ∧
    (es.modify i fun e => { e with key := mk x.1, val := v }).toList.map (·.born) = es.toList.map (·.born) := by
  have key : ∀ j : Nat, (es.toList.map (fun e => (e.key, e.val)))[j]? = (l.map (fun x => (mk x.1, x.2)))[j]? := fun j => by rw [h]
  constructor
  · rw [map_set l x.1 v i hn hi rfl]
    apply List.ext_getElem?
    intro j
    have kj := key j
    simp only [List.getElem?_map, Array.getElem?_toList, Array.getElem?_modify, List.getElem?_set] at kj ⊢
    by_cases hij : i = j
    · subst hij
      obtain ⟨e, he, _⟩ := vals_at h hi
      have hlt := (List.getElem?_eq_some_iff.1 hi).1
      simp [he, hlt]
    · simp only [if_neg hij]
      exact kj
  · apply List.ext_getElem?
    intro j
    simp only [List.getElem?_map, Array.getElem?_toList, Array.getElem?_modify]
    by_cases hij : i = j
    · subst hij
      simp only [if_true]
      cases es[i]? <;> rfl
    · simp only [if_neg hij]
theorem run_update {t kt et : TypeId} {b : Nat} {l : List (κ × Value)} (K : KeyOK P kt mk) (ht : P.underlying t = some (.map kt et)) (h : MapIs mk w b l) (k : κ) (v : Value) :
    ∃ w', (Instr.mapUpdate t (.map (some b)) (mk k) v).run P w = .ok () w' ∧ MapIs mk w' b (putA l k v) ∧ w.grownBy w' (some b) ∧ w'.heap.size = w.heap.size := by
  obtain ⟨es, clock, hb, hl, hn, hbn, hlt⟩ := h
  have hbs := (Array.getElem?_eq_some_iff.1 hb).1
  unfold Instr.mapUpdate
  simp only [Sem.run_bind, run_underlying ht, Result.andThen_ok, MapKept.run_getObj_map hb, K.check]
  rcases find_run (w := w) K hl k with ⟨i, x, e, h1, h2, h3, h4, h5, h6, h7⟩ | ⟨h1, h2⟩
  · rw [h1]
    subst h3
    have hks : (Instr.keyThatStays (((es[i]?).map (·.key)).getD (mk x.1)) (mk x.1)).run P w = .ok (mk x.1) w := by
      unfold Instr.keyThatStays
      rw [h5]
      simp only [Option.map_some, Option.getD_some, h6, K.same, if_true, Sem.run_pure]
    simp only [Result.andThen_ok, Sem.run_bind, hks, MapKept.run_setObj_map _ hb]
    obtain ⟨m1, m2⟩ := modify_map hl hn h2 v
    refine ⟨_, rfl, ⟨_, clock, (MapKept.heap_set hb).1, ?_, nodup_put l _ v hn, ?_, ?_⟩, grown_heap _ _ _, by simp⟩
    · rw [m1]
      unfold putA
      rw [h4]
      simp
    · rw [m2]; exact hbn
    · intro e' he'
      have : e'.born ∈ (es.toList.map (·.born)) := by rw [← m2]; exact List.mem_map_of_mem he'
      obtain ⟨e'', he'', heq⟩ := List.mem_map.1 this
      rw [← heq]; exact hlt e'' he''
  · rw [h1]
    simp only [Result.andThen_ok, MapKept.run_setObj_map _ hb]
    refine ⟨_, rfl, ⟨_, clock + 1, (MapKept.heap_set hb).1, ?_, nodup_put l _ v hn, ?_, ?_⟩, grown_heap _ _ _, by simp⟩
    · unfold putA
      rw [h2]
      simp [hl]
    · simp only [Array.toList_push, List.map_append, List.map_cons, List.map_nil]
      rw [List.nodup_append]
      refine ⟨hbn, by simp, ?_⟩
      intro a ha c hc
      obtain ⟨e', he', rfl⟩ := List.mem_map.1 ha
      have := hlt e' he'
      simp at hc
      omega
    · intro e' he'
      simp only [Array.toList_push, List.mem_append, List.mem_singleton] at he'
      rcases he' with he' | rfl
      · have := hlt e' he'; omega
      · simp
end
end Go.Sh
