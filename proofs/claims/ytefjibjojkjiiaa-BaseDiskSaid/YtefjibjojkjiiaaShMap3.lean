/- ShMap3: a part of the proof of the seat's statements: lemmas about the given translation and plain laws. No condition of its own. -/
import Derived.Test.YtefjibjojkjiiaaShMap2
import Derived.Test.YtefjibjojkjiiaaShQ3
import Derived.Shelf.SlMaps.Clone
set_option linter.all false
namespace Go.Sh
open Go Go.RowKit
section
variable {κ α : Type} [DecidableEq κ]
theorem erase_map {α β : Type} (f : α → β) (l : List α) (i : Nat) : (l.eraseIdx i).map f = (l.map f).eraseIdx i := by
  induction l generalizing i with
  | nil => rfl
  | cons x l ih => cases i <;> simp [ih]
theorem keys_del (l : List (κ × α)) (k : κ) : (delA l k).map (·.1) = (l.map (·.1)).filter (fun x => decide (x ≠ k)) := by
  unfold delA
  rw [List.filter_map]
  rfl
theorem nodup_del (l : List (κ × α)) (k : κ) (hn : (l.map (·.1)).Nodup) : ((delA l k).map (·.1)).Nodup := by
  rw [keys_del]; exact hn.filter _
theorem lookA_del (l : List (κ × α)) (k j : κ) : lookA (delA l k) j = if j = k then none else lookA l j := by
  unfold delA
  rw [lookA_filter (fun x => decide (x ≠ k))]
  by_cases h : j = k <;> simp [h]
theorem del_erase (l : List (κ × α)) (k : κ) (i : Nat) (hn : (l.map (·.1)).Nodup) {x : κ × α} (hi : l[i]? = some x) (hx : x.1 = k) : delA l k = l.eraseIdx i := by
  induction l generalizing i with
  | nil => simp at hi
  | cons y l ih =>
    rw [List.map_cons, List.nodup_cons] at hn
    cases i with
    | zero =>
      simp only [List.getElem?_cons_zero, Option.some.injEq] at hi
      subst hi
      unfold delA
      rw [List.filter_cons_of_neg (by simp [hx]), List.eraseIdx_cons_zero]
      rw [List.filter_eq_self]
      intro z hz
      simp only [decide_eq_true_eq]
      intro e
      exact hn.1 (by rw [hx, ← e]; exact List.mem_map_of_mem hz)
    | succ i =>
      simp only [List.getElem?_cons_succ] at hi
      have hy : ¬ y.1 = k := by
        intro e
        apply hn.1
        rw [e, ← hx]
        exact List.mem_map_of_mem (List.mem_of_getElem? hi)
      unfold delA at ih ⊢
      rw [List.filter_cons_of_pos (by simp [hy]), List.eraseIdx_cons_succ, ih i hn.2 hi]
end
section
variable {P : Program} {w : World} {κ : Type} [DecidableEq κ] {mk : κ → Value}
theorem MapIs.alloc {b : Nat} {l : List (κ × Value)} (h : MapIs mk w b l) (o : Obj) : MapIs mk (w.alloc o) b l := h.of_block (heap_alloc_old w o h.lt)
omit [DecidableEq κ] in
theorem mapIs_new (w : World) : MapIs mk (w.alloc (.map #[] 0)) w.heap.size ([] : List (κ × Value)) :=
  ⟨#[], 0, heap_alloc_new w _, rfl, by simp, by simp, by simp⟩
omit [DecidableEq κ] in
/-- a copy of a map's block -/
theorem MapIs.copy {b : Nat} {l : List (κ × Value)} (h : MapIs mk w b l) : ∃ o, w.heap[b]? = some o ∧ MapIs mk (w.alloc o) w.heap.size l ∧ ∃ es c, o = .map es c := by
  obtain ⟨es, clock, hb, h2⟩ := h
  exact ⟨_, hb, ⟨es, clock, heap_alloc_new w _, h2⟩, _, _, rfl⟩
theorem run_delete {t kt et ty : TypeId} {b : Nat} {l : List (κ × Value)} (K : KeyOK P kt mk) (ht : P.underlying t = some (.map kt et)) (h : MapIs mk w b l) (k : κ) :
    ∃ w', (Builtin.delete_ #[t, kt] ty #[.map (some b), mk k]).run P w = .ok (.tuple #[]) w' ∧ MapIs mk w' b (delA l k) ∧ w.grownBy w' (some b) ∧ w'.heap.size = w.heap.size := by
  obtain ⟨es, clock, hb, hl, hn, hbn, hlt⟩ := h
  unfold Builtin.delete_
  simp only [List.getElem?_toArray, List.getElem?_cons_zero, List.getElem?_cons_succ, Sem.run_bind, run_underlying ht, Result.andThen_ok, MapKept.run_getObj_map hb, K.check]
  rcases find_run (w := w) K hl k with ⟨i, x, e, h1, h2, h3, h4, h5, h6, h7⟩ | ⟨h1, h2⟩
  · rw [h1]
    simp only [Result.andThen_ok, Sem.run_bind, MapKept.run_setObj_map _ hb, Sem.run_pure]
    have hi : i < es.size := (Array.getElem?_eq_some_iff.1 h5).1
    refine ⟨_, rfl, ⟨_, clock, (MapKept.heap_set hb).1, ?_, nodup_del l k hn, ?_, ?_⟩, grown_heap _ _ _, by simp⟩
    · rw [del_erase l k i hn h2 h3, erase_map, ← hl, ← erase_map]
      congr 1
      simp [Array.eraseIdxIfInBounds, hi, Array.toList_eraseIdx]
    · have : (es.eraseIdxIfInBounds i).toList = es.toList.eraseIdx i := by simp [Array.eraseIdxIfInBounds, hi, Array.toList_eraseIdx]
      rw [this, erase_map]
      exact hbn.sublist (List.eraseIdx_sublist _ _)
    · intro e' he'
      have : (es.eraseIdxIfInBounds i).toList = es.toList.eraseIdx i := by simp [Array.eraseIdxIfInBounds, hi, Array.toList_eraseIdx]
      rw [this] at he'
      exact hlt _ (List.mem_of_mem_eraseIdx he')
  · rw [h1]
    simp only [Result.andThen_ok, Sem.run_bind, MapKept.run_setObj_map _ hb, Sem.run_pure]
    refine ⟨_, rfl, ⟨_, clock, (MapKept.heap_set hb).1, ?_, nodup_del l k hn, hbn, hlt⟩, grown_heap _ _ _, by simp⟩
    rw [hl]
    congr 1
    symm
    unfold delA
    rw [List.filter_eq_self]
    intro z hz
    simp only [decide_eq_true_eq]
    intro e
    have := (lookA_isSome l k).2 (by rw [← e]; exact List.mem_map_of_mem hz)
    rw [h2] at this
    cases this
/-- a new entry, in two steps -/
theorem run_entryNew {t kt et : TypeId} {z : Value} {b : Nat} {l : List (κ × Value)} (K : KeyOK P kt mk) (ht : P.underlying t = some (.map kt et)) (hz : ∀ w, (zeroValue et).run P w = .ok z w) (h : MapIs mk w b l) (k : κ) (hk : lookA l k = none) :
    ∃ w1 s, (Instr.mapEntry t (.map (some b)) (mk k)).run P w = .ok (.tuple #[z, .int .i64 s]) w1 ∧ w.grownBy w1 (some b) ∧ w1.heap.size = w.heap.size ∧
      ∀ v, ∃ w2, (Instr.entryStore t (.map (some b)) (.int .i64 s) v).run P w1 = .ok () w2 ∧ MapIs mk w2 b (putA l k v) ∧ w1.grownBy w2 (some b) ∧ w2.heap.size = w1.heap.size := by
  obtain ⟨es, clock, hb, hl, hn, hbn, hlt⟩ := h
  unfold Instr.mapEntry
  simp only [Sem.run_bind, run_underlying ht, Result.andThen_ok, MapKept.run_getObj_map hb, K.check]
  rcases find_run (w := w) K hl k with ⟨i, x, e, h1, h2, h3, h4, h5, h6, h7⟩ | ⟨h1, h2⟩
  · rw [h4] at hk; cases hk
  · rw [h1]
    simp only [Result.andThen_ok, Sem.run_bind, hz, MapKept.run_setObj_map _ hb, Sem.run_pure]
    refine ⟨_, (clock : Int), rfl, grown_heap _ _ _, by simp, fun v => ?_⟩
    have hb1 : (World.heap { w with heap := w.heap.setIfInBounds b (.map (es.push { key := mk k, val := z, born := clock }) (clock + 1)) })[b]? = _ := (MapKept.heap_set (o' := .map (es.push { key := mk k, val := z, born := clock }) (clock + 1)) hb).1
    have hix : (es.push { key := mk k, val := z, born := clock }).findIdx? (fun e => (e.born : Int) == (clock : Int)) = some es.size := by
      rw [Array.findIdx?_eq_some_iff_getElem]
      refine ⟨by simp, by simp, fun j hj => ?_⟩
      rw [Array.getElem_push_lt hj]
      have := hlt es[j] (by simp)
      simp only [beq_iff_eq, Int.natCast_inj]
      omega
    unfold Instr.entryStore
    simp only [Sem.run_bind, MapKept.run_getObj_map hb1, Result.andThen_ok, asInt, asIntOf, pure_bind, hix, MapKept.run_setObj_map _ hb1]
    have hm : ((es.push { key := mk k, val := z, born := clock }).modify es.size fun e => { e with val := v }) = es.push { key := mk k, val := v, born := clock } := by
      apply Array.ext_getElem?
      intro j
      rw [Array.getElem?_modify]
      rcases Nat.lt_trichotomy j es.size with hj | hj | hj
      · rw [if_neg (by omega), Array.getElem?_push_lt hj, Array.getElem?_push_lt hj]
      · subst hj; simp
      · rw [if_neg (by omega), Array.getElem?_eq_none (by simp; omega), Array.getElem?_eq_none (by simp; omega)]
    refine ⟨_, rfl, ⟨_, clock + 1, (MapKept.heap_set hb1).1, ?_, nodup_put l _ v hn, ?_, ?_⟩, grown_heap _ _ _, by simp⟩
    · rw [hm]
      unfold putA
      rw [h2]
      simp [hl]
    · rw [hm]
      simp only [Array.toList_push, List.map_append, List.map_cons, List.map_nil]
      rw [List.nodup_append]
      refine ⟨hbn, by simp, ?_⟩
      intro a ha c hc
      obtain ⟨e', he', rfl⟩ := List.mem_map.1 ha
      have := hlt e' he'
      simp at hc
      omega
    · rw [hm]
      intro e' he'
      simp only [Array.toList_push, List.mem_append, List.mem_singleton] at he'
      rcases he' with he' | rfl
      · have := hlt e' he'; omega
      · simp
end
end Go.Sh
