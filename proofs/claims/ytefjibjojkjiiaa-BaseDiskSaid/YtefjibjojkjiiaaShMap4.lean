/- ShMap4: a part of the proof of the seat's statements: lemmas about the given translation and plain laws. No condition of its own. -/
import Derived.Test.YtefjibjojkjiiaaShMap3
set_option linter.all false
namespace Go.Sh
open Go Go.RowKit
section
variable {P : Program} {w : World} {κ : Type} [DecidableEq κ] {mk : κ → Value}
theorem stamp_fun (ks : List κ) (bs : List Nat) (hn : ks.Nodup) (hl : ks.length = bs.length) : ∃ f : κ → Nat, bs = ks.map f := by
  induction ks generalizing bs with
  | nil => exact ⟨fun _ => 0, by cases bs <;> simp_all⟩
  | cons k ks ih =>
    cases bs with
    | nil => simp at hl
    | cons b bs =>
      rw [List.nodup_cons] at hn
      obtain ⟨f, hf⟩ := ih bs hn.2 (by simpa using hl)
      refine ⟨fun x => if x = k then b else f x, ?_⟩
      rw [List.map_cons, if_pos rfl, hf]
      congr 1
      apply List.map_congr_left
      intro x hx
      have : ¬ x = k := fun e => hn.1 (e ▸ hx)
      simp [this]
/-- a loop over a map that stores to keys that are there, or deletes -/
def Ranged (mk : κ → Value) (w : World) (it b : Nat) (l : List (κ × Value)) (ks done : List κ) : Prop :=
  ∃ es clock seen f, w.heap[b]? = some (.map es clock) ∧ w.heap[it]? = some (.mapIter (some b) clock seen clock) ∧ es.toList.map (fun e => (e.key, e.val)) = l.map (fun x => (mk x.1, x.2)) ∧ es.toList.map (·.born) = (l.map (·.1)).map f ∧
    (l.map (·.1)).Nodup ∧ (∀ a ∈ ks, ∀ c ∈ ks, f a = f c → a = c) ∧ (∀ a ∈ ks, f a < clock) ∧ seen.toList = done.reverse.map f ∧ (∀ a ∈ l.map (·.1), a ∈ ks) ∧ (∀ a ∈ done, a ∈ ks)
theorem nodup_map {α β : Type} (f : α → β) (l : List α) (hi : ∀ a ∈ l, ∀ c ∈ l, f a = f c → a = c) (hn : l.Nodup) : (l.map f).Nodup := by
  induction l with
  | nil => simp
  | cons a l ih =>
    rw [List.nodup_cons] at hn
    rw [List.map_cons, List.nodup_cons]
    refine ⟨?_, ih (fun x hx y hy => hi x (List.mem_cons_of_mem _ hx) y (List.mem_cons_of_mem _ hy)) hn.2⟩
    intro hm
    obtain ⟨c, hc, e⟩ := List.mem_map.1 hm
    have := hi c (List.mem_cons_of_mem _ hc) a (List.mem_cons_self ..) e
    exact hn.1 (this ▸ hc)
omit [DecidableEq κ] in
theorem Ranged.map {it b : Nat} {l : List (κ × Value)} {ks done : List κ} (h : Ranged mk w it b l ks done) : MapIs mk w b l := by
  obtain ⟨es, clock, seen, f, h1, h2, h3, h4, h5, h6, h7, h8, h9, h10⟩ := h
  refine ⟨es, clock, h1, h3, h5, ?_, ?_⟩
  · rw [h4]
    exact nodup_map f _ (fun a ha c hc => h6 a (h9 a ha) c (h9 c hc)) h5
  · intro e he
    have : e.born ∈ es.toList.map (·.born) := List.mem_map_of_mem he
    rw [h4] at this
    obtain ⟨a, ha, hb⟩ := List.mem_map.1 this
    rw [← hb]
    exact h7 a (h9 a ha)
omit [DecidableEq κ] in
theorem Ranged.of_blocks {w' : World} {it b : Nat} {l : List (κ × Value)} {ks done : List κ} (h : Ranged mk w it b l ks done) (hb : w'.heap[b]? = w.heap[b]?) (hi : w'.heap[it]? = w.heap[it]?) : Ranged mk w' it b l ks done := by
  obtain ⟨es, clock, seen, f, h1, h2, h3⟩ := h
  exact ⟨es, clock, seen, f, by rw [hb]; exact h1, by rw [hi]; exact h2, h3⟩
omit [DecidableEq κ] in
theorem Ranged.lt {it b : Nat} {l : List (κ × Value)} {ks done : List κ} (h : Ranged mk w it b l ks done) : b < w.heap.size ∧ it < w.heap.size ∧ b ≠ it := by
  obtain ⟨es, clock, seen, f, h1, h2, h3⟩ := h
  refine ⟨(Array.getElem?_eq_some_iff.1 h1).1, (Array.getElem?_eq_some_iff.1 h2).1, ?_⟩
  rintro rfl
  rw [h1] at h2; cases h2
theorem run_range {t kt et : TypeId} {b : Nat} {l : List (κ × Value)} (ht : P.underlying t = some (.map kt et)) (h : MapIs mk w b l) :
    ∃ o, (Instr.range t (.map (some b))).run P w = .ok (.pointer (some ⟨w.heap.size, 0, none⟩)) (w.alloc o) ∧ Ranged mk (w.alloc o) w.heap.size b l (l.map (·.1)) [] := by
  have hlt := h.lt
  obtain ⟨es, clock, hb, hl, hn, hbn, hcl⟩ := h
  refine ⟨_, run_range_map w t kt et b es clock ht hb, ?_⟩
  obtain ⟨f, hf⟩ := stamp_fun (l.map (·.1)) (es.toList.map (·.born)) hn (by have := congrArg List.length hl; simpa using this.symm)
  have hmem : ∀ a ∈ l.map (·.1), ∃ e ∈ es.toList, e.born = f a := by
    intro a ha
    have : f a ∈ es.toList.map (·.born) := by rw [hf]; exact List.mem_map_of_mem ha
    obtain ⟨e, he, h⟩ := List.mem_map.1 this
    exact ⟨e, he, h⟩
  refine ⟨es, clock, #[], f, by rw [heap_alloc_old w _ hlt]; exact hb, heap_alloc_new w _, hl, hf, hn, ?_, ?_, rfl, fun a ha => ha, by simp⟩
  · intro a ha c hc hac
    rw [hf] at hbn
    obtain ⟨i, hi⟩ := List.getElem?_of_mem ha
    obtain ⟨j, hj⟩ := List.getElem?_of_mem hc
    have h1 : ((l.map (·.1)).map f)[i]? = some (f a) := by rw [List.getElem?_map, hi]; rfl
    have h2 : ((l.map (·.1)).map f)[j]? = some (f a) := by rw [List.getElem?_map, hj, hac]; rfl
    have hij := (List.getElem?_inj (List.getElem?_eq_some_iff.1 h1).1 hbn).1 (h1.trans h2.symm)
    subst hij
    rw [hi] at hj
    exact Option.some.inj hj
  · intro a ha
    obtain ⟨e, he, hef⟩ := hmem a ha
    rw [← hef]
    exact hcl e he
theorem choose_lt (n : Nat) (hn : 0 < n) : ∃ j w1, (choose (.mapNext n)).run P w = .ok j w1 ∧ j < n ∧ w1.heap = w.heap ∧ w.grownBy w1 none := by
  by_cases hf : n ≤ 1
  · exact ⟨0, w, by simp [choose, Sem.run, Question.forced, hf], by omega, rfl, ⟨rfl, rfl, rfl, Nat.le_refl _, fun _ _ _ => rfl⟩⟩
  · have h : ∃ m, (choose (.mapNext n)).run P w = .ok (m % n) w.drew := by
      simp only [choose, Sem.run, Question.forced, decide_eq_true_eq, hf, if_false, Question.cut]
      exact ⟨_, rfl⟩
    obtain ⟨m, h⟩ := h
    exact ⟨_, w.drew, h, Nat.mod_lt _ hn, rfl, ⟨rfl, rfl, rfl, Nat.le_refl _, fun _ _ _ => rfl⟩⟩
omit [DecidableEq κ] in
theorem run_next {ty : TypeId} {it b : Nat} {l : List (κ × Value)} {ks done : List κ} (h : Ranged mk w it b l ks done) :
    ((∀ x ∈ l, x.1 ∈ done) ∧ (Instr.next (.pointer (some ⟨it, 0, none⟩)) false ty).run P w = .ok (.tuple #[.bool false]) w) ∨
    ∃ x ∈ l, x.1 ∉ done ∧ ∃ w', (Instr.next (.pointer (some ⟨it, 0, none⟩)) false ty).run P w = .ok (.tuple #[.bool true, mk x.1, x.2]) w' ∧ Ranged mk w' it b l ks (x.1 :: done) ∧ w.grownBy w' (some it) ∧ w'.heap.size = w.heap.size := by
  have hbi := h.lt.2.2
  obtain ⟨es, clock, seen, f, h1, h2, h3, h4, h5, h6, h7, h8, h9, h10⟩ := h
  have hborn : ∀ e ∈ es.toList, e.born < clock := by
    intro e he
    have : e.born ∈ es.toList.map (·.born) := List.mem_map_of_mem he
    rw [h4] at this
    obtain ⟨a, ha, hb⟩ := List.mem_map.1 this
    rw [← hb]
    exact h7 a (h9 a ha)
  have hat : ∀ (i : Nat) (x : κ × Value), l[i]? = some x → ∃ e : MapEntry, es.toList[i]? = some e ∧ e.key = mk x.1 ∧ e.val = x.2 ∧ e.born = f x.1 := by
    intro i x hi
    have q1 := congrArg (fun l => l[i]?) h3
    have q2 := congrArg (fun l => l[i]?) h4
    simp only [List.getElem?_map, hi, Option.map_some, Option.map_eq_some_iff] at q1 q2
    obtain ⟨e, he, heq⟩ := q1
    obtain ⟨e', he', heq'⟩ := q2
    rw [he] at he'; cases he'
    simp only [Prod.mk.injEq] at heq
    exact ⟨e, he, heq.1, heq.2, heq'⟩
  have hseen : ∀ a ∈ ks, (seen.contains (f a) = true ↔ a ∈ done) := by
    intro a ha
    rw [Array.contains_iff_mem, ← Array.mem_toList_iff, h8, List.mem_map]
    constructor
    · rintro ⟨c, hc, e⟩
      rw [List.mem_reverse] at hc
      exact (h6 c (h10 c hc) a ha e) ▸ hc
    · intro hd
      exact ⟨a, List.mem_reverse.2 hd, rfl⟩
  have key := next_test_false seen es clock clock hborn (Nat.le_refl _)
  simp only [Instr.next, getObj, Sem.run_bind, Sem.run, h1, h2, Result.andThen, key, Bool.false_eq_true, if_false]
  have e1 : (es.filter (fun e => !seen.contains e.born)).filter (fun x => decide (x.born < clock)) = es.filter (fun e => !seen.contains e.born) := Array.filter_eq_self.2 (fun x hx => by
    have := hborn x (by have := (Array.mem_filter.1 hx).1; simpa using this)
    simpa using this)
  have e2 : (es.filter (fun e => !seen.contains e.born)).filter (fun x => decide (x.born ≥ clock)) = #[] := by
    rw [Array.filter_eq_empty_iff]
    intro x hx
    have := hborn x (by have := (Array.mem_filter.1 hx).1; simpa using this)
    simp
    omega
  simp only [e1, e2, Array.append_empty]
  by_cases h0 : (es.filter (fun e => !seen.contains e.born)).size = 0
  · left
    have hL : es.filter (fun e => !seen.contains e.born) = #[] := Array.eq_empty_of_size_eq_zero h0
    constructor
    · intro x hx
      obtain ⟨i, hi⟩ := List.getElem?_of_mem hx
      obtain ⟨e, he, q1, q2, q3⟩ := hat i x hi
      rw [Array.filter_eq_empty_iff] at hL
      have := hL e (by have := List.mem_of_getElem? he; simpa using this)
      rw [q3] at this
      rw [← hseen x.1 (h9 _ (List.mem_map_of_mem hx))]
      simpa using this
    · rw [hL]
      simp [choose, Sem.run, Question.forced]
  · right
    obtain ⟨L, hL⟩ : ∃ L, L = es.filter (fun e => !seen.contains e.born) := ⟨_, rfl⟩
    rw [← hL] at h0 ⊢
    have hne : L.isEmpty = false := by simp [Array.isEmpty, h0]
    simp only [hne, Bool.false_eq_true, if_false, Array.empty_append, Array.size_map]
    obtain ⟨j, w1, hr, hj, hh, hg⟩ := choose_lt (P := P) (w := w) L.size (by omega)
    have hmem : L[j] ∈ L := Array.getElem_mem hj
    obtain ⟨hme, hms⟩ : L[j] ∈ es ∧ (!seen.contains L[j].born) = true := by
      have hmem : L[j] ∈ es.filter (fun e => !seen.contains e.born) := hL ▸ hmem
      exact Array.mem_filter.1 hmem
    rw [← Array.mem_toList_iff] at hme
    obtain ⟨i, hi⟩ := List.getElem?_of_mem hme
    have hil : i < l.length := by
      have q := congrArg List.length h3
      have := (List.getElem?_eq_some_iff.1 hi).1
      simp at q this
      omega
    obtain ⟨e, he, q1, q2, q3⟩ := hat i l[i] (List.getElem?_eq_getElem hil)
    rw [hi] at he
    have he := Option.some.inj he
    generalize hLj : L[j] = ej at *
    subst he
    have hxl : l[i] ∈ l := List.getElem_mem hil
    have hnd : l[i].1 ∉ done := by
      rw [← hseen l[i].1 (h9 _ (List.mem_map_of_mem hxl)), ← q3]
      simpa using hms
    have h2' : w1.heap[it]? = some (.mapIter (some b) clock seen clock) := by rw [hh]; exact h2
    have hit : it < w1.heap.size := (Array.getElem?_eq_some_iff.1 h2').1
    refine ⟨l[i], hxl, hnd, { w1 with heap := w1.heap.setIfInBounds it (.mapIter (some b) clock (seen.push ej.born) clock) }, ?_, ?_, ?_, ?_⟩
    · simp only [hr, Array.getElem?_map, Array.getElem?_eq_getElem hj, Option.map_some, Sem.run_bind, Result.andThen, hLj]
      simp only [setObj, Sem.run, h2', Result.andThen]
      rw [q1, q2]
      rfl
    · refine ⟨es, clock, seen.push ej.born, f, ?_, ?_, h3, h4, h5, h6, h7, ?_, h9, ?_⟩
      · show (w1.heap.setIfInBounds it _)[b]? = _
        rw [Array.getElem?_setIfInBounds_ne (Ne.symm hbi), hh]
        exact h1
      · show (w1.heap.setIfInBounds it _)[it]? = _
        simp [hit]
      · simp [h8, q3]
      · intro a ha
        rcases List.mem_cons.1 ha with rfl | ha
        · exact h9 _ (List.mem_map_of_mem hxl)
        · exact h10 a ha
    · refine ⟨hg.os, hg.tape, hg.output, by simp [hh], fun k hk hr => ?_⟩
      show (w1.heap.setIfInBounds it _)[k]? = _
      rw [Array.getElem?_setIfInBounds_ne (fun e => hr (by rw [e])), hh]
    · simp [hh]
omit [DecidableEq κ] in
theorem run_entry {it b : Nat} {l : List (κ × Value)} {ks done : List κ} {x : κ × Value} (h : Ranged mk w it b l ks (x.1 :: done)) (hx : x ∈ l) :
    (Instr.entry (.pointer (some ⟨it, 0, none⟩))).run P w = .ok (.tuple #[mk x.1, x.2]) w := by
  obtain ⟨es, clock, seen, f, h1, h2, h3, h4, h5, h6, h7, h8, h9, h10⟩ := h
  obtain ⟨i, hi⟩ := List.getElem?_of_mem hx
  have q1 := congrArg (fun l => l[i]?) h3
  have q2 := congrArg (fun l => l[i]?) h4
  simp only [List.getElem?_map, hi, Option.map_some, Option.map_eq_some_iff] at q1 q2
  obtain ⟨e, he, heq⟩ := q1
  obtain ⟨e', he', heq'⟩ := q2
  rw [he] at he'; cases he'
  simp only [Prod.mk.injEq] at heq
  have hbk : seen.back? = some (f x.1) := by
    rw [← Array.getLast?_toList, h8]
    simp
  have hnd : (es.toList.map (·.born)).Nodup := by
    rw [h4]
    exact nodup_map f _ (fun a ha c hc => h6 a (h9 a ha) c (h9 c hc)) h5
  have hf : es.find? (·.born == f x.1) = some e := by
    rw [← Array.find?_toList, ← heq']
    exact find_born e es.toList hnd (List.mem_of_getElem? he)
  simp only [Instr.entry, getObj, Sem.run_bind, Sem.run, h1, h2, hbk, hf, Result.andThen, bne_self_eq_false, Bool.false_eq_true, if_false]
  rw [heq.1, heq.2]
  rfl
theorem run_updateR {t kt et : TypeId} {it b : Nat} {l : List (κ × Value)} {ks done : List κ} (K : KeyOK P kt mk) (ht : P.underlying t = some (.map kt et)) (h : Ranged mk w it b l ks done) (k : κ) (v : Value) (hk : k ∈ l.map (·.1)) :
    ∃ w', (Instr.mapUpdate t (.map (some b)) (mk k) v).run P w = .ok () w' ∧ Ranged mk w' it b (putA l k v) ks done ∧ w.grownBy w' (some b) ∧ w'.heap.size = w.heap.size := by
  have hbi := h.lt.2.2
  obtain ⟨es, clock, seen, f, hb, h2, hl, h4, hn, h6, h7, h8, h9, h10⟩ := h
  unfold Instr.mapUpdate
  simp only [Sem.run_bind, run_underlying ht, Result.andThen_ok, MapKept.run_getObj_map hb, K.check]
  rcases find_run (w := w) K hl k with ⟨i, x, e, g1, g2, g3, g4, g5, g6, g7⟩ | ⟨g1, g2⟩
  · rw [g1]
    subst g3
    have hks : (Instr.keyThatStays (((es[i]?).map (·.key)).getD (mk x.1)) (mk x.1)).run P w = .ok (mk x.1) w := by
      unfold Instr.keyThatStays
      rw [g5]
      simp only [Option.map_some, Option.getD_some, g6, K.same, if_true, Sem.run_pure]
    simp only [Result.andThen_ok, Sem.run_bind, hks, MapKept.run_setObj_map _ hb]
    obtain ⟨m1, m2⟩ := modify_map hl hn g2 v
    have hkp : (putA l x.1 v).map (·.1) = l.map (·.1) := by rw [keys_put, g4]; simp
    refine ⟨_, rfl, ⟨_, clock, seen, f, (MapKept.heap_set hb).1, ?_, ?_, ?_, ?_, h6, h7, h8, ?_, h10⟩, grown_heap _ _ _, by simp⟩
    · show (w.heap.setIfInBounds b _)[it]? = _
      rw [Array.getElem?_setIfInBounds_ne hbi]
      exact h2
    · rw [m1]
      unfold putA
      rw [g4]
      simp
    · rw [m2, hkp]; exact h4
    · rw [hkp]; exact hn
    · rw [hkp]; exact h9
  · have := (lookA_isSome l k).2 hk
    rw [g2] at this; cases this
theorem run_deleteR {t kt et ty : TypeId} {it b : Nat} {l : List (κ × Value)} {ks done : List κ} (K : KeyOK P kt mk) (ht : P.underlying t = some (.map kt et)) (h : Ranged mk w it b l ks done) (k : κ) (hk : k ∈ l.map (·.1)) :
    ∃ w', (Builtin.delete_ #[t, kt] ty #[.map (some b), mk k]).run P w = .ok (.tuple #[]) w' ∧ Ranged mk w' it b (delA l k) ks done ∧ w.grownBy w' (some b) ∧ w'.heap.size = w.heap.size := by
  have hbi := h.lt.2.2
  obtain ⟨es, clock, seen, f, hb, h2, hl, h4, hn, h6, h7, h8, h9, h10⟩ := h
  unfold Builtin.delete_
  simp only [List.getElem?_toArray, List.getElem?_cons_zero, List.getElem?_cons_succ, Sem.run_bind, run_underlying ht, Result.andThen_ok, MapKept.run_getObj_map hb, K.check]
  rcases find_run (w := w) K hl k with ⟨i, x, e, g1, g2, g3, g4, g5, g6, g7⟩ | ⟨g1, g2⟩
  · rw [g1]
    simp only [Result.andThen_ok, Sem.run_bind, MapKept.run_setObj_map _ hb, Sem.run_pure]
    have hi : i < es.size := (Array.getElem?_eq_some_iff.1 g5).1
    have hes : (es.eraseIdxIfInBounds i).toList = es.toList.eraseIdx i := by simp [Array.eraseIdxIfInBounds, hi, Array.toList_eraseIdx]
    have hdl := del_erase l k i hn g2 g3
    refine ⟨_, rfl, ⟨_, clock, seen, f, (MapKept.heap_set hb).1, ?_, ?_, ?_, nodup_del l k hn, h6, h7, h8, ?_, h10⟩, grown_heap _ _ _, by simp⟩
    · show (w.heap.setIfInBounds b _)[it]? = _
      rw [Array.getElem?_setIfInBounds_ne hbi]
      exact h2
    · rw [hdl, hes, erase_map, hl, ← erase_map]
    · rw [hes, erase_map, h4, hdl, erase_map, erase_map]
    · intro a ha
      rw [keys_del] at ha
      exact h9 a (List.mem_filter.1 ha).1
  · have := (lookA_isSome l k).2 hk
    rw [g2] at this; cases this
end
end Go.Sh
