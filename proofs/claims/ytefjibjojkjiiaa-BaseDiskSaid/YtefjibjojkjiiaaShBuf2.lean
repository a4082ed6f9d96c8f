/- ShBuf2: a part of the proof of the seat's statements: lemmas about the given translation and plain laws. No condition of its own. -/
import Derived.Test.YtefjibjojkjiiaaShBuf
set_option linter.all false
/- Byte buffers that a conversion from a string has laid: the run-time's mark lies behind the row. -/
namespace Go.Sh
open Go Go.RowKit
def BufM (w : World) (e : TypeId) (v : Value) (l : List UInt8) : Prop :=
  ∃ g cap cur fz, v = .slice (some ⟨g, 0, none⟩) l.length cap ∧ w.heap[g]? = some (.cells cur e fz) ∧ (∀ i, i < cur.size → ¬ (fz.1 ≤ i ∧ i < fz.2)) ∧ cur.size = cap ∧ l.length ≤ cap ∧ ∀ j (h : j < l.length), cur[j]? = some (.int .u8 (l[j].toNat : Int))
section
variable {P : Program} {w w' : World} {e : TypeId} {v : Value} {l : List UInt8} {K : Value → World → Prop}
theorem BufM.shape (h : BufM w e v l) : ∃ g c, v = .slice (some ⟨g, 0, none⟩) l.length c ∧ g < w.heap.size := by
  obtain ⟨g, cap, cur, fz, rfl, hg, _⟩ := h
  exact ⟨g, cap, rfl, (Array.getElem?_eq_some_iff.1 hg).1⟩
theorem BufM.keep (h : BufM w e v l) (hk : ∀ i, v.ownBlock = some i → w'.heap[i]? = w.heap[i]?) : BufM w' e v l := by
  obtain ⟨g, cap, cur, fz, rfl, hg, r⟩ := h
  exact ⟨g, cap, cur, fz, rfl, by rw [hk g rfl]; exact hg, r⟩
theorem ofStr_at {s d T : TypeId} (hs : P.underlying s = some .string) (hd : P.underlying d = some (.slice e)) (he : P.underlying e = some (.int .u8)) (l : List UInt8)
    (k : ∀ v w', BufM w' e v l → w.grownBy w' none → v.ownBlock = some w.heap.size → w.heap.size < w'.heap.size → K v w') : oM P (.convert s d (.tmp 0)) T [.string ⟨l.toArray⟩] K w := by
  have hr := run_bytes_of_string (P := P) w s d e ⟨l.toArray⟩ hs hd he
  rw [rM_of (S := convert s d (.string ⟨l.toArray⟩)) rfl, hr]
  have hge : l.length ≤ grownCap w (⟨l.toArray⟩ : ByteArray).size 0 e := grownCap_ge w l.length 0 e
  generalize grownCap w (⟨l.toArray⟩ : ByteArray).size 0 e = C at *
  have hsz : (bytesRow ⟨l.toArray⟩ C).size = C := by
    simp only [bytesRow, Array.size_append, Array.size_map, List.size_toArray, Array.size_replicate, ByteArray.size]
    omega
  rw [hsz]
  refine k _ _ ⟨w.heap.size, C, bytesRow ⟨l.toArray⟩ C, (C, C + 1), rfl, heap_alloc_new w.drew _, fun i hi => by rw [hsz] at hi; simp only; omega, hsz, hge, fun j hj => ?_⟩ ⟨rfl, rfl, rfl, by simp, fun i hi _ => heap_alloc_old w.drew _ hi⟩ rfl (by simp)
  unfold bytesRow
  rw [Array.getElem?_append_left (by simpa using hj)]
  simp [hj]
theorem pushB_at {t T : TypeId} {i : TypeInfo} {x : UInt8} {a : Addr} {c : Nat} (ht : P.underlying t = some (.slice e)) (hi : P.info? e = some i) (hz : i.zero = some (.int .u8 0)) (hs : i.size = 1) (hb : i.bytes = 1) (h : BufM w e v l) (ha : w.cell? a = some (.int .u8 (x.toNat : Int))) (hl : l.length + 1 ≤ 1099511627776)
    (k : ∀ v' w', BufM w' e v' (l ++ [x]) → w.grownBy w' v.ownBlock → (v'.ownBlock = v.ownBlock ∨ ∃ g, v'.ownBlock = some g ∧ w.heap.size ≤ g) → K v' w') :
    oM P (.call { callee := .builtin .append, args := #[.tmp 0, .tmp 1], argTypes := #[t, t] }) T [v, .slice (some a) 1 c] K w := by
  obtain ⟨g, cap, cur, fz, rfl, hg, hfz, hcs, hlc, hcell⟩ := h
  rw [oM_append]
  have hnews : ∀ j u, ([Value.int .u8 (x.toNat : Int)] : List Value)[j]? = some u → w.cell? (a.add j) = some u := by
    intro j u hj
    match j, hj with
    | 0, hj =>
      simp only [List.getElem?_cons_zero, Option.some.injEq] at hj
      subst hj
      have : a.add 0 = a := by simp [Addr.add]
      rw [this]; exact ha
  by_cases hroom : l.length + 1 ≤ cap
  · have hr := run_append_room_cells (P := P) (w := w) t T e i ht hi g 0 l.length cap a 1 c [.int .u8 (x.toNat : Int)] (by rw [hs]; rfl) hnews (by simp [Value.oneCell']) hroom (by
      intro j hj
      simp only [List.length_cons, List.length_nil] at hj
      rw [cell_of_block hg]
      simp [hs]
      omega) (by
      intro j hj
      simp only [List.length_cons, List.length_nil] at hj
      unfold World.frozen?
      rw [hg]
      have := hfz (0 + l.length * i.size + j) (by rw [hs]; omega)
      simp only [Bool.and_eq_false_iff, decide_eq_false_iff_not]
      omega)
    rw [hr, hs, Nat.zero_add, Nat.mul_one]
    refine k _ (w.setCell ⟨g, l.length, none⟩ (.int .u8 (x.toNat : Int))) ⟨g, cap, cur.setIfInBounds l.length (.int .u8 (x.toNat : Int)), fz, by rw [List.length_append]; rfl, block_set hg _, by simpa using hfz, by simpa using hcs, by simpa using hroom, fun j hj => ?_⟩ (grown_setCell w ⟨g, l.length, none⟩ _) (.inl rfl)
    rw [List.length_append, List.length_cons, List.length_nil] at hj
    by_cases hjl : j < l.length
    · rw [Array.getElem?_setIfInBounds_ne (by omega), hcell j hjl, List.getElem_append_left hjl]
    · obtain rfl : j = l.length := by omega
      rw [Array.getElem?_setIfInBounds_self_of_lt (by omega)]
      simp
  · have hholds : ∀ j u, (Lib.byteCells l)[j]? = some u → w.cell? ((⟨g, 0, none⟩ : Addr).add j) = some u := by
      intro j u hj
      rw [add_none, Nat.zero_add, cell_of_block hg]
      have hjl : j < l.length := by have := (List.getElem?_eq_some_iff.1 hj).1; simpa [Lib.byteCells] using this
      rw [hcell j hjl, ← hj]
      simp [Lib.byteCells, hjl]
    obtain ⟨v', w', hr, ho, hgr⟩ := run_append_arg_grows (P := P) (w := w) t T e i (.int .u8 0) 1 1 ht hi hz hs hb rfl (by omega) ⟨g, 0, none⟩ l.length cap (Lib.byteCells l) (by simp [Lib.byteCells]) hholds a 1 c [.int .u8 (x.toNat : Int)] rfl hnews (by omega) (by simp only [maxLen]; omega) (by omega)
    rw [hr]
    rcases ho.2 with ⟨_, h0⟩ | ⟨g', cap', cur', rfl, hb', hg', hnc, hcm, hcs', htk⟩
    · omega
    · refine k _ w' ⟨g', cap', cur', (0, 0), by rw [List.length_append]; rfl, hg', fun i _ => by omega, by omega, by rw [List.length_append]; exact hnc, fun j hj => ?_⟩ ⟨hgr.os, hgr.tape, hgr.output, hgr.size, fun i hi _ => hgr.block i hi (by simp)⟩ (.inr ⟨g', rfl, hb'⟩)
      have e1 : cur'.toList.take (l.length + 1) = Lib.byteCells (l ++ [x]) := by
        rw [Nat.mul_one] at htk
        rw [htk]
        simp [Lib.byteCells]
      have e2 := congrArg (fun q => q[j]?) e1
      rw [List.length_append, List.length_cons, List.length_nil] at hj
      simp only [List.getElem?_take_of_lt hj, Array.getElem?_toList] at e2
      rw [e2]
      have hj' : j < (l ++ [x]).length := by simpa using hj
      simp only [Lib.byteCells, List.getElem?_map, List.getElem?_eq_getElem hj', Option.map_some]
theorem BufM.set (h : BufM w e v l) {j : Nat} (hj : j < l.length) (x : UInt8) : ∃ g c, v = .slice (some ⟨g, 0, none⟩) l.length c ∧ w.frozen? ⟨g, j, none⟩ = false ∧ (w.cell? ⟨g, j, none⟩).isSome = true ∧ BufM (w.setCell ⟨g, j, none⟩ (.int .u8 (x.toNat : Int))) e v (l.set j x) := by
  obtain ⟨g, cap, cur, fz, rfl, hg, hfz, hcs, hlc, hcell⟩ := h
  refine ⟨g, cap, rfl, ?_, ?_, ⟨g, cap, cur.setIfInBounds j (.int .u8 (x.toNat : Int)), fz, by rw [List.length_set], block_set hg _, by simpa using hfz, by simpa using hcs, by simpa using hlc, fun k hk => ?_⟩⟩
  · unfold World.frozen?
    rw [hg]
    have := hfz j (by omega)
    simp only [Bool.and_eq_false_iff, decide_eq_false_iff_not]
    omega
  · rw [cell_of_block hg, hcell j hj]; rfl
  · rw [List.length_set] at hk
    by_cases hkj : k = j
    · subst hkj
      rw [Array.getElem?_setIfInBounds_self_of_lt (by omega)]
      simp
    · rw [Array.getElem?_setIfInBounds_ne (Ne.symm hkj), hcell k hk, List.getElem_set_ne (Ne.symm hkj)]
theorem BufM.cell (h : BufM w e v l) {j : Nat} (hj : j < l.length) : ∃ g c, v = .slice (some ⟨g, 0, none⟩) l.length c ∧ w.cell? ⟨g, j, none⟩ = some (.int .u8 (l[j].toNat : Int)) := by
  obtain ⟨g, cap, cur, fz, rfl, hg, hfz, hcs, hlc, hcell⟩ := h
  exact ⟨g, cap, rfl, by rw [cell_of_block hg]; exact hcell j hj⟩
theorem toStrM_at {t d T : TypeId} (hs : P.underlying t = some (.slice e)) (he : P.underlying e = some (.int .u8)) (hd : P.underlying d = some .string) (h : BufM w e v l) (k : K (.string ⟨l.toArray⟩) w) :
    oM P (.convert t d (.tmp 0)) T [v] K w := by
  obtain ⟨g, cap, cur, fz, rfl, hg, hfz, hcs, hlc, hcell⟩ := h
  have := run_convert_bytes_back (P := P) w t d e ⟨g, 0, none⟩ cap l hs he hd (fun j hj => by
    rw [add_none, Nat.zero_add, cell_of_block hg]
    exact hcell j hj)
  rw [rM_of (S := convert t d (.slice (some ⟨g, 0, none⟩) l.length cap)) rfl, this]
  exact k
theorem oM_storeCells {P : Program} {w : World} {K : Value → World → Prop} {t T e : TypeId} {xs : List Value} {g : Nat} {cur : Array Value} (hs : ∀ w, (sizeOf t).run P w = .ok xs.length w) (h1 : ∀ x ∈ xs, x.oneCell' = true) (hc : (Value.agg xs.toArray).cells = xs.toArray) (hg : w.heap[g]? = some (.cells cur e (0, 0))) (hfit : cur.size = xs.length)
    (hn : ∀ (w : World) (a : Addr), (do storeVar t a (.agg xs.toArray) : Sem Unit).run P w = (do storeCells a xs 0 : Sem Unit).run P w)
    (k : ∀ w', w.grownBy w' (some g) → w'.heap[g]? = some (.cells xs.toArray e (0, 0)) → K undef w') : oM P (.store t (.tmp 0) (.tmp 1)) T [.pointer (some ⟨g, 0, none⟩), .agg xs.toArray] K w := by
  have hst := run_storeCells_at P g 0 e xs 0 cur w hg (by omega) h1
  rw [oM_store]
  have hr : (Instr.storeAt t (.pointer (some ⟨g, 0, none⟩)) (.agg xs.toArray)).run P w = .ok () (w.setRow g xs.toArray) := by
    have e1 : (cur.toList.take (0 + 0) ++ xs ++ cur.toList.drop (0 + 0 + xs.length)).toArray = xs.toArray := by
      rw [List.drop_of_length_le (by simp; omega)]
      simp
    rw [e1] at hst
    have := hn w ⟨g, 0, none⟩
    simp only [Instr.storeAt, Sem.run_bind] at this ⊢
    simp [go_sem] at this ⊢
    rw [this]
    simpa using hst
  rw [hr]
  exact k _ (grown_setRow _ _ _) (setRow_heap w g _ _ e (0, 0) hg)
end
end Go.Sh
