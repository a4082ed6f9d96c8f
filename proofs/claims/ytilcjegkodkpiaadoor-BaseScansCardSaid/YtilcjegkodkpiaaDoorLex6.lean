/- Lex6: a part of the proof of the seat's statements: lemmas about the given translation and plain laws. No condition of its own. -/
import Derived.Test.YtilcjegkodkpiaaDoorLex5
import Derived.Deep.WholeRow
import Derived.Deep.MidRow
set_option linter.all false
namespace Go.Proofs
open Go Go.Sh Go.RowKit Go.Lib LexSpec
set_option linter.unusedSimpArgs false
def tokV (t : Tok) : Value := .agg #[.int .i64 t.kind, .string ⟨t.text.toArray⟩, .int .i64 t.n, .int .i64 t.pos]
def signArr : Array Value := (signs.map (fun l => Value.string ⟨l.toArray⟩)).toArray
def signsLaid (w : World) : Prop := ∃ t f, w.heap[0]? = some (.cells signArr t f)
theorem build32_0 (w : World) : (Instr.build 32 #[]).run Tryd.prog w = .ok (.agg #[.int .i64 0, .string ⟨#[]⟩, .int .i64 0, .int .i64 0]) w := by kernel_rfl
theorem build32_2 (k : Int) (t : ByteArray) (w : World) : (Instr.build 32 #[(0, .int .i64 k), (1, .string t)]).run Tryd.prog w = .ok (.agg #[.int .i64 k, .string t, .int .i64 0, .int .i64 0]) w := by kernel_rfl
theorem build32_3 (k n : Int) (t : ByteArray) (w : World) : (Instr.build 32 #[(0, .int .i64 k), (1, .string t), (2, .int .i64 n)]).run Tryd.prog w = .ok (.agg #[.int .i64 k, .string t, .int .i64 n, .int .i64 0]) w := by kernel_rfl
theorem Below_setRow {B : Nat} {a w : World} (h : Below B a w) {g : Nat} (hg : B ≤ g) (cs : Array Value) : Below B a (w.setRow g cs) := by
  refine h.trans ⟨rfl, rfl, rfl, by simp [World.setRow], fun k hk => ?_⟩
  simp only [World.setRow, Array.getElem?_modify]
  rw [if_neg (by omega)]
theorem store32 {g : Nat} {w : World} {old : Array Value} (hg : w.heap[g]? = some (.cells old 32 (0, 0))) (ho : old.size = 4) (k n p : Int) (s : ByteArray) :
    (Instr.storeAt 32 (.pointer (some ⟨g, 0, none⟩)) (.agg #[.int .i64 k, .string s, .int .i64 n, .int .i64 p])).run Tryd.prog w = .ok () (w.setRow g #[.int .i64 k, .string s, .int .i64 n, .int .i64 p]) := by
  simp only [Instr.storeAt, Instr.sureAddr, Sem.run_bind, Sem.run_pure, Result.andThen]
  exact run_storeVar_row w g 32 32 old _ hg (by kernel_rfl) (by simpa using ho) (by simp [Value.oneCell'])
theorem load32 {g : Nat} {w : World} {cs : Array Value} (hg : w.heap[g]? = some (.cells cs 32 (0, 0))) (ho : cs.size = 4) :
    (do loadVar 32 (← asAddr (.pointer (some ⟨g, 0, none⟩))) : Sem Value).run Tryd.prog w = .ok (.agg cs) w := by
  have := run_loadVar_row (P := Tryd.prog) w g 32 32 cs (0, 0) _ hg Tryd.underlying32 rfl (by rw [ho]; kernel_rfl)
  simp only [asAddr, Sem.run_bind, Sem.run_pure, Result.andThen]
  exact this
theorem tokRet {g B : Nat} {w0 w : World} {old : Array Value} (hg : w.heap[g]? = some (.cells old 32 (0, 0))) (ho : old.size = 4) (hB : B ≤ g) (hb : Below B w0 w) {k n p : Int} {s : ByteArray} {x y : Value} {K : Value → World → Prop}
    (h : ∀ w', Below B w0 w' → K (.tuple #[.agg #[.int .i64 k, .string s, .int .i64 n, .int .i64 p], x, y]) w') :
    oM Tryd.prog (.store 32 (.tmp 0) (.tmp 1)) 0 [.pointer (some ⟨g, 0, none⟩), .agg #[.int .i64 k, .string s, .int .i64 n, .int .i64 p]]
      (fun _ w => ∃ r, (do loadVar 32 (← asAddr (.pointer (some ⟨g, 0, none⟩))) : Sem Value).run Tryd.prog w = .ok r w ∧ K (.tuple #[r, x, y]) w) w := by
  rw [oM_store, store32 hg ho]
  refine ⟨_, load32 (setRow_heap w g old _ 32 _ hg) rfl, h _ ?_⟩
  exact Below_setRow hb hB _
theorem arr50 {w : World} (h : signsLaid w) : (Instr.loadAt 50 (.pointer (some ⟨0, 0, none⟩))).run Tryd.prog w = .ok (.agg signArr) w := by
  obtain ⟨t, f, h⟩ := h
  simp only [Instr.loadAt, Instr.sureAddr, Sem.run_bind, Sem.run_pure, Result.andThen]
  exact run_loadVar_row (P := Tryd.prog) w 0 t 50 _ f _ h Tryd.underlying50 rfl (by kernel_rfl)
theorem index50 (k : Nat) (hk : k < 19) (w : World) : (Instr.index 50 (.agg signArr) (.int .i64 k)).run Tryd.prog w = .ok (.string ⟨(signs.getD k []).toArray⟩) w := by
  have : k = 0 ∨ k = 1 ∨ k = 2 ∨ k = 3 ∨ k = 4 ∨ k = 5 ∨ k = 6 ∨ k = 7 ∨ k = 8 ∨ k = 9 ∨ k = 10 ∨ k = 11 ∨ k = 12 ∨ k = 13 ∨ k = 14 ∨ k = 15 ∨ k = 16 ∨ k = 17 ∨ k = 18 := by omega
  rcases this with rfl|rfl|rfl|rfl|rfl|rfl|rfl|rfl|rfl|rfl|rfl|rfl|rfl|rfl|rfl|rfl|rfl|rfl|rfl <;> (show (Instr.index 50 _ _).run Tryd.prog w = _; kernel_rfl)
theorem prefix_ok (s : ByteArray) (t : List UInt8) {K : Value → World → Prop} {w : World} (h : K (.bool (t.isPrefixOf s.data.toList)) w) : callM Tryd.prog 39 #[.string s, .string ⟨t.toArray⟩] K w := by
  refine call_of_calls (Tryd.strings_HasPrefix s ⟨t.toArray⟩ w) ?_
  rintro w' rfl
  exact h
def nextV (r : Except Nat (Tok × Nat)) : Value := match r with
  | .ok (t, n) => .tuple #[tokV t, .int .i64 n, .int .i64 0]
  | .error e => .tuple #[tokV ⟨0, [], 0, 0⟩, .int .i64 0, .int .i64 e]
theorem next_cons (l : List UInt8) (c : UInt8) (r : List UInt8) (h : l = c :: r) : next l = (if isLetter c then
      if nameOk (l.takeWhile isInner) then .ok (⟨0, l.takeWhile isInner, 0, 0⟩, (l.takeWhile isInner).length) else .error 3
    else if isDigit c then
      if numberOk (l.takeWhile isDigit) then .ok (⟨1, l.takeWhile isDigit, numVal (l.takeWhile isDigit), 0⟩, (l.takeWhile isDigit).length) else .error 3
    else if c == 34 then
      match LexSpec.quoted l with
      | some (v, n) => .ok (⟨2, v, 0, 0⟩, n)
      | none => .error 2
    else
      match signs.find? (fun t => t.isPrefixOf l) with
      | some t => .ok (⟨3, t, 0, 0⟩, t.length)
      | none => .error 10) := by subst h; rfl
theorem ext_to (s : ByteArray) (k : Nat) : s.extract 0 k = ⟨(s.data.toList.take k).toArray⟩ := by
  apply ByteArray.ext
  rw [← Array.toList_inj, bl_to]
theorem take_inner (p : UInt8 → Bool) (l : List UInt8) : l.take (spanN p l) = l.takeWhile p := by
  induction l with
  | nil => rfl
  | cons c l ih =>
    by_cases hc : p c = true
    · simp [spanN, hc] at ih ⊢; exact ih
    · simp [spanN, hc]
theorem takeWhile_len (p : UInt8 → Bool) (l : List UInt8) : (l.takeWhile p).length = spanN p l := rfl
set_option maxHeartbeats 3200000 in
theorem next_ok (s : ByteArray) (hs : s.size < 2^40) (h0 : 0 < s.size) {K : Value → World → Prop} {w : World} (hl : signsLaid w) (hw : 0 < w.heap.size)
   (h : ∀ w', Below w.heap.size w w' → K (nextV (next s.data.toList)) w') : callM Tryd.prog 23 #[.string s] K w := by
  apply sh_23_ok
  unfold sh_23
  obtain ⟨r, hcons⟩ : ∃ r, s.data.toList = byteAt s 0 :: r := ⟨_, by simpa using drop_cons s 0 h0⟩
  have hnext : next s.data.toList = next (byteAt s 0 :: r) := by rw [← hcons]
  have hsp := spanN_le isInner s.data.toList
  have hsd := spanN_le isDigit s.data.toList
  rw [size_len] at hsp hsd
  have hzi : (s.extract 0 (spanN isInner s.data.toList)).size < 2^62 := by rw [← size_len, bl_to, List.length_take, size_len]; omega
  have hzd : (s.extract 0 (spanN isDigit s.data.toList)).size < 2^62 := by rw [← size_len, bl_to, List.length_take, size_len]; omega
  have hn := next_cons _ _ _ hcons
  have hfresh : (w.alloc (.cells #[.int .i64 0, .string ⟨#[]⟩, .int .i64 0, .int .i64 0] 32)).heap[w.heap.size]? = some (.cells #[.int .i64 0, .string ⟨#[]⟩, .int .i64 0, .int .i64 0] 32 (0, 0)) := heap_alloc_last _ _
  have hba : Below w.heap.size w (w.alloc (.cells #[.int .i64 0, .string ⟨#[]⟩, .int .i64 0, .int .i64 0] 32)) := (Below.refl _ _).alloc (Nat.le_refl _) _
  repeat (any_goals (first
  | (with_reducible refine pureM_in ?_)
  | (with_reducible refine letter_ok _ ?_) | (with_reducible refine digit_ok _ ?_) | (with_reducible refine run_ok _ _ predInner _ (by omega) ?_) | (with_reducible refine run_ok _ _ predDigit _ (by omega) ?_) | (with_reducible refine name_ok _ hzi ?_) | (with_reducible refine number_ok _ hzd ?_) | (with_reducible refine tokRet hfresh rfl (Nat.le_refl _) hba ?_)
  | (with_reducible refine gdtT ?_) | (with_reducible refine gdtF ?_) | (with_reducible refine gdfF ?_) | (with_reducible refine gdfT ?_) | (with_reducible refine gdu ?_ _)
  | (with_reducible refine gdt_pos (by first | assumption | omega) ?_) | (with_reducible refine gdt_neg (by first | assumption | omega) ?_) | (with_reducible refine gdt_split (fun hg => ?_) (fun hg => ?_))
  | (with_reducible refine gdf_pos (by first | assumption | omega) ?_) | (with_reducible refine gdf_neg (by first | assumption | omega) ?_) | (with_reducible refine gdf_split (fun hg => ?_) (fun hg => ?_))
  | (with_reducible refine gdtn_pos (by first | assumption | omega) ?_) | (with_reducible refine gdtn_neg (by first | assumption | omega) ?_) | (with_reducible refine gdtn_split (fun hg => ?_) (fun hg => ?_))
  | (with_reducible refine gdfn_pos (by first | assumption | omega) ?_) | (with_reducible refine gdfn_neg (by first | assumption | omega) ?_) | (with_reducible refine gdfn_split (fun hg => ?_) (fun hg => ?_))
  | (with_reducible refine gdtbn_pos (by assumption) ?_) | (with_reducible refine gdtbn_neg (by assumption) ?_) | (with_reducible refine gdfbn_pos (by assumption) ?_) | (with_reducible refine gdfbn_neg (by assumption) ?_)
  | (with_reducible refine gdtb_pos (by assumption) ?_) | (with_reducible refine gdtb_neg (by assumption) ?_) | (with_reducible refine gdtb_split (fun hg => ?_) (fun hg => ?_))
  | (with_reducible refine gdfb_pos (by assumption) ?_) | (with_reducible refine gdfb_neg (by assumption) ?_) | (with_reducible refine gdfb_split (fun hg => ?_) (fun hg => ?_))
  | (with_reducible refine pickT ?_) | (with_reducible refine pickF ?_)
  | (with_reducible refine pick_pos (by first | assumption | omega) ?_) | (with_reducible refine pick_neg (by first | assumption | omega) ?_)
  | (with_reducible refine pickn_pos (by first | assumption | omega) ?_) | (with_reducible refine pickn_neg (by first | assumption | omega) ?_)
  | (with_reducible refine pickbn_pos (by assumption) ?_) | (with_reducible refine pickbn_neg (by assumption) ?_)
  | (with_reducible refine pickb_pos (by assumption) ?_) | (with_reducible refine pickb_neg (by assumption) ?_)
  | (with_reducible refine condT ?_) | (with_reducible refine condF ?_)
  | (with_reducible refine cond_pos (by first | assumption | omega) ?_) | (with_reducible refine cond_neg (by first | assumption | omega) ?_) | (with_reducible refine condM_dec (fun hg => ?_) (fun hg => ?_))
  | (with_reducible refine condn_pos (by first | assumption | omega) ?_) | (with_reducible refine condn_neg (by first | assumption | omega) ?_) | (with_reducible refine condM_ndec (fun hg => ?_) (fun hg => ?_))
  | (with_reducible refine condbn_pos (by assumption) ?_) | (with_reducible refine condbn_neg (by assumption) ?_) | (with_reducible refine condbn_split (fun hg => ?_) (fun hg => ?_))
  | (with_reducible refine condb_pos (by assumption) ?_) | (with_reducible refine condb_neg (by assumption) ?_) | (with_reducible refine condM_b (fun hg => ?_) (fun hg => ?_))
  | (refine oM_gen (fun Kv hK => ?_); simp [go_sem, build32_0, build32_2, build32_3]; (try simp (disch := omega) only [wrapI64, wrapU8, wrapU32, wrapU64]); (first | refine hK _ _ ?_ | refine And.intro (by omega) (hK _ _ ?_)); clear hK; clear Kv)))
  · rename_i hc
    intro w' hb
    have := h w' hb
    rw [take_inner] at hg
    rw [hn, hc, hg] at this
    rw [ext_to, take_inner, Nat.min_eq_left hsp]
    exact this
  · rename_i hc
    intro w' hb
    have := h w' hb
    rw [take_inner] at hg
    rw [hn, hc, hg] at this
    exact this
  · rename_i hc1 hc
    intro w' hb
    have := h w' hb
    rw [take_inner] at hg
    rw [hn, hc1, hc, hg] at this
    rw [ext_to, take_inner, Nat.min_eq_left hsd, numberVal, hg]
    exact this
  · rename_i hc1 hc
    intro w' hb
    have := h w' hb
    rw [take_inner] at hg
    rw [hn, hc1, hc, hg] at this
    exact this
  · rename_i hc1 hc
    have e : byteAt s 0 = 34 := UInt8.toNat_inj.1 (by simp; omega)
    rw [e] at hn hc hc1
    rw [hc1, hc] at hn
    refine quoted_ok s hs (by omega) ?_
    intro w1 hb1
    have hb1' := (hba.trans (hb1.mono (by simp)))
    have hf1 : w1.heap[w.heap.size]? = some (.cells #[.int .i64 0, .string ⟨#[]⟩, .int .i64 0, .int .i64 0] 32 (0, 0)) := by rw [hb1.block _ (by simp)]; exact hfresh
    cases hq : LexSpec.quoted s.data.toList with
    | none =>
      rw [hq] at hn
      simp only [qval]
      repeat (any_goals (first
      | (with_reducible refine pureM_in ?_)
      | (with_reducible refine tokRet hf1 rfl (Nat.le_refl _) hb1' ?_)
      | (with_reducible refine gdtT ?_) | (with_reducible refine gdtF ?_) | (with_reducible refine gdfF ?_) | (with_reducible refine gdfT ?_) | (with_reducible refine gdu ?_ _)
      | (with_reducible refine gdt_pos (by first | assumption | omega) ?_) | (with_reducible refine gdt_neg (by first | assumption | omega) ?_) | (with_reducible refine gdt_split (fun hg => ?_) (fun hg => ?_))
      | (with_reducible refine gdf_pos (by first | assumption | omega) ?_) | (with_reducible refine gdf_neg (by first | assumption | omega) ?_) | (with_reducible refine gdf_split (fun hg => ?_) (fun hg => ?_))
      | (with_reducible refine gdtn_pos (by first | assumption | omega) ?_) | (with_reducible refine gdtn_neg (by first | assumption | omega) ?_) | (with_reducible refine gdtn_split (fun hg => ?_) (fun hg => ?_))
      | (with_reducible refine gdfn_pos (by first | assumption | omega) ?_) | (with_reducible refine gdfn_neg (by first | assumption | omega) ?_) | (with_reducible refine gdfn_split (fun hg => ?_) (fun hg => ?_))
      | (with_reducible refine gdtbn_pos (by assumption) ?_) | (with_reducible refine gdtbn_neg (by assumption) ?_) | (with_reducible refine gdfbn_pos (by assumption) ?_) | (with_reducible refine gdfbn_neg (by assumption) ?_)
      | (with_reducible refine gdtb_pos (by assumption) ?_) | (with_reducible refine gdtb_neg (by assumption) ?_) | (with_reducible refine gdtb_split (fun hg => ?_) (fun hg => ?_))
      | (with_reducible refine gdfb_pos (by assumption) ?_) | (with_reducible refine gdfb_neg (by assumption) ?_) | (with_reducible refine gdfb_split (fun hg => ?_) (fun hg => ?_))
      | (with_reducible refine pickT ?_) | (with_reducible refine pickF ?_)
      | (with_reducible refine pick_pos (by first | assumption | omega) ?_) | (with_reducible refine pick_neg (by first | assumption | omega) ?_)
      | (with_reducible refine pickn_pos (by first | assumption | omega) ?_) | (with_reducible refine pickn_neg (by first | assumption | omega) ?_)
      | (with_reducible refine pickbn_pos (by assumption) ?_) | (with_reducible refine pickbn_neg (by assumption) ?_)
      | (with_reducible refine pickb_pos (by assumption) ?_) | (with_reducible refine pickb_neg (by assumption) ?_)
      | (with_reducible refine condT ?_) | (with_reducible refine condF ?_)
      | (with_reducible refine cond_pos (by first | assumption | omega) ?_) | (with_reducible refine cond_neg (by first | assumption | omega) ?_) | (with_reducible refine condM_dec (fun hg => ?_) (fun hg => ?_))
      | (with_reducible refine condn_pos (by first | assumption | omega) ?_) | (with_reducible refine condn_neg (by first | assumption | omega) ?_) | (with_reducible refine condM_ndec (fun hg => ?_) (fun hg => ?_))
      | (with_reducible refine condbn_pos (by assumption) ?_) | (with_reducible refine condbn_neg (by assumption) ?_) | (with_reducible refine condbn_split (fun hg => ?_) (fun hg => ?_))
      | (with_reducible refine condb_pos (by assumption) ?_) | (with_reducible refine condb_neg (by assumption) ?_) | (with_reducible refine condM_b (fun hg => ?_) (fun hg => ?_))
      | (refine oM_gen (fun Kv hK => ?_); simp [go_sem, build32_0, build32_2, build32_3]; (try simp (disch := omega) only [wrapI64, wrapU8, wrapU32, wrapU64]); (first | refine hK _ _ ?_ | refine And.intro (by omega) (hK _ _ ?_)); clear hK; clear Kv)))
      intro w' hb
      have := h w' hb
      rw [hn] at this
      exact this
    | some x =>
      obtain ⟨v, n⟩ := x
      have hnpos : 0 < n := by
        unfold LexSpec.quoted at hq
        split at hq
        · split at hq
          · cases hq; omega
          · cases hq
        · cases hq
      rw [hq] at hn
      simp only [qval]
      repeat (any_goals (first
      | (with_reducible refine pureM_in ?_)
      | (with_reducible refine tokRet hf1 rfl (Nat.le_refl _) hb1' ?_)
      | (with_reducible refine gdtT ?_) | (with_reducible refine gdtF ?_) | (with_reducible refine gdfF ?_) | (with_reducible refine gdfT ?_) | (with_reducible refine gdu ?_ _)
      | (with_reducible refine gdt_pos (by first | assumption | omega) ?_) | (with_reducible refine gdt_neg (by first | assumption | omega) ?_) | (with_reducible refine gdt_split (fun hg => ?_) (fun hg => ?_))
      | (with_reducible refine gdf_pos (by first | assumption | omega) ?_) | (with_reducible refine gdf_neg (by first | assumption | omega) ?_) | (with_reducible refine gdf_split (fun hg => ?_) (fun hg => ?_))
      | (with_reducible refine gdtn_pos (by first | assumption | omega) ?_) | (with_reducible refine gdtn_neg (by first | assumption | omega) ?_) | (with_reducible refine gdtn_split (fun hg => ?_) (fun hg => ?_))
      | (with_reducible refine gdfn_pos (by first | assumption | omega) ?_) | (with_reducible refine gdfn_neg (by first | assumption | omega) ?_) | (with_reducible refine gdfn_split (fun hg => ?_) (fun hg => ?_))
      | (with_reducible refine gdtbn_pos (by assumption) ?_) | (with_reducible refine gdtbn_neg (by assumption) ?_) | (with_reducible refine gdfbn_pos (by assumption) ?_) | (with_reducible refine gdfbn_neg (by assumption) ?_)
      | (with_reducible refine gdtb_pos (by assumption) ?_) | (with_reducible refine gdtb_neg (by assumption) ?_) | (with_reducible refine gdtb_split (fun hg => ?_) (fun hg => ?_))
      | (with_reducible refine gdfb_pos (by assumption) ?_) | (with_reducible refine gdfb_neg (by assumption) ?_) | (with_reducible refine gdfb_split (fun hg => ?_) (fun hg => ?_))
      | (with_reducible refine pickT ?_) | (with_reducible refine pickF ?_)
      | (with_reducible refine pick_pos (by first | assumption | omega) ?_) | (with_reducible refine pick_neg (by first | assumption | omega) ?_)
      | (with_reducible refine pickn_pos (by first | assumption | omega) ?_) | (with_reducible refine pickn_neg (by first | assumption | omega) ?_)
      | (with_reducible refine pickbn_pos (by assumption) ?_) | (with_reducible refine pickbn_neg (by assumption) ?_)
      | (with_reducible refine pickb_pos (by assumption) ?_) | (with_reducible refine pickb_neg (by assumption) ?_)
      | (with_reducible refine condT ?_) | (with_reducible refine condF ?_)
      | (with_reducible refine cond_pos (by first | assumption | omega) ?_) | (with_reducible refine cond_neg (by first | assumption | omega) ?_) | (with_reducible refine condM_dec (fun hg => ?_) (fun hg => ?_))
      | (with_reducible refine condn_pos (by first | assumption | omega) ?_) | (with_reducible refine condn_neg (by first | assumption | omega) ?_) | (with_reducible refine condM_ndec (fun hg => ?_) (fun hg => ?_))
      | (with_reducible refine condbn_pos (by assumption) ?_) | (with_reducible refine condbn_neg (by assumption) ?_) | (with_reducible refine condbn_split (fun hg => ?_) (fun hg => ?_))
      | (with_reducible refine condb_pos (by assumption) ?_) | (with_reducible refine condb_neg (by assumption) ?_) | (with_reducible refine condM_b (fun hg => ?_) (fun hg => ?_))
      | (refine oM_gen (fun Kv hK => ?_); simp [go_sem, build32_0, build32_2, build32_3]; (try simp (disch := omega) only [wrapI64, wrapU8, wrapU32, wrapU64]); (first | refine hK _ _ ?_ | refine And.intro (by omega) (hK _ _ ?_)); clear hK; clear Kv)))
      all_goals first | (exfalso; omega) | skip
      intro w' hb
      have := h w' hb
      rw [hn] at this
      exact this
  · rename_i hc1 hc
    have e : (byteAt s 0 == 34) = false := by rw [beq_eq_false_iff_ne]; exact fun e => hg (by rw [e]; rfl)
    rw [hc1, hc, e] at hn
    have hla : signsLaid (w.alloc (.cells #[.int .i64 0, .string ⟨#[]⟩, .int .i64 0, .int .i64 0] 32)) := by rw [signsLaid, hba.block 0 hw]; exact hl
    rw [oM_load, arr50 hla, rM_ok]
    refine ⟨fun l w' => w' = w.alloc (.cells #[.int .i64 0, .string ⟨#[]⟩, .int .i64 0, .int .i64 0] 32) ∧ ∃ (x a b : Value) (k : Nat), l = [x, a, b, .int .i64 k] ∧ k ≤ 19 ∧ signs.find? (fun t => t.isPrefixOf s.data.toList) = (signs.drop k).find? (fun t => t.isPrefixOf s.data.toList), fun l _ => 19 - (match l with | [_, _, _, .int _ n] => n.toNat | _ => 0), ⟨rfl, _, _, _, 0, rfl, by omega, rfl⟩, ?_⟩
    rintro _ _ w1 ⟨rfl, x, a, b, k, rfl, hk, hfind⟩
    simp only [List.getD_cons_zero, List.getD_cons_succ]
    by_cases hlt : k < 19
    · have hix := index50 k hlt
      obtain ⟨t, ht⟩ : ∃ t, t = signs.getD k [] := ⟨_, rfl⟩
      rw [← ht] at hix
      have hcons2 : (signs.drop k).find? (fun t => t.isPrefixOf s.data.toList) = if t.isPrefixOf s.data.toList then some t else (signs.drop (k + 1)).find? (fun t => t.isPrefixOf s.data.toList) := by
        rw [List.drop_eq_getElem_cons (l := signs) (i := k) hlt, List.find?_cons, ht, List.getD_eq_getElem?_getD, List.getElem?_eq_getElem (l := signs) (i := k) hlt]
        simp only [Option.getD_some]
        split <;> simp_all
      repeat (any_goals (first
      | (with_reducible refine pureM_in ?_)
      | (with_reducible refine prefix_ok s _ ?_) | (with_reducible refine tokRet hfresh rfl (Nat.le_refl _) hba ?_)
      | (with_reducible refine gdtT ?_) | (with_reducible refine gdtF ?_) | (with_reducible refine gdfF ?_) | (with_reducible refine gdfT ?_) | (with_reducible refine gdu ?_ _)
      | (with_reducible refine gdt_pos (by first | assumption | omega) ?_) | (with_reducible refine gdt_neg (by first | assumption | omega) ?_) | (with_reducible refine gdt_split (fun hg => ?_) (fun hg => ?_))
      | (with_reducible refine gdf_pos (by first | assumption | omega) ?_) | (with_reducible refine gdf_neg (by first | assumption | omega) ?_) | (with_reducible refine gdf_split (fun hg => ?_) (fun hg => ?_))
      | (with_reducible refine gdtn_pos (by first | assumption | omega) ?_) | (with_reducible refine gdtn_neg (by first | assumption | omega) ?_) | (with_reducible refine gdtn_split (fun hg => ?_) (fun hg => ?_))
      | (with_reducible refine gdfn_pos (by first | assumption | omega) ?_) | (with_reducible refine gdfn_neg (by first | assumption | omega) ?_) | (with_reducible refine gdfn_split (fun hg => ?_) (fun hg => ?_))
      | (with_reducible refine gdtbn_pos (by assumption) ?_) | (with_reducible refine gdtbn_neg (by assumption) ?_) | (with_reducible refine gdfbn_pos (by assumption) ?_) | (with_reducible refine gdfbn_neg (by assumption) ?_)
      | (with_reducible refine gdtb_pos (by assumption) ?_) | (with_reducible refine gdtb_neg (by assumption) ?_) | (with_reducible refine gdtb_split (fun hg => ?_) (fun hg => ?_))
      | (with_reducible refine gdfb_pos (by assumption) ?_) | (with_reducible refine gdfb_neg (by assumption) ?_) | (with_reducible refine gdfb_split (fun hg => ?_) (fun hg => ?_))
      | (with_reducible refine pickT ?_) | (with_reducible refine pickF ?_)
      | (with_reducible refine pick_pos (by first | assumption | omega) ?_) | (with_reducible refine pick_neg (by first | assumption | omega) ?_)
      | (with_reducible refine pickn_pos (by first | assumption | omega) ?_) | (with_reducible refine pickn_neg (by first | assumption | omega) ?_)
      | (with_reducible refine pickbn_pos (by assumption) ?_) | (with_reducible refine pickbn_neg (by assumption) ?_)
      | (with_reducible refine pickb_pos (by assumption) ?_) | (with_reducible refine pickb_neg (by assumption) ?_)
      | (with_reducible refine condT ?_) | (with_reducible refine condF ?_)
      | (with_reducible refine cond_pos (by first | assumption | omega) ?_) | (with_reducible refine cond_neg (by first | assumption | omega) ?_) | (with_reducible refine condM_dec (fun hg => ?_) (fun hg => ?_))
      | (with_reducible refine condn_pos (by first | assumption | omega) ?_) | (with_reducible refine condn_neg (by first | assumption | omega) ?_) | (with_reducible refine condM_ndec (fun hg => ?_) (fun hg => ?_))
      | (with_reducible refine condbn_pos (by assumption) ?_) | (with_reducible refine condbn_neg (by assumption) ?_) | (with_reducible refine condbn_split (fun hg => ?_) (fun hg => ?_))
      | (with_reducible refine condb_pos (by assumption) ?_) | (with_reducible refine condb_neg (by assumption) ?_) | (with_reducible refine condM_b (fun hg => ?_) (fun hg => ?_))
      | (refine oM_gen (fun Kv hK => ?_); simp [go_sem, hix, build32_0, build32_2, build32_3]; (try simp (disch := omega) only [wrapI64, wrapU8, wrapU32, wrapU64]); (first | refine hK _ _ ?_ | refine And.intro (by omega) (hK _ _ ?_)); clear hK; clear Kv)))
      · intro w' hb
        have := h w' hb
        rw [hcons2, hg] at hfind
        rw [hn, hfind] at this
        exact this
      · rw [hcons2, hg] at hfind
        refine ⟨⟨rfl, _, _, _, k + 1, rfl, hlt, hfind⟩, by simp; omega⟩
    · obtain rfl : k = 19 := by omega
      have hnone : signs.find? (fun t => t.isPrefixOf s.data.toList) = none := by rw [hfind]; rfl
      rw [hnone] at hn
      repeat (any_goals (first
      | (with_reducible refine pureM_in ?_)
      | (with_reducible refine tokRet hfresh rfl (Nat.le_refl _) hba ?_)
      | (with_reducible refine gdtT ?_) | (with_reducible refine gdtF ?_) | (with_reducible refine gdfF ?_) | (with_reducible refine gdfT ?_) | (with_reducible refine gdu ?_ _)
      | (with_reducible refine gdt_pos (by first | assumption | omega) ?_) | (with_reducible refine gdt_neg (by first | assumption | omega) ?_) | (with_reducible refine gdt_split (fun hg => ?_) (fun hg => ?_))
      | (with_reducible refine gdf_pos (by first | assumption | omega) ?_) | (with_reducible refine gdf_neg (by first | assumption | omega) ?_) | (with_reducible refine gdf_split (fun hg => ?_) (fun hg => ?_))
      | (with_reducible refine gdtn_pos (by first | assumption | omega) ?_) | (with_reducible refine gdtn_neg (by first | assumption | omega) ?_) | (with_reducible refine gdtn_split (fun hg => ?_) (fun hg => ?_))
      | (with_reducible refine gdfn_pos (by first | assumption | omega) ?_) | (with_reducible refine gdfn_neg (by first | assumption | omega) ?_) | (with_reducible refine gdfn_split (fun hg => ?_) (fun hg => ?_))
      | (with_reducible refine gdtbn_pos (by assumption) ?_) | (with_reducible refine gdtbn_neg (by assumption) ?_) | (with_reducible refine gdfbn_pos (by assumption) ?_) | (with_reducible refine gdfbn_neg (by assumption) ?_)
      | (with_reducible refine gdtb_pos (by assumption) ?_) | (with_reducible refine gdtb_neg (by assumption) ?_) | (with_reducible refine gdtb_split (fun hg => ?_) (fun hg => ?_))
      | (with_reducible refine gdfb_pos (by assumption) ?_) | (with_reducible refine gdfb_neg (by assumption) ?_) | (with_reducible refine gdfb_split (fun hg => ?_) (fun hg => ?_))
      | (with_reducible refine pickT ?_) | (with_reducible refine pickF ?_)
      | (with_reducible refine pick_pos (by first | assumption | omega) ?_) | (with_reducible refine pick_neg (by first | assumption | omega) ?_)
      | (with_reducible refine pickn_pos (by first | assumption | omega) ?_) | (with_reducible refine pickn_neg (by first | assumption | omega) ?_)
      | (with_reducible refine pickbn_pos (by assumption) ?_) | (with_reducible refine pickbn_neg (by assumption) ?_)
      | (with_reducible refine pickb_pos (by assumption) ?_) | (with_reducible refine pickb_neg (by assumption) ?_)
      | (with_reducible refine condT ?_) | (with_reducible refine condF ?_)
      | (with_reducible refine cond_pos (by first | assumption | omega) ?_) | (with_reducible refine cond_neg (by first | assumption | omega) ?_) | (with_reducible refine condM_dec (fun hg => ?_) (fun hg => ?_))
      | (with_reducible refine condn_pos (by first | assumption | omega) ?_) | (with_reducible refine condn_neg (by first | assumption | omega) ?_) | (with_reducible refine condM_ndec (fun hg => ?_) (fun hg => ?_))
      | (with_reducible refine condbn_pos (by assumption) ?_) | (with_reducible refine condbn_neg (by assumption) ?_) | (with_reducible refine condbn_split (fun hg => ?_) (fun hg => ?_))
      | (with_reducible refine condb_pos (by assumption) ?_) | (with_reducible refine condb_neg (by assumption) ?_) | (with_reducible refine condM_b (fun hg => ?_) (fun hg => ?_))
      | (refine oM_gen (fun Kv hK => ?_); simp [go_sem, build32_0, build32_2, build32_3]; (try simp (disch := omega) only [wrapI64, wrapU8, wrapU32, wrapU64]); (first | refine hK _ _ ?_ | refine And.intro (by omega) (hK _ _ ?_)); clear hK; clear Kv)))
      intro w' hb
      have := h w' hb
      rw [hn] at this
      exact this
end Go.Proofs
