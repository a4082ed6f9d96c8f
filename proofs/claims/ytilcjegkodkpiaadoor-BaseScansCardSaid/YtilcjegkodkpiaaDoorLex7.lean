/- Lex7: a part of the proof of the seat's statements: lemmas about the given translation and plain laws. No condition of its own. -/
import Derived.Test.YtilcjegkodkpiaaDoorLex6
set_option linter.all false
namespace Go.Proofs
open Go Go.Sh Go.RowKit Go.Lib LexSpec
set_option linter.unusedSimpArgs false
def tokC (t : Tok) : List Value := [.int .i64 t.kind, .string ⟨t.text.toArray⟩, .int .i64 t.n, .int .i64 t.pos]
def toksC (ts : List Tok) : List Value := ts.flatMap tokC
theorem gapL_le (l : List UInt8) (b : Bool) : gapL l b ≤ l.length := by
  induction l generalizing b with
  | nil => simp [gapL]
  | cons c r ih =>
    have h1 := ih true
    have h2 := ih false
    cases b <;> simp only [gapL, List.length_cons] <;> repeat' split
    all_goals omega
theorem quotedGo_le (l : List UInt8) : ∀ v n, quotedGo l = some (v, n) → 1 ≤ n ∧ n ≤ l.length := by
  induction l using quotedGo.induct with
  | case1 => intro v n h; simp [quotedGo] at h
  | case4 c hp h1 h2 d r' hd ih =>
    intro v n h
    rw [quotedGo_cons] at h
    simp_all
    obtain ⟨_, a, b, h3, _, rfl⟩ := h
    have := ih a b h3
    omega
  | case6 c tail hp h1 h2 ih =>
    intro v n h
    rw [quotedGo_cons] at h
    simp_all
    obtain ⟨a, b, h3, _, rfl⟩ := h
    have := ih a b h3
    omega
  | _ =>
    intro v n h
    rw [quotedGo_cons] at h
    simp_all
    try omega
theorem next_le (l : List UInt8) : ∀ t n, next l = .ok (t, n) → 1 ≤ n ∧ n ≤ l.length ∧ t.pos = 0 := by
  intro t n h
  cases l with
  | nil => simp [next] at h
  | cons c r =>
    rw [next_cons (c :: r) c r rfl] at h
    have h1 := spanN_le isInner (c :: r)
    have h2 := spanN_le isDigit (c :: r)
    rw [← takeWhile_len] at h1 h2
    split at h
    · rename_i hc
      split at h
      · cases h
        refine ⟨?_, h1, rfl⟩
        have : isInner c = true := by simp [isInner, hc]
        simp [this]
      · cases h
    · split at h
      · rename_i hc
        split at h
        · cases h
          refine ⟨?_, h2, rfl⟩
          simp [hc]
        · cases h
      · split at h
        · split at h
          · rename_i hq
            cases h
            unfold LexSpec.quoted at hq
            split at hq
            · rename_i hq2
              have := quotedGo_le _ _ _ hq2
              split at hq
              · cases hq
                simp at this
                exact ⟨by omega, by simp; omega, rfl⟩
              · cases hq
            · cases hq
          · cases h
        · split at h
          · rename_i hf
            cases h
            have hm := List.mem_of_find?_eq_some hf
            have hp := List.find?_some hf
            have hpl := (List.isPrefixOf_iff_prefix.1 hp).length_le
            refine ⟨?_, hpl, rfl⟩
            revert hm
            have : ∀ x ∈ signs, 1 ≤ x.length := by decide
            exact this _
          · cases h
theorem next_err (l : List UInt8) : ∀ e, next l = .error e → e ≠ 0 := by
  intro e h
  cases l with
  | nil => simp [next] at h; omega
  | cons c r =>
    rw [next_cons (c :: r) c r rfl] at h
    repeat' split at h
    all_goals first | (cases h; done) | (cases h; decide) | skip
theorem gap_from (s : ByteArray) (a : Nat) (hs : (s.extract a s.size).size < 2^40) {K : Value → World → Prop} {w : World} (h : K (.int .i64 (gap (s.data.toList.drop a))) w) : callM Tryd.prog 22 #[.string (s.extract a s.size)] K w :=
  gap_ok _ hs (by rw [bl_from]; exact h)
theorem next_from (s : ByteArray) (a : Nat) (hs : (s.extract a s.size).size < 2^40) (h0 : a < s.size) {K : Value → World → Prop} {w : World} (hl : signsLaid w) (hw : 0 < w.heap.size)
   (h : ∀ w', Below w.heap.size w w' → K (nextV (next (s.data.toList.drop a))) w') : callM Tryd.prog 23 #[.string (s.extract a s.size)] K w :=
  next_ok _ hs (by rw [← size_len, bl_from, List.length_drop, size_len]; omega) hl hw (by rw [bl_from]; exact h)
theorem ownsRow_base {w : World} {B : Nat} {e : TypeId} {sz : Nat} {v : Value} {n : Nat} {xs : List Value} (h : w.ownsRow B e sz v n xs) : ∀ g, v.ownBlock = some g → B ≤ g := by
  obtain ⟨a, m, c, rfl⟩ := ownsRow_slice h
  exact (ownsRow_len h).2
theorem oM_append_new' {P : Program} {K : Value → World → Prop} {w : World} {t ty e base n b : Nat} {i : TypeInfo} {z v : Value} {cs : Array Value} {xs : List Value} (hb' : b = w.heap.size) (hu : P.underlying t = some (.slice e)) (hi : P.info? e = some i) (hz : i.zero = some z)
    (hsz : i.size = cs.size) (hzs : z.cells.size = cs.size) (hpos : 0 < cs.size) (h1 : ∀ u ∈ cs.toList, u.oneCell' = true) (hown : w.ownsRow base e cs.size v n xs) (hbase : base ≤ w.heap.size)
    (hn : n + 1 ≤ maxLen) (hb : (n + 1) * i.bytes ≤ 140737488355328)
    (k : ∀ v' w', w'.ownsRow base e cs.size v' (n + 1) (xs ++ cs.toList) → w.grownBy w' v.ownBlock → K v' w') :
    oM P (.call { callee := .builtin .append, args := #[.tmp 0, .tmp 1], argTypes := #[t, t] }) ty [v, .slice (some ⟨b, 0, none⟩) 1 1] K (w.alloc (.cells cs e)) := by
  subst hb'
  exact oM_append_new hu hi hz hsz hzs hpos h1 hown hbase hn hb k
theorem ownsRow_below {w w' : World} {B : Nat} {e : TypeId} {sz : Nat} {v : Value} {n : Nat} {xs : List Value} (h : w.ownsRow B e sz v n xs) (hb : Below w.heap.size w w') : w'.ownsRow B e sz v n xs := by
  refine ⟨h.1, ?_⟩
  rcases h.2 with h2 | ⟨g, cap, cur, hv, hB, hg, hr⟩
  · exact .inl h2
  · refine .inr ⟨g, cap, cur, hv, hB, ?_, hr⟩
    rw [hb.block g (Array.getElem?_eq_some_iff.1 hg).1]
    exact hg
set_option maxHeartbeats 3200000 in
theorem scan_ok (s : ByteArray) (hs : s.size < 2^40) {K : Value → World → Prop} {w : World} (hl : signsLaid w) (hw : 0 < w.heap.size)
   (h : ∀ w' v, Below w.heap.size w w' → (match scan s.data.toList with
      | .ok ts => ∃ row, v = .tuple #[row, .int .i64 0, .int .i64 0] ∧ w'.ownsRow w.heap.size 32 4 row ts.length (toksC ts)
      | .error (p, e) => v = .tuple #[.slice none 0 0, .int .i64 p, .int .i64 e]) → K v w') : callM Tryd.prog 9 #[.string s] K w := by
  apply sh_9_ok
  unfold sh_9
  by_cases hbig : 4000 < s.size
  · have e : scan s.data.toList = .error (0, 6) := by rw [scan, size_len, if_pos hbig]
    repeat (any_goals (first
    | (with_reducible refine pureM_in ?_)
    | (with_reducible refine gdtT ?_) | (with_reducible refine gdtF ?_) | (with_reducible refine gdfF ?_) | (with_reducible refine gdfT ?_) | (with_reducible refine gdu ?_ _)
    | (with_reducible refine gdt_pos (by first | assumption | omega) ?_) | (with_reducible refine gdt_neg (by first | assumption | omega) ?_) | (with_reducible refine gdt_split (fun hg => ?_) (fun hg => ?_))
    | (with_reducible refine gdf_pos (by first | assumption | omega) ?_) | (with_reducible refine gdf_neg (by first | assumption | omega) ?_) | (with_reducible refine gdf_split (fun hg => ?_) (fun hg => ?_))
    | (with_reducible refine gdtn_pos (by first | assumption | omega) ?_) | (with_reducible refine gdtn_neg (by first | assumption | omega) ?_) | (with_reducible refine gdtn_split (fun hg => ?_) (fun hg => ?_))
    | (with_reducible refine gdfn_pos (by first | assumption | omega) ?_) | (with_reducible refine gdfn_neg (by first | assumption | omega) ?_) | (with_reducible refine gdfn_split (fun hg => ?_) (fun hg => ?_))
    | (with_reducible refine gdtbn_pos (by assumption) ?_) | (with_reducible refine gdtbn_neg (by assumption) ?_) | (with_reducible refine gdfbn_pos (by assumption) ?_) | (with_reducible refine gdfbn_neg (by assumption) ?_)
    | (with_reducible refine gdtb_pos (by assumption) ?_) | (with_reducible refine gdtb_neg (by assumption) ?_) | (with_reducible refine gdtb_split (fun hg => ?_) (fun hg => ?_))
    | (with_reducible refine gdfb_pos (by assumption) ?_) | (with_reducible refine gdfb_neg (by assumption) ?_) | (with_reducible refine gdfb_split (fun hg => ?_) (fun hg => ?_))
    | (with_reducible refine pickT ?_) | (with_reducible refine pickF ?_)
    | (with_reducible refine pick_pos (by first | assumption | omega) ?_) | (with_reducible refine pick_neg (by first | assumption | omega) ?_)
    | (with_reducible refine pickn_pos (by first | assumption | omega) ?_) | (with_reducible refine pickn_neg (by first | assumption | omega) ?_)
    | (with_reducible refine pickbn_pos (by assumption) ?_) | (with_reducible refine pickbn_neg (by assumption) ?_)
    | (with_reducible refine pickb_pos (by assumption) ?_) | (with_reducible refine pickb_neg (by assumption) ?_)
    | (with_reducible refine condT ?_) | (with_reducible refine condF ?_)
    | (with_reducible refine cond_pos (by first | assumption | omega) ?_) | (with_reducible refine cond_neg (by first | assumption | omega) ?_) | (with_reducible refine condM_dec (fun hg => ?_) (fun hg => ?_))
    | (with_reducible refine condn_pos (by first | assumption | omega) ?_) | (with_reducible refine condn_neg (by first | assumption | omega) ?_) | (with_reducible refine condM_ndec (fun hg => ?_) (fun hg => ?_))
    | (with_reducible refine condbn_pos (by assumption) ?_) | (with_reducible refine condbn_neg (by assumption) ?_) | (with_reducible refine condbn_split (fun hg => ?_) (fun hg => ?_))
    | (with_reducible refine condb_pos (by assumption) ?_) | (with_reducible refine condb_neg (by assumption) ?_) | (with_reducible refine condM_b (fun hg => ?_) (fun hg => ?_))
    | (refine oM_gen (fun Kv hK => ?_); simp [go_sem]; (try simp (disch := omega) only [wrapI64, wrapU8, wrapU32, wrapU64]); (first | refine hK _ _ ?_ | refine And.intro (by omega) (hK _ _ ?_)); clear hK; clear Kv)))
    refine h w _ (Below.refl _ _) ?_
    rw [e]
    rfl
  · have e : scan s.data.toList = scanF (s.size + 1) s.data.toList 0 := by rw [scan, size_len, if_neg (by omega)]
    repeat (any_goals (first
    | (with_reducible refine pureM_in ?_)
    | (with_reducible refine gdtT ?_) | (with_reducible refine gdtF ?_) | (with_reducible refine gdfF ?_) | (with_reducible refine gdfT ?_) | (with_reducible refine gdu ?_ _)
    | (with_reducible refine gdt_pos (by first | assumption | omega) ?_) | (with_reducible refine gdt_neg (by first | assumption | omega) ?_) | (with_reducible refine gdt_split (fun hg => ?_) (fun hg => ?_))
    | (with_reducible refine gdf_pos (by first | assumption | omega) ?_) | (with_reducible refine gdf_neg (by first | assumption | omega) ?_) | (with_reducible refine gdf_split (fun hg => ?_) (fun hg => ?_))
    | (with_reducible refine gdtn_pos (by first | assumption | omega) ?_) | (with_reducible refine gdtn_neg (by first | assumption | omega) ?_) | (with_reducible refine gdtn_split (fun hg => ?_) (fun hg => ?_))
    | (with_reducible refine gdfn_pos (by first | assumption | omega) ?_) | (with_reducible refine gdfn_neg (by first | assumption | omega) ?_) | (with_reducible refine gdfn_split (fun hg => ?_) (fun hg => ?_))
    | (with_reducible refine gdtbn_pos (by assumption) ?_) | (with_reducible refine gdtbn_neg (by assumption) ?_) | (with_reducible refine gdfbn_pos (by assumption) ?_) | (with_reducible refine gdfbn_neg (by assumption) ?_)
    | (with_reducible refine gdtb_pos (by assumption) ?_) | (with_reducible refine gdtb_neg (by assumption) ?_) | (with_reducible refine gdtb_split (fun hg => ?_) (fun hg => ?_))
    | (with_reducible refine gdfb_pos (by assumption) ?_) | (with_reducible refine gdfb_neg (by assumption) ?_) | (with_reducible refine gdfb_split (fun hg => ?_) (fun hg => ?_))
    | (with_reducible refine pickT ?_) | (with_reducible refine pickF ?_)
    | (with_reducible refine pick_pos (by first | assumption | omega) ?_) | (with_reducible refine pick_neg (by first | assumption | omega) ?_)
    | (with_reducible refine pickn_pos (by first | assumption | omega) ?_) | (with_reducible refine pickn_neg (by first | assumption | omega) ?_)
    | (with_reducible refine pickbn_pos (by assumption) ?_) | (with_reducible refine pickbn_neg (by assumption) ?_)
    | (with_reducible refine pickb_pos (by assumption) ?_) | (with_reducible refine pickb_neg (by assumption) ?_)
    | (with_reducible refine condT ?_) | (with_reducible refine condF ?_)
    | (with_reducible refine cond_pos (by first | assumption | omega) ?_) | (with_reducible refine cond_neg (by first | assumption | omega) ?_) | (with_reducible refine condM_dec (fun hg => ?_) (fun hg => ?_))
    | (with_reducible refine condn_pos (by first | assumption | omega) ?_) | (with_reducible refine condn_neg (by first | assumption | omega) ?_) | (with_reducible refine condM_ndec (fun hg => ?_) (fun hg => ?_))
    | (with_reducible refine condbn_pos (by assumption) ?_) | (with_reducible refine condbn_neg (by assumption) ?_) | (with_reducible refine condbn_split (fun hg => ?_) (fun hg => ?_))
    | (with_reducible refine condb_pos (by assumption) ?_) | (with_reducible refine condb_neg (by assumption) ?_) | (with_reducible refine condM_b (fun hg => ?_) (fun hg => ?_))
    | (refine oM_gen (fun Kv hK => ?_); simp [go_sem]; (try simp (disch := omega) only [wrapI64, wrapU8, wrapU32, wrapU64]); (first | refine hK _ _ ?_ | refine And.intro (by omega) (hK _ _ ?_)); clear hK; clear Kv)))
    refine ⟨fun l w' => ∃ (x1 x2 x3 x4 x5 row : Value) (a f : Nat) (ts : List Tok), l = [.int .i64 a, x1, x2, x3, x4, x5, row] ∧ a ≤ s.size ∧ s.size - a < f ∧ ts.length ≤ a ∧ Below w.heap.size w w' ∧ w'.ownsRow w.heap.size 32 4 row ts.length (toksC ts) ∧
      scan s.data.toList = (match scanF f (s.data.toList.drop a) a with | .ok r => .ok (ts ++ r) | .error x => .error x), fun l _ => s.size - (match l with | [.int _ n, _, _, _, _, _, _] => n.toNat | _ => 0), ⟨_, _, _, _, _, _, 0, s.size + 1, [], rfl, by omega, by omega, by simp, Below.refl _ _, World.ownsRow_nil _ _ _ _, by rw [e, List.drop_zero]; cases scanF (s.size + 1) s.data.toList 0 <;> rfl⟩, ?_⟩
    rintro _ _ w1 ⟨x1, x2, x3, x4, x5, row, a, f, ts, rfl, ha, hf, htl, hb1, hown, hsc⟩
    have hz1 := hb1.size
    simp only [List.getD_cons_zero, List.getD_cons_succ]
    have hexa : (s.extract a s.size).size = s.size - a := by rw [← size_len, bl_from, List.length_drop, size_len]
    have hgl := gapL_le (s.data.toList.drop a) false
    rw [List.length_drop, size_len] at hgl
    have hgl' : a + gap (s.data.toList.drop a) ≤ s.size := by unfold gap; omega
    have hl1 : signsLaid w1 := by rw [signsLaid, hb1.block 0 hw]; exact hl
    obtain ⟨f, rfl⟩ : ∃ g, f = g + 1 := ⟨f - 1, by omega⟩
    have hdd : (s.data.toList.drop a).drop (gap (s.data.toList.drop a)) = s.data.toList.drop (a + gap (s.data.toList.drop a)) := List.drop_drop
    obtain ⟨g, hge⟩ : ∃ g, g = gap (s.data.toList.drop a) := ⟨_, rfl⟩
    rw [← hge] at hgl' hdd
    have hexb : (s.extract (a + g) s.size).size < 2^40 := by rw [← size_len, bl_from, List.length_drop, size_len]; omega
    repeat (any_goals (first
    | (with_reducible refine pureM_in ?_)
    | (with_reducible refine gap_from s a (by omega) ?_)
    | (with_reducible refine gdtT ?_) | (with_reducible refine gdtF ?_) | (with_reducible refine gdfF ?_) | (with_reducible refine gdfT ?_) | (with_reducible refine gdu ?_ _)
    | (with_reducible refine gdt_pos (by first | assumption | omega) ?_) | (with_reducible refine gdt_neg (by first | assumption | omega) ?_) | (with_reducible refine gdt_split (fun hg => ?_) (fun hg => ?_))
    | (with_reducible refine gdf_pos (by first | assumption | omega) ?_) | (with_reducible refine gdf_neg (by first | assumption | omega) ?_) | (with_reducible refine gdf_split (fun hg => ?_) (fun hg => ?_))
    | (with_reducible refine gdtn_pos (by first | assumption | omega) ?_) | (with_reducible refine gdtn_neg (by first | assumption | omega) ?_) | (with_reducible refine gdtn_split (fun hg => ?_) (fun hg => ?_))
    | (with_reducible refine gdfn_pos (by first | assumption | omega) ?_) | (with_reducible refine gdfn_neg (by first | assumption | omega) ?_) | (with_reducible refine gdfn_split (fun hg => ?_) (fun hg => ?_))
    | (with_reducible refine gdtbn_pos (by assumption) ?_) | (with_reducible refine gdtbn_neg (by assumption) ?_) | (with_reducible refine gdfbn_pos (by assumption) ?_) | (with_reducible refine gdfbn_neg (by assumption) ?_)
    | (with_reducible refine gdtb_pos (by assumption) ?_) | (with_reducible refine gdtb_neg (by assumption) ?_) | (with_reducible refine gdtb_split (fun hg => ?_) (fun hg => ?_))
    | (with_reducible refine gdfb_pos (by assumption) ?_) | (with_reducible refine gdfb_neg (by assumption) ?_) | (with_reducible refine gdfb_split (fun hg => ?_) (fun hg => ?_))
    | (with_reducible refine pickT ?_) | (with_reducible refine pickF ?_)
    | (with_reducible refine pick_pos (by first | assumption | omega) ?_) | (with_reducible refine pick_neg (by first | assumption | omega) ?_)
    | (with_reducible refine pickn_pos (by first | assumption | omega) ?_) | (with_reducible refine pickn_neg (by first | assumption | omega) ?_)
    | (with_reducible refine pickbn_pos (by assumption) ?_) | (with_reducible refine pickbn_neg (by assumption) ?_)
    | (with_reducible refine pickb_pos (by assumption) ?_) | (with_reducible refine pickb_neg (by assumption) ?_)
    | (with_reducible refine condT ?_) | (with_reducible refine condF ?_)
    | (with_reducible refine cond_pos (by first | assumption | omega) ?_) | (with_reducible refine cond_neg (by first | assumption | omega) ?_) | (with_reducible refine condM_dec (fun hg => ?_) (fun hg => ?_))
    | (with_reducible refine condn_pos (by first | assumption | omega) ?_) | (with_reducible refine condn_neg (by first | assumption | omega) ?_) | (with_reducible refine condM_ndec (fun hg => ?_) (fun hg => ?_))
    | (with_reducible refine condbn_pos (by assumption) ?_) | (with_reducible refine condbn_neg (by assumption) ?_) | (with_reducible refine condbn_split (fun hg => ?_) (fun hg => ?_))
    | (with_reducible refine condb_pos (by assumption) ?_) | (with_reducible refine condb_neg (by assumption) ?_) | (with_reducible refine condM_b (fun hg => ?_) (fun hg => ?_))
    | (refine oM_gen (fun Kv hK => ?_); simp [go_sem]; (try simp (disch := omega) only [wrapI64, wrapU8, wrapU32, wrapU64]); (first | refine hK _ _ ?_ | refine And.intro (by omega) (hK _ _ ?_)); clear hK; clear Kv)))
    · rw [← hge] at hg
      have hnil : (s.data.toList.drop a).drop (gap (s.data.toList.drop a)) = [] := by rw [← hge, hdd, List.drop_eq_nil_iff, size_len]; omega
      have hsc2 : scan s.data.toList = .ok ts := by rw [hsc, scanF, hnil]; simp
      refine h w1 _ hb1 ?_
      rw [hsc2]
      exact ⟨row, rfl, hown⟩
    · rw [← hge] at hg ⊢
      obtain ⟨b, hbe⟩ : ∃ b, b = a + g := ⟨_, rfl⟩
      have ec : ((a : Int) + (g : Int)) = (b : Int) := by omega
      rw [← hbe] at hdd hgl' hexb
      rw [ec] at hg
      simp only [ec, Int.toNat_natCast]
      have hblt : b < s.size := by omega
      refine next_from s b hexb hblt hl1 (by omega) ?_
      intro w2 hb2
      have hb12 : Below w.heap.size w w2 := hb1.trans (hb2.mono hz1)
      have hz2 := hb2.size
      have hown2 : w2.ownsRow w.heap.size 32 4 row ts.length (toksC ts) := ownsRow_below hown hb2
      have hcons : (s.data.toList.drop a).drop (gap (s.data.toList.drop a)) = byteAt s b :: s.data.toList.drop (b + 1) := by rw [← hge, hdd]; exact drop_cons s b hblt
      have hcons' : byteAt s b :: s.data.toList.drop (b + 1) = s.data.toList.drop b := (drop_cons s b hblt).symm
      have hal : (w2.alloc (.cells #[.int .i64 0, .string ⟨#[]⟩, .int .i64 0, .int .i64 0] 32)).heap[w2.heap.size]? = some (.cells #[.int .i64 0, .string ⟨#[]⟩, .int .i64 0, .int .i64 0] 32 (0, 0)) := heap_alloc_last _ _
      have hba : Below w.heap.size w (w2.alloc (.cells #[.int .i64 0, .string ⟨#[]⟩, .int .i64 0, .int .i64 0] 32)) := hb12.alloc (by omega) _
      cases hnx : next (s.data.toList.drop b) with
      | error er =>
        have hne := next_err _ _ hnx
        have hst := store32 hal rfl 0 0 0 ⟨#[]⟩
        simp only [nextV, tokV]
        repeat (any_goals (first
        | (with_reducible refine pureM_in ?_)
        | (with_reducible refine gdtT ?_) | (with_reducible refine gdtF ?_) | (with_reducible refine gdfF ?_) | (with_reducible refine gdfT ?_) | (with_reducible refine gdu ?_ _)
        | (with_reducible refine gdt_pos (by first | assumption | omega) ?_) | (with_reducible refine gdt_neg (by first | assumption | omega) ?_) | (with_reducible refine gdt_split (fun hg => ?_) (fun hg => ?_))
        | (with_reducible refine gdf_pos (by first | assumption | omega) ?_) | (with_reducible refine gdf_neg (by first | assumption | omega) ?_) | (with_reducible refine gdf_split (fun hg => ?_) (fun hg => ?_))
        | (with_reducible refine gdtn_pos (by first | assumption | omega) ?_) | (with_reducible refine gdtn_neg (by first | assumption | omega) ?_) | (with_reducible refine gdtn_split (fun hg => ?_) (fun hg => ?_))
        | (with_reducible refine gdfn_pos (by first | assumption | omega) ?_) | (with_reducible refine gdfn_neg (by first | assumption | omega) ?_) | (with_reducible refine gdfn_split (fun hg => ?_) (fun hg => ?_))
        | (with_reducible refine gdtbn_pos (by assumption) ?_) | (with_reducible refine gdtbn_neg (by assumption) ?_) | (with_reducible refine gdfbn_pos (by assumption) ?_) | (with_reducible refine gdfbn_neg (by assumption) ?_)
        | (with_reducible refine gdtb_pos (by assumption) ?_) | (with_reducible refine gdtb_neg (by assumption) ?_) | (with_reducible refine gdtb_split (fun hg => ?_) (fun hg => ?_))
        | (with_reducible refine gdfb_pos (by assumption) ?_) | (with_reducible refine gdfb_neg (by assumption) ?_) | (with_reducible refine gdfb_split (fun hg => ?_) (fun hg => ?_))
        | (with_reducible refine pickT ?_) | (with_reducible refine pickF ?_)
        | (with_reducible refine pick_pos (by first | assumption | omega) ?_) | (with_reducible refine pick_neg (by first | assumption | omega) ?_)
        | (with_reducible refine pickn_pos (by first | assumption | omega) ?_) | (with_reducible refine pickn_neg (by first | assumption | omega) ?_)
        | (with_reducible refine pickbn_pos (by assumption) ?_) | (with_reducible refine pickbn_neg (by assumption) ?_)
        | (with_reducible refine pickb_pos (by assumption) ?_) | (with_reducible refine pickb_neg (by assumption) ?_)
        | (with_reducible refine condT ?_) | (with_reducible refine condF ?_)
        | (with_reducible refine cond_pos (by first | assumption | omega) ?_) | (with_reducible refine cond_neg (by first | assumption | omega) ?_) | (with_reducible refine condM_dec (fun hg => ?_) (fun hg => ?_))
        | (with_reducible refine condn_pos (by first | assumption | omega) ?_) | (with_reducible refine condn_neg (by first | assumption | omega) ?_) | (with_reducible refine condM_ndec (fun hg => ?_) (fun hg => ?_))
        | (with_reducible refine condbn_pos (by assumption) ?_) | (with_reducible refine condbn_neg (by assumption) ?_) | (with_reducible refine condbn_split (fun hg => ?_) (fun hg => ?_))
        | (with_reducible refine condb_pos (by assumption) ?_) | (with_reducible refine condb_neg (by assumption) ?_) | (with_reducible refine condM_b (fun hg => ?_) (fun hg => ?_))
        | (refine oM_gen (fun Kv hK => ?_); simp [go_sem, hst]; (try simp (disch := omega) only [wrapI64, wrapU8, wrapU32, wrapU64]); (first | refine hK _ _ ?_ | refine And.intro (by omega) (hK _ _ ?_)); clear hK; clear Kv)))
        refine h _ _ (hb12.alloc (by omega) _) ?_
        have hsc2 : scan s.data.toList = .error (b, er) := by
          rw [hsc, scanF, hcons]
          simp only [hcons', hnx]
          rw [← hge, hbe]
        rw [hsc2]
      | ok x =>
        obtain ⟨t, n⟩ := x
        have hle := next_le _ _ _ hnx
        have hst := store32 hal rfl t.kind t.n t.pos ⟨t.text.toArray⟩
        simp only [nextV, tokV]
        repeat (any_goals (first
        | (with_reducible refine pureM_in ?_)
        | (with_reducible refine gdtT ?_) | (with_reducible refine gdtF ?_) | (with_reducible refine gdfF ?_) | (with_reducible refine gdfT ?_) | (with_reducible refine gdu ?_ _)
        | (with_reducible refine gdt_pos (by first | assumption | omega) ?_) | (with_reducible refine gdt_neg (by first | assumption | omega) ?_) | (with_reducible refine gdt_split (fun hg => ?_) (fun hg => ?_))
        | (with_reducible refine gdf_pos (by first | assumption | omega) ?_) | (with_reducible refine gdf_neg (by first | assumption | omega) ?_) | (with_reducible refine gdf_split (fun hg => ?_) (fun hg => ?_))
        | (with_reducible refine gdtn_pos (by first | assumption | omega) ?_) | (with_reducible refine gdtn_neg (by first | assumption | omega) ?_) | (with_reducible refine gdtn_split (fun hg => ?_) (fun hg => ?_))
        | (with_reducible refine gdfn_pos (by first | assumption | omega) ?_) | (with_reducible refine gdfn_neg (by first | assumption | omega) ?_) | (with_reducible refine gdfn_split (fun hg => ?_) (fun hg => ?_))
        | (with_reducible refine gdtbn_pos (by assumption) ?_) | (with_reducible refine gdtbn_neg (by assumption) ?_) | (with_reducible refine gdfbn_pos (by assumption) ?_) | (with_reducible refine gdfbn_neg (by assumption) ?_)
        | (with_reducible refine gdtb_pos (by assumption) ?_) | (with_reducible refine gdtb_neg (by assumption) ?_) | (with_reducible refine gdtb_split (fun hg => ?_) (fun hg => ?_))
        | (with_reducible refine gdfb_pos (by assumption) ?_) | (with_reducible refine gdfb_neg (by assumption) ?_) | (with_reducible refine gdfb_split (fun hg => ?_) (fun hg => ?_))
        | (with_reducible refine pickT ?_) | (with_reducible refine pickF ?_)
        | (with_reducible refine pick_pos (by first | assumption | omega) ?_) | (with_reducible refine pick_neg (by first | assumption | omega) ?_)
        | (with_reducible refine pickn_pos (by first | assumption | omega) ?_) | (with_reducible refine pickn_neg (by first | assumption | omega) ?_)
        | (with_reducible refine pickbn_pos (by assumption) ?_) | (with_reducible refine pickbn_neg (by assumption) ?_)
        | (with_reducible refine pickb_pos (by assumption) ?_) | (with_reducible refine pickb_neg (by assumption) ?_)
        | (with_reducible refine condT ?_) | (with_reducible refine condF ?_)
        | (with_reducible refine cond_pos (by first | assumption | omega) ?_) | (with_reducible refine cond_neg (by first | assumption | omega) ?_) | (with_reducible refine condM_dec (fun hg => ?_) (fun hg => ?_))
        | (with_reducible refine condn_pos (by first | assumption | omega) ?_) | (with_reducible refine condn_neg (by first | assumption | omega) ?_) | (with_reducible refine condM_ndec (fun hg => ?_) (fun hg => ?_))
        | (with_reducible refine condbn_pos (by assumption) ?_) | (with_reducible refine condbn_neg (by assumption) ?_) | (with_reducible refine condbn_split (fun hg => ?_) (fun hg => ?_))
        | (with_reducible refine condb_pos (by assumption) ?_) | (with_reducible refine condb_neg (by assumption) ?_) | (with_reducible refine condM_b (fun hg => ?_) (fun hg => ?_))
        | (refine oM_gen (fun Kv hK => ?_); simp [go_sem, hst]; (try simp (disch := omega) only [wrapI64, wrapU8, wrapU32, wrapU64]); (first | refine hK _ _ ?_ | refine And.intro (by omega) (hK _ _ ?_)); clear hK; clear Kv)))
        obtain ⟨hle1, hle2, hpos⟩ := hle
        rw [List.length_drop, size_len] at hle2
        have hby : (ts.length + 1) * Tryd.t32.bytes ≤ 140737488355328 := by
          have : Tryd.t32.bytes ≤ 64 := by decide
          have := Nat.mul_le_mul_left (ts.length + 1) this
          omega
        have hba2 : Below w.heap.size w (w2.alloc (.cells #[.int .i64 t.kind, .string ⟨t.text.toArray⟩, .int .i64 t.n, .int .i64 b] 32)) := hb12.alloc (by omega) _
        refine oM_append_new' (base := w.heap.size) (n := ts.length) (xs := toksC ts) (i := Tryd.t32) (z := .agg #[.int .i64 0, .string ⟨#[]⟩, .int .i64 0, .int .i64 0]) (cs := #[.int .i64 t.kind, .string ⟨t.text.toArray⟩, .int .i64 t.n, .int .i64 b]) (by simp) Tryd.underlying23 (by kernel_rfl) (by kernel_rfl) rfl rfl (by simp) (by simp [Value.oneCell']) (hown2.alloc _) (by simp; omega) (by unfold maxLen; omega) hby ?_
        intro v' w3 ho hgr
        have hb3 : Below w.heap.size w w3 := hba2.trans (below_of_grown hgr (by simp; omega) (fun k hk => ownsRow_base hown k hk))
        have hsc2 : scan s.data.toList = (match scanF f (s.data.toList.drop (b + n)) (b + n) with | .ok r => .ok (ts ++ [{ t with pos := b }] ++ r) | .error x => .error x) := by
          rw [hsc, scanF, hcons]
          simp only [hcons', hnx]
          rw [← hge, ← hbe, List.drop_drop]
          cases scanF f (s.data.toList.drop (b + n)) (b + n) <;> simp
        repeat (any_goals (first
        | (with_reducible refine pureM_in ?_)
        | (with_reducible refine gdtT ?_) | (with_reducible refine gdtF ?_) | (with_reducible refine gdfF ?_) | (with_reducible refine gdfT ?_) | (with_reducible refine gdu ?_ _)
        | (with_reducible refine gdt_pos (by first | assumption | omega) ?_) | (with_reducible refine gdt_neg (by first | assumption | omega) ?_) | (with_reducible refine gdt_split (fun hg => ?_) (fun hg => ?_))
        | (with_reducible refine gdf_pos (by first | assumption | omega) ?_) | (with_reducible refine gdf_neg (by first | assumption | omega) ?_) | (with_reducible refine gdf_split (fun hg => ?_) (fun hg => ?_))
        | (with_reducible refine gdtn_pos (by first | assumption | omega) ?_) | (with_reducible refine gdtn_neg (by first | assumption | omega) ?_) | (with_reducible refine gdtn_split (fun hg => ?_) (fun hg => ?_))
        | (with_reducible refine gdfn_pos (by first | assumption | omega) ?_) | (with_reducible refine gdfn_neg (by first | assumption | omega) ?_) | (with_reducible refine gdfn_split (fun hg => ?_) (fun hg => ?_))
        | (with_reducible refine gdtbn_pos (by assumption) ?_) | (with_reducible refine gdtbn_neg (by assumption) ?_) | (with_reducible refine gdfbn_pos (by assumption) ?_) | (with_reducible refine gdfbn_neg (by assumption) ?_)
        | (with_reducible refine gdtb_pos (by assumption) ?_) | (with_reducible refine gdtb_neg (by assumption) ?_) | (with_reducible refine gdtb_split (fun hg => ?_) (fun hg => ?_))
        | (with_reducible refine gdfb_pos (by assumption) ?_) | (with_reducible refine gdfb_neg (by assumption) ?_) | (with_reducible refine gdfb_split (fun hg => ?_) (fun hg => ?_))
        | (with_reducible refine pickT ?_) | (with_reducible refine pickF ?_)
        | (with_reducible refine pick_pos (by first | assumption | omega) ?_) | (with_reducible refine pick_neg (by first | assumption | omega) ?_)
        | (with_reducible refine pickn_pos (by first | assumption | omega) ?_) | (with_reducible refine pickn_neg (by first | assumption | omega) ?_)
        | (with_reducible refine pickbn_pos (by assumption) ?_) | (with_reducible refine pickbn_neg (by assumption) ?_)
        | (with_reducible refine pickb_pos (by assumption) ?_) | (with_reducible refine pickb_neg (by assumption) ?_)
        | (with_reducible refine condT ?_) | (with_reducible refine condF ?_)
        | (with_reducible refine cond_pos (by first | assumption | omega) ?_) | (with_reducible refine cond_neg (by first | assumption | omega) ?_) | (with_reducible refine condM_dec (fun hg => ?_) (fun hg => ?_))
        | (with_reducible refine condn_pos (by first | assumption | omega) ?_) | (with_reducible refine condn_neg (by first | assumption | omega) ?_) | (with_reducible refine condM_ndec (fun hg => ?_) (fun hg => ?_))
        | (with_reducible refine condbn_pos (by assumption) ?_) | (with_reducible refine condbn_neg (by assumption) ?_) | (with_reducible refine condbn_split (fun hg => ?_) (fun hg => ?_))
        | (with_reducible refine condb_pos (by assumption) ?_) | (with_reducible refine condb_neg (by assumption) ?_) | (with_reducible refine condM_b (fun hg => ?_) (fun hg => ?_))
        | (refine oM_gen (fun Kv hK => ?_); simp [go_sem]; (try simp (disch := omega) only [wrapI64, wrapU8, wrapU32, wrapU64]); (first | refine hK _ _ ?_ | refine And.intro (by omega) (hK _ _ ?_)); clear hK; clear Kv)))
        refine ⟨⟨_, _, _, _, _, _, b + n, f, ts ++ [{ t with pos := b }], rfl, by omega, by omega, by simp; omega, hb3, ?_, hsc2⟩, by simp; omega⟩
        simpa [toksC, tokC] using ho
end Go.Proofs
