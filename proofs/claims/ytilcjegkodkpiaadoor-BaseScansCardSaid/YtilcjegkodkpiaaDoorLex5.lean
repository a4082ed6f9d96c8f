/- Lex5: a part of the proof of the seat's statements: lemmas about the given translation and plain laws. No condition of its own. -/
import Derived.Test.YtilcjegkodkpiaaDoorLex4
import Derived.Lib.BufferRead
set_option linter.all false
namespace Go.Proofs
open Go Go.Sh Go.RowKit Go.Lib LexSpec
set_option linter.unusedSimpArgs false
/-- string(row of bytes of our own) -/
theorem conv_own {P : Program} {src dst e : TypeId} {B n : Nat} {v : Value} {l : List UInt8} {w : World} (hs : P.underlying src = some (.slice e)) (he : P.underlying e = some (.int .u8)) (hd : P.underlying dst = some .string)
    (h : w.ownsRow B e 1 v n (byteCells l)) : (convert src dst v).run P w = .ok (.string ⟨l.toArray⟩) w := by
  have hln : l.length = n := by have := h.1; simpa [byteCells] using this
  rcases h.2 with ⟨rfl, h0⟩ | ⟨g, cap, cur, rfl, hb, hg, hn, hm, hcs, ht⟩
  · have : l = [] := List.eq_nil_of_length_eq_zero (by omega)
    rw [this, run_convert_nil_bytes w src dst e 0 hs he hd]
  · rw [← hln, run_convert_bytes_back w src dst e ⟨g, 0, none⟩ cap l hs he hd]
    intro j hj
    have ha : (⟨g, 0, none⟩ : Addr).add j = ⟨g, j, none⟩ := by
      unfold Addr.add
      split
      · rename_i h0; rw [h0]
      · simp
    rw [ha]
    unfold World.cell?
    rw [hg]
    have hj2 : (byteCells l)[j]? = some (.int .u8 (l[j].toNat : Int)) := by simp [byteCells, hj]
    rw [← ht, List.getElem?_take] at hj2
    simp only [Nat.mul_one] at hj2
    rw [if_pos (by omega)] at hj2
    simpa using hj2
theorem ownsRow_len {w : World} {B : Nat} {e : TypeId} {sz : Nat} {a : Option Addr} {m c n : Nat} {xs : List Value} (h : w.ownsRow B e sz (.slice a m c) n xs) : m = n ∧ (∀ g, (Value.slice a m c).ownBlock = some g → B ≤ g) := by
  rcases h.2 with ⟨h, h0⟩ | ⟨g, cap, cur, h, hb, _⟩
  · injection h with h1 h2 h3; exact ⟨by omega, fun g hg => by subst h1; simp [Value.ownBlock] at hg⟩
  · injection h with h1 h2 h3; exact ⟨h2, fun g' hg => by subst h1; simp [Value.ownBlock] at hg; omega⟩
theorem quotedGo_cons (c : UInt8) (r : List UInt8) : quotedGo (c :: r) = if isPlain c then
      if c == 34 then some ([], 1)
      else if c == 92 then
        match r with
        | [] => none
        | d :: r' => if d == 34 || d == 92 then (quotedGo r').map (fun x => (d :: x.1, x.2 + 2)) else none
      else (quotedGo r).map (fun x => (c :: x.1, x.2 + 1))
    else none := (quotedGo.eq_def (c :: r)).trans rfl
def qval (o : Option (List UInt8 × Nat)) : Value := match o with
  | some (v, n) => .tuple #[.string ⟨v.toArray⟩, .int .i64 n]
  | none => .tuple #[.string ⟨#[]⟩, .int .i64 0]
set_option maxHeartbeats 1600000 in
theorem quoted_ok (s : ByteArray) (hs : s.size < 2^40) (h1 : 1 ≤ s.size) {K : Value → World → Prop} {w : World} (h : ∀ w', Below w.heap.size w w' → K (qval (LexSpec.quoted s.data.toList)) w') : callM Tryd.prog 38 #[.string s] K w := by
  apply sh_38_ok
  unfold sh_38
  refine ⟨fun l w' => ∃ (a b c d f v : Value) (i : Nat) (out : List UInt8), l = [a, b, c, d, f, .int .i64 i, v] ∧ 1 ≤ i ∧ i ≤ s.size ∧ out.length ≤ i ∧ Below w.heap.size w w' ∧ w'.ownsRow w.heap.size 5 1 v out.length (byteCells out) ∧
      quotedGo (s.data.toList.drop 1) = (quotedGo (s.data.toList.drop i)).map (fun x => (out ++ x.1, x.2 + (i - 1))), fun l _ => s.size - (match l with | [_, _, _, _, _, .int _ n, _] => n.toNat | _ => 0), ⟨_, _, _, _, _, _, 1, [], rfl, by omega, by omega, by simp, Below.refl _ _, World.ownsRow_nil _ _ _ _, by simp⟩, ?_⟩
  rintro _ _ w1 ⟨a, b, c, d, f, v, i, out, rfl, hi1, hi2, hlo, hb1, hown, hq⟩
  have hz1 := hb1.size
  simp only [List.getD_cons_zero, List.getD_cons_succ]
  obtain ⟨av, nv, cv, rfl⟩ := ownsRow_slice hown
  refine ⟨fun l w' => w' = w1 ∧ ∃ (a b c d f : Value) (j : Nat), l = [a, b, c, d, f, .int .i64 j] ∧ i ≤ j ∧ j < s.size ∧
      quotedGo (s.data.toList.drop 1) = (quotedGo (s.data.toList.drop (j + 1))).map (fun x => (out ++ [byteAt s j] ++ x.1, x.2 + j)), ?_, ?_⟩
  · by_cases hlt : i < s.size
    · have hd := drop_cons s i hlt
      rw [hd, quotedGo_cons] at hq
      have h34 : (((byteAt s i).toNat : Int) = 34) → byteAt s i = 34 := fun h => UInt8.toNat_inj.1 (by simp; omega)
      have h92 : (((byteAt s i).toNat : Int) = 92) → byteAt s i = 92 := fun h => UInt8.toNat_inj.1 (by simp; omega)
      have n34 : ¬ (((byteAt s i).toNat : Int) = 34) → (byteAt s i == 34) = false := fun h => by rw [beq_eq_false_iff_ne]; exact fun e => h (by rw [e]; rfl)
      have n92 : ¬ (((byteAt s i).toNat : Int) = 92) → (byteAt s i == 92) = false := fun h => by rw [beq_eq_false_iff_ne]; exact fun e => h (by rw [e]; rfl)
      have hnone : quotedGo (s.data.toList.drop 1) = none → K (.tuple #[.string ⟨#[]⟩, .int .i64 0]) w1 := fun hn => by
        have hqn : LexSpec.quoted s.data.toList = none := by rw [LexSpec.quoted, hn]
        have := h w1 hb1
        rw [hqn] at this
        exact this
      clear hd
      have hnv : nv = out.length := (ownsRow_len hown).1
      subst hnv
      have hcv := conv_own (src := 52) (dst := 9) Tryd.underlying52 Tryd.underlying5 Tryd.underlying9 hown
      have hclose : isPlain (byteAt s i) = true → (((byteAt s i).toNat : Int) = 34) → K (qval (if out.length ≤ 400 then some (out, i + 1) else none)) w1 := fun hp h3 => by
        rw [hp, h34 h3] at hq
        replace hq : quotedGo (s.data.toList.drop 1) = some (out, 1 + (i - 1)) := by rw [hq]; simp
        have hb := h w1 hb1
        rw [LexSpec.quoted, hq] at hb
        have e : 1 + (i - 1) + 1 = i + 1 := by omega
        simp only [e] at hb
        exact hb
      repeat (any_goals (first
      | (with_reducible refine pureM_in ?_)
      | (with_reducible refine plain_ok _ ?_)
      | (with_reducible refine gdtT ?_) | (with_reducible refine gdtF ?_) | (with_reducible refine gdfF ?_) | (with_reducible refine gdfT ?_) | (with_reducible refine gdu ?_ _)
      | (with_reducible refine gdt_pos (by first | assumption | omega) ?_) | (with_reducible refine gdt_neg (by first | assumption | omega) ?_) | (with_reducible refine gdt_split (fun hg => ?_) (fun hg => ?_))
      | (with_reducible refine gdf_pos (by first | assumption | omega) ?_) | (with_reducible refine gdf_neg (by first | assumption | omega) ?_) | (with_reducible refine gdf_split (fun hg => ?_) (fun hg => ?_))
      | (with_reducible refine gdtn_pos (by first | assumption | omega) ?_) | (with_reducible refine gdtn_neg (by first | assumption | omega) ?_) | (with_reducible refine gdtn_split (fun hg => ?_) (fun hg => ?_))
      | (with_reducible refine gdfn_pos (by first | assumption | omega) ?_) | (with_reducible refine gdfn_neg (by first | assumption | omega) ?_) | (with_reducible refine gdfn_split (fun hg => ?_) (fun hg => ?_))
      | (with_reducible refine gdtbn_pos (by assumption) ?_) | (with_reducible refine gdtbn_neg (by assumption) ?_) | (with_reducible refine gdfbn_pos (by assumption) ?_) | (with_reducible refine gdfbn_neg (by assumption) ?_)
      | (with_reducible refine gdtb_pos (by assumption) ?_) | (with_reducible refine gdtb_neg (by assumption) ?_) | (with_reducible refine gdtb_split (fun hg => ?_) (fun hg => ?_))
      | (with_reducible refine gdfb_pos (by assumption) ?_) | (with_reducible refine gdfb_neg (by assumption) ?_) | (with_reducible refine gdfb_split (fun hg => ?_) (fun hg => ?_))
      | (with_reducible refine pickT ?_) | (with_reducible refine pickF ?_)
      | (with_reducible refine pick_pos (by first | assumption | omega) ?_) | (with_reducible refine pick_neg (by first | assumption | omega) ?_)
      | (with_reducible refine pickn_pos (by first | assumption | omega) ?_) | (with_reducible refine pickn_neg (by first | assumption | omega) ?_)
      | (with_reducible refine pickbn_pos (by assumption) ?_) | (with_reducible refine pickbn_neg (by assumption) ?_)
      | (with_reducible refine pickb_pos (by assumption) ?_) | (with_reducible refine pickb_neg (by assumption) ?_)
      | (with_reducible refine condT ?_) | (with_reducible refine condF ?_)
      | (with_reducible refine cond_pos (by first | assumption | omega) ?_) | (with_reducible refine cond_neg (by first | assumption | omega) ?_) | (with_reducible refine condM_dec (fun hg => ?_) (fun hg => ?_))
      | (with_reducible refine condn_pos (by first | assumption | omega) ?_) | (with_reducible refine condn_neg (by first | assumption | omega) ?_) | (with_reducible refine condM_ndec (fun hg => ?_) (fun hg => ?_))
      | (with_reducible refine condbn_pos (by assumption) ?_) | (with_reducible refine condbn_neg (by assumption) ?_) | (with_reducible refine condbn_split (fun hg => ?_) (fun hg => ?_))
      | (with_reducible refine condb_pos (by assumption) ?_) | (with_reducible refine condb_neg (by assumption) ?_) | (with_reducible refine condM_b (fun hg => ?_) (fun hg => ?_))
      | (refine oM_gen (fun Kv hK => ?_); simp [go_sem, hcv]; (try simp (disch := omega) only [wrapI64, wrapU8, wrapU32, wrapU64]); (first | refine hK _ _ ?_ | refine And.intro (by omega) (hK _ _ ?_)); clear hK; clear Kv)))
      · rename_i hp h3
        have hb := hclose hp h3
        rw [if_neg (by omega)] at hb
        exact hb
      · rename_i hp h3
        have hb := hclose hp h3
        rw [if_pos (by omega)] at hb
        exact hb
      · rename_i hp hn3 hn9
        apply hnone
        have hnil : s.data.toList.drop (i + 1) = [] := by rw [List.drop_eq_nil_iff, size_len]; omega
        rw [hq, hp, n34 hn3, h92 hn9, hnil]
        rfl
      · rename_i hp hn3 hn9 hlt2
        have e1 : byteAt s (i + 1) = 34 := UInt8.toNat_inj.1 (by simp; omega)
        refine ⟨rfl, _, _, _, _, _, i + 1, rfl, by omega, by omega, ?_⟩
        have hd2 := drop_cons s (i + 1) (by omega)
        rw [hq, hp, n34 hn3, h92 hn9, hd2, e1]
        simp only [Option.map_map]
        cases quotedGo (List.drop (i + 1 + 1) s.data.toList) with
        | none => rfl
        | some x => simp; omega
      · rename_i hp hn3 hn9 hlt2 hn34
        have e1 : byteAt s (i + 1) = 92 := UInt8.toNat_inj.1 (by simp; omega)
        refine ⟨rfl, _, _, _, _, _, i + 1, rfl, by omega, by omega, ?_⟩
        have hd2 := drop_cons s (i + 1) (by omega)
        rw [hq, hp, n34 hn3, h92 hn9, hd2, e1]
        simp only [Option.map_map]
        cases quotedGo (List.drop (i + 1 + 1) s.data.toList) with
        | none => rfl
        | some x => simp; omega
      · rename_i hp hn3 hn9 hlt2 hn34
        apply hnone
        have hd2 := drop_cons s (i + 1) (by omega)
        have e1 : (byteAt s (i + 1) == 34) = false := by rw [beq_eq_false_iff_ne]; exact fun e => hn34 (by rw [e]; rfl)
        have e2 : (byteAt s (i + 1) == 92) = false := by rw [beq_eq_false_iff_ne]; exact fun e => hg (by rw [e]; rfl)
        rw [hq, hp, n34 hn3, h92 hn9, hd2]
        simp [e1, e2]
      · rename_i hp hn3
        refine ⟨rfl, _, _, _, _, _, i, rfl, by omega, by omega, ?_⟩
        rw [hq, hp, n34 hn3, n92 hg]
        simp only [Option.map_map]
        cases quotedGo (List.drop (i + 1) s.data.toList) with
        | none => rfl
        | some x => simp; omega
      · apply hnone
        rw [hq, hg]
        rfl
    · have hnil : s.data.toList.drop i = [] := by rw [List.drop_eq_nil_iff, size_len]; omega
      rw [hnil] at hq
      have hqn : LexSpec.quoted s.data.toList = none := by rw [LexSpec.quoted, hq]; rfl
      repeat (any_goals (first
      | (with_reducible refine pureM_in ?_)
      | (with_reducible refine gdtT ?_) | (with_reducible refine gdtF ?_) | (with_reducible refine gdfF ?_) | (with_reducible refine gdfT ?_) | (with_reducible refine gdu ?_ _)
      | (with_reducible refine gdt_pos (by first | assumption | omega) ?_) | (with_reducible refine gdt_neg (by first | assumption | omega) ?_) | (with_reducible refine gdt_split (fun hg => ?_) (fun hg => ?_))
      | (with_reducible refine gdf_pos (by first | assumption | omega) ?_) | (with_reducible refine gdf_neg (by first | assumption | omega) ?_) | (with_reducible refine gdf_split (fun hg => ?_) (fun hg => ?_))
      | (with_reducible refine gdtn_pos (by first | assumption | omega) ?_) | (with_reducible refine gdtn_neg (by first | assumption | omega) ?_) | (with_reducible refine gdtn_split (fun hg => ?_) (fun hg => ?_))
      | (with_reducible refine gdfn_pos (by first | assumption | omega) ?_) | (with_reducible refine gdfn_neg (by first | assumption | omega) ?_) | (with_reducible refine gdfn_split (fun hg => ?_) (fun hg => ?_))
      | (with_reducible refine gdtbn_pos (by assumption) ?_) | (with_reducible refine gdtbn_neg (by assumption) ?_) | (with_reducible refine gdfbn_pos (by assumption) ?_) | (with_reducible refine gdfbn_neg (by assumption) ?_)
      | (with_reducible refine gdtb_pos (by assumption) ?_) | (with_reducible refine gdtb_neg (by assumption) ?_) | (with_reducible refine gdtb_split (fun hg => ?_) (fun hg => ?_))
      | (with_reducible refine gdfb_pos (by assumption) ?_) | (with_reducible refine gdfb_neg (by assumption) ?_) | (with_reducible refine gdfb_split (fun hg => ?_) (fun hg => ?_))
      | (with_reducible refine pickT ?_) | (with_reducible refine pickF ?_)
      | (with_reducible refine pick_pos (by first | assumption | omega) ?_) | (with_reducible refine pick_neg (by first | assumption | omega) ?_)
      | (with_reducible refine pickn_pos (by first | assumption | omega) ?_) | (with_reducible refine pickn_neg (by first | assumption | omega) ?_)
      | (with_reducible refine pickbn_pos (by assumption) ?_) | (with_reducible refine pickbn_neg (by assumption) ?_)
      | (with_reducible refine pickb_pos (by assumption) ?_) | (with_reducible refine pickb_neg (by assumption) ?_)
      | (with_reducible refine condT ?_) | (with_reducible refine condF ?_)
      | (with_reducible refine cond_pos (by first | assumption | omega) ?_) | (with_reducible refine cond_neg (by first | assumption | omega) ?_) | (with_reducible refine condM_dec (fun hg => ?_) (fun hg => ?_))
      | (with_reducible refine condn_pos (by first | assumption | omega) ?_) | (with_reducible refine condn_neg (by first | assumption | omega) ?_) | (with_reducible refine condM_ndec (fun hg => ?_) (fun hg => ?_))
      | (with_reducible refine condbn_pos (by assumption) ?_) | (with_reducible refine condbn_neg (by assumption) ?_) | (with_reducible refine condbn_split (fun hg => ?_) (fun hg => ?_))
      | (with_reducible refine condb_pos (by assumption) ?_) | (with_reducible refine condb_neg (by assumption) ?_) | (with_reducible refine condM_b (fun hg => ?_) (fun hg => ?_))
      | (refine oM_gen (fun Kv hK => ?_); simp [go_sem]; (try simp (disch := omega) only [wrapI64, wrapU8, wrapU32, wrapU64]); (first | refine hK _ _ ?_ | refine And.intro (by omega) (hK _ _ ?_)); clear hK; clear Kv)))
      have := h w1 hb1
      rw [hqn] at this
      exact this
  · rintro _ _ w2 ⟨rfl, a', b', c', d', f', j, rfl, hij, hj, hq2⟩
    simp only [List.getD_cons_zero, List.getD_cons_succ]
    have hlo2 : out.length + 1 < 2 ^ 41 := by omega
    have hby : (out.length + 1) * Tryd.t5.bytes ≤ 140737488355328 := by
      have : Tryd.t5.bytes = 1 := by kernel_rfl
      rw [this]
      omega
    repeat (any_goals (first
    | (with_reducible refine pureM_in ?_)
    | (with_reducible refine gdtT ?_) | (with_reducible refine gdtF ?_) | (with_reducible refine gdfF ?_) | (with_reducible refine gdfT ?_) | (with_reducible refine gdu ?_ _)
    | (with_reducible refine gdt_pos (by first | assumption | omega) ?_) | (with_reducible refine gdt_neg (by first | assumption | omega) ?_) | (with_reducible refine gdt_split (fun hg => ?_) (fun hg => ?_))
    | (with_reducible refine gdf_pos (by first | assumption | omega) ?_) | (with_reducible refine gdf_neg (by first | assumption | omega) ?_) | (with_reducible refine gdf_split (fun hg => ?_) (fun hg => ?_))
    | (with_reducible refine gdtn_pos (by first | assumption | omega) ?_) | (with_reducible refine gdtn_neg (by first | assumption | omega) ?_) | (with_reducible refine gdtn_split (fun hg => ?_) (fun hg => ?_))
    | (with_reducible refine gdfn_pos (by first | assumption | omega) ?_) | (with_reducible refine gdfn_neg (by first | assumption | omega) ?_) | (with_reducible refine gdfn_split (fun hg => ?_) (fun hg => ?_))
    | (with_reducible refine gdtbn_pos (by assumption) ?_) | (with_reducible refine gdtbn_neg (by assumption) ?_) | (with_reducible refine gdfbn_pos (by assumption) ?_) | (with_reducible refine gdfbn_neg (by assumption) ?_)
    | (with_reducible refine gdtb_pos (by assumption) ?_) | (with_reducible refine gdtb_neg (by assumption) ?_) | (with_reducible refine gdtb_split (fun hg => ?_) (fun hg => ?_))
    | (with_reducible refine gdfb_pos (by assumption) ?_) | (with_reducible refine gdfb_neg (by assumption) ?_) | (with_reducible refine gdfb_split (fun hg => ?_) (fun hg => ?_))
    | (with_reducible refine pickT ?_) | (with_reducible refine pickF ?_)
    | (with_reducible refine pick_pos (by first | assumption | omega) ?_) | (with_reducible refine pick_neg (by first | assumption | omega) ?_)
    | (with_reducible refine pickn_pos (by first | assumption | omega) ?_) | (with_reducible refine pickn_neg (by first | assumption | omega) ?_)
    | (with_reducible refine pickbn_pos (by assumption) ?_) | (with_reducible refine pickbn_neg (by assumption) ?_)
    | (with_reducible refine pickb_pos (by assumption) ?_) | (with_reducible refine pickb_neg (by assumption) ?_)
    | (with_reducible refine condT ?_) | (with_reducible refine condF ?_)
    | (with_reducible refine cond_pos (by first | assumption | omega) ?_) | (with_reducible refine cond_neg (by first | assumption | omega) ?_) | (with_reducible refine condM_dec (fun hg => ?_) (fun hg => ?_))
    | (with_reducible refine condn_pos (by first | assumption | omega) ?_) | (with_reducible refine condn_neg (by first | assumption | omega) ?_) | (with_reducible refine condM_ndec (fun hg => ?_) (fun hg => ?_))
    | (with_reducible refine condbn_pos (by assumption) ?_) | (with_reducible refine condbn_neg (by assumption) ?_) | (with_reducible refine condbn_split (fun hg => ?_) (fun hg => ?_))
    | (with_reducible refine condb_pos (by assumption) ?_) | (with_reducible refine condb_neg (by assumption) ?_) | (with_reducible refine condM_b (fun hg => ?_) (fun hg => ?_))
    | (refine oM_gen (fun Kv hK => ?_); simp [go_sem]; (try simp (disch := omega) only [wrapI64, wrapU8, wrapU32, wrapU64]); (first | refine hK _ _ ?_ | refine And.intro (by omega) (hK _ _ ?_)); clear hK; clear Kv)))
    refine oM_append_new (base := w.heap.size) (n := out.length) (xs := byteCells out) (i := Tryd.t5) (z := .int .u8 0) (cs := #[.int .u8 (byteAt s j).toNat]) Tryd.underlying52 (by kernel_rfl) (by kernel_rfl) rfl rfl (by simp) (by simp [Value.oneCell']) hown (by omega) (by unfold maxLen; omega) hby ?_
    intro v' w2 ho hg
    have hb2 : Below w.heap.size w w2 := hb1.trans (below_of_grown hg (by omega) (fun k hk => (ownsRow_len hown).2 k hk))
    repeat (any_goals (first
    | (with_reducible refine pureM_in ?_)
    | (with_reducible refine gdtT ?_) | (with_reducible refine gdtF ?_) | (with_reducible refine gdfF ?_) | (with_reducible refine gdfT ?_) | (with_reducible refine gdu ?_ _)
    | (with_reducible refine gdt_pos (by first | assumption | omega) ?_) | (with_reducible refine gdt_neg (by first | assumption | omega) ?_) | (with_reducible refine gdt_split (fun hg => ?_) (fun hg => ?_))
    | (with_reducible refine gdf_pos (by first | assumption | omega) ?_) | (with_reducible refine gdf_neg (by first | assumption | omega) ?_) | (with_reducible refine gdf_split (fun hg => ?_) (fun hg => ?_))
    | (with_reducible refine gdtn_pos (by first | assumption | omega) ?_) | (with_reducible refine gdtn_neg (by first | assumption | omega) ?_) | (with_reducible refine gdtn_split (fun hg => ?_) (fun hg => ?_))
    | (with_reducible refine gdfn_pos (by first | assumption | omega) ?_) | (with_reducible refine gdfn_neg (by first | assumption | omega) ?_) | (with_reducible refine gdfn_split (fun hg => ?_) (fun hg => ?_))
    | (with_reducible refine gdtbn_pos (by assumption) ?_) | (with_reducible refine gdtbn_neg (by assumption) ?_) | (with_reducible refine gdfbn_pos (by assumption) ?_) | (with_reducible refine gdfbn_neg (by assumption) ?_)
    | (with_reducible refine gdtb_pos (by assumption) ?_) | (with_reducible refine gdtb_neg (by assumption) ?_) | (with_reducible refine gdtb_split (fun hg => ?_) (fun hg => ?_))
    | (with_reducible refine gdfb_pos (by assumption) ?_) | (with_reducible refine gdfb_neg (by assumption) ?_) | (with_reducible refine gdfb_split (fun hg => ?_) (fun hg => ?_))
    | (with_reducible refine pickT ?_) | (with_reducible refine pickF ?_)
    | (with_reducible refine pick_pos (by first | assumption | omega) ?_) | (with_reducible refine pick_neg (by first | assumption | omega) ?_)
    | (with_reducible refine pickn_pos (by first | assumption | omega) ?_) | (with_reducible refine pickn_neg (by first | assumption | omega) ?_)
    | (with_reducible refine pickbn_pos (by assumption) ?_) | (with_reducible refine pickbn_neg (by assumption) ?_)
    | (with_reducible refine pickb_pos (by assumption) ?_) | (with_reducible refine pickb_neg (by assumption) ?_)
    | (with_reducible refine condT ?_) | (with_reducible refine condF ?_)
    | (with_reducible refine cond_pos (by first | assumption | omega) ?_) | (with_reducible refine cond_neg (by first | assumption | omega) ?_) | (with_reducible refine condM_dec (fun hg => ?_) (fun hg => ?_))
    | (with_reducible refine condn_pos (by first | assumption | omega) ?_) | (with_reducible refine condn_neg (by first | assumption | omega) ?_) | (with_reducible refine condM_ndec (fun hg => ?_) (fun hg => ?_))
    | (with_reducible refine condbn_pos (by assumption) ?_) | (with_reducible refine condbn_neg (by assumption) ?_) | (with_reducible refine condbn_split (fun hg => ?_) (fun hg => ?_))
    | (with_reducible refine condb_pos (by assumption) ?_) | (with_reducible refine condb_neg (by assumption) ?_) | (with_reducible refine condM_b (fun hg => ?_) (fun hg => ?_))
    | (refine oM_gen (fun Kv hK => ?_); simp [go_sem]; (try simp (disch := omega) only [wrapI64, wrapU8, wrapU32, wrapU64]); (first | refine hK _ _ ?_ | refine And.intro (by omega) (hK _ _ ?_)); clear hK; clear Kv)))
    refine ⟨⟨_, _, _, _, _, _, j + 1, out ++ [byteAt s j], rfl, by omega, by omega, by simp; omega, hb2, by simpa [byteCells] using ho, ?_⟩, by simp; omega⟩
    rw [hq2]
    simp
end Go.Proofs
