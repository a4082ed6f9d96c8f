/- Lex17: a part of the proof of the seat's statements: lemmas about the given translation and plain laws. No condition of its own. -/
--Q
import Derived.Test.YtilcjegkodkpiaaDoorLex15
import Derived.Test.YtilcjegkodkpiaaDoorShStr
import Derived.Test.YtilcjegkodkpiaaDoorLexLaw5
set_option linter.all false
namespace Go.Proofs
open Go Go.Sh Go.RowKit Go.Lib LexSpec
set_option linter.unusedSimpArgs false
theorem scanF_pos (f : Nat) : ∀ (l : List UInt8) (a : Nat) (ts : List Tok), scanF f l a = .ok ts → ∀ t ∈ ts, t.pos ≤ a + l.length := by
  induction f with
  | zero => intro l a ts h; cases h; simp
  | succ f ih =>
    intro l a ts h
    rw [scanF] at h
    split at h
    · cases h; simp
    · rename_i r hr
      split at h
      · cases h
      · rename_i t n hn
        split at h
        · cases h
        · rename_i ts' hts
          cases h
          have h1 := ih _ _ _ hts
          have h2 := (next_le _ _ _ hn).2.1
          have h3 := gapL_le l false
          rw [List.length_drop] at h1 h2
          intro u hu
          rcases List.mem_cons.1 hu with rfl | hu
          · unfold gap; simp; omega
          · have := h1 u hu
            rw [List.length_drop] at this
            unfold gap at *; omega
theorem scan_pos (l : List UInt8) (ts : List Tok) (h : scan l = .ok ts) : ∀ t ∈ ts, t.pos ≤ l.length := by
  unfold scan at h
  split at h
  · cases h
  · intro t ht
    have := scanF_pos _ _ _ _ h t ht
    omega
set_option maxHeartbeats 3200000 in
theorem law4_ok (s t : ByteArray) (hs : s.size < 2^62) (ht : t.size < 2^62) {K : Value → World → Prop} {w : World} (hl : signsLaid w) (hw : 0 < w.heap.size) (h : ∀ w', Below w.heap.size w w' → K (.bool true) w') : callM Tryd.prog 4 #[.string s, .string t] K w := by
  apply sh_4_ok
  unfold sh_4
  refine sane_ok hl hw ?_
  intro w1 hb1 hl1
  have z1 := hb1.size
  refine cut_ok s hs ?_
  obtain ⟨x, hx⟩ : ∃ c, c = s.data.toList.take 900 := ⟨_, rfl⟩
  have hxl : x.length ≤ 900 := by rw [hx, List.length_take]; omega
  rw [← hx]
  refine cut_ok t ht ?_
  obtain ⟨y, hy⟩ : ∃ c, c = t.data.toList.take 900 := ⟨_, rfl⟩
  have hyl : y.length ≤ 900 := by rw [hy, List.length_take]; omega
  rw [← hy]
  have sx : (⟨x.toArray⟩ : ByteArray).size < 2^40 := by rw [ba_size]; omega
  have sy : (⟨y.toArray⟩ : ByteArray).size < 2^40 := by rw [ba_size]; omega
  have sxy : (⟨(x ++ 10 :: y).toArray⟩ : ByteArray).size < 2^40 := by rw [ba_size]; simp; omega
  have eqc : (⟨x.toArray⟩ : ByteArray) ++ ⟨#[10]⟩ ++ ⟨y.toArray⟩ = ⟨(x ++ 10 :: y).toArray⟩ := by
    have e : (⟨#[10]⟩ : ByteArray) = ⟨[10].toArray⟩ := rfl
    rw [e, ba_append, ba_append]
    simp
  have e10 : (⟨#[10]⟩ : ByteArray).size = 1 := rfl
  have ex : (⟨x.toArray⟩ : ByteArray).size = x.length := rfl
  have ey : (⟨y.toArray⟩ : ByteArray).size = y.length := rfl
  have exx : ((⟨x.toArray⟩ : ByteArray) ++ ⟨#[10]⟩).size = x.length + 1 := by rw [ByteArray.size_append]; rfl
  have hj := scan_join x y (by omega)
  cases hsx : scan x with
  | error e =>
    obtain ⟨p, e⟩ := e
    have hne := scan_err _ _ _ hsx
    rw [hsx] at hj
    refine scan_bad _ p e hsx sx hl1 (by omega) ?_
    intro w2 hb2 hl2
    have z2 := hb2.size
    repeat (any_goals (first
    | (with_reducible refine pureM_in ?_)
    | (with_reducible refine pureQ_in ?_) | (with_reducible refine gdQ_conv (fun _ => ?_)) | (with_reducible refine pickQT ?_) | (with_reducible refine pickQF ?_) | (with_reducible refine pickQ_pos (by first | assumption | omega) ?_) | (with_reducible refine pickQ_neg (by first | assumption | omega) ?_) | (with_reducible refine pickQn_pos (by first | assumption | omega) ?_) | (with_reducible refine pickQn_neg (by first | assumption | omega) ?_) | ((with_reducible refine oQ_one ?_ ?_); exact ⟨_, rfl⟩) | (with_reducible refine And.intro (Eq.refl (α := World) _) ?_) | (with_reducible refine forall_one ?_)
    | (with_reducible refine gdtT ?_) | (with_reducible refine gdtF ?_) | (with_reducible refine gdfF ?_) | (with_reducible refine gdfT ?_) | (with_reducible refine gdu ?_ _)
    | (with_reducible refine gdt_pos (by first | assumption | omega) ?_) | (with_reducible refine gdt_neg (by first | assumption | omega) ?_) | (with_reducible refine gdt_split (fun hg => ?_) (fun hg => ?_))
    | (with_reducible refine gdf_pos (by first | assumption | omega) ?_) | (with_reducible refine gdf_neg (by first | assumption | omega) ?_) | (with_reducible refine gdf_split (fun hg => ?_) (fun hg => ?_))
    | (with_reducible refine gdtn_pos (by first | assumption | omega) ?_) | (with_reducible refine gdtn_neg (by first | assumption | omega) ?_) | (with_reducible refine gdtn_split (fun hg => ?_) (fun hg => ?_))
    | (with_reducible refine gdfn_pos (by first | assumption | omega) ?_) | (with_reducible refine gdfn_neg (by first | assumption | omega) ?_) | (with_reducible refine gdfn_split (fun hg => ?_) (fun hg => ?_))
    | (with_reducible refine gdtbn_pos (by assumption) ?_) | (with_reducible refine gdtbn_neg (by assumption) ?_) | (with_reducible refine gdfbn_pos (by assumption) ?_) | (with_reducible refine gdfbn_neg (by assumption) ?_)
    | (with_reducible refine gdtb_pos (by assumption) ?_) | (with_reducible refine gdtb_neg (by assumption) ?_) | (with_reducible refine gdtb_split (fun hg => ?_) (fun hg => ?_))
    | (with_reducible refine gdfb_pos (by assumption) ?_) | (with_reducible refine gdfb_neg (by assumption) ?_) | (with_reducible refine gdfb_split (fun hg => ?_) (fun hg => ?_))
    | (with_reducible refine pickT ?_) | (with_reducible refine pickF ?_)
    | (with_reducible refine pick_pos (by first | assumption | omega) ?_) | (with_reducible refine pick_neg (by first | assumption | omega) ?_)
    | (with_reducible refine pickn_pos (by first | assumption | omega) ?_) | (with_reducible refine pickn_neg (by first | assumption | omega) ?_)
    | (with_reducible refine pickbn_pos (by assumption) ?_) | (with_reducible refine pickbn_neg (by assumption) ?_)
    | (with_reducible refine pickb_pos (by assumption) ?_) | (with_reducible refine pickb_neg (by assumption) ?_)
    | (with_reducible refine condT ?_) | (with_reducible refine condF ?_)
    | (with_reducible refine cond_pos (by first | assumption | omega) ?_) | (with_reducible refine cond_neg (by first | assumption | omega) ?_) | (with_reducible refine condM_dec (fun hg => ?_) (fun hg => ?_))
    | (with_reducible refine condn_pos (by first | assumption | omega) ?_) | (with_reducible refine condn_neg (by first | assumption | omega) ?_) | (with_reducible refine condM_ndec (fun hg => ?_) (fun hg => ?_))
    | (with_reducible refine condbn_pos (by assumption) ?_) | (with_reducible refine condbn_neg (by assumption) ?_) | (with_reducible refine condbn_split (fun hg => ?_) (fun hg => ?_))
    | (with_reducible refine condb_pos (by assumption) ?_) | (with_reducible refine condb_neg (by assumption) ?_) | (with_reducible refine condM_b (fun hg => ?_) (fun hg => ?_))
    | ((with_reducible refine oM_gen (fun Kv hK => ?_)); simp [go_sem]; (try simp (disch := omega) only [wrapI64, wrapU8, wrapU32, wrapU64]); (first | refine hK _ _ ?_ | refine And.intro (by omega) (hK _ _ ?_)); clear hK; clear Kv)))
    have rest : ∀ w3, Below w2.heap.size w2 w3 → signsLaid w3 → ∀ (K' : Value → World → Prop), (∀ w4, Below w.heap.size w w4 → signsLaid w4 → K' (.tuple #[.slice none 0 0, .int .i64 p, .int .i64 e]) w4) → callM Tryd.prog 9 #[.string ⟨(x ++ 10 :: y).toArray⟩] K' w3 := by
      intro w3 hb3 hl3 K' hk
      have z3 := hb3.size
      refine scan_bad _ p e hj sxy hl3 (by omega) ?_
      intro w4 hb4 hl4
      exact hk w4 (((hb1.trans (hb2.mono z1)).trans (hb3.mono (by omega))).trans (hb4.mono (by omega))) hl4
    cases hsy : scan y with
    | error e' =>
      obtain ⟨p', e'⟩ := e'
      refine scan_bad _ p' e' hsy sy hl2 (by omega) ?_
      intro w3 hb3 hl3
      repeat (any_goals (first
      | (with_reducible refine pureM_in ?_)
      | (with_reducible refine pureQ_in ?_) | (with_reducible refine gdQ_conv (fun _ => ?_)) | (with_reducible refine pickQT ?_) | (with_reducible refine pickQF ?_) | (with_reducible refine pickQ_pos (by first | assumption | omega) ?_) | (with_reducible refine pickQ_neg (by first | assumption | omega) ?_) | (with_reducible refine pickQn_pos (by first | assumption | omega) ?_) | (with_reducible refine pickQn_neg (by first | assumption | omega) ?_) | ((with_reducible refine oQ_one ?_ ?_); exact ⟨_, rfl⟩) | (with_reducible refine And.intro (Eq.refl (α := World) _) ?_) | (with_reducible refine forall_one ?_)
      | (with_reducible refine gdtT ?_) | (with_reducible refine gdtF ?_) | (with_reducible refine gdfF ?_) | (with_reducible refine gdfT ?_) | (with_reducible refine gdu ?_ _)
      | (with_reducible refine gdt_pos (by first | assumption | omega) ?_) | (with_reducible refine gdt_neg (by first | assumption | omega) ?_) | (with_reducible refine gdt_split (fun hg => ?_) (fun hg => ?_))
      | (with_reducible refine gdf_pos (by first | assumption | omega) ?_) | (with_reducible refine gdf_neg (by first | assumption | omega) ?_) | (with_reducible refine gdf_split (fun hg => ?_) (fun hg => ?_))
      | (with_reducible refine gdtn_pos (by first | assumption | omega) ?_) | (with_reducible refine gdtn_neg (by first | assumption | omega) ?_) | (with_reducible refine gdtn_split (fun hg => ?_) (fun hg => ?_))
      | (with_reducible refine gdfn_pos (by first | assumption | omega) ?_) | (with_reducible refine gdfn_neg (by first | assumption | omega) ?_) | (with_reducible refine gdfn_split (fun hg => ?_) (fun hg => ?_))
      | (with_reducible refine gdtbn_pos (by assumption) ?_) | (with_reducible refine gdtbn_neg (by assumption) ?_) | (with_reducible refine gdfbn_pos (by assumption) ?_) | (with_reducible refine gdfbn_neg (by assumption) ?_)
      | (with_reducible refine gdtb_pos (by assumption) ?_) | (with_reducible refine gdtb_neg (by assumption) ?_) | (with_reducible refine gdtb_split (fun hg => ?_) (fun hg => ?_))
      | (with_reducible refine gdfb_pos (by assumption) ?_) | (with_reducible refine gdfb_neg (by assumption) ?_) | (with_reducible refine gdfb_split (fun hg => ?_) (fun hg => ?_))
      | (with_reducible refine pickT ?_) | (with_reducible refine pickF ?_)
      | (with_reducible refine pick_pos (by first | assumption | omega) ?_) | (with_reducible refine pick_neg (by first | assumption | omega) ?_)
      | (with_reducible refine pickn_pos (by first | assumption | omega) ?_) | (with_reducible refine pickn_neg (by first | assumption | omega) ?_)
      | (with_reducible refine pickbn_pos (by assumption) ?_) | (with_reducible refine pickbn_neg (by assumption) ?_)
      | (with_reducible refine pickb_pos (by assumption) ?_) | (with_reducible refine pickb_neg (by assumption) ?_)
      | (with_reducible refine condT ?_) | (with_reducible refine condF ?_)
      | (with_reducible refine cond_pos (by first | assumption | omega) ?_) | (with_reducible refine cond_neg (by first | assumption | omega) ?_) | (with_reducible refine condM_dec (fun hg => ?_) (fun hg => ?_))
      | (with_reducible refine condn_pos (by first | assumption | omega) ?_) | (with_reducible refine condn_neg (by first | assumption | omega) ?_) | (with_reducible refine condM_ndec (fun hg => ?_) (fun hg => ?_))
      | (with_reducible refine condbn_pos (by assumption) ?_) | (with_reducible refine condbn_neg (by assumption) ?_) | (with_reducible refine condbn_split (fun hg => ?_) (fun hg => ?_))
      | (with_reducible refine condb_pos (by assumption) ?_) | (with_reducible refine condb_neg (by assumption) ?_) | (with_reducible refine condM_b (fun hg => ?_) (fun hg => ?_))
      | ((with_reducible refine oM_gen (fun Kv hK => ?_)); simp [go_sem]; (try simp (disch := omega) only [wrapI64, wrapU8, wrapU32, wrapU64]); (first | refine hK _ _ ?_ | refine And.intro (by omega) (hK _ _ ?_)); clear hK; clear Kv)))
      rw [eqc]
      refine rest w3 hb3 hl3 _ ?_
      intro w4 hb4 hl4
      repeat (any_goals (first
      | (with_reducible refine pureM_in ?_)
      | (with_reducible refine pureQ_in ?_) | (with_reducible refine gdQ_conv (fun _ => ?_)) | (with_reducible refine pickQT ?_) | (with_reducible refine pickQF ?_) | (with_reducible refine pickQ_pos (by first | assumption | omega) ?_) | (with_reducible refine pickQ_neg (by first | assumption | omega) ?_) | (with_reducible refine pickQn_pos (by first | assumption | omega) ?_) | (with_reducible refine pickQn_neg (by first | assumption | omega) ?_) | ((with_reducible refine oQ_one ?_ ?_); exact ⟨_, rfl⟩) | (with_reducible refine And.intro (Eq.refl (α := World) _) ?_) | (with_reducible refine forall_one ?_)
      | (with_reducible refine gdtT ?_) | (with_reducible refine gdtF ?_) | (with_reducible refine gdfF ?_) | (with_reducible refine gdfT ?_) | (with_reducible refine gdu ?_ _)
      | (with_reducible refine gdt_pos (by first | assumption | omega) ?_) | (with_reducible refine gdt_neg (by first | assumption | omega) ?_) | (with_reducible refine gdt_split (fun hg => ?_) (fun hg => ?_))
      | (with_reducible refine gdf_pos (by first | assumption | omega) ?_) | (with_reducible refine gdf_neg (by first | assumption | omega) ?_) | (with_reducible refine gdf_split (fun hg => ?_) (fun hg => ?_))
      | (with_reducible refine gdtn_pos (by first | assumption | omega) ?_) | (with_reducible refine gdtn_neg (by first | assumption | omega) ?_) | (with_reducible refine gdtn_split (fun hg => ?_) (fun hg => ?_))
      | (with_reducible refine gdfn_pos (by first | assumption | omega) ?_) | (with_reducible refine gdfn_neg (by first | assumption | omega) ?_) | (with_reducible refine gdfn_split (fun hg => ?_) (fun hg => ?_))
      | (with_reducible refine gdtbn_pos (by assumption) ?_) | (with_reducible refine gdtbn_neg (by assumption) ?_) | (with_reducible refine gdfbn_pos (by assumption) ?_) | (with_reducible refine gdfbn_neg (by assumption) ?_)
      | (with_reducible refine gdtb_pos (by assumption) ?_) | (with_reducible refine gdtb_neg (by assumption) ?_) | (with_reducible refine gdtb_split (fun hg => ?_) (fun hg => ?_))
      | (with_reducible refine gdfb_pos (by assumption) ?_) | (with_reducible refine gdfb_neg (by assumption) ?_) | (with_reducible refine gdfb_split (fun hg => ?_) (fun hg => ?_))
      | (with_reducible refine pickT ?_) | (with_reducible refine pickF ?_)
      | (with_reducible refine pick_pos (by first | assumption | omega) ?_) | (with_reducible refine pick_neg (by first | assumption | omega) ?_)
      | (with_reducible refine pickn_pos (by first | assumption | omega) ?_) | (with_reducible refine pickn_neg (by first | assumption | omega) ?_)
      | (with_reducible refine pickbn_pos (by assumption) ?_) | (with_reducible refine pickbn_neg (by assumption) ?_)
      | (with_reducible refine pickb_pos (by assumption) ?_) | (with_reducible refine pickb_neg (by assumption) ?_)
      | (with_reducible refine condT ?_) | (with_reducible refine condF ?_)
      | (with_reducible refine cond_pos (by first | assumption | omega) ?_) | (with_reducible refine cond_neg (by first | assumption | omega) ?_) | (with_reducible refine condM_dec (fun hg => ?_) (fun hg => ?_))
      | (with_reducible refine condn_pos (by first | assumption | omega) ?_) | (with_reducible refine condn_neg (by first | assumption | omega) ?_) | (with_reducible refine condM_ndec (fun hg => ?_) (fun hg => ?_))
      | (with_reducible refine condbn_pos (by assumption) ?_) | (with_reducible refine condbn_neg (by assumption) ?_) | (with_reducible refine condbn_split (fun hg => ?_) (fun hg => ?_))
      | (with_reducible refine condb_pos (by assumption) ?_) | (with_reducible refine condb_neg (by assumption) ?_) | (with_reducible refine condM_b (fun hg => ?_) (fun hg => ?_))
      | ((with_reducible refine oM_gen (fun Kv hK => ?_)); simp [go_sem]; (try simp (disch := omega) only [wrapI64, wrapU8, wrapU32, wrapU64]); (first | refine hK _ _ ?_ | refine And.intro (by omega) (hK _ _ ?_)); clear hK; clear Kv)))
      exact h w4 hb4
    | ok us =>
      refine scan_good _ us hsy sy hl2 (by omega) ?_
      intro w3 r3 hb3 hl3 _
      repeat (any_goals (first
      | (with_reducible refine pureM_in ?_)
      | (with_reducible refine pureQ_in ?_) | (with_reducible refine gdQ_conv (fun _ => ?_)) | (with_reducible refine pickQT ?_) | (with_reducible refine pickQF ?_) | (with_reducible refine pickQ_pos (by first | assumption | omega) ?_) | (with_reducible refine pickQ_neg (by first | assumption | omega) ?_) | (with_reducible refine pickQn_pos (by first | assumption | omega) ?_) | (with_reducible refine pickQn_neg (by first | assumption | omega) ?_) | ((with_reducible refine oQ_one ?_ ?_); exact ⟨_, rfl⟩) | (with_reducible refine And.intro (Eq.refl (α := World) _) ?_) | (with_reducible refine forall_one ?_)
      | (with_reducible refine gdtT ?_) | (with_reducible refine gdtF ?_) | (with_reducible refine gdfF ?_) | (with_reducible refine gdfT ?_) | (with_reducible refine gdu ?_ _)
      | (with_reducible refine gdt_pos (by first | assumption | omega) ?_) | (with_reducible refine gdt_neg (by first | assumption | omega) ?_) | (with_reducible refine gdt_split (fun hg => ?_) (fun hg => ?_))
      | (with_reducible refine gdf_pos (by first | assumption | omega) ?_) | (with_reducible refine gdf_neg (by first | assumption | omega) ?_) | (with_reducible refine gdf_split (fun hg => ?_) (fun hg => ?_))
      | (with_reducible refine gdtn_pos (by first | assumption | omega) ?_) | (with_reducible refine gdtn_neg (by first | assumption | omega) ?_) | (with_reducible refine gdtn_split (fun hg => ?_) (fun hg => ?_))
      | (with_reducible refine gdfn_pos (by first | assumption | omega) ?_) | (with_reducible refine gdfn_neg (by first | assumption | omega) ?_) | (with_reducible refine gdfn_split (fun hg => ?_) (fun hg => ?_))
      | (with_reducible refine gdtbn_pos (by assumption) ?_) | (with_reducible refine gdtbn_neg (by assumption) ?_) | (with_reducible refine gdfbn_pos (by assumption) ?_) | (with_reducible refine gdfbn_neg (by assumption) ?_)
      | (with_reducible refine gdtb_pos (by assumption) ?_) | (with_reducible refine gdtb_neg (by assumption) ?_) | (with_reducible refine gdtb_split (fun hg => ?_) (fun hg => ?_))
      | (with_reducible refine gdfb_pos (by assumption) ?_) | (with_reducible refine gdfb_neg (by assumption) ?_) | (with_reducible refine gdfb_split (fun hg => ?_) (fun hg => ?_))
      | (with_reducible refine pickT ?_) | (with_reducible refine pickF ?_)
      | (with_reducible refine pick_pos (by first | assumption | omega) ?_) | (with_reducible refine pick_neg (by first | assumption | omega) ?_)
      | (with_reducible refine pickn_pos (by first | assumption | omega) ?_) | (with_reducible refine pickn_neg (by first | assumption | omega) ?_)
      | (with_reducible refine pickbn_pos (by assumption) ?_) | (with_reducible refine pickbn_neg (by assumption) ?_)
      | (with_reducible refine pickb_pos (by assumption) ?_) | (with_reducible refine pickb_neg (by assumption) ?_)
      | (with_reducible refine condT ?_) | (with_reducible refine condF ?_)
      | (with_reducible refine cond_pos (by first | assumption | omega) ?_) | (with_reducible refine cond_neg (by first | assumption | omega) ?_) | (with_reducible refine condM_dec (fun hg => ?_) (fun hg => ?_))
      | (with_reducible refine condn_pos (by first | assumption | omega) ?_) | (with_reducible refine condn_neg (by first | assumption | omega) ?_) | (with_reducible refine condM_ndec (fun hg => ?_) (fun hg => ?_))
      | (with_reducible refine condbn_pos (by assumption) ?_) | (with_reducible refine condbn_neg (by assumption) ?_) | (with_reducible refine condbn_split (fun hg => ?_) (fun hg => ?_))
      | (with_reducible refine condb_pos (by assumption) ?_) | (with_reducible refine condb_neg (by assumption) ?_) | (with_reducible refine condM_b (fun hg => ?_) (fun hg => ?_))
      | ((with_reducible refine oM_gen (fun Kv hK => ?_)); simp [go_sem]; (try simp (disch := omega) only [wrapI64, wrapU8, wrapU32, wrapU64]); (first | refine hK _ _ ?_ | refine And.intro (by omega) (hK _ _ ?_)); clear hK; clear Kv)))
      rw [eqc]
      refine rest w3 hb3 hl3 _ ?_
      intro w4 hb4 hl4
      repeat (any_goals (first
      | (with_reducible refine pureM_in ?_)
      | (with_reducible refine pureQ_in ?_) | (with_reducible refine gdQ_conv (fun _ => ?_)) | (with_reducible refine pickQT ?_) | (with_reducible refine pickQF ?_) | (with_reducible refine pickQ_pos (by first | assumption | omega) ?_) | (with_reducible refine pickQ_neg (by first | assumption | omega) ?_) | (with_reducible refine pickQn_pos (by first | assumption | omega) ?_) | (with_reducible refine pickQn_neg (by first | assumption | omega) ?_) | ((with_reducible refine oQ_one ?_ ?_); exact ⟨_, rfl⟩) | (with_reducible refine And.intro (Eq.refl (α := World) _) ?_) | (with_reducible refine forall_one ?_)
      | (with_reducible refine gdtT ?_) | (with_reducible refine gdtF ?_) | (with_reducible refine gdfF ?_) | (with_reducible refine gdfT ?_) | (with_reducible refine gdu ?_ _)
      | (with_reducible refine gdt_pos (by first | assumption | omega) ?_) | (with_reducible refine gdt_neg (by first | assumption | omega) ?_) | (with_reducible refine gdt_split (fun hg => ?_) (fun hg => ?_))
      | (with_reducible refine gdf_pos (by first | assumption | omega) ?_) | (with_reducible refine gdf_neg (by first | assumption | omega) ?_) | (with_reducible refine gdf_split (fun hg => ?_) (fun hg => ?_))
      | (with_reducible refine gdtn_pos (by first | assumption | omega) ?_) | (with_reducible refine gdtn_neg (by first | assumption | omega) ?_) | (with_reducible refine gdtn_split (fun hg => ?_) (fun hg => ?_))
      | (with_reducible refine gdfn_pos (by first | assumption | omega) ?_) | (with_reducible refine gdfn_neg (by first | assumption | omega) ?_) | (with_reducible refine gdfn_split (fun hg => ?_) (fun hg => ?_))
      | (with_reducible refine gdtbn_pos (by assumption) ?_) | (with_reducible refine gdtbn_neg (by assumption) ?_) | (with_reducible refine gdfbn_pos (by assumption) ?_) | (with_reducible refine gdfbn_neg (by assumption) ?_)
      | (with_reducible refine gdtb_pos (by assumption) ?_) | (with_reducible refine gdtb_neg (by assumption) ?_) | (with_reducible refine gdtb_split (fun hg => ?_) (fun hg => ?_))
      | (with_reducible refine gdfb_pos (by assumption) ?_) | (with_reducible refine gdfb_neg (by assumption) ?_) | (with_reducible refine gdfb_split (fun hg => ?_) (fun hg => ?_))
      | (with_reducible refine pickT ?_) | (with_reducible refine pickF ?_)
      | (with_reducible refine pick_pos (by first | assumption | omega) ?_) | (with_reducible refine pick_neg (by first | assumption | omega) ?_)
      | (with_reducible refine pickn_pos (by first | assumption | omega) ?_) | (with_reducible refine pickn_neg (by first | assumption | omega) ?_)
      | (with_reducible refine pickbn_pos (by assumption) ?_) | (with_reducible refine pickbn_neg (by assumption) ?_)
      | (with_reducible refine pickb_pos (by assumption) ?_) | (with_reducible refine pickb_neg (by assumption) ?_)
      | (with_reducible refine condT ?_) | (with_reducible refine condF ?_)
      | (with_reducible refine cond_pos (by first | assumption | omega) ?_) | (with_reducible refine cond_neg (by first | assumption | omega) ?_) | (with_reducible refine condM_dec (fun hg => ?_) (fun hg => ?_))
      | (with_reducible refine condn_pos (by first | assumption | omega) ?_) | (with_reducible refine condn_neg (by first | assumption | omega) ?_) | (with_reducible refine condM_ndec (fun hg => ?_) (fun hg => ?_))
      | (with_reducible refine condbn_pos (by assumption) ?_) | (with_reducible refine condbn_neg (by assumption) ?_) | (with_reducible refine condbn_split (fun hg => ?_) (fun hg => ?_))
      | (with_reducible refine condb_pos (by assumption) ?_) | (with_reducible refine condb_neg (by assumption) ?_) | (with_reducible refine condM_b (fun hg => ?_) (fun hg => ?_))
      | ((with_reducible refine oM_gen (fun Kv hK => ?_)); simp [go_sem]; (try simp (disch := omega) only [wrapI64, wrapU8, wrapU32, wrapU64]); (first | refine hK _ _ ?_ | refine And.intro (by omega) (hK _ _ ?_)); clear hK; clear Kv)))
      exact h w4 hb4
  | ok ts =>
    rw [hsx] at hj
    refine scan_good _ ts hsx sx hl1 (by omega) ?_
    intro w2 r2 hb2 hl2 ht2
    have z2 := hb2.size
    repeat (any_goals (first
    | (with_reducible refine pureM_in ?_)
    | (with_reducible refine pureQ_in ?_) | (with_reducible refine gdQ_conv (fun _ => ?_)) | (with_reducible refine pickQT ?_) | (with_reducible refine pickQF ?_) | (with_reducible refine pickQ_pos (by first | assumption | omega) ?_) | (with_reducible refine pickQ_neg (by first | assumption | omega) ?_) | (with_reducible refine pickQn_pos (by first | assumption | omega) ?_) | (with_reducible refine pickQn_neg (by first | assumption | omega) ?_) | ((with_reducible refine oQ_one ?_ ?_); exact ⟨_, rfl⟩) | (with_reducible refine And.intro (Eq.refl (α := World) _) ?_) | (with_reducible refine forall_one ?_)
    | (with_reducible refine gdtT ?_) | (with_reducible refine gdtF ?_) | (with_reducible refine gdfF ?_) | (with_reducible refine gdfT ?_) | (with_reducible refine gdu ?_ _)
    | (with_reducible refine gdt_pos (by first | assumption | omega) ?_) | (with_reducible refine gdt_neg (by first | assumption | omega) ?_) | (with_reducible refine gdt_split (fun hg => ?_) (fun hg => ?_))
    | (with_reducible refine gdf_pos (by first | assumption | omega) ?_) | (with_reducible refine gdf_neg (by first | assumption | omega) ?_) | (with_reducible refine gdf_split (fun hg => ?_) (fun hg => ?_))
    | (with_reducible refine gdtn_pos (by first | assumption | omega) ?_) | (with_reducible refine gdtn_neg (by first | assumption | omega) ?_) | (with_reducible refine gdtn_split (fun hg => ?_) (fun hg => ?_))
    | (with_reducible refine gdfn_pos (by first | assumption | omega) ?_) | (with_reducible refine gdfn_neg (by first | assumption | omega) ?_) | (with_reducible refine gdfn_split (fun hg => ?_) (fun hg => ?_))
    | (with_reducible refine gdtbn_pos (by assumption) ?_) | (with_reducible refine gdtbn_neg (by assumption) ?_) | (with_reducible refine gdfbn_pos (by assumption) ?_) | (with_reducible refine gdfbn_neg (by assumption) ?_)
    | (with_reducible refine gdtb_pos (by assumption) ?_) | (with_reducible refine gdtb_neg (by assumption) ?_) | (with_reducible refine gdtb_split (fun hg => ?_) (fun hg => ?_))
    | (with_reducible refine gdfb_pos (by assumption) ?_) | (with_reducible refine gdfb_neg (by assumption) ?_) | (with_reducible refine gdfb_split (fun hg => ?_) (fun hg => ?_))
    | (with_reducible refine pickT ?_) | (with_reducible refine pickF ?_)
    | (with_reducible refine pick_pos (by first | assumption | omega) ?_) | (with_reducible refine pick_neg (by first | assumption | omega) ?_)
    | (with_reducible refine pickn_pos (by first | assumption | omega) ?_) | (with_reducible refine pickn_neg (by first | assumption | omega) ?_)
    | (with_reducible refine pickbn_pos (by assumption) ?_) | (with_reducible refine pickbn_neg (by assumption) ?_)
    | (with_reducible refine pickb_pos (by assumption) ?_) | (with_reducible refine pickb_neg (by assumption) ?_)
    | (with_reducible refine condT ?_) | (with_reducible refine condF ?_)
    | (with_reducible refine cond_pos (by first | assumption | omega) ?_) | (with_reducible refine cond_neg (by first | assumption | omega) ?_) | (with_reducible refine condM_dec (fun hg => ?_) (fun hg => ?_))
    | (with_reducible refine condn_pos (by first | assumption | omega) ?_) | (with_reducible refine condn_neg (by first | assumption | omega) ?_) | (with_reducible refine condM_ndec (fun hg => ?_) (fun hg => ?_))
    | (with_reducible refine condbn_pos (by assumption) ?_) | (with_reducible refine condbn_neg (by assumption) ?_) | (with_reducible refine condbn_split (fun hg => ?_) (fun hg => ?_))
    | (with_reducible refine condb_pos (by assumption) ?_) | (with_reducible refine condb_neg (by assumption) ?_) | (with_reducible refine condM_b (fun hg => ?_) (fun hg => ?_))
    | ((with_reducible refine oM_gen (fun Kv hK => ?_)); simp [go_sem]; (try simp (disch := omega) only [wrapI64, wrapU8, wrapU32, wrapU64]); (first | refine hK _ _ ?_ | refine And.intro (by omega) (hK _ _ ?_)); clear hK; clear Kv)))
    cases hsy : scan y with
    | error e' =>
      obtain ⟨p', e'⟩ := e'
      have hne := scan_err _ _ _ hsy
      rw [hsy] at hj
      refine scan_bad _ p' e' hsy sy hl2 (by omega) ?_
      intro w3 hb3 hl3
      have z3 := hb3.size
      repeat (any_goals (first
      | (with_reducible refine pureM_in ?_)
      | (with_reducible refine pureQ_in ?_) | (with_reducible refine gdQ_conv (fun _ => ?_)) | (with_reducible refine pickQT ?_) | (with_reducible refine pickQF ?_) | (with_reducible refine pickQ_pos (by first | assumption | omega) ?_) | (with_reducible refine pickQ_neg (by first | assumption | omega) ?_) | (with_reducible refine pickQn_pos (by first | assumption | omega) ?_) | (with_reducible refine pickQn_neg (by first | assumption | omega) ?_) | ((with_reducible refine oQ_one ?_ ?_); exact ⟨_, rfl⟩) | (with_reducible refine And.intro (Eq.refl (α := World) _) ?_) | (with_reducible refine forall_one ?_)
      | (with_reducible refine gdtT ?_) | (with_reducible refine gdtF ?_) | (with_reducible refine gdfF ?_) | (with_reducible refine gdfT ?_) | (with_reducible refine gdu ?_ _)
      | (with_reducible refine gdt_pos (by first | assumption | omega) ?_) | (with_reducible refine gdt_neg (by first | assumption | omega) ?_) | (with_reducible refine gdt_split (fun hg => ?_) (fun hg => ?_))
      | (with_reducible refine gdf_pos (by first | assumption | omega) ?_) | (with_reducible refine gdf_neg (by first | assumption | omega) ?_) | (with_reducible refine gdf_split (fun hg => ?_) (fun hg => ?_))
      | (with_reducible refine gdtn_pos (by first | assumption | omega) ?_) | (with_reducible refine gdtn_neg (by first | assumption | omega) ?_) | (with_reducible refine gdtn_split (fun hg => ?_) (fun hg => ?_))
      | (with_reducible refine gdfn_pos (by first | assumption | omega) ?_) | (with_reducible refine gdfn_neg (by first | assumption | omega) ?_) | (with_reducible refine gdfn_split (fun hg => ?_) (fun hg => ?_))
      | (with_reducible refine gdtbn_pos (by assumption) ?_) | (with_reducible refine gdtbn_neg (by assumption) ?_) | (with_reducible refine gdfbn_pos (by assumption) ?_) | (with_reducible refine gdfbn_neg (by assumption) ?_)
      | (with_reducible refine gdtb_pos (by assumption) ?_) | (with_reducible refine gdtb_neg (by assumption) ?_) | (with_reducible refine gdtb_split (fun hg => ?_) (fun hg => ?_))
      | (with_reducible refine gdfb_pos (by assumption) ?_) | (with_reducible refine gdfb_neg (by assumption) ?_) | (with_reducible refine gdfb_split (fun hg => ?_) (fun hg => ?_))
      | (with_reducible refine pickT ?_) | (with_reducible refine pickF ?_)
      | (with_reducible refine pick_pos (by first | assumption | omega) ?_) | (with_reducible refine pick_neg (by first | assumption | omega) ?_)
      | (with_reducible refine pickn_pos (by first | assumption | omega) ?_) | (with_reducible refine pickn_neg (by first | assumption | omega) ?_)
      | (with_reducible refine pickbn_pos (by assumption) ?_) | (with_reducible refine pickbn_neg (by assumption) ?_)
      | (with_reducible refine pickb_pos (by assumption) ?_) | (with_reducible refine pickb_neg (by assumption) ?_)
      | (with_reducible refine condT ?_) | (with_reducible refine condF ?_)
      | (with_reducible refine cond_pos (by first | assumption | omega) ?_) | (with_reducible refine cond_neg (by first | assumption | omega) ?_) | (with_reducible refine condM_dec (fun hg => ?_) (fun hg => ?_))
      | (with_reducible refine condn_pos (by first | assumption | omega) ?_) | (with_reducible refine condn_neg (by first | assumption | omega) ?_) | (with_reducible refine condM_ndec (fun hg => ?_) (fun hg => ?_))
      | (with_reducible refine condbn_pos (by assumption) ?_) | (with_reducible refine condbn_neg (by assumption) ?_) | (with_reducible refine condbn_split (fun hg => ?_) (fun hg => ?_))
      | (with_reducible refine condb_pos (by assumption) ?_) | (with_reducible refine condb_neg (by assumption) ?_) | (with_reducible refine condM_b (fun hg => ?_) (fun hg => ?_))
      | ((with_reducible refine oM_gen (fun Kv hK => ?_)); simp [go_sem]; (try simp (disch := omega) only [wrapI64, wrapU8, wrapU32, wrapU64]); (first | refine hK _ _ ?_ | refine And.intro (by omega) (hK _ _ ?_)); clear hK; clear Kv)))
      rw [eqc]
      have hp := (scan_split y (by omega) _ _ hsy).1
      refine scan_bad _ (p' + x.length + 1) e' hj sxy hl3 (by omega) ?_
      intro w4 hb4 hl4
      repeat (any_goals (first
      | (with_reducible refine pureM_in ?_)
      | (with_reducible refine pureQ_in ?_) | (with_reducible refine gdQ_conv (fun _ => ?_)) | (with_reducible refine pickQT ?_) | (with_reducible refine pickQF ?_) | (with_reducible refine pickQ_pos (by first | assumption | omega) ?_) | (with_reducible refine pickQ_neg (by first | assumption | omega) ?_) | (with_reducible refine pickQn_pos (by first | assumption | omega) ?_) | (with_reducible refine pickQn_neg (by first | assumption | omega) ?_) | ((with_reducible refine oQ_one ?_ ?_); exact ⟨_, rfl⟩) | (with_reducible refine And.intro (Eq.refl (α := World) _) ?_) | (with_reducible refine forall_one ?_)
      | (with_reducible refine gdtT ?_) | (with_reducible refine gdtF ?_) | (with_reducible refine gdfF ?_) | (with_reducible refine gdfT ?_) | (with_reducible refine gdu ?_ _)
      | (with_reducible refine gdt_pos (by first | assumption | omega) ?_) | (with_reducible refine gdt_neg (by first | assumption | omega) ?_) | (with_reducible refine gdt_split (fun hg => ?_) (fun hg => ?_))
      | (with_reducible refine gdf_pos (by first | assumption | omega) ?_) | (with_reducible refine gdf_neg (by first | assumption | omega) ?_) | (with_reducible refine gdf_split (fun hg => ?_) (fun hg => ?_))
      | (with_reducible refine gdtn_pos (by first | assumption | omega) ?_) | (with_reducible refine gdtn_neg (by first | assumption | omega) ?_) | (with_reducible refine gdtn_split (fun hg => ?_) (fun hg => ?_))
      | (with_reducible refine gdfn_pos (by first | assumption | omega) ?_) | (with_reducible refine gdfn_neg (by first | assumption | omega) ?_) | (with_reducible refine gdfn_split (fun hg => ?_) (fun hg => ?_))
      | (with_reducible refine gdtbn_pos (by assumption) ?_) | (with_reducible refine gdtbn_neg (by assumption) ?_) | (with_reducible refine gdfbn_pos (by assumption) ?_) | (with_reducible refine gdfbn_neg (by assumption) ?_)
      | (with_reducible refine gdtb_pos (by assumption) ?_) | (with_reducible refine gdtb_neg (by assumption) ?_) | (with_reducible refine gdtb_split (fun hg => ?_) (fun hg => ?_))
      | (with_reducible refine gdfb_pos (by assumption) ?_) | (with_reducible refine gdfb_neg (by assumption) ?_) | (with_reducible refine gdfb_split (fun hg => ?_) (fun hg => ?_))
      | (with_reducible refine pickT ?_) | (with_reducible refine pickF ?_)
      | (with_reducible refine pick_pos (by first | assumption | omega) ?_) | (with_reducible refine pick_neg (by first | assumption | omega) ?_)
      | (with_reducible refine pickn_pos (by first | assumption | omega) ?_) | (with_reducible refine pickn_neg (by first | assumption | omega) ?_)
      | (with_reducible refine pickbn_pos (by assumption) ?_) | (with_reducible refine pickbn_neg (by assumption) ?_)
      | (with_reducible refine pickb_pos (by assumption) ?_) | (with_reducible refine pickb_neg (by assumption) ?_)
      | (with_reducible refine condT ?_) | (with_reducible refine condF ?_)
      | (with_reducible refine cond_pos (by first | assumption | omega) ?_) | (with_reducible refine cond_neg (by first | assumption | omega) ?_) | (with_reducible refine condM_dec (fun hg => ?_) (fun hg => ?_))
      | (with_reducible refine condn_pos (by first | assumption | omega) ?_) | (with_reducible refine condn_neg (by first | assumption | omega) ?_) | (with_reducible refine condM_ndec (fun hg => ?_) (fun hg => ?_))
      | (with_reducible refine condbn_pos (by assumption) ?_) | (with_reducible refine condbn_neg (by assumption) ?_) | (with_reducible refine condbn_split (fun hg => ?_) (fun hg => ?_))
      | (with_reducible refine condb_pos (by assumption) ?_) | (with_reducible refine condb_neg (by assumption) ?_) | (with_reducible refine condM_b (fun hg => ?_) (fun hg => ?_))
      | ((with_reducible refine oM_gen (fun Kv hK => ?_)); simp [go_sem]; (try simp (disch := omega) only [wrapI64, wrapU8, wrapU32, wrapU64]); (first | refine hK _ _ ?_ | refine And.intro (by omega) (hK _ _ ?_)); clear hK; clear Kv)))
      exact h w4 (((hb1.trans (hb2.mono z1)).trans (hb3.mono (by omega))).trans (hb4.mono (by omega)))
    | ok us =>
      rw [hsy] at hj
      have hnt := (scan_goods _ _ hsx).2.2
      have hnu := (scan_goods _ _ hsy).2.2
      refine scan_good _ us hsy sy hl2 (by omega) ?_
      intro w3 r3 hb3 hl3 ht3
      have z3 := hb3.size
      repeat (any_goals (first
      | (with_reducible refine pureM_in ?_)
      | (with_reducible refine pureQ_in ?_) | (with_reducible refine gdQ_conv (fun _ => ?_)) | (with_reducible refine pickQT ?_) | (with_reducible refine pickQF ?_) | (with_reducible refine pickQ_pos (by first | assumption | omega) ?_) | (with_reducible refine pickQ_neg (by first | assumption | omega) ?_) | (with_reducible refine pickQn_pos (by first | assumption | omega) ?_) | (with_reducible refine pickQn_neg (by first | assumption | omega) ?_) | ((with_reducible refine oQ_one ?_ ?_); exact ⟨_, rfl⟩) | (with_reducible refine And.intro (Eq.refl (α := World) _) ?_) | (with_reducible refine forall_one ?_)
      | (with_reducible refine gdtT ?_) | (with_reducible refine gdtF ?_) | (with_reducible refine gdfF ?_) | (with_reducible refine gdfT ?_) | (with_reducible refine gdu ?_ _)
      | (with_reducible refine gdt_pos (by first | assumption | omega) ?_) | (with_reducible refine gdt_neg (by first | assumption | omega) ?_) | (with_reducible refine gdt_split (fun hg => ?_) (fun hg => ?_))
      | (with_reducible refine gdf_pos (by first | assumption | omega) ?_) | (with_reducible refine gdf_neg (by first | assumption | omega) ?_) | (with_reducible refine gdf_split (fun hg => ?_) (fun hg => ?_))
      | (with_reducible refine gdtn_pos (by first | assumption | omega) ?_) | (with_reducible refine gdtn_neg (by first | assumption | omega) ?_) | (with_reducible refine gdtn_split (fun hg => ?_) (fun hg => ?_))
      | (with_reducible refine gdfn_pos (by first | assumption | omega) ?_) | (with_reducible refine gdfn_neg (by first | assumption | omega) ?_) | (with_reducible refine gdfn_split (fun hg => ?_) (fun hg => ?_))
      | (with_reducible refine gdtbn_pos (by assumption) ?_) | (with_reducible refine gdtbn_neg (by assumption) ?_) | (with_reducible refine gdfbn_pos (by assumption) ?_) | (with_reducible refine gdfbn_neg (by assumption) ?_)
      | (with_reducible refine gdtb_pos (by assumption) ?_) | (with_reducible refine gdtb_neg (by assumption) ?_) | (with_reducible refine gdtb_split (fun hg => ?_) (fun hg => ?_))
      | (with_reducible refine gdfb_pos (by assumption) ?_) | (with_reducible refine gdfb_neg (by assumption) ?_) | (with_reducible refine gdfb_split (fun hg => ?_) (fun hg => ?_))
      | (with_reducible refine pickT ?_) | (with_reducible refine pickF ?_)
      | (with_reducible refine pick_pos (by first | assumption | omega) ?_) | (with_reducible refine pick_neg (by first | assumption | omega) ?_)
      | (with_reducible refine pickn_pos (by first | assumption | omega) ?_) | (with_reducible refine pickn_neg (by first | assumption | omega) ?_)
      | (with_reducible refine pickbn_pos (by assumption) ?_) | (with_reducible refine pickbn_neg (by assumption) ?_)
      | (with_reducible refine pickb_pos (by assumption) ?_) | (with_reducible refine pickb_neg (by assumption) ?_)
      | (with_reducible refine condT ?_) | (with_reducible refine condF ?_)
      | (with_reducible refine cond_pos (by first | assumption | omega) ?_) | (with_reducible refine cond_neg (by first | assumption | omega) ?_) | (with_reducible refine condM_dec (fun hg => ?_) (fun hg => ?_))
      | (with_reducible refine condn_pos (by first | assumption | omega) ?_) | (with_reducible refine condn_neg (by first | assumption | omega) ?_) | (with_reducible refine condM_ndec (fun hg => ?_) (fun hg => ?_))
      | (with_reducible refine condbn_pos (by assumption) ?_) | (with_reducible refine condbn_neg (by assumption) ?_) | (with_reducible refine condbn_split (fun hg => ?_) (fun hg => ?_))
      | (with_reducible refine condb_pos (by assumption) ?_) | (with_reducible refine condb_neg (by assumption) ?_) | (with_reducible refine condM_b (fun hg => ?_) (fun hg => ?_))
      | ((with_reducible refine oM_gen (fun Kv hK => ?_)); simp [go_sem]; (try simp (disch := omega) only [wrapI64, wrapU8, wrapU32, wrapU64]); (first | refine hK _ _ ?_ | refine And.intro (by omega) (hK _ _ ?_)); clear hK; clear Kv)))
      rw [eqc]
      refine scan_good _ _ hj sxy hl3 (by omega) ?_
      intro w4 r4 hb4 hl4 ht4
      have z4 := hb4.size
      have hb14 : Below w.heap.size w w4 := ((hb1.trans (hb2.mono z1)).trans (hb3.mono (by omega))).trans (hb4.mono (by omega))
      obtain ⟨v, hv⟩ : ∃ v, v = ts ++ us.map (fun t => ({ t with pos := t.pos + (x.length + 1) } : Tok)) := ⟨_, rfl⟩
      rw [← hv] at ht4
      have hvl : v.length = ts.length + us.length := by rw [hv]; simp
      have ht2' := ht2.below (hb3.trans (hb4.mono z3))
      have ht3' := ht3.below hb4
      clear ht2 ht3
      obtain ⟨a2, c2, rfl, ht2⟩ := ht2'
      obtain ⟨a3, c3, rfl, ht3⟩ := ht3'
      obtain ⟨a4, c4, rfl, ht4⟩ := ht4
      repeat (any_goals (first
      | (with_reducible refine pureM_in ?_)
      | (with_reducible refine pureQ_in ?_) | (with_reducible refine gdQ_conv (fun _ => ?_)) | (with_reducible refine pickQT ?_) | (with_reducible refine pickQF ?_) | (with_reducible refine pickQ_pos (by first | assumption | omega) ?_) | (with_reducible refine pickQ_neg (by first | assumption | omega) ?_) | (with_reducible refine pickQn_pos (by first | assumption | omega) ?_) | (with_reducible refine pickQn_neg (by first | assumption | omega) ?_) | ((with_reducible refine oQ_one ?_ ?_); exact ⟨_, rfl⟩) | (with_reducible refine And.intro (Eq.refl (α := World) _) ?_) | (with_reducible refine forall_one ?_)
      | (with_reducible refine gdtT ?_) | (with_reducible refine gdtF ?_) | (with_reducible refine gdfF ?_) | (with_reducible refine gdfT ?_) | (with_reducible refine gdu ?_ _)
      | (with_reducible refine gdt_pos (by first | assumption | omega) ?_) | (with_reducible refine gdt_neg (by first | assumption | omega) ?_) | (with_reducible refine gdt_split (fun hg => ?_) (fun hg => ?_))
      | (with_reducible refine gdf_pos (by first | assumption | omega) ?_) | (with_reducible refine gdf_neg (by first | assumption | omega) ?_) | (with_reducible refine gdf_split (fun hg => ?_) (fun hg => ?_))
      | (with_reducible refine gdtn_pos (by first | assumption | omega) ?_) | (with_reducible refine gdtn_neg (by first | assumption | omega) ?_) | (with_reducible refine gdtn_split (fun hg => ?_) (fun hg => ?_))
      | (with_reducible refine gdfn_pos (by first | assumption | omega) ?_) | (with_reducible refine gdfn_neg (by first | assumption | omega) ?_) | (with_reducible refine gdfn_split (fun hg => ?_) (fun hg => ?_))
      | (with_reducible refine gdtbn_pos (by assumption) ?_) | (with_reducible refine gdtbn_neg (by assumption) ?_) | (with_reducible refine gdfbn_pos (by assumption) ?_) | (with_reducible refine gdfbn_neg (by assumption) ?_)
      | (with_reducible refine gdtb_pos (by assumption) ?_) | (with_reducible refine gdtb_neg (by assumption) ?_) | (with_reducible refine gdtb_split (fun hg => ?_) (fun hg => ?_))
      | (with_reducible refine gdfb_pos (by assumption) ?_) | (with_reducible refine gdfb_neg (by assumption) ?_) | (with_reducible refine gdfb_split (fun hg => ?_) (fun hg => ?_))
      | (with_reducible refine pickT ?_) | (with_reducible refine pickF ?_)
      | (with_reducible refine pick_pos (by first | assumption | omega) ?_) | (with_reducible refine pick_neg (by first | assumption | omega) ?_)
      | (with_reducible refine pickn_pos (by first | assumption | omega) ?_) | (with_reducible refine pickn_neg (by first | assumption | omega) ?_)
      | (with_reducible refine pickbn_pos (by assumption) ?_) | (with_reducible refine pickbn_neg (by assumption) ?_)
      | (with_reducible refine pickb_pos (by assumption) ?_) | (with_reducible refine pickb_neg (by assumption) ?_)
      | (with_reducible refine condT ?_) | (with_reducible refine condF ?_)
      | (with_reducible refine cond_pos (by first | assumption | omega) ?_) | (with_reducible refine cond_neg (by first | assumption | omega) ?_) | (with_reducible refine condM_dec (fun hg => ?_) (fun hg => ?_))
      | (with_reducible refine condn_pos (by first | assumption | omega) ?_) | (with_reducible refine condn_neg (by first | assumption | omega) ?_) | (with_reducible refine condM_ndec (fun hg => ?_) (fun hg => ?_))
      | (with_reducible refine condbn_pos (by assumption) ?_) | (with_reducible refine condbn_neg (by assumption) ?_) | (with_reducible refine condbn_split (fun hg => ?_) (fun hg => ?_))
      | (with_reducible refine condb_pos (by assumption) ?_) | (with_reducible refine condb_neg (by assumption) ?_) | (with_reducible refine condM_b (fun hg => ?_) (fun hg => ?_))
      | ((with_reducible refine oM_gen (fun Kv hK => ?_)); simp [go_sem]; (try simp (disch := omega) only [wrapI64, wrapU8, wrapU32, wrapU64]); (first | refine hK _ _ ?_ | refine And.intro (by omega) (hK _ _ ?_)); clear hK; clear Kv)))
      refine ⟨fun l w' => ∃ k : Nat, l = [.bool false, .int .i64 k] ∧ k ≤ v.length ∧ Below w4.heap.size w4 w', fun l _ => v.length - (match l with | [_, .int _ n] => n.toNat | _ => 0), ⟨0, rfl, by omega, Below.refl _ _⟩, ?_⟩
      rintro _ _ w5 ⟨k, rfl, hk, hb5⟩
      have z5 := hb5.size
      simp only [List.getD_cons_zero, List.getD_cons_succ]
      by_cases hkv : k < v.length
      · repeat (any_goals (first
        | (with_reducible refine pureM_in ?_)
        | (with_reducible refine pureQ_in ?_) | (with_reducible refine gdQ_conv (fun _ => ?_)) | (with_reducible refine pickQT ?_) | (with_reducible refine pickQF ?_) | (with_reducible refine pickQ_pos (by first | assumption | omega) ?_) | (with_reducible refine pickQ_neg (by first | assumption | omega) ?_) | (with_reducible refine pickQn_pos (by first | assumption | omega) ?_) | (with_reducible refine pickQn_neg (by first | assumption | omega) ?_) | ((with_reducible refine oQ_one ?_ ?_); exact ⟨_, rfl⟩) | (with_reducible refine And.intro (Eq.refl (α := World) _) ?_) | (with_reducible refine forall_one ?_)
        | (with_reducible refine gdtT ?_) | (with_reducible refine gdtF ?_) | (with_reducible refine gdfF ?_) | (with_reducible refine gdfT ?_) | (with_reducible refine gdu ?_ _)
        | (with_reducible refine gdt_pos (by first | assumption | omega) ?_) | (with_reducible refine gdt_neg (by first | assumption | omega) ?_) | (with_reducible refine gdt_split (fun hg => ?_) (fun hg => ?_))
        | (with_reducible refine gdf_pos (by first | assumption | omega) ?_) | (with_reducible refine gdf_neg (by first | assumption | omega) ?_) | (with_reducible refine gdf_split (fun hg => ?_) (fun hg => ?_))
        | (with_reducible refine gdtn_pos (by first | assumption | omega) ?_) | (with_reducible refine gdtn_neg (by first | assumption | omega) ?_) | (with_reducible refine gdtn_split (fun hg => ?_) (fun hg => ?_))
        | (with_reducible refine gdfn_pos (by first | assumption | omega) ?_) | (with_reducible refine gdfn_neg (by first | assumption | omega) ?_) | (with_reducible refine gdfn_split (fun hg => ?_) (fun hg => ?_))
        | (with_reducible refine gdtbn_pos (by assumption) ?_) | (with_reducible refine gdtbn_neg (by assumption) ?_) | (with_reducible refine gdfbn_pos (by assumption) ?_) | (with_reducible refine gdfbn_neg (by assumption) ?_)
        | (with_reducible refine gdtb_pos (by assumption) ?_) | (with_reducible refine gdtb_neg (by assumption) ?_) | (with_reducible refine gdtb_split (fun hg => ?_) (fun hg => ?_))
        | (with_reducible refine gdfb_pos (by assumption) ?_) | (with_reducible refine gdfb_neg (by assumption) ?_) | (with_reducible refine gdfb_split (fun hg => ?_) (fun hg => ?_))
        | (with_reducible refine pickT ?_) | (with_reducible refine pickF ?_)
        | (with_reducible refine pick_pos (by first | assumption | omega) ?_) | (with_reducible refine pick_neg (by first | assumption | omega) ?_)
        | (with_reducible refine pickn_pos (by first | assumption | omega) ?_) | (with_reducible refine pickn_neg (by first | assumption | omega) ?_)
        | (with_reducible refine pickbn_pos (by assumption) ?_) | (with_reducible refine pickbn_neg (by assumption) ?_)
        | (with_reducible refine pickb_pos (by assumption) ?_) | (with_reducible refine pickb_neg (by assumption) ?_)
        | (with_reducible refine condT ?_) | (with_reducible refine condF ?_)
        | (with_reducible refine cond_pos (by first | assumption | omega) ?_) | (with_reducible refine cond_neg (by first | assumption | omega) ?_) | (with_reducible refine condM_dec (fun hg => ?_) (fun hg => ?_))
        | (with_reducible refine condn_pos (by first | assumption | omega) ?_) | (with_reducible refine condn_neg (by first | assumption | omega) ?_) | (with_reducible refine condM_ndec (fun hg => ?_) (fun hg => ?_))
        | (with_reducible refine condbn_pos (by assumption) ?_) | (with_reducible refine condbn_neg (by assumption) ?_) | (with_reducible refine condbn_split (fun hg => ?_) (fun hg => ?_))
        | (with_reducible refine condb_pos (by assumption) ?_) | (with_reducible refine condb_neg (by assumption) ?_) | (with_reducible refine condM_b (fun hg => ?_) (fun hg => ?_))
        | ((with_reducible refine oM_gen (fun Kv hK => ?_)); simp [go_sem]; (try simp (disch := omega) only [wrapI64, wrapU8, wrapU32, wrapU64]); (first | refine hK _ _ ?_ | refine And.intro (by omega) (hK _ _ ?_)); clear hK; clear Kv)))
        refine ⟨fun l w' => l = [] ∧ Below w5.heap.size w5 w' ∧ w'.heap[w5.heap.size]? = some (.cells #[.int .i64 v[k].kind, .string ⟨v[k].text.toArray⟩, .int .i64 v[k].n, .int .i64 v[k].pos] 32 (0, 0)), ?_, ?_⟩
        · obtain ⟨W, hW⟩ : ∃ W, W = w5.alloc (.cells #[.int .i64 0, .string ⟨#[]⟩, .int .i64 0, .int .i64 0] 32) := ⟨_, rfl⟩
          have hal : W.heap[w5.heap.size]? = some (.cells #[.int .i64 0, .string ⟨#[]⟩, .int .i64 0, .int .i64 0] 32 (0, 0)) := by rw [hW]; exact heap_alloc_last _ _
          have hb5W : Below w5.heap.size w5 W := by rw [hW]; exact (Below.refl _ _).alloc (Nat.le_refl _) _
          have hbW : Below w4.heap.size w4 W := hb5.trans (hb5W.mono z5)
          rw [← hW]
          by_cases hkt : k < ts.length
          · rcases ht2 with rfl | ⟨b, o, rfl, hbw, hcells⟩
            · simp at hkt
            obtain ⟨h0, h1, h2, h3⟩ := hcells k hkt
            rw [← hbW.cell hbw] at h0 h1 h2 h3
            have hst := store32 hal rfl ts[k].kind ts[k].n ts[k].pos ⟨ts[k].text.toArray⟩
            have hld := tokAt h0 h1 h2 h3
            have hix := idx23 (b := b) (o := o) (c := c2) hkt W
            repeat (any_goals (first
            | (with_reducible refine pureM_in ?_)
            | (with_reducible refine pureQ_in ?_) | (with_reducible refine gdQ_conv (fun _ => ?_)) | (with_reducible refine pickQT ?_) | (with_reducible refine pickQF ?_) | (with_reducible refine pickQ_pos (by first | assumption | omega) ?_) | (with_reducible refine pickQ_neg (by first | assumption | omega) ?_) | (with_reducible refine pickQn_pos (by first | assumption | omega) ?_) | (with_reducible refine pickQn_neg (by first | assumption | omega) ?_) | ((with_reducible refine oQ_one ?_ ?_); exact ⟨_, rfl⟩) | (with_reducible refine And.intro (Eq.refl (α := World) _) ?_) | (with_reducible refine forall_one ?_)
            | (with_reducible refine gdtT ?_) | (with_reducible refine gdtF ?_) | (with_reducible refine gdfF ?_) | (with_reducible refine gdfT ?_) | (with_reducible refine gdu ?_ _)
            | (with_reducible refine gdt_pos (by first | assumption | omega) ?_) | (with_reducible refine gdt_neg (by first | assumption | omega) ?_) | (with_reducible refine gdt_split (fun hg => ?_) (fun hg => ?_))
            | (with_reducible refine gdf_pos (by first | assumption | omega) ?_) | (with_reducible refine gdf_neg (by first | assumption | omega) ?_) | (with_reducible refine gdf_split (fun hg => ?_) (fun hg => ?_))
            | (with_reducible refine gdtn_pos (by first | assumption | omega) ?_) | (with_reducible refine gdtn_neg (by first | assumption | omega) ?_) | (with_reducible refine gdtn_split (fun hg => ?_) (fun hg => ?_))
            | (with_reducible refine gdfn_pos (by first | assumption | omega) ?_) | (with_reducible refine gdfn_neg (by first | assumption | omega) ?_) | (with_reducible refine gdfn_split (fun hg => ?_) (fun hg => ?_))
            | (with_reducible refine gdtbn_pos (by assumption) ?_) | (with_reducible refine gdtbn_neg (by assumption) ?_) | (with_reducible refine gdfbn_pos (by assumption) ?_) | (with_reducible refine gdfbn_neg (by assumption) ?_)
            | (with_reducible refine gdtb_pos (by assumption) ?_) | (with_reducible refine gdtb_neg (by assumption) ?_) | (with_reducible refine gdtb_split (fun hg => ?_) (fun hg => ?_))
            | (with_reducible refine gdfb_pos (by assumption) ?_) | (with_reducible refine gdfb_neg (by assumption) ?_) | (with_reducible refine gdfb_split (fun hg => ?_) (fun hg => ?_))
            | (with_reducible refine pickT ?_) | (with_reducible refine pickF ?_)
            | (with_reducible refine pick_pos (by first | assumption | omega) ?_) | (with_reducible refine pick_neg (by first | assumption | omega) ?_)
            | (with_reducible refine pickn_pos (by first | assumption | omega) ?_) | (with_reducible refine pickn_neg (by first | assumption | omega) ?_)
            | (with_reducible refine pickbn_pos (by assumption) ?_) | (with_reducible refine pickbn_neg (by assumption) ?_)
            | (with_reducible refine pickb_pos (by assumption) ?_) | (with_reducible refine pickb_neg (by assumption) ?_)
            | (with_reducible refine condT ?_) | (with_reducible refine condF ?_)
            | (with_reducible refine cond_pos (by first | assumption | omega) ?_) | (with_reducible refine cond_neg (by first | assumption | omega) ?_) | (with_reducible refine condM_dec (fun hg => ?_) (fun hg => ?_))
            | (with_reducible refine condn_pos (by first | assumption | omega) ?_) | (with_reducible refine condn_neg (by first | assumption | omega) ?_) | (with_reducible refine condM_ndec (fun hg => ?_) (fun hg => ?_))
            | (with_reducible refine condbn_pos (by assumption) ?_) | (with_reducible refine condbn_neg (by assumption) ?_) | (with_reducible refine condbn_split (fun hg => ?_) (fun hg => ?_))
            | (with_reducible refine condb_pos (by assumption) ?_) | (with_reducible refine condb_neg (by assumption) ?_) | (with_reducible refine condM_b (fun hg => ?_) (fun hg => ?_))
            | ((with_reducible refine oM_gen (fun Kv hK => ?_)); simp [go_sem]; (try simp (disch := omega) only [wrapI64, wrapU8, wrapU32, wrapU64]); (first | refine hK _ _ ?_ | refine And.intro (by omega) (hK _ _ ?_)); clear hK; clear Kv)))
            rw [oM_indexAddr, hix, rM_ok, oM_load, hld, rM_ok, oM_store, hst]
            refine ⟨rfl, Below_setRow hb5W (Nat.le_refl _) _, ?_⟩
            have e : v[k] = ts[k] := by simp only [hv]; rw [List.getElem_append_left hkt]
            rw [e]
            exact setRow_heap _ _ _ _ _ _ hal
          · obtain ⟨m, rfl⟩ : ∃ m, k = ts.length + m := ⟨k - ts.length, by omega⟩
            have hm : m < us.length := by omega
            rcases ht3 with rfl | ⟨b, o, rfl, hbw, hcells⟩
            · simp at hm
            obtain ⟨h0, h1, h2, h3⟩ := hcells m hm
            rw [← (hb5.trans (hb5W.mono z5)).cell (by exact hbw)] at h0 h1 h2 h3
            have hst := store32 hal rfl us[m].kind us[m].n us[m].pos ⟨us[m].text.toArray⟩
            have hld := tokAt h0 h1 h2 h3
            have hix := idx23 (b := b) (o := o) (c := c3) hm W
            have em : (ts.length : Int) + (m : Int) - (ts.length : Int) = (m : Int) := by omega
            repeat (any_goals (first
            | (with_reducible refine pureM_in ?_)
            | (with_reducible refine pureQ_in ?_) | (with_reducible refine gdQ_conv (fun _ => ?_)) | (with_reducible refine pickQT ?_) | (with_reducible refine pickQF ?_) | (with_reducible refine pickQ_pos (by first | assumption | omega) ?_) | (with_reducible refine pickQ_neg (by first | assumption | omega) ?_) | (with_reducible refine pickQn_pos (by first | assumption | omega) ?_) | (with_reducible refine pickQn_neg (by first | assumption | omega) ?_) | ((with_reducible refine oQ_one ?_ ?_); exact ⟨_, rfl⟩) | (with_reducible refine And.intro (Eq.refl (α := World) _) ?_) | (with_reducible refine forall_one ?_)
            | (with_reducible refine gdtT ?_) | (with_reducible refine gdtF ?_) | (with_reducible refine gdfF ?_) | (with_reducible refine gdfT ?_) | (with_reducible refine gdu ?_ _)
            | (with_reducible refine gdt_pos (by first | assumption | omega) ?_) | (with_reducible refine gdt_neg (by first | assumption | omega) ?_) | (with_reducible refine gdt_split (fun hg => ?_) (fun hg => ?_))
            | (with_reducible refine gdf_pos (by first | assumption | omega) ?_) | (with_reducible refine gdf_neg (by first | assumption | omega) ?_) | (with_reducible refine gdf_split (fun hg => ?_) (fun hg => ?_))
            | (with_reducible refine gdtn_pos (by first | assumption | omega) ?_) | (with_reducible refine gdtn_neg (by first | assumption | omega) ?_) | (with_reducible refine gdtn_split (fun hg => ?_) (fun hg => ?_))
            | (with_reducible refine gdfn_pos (by first | assumption | omega) ?_) | (with_reducible refine gdfn_neg (by first | assumption | omega) ?_) | (with_reducible refine gdfn_split (fun hg => ?_) (fun hg => ?_))
            | (with_reducible refine gdtbn_pos (by assumption) ?_) | (with_reducible refine gdtbn_neg (by assumption) ?_) | (with_reducible refine gdfbn_pos (by assumption) ?_) | (with_reducible refine gdfbn_neg (by assumption) ?_)
            | (with_reducible refine gdtb_pos (by assumption) ?_) | (with_reducible refine gdtb_neg (by assumption) ?_) | (with_reducible refine gdtb_split (fun hg => ?_) (fun hg => ?_))
            | (with_reducible refine gdfb_pos (by assumption) ?_) | (with_reducible refine gdfb_neg (by assumption) ?_) | (with_reducible refine gdfb_split (fun hg => ?_) (fun hg => ?_))
            | (with_reducible refine pickT ?_) | (with_reducible refine pickF ?_)
            | (with_reducible refine pick_pos (by first | assumption | omega) ?_) | (with_reducible refine pick_neg (by first | assumption | omega) ?_)
            | (with_reducible refine pickn_pos (by first | assumption | omega) ?_) | (with_reducible refine pickn_neg (by first | assumption | omega) ?_)
            | (with_reducible refine pickbn_pos (by assumption) ?_) | (with_reducible refine pickbn_neg (by assumption) ?_)
            | (with_reducible refine pickb_pos (by assumption) ?_) | (with_reducible refine pickb_neg (by assumption) ?_)
            | (with_reducible refine condT ?_) | (with_reducible refine condF ?_)
            | (with_reducible refine cond_pos (by first | assumption | omega) ?_) | (with_reducible refine cond_neg (by first | assumption | omega) ?_) | (with_reducible refine condM_dec (fun hg => ?_) (fun hg => ?_))
            | (with_reducible refine condn_pos (by first | assumption | omega) ?_) | (with_reducible refine condn_neg (by first | assumption | omega) ?_) | (with_reducible refine condM_ndec (fun hg => ?_) (fun hg => ?_))
            | (with_reducible refine condbn_pos (by assumption) ?_) | (with_reducible refine condbn_neg (by assumption) ?_) | (with_reducible refine condbn_split (fun hg => ?_) (fun hg => ?_))
            | (with_reducible refine condb_pos (by assumption) ?_) | (with_reducible refine condb_neg (by assumption) ?_) | (with_reducible refine condM_b (fun hg => ?_) (fun hg => ?_))
            | ((with_reducible refine oM_gen (fun Kv hK => ?_)); simp [go_sem]; (try simp (disch := omega) only [wrapI64, wrapU8, wrapU32, wrapU64]); (first | refine hK _ _ ?_ | refine And.intro (by omega) (hK _ _ ?_)); clear hK; clear Kv)))
            rw [em, oM_indexAddr, hix, rM_ok, oM_load, hld, rM_ok, oM_store, hst]
            obtain ⟨W2, hW2⟩ : ∃ W2, W2 = W.setRow w5.heap.size #[.int .i64 us[m].kind, .string ⟨us[m].text.toArray⟩, .int .i64 us[m].n, .int .i64 us[m].pos] := ⟨_, rfl⟩
            have hr2 : W2.heap[w5.heap.size]? = some (.cells #[.int .i64 us[m].kind, .string ⟨us[m].text.toArray⟩, .int .i64 us[m].n, .int .i64 us[m].pos] 32 (0, 0)) := by rw [hW2]; exact setRow_heap _ _ _ _ _ _ hal
            have hb52 : Below w5.heap.size w5 W2 := by rw [hW2]; exact Below_setRow hb5W (Nat.le_refl _) _
            have hc2 : W2.cell? ⟨w5.heap.size, 3, none⟩ = some (.int .i64 us[m].pos) := by rw [cell_of_row _ _ _ _ _ _ hr2]; rfl
            have hf2 : W2.frozen? ⟨w5.heap.size, 3, none⟩ = false := by simp [World.frozen?, hr2]
            rw [← hW2]
            show oM Tryd.prog _ _ _ _ W2
            have hpos := scan_pos _ _ hsy us[m] (List.getElem_mem hm)
            repeat (any_goals (first
            | (with_reducible refine pureM_in ?_)
            | (with_reducible refine pureQ_in ?_) | (with_reducible refine gdQ_conv (fun _ => ?_)) | (with_reducible refine pickQT ?_) | (with_reducible refine pickQF ?_) | (with_reducible refine pickQ_pos (by first | assumption | omega) ?_) | (with_reducible refine pickQ_neg (by first | assumption | omega) ?_) | (with_reducible refine pickQn_pos (by first | assumption | omega) ?_) | (with_reducible refine pickQn_neg (by first | assumption | omega) ?_) | ((with_reducible refine oQ_one ?_ ?_); exact ⟨_, rfl⟩) | (with_reducible refine And.intro (Eq.refl (α := World) _) ?_) | (with_reducible refine forall_one ?_)
            | (with_reducible refine gdtT ?_) | (with_reducible refine gdtF ?_) | (with_reducible refine gdfF ?_) | (with_reducible refine gdfT ?_) | (with_reducible refine gdu ?_ _)
            | (with_reducible refine gdt_pos (by first | assumption | omega) ?_) | (with_reducible refine gdt_neg (by first | assumption | omega) ?_) | (with_reducible refine gdt_split (fun hg => ?_) (fun hg => ?_))
            | (with_reducible refine gdf_pos (by first | assumption | omega) ?_) | (with_reducible refine gdf_neg (by first | assumption | omega) ?_) | (with_reducible refine gdf_split (fun hg => ?_) (fun hg => ?_))
            | (with_reducible refine gdtn_pos (by first | assumption | omega) ?_) | (with_reducible refine gdtn_neg (by first | assumption | omega) ?_) | (with_reducible refine gdtn_split (fun hg => ?_) (fun hg => ?_))
            | (with_reducible refine gdfn_pos (by first | assumption | omega) ?_) | (with_reducible refine gdfn_neg (by first | assumption | omega) ?_) | (with_reducible refine gdfn_split (fun hg => ?_) (fun hg => ?_))
            | (with_reducible refine gdtbn_pos (by assumption) ?_) | (with_reducible refine gdtbn_neg (by assumption) ?_) | (with_reducible refine gdfbn_pos (by assumption) ?_) | (with_reducible refine gdfbn_neg (by assumption) ?_)
            | (with_reducible refine gdtb_pos (by assumption) ?_) | (with_reducible refine gdtb_neg (by assumption) ?_) | (with_reducible refine gdtb_split (fun hg => ?_) (fun hg => ?_))
            | (with_reducible refine gdfb_pos (by assumption) ?_) | (with_reducible refine gdfb_neg (by assumption) ?_) | (with_reducible refine gdfb_split (fun hg => ?_) (fun hg => ?_))
            | (with_reducible refine pickT ?_) | (with_reducible refine pickF ?_)
            | (with_reducible refine pick_pos (by first | assumption | omega) ?_) | (with_reducible refine pick_neg (by first | assumption | omega) ?_)
            | (with_reducible refine pickn_pos (by first | assumption | omega) ?_) | (with_reducible refine pickn_neg (by first | assumption | omega) ?_)
            | (with_reducible refine pickbn_pos (by assumption) ?_) | (with_reducible refine pickbn_neg (by assumption) ?_)
            | (with_reducible refine pickb_pos (by assumption) ?_) | (with_reducible refine pickb_neg (by assumption) ?_)
            | (with_reducible refine condT ?_) | (with_reducible refine condF ?_)
            | (with_reducible refine cond_pos (by first | assumption | omega) ?_) | (with_reducible refine cond_neg (by first | assumption | omega) ?_) | (with_reducible refine condM_dec (fun hg => ?_) (fun hg => ?_))
            | (with_reducible refine condn_pos (by first | assumption | omega) ?_) | (with_reducible refine condn_neg (by first | assumption | omega) ?_) | (with_reducible refine condM_ndec (fun hg => ?_) (fun hg => ?_))
            | (with_reducible refine condbn_pos (by assumption) ?_) | (with_reducible refine condbn_neg (by assumption) ?_) | (with_reducible refine condbn_split (fun hg => ?_) (fun hg => ?_))
            | (with_reducible refine condb_pos (by assumption) ?_) | (with_reducible refine condb_neg (by assumption) ?_) | (with_reducible refine condM_b (fun hg => ?_) (fun hg => ?_))
            | ((with_reducible refine oM_gen (fun Kv hK => ?_)); simp [go_sem, hc2, hf2]; (try simp (disch := omega) only [wrapI64, wrapU8, wrapU32, wrapU64]); (first | refine hK _ _ ?_ | refine And.intro (by omega) (hK _ _ ?_)); clear hK; clear Kv)))
            refine ⟨rfl, hb52.setCell (Nat.le_refl _) _, ?_⟩
            have e : v[ts.length + m] = { us[m] with pos := us[m].pos + (x.length + 1) } := by
              simp only [hv]
              rw [List.getElem_append_right (by omega)]
              simp
            rw [e, setCell_eq_setRow _ _ _ _ _ _ _ hr2, setRow_heap _ _ _ _ _ _ hr2]
            simp
            omega
        · rintro _ _ w6 ⟨rfl, hb6, hcell6⟩
          have z6 := hb6.size
          have hb46 : Below w4.heap.size w4 w6 := hb5.trans (hb6.mono z5)
          rcases ht4 with rfl | ⟨b, o, rfl, hbw, hcells⟩
          · simp at hkv
          obtain ⟨h0, h1, h2, h3⟩ := hcells k hkv
          rw [← hb46.cell hbw] at h0 h1 h2 h3
          have hg : w5.heap.size < w6.heap.size := (Array.getElem?_eq_some_iff.1 hcell6).1
          have g0 : w6.cell? ⟨w5.heap.size, 0, none⟩ = some (.int .i64 v[k].kind) := by rw [cell_of_row _ _ _ _ _ _ hcell6]; rfl
          have g1 : w6.cell? ⟨w5.heap.size, 0 + 1, none⟩ = some (.string ⟨v[k].text.toArray⟩) := by rw [cell_of_row _ _ _ _ _ _ hcell6]; rfl
          have g2 : w6.cell? ⟨w5.heap.size, 0 + 2, none⟩ = some (.int .i64 v[k].n) := by rw [cell_of_row _ _ _ _ _ _ hcell6]; rfl
          have g3 : w6.cell? ⟨w5.heap.size, 0 + 3, none⟩ = some (.int .i64 v[k].pos) := by rw [cell_of_row _ _ _ _ _ _ hcell6]; rfl
          refine quietM_one ?_
          have d1 := idx23 (b := b) (o := o) (c := c4) hkv { w6 with drawn := w6.drawn + 1 }
          have d2 := tokAt (w := { w6 with drawn := w6.drawn + 1 }) h0 h1 h2 h3
          have e2 := tokAt (w := { w6 with drawn := w6.drawn + 1 }) g0 g1 g2 g3
          refine oQ_one ⟨_, rfl⟩ ?_
          rw [oM_indexAddr, d1, rM_ok]
          refine ⟨rfl, ?_⟩
          refine oQ_one ⟨_, rfl⟩ ?_
          rw [oM_load, d2, rM_ok]
          refine ⟨rfl, ?_⟩
          refine oQ_one ⟨_, rfl⟩ ?_
          rw [oM_load, e2, rM_ok]
          refine ⟨rfl, ?_⟩
          refine oQ_one ⟨_, rfl⟩ ?_
          rw [oM_net, neq32, rM_ok]
          refine ⟨rfl, ?_⟩
          rintro w7 rfl
          have hb7 : Below w4.heap.size w4 { w6 with drawn := w6.drawn + 1 } := hb46.drew
          simp only [decide_true, Bool.and_self, Bool.not_true]
          repeat (any_goals (first
          | (with_reducible refine pureM_in ?_)
          | (with_reducible refine pureQ_in ?_) | (with_reducible refine gdQ_conv (fun _ => ?_)) | (with_reducible refine pickQT ?_) | (with_reducible refine pickQF ?_) | (with_reducible refine pickQ_pos (by first | assumption | omega) ?_) | (with_reducible refine pickQ_neg (by first | assumption | omega) ?_) | (with_reducible refine pickQn_pos (by first | assumption | omega) ?_) | (with_reducible refine pickQn_neg (by first | assumption | omega) ?_) | ((with_reducible refine oQ_one ?_ ?_); exact ⟨_, rfl⟩) | (with_reducible refine And.intro (Eq.refl (α := World) _) ?_) | (with_reducible refine forall_one ?_)
          | (with_reducible refine gdtT ?_) | (with_reducible refine gdtF ?_) | (with_reducible refine gdfF ?_) | (with_reducible refine gdfT ?_) | (with_reducible refine gdu ?_ _)
          | (with_reducible refine gdt_pos (by first | assumption | omega) ?_) | (with_reducible refine gdt_neg (by first | assumption | omega) ?_) | (with_reducible refine gdt_split (fun hg => ?_) (fun hg => ?_))
          | (with_reducible refine gdf_pos (by first | assumption | omega) ?_) | (with_reducible refine gdf_neg (by first | assumption | omega) ?_) | (with_reducible refine gdf_split (fun hg => ?_) (fun hg => ?_))
          | (with_reducible refine gdtn_pos (by first | assumption | omega) ?_) | (with_reducible refine gdtn_neg (by first | assumption | omega) ?_) | (with_reducible refine gdtn_split (fun hg => ?_) (fun hg => ?_))
          | (with_reducible refine gdfn_pos (by first | assumption | omega) ?_) | (with_reducible refine gdfn_neg (by first | assumption | omega) ?_) | (with_reducible refine gdfn_split (fun hg => ?_) (fun hg => ?_))
          | (with_reducible refine gdtbn_pos (by assumption) ?_) | (with_reducible refine gdtbn_neg (by assumption) ?_) | (with_reducible refine gdfbn_pos (by assumption) ?_) | (with_reducible refine gdfbn_neg (by assumption) ?_)
          | (with_reducible refine gdtb_pos (by assumption) ?_) | (with_reducible refine gdtb_neg (by assumption) ?_) | (with_reducible refine gdtb_split (fun hg => ?_) (fun hg => ?_))
          | (with_reducible refine gdfb_pos (by assumption) ?_) | (with_reducible refine gdfb_neg (by assumption) ?_) | (with_reducible refine gdfb_split (fun hg => ?_) (fun hg => ?_))
          | (with_reducible refine pickT ?_) | (with_reducible refine pickF ?_)
          | (with_reducible refine pick_pos (by first | assumption | omega) ?_) | (with_reducible refine pick_neg (by first | assumption | omega) ?_)
          | (with_reducible refine pickn_pos (by first | assumption | omega) ?_) | (with_reducible refine pickn_neg (by first | assumption | omega) ?_)
          | (with_reducible refine pickbn_pos (by assumption) ?_) | (with_reducible refine pickbn_neg (by assumption) ?_)
          | (with_reducible refine pickb_pos (by assumption) ?_) | (with_reducible refine pickb_neg (by assumption) ?_)
          | (with_reducible refine condT ?_) | (with_reducible refine condF ?_)
          | (with_reducible refine cond_pos (by first | assumption | omega) ?_) | (with_reducible refine cond_neg (by first | assumption | omega) ?_) | (with_reducible refine condM_dec (fun hg => ?_) (fun hg => ?_))
          | (with_reducible refine condn_pos (by first | assumption | omega) ?_) | (with_reducible refine condn_neg (by first | assumption | omega) ?_) | (with_reducible refine condM_ndec (fun hg => ?_) (fun hg => ?_))
          | (with_reducible refine condbn_pos (by assumption) ?_) | (with_reducible refine condbn_neg (by assumption) ?_) | (with_reducible refine condbn_split (fun hg => ?_) (fun hg => ?_))
          | (with_reducible refine condb_pos (by assumption) ?_) | (with_reducible refine condb_neg (by assumption) ?_) | (with_reducible refine condM_b (fun hg => ?_) (fun hg => ?_))
          | ((with_reducible refine oM_gen (fun Kv hK => ?_)); simp [go_sem]; (try simp (disch := omega) only [wrapI64, wrapU8, wrapU32, wrapU64]); (first | refine hK _ _ ?_ | refine And.intro (by omega) (hK _ _ ?_)); clear hK; clear Kv)))
          exact ⟨⟨k + 1, rfl, by omega, hb7⟩, by simp; omega⟩
      · repeat (any_goals (first
        | (with_reducible refine pureM_in ?_)
        | (with_reducible refine pureQ_in ?_) | (with_reducible refine gdQ_conv (fun _ => ?_)) | (with_reducible refine pickQT ?_) | (with_reducible refine pickQF ?_) | (with_reducible refine pickQ_pos (by first | assumption | omega) ?_) | (with_reducible refine pickQ_neg (by first | assumption | omega) ?_) | (with_reducible refine pickQn_pos (by first | assumption | omega) ?_) | (with_reducible refine pickQn_neg (by first | assumption | omega) ?_) | ((with_reducible refine oQ_one ?_ ?_); exact ⟨_, rfl⟩) | (with_reducible refine And.intro (Eq.refl (α := World) _) ?_) | (with_reducible refine forall_one ?_)
        | (with_reducible refine gdtT ?_) | (with_reducible refine gdtF ?_) | (with_reducible refine gdfF ?_) | (with_reducible refine gdfT ?_) | (with_reducible refine gdu ?_ _)
        | (with_reducible refine gdt_pos (by first | assumption | omega) ?_) | (with_reducible refine gdt_neg (by first | assumption | omega) ?_) | (with_reducible refine gdt_split (fun hg => ?_) (fun hg => ?_))
        | (with_reducible refine gdf_pos (by first | assumption | omega) ?_) | (with_reducible refine gdf_neg (by first | assumption | omega) ?_) | (with_reducible refine gdf_split (fun hg => ?_) (fun hg => ?_))
        | (with_reducible refine gdtn_pos (by first | assumption | omega) ?_) | (with_reducible refine gdtn_neg (by first | assumption | omega) ?_) | (with_reducible refine gdtn_split (fun hg => ?_) (fun hg => ?_))
        | (with_reducible refine gdfn_pos (by first | assumption | omega) ?_) | (with_reducible refine gdfn_neg (by first | assumption | omega) ?_) | (with_reducible refine gdfn_split (fun hg => ?_) (fun hg => ?_))
        | (with_reducible refine gdtbn_pos (by assumption) ?_) | (with_reducible refine gdtbn_neg (by assumption) ?_) | (with_reducible refine gdfbn_pos (by assumption) ?_) | (with_reducible refine gdfbn_neg (by assumption) ?_)
        | (with_reducible refine gdtb_pos (by assumption) ?_) | (with_reducible refine gdtb_neg (by assumption) ?_) | (with_reducible refine gdtb_split (fun hg => ?_) (fun hg => ?_))
        | (with_reducible refine gdfb_pos (by assumption) ?_) | (with_reducible refine gdfb_neg (by assumption) ?_) | (with_reducible refine gdfb_split (fun hg => ?_) (fun hg => ?_))
        | (with_reducible refine pickT ?_) | (with_reducible refine pickF ?_)
        | (with_reducible refine pick_pos (by first | assumption | omega) ?_) | (with_reducible refine pick_neg (by first | assumption | omega) ?_)
        | (with_reducible refine pickn_pos (by first | assumption | omega) ?_) | (with_reducible refine pickn_neg (by first | assumption | omega) ?_)
        | (with_reducible refine pickbn_pos (by assumption) ?_) | (with_reducible refine pickbn_neg (by assumption) ?_)
        | (with_reducible refine pickb_pos (by assumption) ?_) | (with_reducible refine pickb_neg (by assumption) ?_)
        | (with_reducible refine condT ?_) | (with_reducible refine condF ?_)
        | (with_reducible refine cond_pos (by first | assumption | omega) ?_) | (with_reducible refine cond_neg (by first | assumption | omega) ?_) | (with_reducible refine condM_dec (fun hg => ?_) (fun hg => ?_))
        | (with_reducible refine condn_pos (by first | assumption | omega) ?_) | (with_reducible refine condn_neg (by first | assumption | omega) ?_) | (with_reducible refine condM_ndec (fun hg => ?_) (fun hg => ?_))
        | (with_reducible refine condbn_pos (by assumption) ?_) | (with_reducible refine condbn_neg (by assumption) ?_) | (with_reducible refine condbn_split (fun hg => ?_) (fun hg => ?_))
        | (with_reducible refine condb_pos (by assumption) ?_) | (with_reducible refine condb_neg (by assumption) ?_) | (with_reducible refine condM_b (fun hg => ?_) (fun hg => ?_))
        | ((with_reducible refine oM_gen (fun Kv hK => ?_)); simp [go_sem]; (try simp (disch := omega) only [wrapI64, wrapU8, wrapU32, wrapU64]); (first | refine hK _ _ ?_ | refine And.intro (by omega) (hK _ _ ?_)); clear hK; clear Kv)))
        exact h w5 (hb14.trans (hb5.mono (by omega)))
end Go.Proofs
