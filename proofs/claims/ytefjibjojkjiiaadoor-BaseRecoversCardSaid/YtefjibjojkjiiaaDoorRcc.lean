/- Parts of the proof of the seat's statements (JcR, JcR2, ShMap5, ShRow, ShRow2, ShBuf, ShBuf2, ShBit, ShBox, ShGo, ShKn, ShKn2, ShArr, ShMn, JnSpec, DkSpec, DkLaw, DkLaw4, JnLaw, JnLaw2, JnSum, JA, JB, JdkA, JdkB, JdkC, JdkD): lemmas about the given translation and plain laws. No condition of their own. -/
import Derived.Test.YtefjibjojkjiiaaDoorRcb
import Derived.Lib.BufferWrite
import Derived.Lib.SliceRun
import Derived.Laws.MakeOwn
import Derived.Laws.OwnMore
import Derived.Great.BuildSlice
import Derived.Laws.IdiomStrings
set_option linter.all false
namespace Go.Proofs.Cd
open Go Go.Sh Go.RowKit Go.Lib CodeSpec
set_option linter.unusedSimpArgs false
set_option maxRecDepth 10000
def IsRd (w : World) (b : Nat) (r : Rd) : Prop := w.heap[b]? = some (.cells #[.string ⟨r.rest.toArray⟩, .bool r.bad] 78 (0, 0))
theorem IsRd.c0 {w : World} {b : Nat} {r : Rd} (h : IsRd w b r) : w.cell? ⟨b, 0, none⟩ = some (.string ⟨r.rest.toArray⟩) := by
  unfold IsRd at h; simp [World.cell?, h]
theorem IsRd.c1 {w : World} {b : Nat} {r : Rd} (h : IsRd w b r) : w.cell? ⟨b, 1, none⟩ = some (.bool r.bad) := by
  unfold IsRd at h; simp [World.cell?, h]
theorem IsRd.fz {w : World} {b : Nat} {r : Rd} (h : IsRd w b r) (i : Nat) : w.frozen? ⟨b, i, none⟩ = false := by
  unfold IsRd at h; simp [World.frozen?, h]
theorem IsRd.lt {w : World} {b : Nat} {r : Rd} (h : IsRd w b r) : b < w.heap.size := (Array.getElem?_eq_some_iff.1 h).1
theorem heap_set {w : World} {b i : Nat} {cs : Array Value} {T : TypeId} {f : Nat × Nat} (h : w.heap[b]? = some (.cells cs T f)) (u : Value) : (w.setCell ⟨b, i, none⟩ u).heap[b]? = some (.cells (cs.setIfInBounds i u) T f) := by
  simp [World.setCell, Array.getElem?_modify, h]
theorem IsRd.set0 {w : World} {b : Nat} {r : Rd} (h : IsRd w b r) (l : List UInt8) : IsRd (w.setCell ⟨b, 0, none⟩ (.string ⟨l.toArray⟩)) b ⟨l, r.bad⟩ := by
  unfold IsRd at h ⊢
  rw [heap_set h]; rfl
theorem IsRd.set1 {w : World} {b : Nat} {r : Rd} (h : IsRd w b r) (t : Bool) : IsRd (w.setCell ⟨b, 1, none⟩ (.bool t)) b ⟨r.rest, t⟩ := by
  unfold IsRd at h ⊢
  rw [heap_set h]; rfl
theorem IsRd.below {w w' : World} {b : Nat} {r : Rd} (h : IsRd w b r) {B : Nat} (hb : Below B w w') (hB : b < B) : IsRd w' b r := by
  unfold IsRd at h ⊢
  rw [hb.block _ hB]; exact h
theorem IsRd.drew {w : World} {b : Nat} {r : Rd} (h : IsRd w b r) : IsRd w.drew b r := h
theorem grown_set (w : World) (b i : Nat) (u : Value) : w.grownBy (w.setCell ⟨b, i, none⟩ u) (some b) :=
  ⟨rfl, rfl, rfl, by simp [World.setCell], fun k _ hk => Below.heap_setCell _ _ _ _ (fun e => hk (by simp [e]))⟩
theorem grown_drew (w : World) (b : Option Nat) : w.grownBy w.drew b := ⟨rfl, rfl, rfl, Nat.le_refl _, fun _ _ _ => rfl⟩
theorem fail_ok (b : Nat) (r : Rd) {K : Value → World → Prop} {w : World} (hr : IsRd w b r) (k : ∀ w', IsRd w' b failed → w.grownBy w' (some b) → K (.tuple #[]) w') : callM Tryd.prog 70 #[.pointer (some ⟨b, 0, none⟩)] K w := by
  apply sh_70_ok
  unfold sh_70
  have h0 := hr.c0
  have f0 := hr.fz 0
  have hr1 := hr.set0 []
  have f1 := hr1.fz 1
  have h1 := hr1.c1
  repeat (any_goals (first
  | (with_reducible refine pureM_in ?_)
  | (with_reducible first|refine pureQ_in ?_|refine gdQ_conv (fun _ => ?_)|refine pickQT ?_|refine pickQF ?_|refine pickQ_pos (by first|assumption|omega) ?_|refine pickQ_neg (by first|assumption|omega) ?_|refine pickQn_pos (by first|assumption|omega) ?_|refine pickQn_neg (by first|assumption|omega) ?_) | ((with_reducible refine oQ_one ?_ ?_); exact ⟨_, rfl⟩) | (with_reducible first|refine And.intro (Eq.refl (α := World) _) ?_|refine forall_one ?_|refine oQ_nil ?_) | (with_reducible refine oQ_of ⟨_, rfl⟩ (fun W0 hW0 => by (refine oM_gen (fun Kv hK => ?_)); simp [go_sem]; (first | exact hK _ _ ⟨rfl, rfl⟩ | exact ⟨by omega, hK _ _ ⟨rfl, rfl⟩⟩)) ?_)
  | (with_reducible first|refine gdtT ?_|refine gdtF ?_|refine gdfF ?_|refine gdfT ?_|refine gdu ?_ _|refine gdt_pos (by first|assumption|omega) ?_|refine gdt_neg (by first|assumption|omega) ?_|refine gdt_split (fun hg => ?_) (fun hg => ?_)|refine gdf_pos (by first|assumption|omega) ?_|refine gdf_neg (by first|assumption|omega) ?_|refine gdf_split (fun hg => ?_) (fun hg => ?_)|refine gdtn_pos (by first|assumption|omega) ?_|refine gdtn_neg (by first|assumption|omega) ?_|refine gdtn_split (fun hg => ?_) (fun hg => ?_)|refine gdfn_pos (by first|assumption|omega) ?_|refine gdfn_neg (by first|assumption|omega) ?_|refine gdfn_split (fun hg => ?_) (fun hg => ?_)|refine gdtbn_pos (by assumption) ?_|refine gdtbn_neg (by assumption) ?_|refine gdfbn_pos (by assumption) ?_|refine gdfbn_neg (by assumption) ?_|refine gdtb_pos (by assumption) ?_|refine gdtb_neg (by assumption) ?_|refine gdtb_split (fun hg => ?_) (fun hg => ?_)|refine gdfb_pos (by assumption) ?_|refine gdfb_neg (by assumption) ?_|refine gdfb_split (fun hg => ?_) (fun hg => ?_)|refine pickT ?_|refine pickF ?_|refine pick_pos (by first|assumption|omega) ?_|refine pick_neg (by first|assumption|omega) ?_|refine pickn_pos (by first|assumption|omega) ?_|refine pickn_neg (by first|assumption|omega) ?_|refine pickbn_pos (by assumption) ?_|refine pickbn_neg (by assumption) ?_|refine pickb_pos (by assumption) ?_|refine pickb_neg (by assumption) ?_|refine condT ?_|refine condF ?_|refine cond_pos (by first|assumption|omega) ?_|refine cond_neg (by first|assumption|omega) ?_|refine condM_dec (fun hg => ?_) (fun hg => ?_)|refine condn_pos (by first|assumption|omega) ?_|refine condn_neg (by first|assumption|omega) ?_|refine condM_ndec (fun hg => ?_) (fun hg => ?_)|refine condbn_pos (by assumption) ?_|refine condbn_neg (by assumption) ?_|refine condbn_split (fun hg => ?_) (fun hg => ?_)|refine condb_pos (by assumption) ?_|refine condb_neg (by assumption) ?_|refine condM_b (fun hg => ?_) (fun hg => ?_))
  | ((with_reducible refine oM_gen (fun Kv hK => ?_)); simp [go_sem, h0, f0, h1, f1]; (try simp (disch := omega) only [wrapI64, wrapU8, wrapU32, wrapU64]); (first | refine hK _ _ ?_ | refine And.intro (by omega) (hK _ _ ?_)); clear hK; clear Kv)))
  exact k _ (hr1.set1 true) (grownBy_trans (grown_set _ _ _ _) (grown_set _ _ _ _))
theorem close_ok (b : Nat) (r : Rd) (c : UInt8) {K : Value → World → Prop} {w : World} (hr : IsRd w b r) (k : ∀ w', IsRd w' b (rdClose r c) → w.grownBy w' (some b) → K (.tuple #[]) w') : callM Tryd.prog 71 #[.pointer (some ⟨b, 0, none⟩), .string ⟨#[c]⟩] K w := by
  apply sh_71_ok
  unfold sh_71
  have h0 := hr.c0
  have f0 := hr.fz 0
  repeat (any_goals (first
  | (with_reducible refine pureM_in ?_)
  | (with_reducible first|refine pureQ_in ?_|refine gdQ_conv (fun _ => ?_)|refine pickQT ?_|refine pickQF ?_|refine pickQ_pos (by first|assumption|omega) ?_|refine pickQ_neg (by first|assumption|omega) ?_|refine pickQn_pos (by first|assumption|omega) ?_|refine pickQn_neg (by first|assumption|omega) ?_) | ((with_reducible refine oQ_one ?_ ?_); exact ⟨_, rfl⟩) | (with_reducible first|refine And.intro (Eq.refl (α := World) _) ?_|refine forall_one ?_|refine oQ_nil ?_) | (with_reducible refine oQ_of ⟨_, rfl⟩ (fun W0 hW0 => by (refine oM_gen (fun Kv hK => ?_)); simp [go_sem]; (first | exact hK _ _ ⟨rfl, rfl⟩ | exact ⟨by omega, hK _ _ ⟨rfl, rfl⟩⟩)) ?_)
  | (with_reducible refine cutPrefix_ok r.rest [c] ?_)
  | (with_reducible first|refine gdtT ?_|refine gdtF ?_|refine gdfF ?_|refine gdfT ?_|refine gdu ?_ _|refine gdt_pos (by first|assumption|omega) ?_|refine gdt_neg (by first|assumption|omega) ?_|refine gdt_split (fun hg => ?_) (fun hg => ?_)|refine gdf_pos (by first|assumption|omega) ?_|refine gdf_neg (by first|assumption|omega) ?_|refine gdf_split (fun hg => ?_) (fun hg => ?_)|refine gdtn_pos (by first|assumption|omega) ?_|refine gdtn_neg (by first|assumption|omega) ?_|refine gdtn_split (fun hg => ?_) (fun hg => ?_)|refine gdfn_pos (by first|assumption|omega) ?_|refine gdfn_neg (by first|assumption|omega) ?_|refine gdfn_split (fun hg => ?_) (fun hg => ?_)|refine gdtbn_pos (by assumption) ?_|refine gdtbn_neg (by assumption) ?_|refine gdfbn_pos (by assumption) ?_|refine gdfbn_neg (by assumption) ?_|refine gdtb_pos (by assumption) ?_|refine gdtb_neg (by assumption) ?_|refine gdtb_split (fun hg => ?_) (fun hg => ?_)|refine gdfb_pos (by assumption) ?_|refine gdfb_neg (by assumption) ?_|refine gdfb_split (fun hg => ?_) (fun hg => ?_)|refine pickT ?_|refine pickF ?_|refine pick_pos (by first|assumption|omega) ?_|refine pick_neg (by first|assumption|omega) ?_|refine pickn_pos (by first|assumption|omega) ?_|refine pickn_neg (by first|assumption|omega) ?_|refine pickbn_pos (by assumption) ?_|refine pickbn_neg (by assumption) ?_|refine pickb_pos (by assumption) ?_|refine pickb_neg (by assumption) ?_|refine condT ?_|refine condF ?_|refine cond_pos (by first|assumption|omega) ?_|refine cond_neg (by first|assumption|omega) ?_|refine condM_dec (fun hg => ?_) (fun hg => ?_)|refine condn_pos (by first|assumption|omega) ?_|refine condn_neg (by first|assumption|omega) ?_|refine condM_ndec (fun hg => ?_) (fun hg => ?_)|refine condbn_pos (by assumption) ?_|refine condbn_neg (by assumption) ?_|refine condbn_split (fun hg => ?_) (fun hg => ?_)|refine condb_pos (by assumption) ?_|refine condb_neg (by assumption) ?_|refine condM_b (fun hg => ?_) (fun hg => ?_))
  | ((with_reducible refine oM_gen (fun Kv hK => ?_)); simp [go_sem, h0, f0]; (try simp (disch := omega) only [wrapI64, wrapU8, wrapU32, wrapU64]); (first | refine hK _ _ ?_ | refine And.intro (by omega) (hK _ _ ?_)); clear hK; clear Kv)))
  · skip
    obtain ⟨t, ht⟩ : ∃ t, r.rest = c :: t := by
      unfold hasPrefix at hg
      rw [List.isPrefixOf_iff_prefix] at hg
      obtain ⟨t, ht⟩ := hg
      exact ⟨t, by rw [← ht]; rfl⟩
    have e : trimPrefix r.rest [c] = t := by simp [trimPrefix, hasPrefix, ht]
    refine k _ ?_ (grown_set _ _ _ _)
    have := hr.set0 t
    rw [e]
    have e2 : rdClose r c = ⟨t, r.bad⟩ := by simp [rdClose, ht]
    rw [e2]
    exact this
  · skip
    refine fail_ok b _ (hr.set0 _) ?_
    intro w1 hr1 hg1
    refine k w1 ?_ (grownBy_trans (grown_set _ _ _ _) hg1)
    have e2 : rdClose r c = failed := by
      rcases rdClose_some r c with h | ⟨t, h, _⟩
      · exact h
      · rw [h] at hg; simp [hasPrefix] at hg
    rw [e2]
    exact hr1
theorem indexByte_take (l : List UInt8) (c : UInt8) : indexByte l c = if (l.takeWhile (· != c)).length < l.length then ((l.takeWhile (· != c)).length : Int) else -1 := by
  induction l with
  | nil => rfl
  | cons x l ih =>
    unfold indexByte
    by_cases hx : x = c
    · subst hx; simp
    · have h1 : (x == c) = false := by simp [hx]
      have tw : (x :: l).takeWhile (· != c) = x :: l.takeWhile (· != c) := by simp [hx]
      rw [tw, List.length_cons, List.length_cons, h1, if_neg (by simp)]
      by_cases hlt : (l.takeWhile (· != c)).length < l.length
      · rw [if_pos hlt] at ih
        have e : (indexByte l c == -1) = false := by
          rw [ih, beq_eq_false_iff_ne]
          omega
        rw [e, if_neg (by simp), ih, if_pos (by omega)]
        omega
      · rw [if_neg hlt] at ih
        rw [ih, if_pos (by simp), if_neg (by omega)]
theorem take_twl (l : List UInt8) (c : UInt8) : l.take (l.takeWhile (· != c)).length = l.takeWhile (· != c) := by
  exact (List.prefix_iff_eq_take.1 (List.takeWhile_prefix _)).symm
set_option maxHeartbeats 1600000 in
theorem number_ok (b : Nat) (r : Rd) (e : UInt8) (least : Int) {K : Value → World → Prop} {w : World} (hl : Laid w) (hlen : r.rest.length < 2^60) (hr : IsRd w b r) (k : ∀ w', IsRd w' b (rdNumber r e least).2 → w.grownBy w' (some b) → K (.int .i64 (rdNumber r e least).1) w') : callM Tryd.prog 69 #[.pointer (some ⟨b, 0, none⟩), .int .u8 e.toNat, .int .i64 least] K w := by
  apply sh_69_ok
  unfold sh_69
  refine quietM_one ?_
  have hr1 : IsRd { w with drawn := w.drawn + 1 } b r := hr
  have hl1 : Laid { w with drawn := w.drawn + 1 } := hl.keep (fun _ _ => rfl) (Nat.le_refl _)
  have hg1 : w.grownBy { w with drawn := w.drawn + 1 } (some b) := grown_drew _ _
  generalize { w with drawn := w.drawn + 1 } = w1 at *
  have h0 := hr1.c0
  have hmin : (min (r.rest.length : Int) 21).toNat = min r.rest.length 21 := by omega
  obtain ⟨q, hq⟩ : ∃ q, q = r.rest.take 21 := ⟨_, rfl⟩
  obtain ⟨p, hp⟩ : ∃ p, p = q.takeWhile (· != e) := ⟨_, rfl⟩
  have htk : r.rest.take (min r.rest.length 21) = q := by
    rw [hq, List.take_eq_take_iff]; omega
  have hix := indexByte_take q e
  rw [← hp] at hix
  have hple : p.length ≤ q.length := by rw [hp]; exact (List.takeWhile_prefix _).length_le
  have hpl21 : q.length ≤ 21 := by rw [hq]; exact List.length_take_le ..
  have hpr : q.length ≤ r.rest.length := by rw [hq, List.length_take]; omega
  have hnum : rdNumber r e least = if p.length < q.length then (match canon p with | some n => if n < least then (0, failed) else (n, ⟨r.rest.drop (p.length + 1), r.bad⟩) | none => (0, failed)) else (0, failed) := by rw [hp, hq]; rfl
  have hsl : q.take p.length = p := by rw [hp]; exact take_twl _ _
  have fin : ∀ w2, Below w1.heap.size w1 w2 → rdNumber r e least = (0, failed) → callM Tryd.prog 70 #[.pointer (some ⟨b, 0, none⟩)] (fun _ w => K (.int .i64 0) w) w2 := by
    intro w2 hb2 hn
    refine fail_ok b _ (hr1.below hb2 hr1.lt) ?_
    intro w3 hr3 hg3
    have := k w3 (by rw [hn]; exact hr3) (grownBy_trans hg1 (grownBy_trans (grown_of_below hb2 _) hg3))
    rw [hn] at this
    exact this
  clear hp hq
  repeat (any_goals (first
  | (with_reducible refine pureM_in ?_)
  | (with_reducible first|refine pureQ_in ?_|refine gdQ_conv (fun _ => ?_)|refine pickQT ?_|refine pickQF ?_|refine pickQ_pos (by first|assumption|omega) ?_|refine pickQ_neg (by first|assumption|omega) ?_|refine pickQn_pos (by first|assumption|omega) ?_|refine pickQn_neg (by first|assumption|omega) ?_) | ((with_reducible refine oQ_one ?_ ?_); exact ⟨_, rfl⟩) | (with_reducible first|refine And.intro (Eq.refl (α := World) _) ?_|refine forall_one ?_|refine oQ_nil ?_) | (with_reducible refine oQ_of ⟨_, rfl⟩ (fun W0 hW0 => by (refine oM_gen (fun Kv hK => ?_)); simp [go_sem]; (first | exact hK _ _ ⟨rfl, rfl⟩ | exact ⟨by omega, hK _ _ ⟨rfl, rfl⟩⟩)) ?_)
  | (with_reducible first|refine gdtT ?_|refine gdtF ?_|refine gdfF ?_|refine gdfT ?_|refine gdu ?_ _|refine gdt_pos (by first|assumption|omega) ?_|refine gdt_neg (by first|assumption|omega) ?_|refine gdt_split (fun hg => ?_) (fun hg => ?_)|refine gdf_pos (by first|assumption|omega) ?_|refine gdf_neg (by first|assumption|omega) ?_|refine gdf_split (fun hg => ?_) (fun hg => ?_)|refine gdtn_pos (by first|assumption|omega) ?_|refine gdtn_neg (by first|assumption|omega) ?_|refine gdtn_split (fun hg => ?_) (fun hg => ?_)|refine gdfn_pos (by first|assumption|omega) ?_|refine gdfn_neg (by first|assumption|omega) ?_|refine gdfn_split (fun hg => ?_) (fun hg => ?_)|refine gdtbn_pos (by assumption) ?_|refine gdtbn_neg (by assumption) ?_|refine gdfbn_pos (by assumption) ?_|refine gdfbn_neg (by assumption) ?_|refine gdtb_pos (by assumption) ?_|refine gdtb_neg (by assumption) ?_|refine gdtb_split (fun hg => ?_) (fun hg => ?_)|refine gdfb_pos (by assumption) ?_|refine gdfb_neg (by assumption) ?_|refine gdfb_split (fun hg => ?_) (fun hg => ?_)|refine pickT ?_|refine pickF ?_|refine pick_pos (by first|assumption|omega) ?_|refine pick_neg (by first|assumption|omega) ?_|refine pickn_pos (by first|assumption|omega) ?_|refine pickn_neg (by first|assumption|omega) ?_|refine pickbn_pos (by assumption) ?_|refine pickbn_neg (by assumption) ?_|refine pickb_pos (by assumption) ?_|refine pickb_neg (by assumption) ?_|refine condT ?_|refine condF ?_|refine cond_pos (by first|assumption|omega) ?_|refine cond_neg (by first|assumption|omega) ?_|refine condM_dec (fun hg => ?_) (fun hg => ?_)|refine condn_pos (by first|assumption|omega) ?_|refine condn_neg (by first|assumption|omega) ?_|refine condM_ndec (fun hg => ?_) (fun hg => ?_)|refine condbn_pos (by assumption) ?_|refine condbn_neg (by assumption) ?_|refine condbn_split (fun hg => ?_) (fun hg => ?_)|refine condb_pos (by assumption) ?_|refine condb_neg (by assumption) ?_|refine condM_b (fun hg => ?_) (fun hg => ?_))
  | ((with_reducible refine oM_gen (fun Kv hK => ?_)); simp [go_sem, h0, hmin, htk]; (try simp (disch := omega) only [wrapI64, wrapU8, wrapU32, wrapU64]); (first | refine hK _ _ ?_ | refine And.intro (by omega) (hK _ _ ?_)); clear hK; clear Kv)))
  refine indexByte_ok _ e ?_
  rw [hix]
  by_cases hlt : p.length < q.length
  · rw [if_pos hlt] at hnum ⊢
    repeat (any_goals (first
    | (with_reducible refine pureM_in ?_)
    | (with_reducible first|refine pureQ_in ?_|refine gdQ_conv (fun _ => ?_)|refine pickQT ?_|refine pickQF ?_|refine pickQ_pos (by first|assumption|omega) ?_|refine pickQ_neg (by first|assumption|omega) ?_|refine pickQn_pos (by first|assumption|omega) ?_|refine pickQn_neg (by first|assumption|omega) ?_) | ((with_reducible refine oQ_one ?_ ?_); exact ⟨_, rfl⟩) | (with_reducible first|refine And.intro (Eq.refl (α := World) _) ?_|refine forall_one ?_|refine oQ_nil ?_) | (with_reducible refine oQ_of ⟨_, rfl⟩ (fun W0 hW0 => by (refine oM_gen (fun Kv hK => ?_)); simp [go_sem]; (first | exact hK _ _ ⟨rfl, rfl⟩ | exact ⟨by omega, hK _ _ ⟨rfl, rfl⟩⟩)) ?_)
    | (with_reducible first|refine gdtT ?_|refine gdtF ?_|refine gdfF ?_|refine gdfT ?_|refine gdu ?_ _|refine gdt_pos (by first|assumption|omega) ?_|refine gdt_neg (by first|assumption|omega) ?_|refine gdt_split (fun hg => ?_) (fun hg => ?_)|refine gdf_pos (by first|assumption|omega) ?_|refine gdf_neg (by first|assumption|omega) ?_|refine gdf_split (fun hg => ?_) (fun hg => ?_)|refine gdtn_pos (by first|assumption|omega) ?_|refine gdtn_neg (by first|assumption|omega) ?_|refine gdtn_split (fun hg => ?_) (fun hg => ?_)|refine gdfn_pos (by first|assumption|omega) ?_|refine gdfn_neg (by first|assumption|omega) ?_|refine gdfn_split (fun hg => ?_) (fun hg => ?_)|refine gdtbn_pos (by assumption) ?_|refine gdtbn_neg (by assumption) ?_|refine gdfbn_pos (by assumption) ?_|refine gdfbn_neg (by assumption) ?_|refine gdtb_pos (by assumption) ?_|refine gdtb_neg (by assumption) ?_|refine gdtb_split (fun hg => ?_) (fun hg => ?_)|refine gdfb_pos (by assumption) ?_|refine gdfb_neg (by assumption) ?_|refine gdfb_split (fun hg => ?_) (fun hg => ?_)|refine pickT ?_|refine pickF ?_|refine pick_pos (by first|assumption|omega) ?_|refine pick_neg (by first|assumption|omega) ?_|refine pickn_pos (by first|assumption|omega) ?_|refine pickn_neg (by first|assumption|omega) ?_|refine pickbn_pos (by assumption) ?_|refine pickbn_neg (by assumption) ?_|refine pickb_pos (by assumption) ?_|refine pickb_neg (by assumption) ?_|refine condT ?_|refine condF ?_|refine cond_pos (by first|assumption|omega) ?_|refine cond_neg (by first|assumption|omega) ?_|refine condM_dec (fun hg => ?_) (fun hg => ?_)|refine condn_pos (by first|assumption|omega) ?_|refine condn_neg (by first|assumption|omega) ?_|refine condM_ndec (fun hg => ?_) (fun hg => ?_)|refine condbn_pos (by assumption) ?_|refine condbn_neg (by assumption) ?_|refine condbn_split (fun hg => ?_) (fun hg => ?_)|refine condb_pos (by assumption) ?_|refine condb_neg (by assumption) ?_|refine condM_b (fun hg => ?_) (fun hg => ?_))
    | ((with_reducible refine oM_gen (fun Kv hK => ?_)); simp [go_sem, hsl]; (try simp (disch := omega) only [wrapI64, wrapU8, wrapU32, wrapU64]); (first | refine hK _ _ ?_ | refine And.intro (by omega) (hK _ _ ?_)); clear hK; clear Kv)))
    refine atoi_ok p (by omega) hl1 (fun n w2 hn hb2 => ?_) (fun v te pe w2 hn hb2 => ?_)
    · have hinr := atoiAll_bounds hn
      have hcan : canon p = if itoa n = p then some n else none := by unfold canon; rw [hn]
      repeat (any_goals (first
      | (with_reducible refine pureM_in ?_)
      | (with_reducible first|refine pureQ_in ?_|refine gdQ_conv (fun _ => ?_)|refine pickQT ?_|refine pickQF ?_|refine pickQ_pos (by first|assumption|omega) ?_|refine pickQ_neg (by first|assumption|omega) ?_|refine pickQn_pos (by first|assumption|omega) ?_|refine pickQn_neg (by first|assumption|omega) ?_) | ((with_reducible refine oQ_one ?_ ?_); exact ⟨_, rfl⟩) | (with_reducible first|refine And.intro (Eq.refl (α := World) _) ?_|refine forall_one ?_|refine oQ_nil ?_) | (with_reducible refine oQ_of ⟨_, rfl⟩ (fun W0 hW0 => by (refine oM_gen (fun Kv hK => ?_)); simp [go_sem]; (first | exact hK _ _ ⟨rfl, rfl⟩ | exact ⟨by omega, hK _ _ ⟨rfl, rfl⟩⟩)) ?_)
      | (with_reducible first|refine gdtT ?_|refine gdtF ?_|refine gdfF ?_|refine gdfT ?_|refine gdu ?_ _|refine gdt_pos (by first|assumption|omega) ?_|refine gdt_neg (by first|assumption|omega) ?_|refine gdt_split (fun hg => ?_) (fun hg => ?_)|refine gdf_pos (by first|assumption|omega) ?_|refine gdf_neg (by first|assumption|omega) ?_|refine gdf_split (fun hg => ?_) (fun hg => ?_)|refine gdtn_pos (by first|assumption|omega) ?_|refine gdtn_neg (by first|assumption|omega) ?_|refine gdtn_split (fun hg => ?_) (fun hg => ?_)|refine gdfn_pos (by first|assumption|omega) ?_|refine gdfn_neg (by first|assumption|omega) ?_|refine gdfn_split (fun hg => ?_) (fun hg => ?_)|refine gdtbn_pos (by assumption) ?_|refine gdtbn_neg (by assumption) ?_|refine gdfbn_pos (by assumption) ?_|refine gdfbn_neg (by assumption) ?_|refine gdtb_pos (by assumption) ?_|refine gdtb_neg (by assumption) ?_|refine gdtb_split (fun hg => ?_) (fun hg => ?_)|refine gdfb_pos (by assumption) ?_|refine gdfb_neg (by assumption) ?_|refine gdfb_split (fun hg => ?_) (fun hg => ?_)|refine pickT ?_|refine pickF ?_|refine pick_pos (by first|assumption|omega) ?_|refine pick_neg (by first|assumption|omega) ?_|refine pickn_pos (by first|assumption|omega) ?_|refine pickn_neg (by first|assumption|omega) ?_|refine pickbn_pos (by assumption) ?_|refine pickbn_neg (by assumption) ?_|refine pickb_pos (by assumption) ?_|refine pickb_neg (by assumption) ?_|refine condT ?_|refine condF ?_|refine cond_pos (by first|assumption|omega) ?_|refine cond_neg (by first|assumption|omega) ?_|refine condM_dec (fun hg => ?_) (fun hg => ?_)|refine condn_pos (by first|assumption|omega) ?_|refine condn_neg (by first|assumption|omega) ?_|refine condM_ndec (fun hg => ?_) (fun hg => ?_)|refine condbn_pos (by assumption) ?_|refine condbn_neg (by assumption) ?_|refine condbn_split (fun hg => ?_) (fun hg => ?_)|refine condb_pos (by assumption) ?_|refine condb_neg (by assumption) ?_|refine condM_b (fun hg => ?_) (fun hg => ?_))
      | ((with_reducible refine oM_gen (fun Kv hK => ?_)); simp [go_sem]; (try simp (disch := omega) only [wrapI64, wrapU8, wrapU32, wrapU64]); (first | refine hK _ _ ?_ | refine And.intro (by omega) (hK _ _ ?_)); clear hK; clear Kv)))
      refine ⟨fun w' => Below w2.heap.size w2 w', ⟨rfl, rfl, rfl, Nat.le_refl _, fun _ _ => rfl⟩, ?_⟩
      repeat (any_goals (first
      | (with_reducible refine pureM_in ?_)
      | (with_reducible first|refine pureQ_in ?_|refine gdQ_conv (fun _ => ?_)|refine pickQT ?_|refine pickQF ?_|refine pickQ_pos (by first|assumption|omega) ?_|refine pickQ_neg (by first|assumption|omega) ?_|refine pickQn_pos (by first|assumption|omega) ?_|refine pickQn_neg (by first|assumption|omega) ?_) | ((with_reducible refine oQ_one ?_ ?_); exact ⟨_, rfl⟩) | (with_reducible first|refine And.intro (Eq.refl (α := World) _) ?_|refine forall_one ?_|refine oQ_nil ?_) | (with_reducible refine oQ_of ⟨_, rfl⟩ (fun W0 hW0 => by (refine oM_gen (fun Kv hK => ?_)); simp [go_sem, oM_nec, eqGuard]; (first | exact hK _ _ ⟨rfl, rfl⟩ | exact ⟨by omega, hK _ _ ⟨rfl, rfl⟩⟩)) ?_)
      | (with_reducible first|refine gdtT ?_|refine gdtF ?_|refine gdfF ?_|refine gdfT ?_|refine gdu ?_ _|refine gdt_pos (by first|assumption|omega) ?_|refine gdt_neg (by first|assumption|omega) ?_|refine gdt_split (fun hg => ?_) (fun hg => ?_)|refine gdf_pos (by first|assumption|omega) ?_|refine gdf_neg (by first|assumption|omega) ?_|refine gdf_split (fun hg => ?_) (fun hg => ?_)|refine gdtn_pos (by first|assumption|omega) ?_|refine gdtn_neg (by first|assumption|omega) ?_|refine gdtn_split (fun hg => ?_) (fun hg => ?_)|refine gdfn_pos (by first|assumption|omega) ?_|refine gdfn_neg (by first|assumption|omega) ?_|refine gdfn_split (fun hg => ?_) (fun hg => ?_)|refine gdtbn_pos (by assumption) ?_|refine gdtbn_neg (by assumption) ?_|refine gdfbn_pos (by assumption) ?_|refine gdfbn_neg (by assumption) ?_|refine gdtb_pos (by assumption) ?_|refine gdtb_neg (by assumption) ?_|refine gdtb_split (fun hg => ?_) (fun hg => ?_)|refine gdfb_pos (by assumption) ?_|refine gdfb_neg (by assumption) ?_|refine gdfb_split (fun hg => ?_) (fun hg => ?_)|refine pickT ?_|refine pickF ?_|refine pick_pos (by first|assumption|omega) ?_|refine pick_neg (by first|assumption|omega) ?_|refine pickn_pos (by first|assumption|omega) ?_|refine pickn_neg (by first|assumption|omega) ?_|refine pickbn_pos (by assumption) ?_|refine pickbn_neg (by assumption) ?_|refine pickb_pos (by assumption) ?_|refine pickb_neg (by assumption) ?_|refine condT ?_|refine condF ?_|refine cond_pos (by first|assumption|omega) ?_|refine cond_neg (by first|assumption|omega) ?_|refine condM_dec (fun hg => ?_) (fun hg => ?_)|refine condn_pos (by first|assumption|omega) ?_|refine condn_neg (by first|assumption|omega) ?_|refine condM_ndec (fun hg => ?_) (fun hg => ?_)|refine condbn_pos (by assumption) ?_|refine condbn_neg (by assumption) ?_|refine condbn_split (fun hg => ?_) (fun hg => ?_)|refine condb_pos (by assumption) ?_|refine condb_neg (by assumption) ?_|refine condM_b (fun hg => ?_) (fun hg => ?_))
      | ((with_reducible refine oM_gen (fun Kv hK => ?_)); simp [go_sem, oM_nec, eqGuard]; (try simp (disch := omega) only [wrapI64, wrapU8, wrapU32, wrapU64]); (first | refine hK _ _ ?_ | refine And.intro (by omega) (hK _ _ ?_)); clear hK; clear Kv)))
      refine callQ_of (C := fun w0 => Below w2.heap.size w2 w0) (v := .string ⟨(itoa n).toArray⟩) (fun w3 hw3 => itoa_ok n hinr (hl1.below (hb2.trans (hw3.mono hb2.size)) hl1.size) (fun w4 hb4 => ⟨rfl, hw3.trans (hb4.mono hw3.size)⟩)) ?_
      repeat (any_goals (first
      | (with_reducible refine pureM_in ?_)
      | (with_reducible first|refine pureQ_in ?_|refine gdQ_conv (fun _ => ?_)|refine pickQT ?_|refine pickQF ?_|refine pickQ_pos (by first|assumption|omega) ?_|refine pickQ_neg (by first|assumption|omega) ?_|refine pickQn_pos (by first|assumption|omega) ?_|refine pickQn_neg (by first|assumption|omega) ?_) | ((with_reducible refine oQ_one ?_ ?_); exact ⟨_, rfl⟩) | (with_reducible first|refine And.intro (Eq.refl (α := World) _) ?_|refine forall_one ?_|refine oQ_nil ?_) | (with_reducible refine oQ_of ⟨_, rfl⟩ (fun W0 hW0 => by (refine oM_gen (fun Kv hK => ?_)); simp [go_sem, hsl]; (first | exact hK _ _ ⟨rfl, rfl⟩ | exact ⟨by omega, hK _ _ ⟨rfl, rfl⟩⟩)) ?_)
      | (with_reducible first|refine gdtT ?_|refine gdtF ?_|refine gdfF ?_|refine gdfT ?_|refine gdu ?_ _|refine gdt_pos (by first|assumption|omega) ?_|refine gdt_neg (by first|assumption|omega) ?_|refine gdt_split (fun hg => ?_) (fun hg => ?_)|refine gdf_pos (by first|assumption|omega) ?_|refine gdf_neg (by first|assumption|omega) ?_|refine gdf_split (fun hg => ?_) (fun hg => ?_)|refine gdtn_pos (by first|assumption|omega) ?_|refine gdtn_neg (by first|assumption|omega) ?_|refine gdtn_split (fun hg => ?_) (fun hg => ?_)|refine gdfn_pos (by first|assumption|omega) ?_|refine gdfn_neg (by first|assumption|omega) ?_|refine gdfn_split (fun hg => ?_) (fun hg => ?_)|refine gdtbn_pos (by assumption) ?_|refine gdtbn_neg (by assumption) ?_|refine gdfbn_pos (by assumption) ?_|refine gdfbn_neg (by assumption) ?_|refine gdtb_pos (by assumption) ?_|refine gdtb_neg (by assumption) ?_|refine gdtb_split (fun hg => ?_) (fun hg => ?_)|refine gdfb_pos (by assumption) ?_|refine gdfb_neg (by assumption) ?_|refine gdfb_split (fun hg => ?_) (fun hg => ?_)|refine pickT ?_|refine pickF ?_|refine pick_pos (by first|assumption|omega) ?_|refine pick_neg (by first|assumption|omega) ?_|refine pickn_pos (by first|assumption|omega) ?_|refine pickn_neg (by first|assumption|omega) ?_|refine pickbn_pos (by assumption) ?_|refine pickbn_neg (by assumption) ?_|refine pickb_pos (by assumption) ?_|refine pickb_neg (by assumption) ?_|refine condT ?_|refine condF ?_|refine cond_pos (by first|assumption|omega) ?_|refine cond_neg (by first|assumption|omega) ?_|refine condM_dec (fun hg => ?_) (fun hg => ?_)|refine condn_pos (by first|assumption|omega) ?_|refine condn_neg (by first|assumption|omega) ?_|refine condM_ndec (fun hg => ?_) (fun hg => ?_)|refine condbn_pos (by assumption) ?_|refine condbn_neg (by assumption) ?_|refine condbn_split (fun hg => ?_) (fun hg => ?_)|refine condb_pos (by assumption) ?_|refine condb_neg (by assumption) ?_|refine condM_b (fun hg => ?_) (fun hg => ?_))
      | ((with_reducible refine oM_gen (fun Kv hK => ?_)); simp [go_sem, hsl]; (try simp (disch := omega) only [wrapI64, wrapU8, wrapU32, wrapU64]); (first | refine hK _ _ ?_ | refine And.intro (by omega) (hK _ _ ?_)); clear hK; clear Kv)))
      · rw [hcan, if_pos hg] at hnum
        intro w3 hw3
        have hb3 : Below w1.heap.size w1 w3 := hb2.trans (hw3.mono hb2.size)
        have hr3 := hr1.below hb3 hr1.lt
        have h3 := hr3.c0
        have f3 := hr3.fz 0
        simp only at hnum
        by_cases hle : n < least
        · rw [if_pos hle] at hnum
          repeat (any_goals (first
          | (with_reducible refine pureM_in ?_)
          | (with_reducible first|refine pureQ_in ?_|refine gdQ_conv (fun _ => ?_)|refine pickQT ?_|refine pickQF ?_|refine pickQ_pos (by first|assumption|omega) ?_|refine pickQ_neg (by first|assumption|omega) ?_|refine pickQn_pos (by first|assumption|omega) ?_|refine pickQn_neg (by first|assumption|omega) ?_) | ((with_reducible refine oQ_one ?_ ?_); exact ⟨_, rfl⟩) | (with_reducible first|refine And.intro (Eq.refl (α := World) _) ?_|refine forall_one ?_|refine oQ_nil ?_) | (with_reducible refine oQ_of ⟨_, rfl⟩ (fun W0 hW0 => by (refine oM_gen (fun Kv hK => ?_)); simp [go_sem]; (first | exact hK _ _ ⟨rfl, rfl⟩ | exact ⟨by omega, hK _ _ ⟨rfl, rfl⟩⟩)) ?_)
          | (with_reducible refine fin _ hb3 hnum)
          | (with_reducible first|refine gdtT ?_|refine gdtF ?_|refine gdfF ?_|refine gdfT ?_|refine gdu ?_ _|refine gdt_pos (by first|assumption|omega) ?_|refine gdt_neg (by first|assumption|omega) ?_|refine gdt_split (fun hg => ?_) (fun hg => ?_)|refine gdf_pos (by first|assumption|omega) ?_|refine gdf_neg (by first|assumption|omega) ?_|refine gdf_split (fun hg => ?_) (fun hg => ?_)|refine gdtn_pos (by first|assumption|omega) ?_|refine gdtn_neg (by first|assumption|omega) ?_|refine gdtn_split (fun hg => ?_) (fun hg => ?_)|refine gdfn_pos (by first|assumption|omega) ?_|refine gdfn_neg (by first|assumption|omega) ?_|refine gdfn_split (fun hg => ?_) (fun hg => ?_)|refine gdtbn_pos (by assumption) ?_|refine gdtbn_neg (by assumption) ?_|refine gdfbn_pos (by assumption) ?_|refine gdfbn_neg (by assumption) ?_|refine gdtb_pos (by assumption) ?_|refine gdtb_neg (by assumption) ?_|refine gdtb_split (fun hg => ?_) (fun hg => ?_)|refine gdfb_pos (by assumption) ?_|refine gdfb_neg (by assumption) ?_|refine gdfb_split (fun hg => ?_) (fun hg => ?_)|refine pickT ?_|refine pickF ?_|refine pick_pos (by first|assumption|omega) ?_|refine pick_neg (by first|assumption|omega) ?_|refine pickn_pos (by first|assumption|omega) ?_|refine pickn_neg (by first|assumption|omega) ?_|refine pickbn_pos (by assumption) ?_|refine pickbn_neg (by assumption) ?_|refine pickb_pos (by assumption) ?_|refine pickb_neg (by assumption) ?_|refine condT ?_|refine condF ?_|refine cond_pos (by first|assumption|omega) ?_|refine cond_neg (by first|assumption|omega) ?_|refine condM_dec (fun hg => ?_) (fun hg => ?_)|refine condn_pos (by first|assumption|omega) ?_|refine condn_neg (by first|assumption|omega) ?_|refine condM_ndec (fun hg => ?_) (fun hg => ?_)|refine condbn_pos (by assumption) ?_|refine condbn_neg (by assumption) ?_|refine condbn_split (fun hg => ?_) (fun hg => ?_)|refine condb_pos (by assumption) ?_|refine condb_neg (by assumption) ?_|refine condM_b (fun hg => ?_) (fun hg => ?_))
          | ((with_reducible refine oM_gen (fun Kv hK => ?_)); simp [go_sem]; (try simp (disch := omega) only [wrapI64, wrapU8, wrapU32, wrapU64]); (first | refine hK _ _ ?_ | refine And.intro (by omega) (hK _ _ ?_)); clear hK; clear Kv)))
        · rw [if_neg hle] at hnum
          repeat (any_goals (first
          | (with_reducible refine pureM_in ?_)
          | (with_reducible first|refine pureQ_in ?_|refine gdQ_conv (fun _ => ?_)|refine pickQT ?_|refine pickQF ?_|refine pickQ_pos (by first|assumption|omega) ?_|refine pickQ_neg (by first|assumption|omega) ?_|refine pickQn_pos (by first|assumption|omega) ?_|refine pickQn_neg (by first|assumption|omega) ?_) | ((with_reducible refine oQ_one ?_ ?_); exact ⟨_, rfl⟩) | (with_reducible first|refine And.intro (Eq.refl (α := World) _) ?_|refine forall_one ?_|refine oQ_nil ?_) | (with_reducible refine oQ_of ⟨_, rfl⟩ (fun W0 hW0 => by (refine oM_gen (fun Kv hK => ?_)); simp [go_sem]; (first | exact hK _ _ ⟨rfl, rfl⟩ | exact ⟨by omega, hK _ _ ⟨rfl, rfl⟩⟩)) ?_)
          | (with_reducible first|refine gdtT ?_|refine gdtF ?_|refine gdfF ?_|refine gdfT ?_|refine gdu ?_ _|refine gdt_pos (by first|assumption|omega) ?_|refine gdt_neg (by first|assumption|omega) ?_|refine gdt_split (fun hg => ?_) (fun hg => ?_)|refine gdf_pos (by first|assumption|omega) ?_|refine gdf_neg (by first|assumption|omega) ?_|refine gdf_split (fun hg => ?_) (fun hg => ?_)|refine gdtn_pos (by first|assumption|omega) ?_|refine gdtn_neg (by first|assumption|omega) ?_|refine gdtn_split (fun hg => ?_) (fun hg => ?_)|refine gdfn_pos (by first|assumption|omega) ?_|refine gdfn_neg (by first|assumption|omega) ?_|refine gdfn_split (fun hg => ?_) (fun hg => ?_)|refine gdtbn_pos (by assumption) ?_|refine gdtbn_neg (by assumption) ?_|refine gdfbn_pos (by assumption) ?_|refine gdfbn_neg (by assumption) ?_|refine gdtb_pos (by assumption) ?_|refine gdtb_neg (by assumption) ?_|refine gdtb_split (fun hg => ?_) (fun hg => ?_)|refine gdfb_pos (by assumption) ?_|refine gdfb_neg (by assumption) ?_|refine gdfb_split (fun hg => ?_) (fun hg => ?_)|refine pickT ?_|refine pickF ?_|refine pick_pos (by first|assumption|omega) ?_|refine pick_neg (by first|assumption|omega) ?_|refine pickn_pos (by first|assumption|omega) ?_|refine pickn_neg (by first|assumption|omega) ?_|refine pickbn_pos (by assumption) ?_|refine pickbn_neg (by assumption) ?_|refine pickb_pos (by assumption) ?_|refine pickb_neg (by assumption) ?_|refine condT ?_|refine condF ?_|refine cond_pos (by first|assumption|omega) ?_|refine cond_neg (by first|assumption|omega) ?_|refine condM_dec (fun hg => ?_) (fun hg => ?_)|refine condn_pos (by first|assumption|omega) ?_|refine condn_neg (by first|assumption|omega) ?_|refine condM_ndec (fun hg => ?_) (fun hg => ?_)|refine condbn_pos (by assumption) ?_|refine condbn_neg (by assumption) ?_|refine condbn_split (fun hg => ?_) (fun hg => ?_)|refine condb_pos (by assumption) ?_|refine condb_neg (by assumption) ?_|refine condM_b (fun hg => ?_) (fun hg => ?_))
          | ((with_reducible refine oM_gen (fun Kv hK => ?_)); simp [go_sem, h3, f3]; (try simp (disch := omega) only [wrapI64, wrapU8, wrapU32, wrapU64]); (first | refine hK _ _ ?_ | refine And.intro (by omega) (hK _ _ ?_)); clear hK; clear Kv)))
          have := k _ (by rw [hnum]; exact hr3.set0 _) (grownBy_trans hg1 (grownBy_trans (grown_of_below hb3 _) (grown_set _ _ _ _)))
          rw [hnum] at this
          exact this
      · rw [hcan, if_neg hg] at hnum
        simp only at hnum
        intro w3 hw3
        repeat (any_goals (first
        | (with_reducible refine pureM_in ?_)
        | (with_reducible first|refine pureQ_in ?_|refine gdQ_conv (fun _ => ?_)|refine pickQT ?_|refine pickQF ?_|refine pickQ_pos (by first|assumption|omega) ?_|refine pickQ_neg (by first|assumption|omega) ?_|refine pickQn_pos (by first|assumption|omega) ?_|refine pickQn_neg (by first|assumption|omega) ?_) | ((with_reducible refine oQ_one ?_ ?_); exact ⟨_, rfl⟩) | (with_reducible first|refine And.intro (Eq.refl (α := World) _) ?_|refine forall_one ?_|refine oQ_nil ?_) | (with_reducible refine oQ_of ⟨_, rfl⟩ (fun W0 hW0 => by (refine oM_gen (fun Kv hK => ?_)); simp [go_sem]; (first | exact hK _ _ ⟨rfl, rfl⟩ | exact ⟨by omega, hK _ _ ⟨rfl, rfl⟩⟩)) ?_)
        | (with_reducible refine fin _ (hb2.trans (hw3.mono hb2.size)) hnum)
        | (with_reducible first|refine gdtT ?_|refine gdtF ?_|refine gdfF ?_|refine gdfT ?_|refine gdu ?_ _|refine gdt_pos (by first|assumption|omega) ?_|refine gdt_neg (by first|assumption|omega) ?_|refine gdt_split (fun hg => ?_) (fun hg => ?_)|refine gdf_pos (by first|assumption|omega) ?_|refine gdf_neg (by first|assumption|omega) ?_|refine gdf_split (fun hg => ?_) (fun hg => ?_)|refine gdtn_pos (by first|assumption|omega) ?_|refine gdtn_neg (by first|assumption|omega) ?_|refine gdtn_split (fun hg => ?_) (fun hg => ?_)|refine gdfn_pos (by first|assumption|omega) ?_|refine gdfn_neg (by first|assumption|omega) ?_|refine gdfn_split (fun hg => ?_) (fun hg => ?_)|refine gdtbn_pos (by assumption) ?_|refine gdtbn_neg (by assumption) ?_|refine gdfbn_pos (by assumption) ?_|refine gdfbn_neg (by assumption) ?_|refine gdtb_pos (by assumption) ?_|refine gdtb_neg (by assumption) ?_|refine gdtb_split (fun hg => ?_) (fun hg => ?_)|refine gdfb_pos (by assumption) ?_|refine gdfb_neg (by assumption) ?_|refine gdfb_split (fun hg => ?_) (fun hg => ?_)|refine pickT ?_|refine pickF ?_|refine pick_pos (by first|assumption|omega) ?_|refine pick_neg (by first|assumption|omega) ?_|refine pickn_pos (by first|assumption|omega) ?_|refine pickn_neg (by first|assumption|omega) ?_|refine pickbn_pos (by assumption) ?_|refine pickbn_neg (by assumption) ?_|refine pickb_pos (by assumption) ?_|refine pickb_neg (by assumption) ?_|refine condT ?_|refine condF ?_|refine cond_pos (by first|assumption|omega) ?_|refine cond_neg (by first|assumption|omega) ?_|refine condM_dec (fun hg => ?_) (fun hg => ?_)|refine condn_pos (by first|assumption|omega) ?_|refine condn_neg (by first|assumption|omega) ?_|refine condM_ndec (fun hg => ?_) (fun hg => ?_)|refine condbn_pos (by assumption) ?_|refine condbn_neg (by assumption) ?_|refine condbn_split (fun hg => ?_) (fun hg => ?_)|refine condb_pos (by assumption) ?_|refine condb_neg (by assumption) ?_|refine condM_b (fun hg => ?_) (fun hg => ?_))
        | ((with_reducible refine oM_gen (fun Kv hK => ?_)); simp [go_sem]; (try simp (disch := omega) only [wrapI64, wrapU8, wrapU32, wrapU64]); (first | refine hK _ _ ?_ | refine And.intro (by omega) (hK _ _ ?_)); clear hK; clear Kv)))
    · have hcan : canon p = none := by
        unfold canon
        cases hc : atoiAll p with
        | ok n => exact absurd hc (hn n)
        | «syntax» => rfl
        | range => rfl
      rw [hcan] at hnum
      simp only at hnum
      repeat (any_goals (first
      | (with_reducible refine pureM_in ?_)
      | (with_reducible first|refine pureQ_in ?_|refine gdQ_conv (fun _ => ?_)|refine pickQT ?_|refine pickQF ?_|refine pickQ_pos (by first|assumption|omega) ?_|refine pickQ_neg (by first|assumption|omega) ?_|refine pickQn_pos (by first|assumption|omega) ?_|refine pickQn_neg (by first|assumption|omega) ?_) | ((with_reducible refine oQ_one ?_ ?_); exact ⟨_, rfl⟩) | (with_reducible first|refine And.intro (Eq.refl (α := World) _) ?_|refine forall_one ?_|refine oQ_nil ?_) | (with_reducible refine oQ_of ⟨_, rfl⟩ (fun W0 hW0 => by (refine oM_gen (fun Kv hK => ?_)); simp [go_sem]; (first | exact hK _ _ ⟨rfl, rfl⟩ | exact ⟨by omega, hK _ _ ⟨rfl, rfl⟩⟩)) ?_)
      | (with_reducible first|refine gdtT ?_|refine gdtF ?_|refine gdfF ?_|refine gdfT ?_|refine gdu ?_ _|refine gdt_pos (by first|assumption|omega) ?_|refine gdt_neg (by first|assumption|omega) ?_|refine gdt_split (fun hg => ?_) (fun hg => ?_)|refine gdf_pos (by first|assumption|omega) ?_|refine gdf_neg (by first|assumption|omega) ?_|refine gdf_split (fun hg => ?_) (fun hg => ?_)|refine gdtn_pos (by first|assumption|omega) ?_|refine gdtn_neg (by first|assumption|omega) ?_|refine gdtn_split (fun hg => ?_) (fun hg => ?_)|refine gdfn_pos (by first|assumption|omega) ?_|refine gdfn_neg (by first|assumption|omega) ?_|refine gdfn_split (fun hg => ?_) (fun hg => ?_)|refine gdtbn_pos (by assumption) ?_|refine gdtbn_neg (by assumption) ?_|refine gdfbn_pos (by assumption) ?_|refine gdfbn_neg (by assumption) ?_|refine gdtb_pos (by assumption) ?_|refine gdtb_neg (by assumption) ?_|refine gdtb_split (fun hg => ?_) (fun hg => ?_)|refine gdfb_pos (by assumption) ?_|refine gdfb_neg (by assumption) ?_|refine gdfb_split (fun hg => ?_) (fun hg => ?_)|refine pickT ?_|refine pickF ?_|refine pick_pos (by first|assumption|omega) ?_|refine pick_neg (by first|assumption|omega) ?_|refine pickn_pos (by first|assumption|omega) ?_|refine pickn_neg (by first|assumption|omega) ?_|refine pickbn_pos (by assumption) ?_|refine pickbn_neg (by assumption) ?_|refine pickb_pos (by assumption) ?_|refine pickb_neg (by assumption) ?_|refine condT ?_|refine condF ?_|refine cond_pos (by first|assumption|omega) ?_|refine cond_neg (by first|assumption|omega) ?_|refine condM_dec (fun hg => ?_) (fun hg => ?_)|refine condn_pos (by first|assumption|omega) ?_|refine condn_neg (by first|assumption|omega) ?_|refine condM_ndec (fun hg => ?_) (fun hg => ?_)|refine condbn_pos (by assumption) ?_|refine condbn_neg (by assumption) ?_|refine condbn_split (fun hg => ?_) (fun hg => ?_)|refine condb_pos (by assumption) ?_|refine condb_neg (by assumption) ?_|refine condM_b (fun hg => ?_) (fun hg => ?_))
      | ((with_reducible refine oM_gen (fun Kv hK => ?_)); simp [go_sem]; (try simp (disch := omega) only [wrapI64, wrapU8, wrapU32, wrapU64]); (first | refine hK _ _ ?_ | refine And.intro (by omega) (hK _ _ ?_)); clear hK; clear Kv)))
      refine quietM_one ?_
      repeat (any_goals (first
      | (with_reducible refine pureM_in ?_)
      | (with_reducible first|refine pureQ_in ?_|refine gdQ_conv (fun _ => ?_)|refine pickQT ?_|refine pickQF ?_|refine pickQ_pos (by first|assumption|omega) ?_|refine pickQ_neg (by first|assumption|omega) ?_|refine pickQn_pos (by first|assumption|omega) ?_|refine pickQn_neg (by first|assumption|omega) ?_) | ((with_reducible refine oQ_one ?_ ?_); exact ⟨_, rfl⟩) | (with_reducible first|refine And.intro (Eq.refl (α := World) _) ?_|refine forall_one ?_|refine oQ_nil ?_) | (with_reducible refine oQ_of ⟨_, rfl⟩ (fun W0 hW0 => by (refine oM_gen (fun Kv hK => ?_)); simp [go_sem, oM_nec, eqGuard]; (first | exact hK _ _ ⟨rfl, rfl⟩ | exact ⟨by omega, hK _ _ ⟨rfl, rfl⟩⟩)) ?_)
      | (with_reducible first|refine gdtT ?_|refine gdtF ?_|refine gdfF ?_|refine gdfT ?_|refine gdu ?_ _|refine gdt_pos (by first|assumption|omega) ?_|refine gdt_neg (by first|assumption|omega) ?_|refine gdt_split (fun hg => ?_) (fun hg => ?_)|refine gdf_pos (by first|assumption|omega) ?_|refine gdf_neg (by first|assumption|omega) ?_|refine gdf_split (fun hg => ?_) (fun hg => ?_)|refine gdtn_pos (by first|assumption|omega) ?_|refine gdtn_neg (by first|assumption|omega) ?_|refine gdtn_split (fun hg => ?_) (fun hg => ?_)|refine gdfn_pos (by first|assumption|omega) ?_|refine gdfn_neg (by first|assumption|omega) ?_|refine gdfn_split (fun hg => ?_) (fun hg => ?_)|refine gdtbn_pos (by assumption) ?_|refine gdtbn_neg (by assumption) ?_|refine gdfbn_pos (by assumption) ?_|refine gdfbn_neg (by assumption) ?_|refine gdtb_pos (by assumption) ?_|refine gdtb_neg (by assumption) ?_|refine gdtb_split (fun hg => ?_) (fun hg => ?_)|refine gdfb_pos (by assumption) ?_|refine gdfb_neg (by assumption) ?_|refine gdfb_split (fun hg => ?_) (fun hg => ?_)|refine pickT ?_|refine pickF ?_|refine pick_pos (by first|assumption|omega) ?_|refine pick_neg (by first|assumption|omega) ?_|refine pickn_pos (by first|assumption|omega) ?_|refine pickn_neg (by first|assumption|omega) ?_|refine pickbn_pos (by assumption) ?_|refine pickbn_neg (by assumption) ?_|refine pickb_pos (by assumption) ?_|refine pickb_neg (by assumption) ?_|refine condT ?_|refine condF ?_|refine cond_pos (by first|assumption|omega) ?_|refine cond_neg (by first|assumption|omega) ?_|refine condM_dec (fun hg => ?_) (fun hg => ?_)|refine condn_pos (by first|assumption|omega) ?_|refine condn_neg (by first|assumption|omega) ?_|refine condM_ndec (fun hg => ?_) (fun hg => ?_)|refine condbn_pos (by assumption) ?_|refine condbn_neg (by assumption) ?_|refine condbn_split (fun hg => ?_) (fun hg => ?_)|refine condb_pos (by assumption) ?_|refine condb_neg (by assumption) ?_|refine condM_b (fun hg => ?_) (fun hg => ?_))
      | ((with_reducible refine oM_gen (fun Kv hK => ?_)); simp [go_sem, oM_nec, eqGuard]; (try simp (disch := omega) only [wrapI64, wrapU8, wrapU32, wrapU64]); (first | refine hK _ _ ?_ | refine And.intro (by omega) (hK _ _ ?_)); clear hK; clear Kv)))
      exact fin _ hb2.drew hnum
  · rw [if_neg hlt] at hnum ⊢
    repeat (any_goals (first
    | (with_reducible refine pureM_in ?_)
    | (with_reducible first|refine pureQ_in ?_|refine gdQ_conv (fun _ => ?_)|refine pickQT ?_|refine pickQF ?_|refine pickQ_pos (by first|assumption|omega) ?_|refine pickQ_neg (by first|assumption|omega) ?_|refine pickQn_pos (by first|assumption|omega) ?_|refine pickQn_neg (by first|assumption|omega) ?_) | ((with_reducible refine oQ_one ?_ ?_); exact ⟨_, rfl⟩) | (with_reducible first|refine And.intro (Eq.refl (α := World) _) ?_|refine forall_one ?_|refine oQ_nil ?_) | (with_reducible refine oQ_of ⟨_, rfl⟩ (fun W0 hW0 => by (refine oM_gen (fun Kv hK => ?_)); simp [go_sem]; (first | exact hK _ _ ⟨rfl, rfl⟩ | exact ⟨by omega, hK _ _ ⟨rfl, rfl⟩⟩)) ?_)
    | (with_reducible refine fin _ (Below.refl _ _) hnum)
    | (with_reducible first|refine gdtT ?_|refine gdtF ?_|refine gdfF ?_|refine gdfT ?_|refine gdu ?_ _|refine gdt_pos (by first|assumption|omega) ?_|refine gdt_neg (by first|assumption|omega) ?_|refine gdt_split (fun hg => ?_) (fun hg => ?_)|refine gdf_pos (by first|assumption|omega) ?_|refine gdf_neg (by first|assumption|omega) ?_|refine gdf_split (fun hg => ?_) (fun hg => ?_)|refine gdtn_pos (by first|assumption|omega) ?_|refine gdtn_neg (by first|assumption|omega) ?_|refine gdtn_split (fun hg => ?_) (fun hg => ?_)|refine gdfn_pos (by first|assumption|omega) ?_|refine gdfn_neg (by first|assumption|omega) ?_|refine gdfn_split (fun hg => ?_) (fun hg => ?_)|refine gdtbn_pos (by assumption) ?_|refine gdtbn_neg (by assumption) ?_|refine gdfbn_pos (by assumption) ?_|refine gdfbn_neg (by assumption) ?_|refine gdtb_pos (by assumption) ?_|refine gdtb_neg (by assumption) ?_|refine gdtb_split (fun hg => ?_) (fun hg => ?_)|refine gdfb_pos (by assumption) ?_|refine gdfb_neg (by assumption) ?_|refine gdfb_split (fun hg => ?_) (fun hg => ?_)|refine pickT ?_|refine pickF ?_|refine pick_pos (by first|assumption|omega) ?_|refine pick_neg (by first|assumption|omega) ?_|refine pickn_pos (by first|assumption|omega) ?_|refine pickn_neg (by first|assumption|omega) ?_|refine pickbn_pos (by assumption) ?_|refine pickbn_neg (by assumption) ?_|refine pickb_pos (by assumption) ?_|refine pickb_neg (by assumption) ?_|refine condT ?_|refine condF ?_|refine cond_pos (by first|assumption|omega) ?_|refine cond_neg (by first|assumption|omega) ?_|refine condM_dec (fun hg => ?_) (fun hg => ?_)|refine condn_pos (by first|assumption|omega) ?_|refine condn_neg (by first|assumption|omega) ?_|refine condM_ndec (fun hg => ?_) (fun hg => ?_)|refine condbn_pos (by assumption) ?_|refine condbn_neg (by assumption) ?_|refine condbn_split (fun hg => ?_) (fun hg => ?_)|refine condb_pos (by assumption) ?_|refine condb_neg (by assumption) ?_|refine condM_b (fun hg => ?_) (fun hg => ?_))
    | ((with_reducible refine oM_gen (fun Kv hK => ?_)); simp [go_sem]; (try simp (disch := omega) only [wrapI64, wrapU8, wrapU32, wrapU64]); (first | refine hK _ _ ?_ | refine And.intro (by omega) (hK _ _ ?_)); clear hK; clear Kv)))
end Go.Proofs.Cd
namespace Go.Proofs.Cd
open Go Go.Sh Go.RowKit Go.Lib CodeSpec
set_option linter.unusedSimpArgs false
set_option maxRecDepth 10000
theorem rest_le (r : Rd) (e : UInt8) (least : Int) : (rdNumber r e least).2.rest.length ≤ r.rest.length := by
  rcases rdNumber_some r e least with h | ⟨n, t, h, h2, _⟩
  · rw [h]; simp [failed]
  · rw [h, h2]; simp; omega
theorem rnum_ok (b : Nat) (r : Rd) {K : Value → World → Prop} {w : World} (hl : Laid w) (hlen : r.rest.length < 2^60) (hr : IsRd w b r) (k : ∀ w', IsRd w' b (rdNum r).2 → w.grownBy w' (some b) → K (.int .i64 (rdNum r).1) w') : callM Tryd.prog 25 #[.pointer (some ⟨b, 0, none⟩)] K w := by
  apply sh_25_ok
  unfold sh_25
  exact number_ok b r 59 0 hl hlen hr k
theorem rint_ok (b : Nat) (r : Rd) {K : Value → World → Prop} {w : World} (hl : Laid w) (hlen : r.rest.length < 2^60) (hr : IsRd w b r) (k : ∀ w', IsRd w' b (rdInt r).2 → w.grownBy w' (some b) → K (.int .i64 (rdInt r).1) w') : callM Tryd.prog 26 #[.pointer (some ⟨b, 0, none⟩)] K w := by
  apply sh_26_ok
  unfold sh_26
  exact number_ok b r 59 (-9223372036854775808) hl hlen hr k
theorem rtext_ok (b : Nat) (r : Rd) {K : Value → World → Prop} {w : World} (hl : Laid w) (hlen : r.rest.length < 2^60) (hr : IsRd w b r) (k : ∀ w', IsRd w' b (rdText r).2 → w.grownBy w' (some b) → K (.string ⟨(rdText r).1.toArray⟩) w') : callM Tryd.prog 27 #[.pointer (some ⟨b, 0, none⟩)] K w := by
  apply sh_27_ok
  unfold sh_27
  refine number_ok b r 58 0 hl hlen hr ?_
  intro w1 hr1 hg1
  have hle := rest_le r 58 0
  have h0n : 0 ≤ (rdNumber r 58 0).1 := by
    rcases rdNumber_some r 58 0 with h | ⟨n, t, h, _, _, h3⟩
    · rw [h]; exact Int.le_refl 0
    · rw [h]; exact h3
  have hnum : rdText r = if ((rdNumber r 58 0).2.rest.length : Int) < (rdNumber r 58 0).1 then ([], failed)
      else if (rdClose ⟨(rdNumber r 58 0).2.rest.drop (rdNumber r 58 0).1.toNat, (rdNumber r 58 0).2.bad⟩ 44).bad then ([], rdClose ⟨(rdNumber r 58 0).2.rest.drop (rdNumber r 58 0).1.toNat, (rdNumber r 58 0).2.bad⟩ 44)
      else ((rdNumber r 58 0).2.rest.take (rdNumber r 58 0).1.toNat, rdClose ⟨(rdNumber r 58 0).2.rest.drop (rdNumber r 58 0).1.toNat, (rdNumber r 58 0).2.bad⟩ 44) := rfl
  generalize (rdNumber r 58 0).2 = r1 at *
  generalize (rdNumber r 58 0).1 = n at *
  have h0 := hr1.c0
  have f0 := hr1.fz 0
  by_cases hlt : (r1.rest.length : Int) < n
  · rw [if_pos hlt] at hnum
    repeat (any_goals (first
    | (with_reducible refine pureM_in ?_)
    | (with_reducible first|refine pureQ_in ?_|refine gdQ_conv (fun _ => ?_)|refine pickQT ?_|refine pickQF ?_|refine pickQ_pos (by first|assumption|omega) ?_|refine pickQ_neg (by first|assumption|omega) ?_|refine pickQn_pos (by first|assumption|omega) ?_|refine pickQn_neg (by first|assumption|omega) ?_) | ((with_reducible refine oQ_one ?_ ?_); exact ⟨_, rfl⟩) | (with_reducible first|refine And.intro (Eq.refl (α := World) _) ?_|refine forall_one ?_|refine oQ_nil ?_) | (with_reducible refine oQ_of ⟨_, rfl⟩ (fun W0 hW0 => by (refine oM_gen (fun Kv hK => ?_)); simp [go_sem]; (first | exact hK _ _ ⟨rfl, rfl⟩ | exact ⟨by omega, hK _ _ ⟨rfl, rfl⟩⟩)) ?_)
    | (with_reducible first|refine gdtT ?_|refine gdtF ?_|refine gdfF ?_|refine gdfT ?_|refine gdu ?_ _|refine gdt_pos (by first|assumption|omega) ?_|refine gdt_neg (by first|assumption|omega) ?_|refine gdt_split (fun hg => ?_) (fun hg => ?_)|refine gdf_pos (by first|assumption|omega) ?_|refine gdf_neg (by first|assumption|omega) ?_|refine gdf_split (fun hg => ?_) (fun hg => ?_)|refine gdtn_pos (by first|assumption|omega) ?_|refine gdtn_neg (by first|assumption|omega) ?_|refine gdtn_split (fun hg => ?_) (fun hg => ?_)|refine gdfn_pos (by first|assumption|omega) ?_|refine gdfn_neg (by first|assumption|omega) ?_|refine gdfn_split (fun hg => ?_) (fun hg => ?_)|refine gdtbn_pos (by assumption) ?_|refine gdtbn_neg (by assumption) ?_|refine gdfbn_pos (by assumption) ?_|refine gdfbn_neg (by assumption) ?_|refine gdtb_pos (by assumption) ?_|refine gdtb_neg (by assumption) ?_|refine gdtb_split (fun hg => ?_) (fun hg => ?_)|refine gdfb_pos (by assumption) ?_|refine gdfb_neg (by assumption) ?_|refine gdfb_split (fun hg => ?_) (fun hg => ?_)|refine pickT ?_|refine pickF ?_|refine pick_pos (by first|assumption|omega) ?_|refine pick_neg (by first|assumption|omega) ?_|refine pickn_pos (by first|assumption|omega) ?_|refine pickn_neg (by first|assumption|omega) ?_|refine pickbn_pos (by assumption) ?_|refine pickbn_neg (by assumption) ?_|refine pickb_pos (by assumption) ?_|refine pickb_neg (by assumption) ?_|refine condT ?_|refine condF ?_|refine cond_pos (by first|assumption|omega) ?_|refine cond_neg (by first|assumption|omega) ?_|refine condM_dec (fun hg => ?_) (fun hg => ?_)|refine condn_pos (by first|assumption|omega) ?_|refine condn_neg (by first|assumption|omega) ?_|refine condM_ndec (fun hg => ?_) (fun hg => ?_)|refine condbn_pos (by assumption) ?_|refine condbn_neg (by assumption) ?_|refine condbn_split (fun hg => ?_) (fun hg => ?_)|refine condb_pos (by assumption) ?_|refine condb_neg (by assumption) ?_|refine condM_b (fun hg => ?_) (fun hg => ?_))
    | ((with_reducible refine oM_gen (fun Kv hK => ?_)); simp [go_sem, h0]; (try simp (disch := omega) only [wrapI64, wrapU8, wrapU32, wrapU64]); (first | refine hK _ _ ?_ | refine And.intro (by omega) (hK _ _ ?_)); clear hK; clear Kv)))
    refine fail_ok b _ hr1 ?_
    intro w2 hr2 hg2
    exact K_eq (k w2 (by rw [hnum]; exact hr2) (grownBy_trans hg1 hg2)) (by rw [hnum])
  · rw [if_neg hlt] at hnum
    have htl : List.take r1.rest.length r1.rest = r1.rest := List.take_length
    repeat (any_goals (first
    | (with_reducible refine pureM_in ?_)
    | (with_reducible first|refine pureQ_in ?_|refine gdQ_conv (fun _ => ?_)|refine pickQT ?_|refine pickQF ?_|refine pickQ_pos (by first|assumption|omega) ?_|refine pickQ_neg (by first|assumption|omega) ?_|refine pickQn_pos (by first|assumption|omega) ?_|refine pickQn_neg (by first|assumption|omega) ?_) | ((with_reducible refine oQ_one ?_ ?_); exact ⟨_, rfl⟩) | (with_reducible first|refine And.intro (Eq.refl (α := World) _) ?_|refine forall_one ?_|refine oQ_nil ?_) | (with_reducible refine oQ_of ⟨_, rfl⟩ (fun W0 hW0 => by (refine oM_gen (fun Kv hK => ?_)); simp [go_sem]; (first | exact hK _ _ ⟨rfl, rfl⟩ | exact ⟨by omega, hK _ _ ⟨rfl, rfl⟩⟩)) ?_)
    | (with_reducible first|refine gdtT ?_|refine gdtF ?_|refine gdfF ?_|refine gdfT ?_|refine gdu ?_ _|refine gdt_pos (by first|assumption|omega) ?_|refine gdt_neg (by first|assumption|omega) ?_|refine gdt_split (fun hg => ?_) (fun hg => ?_)|refine gdf_pos (by first|assumption|omega) ?_|refine gdf_neg (by first|assumption|omega) ?_|refine gdf_split (fun hg => ?_) (fun hg => ?_)|refine gdtn_pos (by first|assumption|omega) ?_|refine gdtn_neg (by first|assumption|omega) ?_|refine gdtn_split (fun hg => ?_) (fun hg => ?_)|refine gdfn_pos (by first|assumption|omega) ?_|refine gdfn_neg (by first|assumption|omega) ?_|refine gdfn_split (fun hg => ?_) (fun hg => ?_)|refine gdtbn_pos (by assumption) ?_|refine gdtbn_neg (by assumption) ?_|refine gdfbn_pos (by assumption) ?_|refine gdfbn_neg (by assumption) ?_|refine gdtb_pos (by assumption) ?_|refine gdtb_neg (by assumption) ?_|refine gdtb_split (fun hg => ?_) (fun hg => ?_)|refine gdfb_pos (by assumption) ?_|refine gdfb_neg (by assumption) ?_|refine gdfb_split (fun hg => ?_) (fun hg => ?_)|refine pickT ?_|refine pickF ?_|refine pick_pos (by first|assumption|omega) ?_|refine pick_neg (by first|assumption|omega) ?_|refine pickn_pos (by first|assumption|omega) ?_|refine pickn_neg (by first|assumption|omega) ?_|refine pickbn_pos (by assumption) ?_|refine pickbn_neg (by assumption) ?_|refine pickb_pos (by assumption) ?_|refine pickb_neg (by assumption) ?_|refine condT ?_|refine condF ?_|refine cond_pos (by first|assumption|omega) ?_|refine cond_neg (by first|assumption|omega) ?_|refine condM_dec (fun hg => ?_) (fun hg => ?_)|refine condn_pos (by first|assumption|omega) ?_|refine condn_neg (by first|assumption|omega) ?_|refine condM_ndec (fun hg => ?_) (fun hg => ?_)|refine condbn_pos (by assumption) ?_|refine condbn_neg (by assumption) ?_|refine condbn_split (fun hg => ?_) (fun hg => ?_)|refine condb_pos (by assumption) ?_|refine condb_neg (by assumption) ?_|refine condM_b (fun hg => ?_) (fun hg => ?_))
    | ((with_reducible refine oM_gen (fun Kv hK => ?_)); simp [go_sem, h0, f0, htl]; (try simp (disch := omega) only [wrapI64, wrapU8, wrapU32, wrapU64]); (first | refine hK _ _ ?_ | refine And.intro (by omega) (hK _ _ ?_)); clear hK; clear Kv)))
    refine close_ok b _ 44 (hr1.set0 _) ?_
    intro w2 hr2 hg2
    have h2 := hr2.c1
    have hg := grownBy_trans hg1 (grownBy_trans (grown_set _ _ _ _) hg2)
    cases hbad : (rdClose ⟨r1.rest.drop n.toNat, r1.bad⟩ 44).bad with
    | true =>
      rw [hbad] at hnum h2
      rw [if_pos rfl] at hnum
      repeat (any_goals (first
      | (with_reducible refine pureM_in ?_)
      | (with_reducible first|refine pureQ_in ?_|refine gdQ_conv (fun _ => ?_)|refine pickQT ?_|refine pickQF ?_|refine pickQ_pos (by first|assumption|omega) ?_|refine pickQ_neg (by first|assumption|omega) ?_|refine pickQn_pos (by first|assumption|omega) ?_|refine pickQn_neg (by first|assumption|omega) ?_) | ((with_reducible refine oQ_one ?_ ?_); exact ⟨_, rfl⟩) | (with_reducible first|refine And.intro (Eq.refl (α := World) _) ?_|refine forall_one ?_|refine oQ_nil ?_) | (with_reducible refine oQ_of ⟨_, rfl⟩ (fun W0 hW0 => by (refine oM_gen (fun Kv hK => ?_)); simp [go_sem]; (first | exact hK _ _ ⟨rfl, rfl⟩ | exact ⟨by omega, hK _ _ ⟨rfl, rfl⟩⟩)) ?_)
      | (with_reducible first|refine gdtT ?_|refine gdtF ?_|refine gdfF ?_|refine gdfT ?_|refine gdu ?_ _|refine gdt_pos (by first|assumption|omega) ?_|refine gdt_neg (by first|assumption|omega) ?_|refine gdt_split (fun hg => ?_) (fun hg => ?_)|refine gdf_pos (by first|assumption|omega) ?_|refine gdf_neg (by first|assumption|omega) ?_|refine gdf_split (fun hg => ?_) (fun hg => ?_)|refine gdtn_pos (by first|assumption|omega) ?_|refine gdtn_neg (by first|assumption|omega) ?_|refine gdtn_split (fun hg => ?_) (fun hg => ?_)|refine gdfn_pos (by first|assumption|omega) ?_|refine gdfn_neg (by first|assumption|omega) ?_|refine gdfn_split (fun hg => ?_) (fun hg => ?_)|refine gdtbn_pos (by assumption) ?_|refine gdtbn_neg (by assumption) ?_|refine gdfbn_pos (by assumption) ?_|refine gdfbn_neg (by assumption) ?_|refine gdtb_pos (by assumption) ?_|refine gdtb_neg (by assumption) ?_|refine gdtb_split (fun hg => ?_) (fun hg => ?_)|refine gdfb_pos (by assumption) ?_|refine gdfb_neg (by assumption) ?_|refine gdfb_split (fun hg => ?_) (fun hg => ?_)|refine pickT ?_|refine pickF ?_|refine pick_pos (by first|assumption|omega) ?_|refine pick_neg (by first|assumption|omega) ?_|refine pickn_pos (by first|assumption|omega) ?_|refine pickn_neg (by first|assumption|omega) ?_|refine pickbn_pos (by assumption) ?_|refine pickbn_neg (by assumption) ?_|refine pickb_pos (by assumption) ?_|refine pickb_neg (by assumption) ?_|refine condT ?_|refine condF ?_|refine cond_pos (by first|assumption|omega) ?_|refine cond_neg (by first|assumption|omega) ?_|refine condM_dec (fun hg => ?_) (fun hg => ?_)|refine condn_pos (by first|assumption|omega) ?_|refine condn_neg (by first|assumption|omega) ?_|refine condM_ndec (fun hg => ?_) (fun hg => ?_)|refine condbn_pos (by assumption) ?_|refine condbn_neg (by assumption) ?_|refine condbn_split (fun hg => ?_) (fun hg => ?_)|refine condb_pos (by assumption) ?_|refine condb_neg (by assumption) ?_|refine condM_b (fun hg => ?_) (fun hg => ?_))
      | ((with_reducible refine oM_gen (fun Kv hK => ?_)); simp [go_sem, h2]; (try simp (disch := omega) only [wrapI64, wrapU8, wrapU32, wrapU64]); (first | refine hK _ _ ?_ | refine And.intro (by omega) (hK _ _ ?_)); clear hK; clear Kv)))
      exact K_eq (k w2 (by rw [hnum]; exact hr2) hg) (by rw [hnum])
    | false =>
      rw [hbad] at hnum h2
      rw [if_neg (by simp)] at hnum
      repeat (any_goals (first
      | (with_reducible refine pureM_in ?_)
      | (with_reducible first|refine pureQ_in ?_|refine gdQ_conv (fun _ => ?_)|refine pickQT ?_|refine pickQF ?_|refine pickQ_pos (by first|assumption|omega) ?_|refine pickQ_neg (by first|assumption|omega) ?_|refine pickQn_pos (by first|assumption|omega) ?_|refine pickQn_neg (by first|assumption|omega) ?_) | ((with_reducible refine oQ_one ?_ ?_); exact ⟨_, rfl⟩) | (with_reducible first|refine And.intro (Eq.refl (α := World) _) ?_|refine forall_one ?_|refine oQ_nil ?_) | (with_reducible refine oQ_of ⟨_, rfl⟩ (fun W0 hW0 => by (refine oM_gen (fun Kv hK => ?_)); simp [go_sem]; (first | exact hK _ _ ⟨rfl, rfl⟩ | exact ⟨by omega, hK _ _ ⟨rfl, rfl⟩⟩)) ?_)
      | (with_reducible first|refine gdtT ?_|refine gdtF ?_|refine gdfF ?_|refine gdfT ?_|refine gdu ?_ _|refine gdt_pos (by first|assumption|omega) ?_|refine gdt_neg (by first|assumption|omega) ?_|refine gdt_split (fun hg => ?_) (fun hg => ?_)|refine gdf_pos (by first|assumption|omega) ?_|refine gdf_neg (by first|assumption|omega) ?_|refine gdf_split (fun hg => ?_) (fun hg => ?_)|refine gdtn_pos (by first|assumption|omega) ?_|refine gdtn_neg (by first|assumption|omega) ?_|refine gdtn_split (fun hg => ?_) (fun hg => ?_)|refine gdfn_pos (by first|assumption|omega) ?_|refine gdfn_neg (by first|assumption|omega) ?_|refine gdfn_split (fun hg => ?_) (fun hg => ?_)|refine gdtbn_pos (by assumption) ?_|refine gdtbn_neg (by assumption) ?_|refine gdfbn_pos (by assumption) ?_|refine gdfbn_neg (by assumption) ?_|refine gdtb_pos (by assumption) ?_|refine gdtb_neg (by assumption) ?_|refine gdtb_split (fun hg => ?_) (fun hg => ?_)|refine gdfb_pos (by assumption) ?_|refine gdfb_neg (by assumption) ?_|refine gdfb_split (fun hg => ?_) (fun hg => ?_)|refine pickT ?_|refine pickF ?_|refine pick_pos (by first|assumption|omega) ?_|refine pick_neg (by first|assumption|omega) ?_|refine pickn_pos (by first|assumption|omega) ?_|refine pickn_neg (by first|assumption|omega) ?_|refine pickbn_pos (by assumption) ?_|refine pickbn_neg (by assumption) ?_|refine pickb_pos (by assumption) ?_|refine pickb_neg (by assumption) ?_|refine condT ?_|refine condF ?_|refine cond_pos (by first|assumption|omega) ?_|refine cond_neg (by first|assumption|omega) ?_|refine condM_dec (fun hg => ?_) (fun hg => ?_)|refine condn_pos (by first|assumption|omega) ?_|refine condn_neg (by first|assumption|omega) ?_|refine condM_ndec (fun hg => ?_) (fun hg => ?_)|refine condbn_pos (by assumption) ?_|refine condbn_neg (by assumption) ?_|refine condbn_split (fun hg => ?_) (fun hg => ?_)|refine condb_pos (by assumption) ?_|refine condb_neg (by assumption) ?_|refine condM_b (fun hg => ?_) (fun hg => ?_))
      | ((with_reducible refine oM_gen (fun Kv hK => ?_)); simp [go_sem, h2]; (try simp (disch := omega) only [wrapI64, wrapU8, wrapU32, wrapU64]); (first | refine hK _ _ ?_ | refine And.intro (by omega) (hK _ _ ?_)); clear hK; clear Kv)))
      exact K_eq (k w2 (by rw [hnum]; exact hr2) hg) (by rw [hnum])
theorem open_ok (s : List UInt8) {K : Value → World → Prop} {w : World} (k : ∀ w', IsRd w' w.heap.size ⟨s, false⟩ → Below w.heap.size w w' → K (.pointer (some ⟨w.heap.size, 0, none⟩)) w') : callM Tryd.prog 23 #[.string ⟨s.toArray⟩] K w := by
  apply sh_23_ok
  unfold sh_23
  repeat (any_goals (first
  | (with_reducible refine pureM_in ?_)
  | (with_reducible first|refine pureQ_in ?_|refine gdQ_conv (fun _ => ?_)|refine pickQT ?_|refine pickQF ?_|refine pickQ_pos (by first|assumption|omega) ?_|refine pickQ_neg (by first|assumption|omega) ?_|refine pickQn_pos (by first|assumption|omega) ?_|refine pickQn_neg (by first|assumption|omega) ?_) | ((with_reducible refine oQ_one ?_ ?_); exact ⟨_, rfl⟩) | (with_reducible first|refine And.intro (Eq.refl (α := World) _) ?_|refine forall_one ?_|refine oQ_nil ?_) | (with_reducible refine oQ_of ⟨_, rfl⟩ (fun W0 hW0 => by (refine oM_gen (fun Kv hK => ?_)); simp [go_sem]; (first | exact hK _ _ ⟨rfl, rfl⟩ | exact ⟨by omega, hK _ _ ⟨rfl, rfl⟩⟩)) ?_)
  | (with_reducible first|refine gdtT ?_|refine gdtF ?_|refine gdfF ?_|refine gdfT ?_|refine gdu ?_ _|refine gdt_pos (by first|assumption|omega) ?_|refine gdt_neg (by first|assumption|omega) ?_|refine gdt_split (fun hg => ?_) (fun hg => ?_)|refine gdf_pos (by first|assumption|omega) ?_|refine gdf_neg (by first|assumption|omega) ?_|refine gdf_split (fun hg => ?_) (fun hg => ?_)|refine gdtn_pos (by first|assumption|omega) ?_|refine gdtn_neg (by first|assumption|omega) ?_|refine gdtn_split (fun hg => ?_) (fun hg => ?_)|refine gdfn_pos (by first|assumption|omega) ?_|refine gdfn_neg (by first|assumption|omega) ?_|refine gdfn_split (fun hg => ?_) (fun hg => ?_)|refine gdtbn_pos (by assumption) ?_|refine gdtbn_neg (by assumption) ?_|refine gdfbn_pos (by assumption) ?_|refine gdfbn_neg (by assumption) ?_|refine gdtb_pos (by assumption) ?_|refine gdtb_neg (by assumption) ?_|refine gdtb_split (fun hg => ?_) (fun hg => ?_)|refine gdfb_pos (by assumption) ?_|refine gdfb_neg (by assumption) ?_|refine gdfb_split (fun hg => ?_) (fun hg => ?_)|refine pickT ?_|refine pickF ?_|refine pick_pos (by first|assumption|omega) ?_|refine pick_neg (by first|assumption|omega) ?_|refine pickn_pos (by first|assumption|omega) ?_|refine pickn_neg (by first|assumption|omega) ?_|refine pickbn_pos (by assumption) ?_|refine pickbn_neg (by assumption) ?_|refine pickb_pos (by assumption) ?_|refine pickb_neg (by assumption) ?_|refine condT ?_|refine condF ?_|refine cond_pos (by first|assumption|omega) ?_|refine cond_neg (by first|assumption|omega) ?_|refine condM_dec (fun hg => ?_) (fun hg => ?_)|refine condn_pos (by first|assumption|omega) ?_|refine condn_neg (by first|assumption|omega) ?_|refine condM_ndec (fun hg => ?_) (fun hg => ?_)|refine condbn_pos (by assumption) ?_|refine condbn_neg (by assumption) ?_|refine condbn_split (fun hg => ?_) (fun hg => ?_)|refine condb_pos (by assumption) ?_|refine condb_neg (by assumption) ?_|refine condM_b (fun hg => ?_) (fun hg => ?_))
  | ((with_reducible refine oM_gen (fun Kv hK => ?_)); simp [go_sem]; (try simp (disch := omega) only [wrapI64, wrapU8, wrapU32, wrapU64]); (first | refine hK _ _ ?_ | refine And.intro (by omega) (hK _ _ ?_)); clear hK; clear Kv)))
  exact k _ (by unfold IsRd; exact heap_alloc_new _ _) ((Below.refl _ _).alloc (Nat.le_refl _) _)
theorem left_ok (b : Nat) (r : Rd) {K : Value → World → Prop} {w : World} (hr : IsRd w b r) (k : K (.int .i64 r.rest.length) w) : callM Tryd.prog 30 #[.pointer (some ⟨b, 0, none⟩)] K w := by
  apply sh_30_ok
  unfold sh_30
  have h0 := hr.c0
  repeat (any_goals (first
  | (with_reducible refine pureM_in ?_)
  | (with_reducible first|refine pureQ_in ?_|refine gdQ_conv (fun _ => ?_)|refine pickQT ?_|refine pickQF ?_|refine pickQ_pos (by first|assumption|omega) ?_|refine pickQ_neg (by first|assumption|omega) ?_|refine pickQn_pos (by first|assumption|omega) ?_|refine pickQn_neg (by first|assumption|omega) ?_) | ((with_reducible refine oQ_one ?_ ?_); exact ⟨_, rfl⟩) | (with_reducible first|refine And.intro (Eq.refl (α := World) _) ?_|refine forall_one ?_|refine oQ_nil ?_) | (with_reducible refine oQ_of ⟨_, rfl⟩ (fun W0 hW0 => by (refine oM_gen (fun Kv hK => ?_)); simp [go_sem]; (first | exact hK _ _ ⟨rfl, rfl⟩ | exact ⟨by omega, hK _ _ ⟨rfl, rfl⟩⟩)) ?_)
  | (with_reducible first|refine gdtT ?_|refine gdtF ?_|refine gdfF ?_|refine gdfT ?_|refine gdu ?_ _|refine gdt_pos (by first|assumption|omega) ?_|refine gdt_neg (by first|assumption|omega) ?_|refine gdt_split (fun hg => ?_) (fun hg => ?_)|refine gdf_pos (by first|assumption|omega) ?_|refine gdf_neg (by first|assumption|omega) ?_|refine gdf_split (fun hg => ?_) (fun hg => ?_)|refine gdtn_pos (by first|assumption|omega) ?_|refine gdtn_neg (by first|assumption|omega) ?_|refine gdtn_split (fun hg => ?_) (fun hg => ?_)|refine gdfn_pos (by first|assumption|omega) ?_|refine gdfn_neg (by first|assumption|omega) ?_|refine gdfn_split (fun hg => ?_) (fun hg => ?_)|refine gdtbn_pos (by assumption) ?_|refine gdtbn_neg (by assumption) ?_|refine gdfbn_pos (by assumption) ?_|refine gdfbn_neg (by assumption) ?_|refine gdtb_pos (by assumption) ?_|refine gdtb_neg (by assumption) ?_|refine gdtb_split (fun hg => ?_) (fun hg => ?_)|refine gdfb_pos (by assumption) ?_|refine gdfb_neg (by assumption) ?_|refine gdfb_split (fun hg => ?_) (fun hg => ?_)|refine pickT ?_|refine pickF ?_|refine pick_pos (by first|assumption|omega) ?_|refine pick_neg (by first|assumption|omega) ?_|refine pickn_pos (by first|assumption|omega) ?_|refine pickn_neg (by first|assumption|omega) ?_|refine pickbn_pos (by assumption) ?_|refine pickbn_neg (by assumption) ?_|refine pickb_pos (by assumption) ?_|refine pickb_neg (by assumption) ?_|refine condT ?_|refine condF ?_|refine cond_pos (by first|assumption|omega) ?_|refine cond_neg (by first|assumption|omega) ?_|refine condM_dec (fun hg => ?_) (fun hg => ?_)|refine condn_pos (by first|assumption|omega) ?_|refine condn_neg (by first|assumption|omega) ?_|refine condM_ndec (fun hg => ?_) (fun hg => ?_)|refine condbn_pos (by assumption) ?_|refine condbn_neg (by assumption) ?_|refine condbn_split (fun hg => ?_) (fun hg => ?_)|refine condb_pos (by assumption) ?_|refine condb_neg (by assumption) ?_|refine condM_b (fun hg => ?_) (fun hg => ?_))
  | ((with_reducible refine oM_gen (fun Kv hK => ?_)); simp [go_sem, h0]; (try simp (disch := omega) only [wrapI64, wrapU8, wrapU32, wrapU64]); (first | refine hK _ _ ?_ | refine And.intro (by omega) (hK _ _ ?_)); clear hK; clear Kv)))
  exact k
def rdDone (r : Rd) : Bool := !r.bad && decide (r.rest = [])
theorem done_ok (b : Nat) (r : Rd) {K : Value → World → Prop} {w : World} (hr : IsRd w b r) (k : K (.bool (rdDone r)) w) : callM Tryd.prog 31 #[.pointer (some ⟨b, 0, none⟩)] K w := by
  apply sh_31_ok
  unfold sh_31
  have h0 := hr.c0
  have h1 := hr.c1
  repeat (any_goals (first
  | (with_reducible refine pureM_in ?_)
  | (with_reducible first|refine pureQ_in ?_|refine gdQ_conv (fun _ => ?_)|refine pickQT ?_|refine pickQF ?_|refine pickQ_pos (by first|assumption|omega) ?_|refine pickQ_neg (by first|assumption|omega) ?_|refine pickQn_pos (by first|assumption|omega) ?_|refine pickQn_neg (by first|assumption|omega) ?_) | ((with_reducible refine oQ_one ?_ ?_); exact ⟨_, rfl⟩) | (with_reducible first|refine And.intro (Eq.refl (α := World) _) ?_|refine forall_one ?_|refine oQ_nil ?_) | (with_reducible refine oQ_of ⟨_, rfl⟩ (fun W0 hW0 => by (refine oM_gen (fun Kv hK => ?_)); simp [go_sem]; (first | exact hK _ _ ⟨rfl, rfl⟩ | exact ⟨by omega, hK _ _ ⟨rfl, rfl⟩⟩)) ?_)
  | (with_reducible first|refine gdtT ?_|refine gdtF ?_|refine gdfF ?_|refine gdfT ?_|refine gdu ?_ _|refine gdt_pos (by first|assumption|omega) ?_|refine gdt_neg (by first|assumption|omega) ?_|refine gdt_split (fun hg => ?_) (fun hg => ?_)|refine gdf_pos (by first|assumption|omega) ?_|refine gdf_neg (by first|assumption|omega) ?_|refine gdf_split (fun hg => ?_) (fun hg => ?_)|refine gdtn_pos (by first|assumption|omega) ?_|refine gdtn_neg (by first|assumption|omega) ?_|refine gdtn_split (fun hg => ?_) (fun hg => ?_)|refine gdfn_pos (by first|assumption|omega) ?_|refine gdfn_neg (by first|assumption|omega) ?_|refine gdfn_split (fun hg => ?_) (fun hg => ?_)|refine gdtbn_pos (by assumption) ?_|refine gdtbn_neg (by assumption) ?_|refine gdfbn_pos (by assumption) ?_|refine gdfbn_neg (by assumption) ?_|refine gdtb_pos (by assumption) ?_|refine gdtb_neg (by assumption) ?_|refine gdtb_split (fun hg => ?_) (fun hg => ?_)|refine gdfb_pos (by assumption) ?_|refine gdfb_neg (by assumption) ?_|refine gdfb_split (fun hg => ?_) (fun hg => ?_)|refine pickT ?_|refine pickF ?_|refine pick_pos (by first|assumption|omega) ?_|refine pick_neg (by first|assumption|omega) ?_|refine pickn_pos (by first|assumption|omega) ?_|refine pickn_neg (by first|assumption|omega) ?_|refine pickbn_pos (by assumption) ?_|refine pickbn_neg (by assumption) ?_|refine pickb_pos (by assumption) ?_|refine pickb_neg (by assumption) ?_|refine condT ?_|refine condF ?_|refine cond_pos (by first|assumption|omega) ?_|refine cond_neg (by first|assumption|omega) ?_|refine condM_dec (fun hg => ?_) (fun hg => ?_)|refine condn_pos (by first|assumption|omega) ?_|refine condn_neg (by first|assumption|omega) ?_|refine condM_ndec (fun hg => ?_) (fun hg => ?_)|refine condbn_pos (by assumption) ?_|refine condbn_neg (by assumption) ?_|refine condbn_split (fun hg => ?_) (fun hg => ?_)|refine condb_pos (by assumption) ?_|refine condb_neg (by assumption) ?_|refine condM_b (fun hg => ?_) (fun hg => ?_))
  | ((with_reducible refine oM_gen (fun Kv hK => ?_)); simp [go_sem, h0, h1]; (try simp (disch := omega) only [wrapI64, wrapU8, wrapU32, wrapU64]); (first | refine hK _ _ ?_ | refine And.intro (by omega) (hK _ _ ?_)); clear hK; clear Kv)))
  · exact K_eq k (by unfold rdDone; rw [hg]; simp)
  · exact K_eq k (by unfold rdDone; rw [hg]; simp)
end Go.Proofs.Cd
namespace Go.Sh
open Go Go.RowKit
section
variable {P : Program} {K : Value → World → Prop} {w : World}
@[go_sem] theorem oM_lookup (t T : TypeId) (x i : Value) : oM P (.lookup t (.tmp 0) (.tmp 1) false) T [x, i] K w = rM ((Instr.lookup t x i false).run P w) K := rM_of rfl
@[go_sem] theorem oM_mapUpdate (t T : TypeId) (m k x : Value) : oM P (.mapUpdate t (.tmp 0) (.tmp 1) (.tmp 2)) T [m, k, x] K w = uM ((Instr.mapUpdate t m k x).run P w) K := by
  rw [oM_unit (S := Instr.mapUpdate t m k x) rfl]
@[go_sem] theorem oM_mapEntry (t T : TypeId) (m k : Value) : oM P (.mapEntry t (.tmp 0) (.tmp 1)) T [m, k] K w = rM ((Instr.mapEntry t m k).run P w) K := rM_of rfl
@[go_sem] theorem oM_entryStore (t T : TypeId) (m s x : Value) : oM P (.entryStore t (.tmp 0) (.tmp 1) (.tmp 2)) T [m, s, x] K w = uM ((Instr.entryStore t m s x).run P w) K := by
  rw [oM_unit (S := Instr.entryStore t m s x) rfl]
@[go_sem] theorem oM_makeMap (t T : TypeId) : oM P (.makeMap t none) T [] K w = K (.map (some w.heap.size)) (w.alloc (.map #[] 0)) := by
  rw [rM_of (S := Instr.makeMap t none) rfl, run_makeMap]
  rfl
@[go_sem] theorem oM_range (t T : TypeId) (x : Value) : oM P (.range t (.tmp 0)) T [x] K w = rM ((Instr.range t x).run P w) K := rM_of rfl
@[go_sem] theorem oM_next (T : TypeId) (s : Bool) (x : Value) : oM P (.next (.tmp 0) s) T [x] K w = rM ((Instr.next x s T).run P w) K := rM_of rfl
@[go_sem] theorem oM_entry (T : TypeId) (x : Value) : oM P (.entry (.tmp 0)) T [x] K w = rM ((Instr.entry x).run P w) K := rM_of rfl
@[go_sem] theorem oM_delete (T : TypeId) (ts : Array TypeId) (x y : Value) : oM P (.call { callee := .builtin .delete, args := #[.tmp 0, .tmp 1], argTypes := ts }) T [x, y] K w = rM ((Builtin.delete_ ts T #[x, y]).run P w) K :=
  rM_of (by simp [xop, execOp, evalL, evE, resolve, invoke, builtin])
@[go_sem] theorem oM_clear (T : TypeId) (ts : Array TypeId) (x : Value) : oM P (.call { callee := .builtin .clear, args := #[.tmp 0], argTypes := ts }) T [x] K w = rM ((Builtin.clear_ ts T #[x]).run P w) K :=
  rM_of (by simp [xop, execOp, evalL, evE, resolve, invoke, builtin])
@[go_sem] theorem oM_copy (T : TypeId) (ts : Array TypeId) (x y : Value) : oM P (.call { callee := .builtin .copy, args := #[.tmp 0, .tmp 1], argTypes := ts }) T [x, y] K w = rM ((Builtin.copy_ ts T #[x, y]).run P w) K :=
  rM_of (by simp [xop, execOp, evalL, evE, resolve, invoke, builtin])
theorem oM_append (T : TypeId) (ts : Array TypeId) (x y : Value) : oM P (.call { callee := .builtin .append, args := #[.tmp 0, .tmp 1], argTypes := ts }) T [x, y] K w = rM ((Builtin.append_ ts T #[x, y]).run P w) K :=
  rM_of (by simp [xop, execOp, evalL, evE, resolve, invoke, builtin])
@[go_sem] theorem oM_makeSlice (t T : TypeId) (x y : Value) : oM P (.makeSlice t (.tmp 0) (.tmp 1)) T [x, y] K w = rM ((Instr.makeSlice t x y).run P w) K := rM_of rfl
@[go_sem] theorem oM_typeAssert (t u T : TypeId) (x : Value) : oM P (.typeAssert (.tmp 0) t u false) T [x] K w = rM ((Instr.typeAssert x t u false).run P w) K := rM_of rfl
@[go_sem] theorem oM_makeInterface (t T : TypeId) (x : Value) : oM P (.makeInterface t (.tmp 0)) T [x] K w = rM ((Instr.makeInterface t x).run P w) K := rM_of rfl
@[go_sem] theorem oM_buildSlice0 (T t : Nat) (n : Nat) : oM P (.buildSlice t n #[]) T [] K w = rM ((Instr.buildSlice t n #[]).run P w) K := rM_of (by simp [xop, execOp, evalL, evE])
theorem oM_sliceFrom (t T : TypeId) (x i : Value) : oM P (.slice t (.tmp 0) (some (.tmp 1)) none none) T [x, i] K w = rM ((Instr.sliceAt t x (some i) none none).run P w) K := rM_of rfl
theorem oM_sliceTo (t T : TypeId) (x i : Value) : oM P (.slice t (.tmp 0) none (some (.tmp 1)) none) T [x, i] K w = rM ((Instr.sliceAt t x none (some i) none).run P w) K := rM_of rfl
theorem low_bits (n : Nat) (hn : n < 60) (x : Int) : IntKind.i64.wrap ((BitVec.ofInt 64 x &&& BitVec.ofInt 64 (2 ^ n - 1)).toNat : Int) = x % 2 ^ n := by
  have hp : (0 : Int) < 2 ^ n := Int.pow_pos (by omega)
  have hp' : (2 : Nat) ^ n ≤ 2 ^ 59 := Nat.pow_le_pow_right (by omega) (by omega)
  have hpc : ((2 : Int) ^ n) = ((2 ^ n : Nat) : Int) := by simp
  have hb : (BitVec.ofInt 64 (2 ^ n - 1)).toNat = 2 ^ n - 1 := by
    rw [BitVec.toNat_ofInt, hpc]
    omega
  have ha : (BitVec.ofInt 64 x).toNat = (x % 2 ^ 64).toNat := by rw [BitVec.toNat_ofInt]; rfl
  rw [BitVec.toNat_and, hb, ha, Nat.and_two_pow_sub_one_eq_mod]
  have hdv : ((2 : Int) ^ n) ∣ 2 ^ 64 := ⟨2 ^ (64 - n), by rw [← Int.pow_add]; congr 1; omega⟩
  have h1 : (((x % 2 ^ 64).toNat % 2 ^ n : Nat) : Int) = x % 2 ^ n := by
    rw [Int.natCast_emod, Int.toNat_of_nonneg (Int.emod_nonneg _ (by omega)), ← hpc, Int.emod_emod_of_dvd _ hdv]
  rw [h1]
  have h2 := Int.emod_nonneg x (b := 2 ^ n) (by omega)
  have h3 := Int.emod_lt_of_pos x hp
  exact wrapI64 _ (by omega) (by omega)
theorem oM_low (n : Nat) (hn : n < 60) (t t' T : TypeId) (x m : Int) (hm : m = 2 ^ n - 1) : oM P (.binOp .and t (.tmp 0) (.tmp 1) t') T [.int .i64 x, .int .i64 m] K w = K (.int .i64 (x % 2 ^ n)) w := by
  subst hm
  rw [← low_bits n hn x]
  exact oM_of_run rfl
@[go_sem] theorem oM_and1 (t t' T : TypeId) (x : Int) : oM P (.binOp .and t (.tmp 0) (.tmp 1) t') T [.int .i64 x, .int .i64 1] K w = K (.int .i64 (x % 2)) w := oM_low 1 (by omega) t t' T x 1 rfl
@[go_sem] theorem oM_and3 (t t' T : TypeId) (x : Int) : oM P (.binOp .and t (.tmp 0) (.tmp 1) t') T [.int .i64 x, .int .i64 3] K w = K (.int .i64 (x % 4)) w := oM_low 2 (by omega) t t' T x 3 rfl
@[go_sem] theorem oM_and7 (t t' T : TypeId) (x : Int) : oM P (.binOp .and t (.tmp 0) (.tmp 1) t') T [.int .i64 x, .int .i64 7] K w = K (.int .i64 (x % 8)) w := oM_low 3 (by omega) t t' T x 7 rfl
end
end Go.Sh
namespace Go.Sh
open Go Go.RowKit
section
variable {w : World} {B : Nat} {e : TypeId} {sz : Nat} {v : Value} {n : Nat} {xs : List Value}
theorem owns_cells (h : w.ownsRow B e sz v n xs) (hn : 0 < n) : ∃ g cap cur, v = .slice (some ⟨g, 0, none⟩) n cap ∧ g < w.heap.size ∧ B ≤ g ∧ w.heap[g]? = some (.cells cur e (0, 0)) ∧ cur.size = cap * sz ∧ n ≤ cap ∧ ∀ (k : Nat) (x : Value), xs[k]? = some x → w.cell? ⟨g, k, none⟩ = some x := by
  rcases h.2 with ⟨_, h0⟩ | ⟨g, cap, cur, hv, hb, hg, hc, hm, hs, ht⟩
  · omega
  · refine ⟨g, cap, cur, hv, (Array.getElem?_eq_some_iff.1 hg).1, hb, hg, hs, hc, fun k x hk => ?_⟩
    have hlt : k < n * sz := by have := (List.getElem?_eq_some_iff.1 hk).1; rw [h.1] at this; exact this
    rw [← ht, List.getElem?_take_of_lt hlt] at hk
    unfold World.cell?
    rw [hg]
    simpa using hk
theorem owns_own (h : w.ownsRow B e sz v n xs) {i : Nat} (hi : v.ownBlock = some i) : i < w.heap.size ∧ B ≤ i ∧ ∃ cur, w.heap[i]? = some (.cells cur e (0, 0)) := by
  rcases h.2 with ⟨rfl, h0⟩ | ⟨g, cap, cur, rfl, hb, hg, hc, hm, hs, ht⟩
  · cases hi
  · cases hi
    exact ⟨(Array.getElem?_eq_some_iff.1 hg).1, hb, cur, hg⟩
theorem owns_keep {w' : World} (h : w.ownsRow B e sz v n xs) (hk : ∀ i, v.ownBlock = some i → w'.heap[i]? = w.heap[i]?) : w'.ownsRow B e sz v n xs := by
  refine ⟨h.1, ?_⟩
  rcases h.2 with h0 | ⟨g, cap, cur, rfl, hb, hg, hr⟩
  · exact .inl h0
  · exact .inr ⟨g, cap, cur, rfl, hb, by rw [hk g rfl]; exact hg, hr⟩
theorem owns_len (h : w.ownsRow B e sz v n xs) : ∃ a c, v = .slice a n c := by
  rcases h.2 with ⟨rfl, rfl⟩ | ⟨g, cap, cur, rfl, _⟩
  · exact ⟨none, 0, rfl⟩
  · exact ⟨_, cap, rfl⟩
end
def flat {α : Type} (mk : α → List Value) (l : List α) : List Value := l.flatMap mk
section
variable {α : Type} {mk : α → List Value} {sz : Nat}
theorem flat_cons (x : α) (l : List α) : flat mk (x :: l) = mk x ++ flat mk l := rfl
theorem flat_append (l m : List α) : flat mk (l ++ m) = flat mk l ++ flat mk m := by simp [flat]
theorem flat_snoc (l : List α) (x : α) : flat mk (l ++ [x]) = flat mk l ++ mk x := by simp [flat]
theorem flat_length (hm : ∀ x, (mk x).length = sz) (l : List α) : (flat mk l).length = l.length * sz := by
  induction l with
  | nil => simp [flat]
  | cons x l ih => rw [flat_cons, List.length_append, hm, ih, List.length_cons, Nat.succ_mul, Nat.add_comm]
theorem flat_at (hm : ∀ x, (mk x).length = sz) (l : List α) (i j : Nat) {x : α} (hi : l[i]? = some x) (hj : j < sz) : (flat mk l)[i * sz + j]? = (mk x)[j]? := by
  induction l generalizing i with
  | nil => simp at hi
  | cons y l ih =>
    rw [flat_cons]
    cases i with
    | zero =>
      simp only [List.getElem?_cons_zero, Option.some.injEq] at hi
      subst hi
      rw [Nat.zero_mul, Nat.zero_add, List.getElem?_append_left (by rw [hm]; exact hj)]
    | succ i =>
      simp only [List.getElem?_cons_succ] at hi
      rw [Nat.succ_mul, List.getElem?_append_right (by rw [hm]; omega), hm, ← ih i hi]
      congr 1
      omega
theorem flat_take (hm : ∀ x, (mk x).length = sz) (l : List α) (k : Nat) : (flat mk l).take (k * sz) = flat mk (l.take k) := by
  induction l generalizing k with
  | nil => simp [flat]
  | cons x l ih =>
    cases k with
    | zero => simp [flat]
    | succ k =>
      rw [List.take_succ_cons, flat_cons, flat_cons, ← ih k, Nat.succ_mul, Nat.add_comm, List.take_append, hm, List.take_of_length_le (by rw [hm]; omega)]
      congr 2
      omega
end
structure Fr (S : Nat → Prop) (w w' : World) : Prop where
  os : w'.os = w.os
  tape : w'.tape = w.tape
  output : w'.output = w.output
  size : w.heap.size ≤ w'.heap.size
  block : ∀ i, i < w.heap.size → ¬ S i → w'.heap[i]? = w.heap[i]?
section
variable {S S' : Nat → Prop} {w w1 w2 : World}
theorem Fr.refl (S : Nat → Prop) (w : World) : Fr S w w := ⟨rfl, rfl, rfl, Nat.le_refl _, fun _ _ _ => rfl⟩
theorem Fr.trans (h : Fr S w w1) (k : Fr S' w1 w2) (hs : ∀ i, S' i → S i ∨ w.heap.size ≤ i) : Fr S w w2 :=
  ⟨k.os.trans h.os, k.tape.trans h.tape, k.output.trans h.output, Nat.le_trans h.size k.size, fun i hi hn => (k.block i (Nat.lt_of_lt_of_le hi h.size) (fun hx => (hs i hx).elim hn (by omega))).trans (h.block i hi hn)⟩
theorem Fr.by (h : Fr S w w1) {b : Option Nat} (k : w1.grownBy w2 b) (hs : ∀ i, b = some i → S i ∨ w.heap.size ≤ i) : Fr S w w2 :=
  ⟨k.os.trans h.os, k.tape.trans h.tape, k.output.trans h.output, Nat.le_trans h.size k.size, fun i hi hn => (k.block i (Nat.lt_of_lt_of_le hi h.size) (fun hx => (hs i hx.symm).elim hn (by omega))).trans (h.block i hi hn)⟩
theorem Fr.none_by (h : Fr S w w1) (k : w1.grownBy w2 none) : Fr S w w2 := h.by k (fun _ h => by cases h)
theorem Fr.alloc (h : Fr S w w1) (o : Obj) : Fr S w (w1.alloc o) := h.none_by (World.grownBy_alloc w1 o none)
theorem Fr.drew (h : Fr S w w1) : Fr S w { w1 with drawn := w1.drawn + 1 } := ⟨h.os, h.tape, h.output, h.size, h.block⟩
theorem Fr.mono (h : Fr S w w1) (hs : ∀ i, i < w.heap.size → S i → S' i) : Fr S' w w1 := ⟨h.os, h.tape, h.output, h.size, fun i hi hn => h.block i hi (fun hx => hn (hs i hi hx))⟩
theorem setCell_heap_ne (w : World) (a : Addr) (u : Value) (i : Nat) (h : i ≠ a.block) : (w.setCell a u).heap[i]? = w.heap[i]? := by
  simp only [World.setCell, Array.getElem?_modify]
  rw [if_neg (Ne.symm h)]
theorem grown_setCell (w : World) (a : Addr) (u : Value) : w.grownBy (w.setCell a u) (some a.block) :=
  ⟨rfl, rfl, rfl, by simp [World.setCell], fun i _ hi => setCell_heap_ne w a u i (fun e => hi (by rw [e]))⟩
theorem Fr.set (h : Fr S w w1) (a : Addr) (u : Value) (hs : S a.block ∨ w.heap.size ≤ a.block) : Fr S w (w1.setCell a u) := h.by (grown_setCell w1 a u) (fun i e => by cases e; exact hs)
end
theorem cell_of_block {w : World} {b : Nat} {cs : Array Value} {T : TypeId} {f : Nat × Nat} (h : w.heap[b]? = some (.cells cs T f)) (i : Nat) : w.cell? ⟨b, i, none⟩ = cs[i]? := by
  simp [World.cell?, h]
theorem frozen_of_block {w : World} {b : Nat} {cs : Array Value} {T : TypeId} (h : w.heap[b]? = some (.cells cs T (0, 0))) (i : Nat) : w.frozen? ⟨b, i, none⟩ = false := by
  simp [World.frozen?, h]
theorem block_set {w : World} {b i : Nat} {cs : Array Value} {T : TypeId} {f : Nat × Nat} (h : w.heap[b]? = some (.cells cs T f)) (u : Value) : (w.setCell ⟨b, i, none⟩ u).heap[b]? = some (.cells (cs.setIfInBounds i u) T f) := by
  simp [World.setCell, Array.getElem?_modify, h]
end Go.Sh
namespace Go.Sh
open Go Go.RowKit
section
variable {P : Program} {w : World} {K : Value → World → Prop}
theorem owns_base {B C : Nat} {e : TypeId} {sz : Nat} {v : Value} {n : Nat} {xs : List Value} (h : w.ownsRow B e sz v n xs) (hc : C ≤ B) : w.ownsRow C e sz v n xs :=
  ⟨h.1, h.2.imp id (fun ⟨g, cap, cur, a, b, r⟩ => ⟨g, cap, cur, a, Nat.le_trans hc b, r⟩)⟩
theorem run_append_more (t ty e : TypeId) (i : TypeInfo) (z : Value) (size bytes : Nat) (ht : P.underlying t = some (.slice e)) (hi : P.info? e = some i) (hz : i.zero = some z)
    (hsize : i.size = size) (hby : i.bytes = bytes) (hzs : z.cells.size = size) (hsz : 0 < size)
    (v : Value) (n : Nat) (xs : List Value) (hown : w.ownsRow 0 e size v n xs)
    (a : Addr) (m c : Nat) (news : List Value) (hl : news.length = m * size) (hnews : ∀ j u, news[j]? = some u → w.cell? (a.add j) = some u) (h1 : ∀ u ∈ news, u.oneCell' = true)
    (h63 : n + m ≤ maxLen) (hbytes : (n + m) * bytes ≤ 140737488355328) :
    ∃ v' w', (Builtin.append_ #[t, t] ty #[v, .slice (some a) m c]).run P w = .ok v' w' ∧ w'.ownsRow 0 e size v' (n + m) (xs ++ news) ∧ w.grownBy w' v.ownBlock ∧
      (∀ i, v'.ownBlock = some i → v.ownBlock = some i ∨ w.heap.size ≤ i) := by
  rcases hown.2 with ⟨hv, hn⟩ | ⟨g, cap, cur, hv, hb, hg, hnc, hm, hcs, htk⟩
  · have h' : w.ownsRow w.heap.size e size v n xs := ⟨hown.1, .inl ⟨hv, hn⟩⟩
    obtain ⟨v', w', hr, ho, hgr, _⟩ := run_append_own (P := P) (w := w) w.heap.size t ty e i z size bytes ht hi hz hsize hby hzs hsz v n xs h' a m c news hl hnews h1 h63 hbytes (Nat.le_refl _)
    exact ⟨v', w', hr, owns_base ho (Nat.zero_le _), hgr, fun j hj => .inr (owns_own ho hj).2.1⟩
  · by_cases hroom : n + m ≤ cap
    · subst hv
      obtain ⟨w', hr, ho, hgr⟩ := run_append_fits (P := P) (w := w) 0 t ty e i size ht hi hsize g n cap xs hown a m c news hl hnews h1 hroom
      exact ⟨_, w', hr, ho, hgr, fun j hj => .inl hj⟩
    · obtain ⟨v', w', hr, ho, hgr, _⟩ := run_append_own (P := P) (w := w) 0 t ty e i z size bytes ht hi hz hsize hby hzs hsz v n xs hown a m c news hl hnews h1 h63 hbytes (Nat.zero_le _)
      subst hsize
      subst hv
      have holds : ∀ j u, xs[j]? = some u → w.cell? ((⟨g, 0, none⟩ : Addr).add j) = some u := hown.cells (g := g) rfl
      have hr2 := run_append_grow (P := P) (w := w) t ty e i z ht hi hz ⟨g, 0, none⟩ n cap xs hown.1 holds a m c news hl hnews (by omega) (by simp only [maxLen] at h63; omega) (growslice_fits (by omega) (by rw [hby]; exact hbytes))
      rw [hr] at hr2
      cases hr2
      exact ⟨_, _, hr, ho, hgr, fun j hj => by cases hj; exact .inr (Nat.le_refl _)⟩
theorem append_at (t T e : TypeId) (i : TypeInfo) (z : Value) (size bytes : Nat) (ht : P.underlying t = some (.slice e)) (hi : P.info? e = some i) (hz : i.zero = some z)
    (hsize : i.size = size) (hby : i.bytes = bytes) (hzs : z.cells.size = size) (hsz : 0 < size)
    {v : Value} {n : Nat} {xs : List Value} (hown : w.ownsRow 0 e size v n xs)
    {ad : Option Addr} {m c : Nat} (news : List Value) (hl : news.length = m * size) (had : ad = none → m = 0 ∧ c = 0) (hnews : ∀ a, ad = some a → ∀ j u, news[j]? = some u → w.cell? (a.add j) = some u) (h1 : ∀ u ∈ news, u.oneCell' = true)
    (h63 : n + m ≤ maxLen) (hbytes : (n + m) * bytes ≤ 140737488355328)
    (k : ∀ v' w', w'.ownsRow 0 e size v' (n + m) (xs ++ news) → w.grownBy w' v.ownBlock → (∀ i, v'.ownBlock = some i → v.ownBlock = some i ∨ w.heap.size ≤ i) → K v' w') :
    oM P (.call { callee := .builtin .append, args := #[.tmp 0, .tmp 1], argTypes := #[t, t] }) T [v, .slice ad m c] K w := by
  rw [oM_append]
  cases ad with
  | some a =>
    obtain ⟨v', w', hr, h2, h3, h4⟩ := run_append_more (P := P) (w := w) t T e i z size bytes ht hi hz hsize hby hzs hsz v n xs hown a m c news hl (hnews a rfl) h1 h63 hbytes
    rw [hr]
    exact k v' w' h2 h3 h4
  | none =>
    obtain ⟨rfl, rfl⟩ := had rfl
    have hn : news = [] := List.eq_nil_of_length_eq_zero (by simpa using hl)
    subst hn
    rw [run_append_owned_none (P := P) (w := w) 0 t T e i size ht hi v n xs hown]
    refine k v w ?_ ⟨rfl, rfl, rfl, Nat.le_refl _, fun _ _ _ => rfl⟩ (fun i h => .inl h)
    simpa using hown
end
def RowR {α : Type} (mk : α → List Value) (sz : Nat) (w : World) (v : Value) (l : List α) : Prop :=
  ∃ ad c, v = .slice ad l.length c ∧ (ad = none → l.length = 0 ∧ c = 0) ∧ (l = [] ∨ ∃ b o, ad = some ⟨b, o, none⟩ ∧ b < w.heap.size ∧ ∀ (k : Nat) (x : Value), (flat mk l)[k]? = some x → w.cell? ⟨b, o + k, none⟩ = some x)
section
variable {α : Type} {mk : α → List Value} {sz : Nat} {w w' : World} {v : Value} {l : List α}
theorem RowR.of_owns {B : Nat} {e : TypeId} (h : w.ownsRow B e sz v l.length (flat mk l)) : RowR mk sz w v l := by
  rcases h.2 with ⟨rfl, h0⟩ | ⟨g, cap, cur, rfl, hb, hg, hn, hm, hcs, ht⟩
  · exact ⟨none, 0, by rw [h0], fun _ => ⟨h0, rfl⟩, .inl (List.eq_nil_of_length_eq_zero h0)⟩
  · refine ⟨_, cap, rfl, by simp, ?_⟩
    by_cases h0 : l = []
    · exact .inl h0
    · obtain ⟨g', cap', cur', hv, hlt, _, _, _, _, hc⟩ := owns_cells h (List.length_pos_iff.2 h0)
      cases hv
      exact .inr ⟨g, 0, rfl, hlt, fun k x hk => by rw [Nat.zero_add]; exact hc k x hk⟩
def Value.inBlock : Value → Option Nat
  | .slice (some a) _ _ => some a.block
  | _ => none
theorem RowR.keep (h : RowR mk sz w v l) (hs : w.heap.size ≤ w'.heap.size) (hk : ∀ i, Value.inBlock v = some i → i < w.heap.size → w'.heap[i]? = w.heap[i]?) : RowR mk sz w' v l := by
  obtain ⟨ad, c, rfl, h0, h⟩ := h
  refine ⟨ad, c, rfl, h0, h.imp id ?_⟩
  rintro ⟨b, o, rfl, hlt, hc⟩
  refine ⟨b, o, rfl, Nat.lt_of_lt_of_le hlt hs, fun k x hx => ?_⟩
  have := hc k x hx
  unfold World.cell? at this ⊢
  rw [hk b rfl hlt]
  exact this
end
theorem add_none (b o k : Nat) : (⟨b, o, none⟩ : Addr).add k = ⟨b, o + k, none⟩ := by
  unfold Addr.add
  split
  · rename_i h0; rw [h0]; simp
  · rfl
end Go.Sh
namespace Go.Sh
open Go Go.RowKit
def BufIs (w : World) (g : Nat) (e : TypeId) (l : List UInt8) : Prop := w.heap[g]? = some (.cells (Lib.byteCells l).toArray e (0, 0))
theorem alloc_size (w : World) (o : Obj) : (w.alloc o).heap.size = w.heap.size + 1 := by
  show (w.heap.push o).size = _
  simp
theorem grown_setRow (w : World) (g : Nat) (cs : Array Value) : w.grownBy (w.setRow g cs) (some g) :=
  ⟨rfl, rfl, rfl, by simp [World.setRow], fun i _ hi => setRow_other w g i cs (fun e => hi (by rw [e]))⟩
section
variable {P : Program} {w : World} {K : Value → World → Prop}
theorem makeBytes_at {t T e : TypeId} {i : TypeInfo} (ht : P.underlying t = some (.slice e)) (hi : P.info? e = some i) (hz : i.zero = some (.int .u8 0)) (hs : i.size = 1) (hb : i.bytes = 1) (n : Nat) (hn : n ≤ 1099511627776)
    (k : BufIs (w.alloc (.cells (Lib.byteCells (List.replicate n 0)).toArray e)) w.heap.size e (List.replicate n 0) → K (.slice (some ⟨w.heap.size, 0, none⟩) n n) (w.alloc (.cells (Lib.byteCells (List.replicate n 0)).toArray e))) :
    oM P (.makeSlice t (.tmp 0) (.tmp 1)) T [.int .i64 n, .int .i64 n] K w := by
  rw [oM_makeSlice, run_make w t e i (.int .u8 0) ht hi hz .i64 .i64 n n (by omega) (Int.le_refl _) (by rw [hb]; omega) (by omega), hs]
  have e1 : madeCells (Value.int .u8 0).cells ((n : Int).toNat * 1) = (Lib.byteCells (List.replicate n 0)).toArray := by
    unfold madeCells Lib.byteCells
    apply Array.ext'
    simp only [Int.toNat_natCast, Nat.mul_one, Array.toList_map, Array.toList_range, List.map_replicate]
    apply List.ext_getElem
    · simp
    · intro j h1 h2
      simp [Value.cells, Nat.mod_one]
  rw [e1, Int.toNat_natCast]
  exact k (heap_alloc_new w _)
theorem copyStr_at {t t' T e : TypeId} {g o n c : Nat} {l : List UInt8} (ht : P.underlying t = some (.slice e)) (hs : (P.info? e).map (·.size) = some 1) (hg : BufIs w g e l) (s : List UInt8) (hn : s.length ≤ n) (hfit : o + s.length ≤ l.length)
    (k : ∀ w', BufIs w' g e (l.take o ++ s ++ l.drop (o + s.length)) → w.grownBy w' (some g) → K (.int .i64 s.length) w') :
    oM P (.call { callee := .builtin .copy, args := #[.tmp 0, .tmp 1], argTypes := #[t, t'] }) T [.slice (some ⟨g, o, none⟩) n c, .string ⟨s.toArray⟩] K w := by
  rw [oM_copy, Lib.run_copy_row_string w t t' T e g o n c ⟨s.toArray⟩ _ e ht hs hg hn (by simp [Lib.byteCells]; exact hfit)]
  refine k _ ?_ (grown_setRow _ _ _)
  have := setRow_heap w g _ ((Lib.byteCells l).toArray.toList.take o ++ Lib.byteCells (⟨s.toArray⟩ : ByteArray).data.toList ++ (Lib.byteCells l).toArray.toList.drop (o + (⟨s.toArray⟩ : ByteArray).size)).toArray e (0, 0) hg
  unfold BufIs
  rw [this]
  have e2 : (⟨s.toArray⟩ : ByteArray).size = s.length := rfl
  simp [Lib.byteCells, List.map_take, List.map_drop, e2]
theorem toStr_at {t d T e : TypeId} {g n c : Nat} {l : List UInt8} (hs : P.underlying t = some (.slice e)) (he : P.underlying e = some (.int .u8)) (hd : P.underlying d = some .string) (hg : BufIs w g e l) (hn : n = l.length) (k : K (.string ⟨l.toArray⟩) w) :
    oM P (.convert t d (.tmp 0)) T [.slice (some ⟨g, 0, none⟩) n c] K w := by
  subst hn
  have := run_convert_bytes_back (P := P) w t d e ⟨g, 0, none⟩ c l hs he hd (fun j hj => by
    rw [add_none, Nat.zero_add, cell_of_block hg]
    simp [Lib.byteCells, hj])
  rw [rM_of (S := convert t d (.slice (some ⟨g, 0, none⟩) l.length c)) rfl, this]
  exact k
theorem sliceFrom_at {t T : TypeId} {g o n c : Nat} {sz : Nat} (ht : P.underlying t = some (.slice (P.elem t))) (hs : ∀ w, (sizeOf (P.elem t)).run P w = .ok sz w) (i : Nat) (hi : i ≤ n) (hc : i < c) (k : K (.slice (some ⟨g, o + i * sz, none⟩) (n - i) (c - i)) w) :
    oM P (.slice t (.tmp 0) (some (.tmp 1)) none none) T [.slice (some ⟨g, o, none⟩) n c, .int .i64 i] K w := by
  rw [oM_sliceFrom, run_sliceAt_slice w t _ _ _ _ ht, run_slice_l w t _ n c ht .i64 i (by omega) (by omega), hs]
  have : ¬ c = i := by omega
  simp only [Result.andThen_ok, sliced, Int.toNat_natCast, if_neg this, Option.map_some, add_none]
  exact k
theorem sliceTo_at {t T : TypeId} {a : Option Addr} {n c : Nat} {sz : Nat} (ht : P.underlying t = some (.slice (P.elem t))) (hs : ∀ w, (sizeOf (P.elem t)).run P w = .ok sz w) (i : Nat) (hi : i ≤ c) (k : K (.slice a i c) w) :
    oM P (.slice t (.tmp 0) none (some (.tmp 1)) none) T [.slice a n c, .int .i64 i] K w := by
  rw [oM_sliceTo, run_sliceAt_slice w t _ _ _ _ ht, run_slice_h w t _ n c ht .i64 i (by omega) (by omega), hs]
  have e : a.map (fun x => x.add (0 * sz)) = a := by
    cases a with
    | none => rfl
    | some a => simp [Addr.add]
  simp only [Result.andThen_ok, sliced, Int.toNat_natCast, Nat.sub_zero, e, ite_self]
  exact k
end
end Go.Sh
namespace Go.Sh
open Go Go.RowKit
def BufM (w : World) (e : TypeId) (v : Value) (l : List UInt8) : Prop :=
  ∃ g cap cur fz, v = .slice (some ⟨g, 0, none⟩) l.length cap ∧ w.heap[g]? = some (.cells cur e fz) ∧ (∀ i, i < cur.size → ¬ (fz.1 ≤ i ∧ i < fz.2)) ∧ cur.size = cap ∧ l.length ≤ cap ∧ ∀ j (h : j < l.length), cur[j]? = some (.int .u8 (l[j].toNat : Int))
section
variable {P : Program} {w w' : World} {e : TypeId} {v : Value} {l : List UInt8} {K : Value → World → Prop}
theorem BufM.shape (h : BufM w e v l) : ∃ g c, v = .slice (some ⟨g, 0, none⟩) l.length c ∧ g < w.heap.size := by
  obtain ⟨g, cap, cur, fz, rfl, hg, _⟩ := h
  exact ⟨g, cap, rfl, (Array.getElem?_eq_some_iff.1 hg).1⟩
theorem BufM.keep (h : BufM w e v l) (hk : ∀ i, v.ownBlock = some i → w'.heap[i]? = w.heap[i]?) : BufM w' e v l := by
  obtain ⟨g, cap, cur, fz, rfl, hg, r⟩ := h
  exact ⟨g, cap, cur, fz, rfl, by rw [hk g rfl]; exact hg, r⟩
theorem BufM.set (h : BufM w e v l) {j : Nat} (hj : j < l.length) (x : UInt8) : ∃ g c, v = .slice (some ⟨g, 0, none⟩) l.length c ∧ w.frozen? ⟨g, j, none⟩ = false ∧ (w.cell? ⟨g, j, none⟩).isSome = true ∧ BufM (w.setCell ⟨g, j, none⟩ (.int .u8 (x.toNat : Int))) e v (l.set j x) := by
  obtain ⟨g, cap, cur, fz, rfl, hg, hfz, hcs, hlc, hcell⟩ := h
  refine ⟨g, cap, rfl, ?_, ?_, ⟨g, cap, cur.setIfInBounds j (.int .u8 (x.toNat : Int)), fz, by rw [List.length_set], block_set hg _, by simpa using hfz, by simpa using hcs, by simpa using hlc, fun k hk => ?_⟩⟩
  · unfold World.frozen?
    rw [hg]
    have := hfz j (by omega)
    simp only [Bool.and_eq_false_iff, decide_eq_false_iff_not]
    omega
  · rw [cell_of_block hg, hcell j hj]; rfl
  · rw [List.length_set] at hk
    by_cases hkj : k = j
    · subst hkj
      rw [Array.getElem?_setIfInBounds_self_of_lt (by omega)]
      simp
    · rw [Array.getElem?_setIfInBounds_ne (Ne.symm hkj), hcell k hk, List.getElem_set_ne (Ne.symm hkj)]
theorem BufM.cell (h : BufM w e v l) {j : Nat} (hj : j < l.length) : ∃ g c, v = .slice (some ⟨g, 0, none⟩) l.length c ∧ w.cell? ⟨g, j, none⟩ = some (.int .u8 (l[j].toNat : Int)) := by
  obtain ⟨g, cap, cur, fz, rfl, hg, hfz, hcs, hlc, hcell⟩ := h
  exact ⟨g, cap, rfl, by rw [cell_of_block hg]; exact hcell j hj⟩
end
end Go.Sh
namespace Go.Sh
open Go Go.RowKit
section
variable {P : Program} {K : Value → World → Prop} {w : World}
@[go_sem] theorem oM_shr64 (t t' T : TypeId) (yk : IntKind) (x y : Int) (h0 : 0 ≤ y) (h1 : y ≤ 64) : oM P (.binOp .shr t (.tmp 0) (.tmp 1) t') T [.int .u64 x, .int yk y] = pureM (.int .u64 (x / 2 ^ y.toNat)) := by
  funext K w
  simp [oM, opM, xop, execOp, evalL, evE, binOp]
  rfl
@[go_sem] theorem oM_shl64 (t t' T : TypeId) (yk : IntKind) (x y : Int) (h0 : 0 ≤ y) (h1 : y ≤ 64) : oM P (.binOp .shl t (.tmp 0) (.tmp 1) t') T [.int .u64 x, .int yk y] = pureM (.int .u64 (x * 2 ^ y.toNat % 18446744073709551616)) := by
  funext K w
  simp [oM, opM, xop, execOp, evalL, evE, binOp]
  rfl
@[go_sem] theorem oM_shr32 (t t' T : TypeId) (yk : IntKind) (x y : Int) (h0 : 0 ≤ y) (h1 : y ≤ 32) : oM P (.binOp .shr t (.tmp 0) (.tmp 1) t') T [.int .u32 x, .int yk y] = pureM (.int .u32 (x / 2 ^ y.toNat)) := by
  funext K w
  simp [oM, opM, xop, execOp, evalL, evE, binOp]
  rfl
@[go_sem] theorem oM_shl32 (t t' T : TypeId) (yk : IntKind) (x y : Int) (h0 : 0 ≤ y) (h1 : y ≤ 32) : oM P (.binOp .shl t (.tmp 0) (.tmp 1) t') T [.int .u32 x, .int yk y] = pureM (.int .u32 (x * 2 ^ y.toNat % 4294967296)) := by
  funext K w
  simp [oM, opM, xop, execOp, evalL, evE, binOp]
  rfl
@[go_sem] theorem oM_and64 (t t' T : TypeId) (x y : Int) : oM P (.binOp .and t (.tmp 0) (.tmp 1) t') T [.int .u64 x, .int .u64 y] = pureM (.int .u64 (bits .and .u64 x y)) := by
  funext K w
  simp [oM, opM, xop, execOp, evalL, evE, binOp, go_sem]
@[go_sem] theorem oM_or64 (t t' T : TypeId) (x y : Int) : oM P (.binOp .or t (.tmp 0) (.tmp 1) t') T [.int .u64 x, .int .u64 y] = pureM (.int .u64 (bits .or .u64 x y)) := by
  funext K w
  simp [oM, opM, xop, execOp, evalL, evE, binOp, go_sem]
end
end Go.Sh
namespace Go.Sh
open Go Go.RowKit
abbrev Next (w w' : World) : Prop := Below w.heap.size w w'
theorem _root_.Go.RowKit.Below.on {a b c : World} (h : Below a.heap.size a b) (k : Below b.heap.size b c) : Below a.heap.size a c := h.trans (k.mono h.size)
theorem _root_.Go.RowKit.Below.drawn {B : Nat} {w : World} : Below B w { w with drawn := w.drawn + 1 } := ⟨rfl, rfl, rfl, Nat.le_refl _, fun _ _ => rfl⟩
def BoxIs (w : World) (g : Nat) (cs : List Value) : Prop := ∀ w', Below w.heap.size w w' → ∀ (i : Nat) (v : Value), cs[i]? = some v → w'.cell? ⟨g, i, none⟩ = some v
theorem BoxIs.next {w w' : World} {g : Nat} {cs : List Value} (h : BoxIs w g cs) (hb : Below w.heap.size w w') : BoxIs w' g cs :=
  fun w2 h2 => h w2 (Below.on hb h2)
def I64 (n : Int) : Prop := -9223372036854775808 ≤ n ∧ n < 9223372036854775808
def intC (n : Int) : List Value := [.int .i64 n]
structure Ints (w : World) (v : Value) (l : List Int) : Prop where
  row : RowR intC 1 w v l
  rng : ∀ n ∈ l, I64 n
  len : l.length ≤ 9223372036854775807
theorem Ints.next {w w' : World} {v : Value} {l : List Int} (h : Ints w v l) (hb : Below w.heap.size w w') : Ints w' v l :=
  ⟨h.row.keep hb.size (fun i _ hi => hb.block i hi), h.rng, h.len⟩
theorem Ints.nil (w : World) : Ints w (.slice none 0 0) [] := ⟨⟨none, 0, rfl, fun _ => ⟨rfl, rfl⟩, .inl rfl⟩, by simp, by simp⟩
theorem flat_int (l : List Int) : flat intC l = l.map (fun n => Value.int .i64 n) := by
  induction l with
  | nil => rfl
  | cons a l ih => rw [flat_cons, ih]; rfl
theorem Ints.at {w : World} {ad : Option Addr} {n c : Nat} {l : List Int} (h : Ints w (.slice ad n c) l) {i : Nat} (hi : i < l.length) :
    ∃ b o, ad = some ⟨b, o, none⟩ ∧ b < w.heap.size ∧ (∀ w', Below w.heap.size w w' → w'.cell? ⟨b, o + i, none⟩ = some (.int .i64 l[i])) ∧ I64 l[i] ∧ n = l.length := by
  obtain ⟨⟨ad', c', hv, h0, hc⟩, hr, _⟩ := h
  cases hv
  rcases hc with rfl | ⟨b, o, rfl, hlt, hc⟩
  · simp at hi
  · refine ⟨b, o, rfl, hlt, fun w' hb => ?_, hr _ (List.getElem_mem hi), rfl⟩
    rw [hb.cell hlt]
    exact hc i _ (by rw [flat_int]; simp [hi])
theorem Ints.of_owns {w : World} {B : Nat} {e : TypeId} {v : Value} {l : List Int} (h : w.ownsRow B e 1 v l.length (flat intC l)) (hr : ∀ n ∈ l, I64 n) (hl : l.length ≤ 9223372036854775807) : Ints w v l :=
  ⟨RowR.of_owns h, hr, hl⟩
@[go_sem] theorem oM_makeFunc2 {P : Program} {K : Value → World → Prop} {w : World} (fn : Fn) (T : TypeId) (x y : Value) : oM P (.makeFunc fn #[] #[.tmp 0, .tmp 1]) T [x, y] K w = K (.func fn #[] #[x, y]) w := oM_of_run (by simp [xop, execOp, evalL, evE, Instr.makeFunc])
@[go_sem] theorem oM_makeFunc01 {P : Program} {K : Value → World → Prop} {w : World} (fn : Fn) (T : TypeId) (x : Value) : oM P (.makeFunc fn #[] #[.tmp 0]) T [x] K w = K (.func fn #[] #[x]) w := oM_of_run (by simp [xop, execOp, evalL, evE, Instr.makeFunc])
end Go.Sh
namespace Go.Sh
open Go
section
variable {P : Program} {K : Value → World → Prop} {w : World} {A B : Prop} {p : Prop} [Decidable p] {b c : Bool} {m : (Value → World → Prop) → World → Prop} {T : TypeId} {x y v : Value} {C : World → Prop} {KQ : Value → Prop}
theorem idGd {g : Bool} (h : gdM g m K w) : gdM g m K w := h
theorem idGdD {q : Prop} {d : Decidable q} (h : gdM (gd (.bool (@decide q d)) c) m K w) : gdM (gd (.bool (@decide q d)) c) m K w := h
theorem idPick (h : oM P (.pick (.tmp 0) (.tmp 1) (.tmp 2)) T [v, x, y] K w) : oM P (.pick (.tmp 0) (.tmp 1) (.tmp 2)) T [v, x, y] K w := h
theorem idCond (h : condM v A B) : condM v A B := h
theorem idO {o : Op} {l : List Value} (h : oM P o T l K w) : oM P o T l K w := h
theorem zI (k : m K w) (h : ¬p := by first|assumption|omega) : gdM (gd (.bool (decide p)) false) m K w := gdf_pos h k
theorem zJ (k : K undef w) (h : p := by first|assumption|omega) : gdM (gd (.bool (decide p)) false) m K w := gdf_neg h k
theorem zA (k : m K w) : gdM (gd (.bool true) true) m K w := gdtT k
theorem zC (k : m K w) : gdM (gd (.bool false) false) m K w := gdfF k
theorem zD (k : K undef w) : gdM (gd (.bool true) false) m K w := gdfT k
theorem yB (k : K x w) : oM P (.pick (.tmp 0) (.tmp 1) (.tmp 2)) T [.bool true, x, y] K w := pickT k
theorem yC (k : K y w) : oM P (.pick (.tmp 0) (.tmp 1) (.tmp 2)) T [.bool false, x, y] K w := pickF k
theorem yD (k : K x w) (h : p := by first|assumption|omega) : oM P (.pick (.tmp 0) (.tmp 1) (.tmp 2)) T [.bool (decide p), x, y] K w := pick_pos h k
theorem yE (k : K y w) (h : ¬p := by first|assumption|omega) : oM P (.pick (.tmp 0) (.tmp 1) (.tmp 2)) T [.bool (decide p), x, y] K w := pick_neg h k
theorem yL (k : A) : condM (.bool true) A B := condT k
theorem yM (k : B) : condM (.bool false) A B := condF k
theorem yN (k : A) (h : p := by first|assumption|omega) : condM (.bool (decide p)) A B := cond_pos h k
theorem yO (k : B) (h : ¬p := by first|assumption|omega) : condM (.bool (decide p)) A B := cond_neg h k
theorem yQ (k : A) (h : ¬p := by first|assumption|omega) : condM (.bool (!decide p)) A B := condn_pos h k
theorem yR (k : B) (h : p := by first|assumption|omega) : condM (.bool (!decide p)) A B := condn_neg h k
end
end Go.Sh
namespace Go.Sh
open Go Go.RowKit
@[reducible] def cellsAre (w : World) : List (Addr × Value) → Prop
  | [] => True
  | p :: l => w.cell? p.1 = some p.2 ∧ cellsAre w l
theorem cellsAre_keep {w w' : World} : ∀ {L : List (Addr × Value)}, cellsAre w L → (∀ (a : Addr), a.block < w.heap.size → w'.cell? a = w.cell? a) → cellsAre w' L
  | [], _, _ => trivial
  | p :: l, h, k => by
    refine ⟨?_, cellsAre_keep h.2 k⟩
    have hlt : p.1.block < w.heap.size := by
      have h1 := h.1
      by_cases hc : p.1.block < w.heap.size
      · exact hc
      · unfold World.cell? at h1
        rw [Array.getElem?_eq_none (by omega)] at h1
        simp at h1
    rw [k _ hlt]; exact h.1
theorem cellsAre_append {w : World} : ∀ {A B : List (Addr × Value)}, cellsAre w A → cellsAre w B → cellsAre w (A ++ B)
  | [], _, _, hb => hb
  | _ :: _, _, ha, hb => ⟨ha.1, cellsAre_append ha.2 hb⟩
structure Kn (w0 : World) (L : List (Addr × Value)) (w' : World) : Prop where
  below : Below w0.heap.size w0 w'
  cells : cellsAre w' L
namespace Kn
variable {w0 w w' : World} {L : List (Addr × Value)}
theorem start (w : World) : Kn w [] w := ⟨Below.refl _ _, trivial⟩
theorem next (h : Kn w0 L w) (hb : Below w.heap.size w w') : Kn w0 L w' := ⟨h.below.on hb, cellsAre_keep h.cells fun a ha => hb.cell ha⟩
theorem drew (h : Kn w0 L w) : Kn w0 L { w with drawn := w.drawn + 1 } := h.next .drawn
theorem more {A : List (Addr × Value)} (h : Kn w0 L w) (ha : cellsAre w A) : Kn w0 (A ++ L) w := ⟨h.below, cellsAre_append ha h.cells⟩
end Kn
@[reducible] def cellsOf (L : List (Addr × Value)) (b : Nat) : Nat → List Value → List (Addr × Value)
  | _, [] => L
  | i, v :: l => (⟨b, i, none⟩, v) :: cellsOf L b (i + 1) l
def Mine (w : World) (g : Nat) (n : Nat) : Prop := ∃ cur T, w.heap[g]? = some (.cells cur T (0, 0)) ∧ cur.size = n
theorem Mine.next {w w' : World} {g n : Nat} (h : Mine w g n) (hb : Below w.heap.size w w') : Mine w' g n := by
  obtain ⟨cur, T, h1, h2⟩ := h
  refine ⟨cur, T, ?_, h2⟩
  rw [hb.block g (Array.getElem?_eq_some_iff.1 h1).1]; exact h1
section
variable {P : Program} {w0 w : World} {K : Value → World → Prop} {T T' : TypeId} {L : List (Addr × Value)}
end
end Go.Sh
namespace Go.Sh
open Go Go.RowKit
structure KnM (w0 : World) (L : List (Addr × Value)) (g n : Nat) (w' : World) : Prop where
  kn : Kn w0 L w'
  mine : Mine w' g n
  base : w0.heap.size ≤ g
  off : ∀ p ∈ L, p.1.block ≠ g
namespace KnM
variable {w0 w w' : World} {L : List (Addr × Value)} {g n : Nat}
theorem next (h : KnM w0 L g n w) (hb : Below w.heap.size w w') : KnM w0 L g n w' := ⟨h.kn.next hb, h.mine.next hb, h.base, h.off⟩
theorem drew (h : KnM w0 L g n w) : KnM w0 L g n { w with drawn := w.drawn + 1 } := h.next .drawn
theorem cells (h : KnM w0 L g n w) : cellsAre w L := h.kn.cells
theorem below (h : KnM w0 L g n w) : Below w0.heap.size w0 w := h.kn.below
end KnM
section
variable {P : Program} {w0 w : World} {K : Value → World → Prop} {T T' : TypeId} {L : List (Addr × Value)} {g n : Nat}
variable {C : World → Prop} {KQ : Value → Prop} {x y v : Value} {p : Prop} [Decidable p]
end
end Go.Sh
namespace Go.Sh
open Go Go.RowKit
@[reducible] def ptr (g i : Nat) : Value := .pointer (some ⟨g, i, none⟩)
def Holds (w : World) (g : Nat) (T : TypeId) (vs : List Value) : Prop := w.heap[g]? = some (.cells vs.toArray T (0, 0))
theorem Holds.lt {w : World} {g : Nat} {T : TypeId} {vs : List Value} (h : Holds w g T vs) : g < w.heap.size := (Array.getElem?_eq_some_iff.1 h).1
theorem Holds.next {w w' : World} {g : Nat} {T : TypeId} {vs : List Value} (h : Holds w g T vs) (hb : Below w.heap.size w w') : Holds w' g T vs := by
  unfold Holds
  rw [hb.block g h.lt]; exact h
theorem Holds.cell {w : World} {g : Nat} {T : TypeId} {vs : List Value} (h : Holds w g T vs) (i : Nat) (hi : i < vs.length) : w.cell? ⟨g, i, none⟩ = some vs[i] := by
  unfold World.cell?
  rw [h]
  simp [hi]
section
variable {P : Program} {w : World} {K : Value → World → Prop} {T T' T0 : TypeId} {g n : Nat}
end
end Go.Sh
namespace Go.Sh
open Go Go.RowKit
variable {S : World → World → Prop} {A N : (Value → World → Prop) → Prop}
end Go.Sh
namespace JnSpec
open CodeSpec Go.Lib
def sumFrom : Nat → Bytes → Int
  | _, [] => 0
  | i, c :: t => (c.toNat : Int) * (i + 1) + sumFrom (i + 1) t
def sumR (s : Bytes) : Int := sumFrom 0 s
def form (s : Bytes) : Bytes := encText s ++ encNum (sumR s)
def formL (l : List Bytes) : Bytes := (l.map form).flatten
def bad1 (s t : Bytes) (n : Int) : Prop := 20000 < t.length ∨ n ≠ sumR t ∨ s.length < (form t).length ∨ s.take (form t).length ≠ form t
instance (s t : Bytes) (n : Int) : Decidable (bad1 s t n) := by unfold bad1; infer_instance
def first (s : Bytes) : Option Bytes := if bad1 s (rdText ⟨s, false⟩).1 (rdNum (rdText ⟨s, false⟩).2).1 then none else some (rdText ⟨s, false⟩).1
def recs : Nat → Bytes → List Bytes × Nat
  | 0, _ => ([], 0)
  | k + 1, s => if s = [] then ([], 0) else match first s with
    | none => ([], 0)
    | some t => (t :: (recs k (s.drop (form t).length)).1, (form t).length + (recs k (s.drop (form t).length)).2)
def readJ (s : Bytes) : List Bytes × Nat := recs s.length s
theorem sumFrom_bound (s : Bytes) (i : Nat) : 0 ≤ sumFrom i s ∧ sumFrom i s ≤ 255 * s.length * (i + s.length) := by
  induction s generalizing i with
  | nil => simp [sumFrom]
  | cons c t ih =>
    have h := ih (i + 1)
    have hc : (c.toNat : Int) ≤ 255 := by have := c.toNat_lt; omega
    have h0 : (0 : Int) ≤ (c.toNat : Int) := by omega
    have h1 : 0 ≤ (c.toNat : Int) * (i + 1) := Int.mul_nonneg h0 (by omega)
    have h2 : (c.toNat : Int) * (i + 1) ≤ 255 * (i + 1) := Int.mul_le_mul_of_nonneg_right hc (by omega)
    simp only [sumFrom, List.length_cons]
    refine ⟨by omega, ?_⟩
    have h3 := h.2
    have e : (255 : Int) * ((t.length + 1 : Nat) : Int) * ((i : Int) + ((t.length + 1 : Nat) : Int)) = 255 * (t.length : Int) * (((i + 1 : Nat) : Int) + (t.length : Int)) + 255 * ((i : Int) + 1 + (t.length : Int)) := by
      push_cast
      grind
    have e2 : (0 : Int) ≤ t.length := by omega
    omega
theorem sumR_bound (s : Bytes) : 0 ≤ sumR s ∧ sumR s ≤ 255 * s.length * s.length := by
  have := sumFrom_bound s 0
  simpa [sumR] using this
theorem sq_le {n m : Nat} (h : n ≤ m) : (255 : Int) * n * n ≤ 255 * m * m := by
  have h1 : (n : Int) ≤ m := by omega
  have h2 : (n : Int) * n ≤ (m : Int) * m := Int.mul_le_mul h1 h1 (by omega) (by omega)
  grind
theorem sumR_InR {s : Bytes} (h : s.length ≤ 16777216) : InR (sumR s) ∧ 0 ≤ sumR s := by
  have h1 := sumR_bound s
  have h2 := sq_le h
  have : (255 : Int) * (16777216 : Nat) * (16777216 : Nat) < 9223372036854775807 := by decide
  exact ⟨⟨by omega, by omega⟩, h1.1⟩
theorem form_pos (s : Bytes) : 0 < (form s).length := by
  simp [form, encText]
  omega
theorem first_form {t : Bytes} (ht : t.length ≤ 20000) (rest : Bytes) : first (form t ++ rest) = some t := by
  have h1 : form t ++ rest = encText t ++ (encNum (sumR t) ++ rest) := by simp [form]
  have h2 := rdText_enc t (encNum (sumR t) ++ rest) (by omega)
  have h3 := sumR_InR (s := t) (by omega)
  have h4 := rdNum_enc (sumR t) h3.1 h3.2 rest
  unfold first
  rw [h1, h2]
  dsimp only
  rw [h4, ← h1]
  rw [if_neg]
  unfold bad1
  rintro (h | h | h | h)
  · omega
  · exact h rfl
  · simp at h; omega
  · exact h (by simp)
theorem first_some {s t : Bytes} (h : first s = some t) : t.length ≤ 20000 ∧ s = form t ++ s.drop (form t).length := by
  unfold first at h
  split at h
  · cases h
  · rename_i hb
    simp only [Option.some.injEq] at h
    rw [h] at hb
    unfold bad1 at hb
    refine ⟨by omega, ?_⟩
    have : s.take (form t).length = form t := Classical.not_not.1 (fun e => hb (.inr (.inr (.inr e))))
    conv => lhs; rw [← List.take_append_drop (form t).length s, this]
theorem first_nil : first [] = none := by
  cases h : first [] with
  | none => rfl
  | some t =>
    have := (first_some h).2
    have := form_pos t
    have e : (form t ++ List.drop (form t).length []) = [] := (first_some h).2.symm
    simp only [List.append_eq_nil_iff] at e
    rw [e.1] at this
    simp at this
theorem recs_step {k : Nat} {s : Bytes} (hk : s.length ≤ k) : recs k s = match first s with
    | none => ([], 0)
    | some t => (t :: (readJ (s.drop (form t).length)).1, (form t).length + (readJ (s.drop (form t).length)).2) := by
  induction k using Nat.strongRecOn generalizing s with
  | ind k ih =>
  cases k with
  | zero =>
    have : s = [] := List.length_eq_zero_iff.1 (by omega)
    subst this
    rw [first_nil]; rfl
  | succ k =>
    unfold recs
    split
    · rename_i e; subst e; rw [first_nil]
    · cases h : first s with
      | none => rfl
      | some t =>
        dsimp only
        have hp := form_pos t
        have h1 : (s.drop (form t).length).length ≤ k := by rw [List.length_drop]; omega
        have e1 := ih k (by omega) h1
        have e2 := ih (s.drop (form t).length).length (by omega) (s := s.drop (form t).length) (Nat.le_refl _)
        have : recs k (s.drop (form t).length) = readJ (s.drop (form t).length) := e1.trans e2.symm
        rw [this]
theorem readJ_none {s : Bytes} (h : first s = none) : readJ s = ([], 0) := by
  unfold readJ; rw [recs_step (Nat.le_refl _), h]
theorem readJ_some {s t : Bytes} (h : first s = some t) : readJ s = (t :: (readJ (s.drop (form t).length)).1, (form t).length + (readJ (s.drop (form t).length)).2) := by
  conv => lhs; unfold readJ
  rw [recs_step (Nat.le_refl _), h]
theorem formL_cons (t : Bytes) (l : List Bytes) : formL (t :: l) = form t ++ formL l := by simp [formL]
theorem formL_append (l m : List Bytes) : formL (l ++ m) = formL l ++ formL m := by simp [formL]
def Few (l : List Bytes) : Prop := ∀ t ∈ l, t.length ≤ 20000
theorem readJ_forms {l : List Bytes} (hl : Few l) (rest : Bytes) : readJ (formL l ++ rest) = (l ++ (readJ rest).1, (formL l).length + (readJ rest).2) := by
  induction l with
  | nil => simp [formL]
  | cons t l ih =>
    have ht := hl t (by simp)
    have ih := ih (fun x hx => hl x (by simp [hx]))
    have e : formL (t :: l) ++ rest = form t ++ (formL l ++ rest) := by rw [formL_cons]; simp
    rw [e, readJ_some (first_form ht _)]
    have : (form t ++ (formL l ++ rest)).drop (form t).length = formL l ++ rest := by simp
    rw [this, ih, formL_cons]
    simp [Nat.add_assoc]
theorem readJ_spec (s : Bytes) : Few (readJ s).1 ∧ (readJ s).2 = (formL (readJ s).1).length ∧ s = formL (readJ s).1 ++ s.drop (readJ s).2 ∧ (s.drop (readJ s).2 = [] ∨ first (s.drop (readJ s).2) = none) := by
  generalize hn : s.length = n
  induction n using Nat.strongRecOn generalizing s with
  | ind n ih =>
  cases h : first s with
  | none =>
    rw [readJ_none h]
    exact ⟨fun t ht => by simp at ht, rfl, by simp [formL], .inr (by simpa using h)⟩
  | some t =>
    have h1 := first_some h
    have hp := form_pos t
    have hlen := congrArg List.length h1.2
    rw [List.length_append] at hlen
    have h2 := ih (s.drop (form t).length).length (by rw [List.length_drop]; omega) (s.drop (form t).length) rfl
    rw [readJ_some h]
    dsimp only
    refine ⟨fun x hx => ?_, ?_, ?_, ?_⟩
    · rcases List.mem_cons.1 hx with rfl | hx
      · exact h1.1
      · exact h2.1 x hx
    · rw [formL_cons, List.length_append, h2.2.1]
    · rw [formL_cons, List.append_assoc]
      have h3 := h2.2.2.1
      rw [List.drop_drop] at h3
      conv => lhs; rw [h1.2, h3]
    · have h3 := h2.2.2.2
      rw [List.drop_drop] at h3
      exact h3
def Dm : Bytes → Bytes → Prop
  | _, [] => True
  | [], _ :: _ => False
  | a :: x, b :: y => (b = a ∨ b = 0) ∧ Dm x y
theorem Dm.refl : ∀ x : Bytes, Dm x x
  | [] => trivial
  | _ :: x => ⟨.inl rfl, Dm.refl x⟩
theorem Dm.split : ∀ (p : Bytes) {x y : Bytes}, Dm x (p ++ y) → ∃ q x', x = q ++ x' ∧ q.length = p.length ∧ Dm q p ∧ Dm x' y
  | [], x, _, h => ⟨[], x, rfl, rfl, trivial, h⟩
  | b :: p, [], _, h => by cases h
  | b :: p, a :: x, y, h => by
    obtain ⟨q, x', e, l, d, r⟩ := Dm.split p h.2
    exact ⟨a :: q, x', by rw [e]; rfl, by simp [l], ⟨h.1, d⟩, r⟩
theorem Dm.solid : ∀ {q p : Bytes}, Dm q p → q.length = p.length → (∀ c ∈ p, c ≠ 0) → q = p
  | [], [], _, _, _ => rfl
  | a :: q, [], _, l, _ => by simp at l
  | [], b :: p, h, _, _ => by cases h
  | a :: q, b :: p, h, l, hn => by
    have : b = a := h.1.resolve_right (hn b (by simp))
    rw [this, Dm.solid h.2 (by simpa using l) (fun c hc => hn c (by simp [hc]))]
theorem Dm.take : ∀ {x y : Bytes} (n : Nat), Dm x y → Dm x (y.take n)
  | _, [], n, _ => by simp [Dm]
  | [], _ :: _, _, h => by cases h
  | _ :: _, _ :: _, 0, _ => trivial
  | a :: x, b :: y, n + 1, h => ⟨h.1, Dm.take n h.2⟩
theorem Dm.sum_le : ∀ {x y : Bytes} (i : Nat), Dm x y → x.length = y.length → sumFrom i y ≤ sumFrom i x ∧ (sumFrom i y = sumFrom i x → y = x)
  | [], [], _, _, _ => ⟨by simp, fun _ => rfl⟩
  | _ :: _, [], _, _, l => by simp at l
  | [], _ :: _, _, h, _ => by cases h
  | a :: x, b :: y, i, h, l => by
    obtain ⟨h1, h2⟩ := Dm.sum_le (i + 1) h.2 (by simpa using l)
    simp only [sumFrom]
    have ha : (0 : Int) ≤ (a.toNat : Int) * (i + 1) := Int.mul_nonneg (by omega) (by omega)
    rcases h.1 with e | e
    · subst e
      exact ⟨by omega, fun e2 => by rw [h2 (by omega)]⟩
    · subst e
      have z : ((0 : UInt8).toNat : Int) * (i + 1) = 0 := by simp
      rw [z]
      refine ⟨by omega, fun e2 => ?_⟩
      have e3 : (a.toNat : Int) * (i + 1) = 0 := by omega
      have e4 : (a.toNat : Int) = 0 := by
        rcases Int.mul_eq_zero.1 e3 with h | h
        · exact h
        · omega
      have e5 : a = 0 := by
        apply UInt8.toNat_inj.1
        have : (0 : UInt8).toNat = 0 := rfl
        omega
      rw [h2 (by omega), e5]
theorem cut_eq {c : UInt8} : ∀ {a b x y : Bytes}, (∀ d ∈ a, d ≠ c) → (∀ d ∈ b, d ≠ c) → a ++ c :: x = b ++ c :: y → a = b ∧ x = y
  | [], [], _, _, _, _, h => ⟨rfl, by simpa using h⟩
  | [], d :: b, _, _, _, hb, h => by
    simp only [List.nil_append, List.cons_append, List.cons.injEq] at h
    exact absurd h.1.symm (hb d (by simp))
  | d :: a, [], _, _, ha, _, h => by
    simp only [List.nil_append, List.cons_append, List.cons.injEq] at h
    exact absurd h.1 (ha d (by simp))
  | d :: a, e :: b, _, _, ha, hb, h => by
    simp only [List.cons_append, List.cons.injEq] at h
    obtain ⟨h1, h2⟩ := cut_eq (fun d hd => ha d (by simp [hd])) (fun d hd => hb d (by simp [hd])) h.2
    exact ⟨by rw [h.1, h1], h2⟩
theorem itoa_byte (n : Int) : ∀ c ∈ itoa n, c = 45 ∨ (48 ≤ c.toNat ∧ c.toNat ≤ 57) := by
  unfold itoa
  split
  · intro c hc
    rcases List.mem_cons.1 hc with rfl | hc
    · exact .inl rfl
    · exact .inr (decDigits_digit _ c hc)
  · intro c hc
    exact .inr (decDigits_digit _ c hc)
theorem itoa_ne (n : Int) (d : UInt8) (h1 : d ≠ 45) (h2 : ¬ (48 ≤ d.toNat ∧ d.toNat ≤ 57)) : ∀ c ∈ itoa n, c ≠ d := by
  intro c hc e
  subst e
  rcases itoa_byte n c hc with h | h
  · exact h1 h
  · exact h2 h
theorem itoa_inj {n m : Int} (hn : InR n) (hm : InR m) (h : itoa n = itoa m) : n = m := by
  have h1 := atoi_itoa n hn
  have h2 := atoi_itoa m hm
  rw [h, h2] at h1
  cases h1; rfl
theorem form_split {s : Bytes} : form s = (itoa s.length ++ [58]) ++ (s ++ (44 :: (itoa (sumR s) ++ [59]))) := by
  have : ¬ sumR s < 0 := by have := (sumR_bound s).1; omega
  simp [form, encText, encNum, encInt, this]
theorem Dm.head {n m : Int} {c : UInt8} {x y : Bytes} (hn : InR n) (hm : InR m) (hc : c ≠ 0 ∧ c ≠ 45 ∧ ¬ (48 ≤ c.toNat ∧ c.toNat ≤ 57)) (h : Dm (itoa n ++ c :: x) (itoa m ++ c :: y)) : n = m ∧ Dm x y := by
  have e : itoa m ++ c :: y = (itoa m ++ [c]) ++ y := by simp
  rw [e] at h
  obtain ⟨q, x', e1, l, d, r⟩ := Dm.split _ h
  have hs := d.solid l (fun b hb => by
    rcases List.mem_append.1 hb with hb | hb
    · exact itoa_ne m 0 (by decide) (by decide) b hb
    · simp only [List.mem_singleton] at hb
      rw [hb]; exact hc.1)
  rw [hs, List.append_assoc] at e1
  obtain ⟨e2, e3⟩ := cut_eq (itoa_ne n c hc.2.1 hc.2.2) (itoa_ne m c hc.2.1 hc.2.2) e1
  exact ⟨itoa_inj hn hm e2, by rw [e3]; exact r⟩
theorem Dm.form {t u : Bytes} {x y : Bytes} (ht : t.length ≤ 16777216) (hu : u.length ≤ 16777216) (h : Dm (form t ++ x) (form u ++ y)) : u = t ∧ Dm x y := by
  rw [form_split, form_split] at h
  have h : Dm (itoa t.length ++ 58 :: (t ++ 44 :: (itoa (sumR t) ++ 59 :: x))) (itoa u.length ++ 58 :: (u ++ 44 :: (itoa (sumR u) ++ 59 :: y))) := by simpa using h
  obtain ⟨e1, h⟩ := Dm.head ⟨by omega, by omega⟩ ⟨by omega, by omega⟩ (by decide) h
  obtain ⟨q, x', e2, l2, d2, h⟩ := Dm.split u h
  obtain ⟨e3, e4⟩ := List.append_inj e2 (by omega)
  subst e3
  subst e4
  have h := h.2
  obtain ⟨e5, h⟩ := Dm.head (sumR_InR ht).1 (sumR_InR hu).1 (by decide) h
  exact ⟨(d2.sum_le 0 l2).2 e5.symm, h⟩
theorem Dm.readJ {l : List Bytes} (hl : Few l) {y : Bytes} (h : Dm (formL l) y) : (readJ y).1 <+: l := by
  induction l generalizing y with
  | nil =>
    cases y with
    | nil => rw [readJ_none first_nil]; exact List.nil_prefix
    | cons b y => cases h
  | cons t l ih =>
    cases hf : first y with
    | none => rw [readJ_none hf]; exact List.nil_prefix
    | some u =>
      have h1 := first_some hf
      rw [readJ_some hf]
      rw [h1.2, formL_cons] at h
      have ht := hl t (by simp)
      obtain ⟨e, h2⟩ := Dm.form (by omega) (by omega) h
      have := ih (fun x hx => hl x (by simp [hx])) h2
      subst e
      exact (List.cons_prefix_cons).2 ⟨rfl, this⟩
end JnSpec
namespace DkSpec
abbrev Bs := List UInt8
def putB (s : Bs) (at_ : Nat) (t : Bs) : Bs :=
  if t = [] then s else (s ++ List.replicate (at_ + t.length - s.length) 0).take at_ ++ t ++ (s ++ List.replicate (at_ + t.length - s.length) 0).drop (at_ + t.length)
structure Ab where
  F : Int → Bs × Bs
  queue : List (Int × Int)
  lost : Int
  down : Bool
  armed : Int
  keep : List Int
def setF (F : Int → Bs × Bs) (f : Int) (x : Bs × Bs) : Int → Bs × Bs := fun g => if g = f then x else F g
def pushQ (f : Int) : List (Int × Int) → List Int → List (Int × Int)
  | q, [] => q
  | q, n :: ns => pushQ f (if (f, n) ∈ q then q else q ++ [(f, n)]) ns
def secs (at_ len : Nat) : List Int := (List.range' (at_ / 64) ((at_ + len - 1) / 64 + 1 - at_ / 64)).map Int.ofNat
def newA : Ab := ⟨fun _ => ([], []), [], 0, false, 0, []⟩
def mayA (A : Ab) (f : Int) : Int := if A.down = true then 8 else if f < 0 ∨ 16 ≤ f then 1 else 0
def addA (A : Ab) (f : Int) (at_ : Nat) (s : Bs) : Ab := if s = [] then A else { A with F := setF A.F f (putB (A.F f).1 at_ s, (A.F f).2), queue := pushQ f A.queue (secs at_ s.length) }
def wrA (A : Ab) (f at_ : Int) (s : Bs) : Int × Ab :=
  if mayA A f ≠ 0 then (mayA A f, A) else if at_ < 0 then (1, A) else if 16777216 < at_ + s.length then (6, A) else (0, addA A f at_.toNat s)
def sector (s : Bs) (n : Int) : Bs := (s.drop (64 * n).toNat).take 64
def survF (keep : List Int) (F : Int → Bs × Bs) (i : Nat) (p : Int × Int) : Int → Bs × Bs :=
  if keep = [] ∨ keep.getD (i % keep.length) 0 % 2 = 0 ∨ ((F p.1).1.length : Int) ≤ 64 * p.2 then F else setF F p.1 ((F p.1).1, putB (F p.1).2 (64 * p.2).toNat (sector (F p.1).1 p.2))
def survAll (keep : List Int) : (Int → Bs × Bs) → Nat → List (Int × Int) → Int → Bs × Bs
  | F, _, [] => F
  | F, i, p :: q => survAll keep (survF keep F i p) (i + 1) q
def crashA (A : Ab) (keep : List Int) : Ab :=
  if A.down = true then A else { A with F := fun f => ((survAll keep A.F 0 A.queue f).2, (survAll keep A.F 0 A.queue f).2), queue := [], down := true, armed := 0 }
def endsA (A : Ab) : Bool × Ab := if A.down = true ∨ A.armed = 0 then (false, A) else (decide (A.armed = 1), { A with armed := A.armed - 1 })
def settleA (A : Ab) (f : Int) (s : Bs) : Ab := { A with F := setF A.F f (s, s), queue := A.queue.filter (fun p => decide (p.1 ≠ f)) }
def comesA (A : Ab) : Ab := if (endsA A).1 = true then crashA (endsA A).2 (endsA A).2.keep else (endsA A).2
def writeA (A : Ab) (f at_ : Int) (s : Bs) : Int × Ab :=
  if (endsA A).1 = true then (8, crashA (wrA (endsA A).2 f at_ s).2 (wrA (endsA A).2 f at_ s).2.keep) else wrA (endsA A).2 f at_ s
def syncA (A : Ab) (f : Int) : Int × Ab :=
  if mayA (comesA A) f ≠ 0 then (mayA (comesA A) f, comesA A) else if 0 < (comesA A).lost then (9, { comesA A with lost := (comesA A).lost - 1 }) else (0, settleA (comesA A) f ((comesA A).F f).1)
def truncA (A : Ab) (f n : Int) : Int × Ab :=
  if mayA (comesA A) f ≠ 0 then (mayA (comesA A) f, comesA A) else if n < 0 ∨ (((comesA A).F f).1.length : Int) < n then (1, comesA A) else (0, settleA (comesA A) f (((comesA A).F f).1.take n.toNat))
def startA (A : Ab) : Ab := { A with down := false }
def readA (A : Ab) (f at_ size : Int) : Bs × Int :=
  if mayA A f ≠ 0 then ([], mayA A f) else if at_ < 0 ∨ size < 0 then ([], 1) else (((A.F f).1.drop at_.toNat).take size.toNat, 0)
structure WF (A : Ab) : Prop where
  l0 : 0 ≤ A.lost
  l1 : A.lost < 2 ^ 63
  a0 : 0 ≤ A.armed
  a1 : A.armed < 2 ^ 63
  nd : A.queue.Nodup
  qr : ∀ p ∈ A.queue, 0 ≤ p.1 ∧ p.1 < 16 ∧ 0 ≤ p.2 ∧ p.2 < 262144
  sz : ∀ f, (A.F f).1.length ≤ 16777216 ∧ (A.F f).2.length ≤ 16777216
  kr : ∀ x ∈ A.keep, -2 ^ 63 ≤ x ∧ x < 2 ^ 63
  kl : A.keep.length < 2 ^ 62
theorem length_lt (l : List Nat) (n : Nat) (hn : l.Nodup) (h : ∀ x ∈ l, x < n) : l.length ≤ n := by
  induction n generalizing l with
  | zero =>
    cases l with
    | nil => simp
    | cons x l => exact absurd (h x (List.mem_cons_self ..)) (by omega)
  | succ n ih =>
    by_cases hm : n ∈ l
    · have := ih (l.erase n) (hn.erase n) (fun x hx => by
        have h1 := (hn.mem_erase_iff).1 hx
        have := h x h1.2
        have := h1.1
        omega)
      rw [List.length_erase_of_mem hm] at this
      omega
    · have := ih l hn (fun x hx => by
        have := h x hx
        have : x ≠ n := fun e => hm (e ▸ hx)
        omega)
      omega
theorem WF.ql {A : Ab} (h : WF A) : A.queue.length ≤ 4194304 := by
  have hm : (A.queue.map (fun p => (p.1 * 262144 + p.2).toNat)).Nodup := by
    have hq := h.qr
    have hn := h.nd
    generalize A.queue = q at hq hn
    induction q with
    | nil => simp
    | cons p q ih =>
      rw [List.nodup_cons] at hn
      rw [List.map_cons, List.nodup_cons]
      refine ⟨?_, ih (fun x hx => hq x (List.mem_cons_of_mem _ hx)) hn.2⟩
      intro hm
      obtain ⟨x, hx, e⟩ := List.mem_map.1 hm
      have h1 := hq x (List.mem_cons_of_mem _ hx)
      have h2 := hq p (List.mem_cons_self ..)
      have : x = p := by
        obtain ⟨a, b⟩ := x
        obtain ⟨c, d⟩ := p
        simp only [Prod.mk.injEq] at *
        omega
      exact hn.1 (this ▸ hx)
  have := length_lt _ 4194304 hm (fun x hx => by
    obtain ⟨p, hp, rfl⟩ := List.mem_map.1 hx
    have := h.qr p hp
    omega)
  simpa using this
theorem putB_length (s : Bs) (a : Nat) (t : Bs) : (putB s a t).length = if t = [] then s.length else max s.length (a + t.length) := by
  unfold putB
  split
  · rfl
  · simp only [List.length_append, List.length_take, List.length_drop, List.length_replicate]
    omega
theorem pushQ_mem (f : Int) (ns : List Int) (q : List (Int × Int)) (p : Int × Int) : p ∈ pushQ f q ns ↔ p ∈ q ∨ (p.1 = f ∧ p.2 ∈ ns) := by
  induction ns generalizing q with
  | nil => simp [pushQ]
  | cons n ns ih =>
    unfold pushQ
    rw [ih]
    have e : p = (f, n) ↔ p.1 = f ∧ p.2 = n := Prod.ext_iff
    have h1 : p ∈ (if (f, n) ∈ q then q else q ++ [(f, n)]) ↔ p ∈ q ∨ (p.1 = f ∧ p.2 = n) := by
      rw [← e]
      split
      · rename_i hm
        exact ⟨.inl, fun h => h.elim id (fun e => e ▸ hm)⟩
      · rw [List.mem_append, List.mem_singleton]
    rw [h1, List.mem_cons]
    grind
theorem pushQ_nodup (f : Int) (ns : List Int) (q : List (Int × Int)) (h : q.Nodup) : (pushQ f q ns).Nodup := by
  induction ns generalizing q with
  | nil => exact h
  | cons n ns ih =>
    unfold pushQ
    apply ih
    split
    · exact h
    · rename_i hm
      rw [List.nodup_append]
      refine ⟨h, by simp, ?_⟩
      intro a ha b hb
      simp only [List.mem_singleton] at hb
      subst hb
      rintro rfl
      exact hm ha
theorem secs_mem (a len : Nat) (n : Int) (hl : 0 < len) : n ∈ secs a len ↔ 0 ≤ n ∧ (a / 64 : Nat) ≤ n ∧ n ≤ ((a + len - 1) / 64 : Nat) := by
  unfold secs
  simp only [List.mem_map, List.mem_range'_1]
  constructor
  · rintro ⟨k, hk, rfl⟩
    simp only [Int.ofNat_eq_natCast]
    omega
  · rintro ⟨h0, h1, h2⟩
    refine ⟨n.toNat, by omega, ?_⟩
    simp only [Int.ofNat_eq_natCast]
    omega
theorem setF_same (F : Int → Bs × Bs) (f : Int) (x : Bs × Bs) : setF F f x f = x := by simp [setF]
theorem setF_ne (F : Int → Bs × Bs) (f g : Int) (x : Bs × Bs) (h : g ≠ f) : setF F f x g = F g := by simp [setF, h]
theorem newA_wf : WF newA := ⟨by decide, by decide, by decide, by decide, by simp [newA], by simp [newA], by simp [newA], by simp [newA], by simp [newA]⟩
theorem mayA_ok {A : Ab} {f : Int} (h : mayA A f = 0) : A.down = false ∧ 0 ≤ f ∧ f < 16 := by
  unfold mayA at h
  cases hd : A.down with
  | true => rw [hd] at h; simp at h
  | false =>
    rw [hd] at h
    simp only [Bool.false_eq_true, if_false] at h
    split at h
    · cases h
    · exact ⟨rfl, by omega, by omega⟩
theorem addA_wf {A : Ab} (h : WF A) (f : Int) (a : Nat) (s : Bs) (hf : 0 ≤ f ∧ f < 16) (hs : a + s.length ≤ 16777216) : WF (addA A f a s) := by
  unfold addA
  split
  · exact h
  · rename_i hne
    have hl : 0 < s.length := List.length_pos_iff.2 hne
    refine ⟨h.l0, h.l1, h.a0, h.a1, pushQ_nodup f _ _ h.nd, ?_, ?_, h.kr, h.kl⟩
    · intro p hp
      rcases (pushQ_mem f _ _ p).1 hp with hp | ⟨h1, h2⟩
      · exact h.qr p hp
      · rw [secs_mem _ _ _ hl] at h2
        omega
    · intro g
      by_cases hg : g = f
      · subst hg
        show (setF A.F g _ g).1.length ≤ _ ∧ (setF A.F g _ g).2.length ≤ _
        rw [setF_same, putB_length, if_neg hne]
        have := h.sz g
        exact ⟨by show max _ _ ≤ _; omega, this.2⟩
      · show (setF A.F f _ g).1.length ≤ _ ∧ (setF A.F f _ g).2.length ≤ _
        rw [setF_ne _ _ _ _ hg]
        exact h.sz g
theorem endsA_wf {A : Ab} (h : WF A) : WF (endsA A).2 := by
  unfold endsA
  split
  · exact h
  · rename_i hn
    have h0 := h.a0
    have h1 := h.a1
    have : ¬ A.armed = 0 := fun e => hn (.inr e)
    exact ⟨h.l0, h.l1, by show 0 ≤ A.armed - 1; omega, by show A.armed - 1 < _; omega, h.nd, h.qr, h.sz, h.kr, h.kl⟩
theorem survF_sz (keep : List Int) (F : Int → Bs × Bs) (i : Nat) (p : Int × Int) (hp : 0 ≤ p.2) (h : ∀ f, (F f).1.length ≤ 16777216 ∧ (F f).2.length ≤ 16777216) (f : Int) : (survF keep F i p f).1 = (F f).1 ∧ (survF keep F i p f).2.length ≤ 16777216 := by
  unfold survF
  split
  · exact ⟨rfl, (h f).2⟩
  · rename_i hn
    by_cases hf : f = p.1
    · subst hf
      rw [setF_same]
      refine ⟨rfl, ?_⟩
      simp only [putB_length, sector]
      have h1 := h p.1
      have : ¬ ((F p.1).1.length : Int) ≤ 64 * p.2 := fun e => hn (.inr (.inr e))
      split
      · exact h1.2
      · simp only [List.length_take, List.length_drop]
        omega
    · rw [setF_ne _ _ _ _ hf]
      exact ⟨rfl, (h f).2⟩
theorem survAll_sz (keep : List Int) (q : List (Int × Int)) (F : Int → Bs × Bs) (i : Nat) (hq : ∀ p ∈ q, 0 ≤ p.2) (h : ∀ f, (F f).1.length ≤ 16777216 ∧ (F f).2.length ≤ 16777216) (f : Int) : (survAll keep F i q f).1 = (F f).1 ∧ (survAll keep F i q f).2.length ≤ 16777216 := by
  induction q generalizing F i with
  | nil => exact ⟨rfl, (h f).2⟩
  | cons p q ih =>
    unfold survAll
    have h1 := survF_sz keep F i p (hq p (List.mem_cons_self ..)) h
    have := ih (survF keep F i p) (i + 1) (fun x hx => hq x (List.mem_cons_of_mem _ hx)) (fun g => ⟨by rw [(h1 g).1]; exact (h g).1, (h1 g).2⟩)
    exact ⟨by rw [this.1, (h1 f).1], this.2⟩
theorem crashA_wf {A : Ab} (h : WF A) (keep : List Int) : WF (crashA A keep) := by
  unfold crashA
  split
  · exact h
  · refine ⟨h.l0, h.l1, Int.le_refl _, by show (0 : Int) < _; omega, List.nodup_nil, fun p hp => absurd hp (by simp), ?_, h.kr, h.kl⟩
    intro f
    have := survAll_sz keep A.queue A.F 0 (fun p hp => (h.qr p hp).2.2.1) h.sz f
    exact ⟨this.2, this.2⟩
theorem settleA_wf {A : Ab} (h : WF A) (f : Int) (s : Bs) (hs : s.length ≤ 16777216) : WF (settleA A f s) := by
  refine ⟨h.l0, h.l1, h.a0, h.a1, h.nd.filter _, fun p hp => h.qr p (List.mem_filter.1 hp).1, ?_, h.kr, h.kl⟩
  intro g
  show (setF A.F f _ g).1.length ≤ _ ∧ (setF A.F f _ g).2.length ≤ _
  by_cases hg : g = f
  · subst hg; rw [setF_same]; exact ⟨hs, hs⟩
  · rw [setF_ne _ _ _ _ hg]; exact h.sz g
theorem comesA_wf {A : Ab} (h : WF A) : WF (comesA A) := by
  unfold comesA
  split
  · exact crashA_wf (endsA_wf h) _
  · exact endsA_wf h
theorem syncA_wf {A : Ab} (h : WF A) (f : Int) : WF (syncA A f).2 := by
  have h1 := comesA_wf h
  unfold syncA
  split
  · exact h1
  · split
    · rename_i hl
      have := h1.l1
      exact ⟨by show 0 ≤ (comesA A).lost - 1; omega, by show (comesA A).lost - 1 < _; omega, h1.a0, h1.a1, h1.nd, h1.qr, h1.sz, h1.kr, h1.kl⟩
    · exact settleA_wf h1 f _ (h1.sz f).1
theorem truncA_wf {A : Ab} (h : WF A) (f n : Int) : WF (truncA A f n).2 := by
  have h1 := comesA_wf h
  unfold truncA
  split
  · exact h1
  · split
    · exact h1
    · refine settleA_wf h1 f _ ?_
      have := (h1.sz f).1
      simp only [List.length_take]
      omega
theorem startA_wf {A : Ab} (h : WF A) : WF (startA A) := ⟨h.l0, h.l1, h.a0, h.a1, h.nd, h.qr, h.sz, h.kr, h.kl⟩
end DkSpec
namespace DkSpec
def Firm (f : Int) (s : Bs) (A : Ab) : Prop := A.F f = (s, s) ∧ ∀ p ∈ A.queue, p.1 ≠ f
theorem survF_ne (keep : List Int) (F : Int → Bs × Bs) (i : Nat) (p : Int × Int) (f : Int) (h : p.1 ≠ f) : survF keep F i p f = F f := by
  unfold survF
  split
  · rfl
  · exact setF_ne _ _ _ _ (Ne.symm h)
theorem survAll_ne (keep : List Int) (q : List (Int × Int)) (F : Int → Bs × Bs) (i : Nat) (f : Int) (h : ∀ p ∈ q, p.1 ≠ f) : survAll keep F i q f = F f := by
  induction q generalizing F i with
  | nil => rfl
  | cons p q ih =>
    unfold survAll
    rw [ih _ _ (fun r hr => h r (List.mem_cons_of_mem _ hr)), survF_ne _ _ _ _ _ (h p (List.mem_cons_self ..))]
variable {f : Int} {s : Bs} {A : Ab}
theorem Firm.ends (h : Firm f s A) : Firm f s (endsA A).2 := by
  unfold endsA
  split
  · exact h
  · exact h
theorem Firm.crash (h : Firm f s A) (keep : List Int) : Firm f s (crashA A keep) := by
  unfold crashA
  split
  · exact h
  · refine ⟨?_, fun p hp => absurd hp (by simp)⟩
    show ((survAll keep A.F 0 A.queue f).2, (survAll keep A.F 0 A.queue f).2) = _
    rw [survAll_ne _ _ _ _ _ h.2, h.1]
theorem Firm.comes (h : Firm f s A) : Firm f s (comesA A) := by
  unfold comesA
  split
  · exact h.ends.crash _
  · exact h.ends
theorem Firm.wr (h : Firm f s A) (g at_ : Int) (t : Bs) (hg : g ≠ f) : Firm f s (wrA A g at_ t).2 := by
  unfold wrA
  repeat' split
  · exact h
  · exact h
  · exact h
  · unfold addA
    split
    · exact h
    · refine ⟨?_, ?_⟩
      · show setF A.F g _ f = _
        rw [setF_ne _ _ _ _ (Ne.symm hg)]; exact h.1
      · intro p hp
        rcases (pushQ_mem g _ _ p).1 hp with hp | ⟨h1, _⟩
        · exact h.2 p hp
        · rw [h1]; exact hg
theorem Firm.settle (h : Firm f s A) (g : Int) (t : Bs) (hg : g ≠ f) : Firm f s (settleA A g t) := by
  refine ⟨?_, fun p hp => h.2 p (List.mem_filter.1 hp).1⟩
  show setF A.F g _ f = _
  rw [setF_ne _ _ _ _ (Ne.symm hg)]; exact h.1
theorem Firm.write (h : Firm f s A) (g at_ : Int) (t : Bs) (hg : g ≠ f) : Firm f s (writeA A g at_ t).2 := by
  unfold writeA
  split
  · exact (h.ends.wr g at_ t hg).crash _
  · exact h.ends.wr g at_ t hg
theorem Firm.sync (h : Firm f s A) (g : Int) (hg : g ≠ f) : Firm f s (syncA A g).2 := by
  have h1 := h.comes
  unfold syncA
  repeat' split
  · exact h1
  · exact h1
  · exact h1.settle g _ hg
theorem endsA_same (A : Ab) : (endsA A).2.F = A.F ∧ (endsA A).2.down = A.down ∧ (endsA A).2.queue = A.queue ∧ (endsA A).2.lost = A.lost ∧ (endsA A).2.keep = A.keep := by
  unfold endsA
  split
  · exact ⟨rfl, rfl, rfl, rfl, rfl⟩
  · exact ⟨rfl, rfl, rfl, rfl, rfl⟩
theorem crashA_down (A : Ab) (keep : List Int) : (crashA A keep).down = true := by
  unfold crashA
  split
  · assumption
  · rfl
theorem comesA_up {A : Ab} (h : (comesA A).down = false) : comesA A = (endsA A).2 ∧ (endsA A).1 = false := by
  unfold comesA at h ⊢
  cases he : (endsA A).1 with
  | true => rw [he] at h; simp [crashA_down] at h
  | false => simp
theorem take_all (s : Bs) (h : s.length ≤ 16777216) : ((s.drop (0 : Int).toNat).take (16777216 : Int).toNat) = s := by
  simp only [Int.toNat_zero, List.drop_zero]
  exact List.take_of_length_le (by omega)
theorem readA_all {A : Ab} (h : WF A) {f : Int} (hm : mayA A f = 0) : readA A f 0 16777216 = ((A.F f).1, 0) := by
  unfold readA
  rw [if_neg (by omega), if_neg (by omega), take_all _ (h.sz f).1]
theorem mayA_up {A : Ab} {f : Int} (h : A.down = false) (hf : 0 ≤ f ∧ f < 16) : mayA A f = 0 := by
  unfold mayA
  rw [h]
  simp only [Bool.false_eq_true, if_false]
  rw [if_neg (by omega)]
theorem sync_ok {A : Ab} (hw : WF A) {f : Int} (h : (syncA A f).1 = 0) : 0 ≤ f ∧ f < 16 ∧ (syncA A f).2.down = false ∧ Firm f (A.F f).1 (syncA A f).2 ∧ readA A f 0 16777216 = ((A.F f).1, 0) ∧ readA (syncA A f).2 f 0 16777216 = ((A.F f).1, 0) := by
  have hwf := syncA_wf hw f
  unfold syncA at h hwf ⊢
  by_cases hm : mayA (comesA A) f ≠ 0
  · rw [if_pos hm] at h
    exact absurd h hm
  · rw [if_neg hm] at h hwf ⊢
    have hm0 := Decidable.not_not.1 hm
    have h1 := mayA_ok hm0
    have h2 := (comesA_up h1.1).1
    have h3 := endsA_same A
    by_cases hl : 0 < (comesA A).lost
    · rw [if_pos hl] at h; cases h
    · rw [if_neg hl] at h hwf ⊢
      have hF : (comesA A).F = A.F := by rw [h2]; exact h3.1
      have hd : A.down = false := by
        have := h1.1
        rw [h2, h3.2.1] at this
        exact this
      have hds : (settleA (comesA A) f ((comesA A).F f).1).down = false := h1.1
      have hfi : Firm f (A.F f).1 (settleA (comesA A) f ((comesA A).F f).1) := by
        refine ⟨?_, ?_⟩
        · show setF (comesA A).F f _ f = _
          rw [setF_same, hF]
        · intro p hp
          have := (List.mem_filter.1 hp).2
          simpa using this
      refine ⟨h1.2.1, h1.2.2, hds, hfi, readA_all hw (mayA_up hd h1.2), ?_⟩
      show readA (settleA (comesA A) f ((comesA A).F f).1) f 0 16777216 = _
      rw [readA_all hwf (mayA_up hds h1.2), hfi.1]
end DkSpec
namespace DkSpec
theorem getD_take_drop (s : Bs) (a n j : Nat) : ((s.drop a).take n).getD j 0 = if j < n then s.getD (a + j) 0 else 0 := by
  simp only [List.getD_eq_getElem?_getD]
  split
  · rename_i h
    rw [List.getElem?_take_of_lt h, List.getElem?_drop]
  · rename_i h
    rw [List.getElem?_eq_none (by simp only [List.length_take]; omega)]
    rfl
theorem putB_getD (s t : Bs) (a j : Nat) : (putB s a t).getD j 0 = if a ≤ j ∧ j < a + t.length then t.getD (j - a) 0 else s.getD j 0 := by
  unfold putB
  by_cases ht : t = []
  · subst ht
    rw [if_pos rfl, if_neg (by simp)]
  · rw [if_neg ht]
    have hl : (s ++ List.replicate (a + t.length - s.length) 0).length ≥ a + t.length := by simp; omega
    generalize hp : s ++ List.replicate (a + t.length - s.length) (0 : UInt8) = p at *
    have hpj : p.getD j 0 = s.getD j 0 := by
      rw [← hp]
      simp only [List.getD_eq_getElem?_getD]
      by_cases hj : j < s.length
      · rw [List.getElem?_append_left hj]
      · rw [List.getElem?_append_right (by omega), List.getElem?_eq_none (l := s) (by omega)]
        by_cases h2 : j - s.length < a + t.length - s.length
        · rw [List.getElem?_replicate_of_lt h2]; rfl
        · rw [List.getElem?_eq_none (by simp; omega)]
    have hta : (p.take a).length = a := by simp; omega
    have ht2 : (p.take a ++ t).length = a + t.length := by simp; omega
    rw [← hpj]
    simp only [List.getD_eq_getElem?_getD]
    by_cases h1 : j < a
    · rw [if_neg (by omega), List.getElem?_append_left (by rw [ht2]; omega), List.getElem?_append_left (by rw [hta]; exact h1), List.getElem?_take_of_lt h1]
    · by_cases h2 : j < a + t.length
      · rw [if_pos ⟨by omega, h2⟩, List.getElem?_append_left (by rw [ht2]; exact h2), List.getElem?_append_right (by rw [hta]; omega), hta]
      · rw [if_neg (by omega), List.getElem?_append_right (by rw [ht2]; omega), ht2, List.getElem?_drop]
        congr 2
        omega
def GoodF (x : Bs × Bs) (f : Int) (q : List (Int × Int)) : Prop := x.2.length ≤ x.1.length ∧ (∀ j : Nat, j < x.1.length → (f, ((j / 64 : Nat) : Int)) ∉ q → x.1.getD j 0 = x.2.getD j 0) ∧
  (x.2.length < x.1.length → (f, (((x.1.length - 1) / 64 : Nat) : Int)) ∈ q)
def Good (A : Ab) : Prop := ∀ f, GoodF (A.F f) f A.queue
theorem good_eq {A : Ab} {f : Int} {s : Bs} (h : A.F f = (s, s)) : GoodF (A.F f) f A.queue := by
  rw [h]
  exact ⟨Nat.le_refl _, fun _ _ _ => rfl, fun h => absurd h (Nat.lt_irrefl _)⟩
theorem good_same {A B : Ab} (h : Good A) (hF : B.F = A.F) (hq : B.queue = A.queue) : Good B := by
  intro f; rw [hF, hq]; exact h f
theorem Good.ends {A : Ab} (h : Good A) : Good (endsA A).2 := good_same h (endsA_same A).1 (endsA_same A).2.2.1
theorem Good.crash {A : Ab} (h : Good A) (keep : List Int) : Good (crashA A keep) := by
  unfold crashA
  split
  · exact h
  · intro f
    exact good_eq rfl
theorem Good.comes {A : Ab} (h : Good A) : Good (comesA A) := by
  unfold comesA
  split
  · exact h.ends.crash _
  · exact h.ends
theorem Good.settle {A : Ab} (h : Good A) (g : Int) (s : Bs) : Good (settleA A g s) := by
  intro f
  by_cases hf : f = g
  · subst hf
    exact good_eq (s := s) (setF_same _ _ _)
  · have hF : (settleA A g s).F f = A.F f := setF_ne _ _ _ _ hf
    rw [hF]
    obtain ⟨h1, h2, h3⟩ := h f
    have hm : ∀ n, (f, n) ∈ (settleA A g s).queue ↔ (f, n) ∈ A.queue := by
      intro n
      show (f, n) ∈ A.queue.filter _ ↔ _
      rw [List.mem_filter]
      simp [hf]
    exact ⟨h1, fun j hj hn => h2 j hj (fun hc => hn ((hm _).2 hc)), fun hl => (hm _).2 (h3 hl)⟩
theorem Good.add {A : Ab} (h : Good A) (g : Int) (a : Nat) (s : Bs) : Good (addA A g a s) := by
  unfold addA
  split
  · exact h
  · rename_i hs
    have hl : 0 < s.length := List.length_pos_iff.2 hs
    intro f
    obtain ⟨h1, h2, h3⟩ := h f
    have hmem : ∀ n, (f, n) ∈ pushQ g A.queue (secs a s.length) ↔ (f, n) ∈ A.queue ∨ (f = g ∧ n ∈ secs a s.length) := fun n => pushQ_mem g _ _ (f, n)
    by_cases hf : f = g
    · subst hf
      have hF : setF A.F f (putB (A.F f).1 a s, (A.F f).2) f = (putB (A.F f).1 a s, (A.F f).2) := setF_same _ _ _
      show GoodF (setF A.F f _ f) f (pushQ _ _ _)
      rw [hF]
      unfold GoodF
      simp only
      have hpl := putB_length (A.F f).1 a s
      rw [if_neg hs] at hpl
      refine ⟨by omega, ?_, ?_⟩
      · intro j hj hn
        rw [hmem] at hn
        have hn1 : (f, ((j / 64 : Nat) : Int)) ∉ A.queue := fun hc => hn (.inl hc)
        have hn2 : ¬ (a ≤ j ∧ j < a + s.length) := by
          intro hc
          refine hn (.inr ⟨rfl, (secs_mem _ _ _ hl).2 ?_⟩)
          omega
        rw [putB_getD, if_neg hn2]
        by_cases hj2 : j < (A.F f).1.length
        · exact h2 j hj2 hn1
        · simp only [List.getD_eq_getElem?_getD]
          rw [List.getElem?_eq_none (by omega), List.getElem?_eq_none (by omega)]
      · intro hlt
        rw [hmem]
        by_cases hgrow : (putB (A.F f).1 a s).length = (A.F f).1.length
        · rw [hgrow] at hlt ⊢
          exact .inl (h3 hlt)
        · refine .inr ⟨rfl, (secs_mem _ _ _ hl).2 ?_⟩
          have : (putB (A.F f).1 a s).length = a + s.length := by omega
          rw [this]
          omega
    · have hF : setF A.F g (putB (A.F g).1 a s, (A.F g).2) f = A.F f := setF_ne _ _ _ _ hf
      show GoodF (setF A.F g _ f) f (pushQ _ _ _)
      rw [hF]
      exact ⟨h1, fun j hj hn => h2 j hj (fun hc => hn ((hmem _).2 (.inl hc))), fun hlt => (hmem _).2 (.inl (h3 hlt))⟩
theorem Good.wr {A : Ab} (h : Good A) (f at_ : Int) (s : Bs) : Good (wrA A f at_ s).2 := by
  unfold wrA
  repeat' split
  · exact h
  · exact h
  · exact h
  · exact h.add _ _ _
theorem Good.write {A : Ab} (h : Good A) (f at_ : Int) (s : Bs) : Good (writeA A f at_ s).2 := by
  unfold writeA
  split
  · exact (h.ends.wr f at_ s).crash _
  · exact h.ends.wr f at_ s
theorem Good.sync {A : Ab} (h : Good A) (f : Int) : Good (syncA A f).2 := by
  have h1 := h.comes
  unfold syncA
  repeat' split
  · exact h1
  · exact good_same h1 rfl rfl
  · exact h1.settle _ _
def putAll (now : Bs) (r : Bs) : List Nat → Bs
  | [] => r
  | n :: ns => putAll now (putB r (64 * n) (sector now n)) ns
theorem sector_len (now : Bs) (n : Nat) : (sector now n).length = min 64 (now.length - 64 * n) := by
  unfold sector
  simp only [List.length_take, List.length_drop]
  omega
theorem sector_getD (now : Bs) (n j : Nat) (h : j < 64) : (sector now n).getD j 0 = now.getD (64 * n + j) 0 := by
  unfold sector
  rw [getD_take_drop, if_pos h]
  congr 1
def survL (keep : List Int) (now : Bs) (f : Int) : Nat → List (Int × Int) → List Nat
  | _, [] => []
  | i, p :: q => if p.1 = f ∧ ¬ (keep = [] ∨ keep.getD (i % keep.length) 0 % 2 = 0 ∨ (now.length : Int) ≤ 64 * p.2) then p.2.toNat :: survL keep now f (i + 1) q else survL keep now f (i + 1) q
theorem survAll_putAll (keep : List Int) (q : List (Int × Int)) (F : Int → Bs × Bs) (i : Nat) (f : Int) (hq : ∀ p ∈ q, 0 ≤ p.2) : (survAll keep F i q f).2 = putAll (F f).1 (F f).2 (survL keep (F f).1 f i q) := by
  induction q generalizing F i with
  | nil => rfl
  | cons p q ih =>
    unfold survAll survL
    rw [ih _ _ (fun r hr => hq r (List.mem_cons_of_mem _ hr))]
    have hp := hq p (List.mem_cons_self ..)
    by_cases hf : p.1 = f
    · subst hf
      by_cases hc : keep = [] ∨ keep.getD (i % keep.length) 0 % 2 = 0 ∨ ((F p.1).1.length : Int) ≤ 64 * p.2
      · have : survF keep F i p = F := by unfold survF; rw [if_pos hc]
        rw [this, if_neg (fun h => h.2 hc)]
      · have hs : survF keep F i p = setF F p.1 ((F p.1).1, putB (F p.1).2 (64 * p.2).toNat (sector (F p.1).1 p.2)) := by unfold survF; rw [if_neg hc]
        rw [hs, setF_same, if_pos ⟨rfl, hc⟩]
        obtain ⟨m, hm⟩ := Int.eq_ofNat_of_zero_le hp
        rw [hm]
        simp only [Int.toNat_natCast, putAll]
        rw [show (64 * (m : Int)).toNat = 64 * m by omega]
    · rw [if_neg (fun h => hf h.1)]
      have := survF_ne keep F i p f hf
      rw [this]
end DkSpec
namespace JnSpec
open CodeSpec DkSpec
theorem Dm.iff : ∀ {x y : Bytes}, Dm x y ↔ y.length ≤ x.length ∧ ∀ i : Nat, y.getD i 0 = x.getD i 0 ∨ y.getD i 0 = 0
  | x, [] => by simp [Dm]
  | [], b :: y => by simp [Dm]
  | a :: x, b :: y => by
    unfold Dm
    rw [Dm.iff (x := x) (y := y)]
    constructor
    · rintro ⟨h1, h2, h3⟩
      refine ⟨by simp only [List.length_cons]; omega, fun i => ?_⟩
      cases i with
      | zero => simpa using h1
      | succ i => simpa using h3 i
    · rintro ⟨h1, h2⟩
      refine ⟨by simpa using h2 0, by simpa using h1, fun i => by simpa using h2 (i + 1)⟩
theorem pre_iff : ∀ {p z : Bytes}, p <+: z ↔ p.length ≤ z.length ∧ ∀ i : Nat, i < p.length → z.getD i 0 = p.getD i 0
  | [], z => by simp
  | a :: p, [] => by simp
  | a :: p, b :: z => by
    rw [List.cons_prefix_cons, pre_iff (p := p) (z := z)]
    constructor
    · rintro ⟨h1, h2, h3⟩
      refine ⟨by simp only [List.length_cons]; omega, fun i hi => ?_⟩
      cases i with
      | zero => simpa using h1.symm
      | succ i => simpa using h3 i (by simpa using hi)
    · rintro ⟨h1, h2⟩
      refine ⟨by simpa using (h2 0 (by simp)).symm, by simpa using h1, fun i hi => by simpa using h2 (i + 1) (by simpa using hi)⟩
def Ok (all sure : List Bs) (z : Bs) : Prop := Dm (formL all) z ∧ formL sure <+: z
variable {all sure : List Bs} {f : Int} {A : Ab}
theorem Ok.put {x y : Bs} (hx : Ok all sure x) (hy : Ok all sure y) (n : Nat) : Ok all sure (putB y (64 * n) (sector x n)) := by
  have hl := sector_len x n
  have hp := putB_length y (64 * n) (sector x n)
  obtain ⟨x1, x2⟩ := hx
  obtain ⟨y1, y2⟩ := hy
  rw [Dm.iff] at x1 y1
  rw [pre_iff] at x2 y2
  have hle : (putB y (64 * n) (sector x n)).length ≤ max y.length x.length ∧ y.length ≤ (putB y (64 * n) (sector x n)).length := by
    split at hp
    · omega
    · rename_i hne
      have := List.length_pos_iff.2 hne
      omega
  have hg : ∀ i, (putB y (64 * n) (sector x n)).getD i 0 = y.getD i 0 ∨ (i < x.length ∧ (putB y (64 * n) (sector x n)).getD i 0 = x.getD i 0) := fun i => by
    rw [putB_getD]
    split
    · rename_i h
      right
      rw [sector_getD _ _ _ (by omega)]
      have e : 64 * n + (i - 64 * n) = i := by omega
      rw [e]
      exact ⟨by omega, rfl⟩
    · exact .inl rfl
  constructor
  · rw [Dm.iff]
    refine ⟨by omega, fun i => ?_⟩
    rcases hg i with h | ⟨_, h⟩ <;> rw [h]
    · exact y1.2 i
    · exact x1.2 i
  · rw [pre_iff]
    refine ⟨by omega, fun i hi => ?_⟩
    rcases hg i with h | ⟨_, h⟩ <;> rw [h]
    · exact y2.2 i hi
    · exact x2.2 i hi
theorem Ok.putAll {x : Bs} (hx : Ok all sure x) : ∀ (ns : List Nat) {y : Bs}, Ok all sure y → Ok all sure (putAll x y ns)
  | [], _, hy => hy
  | n :: ns, _, hy => Ok.putAll hx ns (hx.put hy n)
structure GoodJ (f : Int) (A : Ab) (all sure : List Bs) : Prop where
  wf : WF A
  few : Few all
  sub : sure <+: all
  x : Ok all sure (A.F f).1
  y : Ok all sure (A.F f).2
theorem Few.sub {l m : List Bs} (h : Few m) (hs : l <+: m) : Few l := fun t ht => h t (hs.subset ht)
theorem GoodJ.same (h : GoodJ f A all sure) {B : Ab} (hw : WF B) (hF : B.F f = A.F f) : GoodJ f B all sure := ⟨hw, h.few, h.sub, by rw [hF]; exact h.x, by rw [hF]; exact h.y⟩
theorem GoodJ.crash (h : GoodJ f A all sure) (keep : List Int) : GoodJ f (crashA A keep) all sure := by
  have hw := crashA_wf h.wf keep
  unfold crashA at hw ⊢
  split
  · exact h
  · have : Ok all sure (survAll keep A.F 0 A.queue f).2 := by
      rw [survAll_putAll keep A.queue A.F 0 f (fun p hp => (h.wf.qr p hp).2.2.1)]
      exact h.x.putAll _ h.y
    rename_i hd
    rw [if_neg hd] at hw
    exact ⟨hw, h.few, h.sub, this, this⟩
theorem GoodJ.ends (h : GoodJ f A all sure) : GoodJ f (endsA A).2 all sure := h.same (endsA_wf h.wf) (by rw [(endsA_same A).1])
theorem GoodJ.comes (h : GoodJ f A all sure) : GoodJ f (comesA A) all sure := by
  unfold comesA
  split
  · exact h.ends.crash _
  · exact h.ends
theorem GoodJ.settle (h : GoodJ f A all sure) {s : Bs} (hs : Ok all sure s) (hl : s.length ≤ 16777216) : GoodJ f (settleA A f s) all sure := by
  have e : (settleA A f s).F f = (s, s) := setF_same _ _ _
  exact ⟨settleA_wf h.wf f s hl, h.few, h.sub, by rw [e]; exact hs, by rw [e]; exact hs⟩
theorem GoodJ.sync (h : GoodJ f A all sure) : GoodJ f (syncA A f).2 all sure := by
  have h1 := h.comes
  have hw := syncA_wf h.wf f
  unfold syncA at hw ⊢
  split
  · exact h1
  · rename_i hm
    rw [if_neg hm] at hw
    split
    · rename_i hl
      rw [if_pos hl] at hw
      exact h1.same hw rfl
    · exact h1.settle h1.x (h1.wf.sz f).1
theorem Ok.more {z : Bs} (h : Ok all sure z) (t : Bs) : Ok (all ++ [t]) sure z := by
  refine ⟨?_, h.2⟩
  have h1 := h.1
  rw [Dm.iff] at h1 ⊢
  rw [formL_append, List.length_append]
  refine ⟨by omega, fun i => ?_⟩
  by_cases hi : i < (formL all).length
  · have : (formL all ++ formL [t]).getD i 0 = (formL all).getD i 0 := by
      simp only [List.getD_eq_getElem?_getD]
      rw [List.getElem?_append_left hi]
    rw [this]; exact h1.2 i
  · right
    simp only [List.getD_eq_getElem?_getD]
    rw [List.getElem?_eq_none (by omega)]
    rfl
theorem GoodJ.more (h : GoodJ f A all sure) {t : Bs} (ht : t.length ≤ 20000) : GoodJ f A (all ++ [t]) sure :=
  ⟨h.wf, fun x hx => by
    rcases List.mem_append.1 hx with hx | hx
    · exact h.few x hx
    · simp only [List.mem_singleton] at hx
      rw [hx]; exact ht, h.sub.trans (List.prefix_append _ _), h.x.more t, h.y.more t⟩
theorem Ok.own {l sure : List Bs} (hs : sure <+: l) : Ok l sure (formL l) := by
  refine ⟨Dm.refl _, ?_⟩
  obtain ⟨m, rfl⟩ := hs
  rw [formL_append]
  exact List.prefix_append _ _
structure Jn where
  recs : List Bs
  bytes : Nat
  broken : Bool
def openB (B : Ab) (f : Int) (r : Bs × Int) : Option Jn × Int × Ab :=
  if r.2 ≠ 0 then (none, r.2, B)
  else if (readJ r.1).2 < r.1.length then
    if (truncA B f (readJ r.1).2).1 ≠ 0 then (none, (truncA B f (readJ r.1).2).1, (truncA B f (readJ r.1).2).2)
    else (some ⟨(readJ r.1).1, (readJ r.1).2, false⟩, 0, (truncA B f (readJ r.1).2).2)
  else (some ⟨(readJ r.1).1, (readJ r.1).2, false⟩, 0, B)
def openJ (A : Ab) (f : Int) : Option Jn × Int × Ab :=
  if f < 0 ∨ 15 < f then (none, 1, A)
  else if (syncA A f).1 ≠ 0 then (none, (syncA A f).1, (syncA A f).2)
  else openB (syncA A f).2 f (readA (syncA A f).2 f 0 (((syncA A f).2.F f).1.length : Nat))
def appendJ (A : Ab) (f : Int) (j : Jn) (t : Bs) : Int × Ab × Jn :=
  if j.broken = true then (7, A, j)
  else if 20000 < t.length then (3, A, j)
  else if 1048576 < j.bytes + (form t).length then (6, A, j)
  else if (writeA A f j.bytes (form t)).1 ≠ 0 then ((writeA A f j.bytes (form t)).1, (writeA A f j.bytes (form t)).2, { j with broken := true })
  else (0, (writeA A f j.bytes (form t)).2, ⟨j.recs ++ [t], j.bytes + (form t).length, false⟩)
def syncJ (A : Ab) (f : Int) (j : Jn) : Int × Ab × Jn :=
  if j.broken = true then (7, A, j) else ((syncA A f).1, (syncA A f).2, { j with broken := decide ((syncA A f).1 ≠ 0) })
theorem mayA_val (A : Ab) {f : Int} (hf : 0 ≤ f ∧ f ≤ 15) : mayA A f = 0 ∨ mayA A f = 8 := by
  unfold mayA
  split
  · exact .inr rfl
  · rw [if_neg (by omega)]; exact .inl rfl
theorem sync_val (A : Ab) {f : Int} (hf : 0 ≤ f ∧ f ≤ 15) : (syncA A f).1 = 0 ∨ (syncA A f).1 = 8 ∨ (syncA A f).1 = 9 := by
  unfold syncA
  split
  · rcases mayA_val (comesA A) hf with h | h
    · exact .inl h
    · exact .inr (.inl h)
  · split
    · exact .inr (.inr rfl)
    · exact .inl rfl
theorem read_all {A : Ab} (hd : A.down = false) {f : Int} (hf : 0 ≤ f ∧ f ≤ 15) : readA A f 0 (((A.F f).1.length : Nat) : Int) = ((A.F f).1, 0) := by
  unfold readA
  rw [if_neg (by rw [mayA_up hd (by omega)]; simp), if_neg (by omega)]
  simp
theorem trunc_val {A : Ab} {f : Int} {n : Nat} (hf : 0 ≤ f ∧ f ≤ 15) (hn : n ≤ (A.F f).1.length) :
    ((truncA A f n).1 = 8 ∧ (truncA A f n).2 = comesA A) ∨ ((truncA A f n).1 = 0 ∧ A.down = false ∧ (truncA A f n).2 = settleA (endsA A).2 f ((A.F f).1.take n)) := by
  unfold truncA
  split
  · rename_i hm
    rcases mayA_val (comesA A) hf with h | h
    · exact absurd h hm
    · exact .inl ⟨h, rfl⟩
  · rename_i hm
    have h1 := mayA_ok (Decidable.not_not.1 hm)
    have h2 := (comesA_up h1.1).1
    have h3 := endsA_same A
    have hF : (comesA A).F = A.F := by rw [h2]; exact h3.1
    rw [hF, if_neg (by omega)]
    refine .inr ⟨rfl, ?_, ?_⟩
    · have := h1.1
      rw [h2, h3.2.1] at this
      exact this
    · rw [h2]; simp
structure Live (f : Int) (A : Ab) (j : Jn) (all sure : List Bs) : Prop where
  good : GoodJ f A all sure
  recs : all = j.recs
  pre : sure <+: j.recs
  x : (A.F f).1 = formL j.recs
  bytes : j.bytes = (formL j.recs).length
  up : A.down = false
theorem open_spec (hg : GoodJ f A all sure) (hf : 0 ≤ f ∧ f ≤ 15) :
    GoodJ f (openJ A f).2.2 all sure ∧
    (((openJ A f).1 = none ∧ ((openJ A f).2.1 = 8 ∨ (openJ A f).2.1 = 9)) ∨
      ∃ j, (openJ A f).1 = some j ∧ (openJ A f).2.1 = 0 ∧ j.broken = false ∧ j.recs <+: all ∧ sure <+: j.recs ∧ Live f (openJ A f).2.2 j j.recs j.recs) := by
  have hs := hg.sync
  unfold openJ
  rw [if_neg (by omega)]
  by_cases he : (syncA A f).1 = 0
  · rw [if_neg (by simp [he])]
    obtain ⟨_, _, hd, hfi, _, _⟩ := sync_ok hg.wf he
    rw [read_all hd hf]
    generalize (syncA A f).2 = B at *
    have hF := hfi.1
    rw [hF]
    have hx := hs.x
    rw [hF] at hx
    dsimp only at hx ⊢
    generalize hxx : (A.F f).1 = x at *
    have hgs : ∀ {C : Ab}, WF C → C.F f = (formL (readJ x).1, formL (readJ x).1) → C.down = false → Live f C ⟨(readJ x).1, (readJ x).2, false⟩ (readJ x).1 (readJ x).1 := fun {C} hw e hd =>
      ⟨⟨hw, (readJ_spec x).1, List.prefix_refl _, by rw [e]; exact Ok.own (List.prefix_refl _), by rw [e]; exact Ok.own (List.prefix_refl _)⟩, rfl, List.prefix_refl _, by rw [e], (readJ_spec x).2.1, hd⟩
    have hp1 : (readJ x).1 <+: all := Dm.readJ hs.few hx.1
    have hp2 : sure <+: (readJ x).1 := by
      obtain ⟨z, hz⟩ := hx.2
      rw [← hz, readJ_forms (hs.few.sub hs.sub) z]
      exact List.prefix_append _ _
    obtain ⟨r1, r2, r3, r4⟩ := readJ_spec x
    unfold openB
    rw [if_neg (by simp)]
    dsimp only
    by_cases hlt : (readJ x).2 < x.length
    · rw [if_pos hlt]
      have ht := trunc_val (A := B) (n := (readJ x).2) hf (by rw [hF]; exact Nat.le_of_lt hlt)
      have htw := truncA_wf hs.wf f (readJ x).2
      rcases ht with ⟨t1, t2⟩ | ⟨t1, _, t2⟩
      · rw [if_pos (by rw [t1]; decide)]
        refine ⟨?_, .inl ⟨rfl, .inl t1⟩⟩
        dsimp only
        rw [t2]
        exact hs.comes
      · rw [if_neg (by rw [t1]; simp)]
        dsimp only
        have e : (truncA B f ((readJ x).2 : Nat)).2.F f = (formL (readJ x).1, formL (readJ x).1) := by
          have e1 : x.take (readJ x).2 = formL (readJ x).1 := by
            have h5 : (formL (readJ x).1 ++ x.drop (readJ x).2).take (formL (readJ x).1).length = formL (readJ x).1 := List.take_left
            rw [← r3, ← r2] at h5
            exact h5
          rw [t2, hF, e1]
          exact setF_same _ _ _
        have hd2 : (truncA B f ((readJ x).2 : Nat)).2.down = false := by
          rw [t2]
          show (endsA B).2.down = false
          rw [(endsA_same B).2.1]; exact hd
        have hl := hgs htw e hd2
        refine ⟨⟨htw, hs.few, hs.sub, ?_, ?_⟩, .inr ⟨_, rfl, rfl, rfl, hp1, hp2, hl⟩⟩
        all_goals
          rw [e]
          refine ⟨?_, ?_⟩
          · obtain ⟨m, hm⟩ := hp1
            rw [← hm, formL_append, Dm.iff]
            refine ⟨by simp, fun i => ?_⟩
            by_cases hi : i < (formL (readJ x).1).length
            · left
              simp only [List.getD_eq_getElem?_getD]
              rw [List.getElem?_append_left hi]
            · right
              simp only [List.getD_eq_getElem?_getD]
              rw [List.getElem?_eq_none (by omega)]
              rfl
          · obtain ⟨m, hm⟩ := hp2
            rw [← hm, formL_append]
            exact List.prefix_append _ _
    · rw [if_neg hlt]
      dsimp only
      have e1 : x = formL (readJ x).1 := by
        have : x.drop (readJ x).2 = [] := List.drop_eq_nil_of_le (by omega)
        rw [this, List.append_nil] at r3
        exact r3
      refine ⟨hs, .inr ⟨_, rfl, rfl, rfl, hp1, hp2, hgs hs.wf ?_ hd⟩⟩
      rw [hF, ← e1]
  · rw [if_pos (by simpa using he)]
    exact ⟨hs, .inl ⟨rfl, (sync_val A hf).resolve_left he⟩⟩
end JnSpec
namespace JnSpec
open CodeSpec DkSpec
variable {all sure : List Bs} {f : Int} {A : Ab} {j : Jn}
def LJ (f : Int) (A : Ab) (j : Jn) (all sure : List Bs) : Prop := (j.broken = false ∧ Live f A j all sure) ∨ (j.broken = true ∧ GoodJ f A all sure)
theorem LJ.good (h : LJ f A j all sure) : GoodJ f A all sure := h.elim (fun h => h.2.good) (fun h => h.2)
theorem putB_end (s t : Bs) (ht : t ≠ []) : putB s s.length t = s ++ t := by
  unfold putB
  rw [if_neg ht]
  have e : s.length + t.length - s.length = t.length := by omega
  rw [e, List.take_left', List.drop_eq_nil_of_le (by simp), List.append_nil]
  rfl
theorem Live.add (h : Live f A j all sure) (hf : 0 ≤ f ∧ f ≤ 15) {t : Bs} (ht : t.length ≤ 20000) (hb : j.bytes + (form t).length ≤ 1048576) {A' : Ab} (hF : A'.F = A.F) (hw : WF A') (hd : A'.down = A.down) :
    Live f (addA A' f j.bytes (form t)) ⟨j.recs ++ [t], j.bytes + (form t).length, false⟩ (all ++ [t]) sure := by
  have hne : form t ≠ [] := List.length_pos_iff.1 (form_pos t)
  have hw2 := addA_wf hw f j.bytes (form t) (by omega) (by omega)
  have e : (addA A' f j.bytes (form t)).F f = (formL (j.recs ++ [t]), (A.F f).2) := by
    unfold addA
    rw [if_neg hne]
    show setF A'.F f _ f = _
    rw [setF_same, hF, h.x, h.bytes, putB_end _ _ hne, formL_append]
    simp [formL]
  have hg := h.good.more ht
  refine ⟨⟨hw2, hg.few, hg.sub, ?_, ?_⟩, by rw [h.recs], h.pre.trans (List.prefix_append _ _), by rw [e], ?_, ?_⟩
  · rw [e, h.recs]; exact Ok.own (h.pre.trans (List.prefix_append _ _))
  · rw [e]; exact hg.y
  · dsimp only
    rw [formL_append, List.length_append, h.bytes]
    simp [formL]
  · have : (addA A' f j.bytes (form t)).down = A'.down := by
      unfold addA; rw [if_neg hne]
    rw [this, hd]; exact h.up
theorem write_val {A : Ab} (hd : A.down = false) (hf : 0 ≤ f ∧ f ≤ 15) {n : Nat} {s : Bs} (hb : n + s.length ≤ 16777216) :
    ((writeA A f n s).1 = 0 ∧ (writeA A f n s).2 = addA (endsA A).2 f n s) ∨ ((writeA A f n s).1 = 8 ∧ ∃ keep, (writeA A f n s).2 = crashA (addA (endsA A).2 f n s) keep) := by
  have hw : wrA (endsA A).2 f n s = (0, addA (endsA A).2 f n s) := by
    unfold wrA
    rw [mayA_up (by rw [(endsA_same A).2.1]; exact hd) (by omega), if_neg (by simp), if_neg (by omega), if_neg (by omega)]
    simp
  unfold writeA
  rw [hw]
  split
  · exact .inr ⟨rfl, _, rfl⟩
  · exact .inl ⟨rfl, rfl⟩
theorem append_spec (h : LJ f A j all sure) (hf : 0 ≤ f ∧ f ≤ 15) (t : Bs) :
    ((appendJ A f j t).1 = 0 ∧ (appendJ A f j t).2.2.recs = j.recs ++ [t] ∧ LJ f (appendJ A f j t).2.1 (appendJ A f j t).2.2 (all ++ [t]) sure) ∨
    ((appendJ A f j t).1 = 8 ∧ (appendJ A f j t).2.2.recs = j.recs ∧ LJ f (appendJ A f j t).2.1 (appendJ A f j t).2.2 (all ++ [t]) sure) ∨
    (((appendJ A f j t).1 = 7 ∨ (appendJ A f j t).1 = 3 ∨ (appendJ A f j t).1 = 6) ∧ (appendJ A f j t).2.2.recs = j.recs ∧ LJ f (appendJ A f j t).2.1 (appendJ A f j t).2.2 all sure) := by
  rcases h with ⟨hb, hl⟩ | ⟨hb, hg⟩
  · unfold appendJ
    rw [if_neg (by rw [hb]; simp)]
    by_cases h1 : 20000 < t.length
    · rw [if_pos h1]; exact .inr (.inr ⟨.inr (.inl rfl), rfl, .inl ⟨hb, hl⟩⟩)
    rw [if_neg h1]
    by_cases h2 : 1048576 < j.bytes + (form t).length
    · rw [if_pos h2]; exact .inr (.inr ⟨.inr (.inr rfl), rfl, .inl ⟨hb, hl⟩⟩)
    rw [if_neg h2]
    have ha := hl.add hf (t := t) (by omega) (by omega) (A' := (endsA A).2) (endsA_same A).1 (endsA_wf hl.good.wf) (endsA_same A).2.1
    rcases write_val hl.up hf (n := j.bytes) (s := form t) (by omega) with ⟨w1, w2⟩ | ⟨w1, keep, w2⟩
    · rw [if_neg (by rw [w1]; simp)]
      refine .inl ⟨rfl, rfl, .inl ⟨rfl, ?_⟩⟩
      dsimp only
      rw [w2]; exact ha
    · rw [if_pos (by rw [w1]; simp)]
      refine .inr (.inl ⟨w1, rfl, .inr ⟨rfl, ?_⟩⟩)
      dsimp only
      rw [w2]; exact ha.good.crash keep
  · unfold appendJ
    rw [if_pos hb]
    exact .inr (.inr ⟨.inl rfl, rfl, .inr ⟨hb, hg⟩⟩)
theorem sync_spec (h : LJ f A j all sure) (hf : 0 ≤ f ∧ f ≤ 15) :
    (syncJ A f j).2.2.recs = j.recs ∧ (((syncJ A f j).1 = 0 ∧ LJ f (syncJ A f j).2.1 (syncJ A f j).2.2 all j.recs) ∨ ((syncJ A f j).1 ≠ 0 ∧ LJ f (syncJ A f j).2.1 (syncJ A f j).2.2 all sure)) := by
  rcases h with ⟨hb, hl⟩ | ⟨hb, hg⟩
  · have hs := hl.good.sync
    unfold syncJ
    rw [if_neg (by rw [hb]; simp)]
    dsimp only
    refine ⟨rfl, ?_⟩
    by_cases he : (syncA A f).1 = 0
    · refine .inl ⟨he, .inl ⟨by simp [he], ?_⟩⟩
      obtain ⟨_, _, hd, hfi, _, _⟩ := sync_ok hl.good.wf he
      have hF := hfi.1
      rw [hl.x] at hF
      have hfew := hl.good.few
      have hrec := hl.recs
      have ho : Ok all j.recs (formL j.recs) := by rw [hrec]; exact Ok.own (List.prefix_refl _)
      exact ⟨⟨hs.wf, hs.few, by rw [hrec]; exact List.prefix_refl _, by rw [hF]; exact ho, by rw [hF]; exact ho⟩, hrec, List.prefix_refl _, by rw [hF], hl.bytes, hd⟩
    · exact .inr ⟨he, .inr ⟨by simp [he], hs⟩⟩
  · unfold syncJ
    rw [if_pos hb]
    exact ⟨rfl, .inr ⟨by simp, .inr ⟨hb, hg⟩⟩⟩
theorem GoodJ.start (h : GoodJ f A all sure) : GoodJ f (startA A) all sure := h.same (startA_wf h.wf) rfl
theorem Live.same (h : Live f A j all sure) {B : Ab} (hg : GoodJ f B all sure) (hF : B.F = A.F) (hd : B.down = A.down) : Live f B j all sure := ⟨hg, h.recs, h.pre, by rw [hF]; exact h.x, h.bytes, by rw [hd]; exact h.up⟩
theorem good_start (f : Int) : GoodJ f newA [] [] := ⟨newA_wf, (fun t ht => by cases ht), List.prefix_refl _, ⟨trivial, List.nil_prefix⟩, ⟨trivial, List.nil_prefix⟩⟩
end JnSpec
namespace JnSpec
open CodeSpec
theorem sumFrom_append (a b : Bytes) : ∀ i : Nat, sumFrom i (a ++ b) = sumFrom i a + sumFrom (i + a.length) b := by
  induction a with
  | nil => intro i; simp [sumFrom]
  | cons c a ih =>
    intro i
    simp only [List.cons_append, sumFrom, List.length_cons]
    rw [ih (i + 1)]
    have : i + 1 + a.length = i + (a.length + 1) := by omega
    rw [this]
    omega
theorem sum_take (s : Bytes) (i : Nat) (h : i < s.length) : sumR (s.take (i + 1)) = sumR (s.take i) + (s[i].toNat : Int) * ((i : Int) + 1) := by
  have e : s.take (i + 1) = s.take i ++ [s[i]] := by rw [List.take_add_one, List.getElem?_eq_getElem h]; rfl
  unfold sumR
  have hl : (s.take i).length = i := by rw [List.length_take]; omega
  rw [e, sumFrom_append, Nat.zero_add, hl]
  simp only [sumFrom]
  omega
theorem sum_take_bound {s : Bytes} (hs : s.length ≤ 16777216) (i : Nat) : 0 ≤ sumR (s.take i) ∧ sumR (s.take i) < 9223372036854775807 := by
  have h1 := sumR_InR (s := s.take i) (by rw [List.length_take]; omega)
  have h2 := sumR_bound (s.take i)
  have h3 := sq_le (n := (s.take i).length) (m := 16777216) (by rw [List.length_take]; omega)
  have : (255 : Int) * (16777216 : Nat) * (16777216 : Nat) < 9223372036854775807 := by decide
  exact ⟨h1.2, by omega⟩
theorem form_len {s : Bytes} (hs : s.length ≤ 16777216) : (form s).length ≤ s.length + 64 := by
  have h1 := (sumR_InR hs)
  have h2 := decDigits_len s.length 20 (by omega) (by omega)
  have h3 := decDigits_len (sumR s).toNat 20 (by omega) (by have := h1.1.2; omega)
  have e1 : Go.Lib.itoa (s.length : Int) = Go.Lib.decDigits s.length := by
    unfold Go.Lib.itoa
    rw [if_neg (by omega)]
    simp
  have e2 : Go.Lib.itoa (sumR s) = Go.Lib.decDigits (sumR s).toNat := by
    unfold Go.Lib.itoa
    rw [if_neg (by omega)]
  rw [form_split]
  simp only [List.length_append, List.length_cons, List.length_nil, e1, e2]
  omega
end JnSpec
namespace Go.Proofs
open Go Go.Sh Go.RowKit CodeSpec JnSpec
set_option linter.unusedSimpArgs false
set_option linter.unusedVariables false
set_option maxRecDepth 10000
section
variable {K : Value → World → Prop} {w w0 : World} {L : List (Addr × Value)}
def SuJ (s : List UInt8) (w0 : World) (vs : List Value) (w' : World) : Prop := w' = w0 ∧ ∃ (u : Value) (i : Nat), vs = [u, .int .i64 (sumR (s.take i)), .int .i64 (i : Int)] ∧ i ≤ s.length
def suMu (n : Nat) : List Value → World → Nat
  | [_, _, .int _ i], _ => n - i.toNat
  | _, _ => 0
theorem suMu_eq (n : Nat) (a b : Value) (k : IntKind) (i : Int) (w : World) : suMu n [a, b, .int k i] w = n - i.toNat := rfl
theorem Sum_ok (s : List UInt8) (hs : s.length ≤ 16777216) (k : K (.int .i64 (sumR s)) w) : callM Tryd.prog 79 #[.string ⟨s.toArray⟩] K w := by
  apply sh_79_ok
  unfold sh_79
  repeat (any_goals ((with_reducible refine idO ?_); (with_reducible refine oM_gen fun Kv hK=>?_); simp [go_sem]; refine hK _ _ ?_; clear hK; clear Kv))
  refine ⟨SuJ s w, suMu s.length, ⟨rfl, undef, 0, rfl, by omega⟩, ?_⟩
  rintro _ _ _ ⟨rfl, u, i, rfl, hi⟩
  by_cases hin : i = s.length
  · rw [List.take_of_length_le (by omega)]
    repeat (any_goals (first
    | (with_reducible ((refine idCond ?_); refine yO ?_))
    | ((with_reducible refine idO ?_); (with_reducible refine oM_gen fun Kv hK=>?_); simp [go_sem]; refine hK _ _ ?_; clear hK; clear Kv)))
    exact k
  have hlt : i < s.length := by omega
  have hb := sum_take_bound hs (i + 1)
  have hb0 := sum_take_bound hs i
  rw [sum_take s i hlt] at hb
  repeat (any_goals (first
  | (with_reducible ((refine idCond ?_); refine yN ?_))
  | ((with_reducible refine idO ?_); (with_reducible refine oM_gen fun Kv hK=>?_); simp [go_sem]; (try simp (disch := omega) only [wrapI64, wrapU8, wrapU32, wrapU64]); (first|refine hK _ _ ?_|refine And.intro (by omega) (hK _ _ ?_)); clear hK; clear Kv)))
  have ec : s[i]?.getD 0 = s[i] := by rw [List.getElem?_eq_getElem hlt]; rfl
  have hst := sum_take s i hlt
  rw [ec]
  have hc := s[i].toNat_lt
  generalize s[i].toNat = c at *
  have hp : 0 ≤ (c : Int) * ((i : Int) + 1) := Int.mul_nonneg (by omega) (by omega)
  have e1 : IntKind.i64.wrap (c : Int) = c := by rw [wrapI64] <;> omega
  rw [e1]
  generalize (c : Int) * ((i : Int) + 1) = p at *
  have e2 : IntKind.i64.wrap p = p := by rw [wrapI64] <;> omega
  rw [e2]
  have e3 : IntKind.i64.wrap (sumR (s.take i) + p) = sumR (s.take i) + p := by rw [wrapI64] <;> omega
  rw [e3, ← hst]
  refine ⟨⟨rfl, _, i + 1, rfl, by omega⟩, ?_⟩
  simp only [suMu_eq]; omega
theorem form_ok (s : List UInt8) (hs : s.length ≤ 16777216) (hl : Cd.Laid w) (k : ∀ w', Below w.heap.size w w' → K (.string ⟨(form s).toArray⟩) w') : callM Tryd.prog 83 #[.string ⟨s.toArray⟩] K w := by
  apply sh_83_ok
  unfold sh_83
  refine Cd.pText_ok s (by omega) hl (fun w1 h1 => ?_)
  refine Sum_ok s hs ?_
  refine Cd.pNum_ok (sumR s) (sumR_InR hs).1 (hl.below h1 hl.size) (fun w2 h2 => ?_)
  have h1l := Cd.encText_len s (by omega)
  have h3 := form_len hs
  have h4 : (form s).length = (encText s).length + (encNum (sumR s)).length := by simp [form]
  repeat (any_goals ((with_reducible refine idO ?_); (with_reducible refine oM_gen fun Kv hK=>?_); simp [go_sem]; refine And.intro (by omega) (hK _ _ ?_); clear hK; clear Kv))
  exact Cd.K_eq (k _ (h1.trans (h2.mono h1.size))) (by simp [form])
end
end Go.Proofs
namespace Go.Proofs
open Go Go.Sh Go.RowKit CodeSpec JnSpec Go.Lib
set_option linter.unusedSimpArgs false
set_option linter.unusedVariables false
set_option maxRecDepth 10000
theorem below_own {w w2 w3 : World} {B : Nat} {e : TypeId} {sz n : Nat} {v : Value} {xs : List Value} (h : Below B w w2) (hown : w2.ownsRow B e sz v n xs) (hB : B ≤ w2.heap.size) (hg : w2.grownBy w3 v.ownBlock) : Below B w w3 :=
  h.trans (Cd.below_of_grown hg hB (fun k hk => by
    rcases hown.2 with ⟨rfl, _⟩ | ⟨g, cap, cur, rfl, hb, _⟩
    · cases hk
    · simp [Value.ownBlock] at hk; omega))
theorem rdText_le (s : List UInt8) : (rdText ⟨s, false⟩).1.length ≤ s.length := by
  rcases rdText_some ⟨s, false⟩ Rd.ok_good with h | ⟨t, u, h, h2, _⟩
  · rw [h]; simp
  · rw [h]
    have := congrArg (fun r => r.rest.length) h2
    simp [encText] at this ⊢
    omega
theorem rdText_rest_le (s : List UInt8) : (rdText ⟨s, false⟩).2.rest.length ≤ s.length := by
  rcases rdText_some ⟨s, false⟩ Rd.ok_good with h | ⟨t, u, h, h2, _⟩
  · rw [h]; simp [failed]
  · rw [h]
    have := congrArg (fun r => r.rest.length) h2
    simp [encText] at this ⊢
    omega
section
variable {K : Value → World → Prop} {w w0 : World}
def RdJ (s : List UInt8) (w : World) (vs : List Value) (w' : World) : Prop := ∃ (a b c d e v : Value) (n : Nat) (xs : List (List UInt8)), vs = [a, b, c, d, e, v, .int .i64 (n : Int)] ∧ n ≤ s.length ∧ w'.ownsRow w.heap.size 9 1 v xs.length (xs.map Cd.strV) ∧ Below w.heap.size w w' ∧ readJ s = (xs ++ (readJ (s.drop n)).1, n + (readJ (s.drop n)).2) ∧ xs.length ≤ n
def RdE (s : List UInt8) (w : World) (vs : List Value) (w' : World) : Prop := ∃ (a b c d e v : Value), vs = [a, b, c, d, e, v, .int .i64 (((readJ s).2 : Nat) : Int)] ∧ w'.ownsRow w.heap.size 9 1 v (readJ s).1.length ((readJ s).1.map Cd.strV) ∧ Below w.heap.size w w'
def rdMu (m : Nat) : List Value → World → Nat
  | [_, _, _, _, _, _, .int _ i], _ => m - i.toNat
  | _, _ => 0
theorem rdMu_eq (m : Nat) (a b c d e v : Value) (k : IntKind) (i : Int) (w : World) : rdMu m [a, b, c, d, e, v, .int k i] w = m - i.toNat := rfl
theorem readJ_ok (s : List UInt8) (hs : s.length ≤ 16777216) (hl : Cd.Laid w) (k : ∀ v w', w'.ownsRow w.heap.size 9 1 v (readJ s).1.length ((readJ s).1.map Cd.strV) → Below w.heap.size w w' → K (.tuple #[v, .int .i64 (readJ s).2]) w') : callM Tryd.prog 81 #[.string ⟨s.toArray⟩] K w := by
  apply sh_81_ok
  unfold sh_81
  skip
  refine ⟨RdE s w, ?_, ?_⟩
  rotate_left
  · rintro _ _ w2 ⟨_, _, _, _, _, v, rfl, hown, hb⟩
    simp only [List.getD_cons_zero, List.getD_cons_succ]
    exact k v w2 hown hb
  refine ⟨RdJ s w, rdMu s.length, ⟨_, _, _, _, _, _, 0, [], rfl, by omega, World.ownsRow_nil _ _ _ _, Below.refl _ _, by simp, by simp⟩, ?_⟩
  rintro _ _ w2 ⟨_, _, _, _, _, v, n, xs, rfl, hn, hown, hb2, hrd, hxn⟩
  simp only [List.getD_cons_zero, List.getD_cons_succ]
  have hz2 := hb2.size
  by_cases hlt : n < s.length
  · have hdl : (s.drop n).length = s.length - n := by simp
    have htl : List.take s.length s = s := List.take_length
    repeat (any_goals (first
    | (with_reducible ((refine idCond ?_); refine yN ?_))
    | ((with_reducible refine idO ?_); (with_reducible refine oM_gen fun Kv hK=>?_); simp [go_sem, htl]; (first|refine hK _ _ ?_|refine And.intro (by omega) (hK _ _ ?_)); clear hK; clear Kv)))
    refine Cd.open_ok _ (fun w3 hr3 hb3 => ?_)
    have hb23 := hb2.trans (hb3.mono hz2)
    have hz3 := hb3.size
    have hlt3 := hr3.lt
    have hl3 : Cd.Laid w3 := hl.below hb23 hl.size
    have hown3 := hown.kept (Cd.grown_of_below hb3 none) (by
      rcases hown.2 with ⟨rfl, _⟩ | ⟨g, cap, cur, rfl, _⟩
      · left; rfl
      · right; simp [Value.ownBlock])
    refine Cd.rtext_ok _ _ hl3 (by simp; omega) hr3 (fun w4 hr4 hg4 => ?_)
    have ht := rdText_le (s.drop n)
    have ht2 := rdText_rest_le (s.drop n)
    have hb4 : Below w2.heap.size w3 w4 := Cd.below_of_grown hg4 (by omega) (fun k hk => by cases hk; omega)
    have hz4 := hb4.size
    have hl4 : Cd.Laid w4 := hl3.below (hb4.mono hz2) hl.size
    refine Cd.rnum_ok _ _ hl4 (by omega) hr4 (fun w5 hr5 hg5 => ?_)
    have hb5 : Below w2.heap.size w4 w5 := Cd.below_of_grown hg5 (by omega) (fun k hk => by cases hk; omega)
    have hz5 := hb5.size
    have hl5 : Cd.Laid w5 := hl4.below (hb5.mono hz2) hl.size
    obtain ⟨t, et⟩ : ∃ t, t = (rdText ⟨s.drop n, false⟩).1 := ⟨_, rfl⟩
    obtain ⟨m, em⟩ : ∃ m, m = (rdNum (rdText ⟨s.drop n, false⟩).2).1 := ⟨_, rfl⟩
    rw [← et, ← em]
    rw [← et] at ht
    refine form_ok t (by omega) hl5 (fun w6 hb6 => ?_)
    have hfl := form_len (s := t) (by omega)
    have hfp := form_pos t
    have hz6 := hb6.size
    have hb36 : Below w2.heap.size w2 w6 := (hb3.trans (hb4.trans (hb5.trans (hb6.mono (by omega)))))
    have hown6 := hown.kept (Cd.grown_of_below hb36 none) (by
      rcases hown.2 with ⟨rfl, _⟩ | ⟨g, cap, cur, rfl, _⟩
      · left; rfl
      · right; simp [Value.ownBlock])
    have hb06 := hb2.trans (hb36.mono hz2)
    have hf1 : first (s.drop n) = if bad1 (s.drop n) t m then none else some t := by rw [et, em]; rfl
    refine ⟨fun vs w' => vs = [.bool (decide (bad1 (s.drop n) t m))] ∧ w' = w6, ?_, ?_⟩
    · by_cases h1 : 20000 < t.length
      · have hb : bad1 (s.drop n) t m := .inl h1
        repeat (any_goals (first
        | (with_reducible ((refine idCond ?_); refine yN ?_))
        | ((with_reducible refine idO ?_); (with_reducible refine oM_gen fun Kv hK=>?_); simp [go_sem]; refine hK _ _ ?_; clear hK; clear Kv)))
        exact ⟨by simp [hb]; omega, rfl⟩
      · by_cases h2 : m = sumR t
        · have e1 : ¬ (20000 : Int) < t.length := by omega
          repeat (any_goals (first
          | (with_reducible ((refine idCond ?_); refine yO ?_))
          | ((with_reducible refine idO ?_); (with_reducible refine oM_gen fun Kv hK=>?_); simp [go_sem]; refine hK _ _ ?_; clear hK; clear Kv)))
          refine Sum_ok t (by omega) ?_
          by_cases h3 : (s.drop n).length < (form t).length
          · have hb : bad1 (s.drop n) t m := .inr (.inr (.inl h3))
            repeat (any_goals (first
            | (with_reducible ((refine idCond ?_); first|refine yN ?_|refine yR ?_))
            | ((with_reducible refine idO ?_); (with_reducible refine oM_gen fun Kv hK=>?_); simp [go_sem]; (try simp (disch := omega) only [wrapI64, wrapU8, wrapU32, wrapU64]); refine hK _ _ ?_; clear hK; clear Kv)))
            exact ⟨by simp [hb]; omega, rfl⟩
          · have e4 : ((n : Int) + ((form t).length : Int)).toNat = n + (form t).length := by omega
            have e5 : (s.take (n + (form t).length)).drop n = (s.drop n).take (form t).length := by
              rw [List.drop_take]
              congr 1
              omega
            have hb : bad1 (s.drop n) t m ↔ ¬ (s.drop n).take (form t).length = form t := by
              unfold bad1
              constructor
              · rintro (h | h | h | h)
                · exact absurd h h1
                · exact absurd h2 h
                · exact absurd h h3
                · exact h
              · exact fun h => .inr (.inr (.inr h))
            repeat (any_goals (first
            | (with_reducible ((refine idCond ?_); first|refine yO ?_|refine yR ?_))
            | ((with_reducible refine idO ?_); (with_reducible refine oM_gen fun Kv hK=>?_); simp [go_sem]; (try simp (disch := omega) only [wrapI64, wrapU8, wrapU32, wrapU64]); (first|refine hK _ _ ?_|refine And.intro (by omega) (hK _ _ ?_)); clear hK; clear Kv)))
            refine ⟨?_, rfl⟩
            rw [e4, e5]
            simp [hb]
        · have hb : bad1 (s.drop n) t m := .inr (.inl h2)
          repeat (any_goals (first
          | (with_reducible ((refine idCond ?_); refine yO ?_))
          | ((with_reducible refine idO ?_); (with_reducible refine oM_gen fun Kv hK=>?_); simp [go_sem]; refine hK _ _ ?_; clear hK; clear Kv)))
          refine Sum_ok t (by omega) ?_
          repeat (any_goals (first
          | (with_reducible ((refine idCond ?_); refine yQ ?_))
          | ((with_reducible refine idO ?_); (with_reducible refine oM_gen fun Kv hK=>?_); simp [go_sem]; refine hK _ _ ?_; clear hK; clear Kv)))
          exact ⟨by simp [hb]; exact h2, rfl⟩
    · rintro _ _ w7 ⟨rfl, rfl⟩
      simp only [List.getD_cons_zero]
      by_cases hbad : bad1 (s.drop n) t m
      · rw [if_pos hbad] at hf1
        rw [readJ_none hf1] at hrd
        simp only [hbad, decide_true]
        repeat (any_goals (with_reducible ((refine idCond ?_); refine yL ?_)))
        have e2 : (readJ s).2 = n := by rw [hrd]; rfl
        have e3 : (readJ s).1 = xs := by rw [hrd]; simp
        unfold RdE
        rw [e2, e3]
        exact ⟨_, _, _, _, _, v, rfl, hown6, hb06⟩
      · rw [if_neg hbad] at hf1
        have hfs := first_some hf1
        rw [readJ_some hf1] at hrd
        simp only [hbad, decide_false]
        have hl1 := congrArg List.length hfs.2
        rw [List.length_append] at hl1
        have hby : (xs.length + 1) * Tryd.t9.bytes ≤ 140737488355328 := by
          have : Tryd.t9.bytes = 16 := by kernel_rfl
          rw [this]
          omega
        repeat (any_goals (first
        | (with_reducible ((refine idCond ?_); refine yM ?_))
        | ((with_reducible refine idO ?_); (with_reducible refine oM_gen fun Kv hK=>?_); simp [go_sem]; refine hK _ _ ?_; clear hK; clear Kv)))
        refine oM_append_new (base := w.heap.size) (n := xs.length) (xs := xs.map Cd.strV) (i := Tryd.t9) (z := .string ⟨#[]⟩) (cs := #[Cd.strV t]) Tryd.underlying23 (by kernel_rfl) (by kernel_rfl) rfl rfl (by simp) (by simp [Value.oneCell', Cd.strV]) hown6 (by omega) (by unfold maxLen; omega) hby ?_
        intro v' w8 ho8 hg8
        repeat (any_goals ((with_reducible refine idO ?_); (with_reducible refine oM_gen fun Kv hK=>?_); simp [go_sem]; (try simp (disch := omega) only [wrapI64, wrapU8, wrapU32, wrapU64]); refine hK _ _ ?_; clear hK; clear Kv))
        refine ⟨⟨_, _, _, _, _, v', n + (form t).length, xs ++ [t], rfl, by omega, by simpa using ho8, below_own hb06 hown6 (by omega) hg8, ?_, by simp; omega⟩, by simp only [rdMu_eq]; omega⟩
        rw [hrd, List.drop_drop]
        simp [Nat.add_assoc]
  · obtain rfl : n = s.length := by omega
    have e0 : readJ (s.drop s.length) = ([], 0) := by rw [List.drop_length]; exact readJ_none first_nil
    rw [e0] at hrd
    repeat (any_goals (first
    | (with_reducible ((refine idCond ?_); refine yM ?_))
    | ((with_reducible refine idO ?_); (with_reducible refine oM_gen fun Kv hK=>?_); simp [go_sem]; refine hK _ _ ?_; clear hK; clear Kv)))
    have e2 : (readJ s).2 = s.length := by rw [hrd]; rfl
    have e3 : (readJ s).1 = xs := by rw [hrd]; simp
    unfold RdE
    rw [e2, e3]
    exact ⟨_, _, _, _, _, v, rfl, hown, hb2⟩
end
end Go.Proofs
namespace Go.Proofs
open Go Go.Sh Go.RowKit DkSpec
set_option linter.unusedSimpArgs false
set_option maxRecDepth 10000
@[reducible] def bsV (s : Bs) : Value := .string ⟨s.toArray⟩
def flV (x : Bs × Bs) : Value := .agg #[bsV x.1, bsV x.2]
def i64V (n : Int) : Value := .int .i64 n
def secV (p : Int × Int) : Value := .agg #[.int .i64 p.1, .int .i64 p.2]
def secC (p : Int × Int) : List Value := [.int .i64 p.1, .int .i64 p.2]
theorem keyI : KeyOK Tryd.prog 3 i64V := keyInt (by kernel_rfl)
theorem keyS : KeyOK Tryd.prog 103 secV where
  find := fun w k es ks h => by
    refine (run_findKey_eq w (by kernel_rfl) _ _).trans ?_
    have := findAsk_pair (P := Tryd.prog) (kt := 103) secV (fun w a b => by
      simp [Op.equal, Op.maxDepth, secV, go_sem]
      obtain ⟨a1, a2⟩ := a
      obtain ⟨b1, b2⟩ := b
      by_cases h1 : a1 = b1 <;> by_cases h2 : a2 = b2 <;> simp [h1, h2]) w k es ks 0 h
    simpa using this
  check := fun b w k => by
    have h : ∀ n, (Instr.checkKey b (n + 2) 103 (secV k)).run Tryd.prog w = .ok () w := by
      intro n
      simp [Instr.checkKey, secV, go_sem]
    exact h 9998
  same := fun k => by simp [secV, Instr.sameBits]
structure Dk where
  fm : Nat
  sm : Nat
  q : Value
  kp : Value
def dkCells (A : Ab) (h : Dk) : Array Value := #[.map (some h.fm), h.q, .map (some h.sm), .int .i64 A.lost, .bool A.down, .int .i64 A.armed, h.kp]
structure IsDk (w : World) (b : Nat) (A : Ab) (h : Dk) : Prop where
  blk : w.heap[b]? = some (.cells (dkCells A h) 92 (0, 0))
  files : ∃ l, MapIs i64V w h.fm l ∧ ∀ f, (lookA l f).getD (flV ([], [])) = flV (A.F f)
  set : ∃ sl, MapIs secV w h.sm sl ∧ ∀ p, lookA sl p = if p ∈ A.queue then some (.bool true) else none
  que : w.ownsRow 0 103 2 h.q A.queue.length (flat secC A.queue)
  kep : w.ownsRow 0 3 1 h.kp A.keep.length (A.keep.map i64V)
  ne : h.fm ≠ h.sm
  wf : WF A
def Own (b : Nat) (h : Dk) (i : Nat) : Prop := i = b ∨ i = h.fm ∨ i = h.sm ∨ h.q.ownBlock = some i
def Rdb (h : Dk) (i : Nat) : Prop := h.kp.ownBlock = some i
structure Step (w : World) (b : Nat) (h : Dk) (w' : World) (h' : Dk) : Prop where
  fr : Fr (Own b h) w w'
  own : ∀ i, Own b h' i → Own b h i ∨ w.heap.size ≤ i
  rd : ∀ i, Rdb h' i → Rdb h i ∨ w.heap.size ≤ i
theorem Step.refl (w : World) (b : Nat) (h : Dk) : Step w b h w h := ⟨Fr.refl _ _, fun _ h => .inl h, fun _ h => .inl h⟩
theorem Step.trans {w w1 w2 : World} {b : Nat} {h h1 h2 : Dk} (a : Step w b h w1 h1) (c : Step w1 b h1 w2 h2) : Step w b h w2 h2 :=
  ⟨a.fr.trans c.fr a.own, fun i hi => (c.own i hi).elim (a.own i) (fun h => .inr (Nat.le_trans a.fr.size h)), fun i hi => (c.rd i hi).elim (a.rd i) (fun h => .inr (Nat.le_trans a.fr.size h))⟩
section
variable {w w' : World} {b : Nat} {A : Ab} {h : Dk}
theorem IsDk.lt (d : IsDk w b A h) {i : Nat} (hi : Own b h i ∨ Rdb h i) : i < w.heap.size := by
  rcases hi with (rfl | rfl | rfl | hi) | hi
  · exact (Array.getElem?_eq_some_iff.1 d.blk).1
  · obtain ⟨l, hl, _⟩ := d.files; exact hl.lt
  · obtain ⟨l, hl, _⟩ := d.set; exact hl.lt
  · exact (owns_own d.que hi).1
  · exact (owns_own d.kep hi).1
theorem IsDk.keep (d : IsDk w b A h) (hk : ∀ i, Own b h i ∨ Rdb h i → w'.heap[i]? = w.heap[i]?) : IsDk w' b A h := by
  refine ⟨?_, ?_, ?_, owns_keep d.que (fun i hi => hk i (.inl (.inr (.inr (.inr hi))))), owns_keep d.kep (fun i hi => hk i (.inr hi)), d.ne, d.wf⟩
  · rw [hk b (.inl (.inl rfl))]; exact d.blk
  · obtain ⟨l, hl, h2⟩ := d.files
    exact ⟨l, hl.of_block (hk _ (.inl (.inr (.inl rfl)))), h2⟩
  · obtain ⟨l, hl, h2⟩ := d.set
    exact ⟨l, hl.of_block (hk _ (.inl (.inr (.inr (.inl rfl))))), h2⟩
theorem MapIs.isMap {κ : Type} {mk : κ → Value} {i : Nat} {l : List (κ × Value)} (h : MapIs mk w i l) : ∃ es c, w.heap[i]? = some (.map es c) := by
  obtain ⟨es, c, h, _⟩ := h; exact ⟨es, c, h⟩
theorem IsDk.bfm (d : IsDk w b A h) : b ≠ h.fm := by
  obtain ⟨l, hl, _⟩ := d.files
  obtain ⟨es, c, h1⟩ := MapIs.isMap hl
  intro e
  have h2 := d.blk
  rw [e, h1] at h2; cases h2
theorem IsDk.bsm (d : IsDk w b A h) : b ≠ h.sm := by
  obtain ⟨l, hl, _⟩ := d.set
  obtain ⟨es, c, h1⟩ := MapIs.isMap hl
  intro e
  have h2 := d.blk
  rw [e, h1] at h2; cases h2
theorem IsDk.qne (d : IsDk w b A h) {i : Nat} (hi : h.q.ownBlock = some i) : i ≠ b ∧ i ≠ h.fm ∧ i ≠ h.sm := by
  obtain ⟨_, _, cur, hc⟩ := owns_own d.que hi
  refine ⟨?_, ?_, ?_⟩
  · rintro rfl; rw [d.blk] at hc; cases hc
  · rintro rfl
    obtain ⟨l, hl, _⟩ := d.files
    obtain ⟨es, c, h1⟩ := MapIs.isMap hl
    rw [h1] at hc; cases hc
  · rintro rfl
    obtain ⟨l, hl, _⟩ := d.set
    obtain ⟨es, c, h1⟩ := MapIs.isMap hl
    rw [h1] at hc; cases hc
theorem IsDk.kne (d : IsDk w b A h) {i : Nat} (hi : h.kp.ownBlock = some i) : i ≠ b ∧ i ≠ h.fm ∧ i ≠ h.sm ∧ h.q.ownBlock ≠ some i := by
  obtain ⟨_, _, cur, hc⟩ := owns_own d.kep hi
  refine ⟨?_, ?_, ?_, ?_⟩
  · rintro rfl; rw [d.blk] at hc; cases hc
  · rintro rfl
    obtain ⟨l, hl, _⟩ := d.files
    obtain ⟨es, c, h1⟩ := MapIs.isMap hl
    rw [h1] at hc; cases hc
  · rintro rfl
    obtain ⟨l, hl, _⟩ := d.set
    obtain ⟨es, c, h1⟩ := MapIs.isMap hl
    rw [h1] at hc; cases hc
  · intro hq
    obtain ⟨_, _, cur', hc'⟩ := owns_own d.que hq
    rw [hc] at hc'; cases hc'
theorem IsDk.cells (d : IsDk w b A h) {A' : Ab} (hF : A'.F = A.F) (hq : A'.queue = A.queue) (hk : A'.keep = A.keep) (hw : WF A') (hb : w'.heap[b]? = some (.cells (dkCells A' h) 92 (0, 0))) (ho : ∀ i, i ≠ b → w'.heap[i]? = w.heap[i]?) : IsDk w' b A' h := by
  refine ⟨hb, ?_, ?_, ?_, ?_, d.ne, hw⟩
  · obtain ⟨l, hl, h2⟩ := d.files
    exact ⟨l, hl.of_block (ho _ d.bfm.symm), by rw [hF]; exact h2⟩
  · obtain ⟨l, hl, h2⟩ := d.set
    exact ⟨l, hl.of_block (ho _ d.bsm.symm), by rw [hq]; exact h2⟩
  · rw [hq]; exact owns_keep d.que (fun i hi => ho i (d.qne hi).1)
  · rw [hk]; exact owns_keep d.kep (fun i hi => ho i (d.kne hi).1)
theorem IsDk.c (d : IsDk w b A h) (i : Nat) : w.cell? ⟨b, i, none⟩ = (dkCells A h)[i]? := cell_of_block d.blk i
theorem IsDk.fz (d : IsDk w b A h) (i : Nat) : w.frozen? ⟨b, i, none⟩ = false := frozen_of_block d.blk i
theorem IsDk.set3 (d : IsDk w b A h) (n : Int) (hn : 0 ≤ n ∧ n < 2 ^ 63) : IsDk (w.setCell ⟨b, 3, none⟩ (.int .i64 n)) b { A with lost := n } h :=
  d.cells rfl rfl rfl ⟨hn.1, hn.2, d.wf.a0, d.wf.a1, d.wf.nd, d.wf.qr, d.wf.sz, d.wf.kr, d.wf.kl⟩ (by rw [block_set d.blk]; rfl) (fun i hi => setCell_heap_ne _ _ _ _ hi)
theorem IsDk.set4 (d : IsDk w b A h) (t : Bool) : IsDk (w.setCell ⟨b, 4, none⟩ (.bool t)) b { A with down := t } h :=
  d.cells rfl rfl rfl ⟨d.wf.l0, d.wf.l1, d.wf.a0, d.wf.a1, d.wf.nd, d.wf.qr, d.wf.sz, d.wf.kr, d.wf.kl⟩ (by rw [block_set d.blk]; rfl) (fun i hi => setCell_heap_ne _ _ _ _ hi)
theorem IsDk.set5 (d : IsDk w b A h) (n : Int) (hn : 0 ≤ n ∧ n < 2 ^ 63) : IsDk (w.setCell ⟨b, 5, none⟩ (.int .i64 n)) b { A with armed := n } h :=
  d.cells rfl rfl rfl ⟨d.wf.l0, d.wf.l1, hn.1, hn.2, d.wf.nd, d.wf.qr, d.wf.sz, d.wf.kr, d.wf.kl⟩ (by rw [block_set d.blk]; rfl) (fun i hi => setCell_heap_ne _ _ _ _ hi)
theorem step_set (w : World) (b i : Nat) (h : Dk) (u : Value) : Step w b h (w.setCell ⟨b, i, none⟩ u) h := ⟨(Fr.refl _ _).set _ _ (.inl (.inl rfl)), fun _ h => .inl h, fun _ h => .inl h⟩
theorem IsDk.look (d : IsDk w b A h) (f : Int) : (Instr.lookup 88 (.map (some h.fm)) (.int .i64 f) false).run Tryd.prog w = .ok (flV (A.F f)) w := by
  obtain ⟨l, hl, h2⟩ := d.files
  have := run_lookup (P := Tryd.prog) (t := 88) (et := 100) (z := flV ([], [])) keyI (by kernel_rfl) (fun w => by kernel_rfl) hl f
  rw [h2] at this
  exact this
end
@[reducible] def dkP (b : Nat) : Value := .pointer (some ⟨b, 0, none⟩)
section
variable {w : World} {b : Nat} {A : Ab} {h : Dk} {K : Value → World → Prop}
theorem size_ok (d : IsDk w b A h) (f : Int) (k : K (.int .i64 (A.F f).1.length) w) : callM Tryd.prog 51 #[dkP b, .int .i64 f] K w := by
  apply sh_51_ok
  unfold sh_51 dkP
  have c0 := d.c 0
  simp only [dkCells] at c0
  have hl := d.look f
  repeat (any_goals (first
  | (with_reducible refine pureM_in ?_)
  | (with_reducible first|refine pureQ_in ?_|refine gdQ_conv (fun _ => ?_)|refine pickQT ?_|refine pickQF ?_|refine pickQ_pos (by first|assumption|omega) ?_|refine pickQ_neg (by first|assumption|omega) ?_|refine pickQn_pos (by first|assumption|omega) ?_|refine pickQn_neg (by first|assumption|omega) ?_) | ((with_reducible refine oQ_one ?_ ?_); exact ⟨_, rfl⟩) | (with_reducible first|refine And.intro (Eq.refl (α := World) _) ?_|refine forall_one ?_|refine oQ_nil ?_) | (with_reducible refine oQ_of ⟨_, rfl⟩ (fun W0 hW0 => by (refine oM_gen (fun Kv hK => ?_)); simp [go_sem]; (first | exact hK _ _ ⟨rfl, rfl⟩ | exact ⟨by omega, hK _ _ ⟨rfl, rfl⟩⟩)) ?_)
  | (with_reducible first|refine gdtT ?_|refine gdtF ?_|refine gdfF ?_|refine gdfT ?_|refine gdu ?_ _|refine gdt_pos (by first|assumption|omega) ?_|refine gdt_neg (by first|assumption|omega) ?_|refine gdt_split (fun hg => ?_) (fun hg => ?_)|refine gdf_pos (by first|assumption|omega) ?_|refine gdf_neg (by first|assumption|omega) ?_|refine gdf_split (fun hg => ?_) (fun hg => ?_)|refine gdtn_pos (by first|assumption|omega) ?_|refine gdtn_neg (by first|assumption|omega) ?_|refine gdtn_split (fun hg => ?_) (fun hg => ?_)|refine gdfn_pos (by first|assumption|omega) ?_|refine gdfn_neg (by first|assumption|omega) ?_|refine gdfn_split (fun hg => ?_) (fun hg => ?_)|refine gdtbn_pos (by assumption) ?_|refine gdtbn_neg (by assumption) ?_|refine gdfbn_pos (by assumption) ?_|refine gdfbn_neg (by assumption) ?_|refine gdtb_pos (by assumption) ?_|refine gdtb_neg (by assumption) ?_|refine gdtb_split (fun hg => ?_) (fun hg => ?_)|refine gdfb_pos (by assumption) ?_|refine gdfb_neg (by assumption) ?_|refine gdfb_split (fun hg => ?_) (fun hg => ?_)|refine pickT ?_|refine pickF ?_|refine pick_pos (by first|assumption|omega) ?_|refine pick_neg (by first|assumption|omega) ?_|refine pickn_pos (by first|assumption|omega) ?_|refine pickn_neg (by first|assumption|omega) ?_|refine pickbn_pos (by assumption) ?_|refine pickbn_neg (by assumption) ?_|refine pickb_pos (by assumption) ?_|refine pickb_neg (by assumption) ?_|refine condT ?_|refine condF ?_|refine cond_pos (by first|assumption|omega) ?_|refine cond_neg (by first|assumption|omega) ?_|refine condM_dec (fun hg => ?_) (fun hg => ?_)|refine condn_pos (by first|assumption|omega) ?_|refine condn_neg (by first|assumption|omega) ?_|refine condM_ndec (fun hg => ?_) (fun hg => ?_)|refine condbn_pos (by assumption) ?_|refine condbn_neg (by assumption) ?_|refine condbn_split (fun hg => ?_) (fun hg => ?_)|refine condb_pos (by assumption) ?_|refine condb_neg (by assumption) ?_|refine condM_b (fun hg => ?_) (fun hg => ?_))
  | ((with_reducible refine oM_gen (fun Kv hK => ?_)); simp [go_sem, c0, hl, flV, bsV]; (try simp (disch := omega) only [wrapI64, wrapU8, wrapU32, wrapU64]); (first | refine hK _ _ ?_ | refine And.intro (by omega) (hK _ _ ?_)); clear hK; clear Kv)))
  exact k
theorem may_ok (d : IsDk w b A h) (f : Int) (k : K (.int .i64 (mayA A f)) w) : callM Tryd.prog 84 #[dkP b, .int .i64 f] K w := by
  apply sh_84_ok
  unfold sh_84 dkP
  have c4 := d.c 4
  simp only [dkCells] at c4
  unfold mayA at k
  repeat (any_goals (first
  | (with_reducible refine pureM_in ?_)
  | (with_reducible first|refine pureQ_in ?_|refine gdQ_conv (fun _ => ?_)|refine pickQT ?_|refine pickQF ?_|refine pickQ_pos (by first|assumption|omega) ?_|refine pickQ_neg (by first|assumption|omega) ?_|refine pickQn_pos (by first|assumption|omega) ?_|refine pickQn_neg (by first|assumption|omega) ?_) | ((with_reducible refine oQ_one ?_ ?_); exact ⟨_, rfl⟩) | (with_reducible first|refine And.intro (Eq.refl (α := World) _) ?_|refine forall_one ?_|refine oQ_nil ?_) | (with_reducible refine oQ_of ⟨_, rfl⟩ (fun W0 hW0 => by (refine oM_gen (fun Kv hK => ?_)); simp [go_sem]; (first | exact hK _ _ ⟨rfl, rfl⟩ | exact ⟨by omega, hK _ _ ⟨rfl, rfl⟩⟩)) ?_)
  | (with_reducible first|refine gdtT ?_|refine gdtF ?_|refine gdfF ?_|refine gdfT ?_|refine gdu ?_ _|refine gdt_pos (by first|assumption|omega) ?_|refine gdt_neg (by first|assumption|omega) ?_|refine gdt_split (fun hg => ?_) (fun hg => ?_)|refine gdf_pos (by first|assumption|omega) ?_|refine gdf_neg (by first|assumption|omega) ?_|refine gdf_split (fun hg => ?_) (fun hg => ?_)|refine gdtn_pos (by first|assumption|omega) ?_|refine gdtn_neg (by first|assumption|omega) ?_|refine gdtn_split (fun hg => ?_) (fun hg => ?_)|refine gdfn_pos (by first|assumption|omega) ?_|refine gdfn_neg (by first|assumption|omega) ?_|refine gdfn_split (fun hg => ?_) (fun hg => ?_)|refine gdtbn_pos (by assumption) ?_|refine gdtbn_neg (by assumption) ?_|refine gdfbn_pos (by assumption) ?_|refine gdfbn_neg (by assumption) ?_|refine gdtb_pos (by assumption) ?_|refine gdtb_neg (by assumption) ?_|refine gdtb_split (fun hg => ?_) (fun hg => ?_)|refine gdfb_pos (by assumption) ?_|refine gdfb_neg (by assumption) ?_|refine gdfb_split (fun hg => ?_) (fun hg => ?_)|refine pickT ?_|refine pickF ?_|refine pick_pos (by first|assumption|omega) ?_|refine pick_neg (by first|assumption|omega) ?_|refine pickn_pos (by first|assumption|omega) ?_|refine pickn_neg (by first|assumption|omega) ?_|refine pickbn_pos (by assumption) ?_|refine pickbn_neg (by assumption) ?_|refine pickb_pos (by assumption) ?_|refine pickb_neg (by assumption) ?_|refine condT ?_|refine condF ?_|refine cond_pos (by first|assumption|omega) ?_|refine cond_neg (by first|assumption|omega) ?_|refine condM_dec (fun hg => ?_) (fun hg => ?_)|refine condn_pos (by first|assumption|omega) ?_|refine condn_neg (by first|assumption|omega) ?_|refine condM_ndec (fun hg => ?_) (fun hg => ?_)|refine condbn_pos (by assumption) ?_|refine condbn_neg (by assumption) ?_|refine condbn_split (fun hg => ?_) (fun hg => ?_)|refine condb_pos (by assumption) ?_|refine condb_neg (by assumption) ?_|refine condM_b (fun hg => ?_) (fun hg => ?_))
  | ((with_reducible refine oM_gen (fun Kv hK => ?_)); simp [go_sem, c4]; (try simp (disch := omega) only [wrapI64, wrapU8, wrapU32, wrapU64]); (first | refine hK _ _ ?_ | refine And.intro (by omega) (hK _ _ ?_)); clear hK; clear Kv)))
  all_goals (try simp_all)
theorem start_ok (d : IsDk w b A h) (k : ∀ w', IsDk w' b (startA A) h → Step w b h w' h → K (.tuple #[]) w') : callM Tryd.prog 63 #[dkP b] K w := by
  apply sh_63_ok
  unfold sh_63 dkP
  have c4 := d.c 4
  have f4 := d.fz 4
  simp only [dkCells] at c4
  repeat (any_goals (first
  | (with_reducible refine pureM_in ?_)
  | (with_reducible first|refine pureQ_in ?_|refine gdQ_conv (fun _ => ?_)|refine pickQT ?_|refine pickQF ?_|refine pickQ_pos (by first|assumption|omega) ?_|refine pickQ_neg (by first|assumption|omega) ?_|refine pickQn_pos (by first|assumption|omega) ?_|refine pickQn_neg (by first|assumption|omega) ?_) | ((with_reducible refine oQ_one ?_ ?_); exact ⟨_, rfl⟩) | (with_reducible first|refine And.intro (Eq.refl (α := World) _) ?_|refine forall_one ?_|refine oQ_nil ?_) | (with_reducible refine oQ_of ⟨_, rfl⟩ (fun W0 hW0 => by (refine oM_gen (fun Kv hK => ?_)); simp [go_sem]; (first | exact hK _ _ ⟨rfl, rfl⟩ | exact ⟨by omega, hK _ _ ⟨rfl, rfl⟩⟩)) ?_)
  | (with_reducible first|refine gdtT ?_|refine gdtF ?_|refine gdfF ?_|refine gdfT ?_|refine gdu ?_ _|refine gdt_pos (by first|assumption|omega) ?_|refine gdt_neg (by first|assumption|omega) ?_|refine gdt_split (fun hg => ?_) (fun hg => ?_)|refine gdf_pos (by first|assumption|omega) ?_|refine gdf_neg (by first|assumption|omega) ?_|refine gdf_split (fun hg => ?_) (fun hg => ?_)|refine gdtn_pos (by first|assumption|omega) ?_|refine gdtn_neg (by first|assumption|omega) ?_|refine gdtn_split (fun hg => ?_) (fun hg => ?_)|refine gdfn_pos (by first|assumption|omega) ?_|refine gdfn_neg (by first|assumption|omega) ?_|refine gdfn_split (fun hg => ?_) (fun hg => ?_)|refine gdtbn_pos (by assumption) ?_|refine gdtbn_neg (by assumption) ?_|refine gdfbn_pos (by assumption) ?_|refine gdfbn_neg (by assumption) ?_|refine gdtb_pos (by assumption) ?_|refine gdtb_neg (by assumption) ?_|refine gdtb_split (fun hg => ?_) (fun hg => ?_)|refine gdfb_pos (by assumption) ?_|refine gdfb_neg (by assumption) ?_|refine gdfb_split (fun hg => ?_) (fun hg => ?_)|refine pickT ?_|refine pickF ?_|refine pick_pos (by first|assumption|omega) ?_|refine pick_neg (by first|assumption|omega) ?_|refine pickn_pos (by first|assumption|omega) ?_|refine pickn_neg (by first|assumption|omega) ?_|refine pickbn_pos (by assumption) ?_|refine pickbn_neg (by assumption) ?_|refine pickb_pos (by assumption) ?_|refine pickb_neg (by assumption) ?_|refine condT ?_|refine condF ?_|refine cond_pos (by first|assumption|omega) ?_|refine cond_neg (by first|assumption|omega) ?_|refine condM_dec (fun hg => ?_) (fun hg => ?_)|refine condn_pos (by first|assumption|omega) ?_|refine condn_neg (by first|assumption|omega) ?_|refine condM_ndec (fun hg => ?_) (fun hg => ?_)|refine condbn_pos (by assumption) ?_|refine condbn_neg (by assumption) ?_|refine condbn_split (fun hg => ?_) (fun hg => ?_)|refine condb_pos (by assumption) ?_|refine condb_neg (by assumption) ?_|refine condM_b (fun hg => ?_) (fun hg => ?_))
  | ((with_reducible refine oM_gen (fun Kv hK => ?_)); simp [go_sem, c4, f4]; (try simp (disch := omega) only [wrapI64, wrapU8, wrapU32, wrapU64]); (first | refine hK _ _ ?_ | refine And.intro (by omega) (hK _ _ ?_)); clear hK; clear Kv)))
  exact k _ (d.set4 false) (step_set _ _ _ _ _)
theorem ends_ok (d : IsDk w b A h) (k : ∀ w', IsDk w' b (endsA A).2 h → Step w b h w' h → K (.bool (endsA A).1) w') : callM Tryd.prog 85 #[dkP b] K w := by
  apply sh_85_ok
  unfold sh_85 dkP
  have c4 := d.c 4
  have c5 := d.c 5
  have f5 := d.fz 5
  simp only [dkCells] at c4 c5
  have a0 := d.wf.a0
  have a1 := d.wf.a1
  unfold endsA at k
  repeat (any_goals (first
  | (with_reducible refine pureM_in ?_)
  | (with_reducible first|refine pureQ_in ?_|refine gdQ_conv (fun _ => ?_)|refine pickQT ?_|refine pickQF ?_|refine pickQ_pos (by first|assumption|omega) ?_|refine pickQ_neg (by first|assumption|omega) ?_|refine pickQn_pos (by first|assumption|omega) ?_|refine pickQn_neg (by first|assumption|omega) ?_) | ((with_reducible refine oQ_one ?_ ?_); exact ⟨_, rfl⟩) | (with_reducible first|refine And.intro (Eq.refl (α := World) _) ?_|refine forall_one ?_|refine oQ_nil ?_) | (with_reducible refine oQ_of ⟨_, rfl⟩ (fun W0 hW0 => by (refine oM_gen (fun Kv hK => ?_)); simp [go_sem]; (first | exact hK _ _ ⟨rfl, rfl⟩ | exact ⟨by omega, hK _ _ ⟨rfl, rfl⟩⟩)) ?_)
  | (with_reducible first|refine gdtT ?_|refine gdtF ?_|refine gdfF ?_|refine gdfT ?_|refine gdu ?_ _|refine gdt_pos (by first|assumption|omega) ?_|refine gdt_neg (by first|assumption|omega) ?_|refine gdt_split (fun hg => ?_) (fun hg => ?_)|refine gdf_pos (by first|assumption|omega) ?_|refine gdf_neg (by first|assumption|omega) ?_|refine gdf_split (fun hg => ?_) (fun hg => ?_)|refine gdtn_pos (by first|assumption|omega) ?_|refine gdtn_neg (by first|assumption|omega) ?_|refine gdtn_split (fun hg => ?_) (fun hg => ?_)|refine gdfn_pos (by first|assumption|omega) ?_|refine gdfn_neg (by first|assumption|omega) ?_|refine gdfn_split (fun hg => ?_) (fun hg => ?_)|refine gdtbn_pos (by assumption) ?_|refine gdtbn_neg (by assumption) ?_|refine gdfbn_pos (by assumption) ?_|refine gdfbn_neg (by assumption) ?_|refine gdtb_pos (by assumption) ?_|refine gdtb_neg (by assumption) ?_|refine gdtb_split (fun hg => ?_) (fun hg => ?_)|refine gdfb_pos (by assumption) ?_|refine gdfb_neg (by assumption) ?_|refine gdfb_split (fun hg => ?_) (fun hg => ?_)|refine pickT ?_|refine pickF ?_|refine pick_pos (by first|assumption|omega) ?_|refine pick_neg (by first|assumption|omega) ?_|refine pickn_pos (by first|assumption|omega) ?_|refine pickn_neg (by first|assumption|omega) ?_|refine pickbn_pos (by assumption) ?_|refine pickbn_neg (by assumption) ?_|refine pickb_pos (by assumption) ?_|refine pickb_neg (by assumption) ?_|refine condT ?_|refine condF ?_|refine cond_pos (by first|assumption|omega) ?_|refine cond_neg (by first|assumption|omega) ?_|refine condM_dec (fun hg => ?_) (fun hg => ?_)|refine condn_pos (by first|assumption|omega) ?_|refine condn_neg (by first|assumption|omega) ?_|refine condM_ndec (fun hg => ?_) (fun hg => ?_)|refine condbn_pos (by assumption) ?_|refine condbn_neg (by assumption) ?_|refine condbn_split (fun hg => ?_) (fun hg => ?_)|refine condb_pos (by assumption) ?_|refine condb_neg (by assumption) ?_|refine condM_b (fun hg => ?_) (fun hg => ?_))
  | ((with_reducible refine oM_gen (fun Kv hK => ?_)); simp [go_sem, c4, c5, f5]; (try simp (disch := omega) only [wrapI64, wrapU8, wrapU32, wrapU64]); (first | refine hK _ _ ?_ | refine And.intro (by omega) (hK _ _ ?_)); clear hK; clear Kv)))
  · rw [if_pos (.inl hg)] at k
    exact k _ d (Step.refl _ _ _)
  · rw [if_pos (.inr hg)] at k
    exact k _ d (Step.refl _ _ _)
  · rename_i hg2
    rw [if_neg (by rw [hg2]; simp [hg])] at k
    have e : decide (A.armed - 1 = 0) = decide (A.armed = 1) := by
      by_cases h1 : A.armed = 1
      · simp [h1]
      · have : ¬ A.armed - 1 = 0 := by omega
        simp [h1, this]
    rw [e]
    exact k _ (d.set5 (A.armed - 1) (by omega)) (step_set _ _ _ _ _)
end
end Go.Proofs
namespace Go.Proofs
open Go Go.Sh Go.RowKit DkSpec
set_option linter.unusedSimpArgs false
set_option maxRecDepth 10000
def intC (n : Int) : List Value := [i64V n]
theorem ba_ext (x : List UInt8) (i j : Nat) : (⟨x.toArray⟩ : ByteArray).extract i j = ⟨((x.drop i).take (j - i)).toArray⟩ := by
  apply ByteArray.ext
  rw [ByteArray.data_extract]
  simp [List.extract_eq_take_drop]
theorem read_cut (l : List UInt8) (a n : Int) (ha : 0 ≤ a) (hn : 0 ≤ n) : ((⟨l.toArray⟩ : ByteArray).extract (min a l.length).toNat l.length).extract 0 (min n ((l.length - (min a (l.length : Int)).toNat : Nat) : Int)).toNat = ⟨((l.drop a.toNat).take n.toNat).toArray⟩ := by
  rw [ba_ext, ba_ext]
  congr 2
  rw [List.drop_zero, List.take_take]
  by_cases h : a ≤ l.length
  · have e : (min a (l.length : Int)).toNat = a.toNat := by omega
    rw [e, List.take_eq_take_iff, List.length_drop]
    omega
  · have e : (min a (l.length : Int)).toNat = l.length := by omega
    rw [e, List.drop_of_length_le (Nat.le_refl _), List.drop_of_length_le (by omega)]
    simp
theorem read_cut2 (l : List UInt8) (a n : Int) (ha : 0 ≤ a) (hn : 0 ≤ n) : (l.drop (min a (l.length : Int)).toNat).take (min n ((l.length - (min a (l.length : Int)).toNat : Nat) : Int)).toNat = (l.drop a.toNat).take n.toNat := by
  by_cases h : a ≤ l.length
  · have e : (min a (l.length : Int)).toNat = a.toNat := by omega
    rw [e, List.take_eq_take_iff, List.length_drop]
    omega
  · have e : (min a (l.length : Int)).toNat = l.length := by omega
    rw [e, List.drop_of_length_le (Nat.le_refl _), List.drop_of_length_le (by omega)]
    simp
section
variable {w : World} {b : Nat} {A : Ab} {h : Dk} {K : Value → World → Prop}
theorem new_ok (k : ∀ w' b h, IsDk w' b newA h → Fr (fun _ => False) w w' → (∀ i, Own b h i → w.heap.size ≤ i) → (∀ i, ¬ Rdb h i) → K (dkP b) w') : callM Tryd.prog 48 #[] K w := by
  apply sh_48_ok
  unfold sh_48
  repeat (any_goals (first
  | (with_reducible refine pureM_in ?_)
  | (with_reducible first|refine pureQ_in ?_|refine gdQ_conv (fun _ => ?_)|refine pickQT ?_|refine pickQF ?_|refine pickQ_pos (by first|assumption|omega) ?_|refine pickQ_neg (by first|assumption|omega) ?_|refine pickQn_pos (by first|assumption|omega) ?_|refine pickQn_neg (by first|assumption|omega) ?_) | ((with_reducible refine oQ_one ?_ ?_); exact ⟨_, rfl⟩) | (with_reducible first|refine And.intro (Eq.refl (α := World) _) ?_|refine forall_one ?_|refine oQ_nil ?_) | (with_reducible refine oQ_of ⟨_, rfl⟩ (fun W0 hW0 => by (refine oM_gen (fun Kv hK => ?_)); simp [go_sem]; (first | exact hK _ _ ⟨rfl, rfl⟩ | exact ⟨by omega, hK _ _ ⟨rfl, rfl⟩⟩)) ?_)
  | (with_reducible first|refine gdtT ?_|refine gdtF ?_|refine gdfF ?_|refine gdfT ?_|refine gdu ?_ _|refine gdt_pos (by first|assumption|omega) ?_|refine gdt_neg (by first|assumption|omega) ?_|refine gdt_split (fun hg => ?_) (fun hg => ?_)|refine gdf_pos (by first|assumption|omega) ?_|refine gdf_neg (by first|assumption|omega) ?_|refine gdf_split (fun hg => ?_) (fun hg => ?_)|refine gdtn_pos (by first|assumption|omega) ?_|refine gdtn_neg (by first|assumption|omega) ?_|refine gdtn_split (fun hg => ?_) (fun hg => ?_)|refine gdfn_pos (by first|assumption|omega) ?_|refine gdfn_neg (by first|assumption|omega) ?_|refine gdfn_split (fun hg => ?_) (fun hg => ?_)|refine gdtbn_pos (by assumption) ?_|refine gdtbn_neg (by assumption) ?_|refine gdfbn_pos (by assumption) ?_|refine gdfbn_neg (by assumption) ?_|refine gdtb_pos (by assumption) ?_|refine gdtb_neg (by assumption) ?_|refine gdtb_split (fun hg => ?_) (fun hg => ?_)|refine gdfb_pos (by assumption) ?_|refine gdfb_neg (by assumption) ?_|refine gdfb_split (fun hg => ?_) (fun hg => ?_)|refine pickT ?_|refine pickF ?_|refine pick_pos (by first|assumption|omega) ?_|refine pick_neg (by first|assumption|omega) ?_|refine pickn_pos (by first|assumption|omega) ?_|refine pickn_neg (by first|assumption|omega) ?_|refine pickbn_pos (by assumption) ?_|refine pickbn_neg (by assumption) ?_|refine pickb_pos (by assumption) ?_|refine pickb_neg (by assumption) ?_|refine condT ?_|refine condF ?_|refine cond_pos (by first|assumption|omega) ?_|refine cond_neg (by first|assumption|omega) ?_|refine condM_dec (fun hg => ?_) (fun hg => ?_)|refine condn_pos (by first|assumption|omega) ?_|refine condn_neg (by first|assumption|omega) ?_|refine condM_ndec (fun hg => ?_) (fun hg => ?_)|refine condbn_pos (by assumption) ?_|refine condbn_neg (by assumption) ?_|refine condbn_split (fun hg => ?_) (fun hg => ?_)|refine condb_pos (by assumption) ?_|refine condb_neg (by assumption) ?_|refine condM_b (fun hg => ?_) (fun hg => ?_))
  | ((with_reducible refine oM_gen (fun Kv hK => ?_)); simp [go_sem]; (try simp (disch := omega) only [wrapI64, wrapU8, wrapU32, wrapU64]); (first | refine hK _ _ ?_ | refine And.intro (by omega) (hK _ _ ?_)); clear hK; clear Kv)))
  have s1 : (w.alloc (.map #[] 0)).heap.size = w.heap.size + 1 := alloc_size _ _
  have s2 : ((w.alloc (.map #[] 0)).alloc (.map #[] 0)).heap.size = w.heap.size + 1 + 1 := by rw [alloc_size, alloc_size]
  have m1 : MapIs i64V (w.alloc (.map #[] 0)) w.heap.size [] := mapIs_new w
  have m2 : MapIs secV ((w.alloc (.map #[] 0)).alloc (.map #[] 0)) (w.heap.size + 1) [] := by
    have := mapIs_new (mk := secV) (w.alloc (.map #[] 0))
    rw [s1] at this
    exact this
  refine k _ (w.heap.size + 1 + 1) ⟨w.heap.size, w.heap.size + 1, .slice none 0 0, .slice none 0 0⟩ ⟨?_, ?_, ?_, ?_, ?_, ?_, newA_wf⟩ (((Fr.refl _ _).alloc _).alloc _ |>.alloc _) ?_ ?_
  · have := heap_alloc_new ((w.alloc (.map #[] 0)).alloc (.map #[] 0)) (.cells (dkCells newA ⟨w.heap.size, w.heap.size + 1, .slice none 0 0, .slice none 0 0⟩) 92 (0, 0))
    rw [s2] at this
    exact this
  · exact ⟨[], (m1.alloc _).alloc _, fun f => rfl⟩
  · exact ⟨[], m2.alloc _, fun p => by simp [newA, lookA_nil]⟩
  · exact World.ownsRow_nil _ _ _ _
  · exact World.ownsRow_nil _ _ _ _
  · simp
  · rintro i (rfl | rfl | rfl | hi)
    · omega
    · exact Nat.le_refl _
    · simp
    · cases hi
  · intro i hi; cases hi
theorem read_ok (d : IsDk w b A h) (f at_ size : Int) (k : K (.tuple #[bsV (readA A f at_ size).1, .int .i64 (readA A f at_ size).2]) w) : callM Tryd.prog 52 #[dkP b, .int .i64 f, .int .i64 at_, .int .i64 size] K w := by
  apply sh_52_ok
  unfold sh_52
  refine may_ok d f ?_
  have c0 := d.c 0
  simp only [dkCells] at c0
  have hl := d.look f
  unfold readA at k
  unfold dkP
  repeat (any_goals (first
  | (with_reducible refine pureM_in ?_)
  | (with_reducible first|refine pureQ_in ?_|refine gdQ_conv (fun _ => ?_)|refine pickQT ?_|refine pickQF ?_|refine pickQ_pos (by first|assumption|omega) ?_|refine pickQ_neg (by first|assumption|omega) ?_|refine pickQn_pos (by first|assumption|omega) ?_|refine pickQn_neg (by first|assumption|omega) ?_) | ((with_reducible refine oQ_one ?_ ?_); exact ⟨_, rfl⟩) | (with_reducible first|refine And.intro (Eq.refl (α := World) _) ?_|refine forall_one ?_|refine oQ_nil ?_) | (with_reducible refine oQ_of ⟨_, rfl⟩ (fun W0 hW0 => by (refine oM_gen (fun Kv hK => ?_)); simp [go_sem]; (first | exact hK _ _ ⟨rfl, rfl⟩ | exact ⟨by omega, hK _ _ ⟨rfl, rfl⟩⟩)) ?_)
  | (with_reducible first|refine gdtT ?_|refine gdtF ?_|refine gdfF ?_|refine gdfT ?_|refine gdu ?_ _|refine gdt_pos (by first|assumption|omega) ?_|refine gdt_neg (by first|assumption|omega) ?_|refine gdt_split (fun hg => ?_) (fun hg => ?_)|refine gdf_pos (by first|assumption|omega) ?_|refine gdf_neg (by first|assumption|omega) ?_|refine gdf_split (fun hg => ?_) (fun hg => ?_)|refine gdtn_pos (by first|assumption|omega) ?_|refine gdtn_neg (by first|assumption|omega) ?_|refine gdtn_split (fun hg => ?_) (fun hg => ?_)|refine gdfn_pos (by first|assumption|omega) ?_|refine gdfn_neg (by first|assumption|omega) ?_|refine gdfn_split (fun hg => ?_) (fun hg => ?_)|refine gdtbn_pos (by assumption) ?_|refine gdtbn_neg (by assumption) ?_|refine gdfbn_pos (by assumption) ?_|refine gdfbn_neg (by assumption) ?_|refine gdtb_pos (by assumption) ?_|refine gdtb_neg (by assumption) ?_|refine gdtb_split (fun hg => ?_) (fun hg => ?_)|refine gdfb_pos (by assumption) ?_|refine gdfb_neg (by assumption) ?_|refine gdfb_split (fun hg => ?_) (fun hg => ?_)|refine pickT ?_|refine pickF ?_|refine pick_pos (by first|assumption|omega) ?_|refine pick_neg (by first|assumption|omega) ?_|refine pickn_pos (by first|assumption|omega) ?_|refine pickn_neg (by first|assumption|omega) ?_|refine pickbn_pos (by assumption) ?_|refine pickbn_neg (by assumption) ?_|refine pickb_pos (by assumption) ?_|refine pickb_neg (by assumption) ?_|refine condT ?_|refine condF ?_|refine cond_pos (by first|assumption|omega) ?_|refine cond_neg (by first|assumption|omega) ?_|refine condM_dec (fun hg => ?_) (fun hg => ?_)|refine condn_pos (by first|assumption|omega) ?_|refine condn_neg (by first|assumption|omega) ?_|refine condM_ndec (fun hg => ?_) (fun hg => ?_)|refine condbn_pos (by assumption) ?_|refine condbn_neg (by assumption) ?_|refine condbn_split (fun hg => ?_) (fun hg => ?_)|refine condb_pos (by assumption) ?_|refine condb_neg (by assumption) ?_|refine condM_b (fun hg => ?_) (fun hg => ?_))
  | ((with_reducible refine oM_gen (fun Kv hK => ?_)); simp [go_sem, c0, hl, flV, bsV]; (try simp (disch := omega) only [wrapI64, wrapU8, wrapU32, wrapU64]); (first | refine hK _ _ ?_ | refine And.intro (by omega) (hK _ _ ?_)); clear hK; clear Kv)))
  · rename_i h0
    rw [if_neg (by omega), if_pos (.inl hg)] at k
    exact k
  · rename_i h0
    rw [if_neg (by omega), if_pos (.inr hg)] at k
    exact k
  · rename_i h0
    rw [if_neg (by omega), if_neg (by omega)] at k
    first | rw [read_cut _ _ _ (by omega) (by omega)] | rw [read_cut2 _ _ _ (by omega) (by omega)]
    exact k
  · rw [if_pos hg] at k
    exact k
end
end Go.Proofs
namespace Go.Proofs
open Go Go.Sh Go.RowKit DkSpec
set_option linter.unusedSimpArgs false
set_option maxRecDepth 10000
section
variable {w : World} {b : Nat} {A : Ab} {h : Dk} {K : Value → World → Prop}
theorem ba_nil (t : List UInt8) : ((⟨t.toArray⟩ : ByteArray) = ⟨#[]⟩) ↔ t = [] := by
  constructor
  · intro h
    have := congrArg (fun b => b.data.toList) h
    simpa using this
  · rintro rfl; rfl
theorem flat_one {α : Type} (f : α → Value) (l : List α) : flat (fun x => [f x]) l = l.map f := by
  induction l with
  | nil => rfl
  | cons x l ih => rw [flat_cons, ih]; rfl
theorem put_ok (s t : Bs) (a : Int) (h0 : 0 ≤ a) (ha : a + t.length ≤ 16777216) (hs : s.length ≤ 16777216) (k : ∀ w', Fr (fun _ => False) w w' → K (bsV (putB s a.toNat t)) w') : callM Tryd.prog 88 #[bsV s, .int .i64 a, bsV t] K w := by
  apply sh_88_ok
  unfold sh_88 bsV
  by_cases ht : t = []
  · subst ht
    repeat (any_goals (first
    | (with_reducible refine pureM_in ?_)
    | (with_reducible first|refine pureQ_in ?_|refine gdQ_conv (fun _ => ?_)|refine pickQT ?_|refine pickQF ?_|refine pickQ_pos (by first|assumption|omega) ?_|refine pickQ_neg (by first|assumption|omega) ?_|refine pickQn_pos (by first|assumption|omega) ?_|refine pickQn_neg (by first|assumption|omega) ?_) | ((with_reducible refine oQ_one ?_ ?_); exact ⟨_, rfl⟩) | (with_reducible first|refine And.intro (Eq.refl (α := World) _) ?_|refine forall_one ?_|refine oQ_nil ?_) | (with_reducible refine oQ_of ⟨_, rfl⟩ (fun W0 hW0 => by (refine oM_gen (fun Kv hK => ?_)); simp [go_sem]; (first | exact hK _ _ ⟨rfl, rfl⟩ | exact ⟨by omega, hK _ _ ⟨rfl, rfl⟩⟩)) ?_)
    | (with_reducible first|refine gdtT ?_|refine gdtF ?_|refine gdfF ?_|refine gdfT ?_|refine gdu ?_ _|refine gdt_pos (by first|assumption|omega) ?_|refine gdt_neg (by first|assumption|omega) ?_|refine gdt_split (fun hg => ?_) (fun hg => ?_)|refine gdf_pos (by first|assumption|omega) ?_|refine gdf_neg (by first|assumption|omega) ?_|refine gdf_split (fun hg => ?_) (fun hg => ?_)|refine gdtn_pos (by first|assumption|omega) ?_|refine gdtn_neg (by first|assumption|omega) ?_|refine gdtn_split (fun hg => ?_) (fun hg => ?_)|refine gdfn_pos (by first|assumption|omega) ?_|refine gdfn_neg (by first|assumption|omega) ?_|refine gdfn_split (fun hg => ?_) (fun hg => ?_)|refine gdtbn_pos (by assumption) ?_|refine gdtbn_neg (by assumption) ?_|refine gdfbn_pos (by assumption) ?_|refine gdfbn_neg (by assumption) ?_|refine gdtb_pos (by assumption) ?_|refine gdtb_neg (by assumption) ?_|refine gdtb_split (fun hg => ?_) (fun hg => ?_)|refine gdfb_pos (by assumption) ?_|refine gdfb_neg (by assumption) ?_|refine gdfb_split (fun hg => ?_) (fun hg => ?_)|refine pickT ?_|refine pickF ?_|refine pick_pos (by first|assumption|omega) ?_|refine pick_neg (by first|assumption|omega) ?_|refine pickn_pos (by first|assumption|omega) ?_|refine pickn_neg (by first|assumption|omega) ?_|refine pickbn_pos (by assumption) ?_|refine pickbn_neg (by assumption) ?_|refine pickb_pos (by assumption) ?_|refine pickb_neg (by assumption) ?_|refine condT ?_|refine condF ?_|refine cond_pos (by first|assumption|omega) ?_|refine cond_neg (by first|assumption|omega) ?_|refine condM_dec (fun hg => ?_) (fun hg => ?_)|refine condn_pos (by first|assumption|omega) ?_|refine condn_neg (by first|assumption|omega) ?_|refine condM_ndec (fun hg => ?_) (fun hg => ?_)|refine condbn_pos (by assumption) ?_|refine condbn_neg (by assumption) ?_|refine condbn_split (fun hg => ?_) (fun hg => ?_)|refine condb_pos (by assumption) ?_|refine condb_neg (by assumption) ?_|refine condM_b (fun hg => ?_) (fun hg => ?_))
    | ((with_reducible refine oM_gen (fun Kv hK => ?_)); simp [go_sem]; (try simp (disch := omega) only [wrapI64, wrapU8, wrapU32, wrapU64]); (first | refine hK _ _ ?_ | refine And.intro (by omega) (hK _ _ ?_)); clear hK; clear Kv)))
    exact k _ (Fr.refl _ _)
  · have hne : ¬ ((⟨t.toArray⟩ : ByteArray) = ⟨#[]⟩) := fun e => ht ((ba_nil t).1 e)
    obtain ⟨n, rfl⟩ := Int.eq_ofNat_of_zero_le h0
    have hmax : max (s.length : Int) ((n : Int) + t.length) = ((max s.length (n + t.length) : Nat) : Int) := by omega
    repeat (any_goals (first
    | (with_reducible refine pureM_in ?_)
    | (with_reducible first|refine pureQ_in ?_|refine gdQ_conv (fun _ => ?_)|refine pickQT ?_|refine pickQF ?_|refine pickQ_pos (by first|assumption|omega) ?_|refine pickQ_neg (by first|assumption|omega) ?_|refine pickQn_pos (by first|assumption|omega) ?_|refine pickQn_neg (by first|assumption|omega) ?_) | ((with_reducible refine oQ_one ?_ ?_); exact ⟨_, rfl⟩) | (with_reducible first|refine And.intro (Eq.refl (α := World) _) ?_|refine forall_one ?_|refine oQ_nil ?_) | (with_reducible refine oQ_of ⟨_, rfl⟩ (fun W0 hW0 => by (refine oM_gen (fun Kv hK => ?_)); simp [go_sem]; (first | exact hK _ _ ⟨rfl, rfl⟩ | exact ⟨by omega, hK _ _ ⟨rfl, rfl⟩⟩)) ?_)
    | (with_reducible first|refine gdtT ?_|refine gdtF ?_|refine gdfF ?_|refine gdfT ?_|refine gdu ?_ _|refine gdt_pos (by first|assumption|omega) ?_|refine gdt_neg (by first|assumption|omega) ?_|refine gdt_split (fun hg => ?_) (fun hg => ?_)|refine gdf_pos (by first|assumption|omega) ?_|refine gdf_neg (by first|assumption|omega) ?_|refine gdf_split (fun hg => ?_) (fun hg => ?_)|refine gdtn_pos (by first|assumption|omega) ?_|refine gdtn_neg (by first|assumption|omega) ?_|refine gdtn_split (fun hg => ?_) (fun hg => ?_)|refine gdfn_pos (by first|assumption|omega) ?_|refine gdfn_neg (by first|assumption|omega) ?_|refine gdfn_split (fun hg => ?_) (fun hg => ?_)|refine gdtbn_pos (by assumption) ?_|refine gdtbn_neg (by assumption) ?_|refine gdfbn_pos (by assumption) ?_|refine gdfbn_neg (by assumption) ?_|refine gdtb_pos (by assumption) ?_|refine gdtb_neg (by assumption) ?_|refine gdtb_split (fun hg => ?_) (fun hg => ?_)|refine gdfb_pos (by assumption) ?_|refine gdfb_neg (by assumption) ?_|refine gdfb_split (fun hg => ?_) (fun hg => ?_)|refine pickT ?_|refine pickF ?_|refine pick_pos (by first|assumption|omega) ?_|refine pick_neg (by first|assumption|omega) ?_|refine pickn_pos (by first|assumption|omega) ?_|refine pickn_neg (by first|assumption|omega) ?_|refine pickbn_pos (by assumption) ?_|refine pickbn_neg (by assumption) ?_|refine pickb_pos (by assumption) ?_|refine pickb_neg (by assumption) ?_|refine condT ?_|refine condF ?_|refine cond_pos (by first|assumption|omega) ?_|refine cond_neg (by first|assumption|omega) ?_|refine condM_dec (fun hg => ?_) (fun hg => ?_)|refine condn_pos (by first|assumption|omega) ?_|refine condn_neg (by first|assumption|omega) ?_|refine condM_ndec (fun hg => ?_) (fun hg => ?_)|refine condbn_pos (by assumption) ?_|refine condbn_neg (by assumption) ?_|refine condbn_split (fun hg => ?_) (fun hg => ?_)|refine condb_pos (by assumption) ?_|refine condb_neg (by assumption) ?_|refine condM_b (fun hg => ?_) (fun hg => ?_))
    | ((with_reducible refine oM_gen (fun Kv hK => ?_)); simp [go_sem, hmax]; (try simp (disch := omega) only [wrapI64, wrapU8, wrapU32, wrapU64]); (first | refine hK _ _ ?_ | refine And.intro (by omega) (hK _ _ ?_)); clear hK; clear Kv)))
    have hpos : 0 < t.length := List.length_pos_iff.2 ht
    refine makeBytes_at (e := 5) (i := (Tryd.prog.info? 5).getD default) (by kernel_rfl) (by kernel_rfl) (by kernel_rfl) (by kernel_rfl) (by kernel_rfl) _ (by omega) (fun hB => ?_)
    have g1 : Fr (fun _ => False) w (w.alloc (.cells (Lib.byteCells (List.replicate (max s.length (n + t.length)) 0)).toArray 5)) := (Fr.refl _ _).alloc _
    generalize (w.alloc (.cells (Lib.byteCells (List.replicate (max s.length (n + t.length)) 0)).toArray 5)) = w1 at *
    refine copyStr_at (e := 5) (by kernel_rfl) (by kernel_rfl) hB s (by omega) (by simp; omega) (fun w2 hB2 hg2 => ?_)
    have g2 := g1.by hg2 (fun i hi => by cases hi; exact .inr (Nat.le_refl _))
    refine sliceFrom_at (sz := 1) (by kernel_rfl) (fun w => by kernel_rfl) n (by omega) (by omega) ?_
    rw [Nat.zero_add, Nat.mul_one]
    refine copyStr_at (e := 5) (by kernel_rfl) (by kernel_rfl) hB2 t (by omega) (by simp; omega) (fun w3 hB3 hg3 => ?_)
    have g3 := g2.by hg3 (fun i hi => by cases hi; exact .inr (Nat.le_refl _))
    have e1 : (List.replicate (max s.length (n + t.length)) (0 : UInt8)).take 0 ++ s ++ (List.replicate (max s.length (n + t.length)) 0).drop (0 + s.length) = s ++ List.replicate (n + t.length - s.length) 0 := by
      rw [List.take_zero, List.nil_append, List.drop_replicate]
      congr 2
      omega
    have e2 := putB_length s n t
    rw [if_neg ht] at e2
    have e3 : (s ++ List.replicate (n + t.length - s.length) 0).take n ++ t ++ (s ++ List.replicate (n + t.length - s.length) 0).drop (n + t.length) = putB s n t := by
      unfold putB
      rw [if_neg ht]
    rw [e1, e3] at hB3
    refine toStr_at (e := 5) (by kernel_rfl) (by kernel_rfl) (by kernel_rfl) hB3 e2.symm ?_
    have := k w3 g3
    rw [Int.toNat_natCast] at this
    exact this
theorem put_ok' (s t : Bs) (a : Int) (h0 : 0 ≤ a) (ha : a + t.length ≤ 16777216) (hs : s.length ≤ 16777216) (k : ∀ w', Fr (fun _ => False) w w' → K (bsV (putB s a.toNat t)) w') : callM Tryd.prog 88 #[.string ⟨s.toArray⟩, .int .i64 a, .string ⟨t.toArray⟩] K w := put_ok s t a h0 ha hs k
end
end Go.Proofs
namespace Go.Proofs
open Go Go.Sh Go.RowKit DkSpec
set_option linter.unusedSimpArgs false
set_option maxRecDepth 10000
section
variable {w : World} {b : Nat} {A : Ab} {h : Dk} {K : Value → World → Prop}
theorem secC_len (p : Int × Int) : (secC p).length = 2 := rfl
theorem secC_one (p : Int × Int) : ∀ u ∈ secC p, u.oneCell' = true := by
  intro u hu
  simp [secC] at hu
  rcases hu with rfl | rfl <;> rfl
end
end Go.Proofs
