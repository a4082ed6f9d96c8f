/- Ref5: a part of the proof of the seat's statements: lemmas about the given translation and plain laws. No condition of its own. -/
--Q
import Derived.Test.YtilcjegkodkpiaaDoorRef4
set_option linter.all false
namespace Go.Proofs
open Go Go.Sh Go.RowKit Go.Lib LexSpec
set_option linter.unusedSimpArgs false
def scanC : Nat → List UInt8 → Nat → Bool → Except (Nat × Nat) (List Tok)
  | 0, _, _, _ => .ok []
  | f + 1, l, at_, com =>
    match l.drop (gapL l com) with
    | [] => .ok []
    | r => match next r with
      | .error e => .error (at_ + gapL l com, e)
      | .ok (t, n) => match scanF f (r.drop n) (at_ + gapL l com + n) with
        | .error x => .error x
        | .ok ts => .ok ({ t with pos := at_ + gapL l com } :: ts)
theorem scanC_false (f : Nat) (l : List UInt8) (a : Nat) : scanC f l a false = scanF f l a := by
  cases f with
  | zero => rfl
  | succ f => rw [scanC, scanF]; rfl
theorem scanC_step (f : Nat) (c : UInt8) (r : List UInt8) (a : Nat) (com com' : Bool) (h : gapL (c :: r) com = gapL r com' + 1) : scanC (f + 1) (c :: r) a com = scanC (f + 1) r (a + 1) com' := by
  rw [scanC, scanC, h, List.drop_succ_cons, show a + (gapL r com' + 1) = a + 1 + gapL r com' from by omega]
theorem scanC_same (f : Nat) (l : List UInt8) (a : Nat) (com com' : Bool) (h : gapL l com = gapL l com') : scanC f l a com = scanC f l a com' := by
  cases f with
  | zero => rfl
  | succ f => rw [scanC, scanC, h]
theorem scanC_tok (f : Nat) (c : UInt8) (r : List UInt8) (a : Nat) (h : gapL (c :: r) false = 0) : scanC (f + 1) (c :: r) a false = match next (c :: r) with
    | .error e => .error (a, e)
    | .ok (t, n) => match scanC f ((c :: r).drop n) (a + n) false with
      | .error x => .error x
      | .ok ts => .ok ({ t with pos := a } :: ts) := by
  rw [scanC, h, List.drop_zero]
  simp only [scanC_false, Nat.add_zero]
theorem scanC_nil (f : Nat) (a : Nat) (com : Bool) : scanC (f + 1) [] a com = .ok [] := by rw [scanC]; simp
def addR (ts : List Tok) (x : Except (Nat × Nat) (List Tok)) : Except (Nat × Nat) (List Tok) := match x with
  | .ok r => .ok (ts ++ r)
  | .error e => .error e
set_option maxHeartbeats 3200000 in
theorem rScan_ok (s : ByteArray) (hs : s.size < 2^40) {K : Value → World → Prop} {w : World}
   (h : ∀ w' v, Below w.heap.size w w' → (match scan s.data.toList with
      | .ok ts => ∃ row, v = .tuple #[row, .int .i64 0, .int .i64 0] ∧ w'.ownsRow w.heap.size 32 4 row ts.length (toksC ts)
      | .error (p, e) => v = .tuple #[.slice none 0 0, .int .i64 p, .int .i64 e]) → K v w') : callM Tryd.prog 13 #[.string s] K w := by
  apply sh_13_ok
  unfold sh_13
  by_cases hbig : 4000 < s.size
  · have e : scan s.data.toList = .error (0, 6) := by rw [scan, size_len, if_pos hbig]
    repeat (any_goals (first
    | (with_reducible refine pureM_in ?_)
    | (with_reducible refine pureQ_in ?_) | (with_reducible refine gdQ_conv (fun _ => ?_)) | (with_reducible refine pickQT ?_) | (with_reducible refine pickQF ?_) | (with_reducible refine pickQ_pos (by first | assumption | omega) ?_) | (with_reducible refine pickQ_neg (by first | assumption | omega) ?_) | (with_reducible refine pickQn_pos (by first | assumption | omega) ?_) | (with_reducible refine pickQn_neg (by first | assumption | omega) ?_) | ((with_reducible refine oQ_one ?_ ?_); exact ⟨_, rfl⟩) | (with_reducible refine And.intro (Eq.refl (α := World) _) ?_) | (with_reducible refine forall_one ?_)
    | (with_reducible refine gdtT ?_) | (with_reducible refine gdtF ?_) | (with_reducible refine gdfF ?_) | (with_reducible refine gdfT ?_) | (with_reducible refine gdu ?_ _)
    | (with_reducible refine gdt_pos (by first | assumption | omega) ?_) | (with_reducible refine gdt_neg (by first | assumption | omega) ?_) | (with_reducible refine gdt_split (fun hg => ?_) (fun hg => ?_))
    | (with_reducible refine gdf_pos (by first | assumption | omega) ?_) | (with_reducible refine gdf_neg (by first | assumption | omega) ?_) | (with_reducible refine gdf_split (fun hg => ?_) (fun hg => ?_))
    | (with_reducible refine gdtn_pos (by first | assumption | omega) ?_) | (with_reducible refine gdtn_neg (by first | assumption | omega) ?_) | (with_reducible refine gdtn_split (fun hg => ?_) (fun hg => ?_))
    | (with_reducible refine gdfn_pos (by first | assumption | omega) ?_) | (with_reducible refine gdfn_neg (by first | assumption | omega) ?_) | (with_reducible refine gdfn_split (fun hg => ?_) (fun hg => ?_))
    | (with_reducible refine gdtbn_pos (by assumption) ?_) | (with_reducible refine gdtbn_neg (by assumption) ?_) | (with_reducible refine gdfbn_pos (by assumption) ?_) | (with_reducible refine gdfbn_neg (by assumption) ?_)
    | (with_reducible refine gdtb_pos (by assumption) ?_) | (with_reducible refine gdtb_neg (by assumption) ?_) | (with_reducible refine gdtb_split (fun hg => ?_) (fun hg => ?_))
    | (with_reducible refine gdfb_pos (by assumption) ?_) | (with_reducible refine gdfb_neg (by assumption) ?_) | (with_reducible refine gdfb_split (fun hg => ?_) (fun hg => ?_))
    | (with_reducible refine pickT ?_) | (with_reducible refine pickF ?_)
    | (with_reducible refine pick_pos (by first | assumption | omega) ?_) | (with_reducible refine pick_neg (by first | assumption | omega) ?_)
    | (with_reducible refine pickn_pos (by first | assumption | omega) ?_) | (with_reducible refine pickn_neg (by first | assumption | omega) ?_)
    | (with_reducible refine pickbn_pos (by assumption) ?_) | (with_reducible refine pickbn_neg (by assumption) ?_)
    | (with_reducible refine pickb_pos (by assumption) ?_) | (with_reducible refine pickb_neg (by assumption) ?_)
    | (with_reducible refine condT ?_) | (with_reducible refine condF ?_)
    | (with_reducible refine cond_pos (by first | assumption | omega) ?_) | (with_reducible refine cond_neg (by first | assumption | omega) ?_) | (with_reducible refine condM_dec (fun hg => ?_) (fun hg => ?_))
    | (with_reducible refine condn_pos (by first | assumption | omega) ?_) | (with_reducible refine condn_neg (by first | assumption | omega) ?_) | (with_reducible refine condM_ndec (fun hg => ?_) (fun hg => ?_))
    | (with_reducible refine condbn_pos (by assumption) ?_) | (with_reducible refine condbn_neg (by assumption) ?_) | (with_reducible refine condbn_split (fun hg => ?_) (fun hg => ?_))
    | (with_reducible refine condb_pos (by assumption) ?_) | (with_reducible refine condb_neg (by assumption) ?_) | (with_reducible refine condM_b (fun hg => ?_) (fun hg => ?_))
    | ((with_reducible refine oM_gen (fun Kv hK => ?_)); simp [go_sem]; (try simp (disch := omega) only [wrapI64, wrapU8, wrapU32, wrapU64]); (first | refine hK _ _ ?_ | refine And.intro (by omega) (hK _ _ ?_)); clear hK; clear Kv)))
    refine h w _ (Below.refl _ _) ?_
    rw [e]
    rfl
  · have e : scan s.data.toList = addR [] (scanC (s.size + 1) s.data.toList 0 false) := by
      rw [scan, size_len, if_neg (by omega), scanC_false]
      unfold addR
      cases scanF (s.size + 1) s.data.toList 0 <;> rfl
    repeat (any_goals (first
    | (with_reducible refine pureM_in ?_)
    | (with_reducible refine pureQ_in ?_) | (with_reducible refine gdQ_conv (fun _ => ?_)) | (with_reducible refine pickQT ?_) | (with_reducible refine pickQF ?_) | (with_reducible refine pickQ_pos (by first | assumption | omega) ?_) | (with_reducible refine pickQ_neg (by first | assumption | omega) ?_) | (with_reducible refine pickQn_pos (by first | assumption | omega) ?_) | (with_reducible refine pickQn_neg (by first | assumption | omega) ?_) | ((with_reducible refine oQ_one ?_ ?_); exact ⟨_, rfl⟩) | (with_reducible refine And.intro (Eq.refl (α := World) _) ?_) | (with_reducible refine forall_one ?_)
    | (with_reducible refine gdtT ?_) | (with_reducible refine gdtF ?_) | (with_reducible refine gdfF ?_) | (with_reducible refine gdfT ?_) | (with_reducible refine gdu ?_ _)
    | (with_reducible refine gdt_pos (by first | assumption | omega) ?_) | (with_reducible refine gdt_neg (by first | assumption | omega) ?_) | (with_reducible refine gdt_split (fun hg => ?_) (fun hg => ?_))
    | (with_reducible refine gdf_pos (by first | assumption | omega) ?_) | (with_reducible refine gdf_neg (by first | assumption | omega) ?_) | (with_reducible refine gdf_split (fun hg => ?_) (fun hg => ?_))
    | (with_reducible refine gdtn_pos (by first | assumption | omega) ?_) | (with_reducible refine gdtn_neg (by first | assumption | omega) ?_) | (with_reducible refine gdtn_split (fun hg => ?_) (fun hg => ?_))
    | (with_reducible refine gdfn_pos (by first | assumption | omega) ?_) | (with_reducible refine gdfn_neg (by first | assumption | omega) ?_) | (with_reducible refine gdfn_split (fun hg => ?_) (fun hg => ?_))
    | (with_reducible refine gdtbn_pos (by assumption) ?_) | (with_reducible refine gdtbn_neg (by assumption) ?_) | (with_reducible refine gdfbn_pos (by assumption) ?_) | (with_reducible refine gdfbn_neg (by assumption) ?_)
    | (with_reducible refine gdtb_pos (by assumption) ?_) | (with_reducible refine gdtb_neg (by assumption) ?_) | (with_reducible refine gdtb_split (fun hg => ?_) (fun hg => ?_))
    | (with_reducible refine gdfb_pos (by assumption) ?_) | (with_reducible refine gdfb_neg (by assumption) ?_) | (with_reducible refine gdfb_split (fun hg => ?_) (fun hg => ?_))
    | (with_reducible refine pickT ?_) | (with_reducible refine pickF ?_)
    | (with_reducible refine pick_pos (by first | assumption | omega) ?_) | (with_reducible refine pick_neg (by first | assumption | omega) ?_)
    | (with_reducible refine pickn_pos (by first | assumption | omega) ?_) | (with_reducible refine pickn_neg (by first | assumption | omega) ?_)
    | (with_reducible refine pickbn_pos (by assumption) ?_) | (with_reducible refine pickbn_neg (by assumption) ?_)
    | (with_reducible refine pickb_pos (by assumption) ?_) | (with_reducible refine pickb_neg (by assumption) ?_)
    | (with_reducible refine condT ?_) | (with_reducible refine condF ?_)
    | (with_reducible refine cond_pos (by first | assumption | omega) ?_) | (with_reducible refine cond_neg (by first | assumption | omega) ?_) | (with_reducible refine condM_dec (fun hg => ?_) (fun hg => ?_))
    | (with_reducible refine condn_pos (by first | assumption | omega) ?_) | (with_reducible refine condn_neg (by first | assumption | omega) ?_) | (with_reducible refine condM_ndec (fun hg => ?_) (fun hg => ?_))
    | (with_reducible refine condbn_pos (by assumption) ?_) | (with_reducible refine condbn_neg (by assumption) ?_) | (with_reducible refine condbn_split (fun hg => ?_) (fun hg => ?_))
    | (with_reducible refine condb_pos (by assumption) ?_) | (with_reducible refine condb_neg (by assumption) ?_) | (with_reducible refine condM_b (fun hg => ?_) (fun hg => ?_))
    | ((with_reducible refine oM_gen (fun Kv hK => ?_)); simp [go_sem]; (try simp (disch := omega) only [wrapI64, wrapU8, wrapU32, wrapU64]); (first | refine hK _ _ ?_ | refine And.intro (by omega) (hK _ _ ?_)); clear hK; clear Kv)))
    refine ⟨fun l w' => ∃ (x1 x2 row : Value) (com : Bool) (a f : Nat) (ts : List Tok), l = [.bool com, .int .i64 a, x1, x2, .slice none 0 0, .int .i64 0, .int .i64 0, row] ∧ a ≤ s.size ∧ s.size - a < f ∧ ts.length ≤ a ∧ Below w.heap.size w w' ∧ w'.ownsRow w.heap.size 32 4 row ts.length (toksC ts) ∧
      scan s.data.toList = addR ts (scanC f (s.data.toList.drop a) a com), fun l _ => (match l with | [.bool com, .int _ n, _, _, _, _, _, _] => 2 * (s.size - n.toNat) + (if com then 0 else 1) | _ => 0), ⟨_, _, _, false, 0, s.size + 1, [], rfl, by omega, by omega, by simp, Below.refl _ _, World.ownsRow_nil _ _ _ _, by rw [e, List.drop_zero]⟩, ?_⟩
    rintro _ _ w1 ⟨x1, x2, row, com, a, f, ts, rfl, ha, hf, htl, hb1, hown, hsc⟩
    have hz1 := hb1.size
    simp only [List.getD_cons_zero, List.getD_cons_succ]
    obtain ⟨f, rfl⟩ : ∃ g, f = g + 1 := ⟨f - 1, by omega⟩
    by_cases has : a < s.size
    · have hdc := drop_cons s a has
      rw [hdc] at hsc
      obtain ⟨r, hr⟩ : ∃ r, r = s.data.toList.drop (a + 1) := ⟨_, rfl⟩
      rw [← hr] at hsc hdc
      have e10 : ((byteAt s a) == 10) = decide (((byteAt s a).toNat : Int) = 10) := by rw [u8_eq, decide_eq_decide]; show _ = 10 ↔ _; omega
      have e35 : ((byteAt s a) == 35) = decide (((byteAt s a).toNat : Int) = 35) := by rw [u8_eq, decide_eq_decide]; show _ = 35 ↔ _; omega
      have b10 : ((byteAt s a).toNat : Int) = 10 → isBlank (byteAt s a) = true := by intro hh; rw [isBlank_iff]; exact decide_eq_true (by omega)
      repeat (any_goals (first
      | (with_reducible refine pureM_in ?_)
      | (with_reducible refine pureQ_in ?_) | (with_reducible refine gdQ_conv (fun _ => ?_)) | (with_reducible refine pickQT ?_) | (with_reducible refine pickQF ?_) | (with_reducible refine pickQ_pos (by first | assumption | omega) ?_) | (with_reducible refine pickQ_neg (by first | assumption | omega) ?_) | (with_reducible refine pickQn_pos (by first | assumption | omega) ?_) | (with_reducible refine pickQn_neg (by first | assumption | omega) ?_) | ((with_reducible refine oQ_one ?_ ?_); exact ⟨_, rfl⟩) | (with_reducible refine And.intro (Eq.refl (α := World) _) ?_) | (with_reducible refine forall_one ?_)
      | (with_reducible refine gdtT ?_) | (with_reducible refine gdtF ?_) | (with_reducible refine gdfF ?_) | (with_reducible refine gdfT ?_) | (with_reducible refine gdu ?_ _)
      | (with_reducible refine gdt_pos (by first | assumption | omega) ?_) | (with_reducible refine gdt_neg (by first | assumption | omega) ?_) | (with_reducible refine gdt_split (fun hg => ?_) (fun hg => ?_))
      | (with_reducible refine gdf_pos (by first | assumption | omega) ?_) | (with_reducible refine gdf_neg (by first | assumption | omega) ?_) | (with_reducible refine gdf_split (fun hg => ?_) (fun hg => ?_))
      | (with_reducible refine gdtn_pos (by first | assumption | omega) ?_) | (with_reducible refine gdtn_neg (by first | assumption | omega) ?_) | (with_reducible refine gdtn_split (fun hg => ?_) (fun hg => ?_))
      | (with_reducible refine gdfn_pos (by first | assumption | omega) ?_) | (with_reducible refine gdfn_neg (by first | assumption | omega) ?_) | (with_reducible refine gdfn_split (fun hg => ?_) (fun hg => ?_))
      | (with_reducible refine gdtbn_pos (by assumption) ?_) | (with_reducible refine gdtbn_neg (by assumption) ?_) | (with_reducible refine gdfbn_pos (by assumption) ?_) | (with_reducible refine gdfbn_neg (by assumption) ?_)
      | (with_reducible refine gdtb_pos (by assumption) ?_) | (with_reducible refine gdtb_neg (by assumption) ?_) | (with_reducible refine gdtb_split (fun hg => ?_) (fun hg => ?_))
      | (with_reducible refine gdfb_pos (by assumption) ?_) | (with_reducible refine gdfb_neg (by assumption) ?_) | (with_reducible refine gdfb_split (fun hg => ?_) (fun hg => ?_))
      | (with_reducible refine pickT ?_) | (with_reducible refine pickF ?_)
      | (with_reducible refine pick_pos (by first | assumption | omega) ?_) | (with_reducible refine pick_neg (by first | assumption | omega) ?_)
      | (with_reducible refine pickn_pos (by first | assumption | omega) ?_) | (with_reducible refine pickn_neg (by first | assumption | omega) ?_)
      | (with_reducible refine pickbn_pos (by assumption) ?_) | (with_reducible refine pickbn_neg (by assumption) ?_)
      | (with_reducible refine pickb_pos (by assumption) ?_) | (with_reducible refine pickb_neg (by assumption) ?_)
      | (with_reducible refine condT ?_) | (with_reducible refine condF ?_)
      | (with_reducible refine cond_pos (by first | assumption | omega) ?_) | (with_reducible refine cond_neg (by first | assumption | omega) ?_) | (with_reducible refine condM_dec (fun hg => ?_) (fun hg => ?_))
      | (with_reducible refine condn_pos (by first | assumption | omega) ?_) | (with_reducible refine condn_neg (by first | assumption | omega) ?_) | (with_reducible refine condM_ndec (fun hg => ?_) (fun hg => ?_))
      | (with_reducible refine condbn_pos (by assumption) ?_) | (with_reducible refine condbn_neg (by assumption) ?_) | (with_reducible refine condbn_split (fun hg => ?_) (fun hg => ?_))
      | (with_reducible refine condb_pos (by assumption) ?_) | (with_reducible refine condb_neg (by assumption) ?_) | (with_reducible refine condM_b (fun hg => ?_) (fun hg => ?_))
      | ((with_reducible refine oM_gen (fun Kv hK => ?_)); simp [go_sem]; (try simp (disch := omega) only [wrapI64, wrapU8, wrapU32, wrapU64]); (first | refine hK _ _ ?_ | refine And.intro (by omega) (hK _ _ ?_)); clear hK; clear Kv)))
      refine ⟨fun l w' => w' = w1 ∧ ∃ com' : Bool, l = [.bool com'] ∧ (com' = true → com = true ∧ ¬ ((byteAt s a).toNat : Int) = 10) ∧ (com' = false → com = false ∨ ((byteAt s a).toNat : Int) = 10) ∧ scanC (f + 1) ((byteAt s a) :: r) a com = scanC (f + 1) ((byteAt s a) :: r) a com', ?_, ?_⟩
      · repeat (any_goals (first
        | (with_reducible refine pureM_in ?_)
        | (with_reducible refine pureQ_in ?_) | (with_reducible refine gdQ_conv (fun _ => ?_)) | (with_reducible refine pickQT ?_) | (with_reducible refine pickQF ?_) | (with_reducible refine pickQ_pos (by first | assumption | omega) ?_) | (with_reducible refine pickQ_neg (by first | assumption | omega) ?_) | (with_reducible refine pickQn_pos (by first | assumption | omega) ?_) | (with_reducible refine pickQn_neg (by first | assumption | omega) ?_) | ((with_reducible refine oQ_one ?_ ?_); exact ⟨_, rfl⟩) | (with_reducible refine And.intro (Eq.refl (α := World) _) ?_) | (with_reducible refine forall_one ?_)
        | (with_reducible refine gdtT ?_) | (with_reducible refine gdtF ?_) | (with_reducible refine gdfF ?_) | (with_reducible refine gdfT ?_) | (with_reducible refine gdu ?_ _)
        | (with_reducible refine gdt_pos (by first | assumption | omega) ?_) | (with_reducible refine gdt_neg (by first | assumption | omega) ?_) | (with_reducible refine gdt_split (fun hg => ?_) (fun hg => ?_))
        | (with_reducible refine gdf_pos (by first | assumption | omega) ?_) | (with_reducible refine gdf_neg (by first | assumption | omega) ?_) | (with_reducible refine gdf_split (fun hg => ?_) (fun hg => ?_))
        | (with_reducible refine gdtn_pos (by first | assumption | omega) ?_) | (with_reducible refine gdtn_neg (by first | assumption | omega) ?_) | (with_reducible refine gdtn_split (fun hg => ?_) (fun hg => ?_))
        | (with_reducible refine gdfn_pos (by first | assumption | omega) ?_) | (with_reducible refine gdfn_neg (by first | assumption | omega) ?_) | (with_reducible refine gdfn_split (fun hg => ?_) (fun hg => ?_))
        | (with_reducible refine gdtbn_pos (by assumption) ?_) | (with_reducible refine gdtbn_neg (by assumption) ?_) | (with_reducible refine gdfbn_pos (by assumption) ?_) | (with_reducible refine gdfbn_neg (by assumption) ?_)
        | (with_reducible refine gdtb_pos (by assumption) ?_) | (with_reducible refine gdtb_neg (by assumption) ?_) | (with_reducible refine gdtb_split (fun hg => ?_) (fun hg => ?_))
        | (with_reducible refine gdfb_pos (by assumption) ?_) | (with_reducible refine gdfb_neg (by assumption) ?_) | (with_reducible refine gdfb_split (fun hg => ?_) (fun hg => ?_))
        | (with_reducible refine pickT ?_) | (with_reducible refine pickF ?_)
        | (with_reducible refine pick_pos (by first | assumption | omega) ?_) | (with_reducible refine pick_neg (by first | assumption | omega) ?_)
        | (with_reducible refine pickn_pos (by first | assumption | omega) ?_) | (with_reducible refine pickn_neg (by first | assumption | omega) ?_)
        | (with_reducible refine pickbn_pos (by assumption) ?_) | (with_reducible refine pickbn_neg (by assumption) ?_)
        | (with_reducible refine pickb_pos (by assumption) ?_) | (with_reducible refine pickb_neg (by assumption) ?_)
        | (with_reducible refine condT ?_) | (with_reducible refine condF ?_)
        | (with_reducible refine cond_pos (by first | assumption | omega) ?_) | (with_reducible refine cond_neg (by first | assumption | omega) ?_) | (with_reducible refine condM_dec (fun hg => ?_) (fun hg => ?_))
        | (with_reducible refine condn_pos (by first | assumption | omega) ?_) | (with_reducible refine condn_neg (by first | assumption | omega) ?_) | (with_reducible refine condM_ndec (fun hg => ?_) (fun hg => ?_))
        | (with_reducible refine condbn_pos (by assumption) ?_) | (with_reducible refine condbn_neg (by assumption) ?_) | (with_reducible refine condbn_split (fun hg => ?_) (fun hg => ?_))
        | (with_reducible refine condb_pos (by assumption) ?_) | (with_reducible refine condb_neg (by assumption) ?_) | (with_reducible refine condM_b (fun hg => ?_) (fun hg => ?_))
        | ((with_reducible refine oM_gen (fun Kv hK => ?_)); simp [go_sem]; (try simp (disch := omega) only [wrapI64, wrapU8, wrapU32, wrapU64]); (first | refine hK _ _ ?_ | refine And.intro (by omega) (hK _ _ ?_)); clear hK; clear Kv)))
        all_goals
          first
            | exact ⟨false, rfl, by simp, fun _ => .inr hg, by
                cases com
                · rfl
                · exact scanC_same _ _ _ _ _ (by rw [gapL, gapL, e10, decide_eq_true hg, if_pos rfl, b10 hg, if_pos rfl])⟩
            | exact ⟨com, rfl, fun hh => ⟨hh, hg⟩, fun hh => .inl hh, rfl⟩
      · rintro _ _ w2 ⟨e2, com', rfl, hc1, hc2, hcc⟩
        subst w2
        rw [hcc] at hsc
        simp only [List.getD_cons_zero]
        cases com'
        · obtain hcf := hc2 rfl
          cases hbl : isBlank (byteAt s a)
          · have hn10 : ¬ ((byteAt s a).toNat : Int) = 10 := by intro hh; rw [b10 hh] at hbl; cases hbl
            have hcom : com = false := by
              rcases hcf with hh | hh
              · exact hh
              · exact absurd hh hn10
            by_cases h35 : ((byteAt s a).toNat : Int) = 35
            · have hgs : gapL (byteAt s a :: r) false = gapL (byteAt s a :: r) true := by
                rw [gapL, gapL, hbl, if_neg (by decide), e35, decide_eq_true h35, if_pos rfl, e10, decide_eq_false hn10, if_neg (by decide)]
              rw [scanC_same _ _ _ _ _ hgs, ← hdc] at hsc
              repeat (any_goals (first
              | (with_reducible refine pureM_in ?_)
              | (with_reducible refine pureQ_in ?_) | (with_reducible refine gdQ_conv (fun _ => ?_)) | (with_reducible refine pickQT ?_) | (with_reducible refine pickQF ?_) | (with_reducible refine pickQ_pos (by first | assumption | omega) ?_) | (with_reducible refine pickQ_neg (by first | assumption | omega) ?_) | (with_reducible refine pickQn_pos (by first | assumption | omega) ?_) | (with_reducible refine pickQn_neg (by first | assumption | omega) ?_) | ((with_reducible refine oQ_one ?_ ?_); exact ⟨_, rfl⟩) | (with_reducible refine And.intro (Eq.refl (α := World) _) ?_) | (with_reducible refine forall_one ?_)
              | (with_reducible refine rBlank_ok _ ?_)
              | (with_reducible refine gdtT ?_) | (with_reducible refine gdtF ?_) | (with_reducible refine gdfF ?_) | (with_reducible refine gdfT ?_) | (with_reducible refine gdu ?_ _)
              | (with_reducible refine gdt_pos (by first | assumption | omega) ?_) | (with_reducible refine gdt_neg (by first | assumption | omega) ?_) | (with_reducible refine gdt_split (fun hg => ?_) (fun hg => ?_))
              | (with_reducible refine gdf_pos (by first | assumption | omega) ?_) | (with_reducible refine gdf_neg (by first | assumption | omega) ?_) | (with_reducible refine gdf_split (fun hg => ?_) (fun hg => ?_))
              | (with_reducible refine gdtn_pos (by first | assumption | omega) ?_) | (with_reducible refine gdtn_neg (by first | assumption | omega) ?_) | (with_reducible refine gdtn_split (fun hg => ?_) (fun hg => ?_))
              | (with_reducible refine gdfn_pos (by first | assumption | omega) ?_) | (with_reducible refine gdfn_neg (by first | assumption | omega) ?_) | (with_reducible refine gdfn_split (fun hg => ?_) (fun hg => ?_))
              | (with_reducible refine gdtbn_pos (by assumption) ?_) | (with_reducible refine gdtbn_neg (by assumption) ?_) | (with_reducible refine gdfbn_pos (by assumption) ?_) | (with_reducible refine gdfbn_neg (by assumption) ?_)
              | (with_reducible refine gdtb_pos (by assumption) ?_) | (with_reducible refine gdtb_neg (by assumption) ?_) | (with_reducible refine gdtb_split (fun hg => ?_) (fun hg => ?_))
              | (with_reducible refine gdfb_pos (by assumption) ?_) | (with_reducible refine gdfb_neg (by assumption) ?_) | (with_reducible refine gdfb_split (fun hg => ?_) (fun hg => ?_))
              | (with_reducible refine pickT ?_) | (with_reducible refine pickF ?_)
              | (with_reducible refine pick_pos (by first | assumption | omega) ?_) | (with_reducible refine pick_neg (by first | assumption | omega) ?_)
              | (with_reducible refine pickn_pos (by first | assumption | omega) ?_) | (with_reducible refine pickn_neg (by first | assumption | omega) ?_)
              | (with_reducible refine pickbn_pos (by assumption) ?_) | (with_reducible refine pickbn_neg (by assumption) ?_)
              | (with_reducible refine pickb_pos (by assumption) ?_) | (with_reducible refine pickb_neg (by assumption) ?_)
              | (with_reducible refine condT ?_) | (with_reducible refine condF ?_)
              | (with_reducible refine cond_pos (by first | assumption | omega) ?_) | (with_reducible refine cond_neg (by first | assumption | omega) ?_) | (with_reducible refine condM_dec (fun hg => ?_) (fun hg => ?_))
              | (with_reducible refine condn_pos (by first | assumption | omega) ?_) | (with_reducible refine condn_neg (by first | assumption | omega) ?_) | (with_reducible refine condM_ndec (fun hg => ?_) (fun hg => ?_))
              | (with_reducible refine condbn_pos (by assumption) ?_) | (with_reducible refine condbn_neg (by assumption) ?_) | (with_reducible refine condbn_split (fun hg => ?_) (fun hg => ?_))
              | (with_reducible refine condb_pos (by assumption) ?_) | (with_reducible refine condb_neg (by assumption) ?_) | (with_reducible refine condM_b (fun hg => ?_) (fun hg => ?_))
              | ((with_reducible refine oM_gen (fun Kv hK => ?_)); simp [go_sem]; (try simp (disch := omega) only [wrapI64, wrapU8, wrapU32, wrapU64]); (first | refine hK _ _ ?_ | refine And.intro (by omega) (hK _ _ ?_)); clear hK; clear Kv)))
              subst com
              exact ⟨⟨x1, x2, row, true, a, f + 1, ts, rfl, ha, hf, htl, hb1, hown, hsc⟩, by simp⟩
            · have hg0 : gapL (byteAt s a :: r) false = 0 := by
                rw [gapL, hbl, if_neg (by decide), e35, decide_eq_false h35, if_neg (by decide)]
              rw [scanC_tok _ _ _ _ hg0] at hsc
              repeat (any_goals (first
              | (with_reducible refine pureM_in ?_)
              | (with_reducible refine pureQ_in ?_) | (with_reducible refine gdQ_conv (fun _ => ?_)) | (with_reducible refine pickQT ?_) | (with_reducible refine pickQF ?_) | (with_reducible refine pickQ_pos (by first | assumption | omega) ?_) | (with_reducible refine pickQ_neg (by first | assumption | omega) ?_) | (with_reducible refine pickQn_pos (by first | assumption | omega) ?_) | (with_reducible refine pickQn_neg (by first | assumption | omega) ?_) | ((with_reducible refine oQ_one ?_ ?_); exact ⟨_, rfl⟩) | (with_reducible refine And.intro (Eq.refl (α := World) _) ?_) | (with_reducible refine forall_one ?_)
              | (with_reducible refine rBlank_ok _ ?_)
              | (with_reducible refine gdtT ?_) | (with_reducible refine gdtF ?_) | (with_reducible refine gdfF ?_) | (with_reducible refine gdfT ?_) | (with_reducible refine gdu ?_ _)
              | (with_reducible refine gdt_pos (by first | assumption | omega) ?_) | (with_reducible refine gdt_neg (by first | assumption | omega) ?_) | (with_reducible refine gdt_split (fun hg => ?_) (fun hg => ?_))
              | (with_reducible refine gdf_pos (by first | assumption | omega) ?_) | (with_reducible refine gdf_neg (by first | assumption | omega) ?_) | (with_reducible refine gdf_split (fun hg => ?_) (fun hg => ?_))
              | (with_reducible refine gdtn_pos (by first | assumption | omega) ?_) | (with_reducible refine gdtn_neg (by first | assumption | omega) ?_) | (with_reducible refine gdtn_split (fun hg => ?_) (fun hg => ?_))
              | (with_reducible refine gdfn_pos (by first | assumption | omega) ?_) | (with_reducible refine gdfn_neg (by first | assumption | omega) ?_) | (with_reducible refine gdfn_split (fun hg => ?_) (fun hg => ?_))
              | (with_reducible refine gdtbn_pos (by assumption) ?_) | (with_reducible refine gdtbn_neg (by assumption) ?_) | (with_reducible refine gdfbn_pos (by assumption) ?_) | (with_reducible refine gdfbn_neg (by assumption) ?_)
              | (with_reducible refine gdtb_pos (by assumption) ?_) | (with_reducible refine gdtb_neg (by assumption) ?_) | (with_reducible refine gdtb_split (fun hg => ?_) (fun hg => ?_))
              | (with_reducible refine gdfb_pos (by assumption) ?_) | (with_reducible refine gdfb_neg (by assumption) ?_) | (with_reducible refine gdfb_split (fun hg => ?_) (fun hg => ?_))
              | (with_reducible refine pickT ?_) | (with_reducible refine pickF ?_)
              | (with_reducible refine pick_pos (by first | assumption | omega) ?_) | (with_reducible refine pick_neg (by first | assumption | omega) ?_)
              | (with_reducible refine pickn_pos (by first | assumption | omega) ?_) | (with_reducible refine pickn_neg (by first | assumption | omega) ?_)
              | (with_reducible refine pickbn_pos (by assumption) ?_) | (with_reducible refine pickbn_neg (by assumption) ?_)
              | (with_reducible refine pickb_pos (by assumption) ?_) | (with_reducible refine pickb_neg (by assumption) ?_)
              | (with_reducible refine condT ?_) | (with_reducible refine condF ?_)
              | (with_reducible refine cond_pos (by first | assumption | omega) ?_) | (with_reducible refine cond_neg (by first | assumption | omega) ?_) | (with_reducible refine condM_dec (fun hg => ?_) (fun hg => ?_))
              | (with_reducible refine condn_pos (by first | assumption | omega) ?_) | (with_reducible refine condn_neg (by first | assumption | omega) ?_) | (with_reducible refine condM_ndec (fun hg => ?_) (fun hg => ?_))
              | (with_reducible refine condbn_pos (by assumption) ?_) | (with_reducible refine condbn_neg (by assumption) ?_) | (with_reducible refine condbn_split (fun hg => ?_) (fun hg => ?_))
              | (with_reducible refine condb_pos (by assumption) ?_) | (with_reducible refine condb_neg (by assumption) ?_) | (with_reducible refine condM_b (fun hg => ?_) (fun hg => ?_))
              | ((with_reducible refine oM_gen (fun Kv hK => ?_)); simp [go_sem]; (try simp (disch := omega) only [wrapI64, wrapU8, wrapU32, wrapU64]); (first | refine hK _ _ ?_ | refine And.intro (by omega) (hK _ _ ?_)); clear hK; clear Kv)))
              refine rToken_ok s a hs has ?_
              intro w2 hb2
              have hb12 : Below w.heap.size w w2 := hb1.trans (hb2.mono hz1)
              have hz2 := hb2.size
              have hown2 : w2.ownsRow w.heap.size 32 4 row ts.length (toksC ts) := ownsRow_below hown hb2
              have hal : (w2.alloc (.cells #[.int .i64 0, .string ⟨#[]⟩, .int .i64 0, .int .i64 0] 32)).heap[w2.heap.size]? = some (.cells #[.int .i64 0, .string ⟨#[]⟩, .int .i64 0, .int .i64 0] 32 (0, 0)) := heap_alloc_last _ _
              rw [hdc]
              cases hnx : next (byteAt s a :: r) with
              | error er =>
                have hne := next_err _ _ hnx
                have hst := store32 hal rfl 0 0 0 ⟨#[]⟩
                rw [hnx] at hsc
                simp only [rnextV, tokV]
                repeat (any_goals (first
                | (with_reducible refine pureM_in ?_)
                | (with_reducible refine pureQ_in ?_) | (with_reducible refine gdQ_conv (fun _ => ?_)) | (with_reducible refine pickQT ?_) | (with_reducible refine pickQF ?_) | (with_reducible refine pickQ_pos (by first | assumption | omega) ?_) | (with_reducible refine pickQ_neg (by first | assumption | omega) ?_) | (with_reducible refine pickQn_pos (by first | assumption | omega) ?_) | (with_reducible refine pickQn_neg (by first | assumption | omega) ?_) | ((with_reducible refine oQ_one ?_ ?_); exact ⟨_, rfl⟩) | (with_reducible refine And.intro (Eq.refl (α := World) _) ?_) | (with_reducible refine forall_one ?_)
                | (with_reducible refine gdtT ?_) | (with_reducible refine gdtF ?_) | (with_reducible refine gdfF ?_) | (with_reducible refine gdfT ?_) | (with_reducible refine gdu ?_ _)
                | (with_reducible refine gdt_pos (by first | assumption | omega) ?_) | (with_reducible refine gdt_neg (by first | assumption | omega) ?_) | (with_reducible refine gdt_split (fun hg => ?_) (fun hg => ?_))
                | (with_reducible refine gdf_pos (by first | assumption | omega) ?_) | (with_reducible refine gdf_neg (by first | assumption | omega) ?_) | (with_reducible refine gdf_split (fun hg => ?_) (fun hg => ?_))
                | (with_reducible refine gdtn_pos (by first | assumption | omega) ?_) | (with_reducible refine gdtn_neg (by first | assumption | omega) ?_) | (with_reducible refine gdtn_split (fun hg => ?_) (fun hg => ?_))
                | (with_reducible refine gdfn_pos (by first | assumption | omega) ?_) | (with_reducible refine gdfn_neg (by first | assumption | omega) ?_) | (with_reducible refine gdfn_split (fun hg => ?_) (fun hg => ?_))
                | (with_reducible refine gdtbn_pos (by assumption) ?_) | (with_reducible refine gdtbn_neg (by assumption) ?_) | (with_reducible refine gdfbn_pos (by assumption) ?_) | (with_reducible refine gdfbn_neg (by assumption) ?_)
                | (with_reducible refine gdtb_pos (by assumption) ?_) | (with_reducible refine gdtb_neg (by assumption) ?_) | (with_reducible refine gdtb_split (fun hg => ?_) (fun hg => ?_))
                | (with_reducible refine gdfb_pos (by assumption) ?_) | (with_reducible refine gdfb_neg (by assumption) ?_) | (with_reducible refine gdfb_split (fun hg => ?_) (fun hg => ?_))
                | (with_reducible refine pickT ?_) | (with_reducible refine pickF ?_)
                | (with_reducible refine pick_pos (by first | assumption | omega) ?_) | (with_reducible refine pick_neg (by first | assumption | omega) ?_)
                | (with_reducible refine pickn_pos (by first | assumption | omega) ?_) | (with_reducible refine pickn_neg (by first | assumption | omega) ?_)
                | (with_reducible refine pickbn_pos (by assumption) ?_) | (with_reducible refine pickbn_neg (by assumption) ?_)
                | (with_reducible refine pickb_pos (by assumption) ?_) | (with_reducible refine pickb_neg (by assumption) ?_)
                | (with_reducible refine condT ?_) | (with_reducible refine condF ?_)
                | (with_reducible refine cond_pos (by first | assumption | omega) ?_) | (with_reducible refine cond_neg (by first | assumption | omega) ?_) | (with_reducible refine condM_dec (fun hg => ?_) (fun hg => ?_))
                | (with_reducible refine condn_pos (by first | assumption | omega) ?_) | (with_reducible refine condn_neg (by first | assumption | omega) ?_) | (with_reducible refine condM_ndec (fun hg => ?_) (fun hg => ?_))
                | (with_reducible refine condbn_pos (by assumption) ?_) | (with_reducible refine condbn_neg (by assumption) ?_) | (with_reducible refine condbn_split (fun hg => ?_) (fun hg => ?_))
                | (with_reducible refine condb_pos (by assumption) ?_) | (with_reducible refine condb_neg (by assumption) ?_) | (with_reducible refine condM_b (fun hg => ?_) (fun hg => ?_))
                | ((with_reducible refine oM_gen (fun Kv hK => ?_)); simp [go_sem, hst]; (try simp (disch := omega) only [wrapI64, wrapU8, wrapU32, wrapU64]); (first | refine hK _ _ ?_ | refine And.intro (by omega) (hK _ _ ?_)); clear hK; clear Kv)))
                refine h _ _ (hb12.alloc (by omega) _) ?_
                rw [hsc]
                rfl
              | ok x =>
                obtain ⟨t, n⟩ := x
                have hle := next_le _ _ _ hnx
                have hst := store32 hal rfl t.kind t.n a ⟨t.text.toArray⟩
                rw [hnx] at hsc
                simp only [rnextV, tokV]
                obtain ⟨hle1, hle2, hpos⟩ := hle
                have hrl : r.length = s.size - (a + 1) := by rw [hr, List.length_drop, size_len]
                rw [List.length_cons, hrl] at hle2
                have hld : (Instr.loadAt 32 (.pointer (some ⟨w2.heap.size, 0, none⟩))).run Tryd.prog (w2.alloc (.cells #[.int .i64 t.kind, .string ⟨t.text.toArray⟩, .int .i64 t.n, .int .i64 a] 32)) = .ok (.agg #[.int .i64 t.kind, .string ⟨t.text.toArray⟩, .int .i64 t.n, .int .i64 a]) (w2.alloc (.cells #[.int .i64 t.kind, .string ⟨t.text.toArray⟩, .int .i64 t.n, .int .i64 a] 32)) := by
                  have := heap_alloc_last w2 (.cells #[.int .i64 t.kind, .string ⟨t.text.toArray⟩, .int .i64 t.n, .int .i64 a] 32)
                  refine tokAt ?_ ?_ ?_ ?_ <;> (rw [cell_of_row _ _ _ _ _ _ this]; rfl)
                have hby : (ts.length + 1) * Tryd.t32.bytes ≤ 140737488355328 := by
                  have : Tryd.t32.bytes ≤ 64 := by decide
                  have := Nat.mul_le_mul_left (ts.length + 1) this
                  omega
                repeat (any_goals (first
                | (with_reducible refine pureM_in ?_)
                | (with_reducible refine pureQ_in ?_) | (with_reducible refine gdQ_conv (fun _ => ?_)) | (with_reducible refine pickQT ?_) | (with_reducible refine pickQF ?_) | (with_reducible refine pickQ_pos (by first | assumption | omega) ?_) | (with_reducible refine pickQ_neg (by first | assumption | omega) ?_) | (with_reducible refine pickQn_pos (by first | assumption | omega) ?_) | (with_reducible refine pickQn_neg (by first | assumption | omega) ?_) | ((with_reducible refine oQ_one ?_ ?_); exact ⟨_, rfl⟩) | (with_reducible refine And.intro (Eq.refl (α := World) _) ?_) | (with_reducible refine forall_one ?_)
                | (with_reducible refine gdtT ?_) | (with_reducible refine gdtF ?_) | (with_reducible refine gdfF ?_) | (with_reducible refine gdfT ?_) | (with_reducible refine gdu ?_ _)
                | (with_reducible refine gdt_pos (by first | assumption | omega) ?_) | (with_reducible refine gdt_neg (by first | assumption | omega) ?_) | (with_reducible refine gdt_split (fun hg => ?_) (fun hg => ?_))
                | (with_reducible refine gdf_pos (by first | assumption | omega) ?_) | (with_reducible refine gdf_neg (by first | assumption | omega) ?_) | (with_reducible refine gdf_split (fun hg => ?_) (fun hg => ?_))
                | (with_reducible refine gdtn_pos (by first | assumption | omega) ?_) | (with_reducible refine gdtn_neg (by first | assumption | omega) ?_) | (with_reducible refine gdtn_split (fun hg => ?_) (fun hg => ?_))
                | (with_reducible refine gdfn_pos (by first | assumption | omega) ?_) | (with_reducible refine gdfn_neg (by first | assumption | omega) ?_) | (with_reducible refine gdfn_split (fun hg => ?_) (fun hg => ?_))
                | (with_reducible refine gdtbn_pos (by assumption) ?_) | (with_reducible refine gdtbn_neg (by assumption) ?_) | (with_reducible refine gdfbn_pos (by assumption) ?_) | (with_reducible refine gdfbn_neg (by assumption) ?_)
                | (with_reducible refine gdtb_pos (by assumption) ?_) | (with_reducible refine gdtb_neg (by assumption) ?_) | (with_reducible refine gdtb_split (fun hg => ?_) (fun hg => ?_))
                | (with_reducible refine gdfb_pos (by assumption) ?_) | (with_reducible refine gdfb_neg (by assumption) ?_) | (with_reducible refine gdfb_split (fun hg => ?_) (fun hg => ?_))
                | (with_reducible refine pickT ?_) | (with_reducible refine pickF ?_)
                | (with_reducible refine pick_pos (by first | assumption | omega) ?_) | (with_reducible refine pick_neg (by first | assumption | omega) ?_)
                | (with_reducible refine pickn_pos (by first | assumption | omega) ?_) | (with_reducible refine pickn_neg (by first | assumption | omega) ?_)
                | (with_reducible refine pickbn_pos (by assumption) ?_) | (with_reducible refine pickbn_neg (by assumption) ?_)
                | (with_reducible refine pickb_pos (by assumption) ?_) | (with_reducible refine pickb_neg (by assumption) ?_)
                | (with_reducible refine condT ?_) | (with_reducible refine condF ?_)
                | (with_reducible refine cond_pos (by first | assumption | omega) ?_) | (with_reducible refine cond_neg (by first | assumption | omega) ?_) | (with_reducible refine condM_dec (fun hg => ?_) (fun hg => ?_))
                | (with_reducible refine condn_pos (by first | assumption | omega) ?_) | (with_reducible refine condn_neg (by first | assumption | omega) ?_) | (with_reducible refine condM_ndec (fun hg => ?_) (fun hg => ?_))
                | (with_reducible refine condbn_pos (by assumption) ?_) | (with_reducible refine condbn_neg (by assumption) ?_) | (with_reducible refine condbn_split (fun hg => ?_) (fun hg => ?_))
                | (with_reducible refine condb_pos (by assumption) ?_) | (with_reducible refine condb_neg (by assumption) ?_) | (with_reducible refine condM_b (fun hg => ?_) (fun hg => ?_))
                | ((with_reducible refine oM_gen (fun Kv hK => ?_)); simp [go_sem, hst, hld]; (try simp (disch := omega) only [wrapI64, wrapU8, wrapU32, wrapU64]); (first | refine hK _ _ ?_ | refine And.intro (by omega) (hK _ _ ?_)); clear hK; clear Kv)))
                have hba2 : Below w.heap.size w (w2.alloc (.cells #[.int .i64 t.kind, .string ⟨t.text.toArray⟩, .int .i64 t.n, .int .i64 a] 32)) := hb12.alloc (by omega) _
                refine oM_append_new' (base := w.heap.size) (n := ts.length) (xs := toksC ts) (i := Tryd.t32) (z := .agg #[.int .i64 0, .string ⟨#[]⟩, .int .i64 0, .int .i64 0]) (cs := #[.int .i64 t.kind, .string ⟨t.text.toArray⟩, .int .i64 t.n, .int .i64 a]) (by simp) Tryd.underlying23 (by kernel_rfl) (by kernel_rfl) rfl rfl (by simp) (by simp [Value.oneCell']) (hown2.alloc _) (by simp; omega) (by unfold maxLen; omega) hby ?_
                intro v' w3 ho hgr
                have hb3 : Below w.heap.size w w3 := hba2.trans (below_of_grown hgr (by simp; omega) (fun k hk => ownsRow_base hown k hk))
                have hsc2 : scan s.data.toList = addR (ts ++ [{ t with pos := a }]) (scanC f (s.data.toList.drop (a + n)) (a + n) false) := by
                  rw [hsc, ← hdc]
                  simp only [List.drop_drop]
                  cases scanC f (s.data.toList.drop (a + n)) (a + n) false <;> simp [addR]
                repeat (any_goals (first
                | (with_reducible refine pureM_in ?_)
                | (with_reducible refine pureQ_in ?_) | (with_reducible refine gdQ_conv (fun _ => ?_)) | (with_reducible refine pickQT ?_) | (with_reducible refine pickQF ?_) | (with_reducible refine pickQ_pos (by first | assumption | omega) ?_) | (with_reducible refine pickQ_neg (by first | assumption | omega) ?_) | (with_reducible refine pickQn_pos (by first | assumption | omega) ?_) | (with_reducible refine pickQn_neg (by first | assumption | omega) ?_) | ((with_reducible refine oQ_one ?_ ?_); exact ⟨_, rfl⟩) | (with_reducible refine And.intro (Eq.refl (α := World) _) ?_) | (with_reducible refine forall_one ?_)
                | (with_reducible refine gdtT ?_) | (with_reducible refine gdtF ?_) | (with_reducible refine gdfF ?_) | (with_reducible refine gdfT ?_) | (with_reducible refine gdu ?_ _)
                | (with_reducible refine gdt_pos (by first | assumption | omega) ?_) | (with_reducible refine gdt_neg (by first | assumption | omega) ?_) | (with_reducible refine gdt_split (fun hg => ?_) (fun hg => ?_))
                | (with_reducible refine gdf_pos (by first | assumption | omega) ?_) | (with_reducible refine gdf_neg (by first | assumption | omega) ?_) | (with_reducible refine gdf_split (fun hg => ?_) (fun hg => ?_))
                | (with_reducible refine gdtn_pos (by first | assumption | omega) ?_) | (with_reducible refine gdtn_neg (by first | assumption | omega) ?_) | (with_reducible refine gdtn_split (fun hg => ?_) (fun hg => ?_))
                | (with_reducible refine gdfn_pos (by first | assumption | omega) ?_) | (with_reducible refine gdfn_neg (by first | assumption | omega) ?_) | (with_reducible refine gdfn_split (fun hg => ?_) (fun hg => ?_))
                | (with_reducible refine gdtbn_pos (by assumption) ?_) | (with_reducible refine gdtbn_neg (by assumption) ?_) | (with_reducible refine gdfbn_pos (by assumption) ?_) | (with_reducible refine gdfbn_neg (by assumption) ?_)
                | (with_reducible refine gdtb_pos (by assumption) ?_) | (with_reducible refine gdtb_neg (by assumption) ?_) | (with_reducible refine gdtb_split (fun hg => ?_) (fun hg => ?_))
                | (with_reducible refine gdfb_pos (by assumption) ?_) | (with_reducible refine gdfb_neg (by assumption) ?_) | (with_reducible refine gdfb_split (fun hg => ?_) (fun hg => ?_))
                | (with_reducible refine pickT ?_) | (with_reducible refine pickF ?_)
                | (with_reducible refine pick_pos (by first | assumption | omega) ?_) | (with_reducible refine pick_neg (by first | assumption | omega) ?_)
                | (with_reducible refine pickn_pos (by first | assumption | omega) ?_) | (with_reducible refine pickn_neg (by first | assumption | omega) ?_)
                | (with_reducible refine pickbn_pos (by assumption) ?_) | (with_reducible refine pickbn_neg (by assumption) ?_)
                | (with_reducible refine pickb_pos (by assumption) ?_) | (with_reducible refine pickb_neg (by assumption) ?_)
                | (with_reducible refine condT ?_) | (with_reducible refine condF ?_)
                | (with_reducible refine cond_pos (by first | assumption | omega) ?_) | (with_reducible refine cond_neg (by first | assumption | omega) ?_) | (with_reducible refine condM_dec (fun hg => ?_) (fun hg => ?_))
                | (with_reducible refine condn_pos (by first | assumption | omega) ?_) | (with_reducible refine condn_neg (by first | assumption | omega) ?_) | (with_reducible refine condM_ndec (fun hg => ?_) (fun hg => ?_))
                | (with_reducible refine condbn_pos (by assumption) ?_) | (with_reducible refine condbn_neg (by assumption) ?_) | (with_reducible refine condbn_split (fun hg => ?_) (fun hg => ?_))
                | (with_reducible refine condb_pos (by assumption) ?_) | (with_reducible refine condb_neg (by assumption) ?_) | (with_reducible refine condM_b (fun hg => ?_) (fun hg => ?_))
                | ((with_reducible refine oM_gen (fun Kv hK => ?_)); simp [go_sem]; (try simp (disch := omega) only [wrapI64, wrapU8, wrapU32, wrapU64]); (first | refine hK _ _ ?_ | refine And.intro (by omega) (hK _ _ ?_)); clear hK; clear Kv)))
                refine ⟨⟨_, _, v', false, a + n, f, ts ++ [{ t with pos := a }], rfl, by omega, by omega, by simp; omega, hb3, ?_, hsc2⟩, ?_⟩
                · simpa [toksC, tokC] using ho
                · rw [hcom]
                  simp
                  omega
          · have hgs : gapL (byteAt s a :: r) false = gapL r false + 1 := by rw [gapL, hbl, if_pos rfl]
            rw [scanC_step _ _ _ _ _ _ hgs, hr] at hsc
            repeat (any_goals (first
            | (with_reducible refine pureM_in ?_)
            | (with_reducible refine pureQ_in ?_) | (with_reducible refine gdQ_conv (fun _ => ?_)) | (with_reducible refine pickQT ?_) | (with_reducible refine pickQF ?_) | (with_reducible refine pickQ_pos (by first | assumption | omega) ?_) | (with_reducible refine pickQ_neg (by first | assumption | omega) ?_) | (with_reducible refine pickQn_pos (by first | assumption | omega) ?_) | (with_reducible refine pickQn_neg (by first | assumption | omega) ?_) | ((with_reducible refine oQ_one ?_ ?_); exact ⟨_, rfl⟩) | (with_reducible refine And.intro (Eq.refl (α := World) _) ?_) | (with_reducible refine forall_one ?_)
            | (with_reducible refine rBlank_ok _ ?_)
            | (with_reducible refine gdtT ?_) | (with_reducible refine gdtF ?_) | (with_reducible refine gdfF ?_) | (with_reducible refine gdfT ?_) | (with_reducible refine gdu ?_ _)
            | (with_reducible refine gdt_pos (by first | assumption | omega) ?_) | (with_reducible refine gdt_neg (by first | assumption | omega) ?_) | (with_reducible refine gdt_split (fun hg => ?_) (fun hg => ?_))
            | (with_reducible refine gdf_pos (by first | assumption | omega) ?_) | (with_reducible refine gdf_neg (by first | assumption | omega) ?_) | (with_reducible refine gdf_split (fun hg => ?_) (fun hg => ?_))
            | (with_reducible refine gdtn_pos (by first | assumption | omega) ?_) | (with_reducible refine gdtn_neg (by first | assumption | omega) ?_) | (with_reducible refine gdtn_split (fun hg => ?_) (fun hg => ?_))
            | (with_reducible refine gdfn_pos (by first | assumption | omega) ?_) | (with_reducible refine gdfn_neg (by first | assumption | omega) ?_) | (with_reducible refine gdfn_split (fun hg => ?_) (fun hg => ?_))
            | (with_reducible refine gdtbn_pos (by assumption) ?_) | (with_reducible refine gdtbn_neg (by assumption) ?_) | (with_reducible refine gdfbn_pos (by assumption) ?_) | (with_reducible refine gdfbn_neg (by assumption) ?_)
            | (with_reducible refine gdtb_pos (by assumption) ?_) | (with_reducible refine gdtb_neg (by assumption) ?_) | (with_reducible refine gdtb_split (fun hg => ?_) (fun hg => ?_))
            | (with_reducible refine gdfb_pos (by assumption) ?_) | (with_reducible refine gdfb_neg (by assumption) ?_) | (with_reducible refine gdfb_split (fun hg => ?_) (fun hg => ?_))
            | (with_reducible refine pickT ?_) | (with_reducible refine pickF ?_)
            | (with_reducible refine pick_pos (by first | assumption | omega) ?_) | (with_reducible refine pick_neg (by first | assumption | omega) ?_)
            | (with_reducible refine pickn_pos (by first | assumption | omega) ?_) | (with_reducible refine pickn_neg (by first | assumption | omega) ?_)
            | (with_reducible refine pickbn_pos (by assumption) ?_) | (with_reducible refine pickbn_neg (by assumption) ?_)
            | (with_reducible refine pickb_pos (by assumption) ?_) | (with_reducible refine pickb_neg (by assumption) ?_)
            | (with_reducible refine condT ?_) | (with_reducible refine condF ?_)
            | (with_reducible refine cond_pos (by first | assumption | omega) ?_) | (with_reducible refine cond_neg (by first | assumption | omega) ?_) | (with_reducible refine condM_dec (fun hg => ?_) (fun hg => ?_))
            | (with_reducible refine condn_pos (by first | assumption | omega) ?_) | (with_reducible refine condn_neg (by first | assumption | omega) ?_) | (with_reducible refine condM_ndec (fun hg => ?_) (fun hg => ?_))
            | (with_reducible refine condbn_pos (by assumption) ?_) | (with_reducible refine condbn_neg (by assumption) ?_) | (with_reducible refine condbn_split (fun hg => ?_) (fun hg => ?_))
            | (with_reducible refine condb_pos (by assumption) ?_) | (with_reducible refine condb_neg (by assumption) ?_) | (with_reducible refine condM_b (fun hg => ?_) (fun hg => ?_))
            | ((with_reducible refine oM_gen (fun Kv hK => ?_)); simp [go_sem]; (try simp (disch := omega) only [wrapI64, wrapU8, wrapU32, wrapU64]); (first | refine hK _ _ ?_ | refine And.intro (by omega) (hK _ _ ?_)); clear hK; clear Kv)))
            refine ⟨⟨x1, x2, row, false, a + 1, f + 1, ts, rfl, by omega, by omega, by omega, hb1, hown, hsc⟩, ?_⟩
            cases com <;> simp <;> omega
        · obtain ⟨hct, hn10⟩ := hc1 rfl
          have hgs : gapL (byteAt s a :: r) true = gapL r true + 1 := by rw [gapL, e10, decide_eq_false hn10, if_neg (by decide)]
          rw [scanC_step _ _ _ _ _ _ hgs, hr] at hsc
          repeat (any_goals (first
          | (with_reducible refine pureM_in ?_)
          | (with_reducible refine pureQ_in ?_) | (with_reducible refine gdQ_conv (fun _ => ?_)) | (with_reducible refine pickQT ?_) | (with_reducible refine pickQF ?_) | (with_reducible refine pickQ_pos (by first | assumption | omega) ?_) | (with_reducible refine pickQ_neg (by first | assumption | omega) ?_) | (with_reducible refine pickQn_pos (by first | assumption | omega) ?_) | (with_reducible refine pickQn_neg (by first | assumption | omega) ?_) | ((with_reducible refine oQ_one ?_ ?_); exact ⟨_, rfl⟩) | (with_reducible refine And.intro (Eq.refl (α := World) _) ?_) | (with_reducible refine forall_one ?_)
          | (with_reducible refine rBlank_ok _ ?_)
          | (with_reducible refine gdtT ?_) | (with_reducible refine gdtF ?_) | (with_reducible refine gdfF ?_) | (with_reducible refine gdfT ?_) | (with_reducible refine gdu ?_ _)
          | (with_reducible refine gdt_pos (by first | assumption | omega) ?_) | (with_reducible refine gdt_neg (by first | assumption | omega) ?_) | (with_reducible refine gdt_split (fun hg => ?_) (fun hg => ?_))
          | (with_reducible refine gdf_pos (by first | assumption | omega) ?_) | (with_reducible refine gdf_neg (by first | assumption | omega) ?_) | (with_reducible refine gdf_split (fun hg => ?_) (fun hg => ?_))
          | (with_reducible refine gdtn_pos (by first | assumption | omega) ?_) | (with_reducible refine gdtn_neg (by first | assumption | omega) ?_) | (with_reducible refine gdtn_split (fun hg => ?_) (fun hg => ?_))
          | (with_reducible refine gdfn_pos (by first | assumption | omega) ?_) | (with_reducible refine gdfn_neg (by first | assumption | omega) ?_) | (with_reducible refine gdfn_split (fun hg => ?_) (fun hg => ?_))
          | (with_reducible refine gdtbn_pos (by assumption) ?_) | (with_reducible refine gdtbn_neg (by assumption) ?_) | (with_reducible refine gdfbn_pos (by assumption) ?_) | (with_reducible refine gdfbn_neg (by assumption) ?_)
          | (with_reducible refine gdtb_pos (by assumption) ?_) | (with_reducible refine gdtb_neg (by assumption) ?_) | (with_reducible refine gdtb_split (fun hg => ?_) (fun hg => ?_))
          | (with_reducible refine gdfb_pos (by assumption) ?_) | (with_reducible refine gdfb_neg (by assumption) ?_) | (with_reducible refine gdfb_split (fun hg => ?_) (fun hg => ?_))
          | (with_reducible refine pickT ?_) | (with_reducible refine pickF ?_)
          | (with_reducible refine pick_pos (by first | assumption | omega) ?_) | (with_reducible refine pick_neg (by first | assumption | omega) ?_)
          | (with_reducible refine pickn_pos (by first | assumption | omega) ?_) | (with_reducible refine pickn_neg (by first | assumption | omega) ?_)
          | (with_reducible refine pickbn_pos (by assumption) ?_) | (with_reducible refine pickbn_neg (by assumption) ?_)
          | (with_reducible refine pickb_pos (by assumption) ?_) | (with_reducible refine pickb_neg (by assumption) ?_)
          | (with_reducible refine condT ?_) | (with_reducible refine condF ?_)
          | (with_reducible refine cond_pos (by first | assumption | omega) ?_) | (with_reducible refine cond_neg (by first | assumption | omega) ?_) | (with_reducible refine condM_dec (fun hg => ?_) (fun hg => ?_))
          | (with_reducible refine condn_pos (by first | assumption | omega) ?_) | (with_reducible refine condn_neg (by first | assumption | omega) ?_) | (with_reducible refine condM_ndec (fun hg => ?_) (fun hg => ?_))
          | (with_reducible refine condbn_pos (by assumption) ?_) | (with_reducible refine condbn_neg (by assumption) ?_) | (with_reducible refine condbn_split (fun hg => ?_) (fun hg => ?_))
          | (with_reducible refine condb_pos (by assumption) ?_) | (with_reducible refine condb_neg (by assumption) ?_) | (with_reducible refine condM_b (fun hg => ?_) (fun hg => ?_))
          | ((with_reducible refine oM_gen (fun Kv hK => ?_)); simp [go_sem]; (try simp (disch := omega) only [wrapI64, wrapU8, wrapU32, wrapU64]); (first | refine hK _ _ ?_ | refine And.intro (by omega) (hK _ _ ?_)); clear hK; clear Kv)))
          subst com
          refine ⟨⟨x1, x2, row, true, a + 1, f + 1, ts, rfl, by omega, by omega, by omega, hb1, hown, hsc⟩, ?_⟩
          simp
          omega
    · obtain rfl : a = s.size := by omega
      have hdn : s.data.toList.drop s.size = [] := by rw [List.drop_eq_nil_iff, size_len]; omega
      rw [hdn, scanC_nil] at hsc
      repeat (any_goals (first
      | (with_reducible refine pureM_in ?_)
      | (with_reducible refine pureQ_in ?_) | (with_reducible refine gdQ_conv (fun _ => ?_)) | (with_reducible refine pickQT ?_) | (with_reducible refine pickQF ?_) | (with_reducible refine pickQ_pos (by first | assumption | omega) ?_) | (with_reducible refine pickQ_neg (by first | assumption | omega) ?_) | (with_reducible refine pickQn_pos (by first | assumption | omega) ?_) | (with_reducible refine pickQn_neg (by first | assumption | omega) ?_) | ((with_reducible refine oQ_one ?_ ?_); exact ⟨_, rfl⟩) | (with_reducible refine And.intro (Eq.refl (α := World) _) ?_) | (with_reducible refine forall_one ?_)
      | (with_reducible refine gdtT ?_) | (with_reducible refine gdtF ?_) | (with_reducible refine gdfF ?_) | (with_reducible refine gdfT ?_) | (with_reducible refine gdu ?_ _)
      | (with_reducible refine gdt_pos (by first | assumption | omega) ?_) | (with_reducible refine gdt_neg (by first | assumption | omega) ?_) | (with_reducible refine gdt_split (fun hg => ?_) (fun hg => ?_))
      | (with_reducible refine gdf_pos (by first | assumption | omega) ?_) | (with_reducible refine gdf_neg (by first | assumption | omega) ?_) | (with_reducible refine gdf_split (fun hg => ?_) (fun hg => ?_))
      | (with_reducible refine gdtn_pos (by first | assumption | omega) ?_) | (with_reducible refine gdtn_neg (by first | assumption | omega) ?_) | (with_reducible refine gdtn_split (fun hg => ?_) (fun hg => ?_))
      | (with_reducible refine gdfn_pos (by first | assumption | omega) ?_) | (with_reducible refine gdfn_neg (by first | assumption | omega) ?_) | (with_reducible refine gdfn_split (fun hg => ?_) (fun hg => ?_))
      | (with_reducible refine gdtbn_pos (by assumption) ?_) | (with_reducible refine gdtbn_neg (by assumption) ?_) | (with_reducible refine gdfbn_pos (by assumption) ?_) | (with_reducible refine gdfbn_neg (by assumption) ?_)
      | (with_reducible refine gdtb_pos (by assumption) ?_) | (with_reducible refine gdtb_neg (by assumption) ?_) | (with_reducible refine gdtb_split (fun hg => ?_) (fun hg => ?_))
      | (with_reducible refine gdfb_pos (by assumption) ?_) | (with_reducible refine gdfb_neg (by assumption) ?_) | (with_reducible refine gdfb_split (fun hg => ?_) (fun hg => ?_))
      | (with_reducible refine pickT ?_) | (with_reducible refine pickF ?_)
      | (with_reducible refine pick_pos (by first | assumption | omega) ?_) | (with_reducible refine pick_neg (by first | assumption | omega) ?_)
      | (with_reducible refine pickn_pos (by first | assumption | omega) ?_) | (with_reducible refine pickn_neg (by first | assumption | omega) ?_)
      | (with_reducible refine pickbn_pos (by assumption) ?_) | (with_reducible refine pickbn_neg (by assumption) ?_)
      | (with_reducible refine pickb_pos (by assumption) ?_) | (with_reducible refine pickb_neg (by assumption) ?_)
      | (with_reducible refine condT ?_) | (with_reducible refine condF ?_)
      | (with_reducible refine cond_pos (by first | assumption | omega) ?_) | (with_reducible refine cond_neg (by first | assumption | omega) ?_) | (with_reducible refine condM_dec (fun hg => ?_) (fun hg => ?_))
      | (with_reducible refine condn_pos (by first | assumption | omega) ?_) | (with_reducible refine condn_neg (by first | assumption | omega) ?_) | (with_reducible refine condM_ndec (fun hg => ?_) (fun hg => ?_))
      | (with_reducible refine condbn_pos (by assumption) ?_) | (with_reducible refine condbn_neg (by assumption) ?_) | (with_reducible refine condbn_split (fun hg => ?_) (fun hg => ?_))
      | (with_reducible refine condb_pos (by assumption) ?_) | (with_reducible refine condb_neg (by assumption) ?_) | (with_reducible refine condM_b (fun hg => ?_) (fun hg => ?_))
      | ((with_reducible refine oM_gen (fun Kv hK => ?_)); simp [go_sem]; (try simp (disch := omega) only [wrapI64, wrapU8, wrapU32, wrapU64]); (first | refine hK _ _ ?_ | refine And.intro (by omega) (hK _ _ ?_)); clear hK; clear Kv)))
      refine h w1 _ hb1 ?_
      rw [hsc]
      simp only [addR, List.append_nil]
      exact ⟨row, rfl, hown⟩
end Go.Proofs
